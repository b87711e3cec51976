-- A text of the seat Ytgikmpgpccfiiaa, written by a program of this session (drive.py).
import Derived.Test.YtgikmpgpccfiiaaPSxpx0
import Derived.Test.YtgikmpgpccfiiaaPSxpx9
import Derived.Test.YtgikmpgpccfiiaaPSxpx11
import Derived.Test.YtgikmpgpccfiiaaGPSxpx12toPlainIn
import Derived.RangeFuncBox
import Derived.RangeFuncNested
import Derived.RangeFuncLeaves
import Derived.RangeFuncCalls
import Derived.Shelf.Abstract
import Derived.OwnWalkIn
import Derived.TacticsInMore
import Derived.LoopNIn
import Derived.LoopIn
import Derived.StillTailTactics
import Derived.Test.YtgikmpgpccfiiaaGPSxpx12toPlainIn
namespace Go.Proofs.Ytgikmpgpccfiiaa.PSxp
open Go.RowKit Go.Proofs.YtgikmpgpccfiiaaW.PrintWords Go.Proofs.YtgikmpgpccfiiaaW.PrintLast Go.Proofs.YtgikmpgpccfiiaaW.PrintMore
attribute [local go_sem] max2_int min2_int max_two min_two max_three min_three max_four min_four   -- for this text's walks alone
set_option linter.unusedVariables false
set_option linter.unusedSimpArgs false

-- BY HAND: alidade/lex.Words: function 14
-- IMPORT Derived.RangeFuncBox
-- IMPORT Derived.RangeFuncNested
-- IMPORT Derived.RangeFuncLeaves
-- IMPORT Derived.RangeFuncCalls
-- IMPORT Derived.Shelf.Abstract
-- IMPORT Derived.OwnWalkIn
-- IMPORT Derived.TacticsInMore
-- IMPORT Derived.LoopNIn
-- IMPORT Derived.LoopIn
-- IMPORT Derived.StillTailTactics
-- IMPORT Derived.Test.YtgikmpgpccfiiaaPlainIn
section
open Go.Shelf
attribute [local go_sem] Oper.semAt_some
/-- Where a piece of a text that begins here ends. -/
def lex_toL : Nat → ByteArray → Nat → Option Nat
 | 0, _, _ => none
 | k + 1, s, u => if u < s.size then (lex_what.f k (bt s (u : Int))).bind fun t => if t = 0 then some u else lex_toL k s (u + 1) else some u
/-- The pieces of a text from a place on. -/
def lex_eachL : Nat → ByteArray → Nat → Option (List S32)
 | 0, _, _ => none
 | k + 1, s, at_ => if at_ < s.size then
   (lex_toL k s at_).bind fun t0 => (lex_Kind.f k (s.extract at_ (max t0 (at_ + 1)))).bind fun kd =>
    (lex_gap.f k (s.extract (max t0 (at_ + 1)) s.size)).bind fun g =>
     if 0 ≤ g ∧ ((max t0 (at_ + 1) : Nat) : Int) + g ≤ (s.size : Int) then (lex_eachL k s (max t0 (at_ + 1) + g.toNat)).bind fun l => some ((⟨kd, (at_ : Int), ((max t0 (at_ + 1) : Nat) : Int), s.extract at_ (max t0 (at_ + 1))⟩ : S32) :: l) else none
  else some []
theorem lex_toL.mono : ∀ k s u, LeO (lex_toL k s u) (lex_toL (k + 1) s u)
 | 0, _, _ => fun r h => by simp [lex_toL] at h
 | k + 1, s, u => by
  unfold lex_toL
  refine LeO.ite (LeO.bind (lex_what.mono _ _) (fun _ => LeO.ite (LeO.refl _) (lex_toL.mono _ _ _))) (LeO.refl _)
theorem lex_eachL.mono : ∀ k s at_, LeO (lex_eachL k s at_) (lex_eachL (k + 1) s at_)
 | 0, _, _ => fun r h => by simp [lex_eachL] at h
 | k + 1, s, at_ => by
  unfold lex_eachL
  exact LeO.ite (LeO.bind (lex_toL.mono _ _ _) (fun _ => LeO.bind (lex_Kind.mono _ _) (fun _ => LeO.bind (lex_gap.mono _ _) (fun _ => LeO.ite (LeO.bind (lex_eachL.mono _ _ _) (fun _ => LeO.refl _)) (LeO.refl _))))) (LeO.refl _)
def encWord (x : S32) : Array Value := #[.agg #[.int .u8 x.f0, .int .i64 x.f1, .int .i64 x.f2, .string x.f3]]
/-- What a round keeps: what lay below n₀, and a text's variable. -/
structure KpT (n₀ B : Nat) (W W' : World) : Prop where
 below : Below n₀ W W'
 box : ∀ v, Boxed W B 9 v → Boxed W' B 9 v
set_option maxHeartbeats 1000000 in
theorem lex_each_in (F : Fence) (n : Nat) (hf : F.fn 44) (hro : F.round = none) (v0 : Value) (h0 : v0.oneCell' = true) (w : World) :
  CallsIn F n Try.prog 44 #[v0] w fun e w' => e = .returned (.func (.func 64) #[] #[.pointer (some ⟨w.heap.size, 0, none⟩)]) ∧ w' = w.alloc (.cells #[v0] 9) := by
 refine callsIn_of_wp Try.func44 rfl hf ?_ hro
 simp only [Try.ntmps44, List.size_toArray, List.length_cons, List.length_nil, Nat.reduceAdd, Nat.reduceSub, Array.replicate_succ, Array.replicate_zero, List.push_toArray, List.append_toArray, List.nil_append, List.cons_append]
 gi_wp2
 go_ret
 exact ⟨rfl, rfl⟩
set_option maxRecDepth 100000 in
set_option maxHeartbeats 8000000 in
theorem lex_each1_in (n : Nat) (hn : 1 ≤ n) (l B n₀ : Nat) (s : ByteArray) (hs : s.size ≤ 65536) (J Jx : List S32 → World → Prop) (hJ : ∀ p X Y, J p X → X.grownBy Y none → J p Y)
  (ps : List S32) (k : Nat) (g0 : Int) (hg : lex_gap.f k s = some g0) (hg0 : 0 ≤ g0) (hg1 : g0 ≤ (s.size : Int)) (he : lex_eachL k s g0.toNat = some ps)
  (hY : ∀ pre x W, J pre W → pre.length < ps.length → YieldAt Fence.wide (n - 1) Try.prog l (encWord x) W fun e W' =>
   (e = .returned (.bool true) ∧ J (pre ++ [x]) W' ∧ KpT n₀ B W W') ∨ (e = .returned (.bool false) ∧ Jx (pre ++ [x]) W'))
  (W : World) (hb : Boxed W B 9 (.string s)) (h0 : J [] W) :
  CallsIn Fence.wide n Try.prog 64 #[.func (.yield l) #[] #[], .pointer (some ⟨B, 0, none⟩)] W fun e W' => (∃ v, e = .returned v) ∧
   ((∃ ys, ys = ps ∧ J ys W') ∨ (∃ pre, (∃ r, ps = pre ++ r) ∧ Jx pre W')) := by
 have HG := Aside0.mk (lex_gap.calls k s g0 W hg)
 have K2 := Aside0.mk hY
 have KJ := Aside0.mk hJ
 have HE := Aside0.mk he
 have G0 := Aside0.mk (And.intro hg0 hg1)
 clear hY hJ hg he hg0 hg1
 have hc := hb.cell
 have X0 := Aside0.mk hb
 clear hb
 refine callsIn_of_wp Try.func64 rfl trivial ?_ rfl
 simp only [Try.ntmps64, List.size_toArray, List.length_cons, List.length_nil, Nat.reduceAdd, Nat.reduceSub, Array.replicate_succ, Array.replicate_zero, List.push_toArray, List.append_toArray, List.nil_append, List.cons_append]
 gi_wp2_with (refine ⟨trivial, ?_⟩; gi_at_call 65; refine (callsIn_wide.2 HG.out).mono ?_; rintro e w' ⟨rfl, ⟨nd, rfl⟩⟩)
 obtain ⟨at0, rfl⟩ : ∃ m : Nat, g0 = m := Int.eq_ofNat_of_zero_le G0.out.1
 have hlN : ∀ (X : World) (m : Nat), X.grownBy (X.drewN m) none := fun X m => ⟨rfl, rfl, rfl, by simp, fun k hk _ => rfl⟩
 have HN := Aside0.mk hlN
 clear hlN hc
 gi_loopw [3] (fun i wr => ∃ (kq at_ : Nat) (pre rest : List S32), i = .int .i64 (at_ : Int) ∧ Aside0 (lex_eachL kq s at_ = some rest) ∧ Aside0 (at_ ≤ s.size) ∧ Aside0 (ps = pre ++ rest) ∧ Aside0 (J pre wr) ∧ Aside0 (Boxed wr B 9 (.string s)))
  (fun i _ => s.size - (intOf i).toNat)
 case atStart => exact ⟨k, at0, [], ps, rfl, ⟨by have := HE.out; rwa [Int.toNat_natCast] at this⟩, ⟨by have := G0.out.2; omega⟩, ⟨rfl⟩, ⟨KJ.out _ _ _ h0 (HN.out _ _)⟩, ⟨X0.out.kept (HN.out _ _) (fun e => by cases e)⟩⟩
 case round =>
  obtain ⟨kq, at_, pre, rest, rfl, he, hle, hps, hj, hbx⟩ := hrel
  cases kq with
  | zero => exact absurd he.out (by simp [lex_eachL])
  | succ kq =>
   have hE := he.out
   have hc := hbx.out.cell
   have HS : Aside0 (∀ X, Below wr.heap.size wr X → X.cell? ⟨B, 0, none⟩ = some (.string s) ∧ Boxed X B 9 (.string s) ∧ J pre X) := ⟨fun X hX => by
    have hgr : wr.grownBy X none := ⟨hX.os, hX.tape, hX.output, hX.size, fun k hk _ => hX.block k hk⟩
    have h1 := hbx.out.kept hgr (fun e => by cases e)
    exact ⟨h1.cell, h1, KJ.out _ _ _ hj.out hgr⟩⟩
   unfold lex_eachL at hE
   by_cases c : at_ < s.size
   ·rw [if_pos c] at hE
    replace hE := Option.bind_eq_some_iff.mp hE
    obtain ⟨t0, hT, hE⟩ := hE
    replace hE := Option.bind_eq_some_iff.mp hE
    obtain ⟨kd, hK, hE⟩ := hE
    replace hE := Option.bind_eq_some_iff.mp hE
    obtain ⟨g, hG, hE⟩ := hE
    have c1 : decide (at_ < s.size) = true := decide_eq_true c
    by_cases d : 0 ≤ g ∧ ((max t0 (at_ + 1) : Nat) : Int) + g ≤ (s.size : Int)
    ·rw [if_pos d] at hE
     replace hE := Option.bind_eq_some_iff.mp hE
     obtain ⟨l', hL, hE⟩ := hE
     have hE' := Option.some.inj hE
     have HT := Aside0.mk hT
     have HK := Aside0.mk hK
     have HGG := Aside0.mk hG
     have HD := Aside0.mk d
     have HL := Aside0.mk hL
     have HR := Aside0.mk hE'
     have HC := Aside0.mk c
     clear hT hK hG d hL hE hE' c he
     gi_wp2
     gi_loopw [4] (fun j wi => ∃ (kj u m : Nat), j = .int .i64 (u : Int) ∧ Aside0 (at_ ≤ u ∧ u ≤ s.size) ∧ Aside0 (lex_toL kj s u = some t0) ∧ wi = wr.drewN m)
      (fun j _ => s.size - (intOf j).toNat)
     case atStart => exact ⟨kq, at_, 0, rfl, ⟨Nat.le_refl _, hle.out⟩, HT, rfl⟩
     case round =>
      obtain ⟨kj, u, m, rfl, hu, ht, rfl⟩ := hrel
      cases kj with
      | zero => exact absurd ht.out (by simp [lex_toL])
      | succ kj =>
       have hE := ht.out
       unfold lex_toL at hE
       have hc := (hbx.out.kept (HN.out wr m) (fun e => by cases e)).cell
       have hw1 : wrap64 ((at_ : Int) + 1) = ((at_ + 1 : Nat) : Int) := by have := HC.out; unfold wrap64; omega
       have hw2 : wrap64 ((u : Int) + 1) = ((u + 1 : Nat) : Int) := by have := hu.out; unfold wrap64; omega
       have HW1 := Aside0.mk hw1
       clear hw1
       have three : (u < s.size ∧ ∃ tw, lex_what.f kj (bt s (u : Int)) = some tw ∧ tw ≠ 0 ∧ lex_toL kj s (u + 1) = some t0) ∨ ((u < s.size ∧ lex_what.f kj (bt s (u : Int)) = some 0 ∧ u = t0) ∨ (¬ u < s.size ∧ u = t0)) := by
        by_cases c : u < s.size
        ·rw [if_pos c] at hE
         obtain ⟨tw, hW, hE'⟩ := Option.bind_eq_some_iff.mp hE
         by_cases ct : tw = 0
         ·rw [if_pos ct] at hE'
          exact .inr (.inl ⟨c, by rw [← ct]; exact hW, Option.some.inj hE'⟩)
         ·rw [if_neg ct] at hE'
          exact .inl ⟨c, tw, hW, ct, hE'⟩
        ·rw [if_neg c] at hE
         exact .inr (.inr ⟨c, Option.some.inj hE⟩)
       clear hE ht
       have hx : ∀ h : u < s.size, ((s[u]'h).toNat : Int) = bt s (u : Int) := fun h => by have := bt_at s (u : Int); simpa using this (by simpa using h)
       rcases three with ⟨c, tw, hW, ct, hE'⟩ | ⟨c, hW, ht0⟩ | ⟨c, ht0⟩
       ·have HW := Aside0.mk hW
        have HE2 := Aside0.mk hE'
        have c1 : decide (u < s.size) = true := decide_eq_true c
        have c2 : (tw != 0) = true := bne_iff_ne.mpr ct
        clear hW hE' ct
        gi_wp2
        refine ⟨trivial, (callsIn_wide.2 (lex_what.calls kj (bt s (u : Int)) tw _ HW.out)).mono ?_⟩
        rintro e w' ⟨rfl, ⟨nd2, rfl⟩⟩
        gi_wp2
        go_roundw
        case rel => exact ⟨kj, u + 1, m + nd2, by simp, ⟨by have := hu.out; omega⟩, HE2, rfl⟩
        case measure => simp [intOf]; omega
       case' inr.inl =>
        have HW := Aside0.mk hW
        have HR2 := Aside0.mk ht0
        have c1 : decide (u < s.size) = true := decide_eq_true c
        obtain ⟨v, hv⟩ : ∃ v : Nat, v = max t0 (at_ + 1) := ⟨_, rfl⟩
        clear hW ht0
        have hmx : (if (u : Int) < wrap64 ((at_ : Int) + 1) then wrap64 ((at_ : Int) + 1) else (u : Int)) = (v : Int) := by
         rw [HW1.out]
         have := HR2.out
         split <;> omega
        have HV := Aside0.mk (show at_ < v ∧ v ≤ s.size by have := HR2.out; have := HC.out; have := hu.out; omega)
        rw [← hv] at HK HGG HD HL HR
        have HV2 := Aside0.mk hv
        clear hv
        gi_wp2
        refine ⟨trivial, (callsIn_wide.2 (lex_what.calls kj (bt s (u : Int)) 0 _ HW.out)).mono ?_⟩
        rintro e w' ⟨rfl, ⟨nd2, rfl⟩⟩
        obtain ⟨m2, hm2⟩ : ∃ m2, m2 = m + nd2 := ⟨_, rfl⟩
        gi_wp2
       case' inr.inr =>
        have HR2 := Aside0.mk ht0
        have c1 : decide (u < s.size) = false := decide_eq_false c
        obtain ⟨v, hv⟩ : ∃ v : Nat, v = max t0 (at_ + 1) := ⟨_, rfl⟩
        clear ht0
        have hmx : (if (u : Int) < wrap64 ((at_ : Int) + 1) then wrap64 ((at_ : Int) + 1) else (u : Int)) = (v : Int) := by
         rw [HW1.out]
         have := HR2.out
         split <;> omega
        have HV := Aside0.mk (show at_ < v ∧ v ≤ s.size by have := HR2.out; have := HC.out; have := hu.out; omega)
        rw [← hv] at HK HGG HD HL HR
        have HV2 := Aside0.mk hv
        clear hv
        gi_wp2
        refine ⟨trivial, ?_⟩
        gi_wp2
       all_goals
        have hv1 : (0 : Int) ≤ (at_ : Int) := by omega
        have hv2 : (at_ : Int) ≤ (v : Int) := by have := HV.out; omega
        have hv3 : (v : Int) ≤ (s.size : Int) := by have := HV.out; omega
        replace hv1 := eq_true hv1
        replace hv2 := eq_true hv2
        replace hv3 := eq_true hv3
        refine wpIn_wide.2 ?_
        refine start_ (n := 14) (S := fun w' => w'.cell? ⟨B, 0, none⟩ = some (.string s)) (ds := []) #[false, false, false, false, false, false, false, false, false, false, false, false, false, false] (by kernel_rfl) rfl rfl hbx.out.cell (fun hHeld => ?_)
        generalize hwx : World.drew _ = wx at hHeld ⊢
        have hgx : Below wr.heap.size wr wx := by rw [← hwx]; exact ⟨rfl, rfl, rfl, Nat.le_refl _, fun _ _ => rfl⟩
        have HX := Aside0.mk hgx
        clear hwx hgx
        refine take_ (i := 0) (N := some 30) (v := ?_) (a' := ?_) #[true, false, false, false, false, false, false, false, false, false, false, false, false, false] rfl rfl (by kernel_rfl) (fun _ _ _ h => h) (Or.inl ⟨by rfl, ?_⟩) hHeld ?_ ?_
        rotate_left
        ·intro w' hw'
         go_simp
         with_reducible rfl
        rotate_left
        ·simp only [Act.put, List.setIfInBounds_toArray, List.set_cons_zero, List.set_cons_succ, i64_w, i32_w]
         rfl
        refine pure_ (i := 1) (N := some 31) (v := ?_) (a' := ?_) #[true, true, false, false, false, false, false, false, false, false, false, false, false, false] rfl rfl (by kernel_rfl) (fun _ _ _ h => h) (Or.inl ⟨by rfl, ?_⟩) ?_ ?_
        rotate_left
        ·intro w'
         go_simp
         with_reducible rfl
        rotate_left
        ·simp only [Act.put, List.setIfInBounds_toArray, List.set_cons_zero, List.set_cons_succ, i64_w, i32_w]
         rfl
        refine pure_ (i := 2) (N := some 32) (v := ?_) (a' := ?_) #[true, true, true, false, false, false, false, false, false, false, false, false, false, false] rfl rfl (by kernel_rfl) (fun _ _ _ h => h) (Or.inl ⟨by rfl, ?_⟩) ?_ ?_
        rotate_left
        ·intro w'
         go_simp
         with_reducible rfl
        rotate_left
        ·simp only [Act.put, List.setIfInBounds_toArray, List.set_cons_zero, List.set_cons_succ, i64_w, i32_w]
         rfl
        refine pure_ (i := 3) (N := some 33) (v := ?_) (a' := ?_) #[true, true, true, true, false, false, false, false, false, false, false, false, false, false] rfl rfl (by kernel_rfl) (fun _ _ _ h => h) (Or.inl ⟨by rfl, ?_⟩) ?_ ?_
        rotate_left
        ·intro w'
         go_simp
         with_reducible rfl
        rotate_left
        ·simp only [Act.put, List.setIfInBounds_toArray, List.set_cons_zero, List.set_cons_succ, i64_w, i32_w]
         rfl
        refine pure_ (i := 5) (N := some 35) (v := ?_) (a' := ?_) #[true, true, true, true, false, true, false, false, false, false, false, false, false, false] rfl rfl (by kernel_rfl) (fun _ _ _ h => h) (Or.inl ⟨by rfl, ?_⟩) ?_ ?_
        rotate_left
        ·intro w'
         go_simp
         with_reducible rfl
        rotate_left
        ·simp only [Act.put, List.setIfInBounds_toArray, List.set_cons_zero, List.set_cons_succ, i64_w, i32_w]
         rfl
        refine pure_ (i := 6) (N := some 36) (v := ?_) (a' := ?_) #[true, true, true, true, false, true, true, false, false, false, false, false, false, false] rfl rfl (by kernel_rfl) (fun _ _ _ h => h) (Or.inl ⟨by rfl, ?_⟩) ?_ ?_
        rotate_left
        ·intro w'
         go_simp
         with_reducible rfl
        rotate_left
        ·simp only [Act.put, List.setIfInBounds_toArray, List.set_cons_zero, List.set_cons_succ, i64_w, i32_w]
         rfl
        refine take_ (i := 7) (N := some 37) (v := ?_) (a' := ?_) #[true, true, true, true, false, true, true, true, false, false, false, false, false, false] rfl rfl (by kernel_rfl) (fun _ _ _ h => h) (Or.inl ⟨by rfl, ?_⟩) hHeld ?_ ?_
        rotate_left
        ·intro w' hw'
         go_simp
         with_reducible rfl
        rotate_left
        ·simp only [Act.put, List.setIfInBounds_toArray, List.set_cons_zero, List.set_cons_succ, i64_w, i32_w]
         rfl
        refine pure_ (i := 8) (N := some 38) (v := ?_) (a' := ?_) #[true, true, true, true, false, true, true, true, true, false, false, false, false, false] rfl rfl (by kernel_rfl) (fun _ _ _ h => h) (Or.inl ⟨by rfl, ?_⟩) ?_ ?_
        rotate_left
        ·intro w'
         go_simp
         with_reducible rfl
        rotate_left
        ·simp only [Act.put, List.setIfInBounds_toArray, List.set_cons_zero, List.set_cons_succ, i64_w, i32_w]
         rfl
        refine pure_ (i := 9) (N := some 39) (v := ?_) (a' := ?_) #[true, true, true, true, false, true, true, true, true, true, false, false, false, false] rfl rfl (by kernel_rfl) (fun _ _ _ h => h) (Or.inl ⟨by rfl, ?_⟩) ?_ ?_
        rotate_left
        ·intro w'
         go_simp
         with_reducible rfl
        rotate_left
        ·simp only [Act.put, List.setIfInBounds_toArray, List.set_cons_zero, List.set_cons_succ, i64_w, i32_w]
         rfl
        refine pure_ (i := 10) (N := some 40) (v := ?_) (a' := ?_) #[true, true, true, true, false, true, true, true, true, true, true, false, false, false] rfl rfl (by kernel_rfl) (fun _ _ _ h => h) (Or.inl ⟨by rfl, ?_⟩) ?_ ?_
        rotate_left
        ·intro w'
         go_simp
         with_reducible rfl
        rotate_left
        ·simp only [Act.put, List.setIfInBounds_toArray, List.set_cons_zero, List.set_cons_succ, i64_w, i32_w]
         rfl
        refine join_ (σ := Nat) 1 #[true, true, true, true, true, true, true, true, true, true, true, true, true, false] (fun s_ => [(34, .int .u8 kd), (5, .pointer (some ⟨s_, 0, none⟩)), (41, .agg #[.int .u8 kd, .int .i64 (at_ : Int), .int .i64 (v : Int), .string (s.extract at_ v)])]) (fun s_ w' => Below wr.heap.size wr w' ∧ w'.heap[s_]? = some (.cells #[.int .u8 0, .int .i64 0, .int .i64 0, .string (⟨#[]⟩ : ByteArray)] 32 (0, 0)) ∧ wr.heap.size ≤ s_) ?_ ?_
        rotate_left
        ·intro hCont
         refine two_ (i := 4) (j := 12) (Ni := some 34) (Nj := some 5) #[true, true, true, true, true, true, true, true, true, true, true, false, false, false] #[true, true, true, true, false, true, true, true, true, true, true, false, true, false] rfl rfl rfl rfl (by kernel_rfl) (by decide) (by decide) (fun K hK => ?_) (fun K hK => ?_)
         ·skip
          refine goes_ Try.func15 (by kernel_rfl) rfl #[.string (s.extract at_ v)] (by rfl) rfl rfl (by (try simp only [List.map_toArray, List.map_cons, List.map_nil]); first | done | rfl) ?_
          with_reducible refine (lex_Kind.calls kq (s.extract at_ v) kd _ HK.out).mono ?_
          rintro e w' ⟨rfl, ⟨nd3, rfl⟩⟩
          refine ⟨_, rfl, ?_⟩
          have n0_ : Below wr.heap.size wr (wx.drewN nd3) := ⟨HX.out.os, HX.out.tape, HX.out.output, HX.out.size, HX.out.block⟩
          clear HX
          have HX := Aside0.mk n0_
          clear n0_
          refine hK.out _ _ (HS.out _ HX.out).1 (fun hHeld => ?_)
          clear hK K
          refine norm_ (a' := ?_) ?_ ?_
          rotate_left
          ·show Act.put _ (some 34) _ = _
           simp only [Act.put, List.setIfInBounds_toArray, List.set_cons_zero, List.set_cons_succ, i64_w, i32_w]
           rfl
          refine pure_ (i := 11) (N := some 41) (v := ?_) (a' := ?_) #[true, true, true, true, true, true, true, true, true, true, true, true, false, false] rfl rfl (by kernel_rfl) (fun _ _ _ h => h) (Or.inl ⟨by rfl, ?_⟩) ?_ ?_
          rotate_left
          ·intro w'
           go_simp
           with_reducible rfl
          rotate_left
          ·simp only [Act.put, List.setIfInBounds_toArray, List.set_cons_zero, List.set_cons_succ, i64_w, i32_w]
           rfl
          refine one_ (i := 12) (N := some 5) #[true, true, true, true, true, true, true, true, true, true, true, true, true, false] rfl rfl (by kernel_rfl) (by decide) (fun K hK => ?_)
          refine box_step ?hg (N := 5) ?hd (cs := #[.int .u8 0, .int .i64 0, .int .i64 0, .string (⟨#[]⟩ : ByteArray)]) (t := 32) ?hr ?_; (case hd => rfl); (case hg => rfl); (case hr => first | (go_simp; done) | (go_simp; rfl))
          intro gb hg w24 hbox hb
          have n0_ := HX.out.trans (hb.mono (by first | exact HX.out.size | (simp; exact HX.out.size)))
          have GE := Aside0.mk (show wr.heap.size ≤ gb by rw [hg]; exact HX.out.size)
          have BK := Aside0.mk hbox
          clear HX hb hbox hg
          have HX := Aside0.mk n0_
          clear n0_
          refine hK.out _ _ (HS.out _ HX.out).1 (fun hHeld => ?_)
          clear hK K
          refine norm_ (a' := ?_) ?_ ?_
          rotate_left
          ·show Act.put _ (some 5) _ = _
           simp only [Act.put, List.setIfInBounds_toArray, List.set_cons_zero, List.set_cons_succ, i64_w, i32_w]
           rfl
          exact norm_ (by simp only [putAll, Act.put, List.setIfInBounds_toArray, List.set_cons_zero, List.set_cons_succ]) (hCont gb _ ⟨HX.out, BK.out, GE.out⟩)
         ·skip
          refine box_step ?hg (N := 5) ?hd (cs := #[.int .u8 0, .int .i64 0, .int .i64 0, .string (⟨#[]⟩ : ByteArray)]) (t := 32) ?hr ?_; (case hd => rfl); (case hg => rfl); (case hr => first | (go_simp; done) | (go_simp; rfl))
          intro gb hg w24 hbox hb
          have n0_ := HX.out.trans (hb.mono (by first | exact HX.out.size | (simp; exact HX.out.size)))
          have GE := Aside0.mk (show wr.heap.size ≤ gb by rw [hg]; exact HX.out.size)
          have BK := Aside0.mk hbox
          clear HX hb hbox hg
          have HX := Aside0.mk n0_
          clear n0_
          refine hK.out _ _ (HS.out _ HX.out).1 (fun hHeld => ?_)
          clear hK K
          refine norm_ (a' := ?_) ?_ ?_
          rotate_left
          ·show Act.put _ (some 5) _ = _
           simp only [Act.put, List.setIfInBounds_toArray, List.set_cons_zero, List.set_cons_succ, i64_w, i32_w]
           rfl
          refine one_ (i := 4) (N := some 34) #[true, true, true, true, true, true, true, true, true, true, true, false, true, false] rfl rfl (by kernel_rfl) (by decide) (fun K hK => ?_)
          refine goes_ Try.func15 (by kernel_rfl) rfl #[.string (s.extract at_ v)] (by rfl) rfl rfl (by (try simp only [List.map_toArray, List.map_cons, List.map_nil]); first | done | rfl) ?_
          with_reducible refine (lex_Kind.calls kq (s.extract at_ v) kd _ HK.out).mono ?_
          rintro e w' ⟨rfl, ⟨nd3, rfl⟩⟩
          refine ⟨_, rfl, ?_⟩
          have n0_ : Below wr.heap.size wr (w24.drewN nd3) := ⟨HX.out.os, HX.out.tape, HX.out.output, HX.out.size, HX.out.block⟩
          clear HX
          have HX := Aside0.mk n0_
          clear n0_
          refine hK.out _ _ (HS.out _ HX.out).1 (fun hHeld => ?_)
          clear hK K
          have n1_ := Aside0.mk BK.out
          refine norm_ (a' := ?_) ?_ ?_
          rotate_left
          ·show Act.put _ (some 34) _ = _
           simp only [Act.put, List.setIfInBounds_toArray, List.set_cons_zero, List.set_cons_succ, i64_w, i32_w]
           rfl
          refine pure_ (i := 11) (N := some 41) (v := ?_) (a' := ?_) #[true, true, true, true, true, true, true, true, true, true, true, true, true, false] rfl rfl (by kernel_rfl) (fun _ _ _ h => h) (Or.inl ⟨by rfl, ?_⟩) ?_ ?_
          rotate_left
          ·intro w'
           go_simp
           with_reducible rfl
          rotate_left
          ·simp only [Act.put, List.setIfInBounds_toArray, List.set_cons_zero, List.set_cons_succ, i64_w, i32_w]
           rfl
          exact norm_ (by simp only [putAll, Act.put, List.setIfInBounds_toArray, List.set_cons_zero, List.set_cons_succ]) (hCont gb _ ⟨HX.out, BK.out, GE.out⟩)
        rintro gb w25 ⟨h0_, h1_, h2_⟩
        clear HX
        have HX := Aside0.mk h0_
        have BK := Aside0.mk h1_
        have GE := Aside0.mk h2_
        clear h0_ h1_ h2_
        have hHeld := (HS.out _ HX.out).1
        refine norm_ (a' := ?_) ?_ ?_
        rotate_left
        ·simp only [putAll, Act.put, List.setIfInBounds_toArray, List.set_cons_zero, List.set_cons_succ]
         rfl
        refine one_ (i := 13) (N := none) #[true, true, true, true, true, true, true, true, true, true, true, true, true, true] rfl rfl (by kernel_rfl) (by decide) (fun K hK => ?_)
        have hs0 : w25.cell? ⟨gb, 0, none⟩ = some (.int .u8 0) := (blk_cell BK.out 0).trans rfl
        have hfs0 := blk_frozen BK.out 0
        have hs1 : w25.cell? ⟨gb, 1, none⟩ = some (.int .i64 0) := (blk_cell BK.out 1).trans rfl
        have hfs1 := blk_frozen BK.out 1
        have hs2 : w25.cell? ⟨gb, 2, none⟩ = some (.int .i64 0) := (blk_cell BK.out 2).trans rfl
        have hfs2 := blk_frozen BK.out 2
        have hs3 : w25.cell? ⟨gb, 3, none⟩ = some (.string (⟨#[]⟩ : ByteArray)) := (blk_cell BK.out 3).trans rfl
        have hfs3 := blk_frozen BK.out 3
        refine skip_ (w1 := ?_) (by rfl) rfl ?_ ?_
        rotate_left
        ·go_simp
         rfl
        obtain ⟨wy, hwy⟩ : ∃ wy, wy = ((((w25.setCell ⟨gb, 0, none⟩ (.int .u8 kd)).setCell ⟨gb, 1, none⟩ (.int .i64 (at_ : Int))).setCell ⟨gb, 2, none⟩ (.int .i64 (v : Int))).setCell ⟨gb, 3, none⟩ (.string (s.extract at_ v))) := ⟨_, rfl⟩
        have n0_ : Below wr.heap.size wr wy := by rw [hwy]; exact below_set (below_set (below_set (below_set HX.out GE.out) GE.out) GE.out) GE.out
        have n1_ : wy.heap[gb]? = some (.cells #[.int .u8 kd, .int .i64 (at_ : Int), .int .i64 (v : Int), .string (s.extract at_ v)] 32 (0, 0)) := by rw [hwy]; exact blk_set (blk_set (blk_set (blk_set BK.out 0 _) 1 _) 2 _) 3 _
        rw [← hwy]
        clear hwy HX BK hs0 hs1 hs2 hs3 hfs0 hfs1 hfs2 hfs3
        have HX := Aside0.mk n0_
        have BK := Aside0.mk n1_
        clear n0_ n1_
        refine hK.out _ _ (HS.out _ HX.out).1 (fun hHeld => ?_)
        clear hK K
        refine done_ (by kernel_rfl) ?_
        have hk0 : wy.cell? ⟨gb, 0, none⟩ = some (.int .u8 kd) := (blk_cell BK.out 0).trans rfl
        have hk1 : wy.cell? ⟨gb, 1, none⟩ = some (.int .i64 (at_ : Int)) := (blk_cell BK.out 1).trans rfl
        have hk2 : wy.cell? ⟨gb, 2, none⟩ = some (.int .i64 (v : Int)) := (blk_cell BK.out 2).trans rfl
        have hk3 : wy.cell? ⟨gb, 3, none⟩ = some (.string (s.extract at_ v)) := (blk_cell BK.out 3).trans rfl
        obtain ⟨fn, tmps, assign, body, hy, hR⟩ := K2.out pre ⟨kd, (at_ : Int), (v : Int), s.extract at_ v⟩ wy (HS.out _ HX.out).2.2 (by rw [hps.out, ← HR.out]; simp)
        simp only [encWord] at hy
        have HRR := Aside0.mk hR
        clear hR
        gi_wp2
        refine HRR.out.mono ?_
        rintro e W3 (⟨rfl, hJ3, hkp⟩ | ⟨rfl, hJx3⟩)
        ·have hb3 := hkp.box _ (HS.out _ HX.out).2.1
         have hc3 := hb3.cell
         have HB3 := Aside0.mk hb3
         clear hc hb3 hk0 hk1 hk2 hk3 hHeld hy
         have hg1 : (v : Int) + g = ((v + g.toNat : Nat) : Int) := by have := HD.out.1; omega
         have HG1 := Aside0.mk hg1
         clear hg1
         gi_wp2
         refine ⟨trivial, (callsIn_wide.2 (lex_gap.calls kq (s.extract v s.size) g _ HGG.out)).mono ?_⟩
         rintro e w' ⟨rfl, ⟨nd4, rfl⟩⟩
         have hw3 : wrap64 ((v : Int) + g) = ((v + g.toNat : Nat) : Int) := by have := HD.out; unfold wrap64; omega
         gi_wp2
         go_roundw
         case rel => exact ⟨kq, v + g.toNat, pre ++ [⟨kd, (at_ : Int), (v : Int), s.extract at_ v⟩], l', congrArg (Value.int .i64) hw3, HL, ⟨by have := HD.out; omega⟩, ⟨by rw [hps.out, ← HR.out]; simp⟩, ⟨KJ.out _ _ _ hJ3 (HN.out _ _)⟩, ⟨HB3.out.kept (HN.out _ _) (fun e => by cases e)⟩⟩
         case measure => simp only [intOf]; have := HD.out; have := HV.out; have := HC.out; omega
        ·gi_wp2
         refine bodyPost_ret (results_none rfl _ _ _) rfl ?_
         exact ⟨⟨_, rfl⟩, .inr ⟨_, ⟨l', by rw [hps.out, ← HR.out]; simp⟩, hJx3⟩⟩
    ·rw [if_neg d] at hE; cases hE
   ·have c1 : decide (at_ < s.size) = false := decide_eq_false c
    rw [if_neg c] at hE
    have hE' := Option.some.inj hE
    have HR := Aside0.mk hE'
    clear hE hE' c
    gi_wp2
    go_end0
    exact ⟨⟨_, rfl⟩, .inl ⟨pre, by rw [hps.out, ← HR.out, List.append_nil], hj.out⟩⟩
def lex_resL (l : List S32) : List S32 × Int × Int := match l.find? (fun x => x.f0 == 0) with
 | some x => ([], x.f1, 4)
 | none => (l, 0, 0)
def lex_Words.f (k : Nat) (a0 : ByteArray) : Option ((List S32) × Int × Int) := if (a0.size : Int) > 65536 then some ([], 65536, 40) else (lex_gap.f k a0).bind fun g => if 0 ≤ g ∧ g ≤ (a0.size : Int) then (lex_eachL k a0 g.toNat).bind fun l => if l.length ≤ 65536 then some (lex_resL l) else none else none
theorem lex_Words.mono (k : Nat) (a0 : ByteArray) : LeO (lex_Words.f k a0) (lex_Words.f (k + 1) a0) := by
 unfold lex_Words.f
 exact LeO.ite (LeO.refl _) (LeO.bind (lex_gap.mono _ _) (fun _ => LeO.ite (LeO.bind (lex_eachL.mono _ _ _) (fun _ => LeO.refl _)) (LeO.refl _)))
theorem infoWord : (Try.prog.info? 32).map (fun i => (i.zero, i.size, i.bytes)) = some (some (.agg #[(.int .u8 0), (.int .i64 0), (.int .i64 0), (.string ⟨#[]⟩)]), 4, 40) := by kernel_rfl
def wcells (x : S32) : List Value := [.int .u8 x.f0, .int .i64 x.f1, .int .i64 x.f2, .string x.f3]
def wcellsL (l : List S32) : List Value := l.flatMap wcells
theorem wcellsL_snoc (l : List S32) (x : S32) : wcellsL (l ++ [x]) = wcellsL l ++ wcells x := by simp [wcellsL]
theorem reps_words (w : World) (base : Nat) (ok : Nat → Prop) : ∀ l : List S32, Reps (k32.M w base ok) 4 l (wcellsL l)
 | [] => Reps.none _ _
 | x :: l => Reps.c4 (k32_mkM w base ok x) (reps_words w base ok l)
theorem results_cells3 {fn : Func} {p q r : Tmp} {t1 t2 t3 : TypeId} (h : fn.results = #[.cell p t1, .cell q t2, .cell r t3]) (tmps : Array Value) (P : Program) (w : World) :
  (results fn tmps).run P w = ((asAddr (tmps.getD p undef)).run P w).andThen fun a w₁ => ((loadVar t1 a).run P w₁).andThen fun v w₂ => ((asAddr (tmps.getD q undef)).run P w₂).andThen fun b w₃ => ((loadVar t2 b).run P w₃).andThen fun u w₄ =>
   ((asAddr (tmps.getD r undef)).run P w₄).andThen fun c w₅ => ((loadVar t3 c).run P w₅).andThen fun x w₆ => .ok (.tuple #[v, u, x]) w₆ := by
 simp only [results, h]
 simp [Sem.run_bind, Result.andThen]
theorem lex_resL_all {l : List S32} (h : ∀ p ∈ l, p.f0 ≠ 0) : lex_resL l = (l, 0, 0) := by
 unfold lex_resL
 rw [List.find?_eq_none.2 (fun x hx => by simpa using h x hx)]
theorem lex_resL_stop {p0 r : List S32} {x : S32} (h : ∀ p ∈ p0, p.f0 ≠ 0) (hx : x.f0 = 0) : lex_resL (p0 ++ [x] ++ r) = ([], x.f1, 4) := by
 unfold lex_resL
 have e : (p0 ++ [x] ++ r).find? (fun x => x.f0 == 0) = some x := by
  rw [List.append_assoc, List.find?_append, List.find?_eq_none.2 (fun y hy => by simpa using h y hy)]
  simp [hx]
 rw [e]
theorem row_setW {W : World} {n₀ B : Nat} {t e : TypeId} {size k : Nat} {v u u' : Value} {xs : List Value} (hte : t ≠ e) (hB : Boxed W B t u) (hrow : W.ownsRow n₀ e size v k xs) : (W.setCell ⟨B, 0, none⟩ u').ownsRow n₀ e size v k xs :=
 hrow.kept (grownBy_setCell' W B u') (.inr (hB.not_row hte hrow).symm)
def lastAt (l : List S32) : Int := (l.getLast?.map (fun x => x.f1)).getD 0
theorem lastAt_snoc (l : List S32) (x : S32) : lastAt (l ++ [x]) = x.f1 := by simp [lastAt]
def WordAt (W : World) (B : Nat) (x : S32) : Prop := W.heap[B]? = some (.cells #[.int .u8 x.f0, .int .i64 x.f1, .int .i64 x.f2, .string x.f3] 32 (0, 0))
theorem KpT.trans_ {n₀ B : Nat} {A X C : World} (h : KpT n₀ B A X) (k : KpT n₀ B X C) : KpT n₀ B A C := ⟨h.below.trans k.below, fun v hv => k.box v (h.box v hv)⟩
theorem boxed_putT {W : World} {B l : Nat} {t : TypeId} {v : Value} {o : Obj} (o' : Obj) (h : Boxed W B t v) (hl : W.heap[l]? = some o) (ho : o.isCells = false) : Boxed (W.putObj l o') B t v := by
 refine h.kept (grownBy_putObj' W l o') (fun e => ?_)
 injection e with e
 subst e
 rw [show W.heap[B]? = _ from h] at hl
 cases hl
 cases ho
theorem KpT.put_ {n₀ B : Nat} {w : World} (hn : n₀ ≤ w.heap.size) (W : World) (l : Nat) (o o' : Obj) (hl : w.heap.size ≤ l) (h : W.heap[l]? = some o) (hc : o.isCells = false) (hw : o.isWalk = false) : KpT n₀ B W (W.putObj l o') :=
 ⟨belowK_b hn W l o o' hl h hc hw, fun _ hv => boxed_putT o' hv h hc⟩
theorem app_othersW {W w1 : World} {n₀ N B : Nat} {t e : TypeId} {size k : Nat} {v v' u : Value} {xs : List Value} {tmp : Obj} (hte : t ≠ e) (hB : Boxed W B t u) (hne : B ≠ N)
  (hrow : W.ownsRow n₀ e size v k xs) (hgrow : (W.alloc tmp).grownBy w1 v.ownBlock) : Boxed (w1.setCell ⟨N, 0, none⟩ v') B t u :=
 ((hB.alloc tmp).kept hgrow (hB.not_row hte hrow)).other hne _
theorem boxed_drewT {W : World} {B : Nat} {t : TypeId} {v : Value} (h : Boxed W B t v) : Boxed W.drew B t v := h
theorem wordAt_own (B : Nat) (x : S32) (X Y : World) (row : Option Nat) (hs : WordAt X B x) (hg : X.grownBy Y row) (hr : ∀ r, row = some r → ∃ o : Obj, X.heap[r]? = some o ∧ o.isCells = false) : WordAt Y B x := by
 unfold WordAt at hs ⊢
 rw [hg.block B (Array.getElem?_eq_some_iff.1 hs).1 (fun e => by obtain ⟨o, h1, h2⟩ := hr B e.symm; rw [hs] at h1; cases h1; cases h2)]
 exact hs
theorem each_stops (n : Nat) (hn : 1 ≤ n) (B n₀ : Nat) (s : ByteArray) (hs : s.size ≤ 65536) (ps : List S32) (k : Nat) (g0 : Int) (hg : lex_gap.f k s = some g0) (hg0 : 0 ≤ g0) (hg1 : g0 ≤ (s.size : Int)) (he : lex_eachL k s g0.toNat = some ps) (w : World)
  (hb : Boxed w B 9 (.string s)) :
  SeqStopsK Fence.wide n Try.prog 64 #[.pointer (some ⟨B, 0, none⟩)] encWord (KpT n₀ B) (fun ys => ys = ps) (fun pre => ∃ r, ps = pre ++ r) ps.length w := fun l J Jx W hW hJ _ hY h0 =>
 lex_each1_in n hn l B n₀ s hs J Jx (fun p X Y hp hg => hJ p X Y none hp hg (fun r e => by cases e)) ps k g0 hg hg0 hg1 he hY W ((hW.block B hb.lt).trans hb) h0
set_option maxRecDepth 100000 in
set_option maxHeartbeats 8000000 in
theorem lex_Words_some (k : Nat) (s : ByteArray) (hs : s.size ≤ 65536) (g0 : Int) (ps : List S32) (hg : lex_gap.f k s = some g0) (hg0 : 0 ≤ g0) (hg1 : g0 ≤ (s.size : Int)) (he : lex_eachL k s g0.toNat = some ps) (hl : ps.length ≤ 65536) (w : World) :
  Calls Try.prog 14 #[.string s] w fun e w' => ∃ v0_ : Value, e = .returned (.tuple #[v0_, .int .i64 (lex_resL ps).2.1, .int .i64 (lex_resL ps).2.2]) ∧ Kd.R k32 32 w' w.heap.size (fun _ => True) v0_ (lex_resL ps).1 ∧ Below w.heap.size w w' := by
 have c1 : decide ((65536 : Int) < (s.size : Int)) = false := decide_eq_false (by omega)
 have c2 : decide (65536 < s.size) = false := decide_eq_false (by omega)
 have HG := Aside0.mk hg
 have HE := Aside0.mk he
 have HB0 := Aside0.mk (And.intro hg0 (And.intro hg1 hl))
 clear hg he hg0 hg1 hl
 refine (callsIn_wide (n := 6)).1 ?_
 refine callsIn_of_wp_marks Try.func14 rfl trivial ?_ rfl
 simp only [Try.ntmps14, List.size_toArray, List.length_cons, List.length_nil, Nat.reduceAdd, Nat.reduceSub, Array.replicate_succ, Array.replicate_zero, List.push_toArray, List.append_toArray, List.nil_append, List.cons_append]
 gi_wp2
 refine ⟨trivial, (lex_each_in Fence.wide 5 trivial rfl _ rfl _).mono ?_⟩
 rintro e w' ⟨rfl, rfl⟩
 obtain ⟨N, hN⟩ : ∃ N, N = w.heap.size := ⟨_, rfl⟩
 obtain ⟨W0, hW0⟩ : ∃ W0, W0 = (((w.alloc (.cells #[.slice none 0 0] 27)).alloc (.cells #[.int .i64 0] 3)).alloc (.cells #[.int .i64 0] 24)).alloc (.cells #[.string s] 9) := ⟨_, rfl⟩
 have bW : Boxed W0 N 27 (.slice none 0 0) := by
  have := (((Boxed.new w 27 (.slice none 0 0)).alloc (.cells #[.int .i64 0] 3)).alloc (.cells #[.int .i64 0] 24)).alloc (.cells #[.string s] 9)
  rw [hW0, hN]; exact this
 have bA : Boxed W0 (N + 1) 3 (.int .i64 0) := by
  have := ((Boxed.new (w.alloc (.cells #[.slice none 0 0] 27)) 3 (.int .i64 0)).alloc (.cells #[.int .i64 0] 24)).alloc (.cells #[.string s] 9)
  rw [hW0, hN]; simpa using this
 have bE : Boxed W0 (N + 2) 24 (.int .i64 0) := by
  have := (Boxed.new ((w.alloc (.cells #[.slice none 0 0] 27)).alloc (.cells #[.int .i64 0] 3)) 24 (.int .i64 0)).alloc (.cells #[.string s] 9)
  rw [hW0, hN]; simpa using this
 have bT : Boxed W0 (N + 3) 9 (.string s) := by
  have := Boxed.new (((w.alloc (.cells #[.slice none 0 0] 27)).alloc (.cells #[.int .i64 0] 3)).alloc (.cells #[.int .i64 0] 24)) 9 (.string s)
  rw [hW0, hN]; simpa using this
 have hB0 : Below w.heap.size w W0 := by
  rw [hW0]; exact below_alloc (below_alloc (below_alloc (below_alloc (Below.refl _ _) _) _) _) _
 have hsz : W0.heap.size = N + 4 := by rw [hW0, hN]; simp
 have hst := each_stops (6 - 1) (by omega) (N + 3) N s hs ps k g0 HG.out HB0.out.1 HB0.out.2.1 HE.out W0 bT
 simp only [World.size_alloc]
 rw [← hW0]
 simp only [← hN]
 clear hW0
 simp only [Nat.add_assoc, Nat.reduceAdd]
 have HNN := Aside0.mk hN
 have hBN : N ≤ W0.heap.size := by omega
 have hBw : w.heap.size ≤ W0.heap.size := by omega
 clear hN
 gi_wp2
 have hI : OwnFrom W0.heap.size (fun (pre : List S32) (W : World) => (∃ v, Boxed W N 27 v ∧ W.ownsRow N 32 4 v pre.length (wcellsL pre) ∧ True) ∧ Boxed W (N + 1) 3 (.int .i64 0) ∧ Boxed W (N + 2) 24 (.int .i64 0) ∧ Boxed W (N + 3) 9 (.string s) ∧ Below w.heap.size w W ∧ (∀ p ∈ pre, p.f0 ≠ 0)) :=
  OwnFrom.and (Own.from (holdsRow_own N N 27 32 4 (fun pre : List S32 => pre.length) wcellsL (fun _ _ => True)) _)
   (OwnFrom.and (Own.from (boxed_own (N + 1) _ (fun _ : List S32 => Value.int .i64 0)) _) (OwnFrom.and (Own.from (boxed_own (N + 2) _ (fun _ : List S32 => Value.int .i64 0)) _) (OwnFrom.and (Own.from (boxed_own (N + 3) _ (fun _ : List S32 => Value.string s)) _)
    (OwnFrom.and (ownFrom_below (Nat.le_refl _) hBw) (ownFrom_pure _ _)))))
 have hIx : ∀ c : Code, OwnFrom W0.heap.size (fun (pre : List S32) (W : World) => Boxed W N 27 (.slice none 0 0) ∧ Boxed W (N + 1) 3 (.int .i64 (lastAt pre)) ∧ Boxed W (N + 2) 24 (.int .i64 4) ∧ Below w.heap.size w W ∧ (c = .ret ∧ ∃ p0 x, pre = p0 ++ [x] ∧ x.f0 = 0 ∧ ∀ p ∈ p0, p.f0 ≠ 0)) := fun c =>
  OwnFrom.and (Own.from (boxed_own N _ (fun _ : List S32 => Value.slice none 0 0)) _) (OwnFrom.and (Own.from (boxed_own (N + 1) _ (fun pre : List S32 => Value.int .i64 (lastAt pre))) _) (OwnFrom.and (Own.from (boxed_own (N + 2) _ (fun _ : List S32 => Value.int .i64 4)) _)
    (OwnFrom.and (ownFrom_below (Nat.le_refl _) hBw) (ownFrom_pure _ _))))
 have HI := Aside0.mk hI
 refine wpIn_rangeFunc_ownH rfl (by omega) (gf := 64) (lb := #[.pointer (some ⟨N + 3, 0, none⟩)]) rfl trivial (enters_of Try.func64 (by kernel_rfl) rfl)
  hst (fun h k => h.trans_ k) (KpT.put_ hBN) (Below.refl _ _) (fun _ => rfl) _ _ hI hIx
  ⟨⟨_, bW, World.ownsRow_nil W0 _ _ _, trivial⟩, bA, bE, bT, hB0, by simp⟩
  (fun x a' W => ∃ Bx, N + 3 < Bx ∧ WordAt W Bx x ∧ a' = { tmps := #[.string s, undef, .pointer (some ⟨N, 0, none⟩), .pointer (some ⟨N + 1, 0, none⟩), .pointer (some ⟨N + 2, 0, none⟩), .pointer (some ⟨Bx, 0, none⟩), .string s, .int .i64 (s.size : Int), .bool false, .string s, .func (.func 64) #[] #[.pointer (some ⟨N + 3, 0, none⟩)], .agg #[.int .u8 x.f0, .int .i64 x.f1, .int .i64 x.f2, .string x.f3], undef, undef, undef, undef, undef, undef, undef, undef, undef, undef], defers := [] })
  (fun x a' _ X Y row hs hg hr => by obtain ⟨Bx, h1, h2, h3⟩ := hs; exact ⟨Bx, h1, wordAt_own Bx x X Y row h2 hg (fun r e => (hr r e).2), h3⟩)
  ?assign ?body ?done ?stop
 case assign =>
  rintro l pre x W K hi hK
  have h3 := hi.2.2.2.1
  have Hi := Aside0.mk hi
  have HK := Aside0.mk hK
  clear hi hK hI hIx hst
  simp only [encWord]
  gi_wp2
  have hgr := World.grownBy_alloc W (Obj.cells #[Value.int IntKind.u8 x.f0, Value.int IntKind.i64 x.f1, Value.int IntKind.i64 x.f2, Value.string x.f3] 32) none
  refine HK.out _ _ ((KeepsOthers.alloc _ _).from _) ⟨(Below.refl _ W).alloc (by have := Hi.out.2.2.2.2.1.size; have := HNN.out; omega) _, fun v hv => hv.alloc _⟩ (HI.out pre W _ none Hi.out hgr (fun r e => by cases e)) ⟨W.heap.size, Hi.out.2.2.2.1.lt, blk_new W _, rfl⟩
 case body =>
  rintro l pre x a' W hl ⟨r, hr⟩ hi ⟨Bx, hBx, bX, rfl⟩ hlt
  obtain ⟨⟨v, hv, hrow, -⟩, h1, h2, h3, hB, hne⟩ := hi
  have hk0 : W.cell? ⟨Bx, 0, none⟩ = some (.int .u8 x.f0) := (blk_cell bX 0).trans rfl
  have hk1 : W.cell? ⟨Bx, 1, none⟩ = some (.int .i64 x.f1) := (blk_cell bX 1).trans rfl
  have hk2 : W.cell? ⟨Bx, 2, none⟩ = some (.int .i64 x.f2) := (blk_cell bX 2).trans rfl
  have hk3 : W.cell? ⟨Bx, 3, none⟩ = some (.string x.f3) := (blk_cell bX 3).trans rfl
  have hcw := hv.cell
  have hfw := hv.frozen
  have hca := h1.cell
  have hfa := h1.frozen
  have hce := h2.cell
  have hfe := h2.frozen
  have KB := Aside0.mk (And.intro hv (And.intro hrow (And.intro h1 (And.intro h2 (And.intro h3 (And.intro hB hne))))))
  have KX := Aside0.mk bX
  have KR := Aside0.mk hr
  clear hrow hv h1 h2 h3 hB hne bX hr hst hI hIx bW bA bE bT hB0
  by_cases hx : x.f0 = 0
  ·have c5 : (x.f0 == 0) = true := beq_iff_eq.mpr hx
   have HX := Aside0.mk hx
   gi_wp2
   refine wpIn_region_any (by kernel_rfl) (YtgikmpgpccfiiaaV.wpAnyIn_of (YtgikmpgpccfiiaaV.plain_all (by rfl)) (fun ⟨_, _, h⟩ => h) _ _ _ _ ?_)
   change wpAny _ _ _ _ _ _ _ (World.drew _)
   have hbn : N ≠ Bx := by omega
   have hbn1 : Bx ≠ N := by omega
   have hcwd : W.drew.cell? ⟨N, 0, none⟩ = some v := hcw
   have hfwd : W.drew.frozen? ⟨N, 0, none⟩ = false := hfw
   have hcad : W.drew.cell? ⟨N + 1, 0, none⟩ = some (.int .i64 0) := hca
   have hfad : W.drew.frozen? ⟨N + 1, 0, none⟩ = false := hfa
   have hced : W.drew.cell? ⟨N + 2, 0, none⟩ = some (.int .i64 0) := hce
   have hfed : W.drew.frozen? ⟨N + 2, 0, none⟩ = false := hfe
   have hk1d : W.drew.cell? ⟨Bx, 1, none⟩ = some (.int .i64 x.f1) := hk1
   refine wpAny_take (i := 0) (v := ?v1) rfl (by kernel_rfl) (by kernel_rfl) (by kernel_rfl) (fun _ _ _ h => h) (Or.inl ⟨by rfl, ?h1⟩) ?_
   case h1 => (intro w_; first | (go_simp; done) | (go_simp; with_reducible rfl))
   simp only [Act.put, List.setIfInBounds_toArray, List.set_cons_zero, List.set_cons_succ]
   refine wpAny_ready (rs := [1, 2]) (by kernel_rfl) (by simp) ?_
   refine AllReady.cons rfl (fun K hK => ?_) (AllReady.cons rfl (fun K hK => ?_) AllReady.nil)
   ·go_simp
    refine hK _ _ ?_
    clear hK K
    refine wpAny_ready (rs := [2]) (by kernel_rfl) (by simp) ?_
    refine AllReady.cons rfl (fun K hK => ?_) AllReady.nil
    go_simp
    refine hK _ _ ?_
    clear hK K
    refine wpAny_ready (rs := [3]) (by kernel_rfl) (by simp) ?_
    refine AllReady.cons rfl (fun K hK => ?_) AllReady.nil
    go_simp
    refine hK _ _ ?_
    clear hK K
    refine wpAny_ready (rs := [4]) (by kernel_rfl) (by simp) ?_
    refine AllReady.cons rfl (fun K hK => ?_) AllReady.nil
    go_simp
    refine hK _ _ ?_
    clear hK K
    refine wpAny_done (by kernel_rfl) ?_ _
    gi_wp2
    refine ⟨((((KeepsOthers.setCell _ _ _).trans (KeepsOthers.setCell _ _ _)).trans (KeepsOthers.setCell _ _ _)).trans (KeepsOthers.drew _)).from _, boxed_drewT (((KB.out.1.set _).other (by omega) _).other (by omega) _), ?_, boxed_drewT (((KB.out.2.2.2.1.other (by omega) _).other (by omega) _).set _), ?_, rfl, pre, x, rfl, HX.out, KB.out.2.2.2.2.2.2⟩
    ·rw [lastAt_snoc]
     exact boxed_drewT (((KB.out.2.2.1.other (by omega) _).set _).other (by omega) _)
    ·have hNw : w.heap.size ≤ N := by rw [HNN.out]; exact Nat.le_refl _
     exact below_drew1 (((KB.out.2.2.2.2.2.1.setCell (p := ⟨N, 0, none⟩) hNw _).setCell (p := ⟨N + 1, 0, none⟩) (show w.heap.size ≤ N + 1 by omega) _).setCell (p := ⟨N + 2, 0, none⟩) (show w.heap.size ≤ N + 2 by omega) _)
   ·go_simp
    refine hK _ _ ?_
    clear hK K
    refine wpAny_ready (rs := [1]) (by kernel_rfl) (by simp) ?_
    refine AllReady.cons rfl (fun K hK => ?_) AllReady.nil
    go_simp
    refine hK _ _ ?_
    clear hK K
    refine wpAny_ready (rs := [3]) (by kernel_rfl) (by simp) ?_
    refine AllReady.cons rfl (fun K hK => ?_) AllReady.nil
    go_simp
    refine hK _ _ ?_
    clear hK K
    refine wpAny_ready (rs := [4]) (by kernel_rfl) (by simp) ?_
    refine AllReady.cons rfl (fun K hK => ?_) AllReady.nil
    go_simp
    refine hK _ _ ?_
    clear hK K
    refine wpAny_done (by kernel_rfl) ?_ _
    gi_wp2
    refine ⟨((((KeepsOthers.setCell _ _ _).trans (KeepsOthers.setCell _ _ _)).trans (KeepsOthers.setCell _ _ _)).trans (KeepsOthers.drew _)).from _, boxed_drewT (((KB.out.1.set _).other (by omega) _).other (by omega) _), ?_, boxed_drewT (((KB.out.2.2.2.1.other (by omega) _).other (by omega) _).set _), ?_, rfl, pre, x, rfl, HX.out, KB.out.2.2.2.2.2.2⟩
    ·rw [lastAt_snoc]
     exact boxed_drewT (((KB.out.2.2.1.other (by omega) _).set _).other (by omega) _)
    ·have hNw : w.heap.size ≤ N := by rw [HNN.out]; exact Nat.le_refl _
     exact below_drew1 (((KB.out.2.2.2.2.2.1.setCell (p := ⟨N, 0, none⟩) hNw _).setCell (p := ⟨N + 1, 0, none⟩) (show w.heap.size ≤ N + 1 by omega) _).setCell (p := ⟨N + 2, 0, none⟩) (show w.heap.size ≤ N + 2 by omega) _)
  ·have c5 : (x.f0 == 0) = false := beq_eq_false_iff_ne.mpr hx
   have HX := Aside0.mk hx
   obtain ⟨i0, hi, hz0, hz1, hz2⟩ := info_parts infoWord
   clear hx
   have hNW : N ≤ W.heap.size := by have := KB.out.1.lt; omega
   have hq1 : (Value.agg #[.int .u8 0, .int .i64 0, .int .i64 0, .string ⟨#[]⟩]).cells.size = 4 := rfl
   have hs1 : ∀ (j : Nat) (u : Value), (wcells x)[j]? = some u → (W.alloc (Obj.cells #[Value.int IntKind.u8 x.f0, Value.int IntKind.i64 x.f1, Value.int IntKind.i64 x.f2, Value.string x.f3] 32)).cell? (({ block := W.heap.size, off := 0 } : Addr).add j) = some u := by
    intro j u hj
    exact World.news_of_block (cs := (wcells x).toArray) (t := 32) (fr := (0, 0)) (World.alloc_heap_new W (.cells (wcells x).toArray 32)) j u (by simpa using hj)
   have hs2 : ∀ u ∈ wcells x, u.oneCell' = true := by simp [wcells, Value.oneCell']
   have hs3 : pre.length + 1 ≤ maxLen := by have := HB0.out.2.2; simp only [maxLen]; omega
   have hs4 : (pre.length + 1) * 40 ≤ 140737488355328 := by have := HB0.out.2.2; omega
   have HQ := Aside0.mk (And.intro hq1 (And.intro hs1 (And.intro hs2 (And.intro hs3 hs4))))
   clear hq1 hs1 hs2 hs3 hs4
   gi_wp2_with (gi_at_builtin; refine wpListIn_append_own _ rfl (.tmp 17) (.tmp 19) 27 rfl N 32 i0 (.agg #[.int .u8 0, .int .i64 0, .int .i64 0, .string ⟨#[]⟩]) 4 40 Try.underlying27 hi hz0 hz1 hz2 HQ.out.1 (by decide) v pre.length (wcellsL pre) ?q1 ?q2 ⟨W.heap.size, 0, none⟩ 1 1 (wcells x) ?q3 ?q4 HQ.out.2.1 HQ.out.2.2.1 HQ.out.2.2.2.1 HQ.out.2.2.2.2 ?s5 ?_; (case q1 => rfl); (case q3 => rfl); (case q4 => rfl); (case q2 => exact World.ownsRow.alloc KB.out.2.1 _); (case s5 => simp; omega); intro v' w2 hown hgrow _; obtain ⟨g', cap', rfl⟩ := ownsRow_succ hown; have hap := KB.out.1.appended (by decide) KB.out.2.1 hNW (Nat.le_refl _) hown hgrow; have hcw2 := hap.1.cell; have hfw2 := hap.1.frozen; have HAP := Aside0.mk hap; have HGR := Aside0.mk hgrow; clear hap hown hgrow)
   have hA := HAP.out
   refine ⟨hA.2.2.2.1.from _, ⟨hA.2.2.2.2, fun u hu => app_othersW (by decide) hu (by omega) KB.out.2.1 HGR.out⟩, ⟨⟨_, hA.2.1, by rw [List.length_append, wcellsL_snoc]; exact hA.2.2.1, trivial⟩, app_othersW (by decide) KB.out.2.2.1 (by omega) KB.out.2.1 HGR.out, app_othersW (by decide) KB.out.2.2.2.1 (by omega) KB.out.2.1 HGR.out, app_othersW (by decide) KB.out.2.2.2.2.1 (by omega) KB.out.2.1 HGR.out, KB.out.2.2.2.2.2.1.trans (by rw [← HNN.out]; exact hA.2.2.2.2), ?_⟩⟩
   intro p hp
   rcases List.mem_append.1 hp with h | h
   ·exact KB.out.2.2.2.2.2.2 p h
   ·rw [List.mem_singleton.1 h]; exact HX.out
 case done =>
  rintro D ys W hD rfl ⟨⟨v, hv, hrow, -⟩, h1, h2, h3, hB, hne⟩ hK
  have hcw := hv.cell
  have hfw := hv.frozen
  have hca := h1.cell
  have hfa := h1.frozen
  have hce := h2.cell
  have hfe := h2.frozen
  have KB := Aside0.mk (And.intro hv (And.intro hrow (And.intro h1 (And.intro h2 (And.intro h3 (And.intro hB hne))))))
  have HD := Aside0.mk hK
  have hv3 : ∃ A n c, v = .slice A n c := by
   rcases hrow.2 with ⟨h, _⟩ | ⟨g, cap, cur, h, _⟩
   ·exact ⟨_, _, _, h⟩
   ·exact ⟨_, _, _, h⟩
  clear hv hrow h1 h2 h3 hB hne hK hst hI hIx bW bA bE bT hB0
  obtain ⟨A, n1, cc, rfl⟩ := hv3
  gi_wp2
  have hte : (27 : TypeId) ≠ 32 := by decide
  have w1 := KB.out.1.set (.slice A n1 cc)
  have r1 := row_setW (u' := .slice A n1 cc) (by decide) KB.out.1 KB.out.2.1
  have a1 := KB.out.2.2.1.other (show N + 1 ≠ N by omega) (.slice A n1 cc)
  have e1 := KB.out.2.2.2.1.other (show N + 2 ≠ N by omega) (.slice A n1 cc)
  have d1 : (W.setCell ⟨N, 0, none⟩ (.slice A n1 cc)).heap[D]? = some (.deferred (some [])) := (Below.heap_setCell W ⟨N, 0, none⟩ _ D (by simp; omega)).trans HD.out
  have b1 := KB.out.2.2.2.2.2.1.setCell (p := ⟨N, 0, none⟩) (show w.heap.size ≤ N by rw [HNN.out]; exact Nat.le_refl _) (.slice A n1 cc)
  generalize W.setCell ⟨N, 0, none⟩ (.slice A n1 cc) = W1 at w1 r1 a1 e1 d1 b1 ⊢
  have r2 := row_setW (u' := .int .i64 0) (by decide) a1 r1
  have w2 := w1.other (show N ≠ N + 1 by omega) (.int .i64 0)
  have a2 := a1.set (.int .i64 0)
  have e2 := e1.other (show N + 2 ≠ N + 1 by omega) (.int .i64 0)
  have d2 : (W1.setCell ⟨N + 1, 0, none⟩ (.int .i64 0)).heap[D]? = some (.deferred (some [])) := (Below.heap_setCell W1 ⟨N + 1, 0, none⟩ _ D (by simp; omega)).trans d1
  have b2 := b1.setCell (p := ⟨N + 1, 0, none⟩) (show w.heap.size ≤ N + 1 by have := HNN.out; omega) (.int .i64 0)
  generalize W1.setCell ⟨N + 1, 0, none⟩ (.int .i64 0) = W2 at r2 w2 a2 e2 d2 b2 ⊢
  have r3 := row_setW (u' := .int .i64 0) (by decide) e2 r2
  have w3 := w2.other (show N ≠ N + 2 by omega) (.int .i64 0)
  have a3 := a2.other (show N + 1 ≠ N + 2 by omega) (.int .i64 0)
  have e3 := e2.set (.int .i64 0)
  have d3 : (W2.setCell ⟨N + 2, 0, none⟩ (.int .i64 0)).heap[D]? = some (.deferred (some [])) := (Below.heap_setCell W2 ⟨N + 2, 0, none⟩ _ D (by simp; omega)).trans d2
  have b3 := b2.setCell (p := ⟨N + 2, 0, none⟩) (show w.heap.size ≤ N + 2 by have := HNN.out; omega) (.int .i64 0)
  generalize W2.setCell ⟨N + 2, 0, none⟩ (.int .i64 0) = W3 at r3 w3 a3 e3 d3 b3 ⊢
  refine ⟨by simp, .inl ⟨_, _, rfl, run_takeDeferred d3, ?_⟩⟩
  have q1 := (boxed_putT (.deferred none) w3 d3 rfl).cell
  have q2 := (boxed_putT (.deferred none) a3 d3 rfl).cell
  have q3 := (boxed_putT (.deferred none) e3 d3 rfl).cell
  refine ⟨.tuple #[.slice A n1 cc, .int .i64 0, .int .i64 0], ?_, .slice A n1 cc, ?_, ?_, ?_⟩
  ·rw [results_cells3 rfl]
   go_simp
  ·rw [lex_resL_all KB.out.2.2.2.2.2.2]
  ·rw [lex_resL_all KB.out.2.2.2.2.2.2]
   have hok : ∀ k, (Value.slice A n1 cc).ownBlock = some k → k ≠ D := by
    rintro k hk rfl
    rcases r3.2 with ⟨h, _⟩ | ⟨g, cap, cur, h, _, hh, _⟩
    ·rw [h] at hk; simp [Value.ownBlock] at hk
    ·rw [h] at hk
     simp [Value.ownBlock] at hk
     subst hk
     rw [d3] at hh
     cases hh
   have hR3 : Kd.R k32 32 W3 w.heap.size (fun k => k ≠ D) (.slice A n1 cc) ys := ⟨hok, wcellsL ys, by rw [← HNN.out]; exact r3, reps_words _ _ _ _⟩
   exact Kd.R_mono (Kd.R_grown hR3 (grownBy_putObj' W3 D _) (fun k hk e => by injection e with e; exact hk e)) (fun _ _ => trivial)
  ·exact b3.trans (belowK_b (w := w) (Nat.le_refl _) W3 D _ _ (by omega) d3 rfl rfl)
 case stop =>
  rintro D c pre W hD ⟨r, hr⟩ ⟨hv, h1, h2, hB, rfl, p0, x, rfl, hx, hne⟩ hK
  have hcw := hv.cell
  have hca := h1.cell
  have hce := h2.cell
  have KB := Aside0.mk (And.intro hv (And.intro h1 (And.intro h2 hB)))
  have HD := Aside0.mk hK
  clear hv h1 h2 hB hK hst hI hIx bW bA bE bT hB0
  gi_wp2
  refine ⟨by simp, .inl ⟨_, _, rfl, run_takeDeferred HD.out, ?_⟩⟩
  have q1 := (boxed_putT (.deferred none) KB.out.1 HD.out rfl).cell
  have q2 := (boxed_putT (.deferred none) KB.out.2.1 HD.out rfl).cell
  have q3 := (boxed_putT (.deferred none) KB.out.2.2.1 HD.out rfl).cell
  have hps : ps = p0 ++ [x] ++ r := hr
  rw [lastAt_snoc] at q2
  refine ⟨.tuple #[.slice none 0 0, .int .i64 x.f1, .int .i64 4], ?_, .slice none 0 0, ?_, ?_, ?_⟩
  ·rw [results_cells3 rfl]
   go_simp
  ·rw [hps, lex_resL_stop hne hx]
  ·rw [hps, lex_resL_stop hne hx]
   exact Kd.R_nil _ _ _ _ _
  ·exact KB.out.2.2.2.trans (belowK_b (w := w) (Nat.le_refl _) W D _ _ (by omega) HD.out rfl rfl)
set_option maxHeartbeats 1000000 in
theorem lex_Words_long (s : ByteArray) (hs : 65536 < s.size) (w : World) :
  Calls Try.prog 14 #[.string s] w fun e w' => e = .returned (.tuple #[.slice none 0 0, .int .i64 65536, .int .i64 40]) ∧ Below w.heap.size w w' := by
 have c1 : decide ((65536 : Int) < (s.size : Int)) = true := decide_eq_true (by omega)
 have c2 : decide (65536 < s.size) = true := decide_eq_true hs
 go_enter Try.func14, Try.ntmps14
 go_wp2
 (try simp only [Exit.inBlock, Exit.then])
 refine bodyPost_ret (v := .tuple #[.slice none 0 0, .int .i64 65536, .int .i64 40]) ?_ rfl ⟨rfl, ?_⟩
 ·rw [results_cells3 rfl]
  go_simp
 ·exact below_alloc (below_alloc (below_alloc (Below.refl _ _) _) _) _
theorem lex_Words.calls (k : Nat) (a0 : ByteArray) (r1 : List (S32)) (r2 : Int) (r3 : Int) (w : World) (h : lex_Words.f k a0 = some (r1, r2, r3)) :
  Calls Try.prog 14 #[.string a0] w fun e w' => ∃ v0_ : Value, e = .returned (.tuple #[v0_, .int .i64 r2, .int .i64 r3]) ∧ Kd.R k32 32 w' w.heap.size (fun _ => True) v0_ r1 ∧ Below w.heap.size w w' := by
 unfold lex_Words.f at h
 by_cases c : (a0.size : Int) > 65536
 ·rw [if_pos c] at h
  have h' := Option.some.inj h
  simp only [Prod.mk.injEq] at h'
  obtain ⟨rfl, rfl, rfl⟩ := h'
  exact (lex_Words_long a0 (by omega) w).mono fun e w' ⟨h1, h2⟩ => ⟨_, h1, Kd.R_nil _ _ _ _ _, h2⟩
 ·rw [if_neg c] at h
  obtain ⟨g, hg, h⟩ := Option.bind_eq_some_iff.mp h
  by_cases d : 0 ≤ g ∧ g ≤ (a0.size : Int)
  ·rw [if_pos d] at h
   obtain ⟨l, hl, h⟩ := Option.bind_eq_some_iff.mp h
   by_cases e : l.length ≤ 65536
   ·rw [if_pos e] at h
    have h' := Option.some.inj h
    have := lex_Words_some k a0 (by omega) g l hg d.1 d.2 hl e w
    rw [h'] at this
    exact this
   ·rw [if_neg e] at h; cases h
  ·rw [if_neg d] at h; cases h
end

end Go.Proofs.Ytgikmpgpccfiiaa.PSxp
