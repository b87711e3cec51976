/- Texts of the seat Ythdhpihfbggbbaa that belong together, joined. -/
import Derived.Test.YthdhpihfbggbbaaGNatFulltoPNatx1
import Derived.Test.YthdhpihfbggbbaaVal
import Derived.RangeFuncBox
import Derived.RangeFuncNested
import Derived.RangeFuncLeaves
import Derived.RangeFuncCalls
import Derived.Shelf.Abstract
import Derived.OwnWalkIn
import Derived.TacticsInMore
import Derived.LoopNIn
import Derived.LoopIn
-- A text of the seat Ythdhpihfbggbbaa, written by a program of this session (drive.py).
namespace Go.Proofs.Ythdhpihfbggbbaa.PNat
open Go.RowKit Go.Proofs.YthdhpihfbggbbaaW.PrintWords Go.Proofs.YthdhpihfbggbbaaW.PrintLast Go.Proofs.YthdhpihfbggbbaaW.PrintMore
attribute [local go_sem] max2_int min2_int max_two min_two max_three min_three max_four min_four   -- for this text's walks alone
set_option linter.unusedVariables false
set_option linter.unusedSimpArgs false

-- BY HAND: alidade/nat.may: function 36
-- IMPORT Derived.Test.YthdhpihfbggbbaaVal
-- IMPORT Derived.RangeFuncBox
theorem nat_May_val (l : List Int) (h : l.length ≤ 9223372036854775807) : nat_May.f l = some (YthdhpihfbggbbaaV.may l) := by
  unfold nat_May.f YthdhpihfbggbbaaV.may rd
  by_cases h1 : (l.length : Int) ≤ 65536
  · rw [if_pos h1]
    by_cases h2 : (l.length : Int) = 0
    · rw [if_pos h2]
      have : l.length = 0 := by omega
      simp [this]
    · rw [if_neg h2]
      have hw : wrap64 ((l.length : Int) - 1) = (l.length : Int) - 1 := by unfold wrap64; omega
      rw [hw, if_pos (by omega), if_pos (by omega)]
      have h3 : ((l.length : Int) - 1).toNat = l.length - 1 := by omega
      rw [h3]
      have h4 : decide (l.length ≤ 65536) = true := decide_eq_true (by omega)
      have h5 : decide (l.length = 0) = false := decide_eq_false (by omega)
      rw [h4, h5]; simp
  · rw [if_neg h1]
    have h4 : decide (l.length ≤ 65536) = false := decide_eq_false (by omega)
    rw [h4]; rfl
set_option maxHeartbeats 1000000 in
theorem nat_may_1.calls (A0 : Option Addr) (c0 : Nat) (l0 : List Int) (w : World) (hr0 : Kd.C (Kd.int .u32) w A0 l0.length l0) (hc0 : l0.length ≤ c0) :
    Calls Try.prog 49 #[.slice A0 l0.length c0] w fun e w' => e = .returned (.bool (!YthdhpihfbggbbaaV.may l0)) ∧ Drawn0 w w' := by
  have HM := nat_May.calls A0 c0 l0 (YthdhpihfbggbbaaV.may l0) w hr0 hc0 (nat_May_val l0 hr0.2.1)
  generalize YthdhpihfbggbbaaV.may l0 = r at HM ⊢
  go_enter Try.func49, Try.ntmps49
  go_wp2_with (go_at_call 11; refine HM.mono ?_; rintro e w' ⟨rfl, ⟨nd, rfl⟩⟩)
  go_ret
  exact ⟨rfl, ⟨nd, rfl⟩⟩
theorem drawn_cell {w w' : World} (h : Drawn0 w w') (a : Addr) : w'.cell? a = w.cell? a := by
  obtain ⟨n, rfl⟩ := h
  rfl
theorem drawn_trans {w w1 w2 : World} (h : Drawn0 w w1) (k : Drawn0 w1 w2) : Drawn0 w w2 := by
  obtain ⟨n, rfl⟩ := h
  obtain ⟨m, rfl⟩ := k
  exact ⟨⟨n + m, World.drewN_drewN ..⟩⟩
theorem Kd.C_drawn {α : Type} {d : Kd α} {w w' : World} {A : Option Addr} {n : Nat} {xs : List α} (h : d.C w A n xs) (hd : Drawn0 w w') : d.C w' A n xs := Kd.C_below h hd.below
def nat_may_which (r0 r1 : Bool) : Int := if r0 = false then 0 else if r1 = false then 1 else -1
set_option maxHeartbeats 2000000 in
theorem nat_may_index (A0 : Option Addr) (c0 : Nat) (l0 : List Int) (A1 : Option Addr) (c1 : Nat) (l1 : List Int) (b : Nat) (w : World)
    (hb0 : w.cell? ⟨b, 0, none⟩ = some (.slice A0 l0.length c0)) (hb1 : w.cell? ⟨b, 1, none⟩ = some (.slice A1 l1.length c1))
    (hr0 : Kd.C (Kd.int .u32) w A0 l0.length l0) (hc0 : l0.length ≤ c0) (hr1 : Kd.C (Kd.int .u32) w A1 l1.length l1) (hc1 : l1.length ≤ c1) :
    Calls Try.prog 54 #[.slice (some ⟨b, 0, none⟩) 2 2, .func (.func 49) #[] #[]] w fun e w' => e = .returned (.int .i64 (nat_may_which (YthdhpihfbggbbaaV.may l0) (YthdhpihfbggbbaaV.may l1))) ∧ Drawn0 w w' := by
  have H0 := fun W (h : Drawn0 w W) => nat_may_1.calls A0 c0 l0 W (Kd.C_drawn hr0 h) hc0
  have H1 := fun W (h : Drawn0 w W) => nat_may_1.calls A1 c1 l1 W (Kd.C_drawn hr1 h) hc1
  generalize YthdhpihfbggbbaaV.may l0 = r0 at H0 ⊢
  generalize YthdhpihfbggbbaaV.may l1 = r1 at H1 ⊢
  have K0 := Aside0.mk H0
  have K1 := Aside0.mk H1
  have K2 := Aside0.mk hb0
  have K3 := Aside0.mk hb1
  clear H0 H1 hb0 hb1 hr0 hr1 hc0 hc1
  go_enter Try.func54, Try.ntmps54
  go_wp2
  go_loopw [8] (fun i wr => ∃ k : Nat, k ≤ 2 ∧ i = .int .i64 k ∧ Aside0 (1 ≤ k → r0 = true) ∧ Aside0 (2 ≤ k → r1 = true) ∧ Aside0 (Drawn0 w wr)) (fun i _ => 2 - (intOf i).toNat)
  case atStart => exact ⟨0, by omega, rfl, ⟨by omega⟩, ⟨by omega⟩, ⟨Drawn0.refl _⟩⟩
  case round =>
    obtain ⟨k, hk, rfl, P0, P1, HD⟩ := hrel
    match k, hk, P0, P1 with
    | 0, _, _, _ =>
      have hcell := (drawn_cell HD.out ⟨b, 0, none⟩).trans K2.out
      cases r0 with
      | false =>
        go_wp2_with (go_at_call 49; refine (K0.out _ HD.out).mono ?_; rintro e w' ⟨rfl, HD2⟩)
        go_ret
        exact ⟨rfl, drawn_trans HD.out HD2⟩
      | true =>
        go_wp2_with (go_at_call 49; refine (K0.out _ HD.out).mono ?_; rintro e w' ⟨rfl, HD2⟩)
        go_roundw
        case rel => exact ⟨1, by omega, by rfl, ⟨by simp⟩, ⟨by omega⟩, ⟨drawn_trans HD.out HD2⟩⟩
        case measure => simp [intOf]
    | 1, _, P0, _ =>
      have hcell := (drawn_cell HD.out ⟨b, 1, none⟩).trans K3.out
      obtain rfl : r0 = true := P0.out (by omega)
      cases r1 with
      | false =>
        go_wp2_with (go_at_call 49; refine (K1.out _ HD.out).mono ?_; rintro e w' ⟨rfl, HD2⟩)
        go_ret
        exact ⟨rfl, drawn_trans HD.out HD2⟩
      | true =>
        go_wp2_with (go_at_call 49; refine (K1.out _ HD.out).mono ?_; rintro e w' ⟨rfl, HD2⟩)
        go_roundw
        case rel => exact ⟨2, by omega, by rfl, ⟨by simp⟩, ⟨by simp⟩, ⟨drawn_trans HD.out HD2⟩⟩
        case measure => simp [intOf]
    | 2, _, P0, P1 =>
      obtain rfl : r0 = true := P0.out (by omega)
      obtain rfl : r1 = true := P1.out (by omega)
      go_wp2
      go_ret
      exact ⟨rfl, HD.out⟩
theorem nat_may_geq (r0 r1 : Bool) : decide (nat_may_which r0 r1 ≥ 0) = !(r0 && r1) := by cases r0 <;> cases r1 <;> rfl
set_option maxHeartbeats 2000000 in
theorem nat_may.two (A0 : Option Addr) (c0 : Nat) (l0 : List Int) (A1 : Option Addr) (c1 : Nat) (l1 : List Int) (b : Nat) (w : World)
    (hb0 : w.cell? ⟨b, 0, none⟩ = some (.slice A0 l0.length c0)) (hb1 : w.cell? ⟨b, 1, none⟩ = some (.slice A1 l1.length c1))
    (hr0 : Kd.C (Kd.int .u32) w A0 l0.length l0) (hc0 : l0.length ≤ c0) (hr1 : Kd.C (Kd.int .u32) w A1 l1.length l1) (hc1 : l1.length ≤ c1) :
    Calls Try.prog 36 #[.slice (some ⟨b, 0, none⟩) 2 2] w fun e w' => e = .returned (.bool (YthdhpihfbggbbaaV.may l0 && YthdhpihfbggbbaaV.may l1)) ∧ Drawn0 w w' := by
  have HI := nat_may_index A0 c0 l0 A1 c1 l1 b w hb0 hb1 hr0 hc0 hr1 hc1
  have HK := Aside0.mk HI
  clear HI hb0 hb1 hr0 hc0 hr1 hc1
  generalize YthdhpihfbggbbaaV.may l0 = r0 at HK ⊢
  generalize YthdhpihfbggbbaaV.may l1 = r1 at HK ⊢
  cases r0 <;> cases r1
  all_goals
    go_enter Try.func36, Try.ntmps36
    go_wp2_with (first | (go_at_call 54; refine HK.out.mono ?_; rintro e w' ⟨rfl, ⟨nd, rfl⟩⟩; simp only [nat_may_which, if_true, if_false]) | go_in)
    go_ret
    exact ⟨rfl, ⟨nd, rfl⟩⟩
/-- 'may(a, b)', the two in a box of their own. -/
theorem may2 {w : World} {A0 : Option Addr} {c0 : Nat} {l0 : List Int} {A1 : Option Addr} {c1 : Nat} {l1 : List Int} (hr0 : Kd.C (Kd.int .u32) w A0 l0.length l0) (hc0 : l0.length ≤ c0) (hr1 : Kd.C (Kd.int .u32) w A1 l1.length l1) (hc1 : l1.length ≤ c1) :
    Calls Try.prog 36 #[.slice (some ⟨w.heap.size, 0, none⟩) 2 2] (w.alloc (.cells #[.slice A0 l0.length c0, .slice A1 l1.length c1] 22)) fun e w' => e = .returned (.bool (YthdhpihfbggbbaaV.may l0 && YthdhpihfbggbbaaV.may l1)) ∧ Drawn0 (w.alloc (.cells #[.slice A0 l0.length c0, .slice A1 l1.length c1] 22)) w' := by
  have hn := World.alloc_heap_new w (.cells #[.slice A0 l0.length c0, .slice A1 l1.length c1] 22)
  refine nat_may.two A0 c0 l0 A1 c1 l1 w.heap.size _ ?_ ?_ (Kd.C_alloc hr0 _) hc0 (Kd.C_alloc hr1 _) hc1
  · unfold World.cell?; rw [hn]; rfl
  · unfold World.cell?; rw [hn]; rfl

end Go.Proofs.Ythdhpihfbggbbaa.PNat

-- A text of the seat Ythdhpihfbggbbaa, written by a program of this session (drive.py).
namespace Go.Proofs.Ythdhpihfbggbbaa.PNat
open Go.RowKit Go.Proofs.YthdhpihfbggbbaaW.PrintWords Go.Proofs.YthdhpihfbggbbaaW.PrintLast Go.Proofs.YthdhpihfbggbbaaW.PrintMore
attribute [local go_sem] max2_int min2_int max_two min_two max_three min_three max_four min_four   -- for this text's walks alone
set_option linter.unusedVariables false
set_option linter.unusedSimpArgs false

-- BY HAND: alidade/nat.pairs: function 37
-- IMPORT Derived.Test.YthdhpihfbggbbaaVal
-- IMPORT Derived.RangeFuncBox
-- IMPORT Derived.RangeFuncNested
-- IMPORT Derived.RangeFuncLeaves
-- IMPORT Derived.RangeFuncCalls
-- IMPORT Derived.Shelf.Abstract
-- IMPORT Derived.OwnWalkIn
-- IMPORT Derived.TacticsInMore
-- IMPORT Derived.LoopNIn
-- IMPORT Derived.LoopIn
section
open Go.Shelf
attribute [local go_sem] Oper.semAt_some
def upto_ {α : Type} (f : Nat → α) (k : Nat) : List α := (List.range k).map f
theorem upto_succ {α : Type} (f : Nat → α) (k : Nat) : upto_ f (k + 1) = upto_ f k ++ [f k] := by simp [upto_, List.range_succ]
theorem upto_length {α : Type} (f : Nat → α) (k : Nat) : (upto_ f k).length = k := by simp [upto_]
def pairL (a b : List Int) (i : Nat) : Int × Int := (a.getD i 0, b.getD i 0)
/-- What a round keeps: what lay below n₀, and two variables. -/
structure KpB (n₀ B0 B1 : Nat) (W W' : World) : Prop where
  below : Below n₀ W W'
  box0 : ∀ v, Boxed W B0 22 v → Boxed W' B0 22 v
  box1 : ∀ v, Boxed W B1 22 v → Boxed W' B1 22 v
theorem KpB.trans_ {n₀ B0 B1 : Nat} {A B C : World} (h : KpB n₀ B0 B1 A B) (k : KpB n₀ B0 B1 B C) : KpB n₀ B0 B1 A C := ⟨h.below.trans k.below, fun v hv => k.box0 v (h.box0 v hv), fun v hv => k.box1 v (h.box1 v hv)⟩
theorem boxed_put {W : World} {B l : Nat} {t : TypeId} {v : Value} {o : Obj} (o' : Obj) (h : Boxed W B t v) (hl : W.heap[l]? = some o) (ho : o.isCells = false) : Boxed (W.putObj l o') B t v := by
  refine h.kept (grownBy_putObj' W l o') (fun e => ?_)
  injection e with e
  subst e
  rw [show W.heap[B]? = _ from h] at hl
  cases hl
  cases ho
theorem KpB.put_ {n₀ B0 B1 : Nat} {w : World} (hn : n₀ ≤ w.heap.size) (W : World) (l : Nat) (o o' : Obj) (hl : w.heap.size ≤ l) (h : W.heap[l]? = some o) (hc : o.isCells = false) (hw : o.isWalk = false) : KpB n₀ B0 B1 W (W.putObj l o') :=
  ⟨belowK_b hn W l o o' hl h hc hw, fun _ hv => boxed_put o' hv h hc, fun _ hv => boxed_put o' hv h hc⟩
set_option maxRecDepth 100000 in
set_option maxHeartbeats 4000000 in
theorem nat_pairs1_in (F : Fence) (n : Nat) (hf : F.fn 50) (hro : F.round = none) (hn : 1 ≤ n) (l B0 B1 n₀ : Nat) (A0 : Option Addr) (c0 : Nat) (l0 : List Int) (A1 : Option Addr) (c1 : Nat) (l1 : List Int) (M : Nat) (hM : M = max l0.length l1.length) (J Jx : List (Int × Int) → World → Prop)
    (hY : ∀ pre x W, J pre W → pre.length < M → YieldAt F (n - 1) Try.prog l #[.int .u32 x.1, .int .u32 x.2] W fun e W' =>
      (e = .returned (.bool true) ∧ J (pre ++ [x]) W' ∧ KpB n₀ B0 B1 W W') ∨ (e = .returned (.bool false) ∧ Jx (pre ++ [x]) W'))
    (W : World) (hb0 : Boxed W B0 22 (.slice A0 l0.length c0)) (hb1 : Boxed W B1 22 (.slice A1 l1.length c1))
    (hr0 : ∀ W', Below n₀ W W' → Kd.C (Kd.int .u32) W' A0 l0.length l0) (hr1 : ∀ W', Below n₀ W W' → Kd.C (Kd.int .u32) W' A1 l1.length l1) (h0 : J [] W) :
    CallsIn F n Try.prog 50 #[.func (.yield l) #[] #[], .pointer (some ⟨B0, 0, none⟩), .pointer (some ⟨B1, 0, none⟩)] W fun e W' => (∃ v, e = .returned v) ∧
      ((∃ ys, ys = upto_ (pairL l0 l1) M ∧ J ys W') ∨ (∃ pre : List (Int × Int), (∃ k, k ≤ M ∧ pre = upto_ (pairL l0 l1) k) ∧ Jx pre W')) := by
  have hm0 := (hr0 W (Below.refl _ _)).2.1
  have hm1 := (hr1 W (Below.refl _ _)).2.1
  have hMi : (if (l0.length : Int) < (l1.length : Int) then (l1.length : Int) else (l0.length : Int)) = (M : Int) := by
    rw [hM]
    by_cases h : (l0.length : Int) < (l1.length : Int)
    · rw [if_pos h]; omega
    · rw [if_neg h]; omega
  have hMn : (if l0.length < l1.length then (l1.length : Int) else (l0.length : Int)) = (M : Int) := by
    rw [← hMi]; simp only [Int.ofNat_lt]
  have hMx : M ≤ 9223372036854775807 := by omega
  have HM := Aside0.mk hM
  have K0 := Aside0.mk hr0
  have K1 := Aside0.mk hr1
  have K2 := Aside0.mk hY
  clear hr0 hr1 hM hY
  have hc0 := hb0.cell
  have hc1 := hb1.cell
  have X0 := Aside0.mk hb0
  have X1 := Aside0.mk hb1
  clear hb0 hb1
  refine callsIn_of_wp Try.func50 rfl hf ?_ hro
  simp only [Try.ntmps50, List.size_toArray, List.length_cons, List.length_nil, Nat.reduceAdd, Nat.reduceSub, Array.replicate_succ, Array.replicate_zero, List.push_toArray, List.append_toArray, List.nil_append, List.cons_append]
  gi_wp2
  clear hMi hMn hc0 hc1
  gi_loopw [12] (fun i wr => ∃ k : Nat, k ≤ M ∧ i = .int .i64 k ∧ J (upto_ (pairL l0 l1) k) wr ∧ Aside0 (KpB n₀ B0 B1 W wr))
    (fun i _ => M - (intOf i).toNat)
  case atStart => exact ⟨0, Nat.zero_le _, rfl, h0, ⟨Below.refl _ _, fun _ h => h, fun _ h => h⟩⟩
  case round =>
    obtain ⟨k, hk, rfl, hJs, hnx⟩ := hrel
    have hb0 := (hnx.out.box0 _ X0.out).cell
    have hb1 := (hnx.out.box1 _ X1.out).cell
    by_cases hlt : k < M
    · have hC0 := K0.out _ hnx.out.below
      have hC1 := K1.out _ hnx.out.below
      have q0 : l0.length ≤ k → l0.getD k 0 = 0 := fun h => by rw [List.getD_eq_getElem?_getD, List.getElem?_eq_none h]; rfl
      have q1 : l1.length ≤ k → l1.getD k 0 = 0 := fun h => by rw [List.getD_eq_getElem?_getD, List.getElem?_eq_none h]; rfl
      have p0 : k < l0.length → ∃ ad, A0 = some ad ∧ wr.cell? (ad.add k) = some (.int .u32 (l0.getD k 0)) := fun h => by
        obtain ⟨a0, e0, g0⟩ := Kd.at_int hC0 (k : Int) (by omega) (by omega)
        exact ⟨a0, e0, g0⟩
      have p1 : k < l1.length → ∃ ad, A1 = some ad ∧ wr.cell? (ad.add k) = some (.int .u32 (l1.getD k 0)) := fun h => by
        obtain ⟨a0, e0, g0⟩ := Kd.at_int hC1 (k : Int) (by omega) (by omega)
        exact ⟨a0, e0, g0⟩
      have hx : pairL l0 l1 k = (l0.getD k 0, l1.getD k 0) := rfl
      generalize l0.getD k 0 = x0 at q0 p0 hx
      generalize l1.getD k 0 = x1 at q1 p1 hx
      obtain ⟨fn, tmps, assign, body, hy, hR⟩ := K2.out _ (x0, x1) wr hJs (by rw [upto_length]; exact hlt)
      dsimp only at hy
      have HR := Aside0.mk hR
      have HX := Aside0.mk hx
      clear hR hC0 hC1 hx
      by_cases ha : k < l0.length <;> by_cases hb : k < l1.length
      · obtain ⟨a0, rfl, g0⟩ := p0 ha
        obtain ⟨a1, rfl, g1⟩ := p1 hb
        clear q0 q1 p0 p1
        gi_wp2
        refine HR.out.mono ?_
        rintro e W3 (⟨rfl, hJ3, hk3⟩ | ⟨rfl, hJx3⟩)
        · gi_wp2
          go_roundw
          case rel => exact ⟨k + 1, by omega, by simp, by rw [upto_succ, HX.out]; exact hJ3, ⟨hnx.out.trans_ hk3⟩⟩
          case measure => simp [intOf]; omega
        · gi_wp2
          refine bodyPost_ret (results_none rfl _ _ _) rfl ?_
          exact ⟨⟨_, rfl⟩, .inr ⟨_, ⟨k + 1, by omega, by rw [upto_succ, HX.out]⟩, hJx3⟩⟩
      · obtain ⟨a0, rfl, g0⟩ := p0 ha
        obtain rfl := q1 (by omega)
        clear q0 q1 p0 p1
        gi_wp2
        refine HR.out.mono ?_
        rintro e W3 (⟨rfl, hJ3, hk3⟩ | ⟨rfl, hJx3⟩)
        · gi_wp2
          go_roundw
          case rel => exact ⟨k + 1, by omega, by simp, by rw [upto_succ, HX.out]; exact hJ3, ⟨hnx.out.trans_ hk3⟩⟩
          case measure => simp [intOf]; omega
        · gi_wp2
          refine bodyPost_ret (results_none rfl _ _ _) rfl ?_
          exact ⟨⟨_, rfl⟩, .inr ⟨_, ⟨k + 1, by omega, by rw [upto_succ, HX.out]⟩, hJx3⟩⟩
      · obtain ⟨a1, rfl, g1⟩ := p1 hb
        obtain rfl := q0 (by omega)
        clear q0 q1 p0 p1
        gi_wp2
        refine HR.out.mono ?_
        rintro e W3 (⟨rfl, hJ3, hk3⟩ | ⟨rfl, hJx3⟩)
        · gi_wp2
          go_roundw
          case rel => exact ⟨k + 1, by omega, by simp, by rw [upto_succ, HX.out]; exact hJ3, ⟨hnx.out.trans_ hk3⟩⟩
          case measure => simp [intOf]; omega
        · gi_wp2
          refine bodyPost_ret (results_none rfl _ _ _) rfl ?_
          exact ⟨⟨_, rfl⟩, .inr ⟨_, ⟨k + 1, by omega, by rw [upto_succ, HX.out]⟩, hJx3⟩⟩
      · have := HM.out
        omega
    · obtain rfl : k = M := by omega
      gi_wp2
      go_end0
      exact ⟨⟨_, rfl⟩, .inl ⟨_, rfl, hJs⟩⟩
set_option maxHeartbeats 1000000 in
theorem nat_pairs_in (F : Fence) (n : Nat) (hf : F.fn 37) (hro : F.round = none) (v0 v1 : Value) (h0 : v0.oneCell' = true) (h1 : v1.oneCell' = true) (w : World) :
    CallsIn F n Try.prog 37 #[v0, v1] w fun e w' => e = .returned (.func (.func 50) #[] #[.pointer (some ⟨w.heap.size, 0, none⟩), .pointer (some ⟨w.heap.size + 1, 0, none⟩)]) ∧ w' = (w.alloc (.cells #[v0] 22)).alloc (.cells #[v1] 22) := by
  refine callsIn_of_wp Try.func37 rfl hf ?_ hro
  simp only [Try.ntmps37, List.size_toArray, List.length_cons, List.length_nil, Nat.reduceAdd, Nat.reduceSub, Array.replicate_succ, Array.replicate_zero, List.push_toArray, List.append_toArray, List.nil_append, List.cons_append]
  gi_wp2
  go_ret
  exact ⟨rfl, rfl⟩
end

end Go.Proofs.Ythdhpihfbggbbaa.PNat
