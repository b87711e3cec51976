-- A text of the seat Ythdhpihfbggbbaa, written by a program of this session (drive.py).
import Derived.Test.YthdhpihfbggbbaaGNatFulltoPNatx1
import Derived.Test.YthdhpihfbggbbaaGPNatx2toPNatx3
import Derived.Test.YthdhpihfbggbbaaGPNatx2toPNatx3
import Derived.Test.YthdhpihfbggbbaaPNatx4
import Derived.Test.YthdhpihfbggbbaaVal
import Derived.Laws.BitsLemmas
import Derived.WalkSpells
namespace Go.Proofs.Ythdhpihfbggbbaa.PNat
open Go.RowKit Go.Proofs.YthdhpihfbggbbaaW.PrintWords Go.Proofs.YthdhpihfbggbbaaW.PrintLast Go.Proofs.YthdhpihfbggbbaaW.PrintMore
attribute [local go_sem] max2_int min2_int max_two min_two max_three min_three max_four min_four   -- for this text's walks alone
set_option linter.unusedVariables false
set_option linter.unusedSimpArgs false

-- BY HAND: alidade/nat.Add: function 12
-- IMPORT Derived.Test.YthdhpihfbggbbaaVal
-- IMPORT Derived.Laws.BitsLemmas
-- IMPORT Derived.WalkSpells
theorem pairs_stops (F : Fence) (n : Nat) (hf : F.fn 50) (hro : F.round = none) (hn : 1 ≤ n) (B0 B1 n₀ : Nat) (A0 : Option Addr) (c0 : Nat) (l0 : List Int) (A1 : Option Addr) (c1 : Nat) (l1 : List Int) (w : World) (hn₀ : n₀ ≤ w.heap.size)
    (hb0 : Boxed w B0 22 (.slice A0 l0.length c0)) (hb1 : Boxed w B1 22 (.slice A1 l1.length c1))
    (hr0 : ∀ W', Below n₀ w W' → Kd.C (Kd.int .u32) W' A0 l0.length l0) (hr1 : ∀ W', Below n₀ w W' → Kd.C (Kd.int .u32) W' A1 l1.length l1) :
    SeqStopsK F n Try.prog 50 #[.pointer (some ⟨B0, 0, none⟩), .pointer (some ⟨B1, 0, none⟩)] (fun x : Int × Int => #[Value.int .u32 x.1, Value.int .u32 x.2]) (KpB n₀ B0 B1) (fun ys => ys = upto_ (pairL l0 l1) (max l0.length l1.length)) (fun pre => ∃ k, k ≤ max l0.length l1.length ∧ pre = upto_ (pairL l0 l1) k) (max l0.length l1.length) w := fun l J Jx W hW _ _ hY h0 =>
  nat_pairs1_in F n hf hro hn l B0 B1 n₀ A0 c0 l0 A1 c1 l1 (max l0.length l1.length) rfl J Jx hY W ((hW.block B0 hb0.lt).trans hb0) ((hW.block B1 hb1.lt).trans hb1) (fun W' h => hr0 W' ((hW.mono hn₀).trans h)) (fun W' h => hr1 W' ((hW.mono hn₀).trans h)) h0
/-- Behind a round that stores a carry and appends within the room there is. -/
theorem fits_body {W w1 : World} {n₀ N g j cap Bz : Nat} {c c' : Value} {S0 S1 : Value} {xs ys : List Value} {tmp : Obj} {tc : TypeId} (hg : g < N) (hn : n₀ ≤ g) (hz : N ≤ W.heap.size)
    (hO : Boxed W N 22 (.slice (some ⟨g, 0, none⟩) j cap)) (hC : Boxed W (N + 1) tc c) (h0 : Boxed W (N + 2) 22 S0) (h1 : Boxed W (N + 3) 22 S1)
    (hrow : W.ownsRow n₀ 37 1 (.slice (some ⟨g, 0, none⟩) j cap) j xs)
    (hown' : w1.ownsRow n₀ 37 1 (.slice (some ⟨g, 0, none⟩) (j + 1) cap) (j + 1) ys) (hgrow : ((W.setCell ⟨N + 1, 0, none⟩ c').alloc tmp).grownBy w1 (some g)) :
    Boxed w1 N 22 (.slice (some ⟨g, 0, none⟩) j cap) ∧ KeepsFrom Bz W (w1.setCell ⟨N, 0, none⟩ (.slice (some ⟨g, 0, none⟩) (j + 1) cap)) ∧ KpB n₀ (N + 2) (N + 3) W (w1.setCell ⟨N, 0, none⟩ (.slice (some ⟨g, 0, none⟩) (j + 1) cap)) ∧
    Boxed (w1.setCell ⟨N, 0, none⟩ (.slice (some ⟨g, 0, none⟩) (j + 1) cap)) N 22 (.slice (some ⟨g, 0, none⟩) (j + 1) cap) ∧ Boxed (w1.setCell ⟨N, 0, none⟩ (.slice (some ⟨g, 0, none⟩) (j + 1) cap)) (N + 1) tc c' ∧
    Boxed (w1.setCell ⟨N, 0, none⟩ (.slice (some ⟨g, 0, none⟩) (j + 1) cap)) (N + 2) 22 S0 ∧ Boxed (w1.setCell ⟨N, 0, none⟩ (.slice (some ⟨g, 0, none⟩) (j + 1) cap)) (N + 3) 22 S1 ∧
    (w1.setCell ⟨N, 0, none⟩ (.slice (some ⟨g, 0, none⟩) (j + 1) cap)).ownsRow n₀ 37 1 (.slice (some ⟨g, 0, none⟩) (j + 1) cap) (j + 1) ys := by
  have hne : ∀ {B : Nat}, g < B → some B ≠ some g := fun h e => by injection e with e; omega
  have step : ∀ {B : Nat} {t : TypeId} {v : Value}, g < B → B ≠ N + 1 → B ≠ N → Boxed W B t v → Boxed (w1.setCell ⟨N, 0, none⟩ (.slice (some ⟨g, 0, none⟩) (j + 1) cap)) B t v := fun h1 h2 h3 h =>
    (((h.other h2 _).alloc tmp).kept hgrow (hne h1)).other h3 _
  have hgc : ((W.setCell ⟨N + 1, 0, none⟩ c').alloc tmp).heap[g]? = W.heap[g]? := by
    have hlt : g < W.heap.size := by omega
    rw [Below.heap_alloc _ _ _ (by simpa using hlt), Below.heap_setCell W ⟨N + 1, 0, none⟩ c' g (by simp; omega)]
  have hgcell : ∃ o : Obj, W.heap[g]? = some o ∧ o.isCells = true := by
    rcases hrow.2 with ⟨h, _⟩ | ⟨g', cap', cur, h, _, hh, _⟩
    · cases h
    · injection h with h _ _
      injection h with h
      injection h with h _ _
      subst h
      exact ⟨_, hh, rfl⟩
  refine ⟨((hO.other (by omega) _).alloc tmp).kept hgrow (hne hg), ?_, ⟨?_, fun v hv => step (by omega) (by omega) (by omega) hv, fun v hv => step (by omega) (by omega) (by omega) hv⟩, (((hO.other (by omega) _).alloc tmp).kept hgrow (hne hg)).set _, ((((hC.set c').alloc tmp).kept hgrow (hne (by omega))).other (by omega) _), step (by omega) (by omega) (by omega) h0, step (by omega) (by omega) (by omega) h1, ?_⟩
  · refine KeepsOthers.from ?_ _
    refine (((KeepsOthers.setCell _ _ _).trans (KeepsOthers.alloc _ tmp)).trans (KeepsOthers.of_grownBy hgrow fun k o ek hk => ?_)).trans (KeepsOthers.setCell _ _ _)
    injection ek with ek
    subst ek
    rw [hgc] at hk
    obtain ⟨o', h1, h2⟩ := hgcell
    rw [hk] at h1
    injection h1 with h1
    rw [h1]; exact h2
  · refine ((((Below.refl n₀ W).setCell (p := ⟨N + 1, 0, none⟩) (show n₀ ≤ N + 1 by omega) c').alloc (by simp; omega) tmp).grown hgrow (by simp; omega) fun k ek => by injection ek with ek; omega).setCell (p := ⟨N, 0, none⟩) (show n₀ ≤ N by omega) _
  · refine hown'.kept (grownBy_setCell' w1 N _) (.inr ?_)
    simp [Value.ownBlock]; omega
theorem cell_one_set (W : World) (p : Addr) (u v : Value) (t : TypeId) : ∀ (j : Nat) (x : Value), [v][j]? = some x → ((W.setCell p u).alloc (.cells #[v] t)).cell? ((⟨W.heap.size, 0, none⟩ : Addr).add j) = some x := by
  have h := cell_one_new (W.setCell p u) v t
  have e : (W.setCell p u).heap.size = W.heap.size := by simp
  rw [e] at h
  exact h
def a32 (x y c : Int) : Int × Int := ((IntKind.u64.wrap ((IntKind.u64.wrap ((IntKind.u64.wrap x) + (IntKind.u64.wrap y))) + (IntKind.u64.wrap c))) % 4294967296, ((IntKind.u64.wrap ((IntKind.u64.wrap ((IntKind.u64.wrap x) + (IntKind.u64.wrap y))) + (IntKind.u64.wrap c))) / 4294967296) % 4294967296)
theorem add32_of (x y c : Int) (w : World) : Calls Try.prog 38 #[.int .u32 x, .int .u32 y, .int .u32 c] w fun e w' => e = .returned (.tuple #[.int .u32 (a32 x y c).1, .int .u32 (a32 x y c).2]) ∧ w = w' := by
  go_enter Try.func38, Try.ntmps38
  go_wp2
  go_ret2
  exact ⟨rfl, rfl⟩
def addStep (s : List Int × Int) (x : Int × Int) : List Int × Int := (s.1 ++ [(a32 x.1 x.2 s.2).1], (a32 x.1 x.2 s.2).2)
def addOf (xs : List (Int × Int)) : List Int × Int := xs.foldl addStep ([], 0)
theorem addOf_snoc (xs : List (Int × Int)) (x : Int × Int) : addOf (xs ++ [x]) = addStep (addOf xs) x := by simp [addOf]
theorem addOf_length (xs : List (Int × Int)) : (addOf xs).1.length = xs.length := by
  generalize hn : xs.length = n
  induction n generalizing xs with
  | zero =>
    have : xs = [] := List.length_eq_zero_iff.1 hn
    subst this; rfl
  | succ n ih =>
    rcases List.eq_nil_or_concat xs with rfl | ⟨a, x, rfl⟩
    · simp at hn
    · rw [List.concat_eq_append] at hn ⊢
      rw [addOf_snoc]
      simp only [addStep, List.length_append, List.length_singleton]
      rw [ih a (by simpa using hn)]
theorem a32_val {x y c : Int} (hx : 0 ≤ x ∧ x < 4294967296) (hy : 0 ≤ y ∧ y < 4294967296) (hc : 0 ≤ c ∧ c ≤ 1) :
    (0 ≤ (a32 x y c).1 ∧ (a32 x y c).1 < 4294967296) ∧ (0 ≤ (a32 x y c).2 ∧ (a32 x y c).2 ≤ 1) ∧ (a32 x y c).1 + 4294967296 * (a32 x y c).2 = x + y + c := by
  have e : ∀ z : Int, 0 ≤ z → z < 18446744073709551616 → IntKind.u64.wrap z = z := fun z h1 h2 => by
    simp only [IntKind.wrap, IntKind.bits, IntKind.signed]; simp; omega
  unfold a32
  rw [e x (by omega) (by omega), e y (by omega) (by omega), e c (by omega) (by omega), e (x + y) (by omega) (by omega), e (x + y + c) (by omega) (by omega)]
  dsimp only
  omega
theorem addOf_upto {l0 l1 : List Int} (h0 : YthdhpihfbggbbaaV.ok l0 = true) (h1 : YthdhpihfbggbbaaV.ok l1 = true) (k : Nat) :
    YthdhpihfbggbbaaV.ok (addOf (upto_ (pairL l0 l1) k)).1 = true ∧ (0 ≤ (addOf (upto_ (pairL l0 l1) k)).2 ∧ (addOf (upto_ (pairL l0 l1) k)).2 ≤ 1) ∧
    YthdhpihfbggbbaaV.val (addOf (upto_ (pairL l0 l1) k)).1 + YthdhpihfbggbbaaV.B ^ k * (addOf (upto_ (pairL l0 l1) k)).2.toNat = YthdhpihfbggbbaaV.val (l0.take k) + YthdhpihfbggbbaaV.val (l1.take k) := by
  induction k with
  | zero => simp [upto_, addOf, YthdhpihfbggbbaaV.ok, YthdhpihfbggbbaaV.val]
  | succ k ih =>
    obtain ⟨i1, i2, i3⟩ := ih
    have hl : (addOf (upto_ (pairL l0 l1) k)).1.length = k := by rw [addOf_length, upto_length]
    rw [upto_succ, addOf_snoc]
    obtain ⟨a1, a2, a3⟩ := a32_val (YthdhpihfbggbbaaV.ok_get h0 k) (YthdhpihfbggbbaaV.ok_get h1 k) i2
    simp only [addStep, pairL]
    generalize addOf (upto_ (pairL l0 l1) k) = s at *
    generalize a32 (l0.getD k 0) (l1.getD k 0) s.2 = t at *
    refine ⟨?_, a2, ?_⟩
    · rw [YthdhpihfbggbbaaV.ok_append]
      exact ⟨i1, by rw [YthdhpihfbggbbaaV.ok_cons]; exact ⟨a1, rfl⟩⟩
    · rw [YthdhpihfbggbbaaV.val_snoc, hl, YthdhpihfbggbbaaV.val_take_succ, YthdhpihfbggbbaaV.val_take_succ, Nat.pow_succ, Nat.mul_assoc]
      have a4 : t.1.toNat + YthdhpihfbggbbaaV.B * t.2.toNat = (l0.getD k 0).toNat + (l1.getD k 0).toNat + s.2.toNat := by
        have := YthdhpihfbggbbaaV.ok_get h0 k
        have := YthdhpihfbggbbaaV.ok_get h1 k
        simp only [YthdhpihfbggbbaaV.B]; omega
      have a5 := congrArg (fun z => YthdhpihfbggbbaaV.B ^ k * z) a4
      simp only [Nat.mul_add] at a5
      omega
theorem add_spec {l0 l1 : List Int} (h0 : YthdhpihfbggbbaaV.ok l0 = true) (h1 : YthdhpihfbggbbaaV.ok l1 = true) :
    YthdhpihfbggbbaaV.cut ((addOf (upto_ (pairL l0 l1) (max l0.length l1.length))).1 ++ [(addOf (upto_ (pairL l0 l1) (max l0.length l1.length))).2]) = YthdhpihfbggbbaaV.fit (YthdhpihfbggbbaaV.val l0 + YthdhpihfbggbbaaV.val l1) := by
  obtain ⟨i1, i2, i3⟩ := addOf_upto h0 h1 (max l0.length l1.length)
  have hl : (addOf (upto_ (pairL l0 l1) (max l0.length l1.length))).1.length = max l0.length l1.length := by rw [addOf_length, upto_length]
  rw [YthdhpihfbggbbaaV.cut_fit]
  · rw [YthdhpihfbggbbaaV.val_snoc, hl, i3, List.take_of_length_le (by omega), List.take_of_length_le (by omega)]
  · rw [YthdhpihfbggbbaaV.ok_append]
    exact ⟨i1, by rw [YthdhpihfbggbbaaV.ok_cons]; exact ⟨⟨i2.1, by omega⟩, rfl⟩⟩
theorem nat_cut_l0_val : ∀ (l : List Int) (k : Nat), l.length < k → l.length ≤ 9223372036854775807 → nat_cut.l0 k l = some (YthdhpihfbggbbaaV.cut l) := by
  intro l
  generalize hn : l.length = n
  induction n generalizing l with
  | zero =>
    intro k hk _
    obtain ⟨k, rfl⟩ : ∃ m, k = m + 1 := ⟨k - 1, by omega⟩
    have : l = [] := List.length_eq_zero_iff.1 hn
    subst this
    rfl
  | succ n ih =>
    intro k hk hm
    obtain ⟨k, rfl⟩ : ∃ m, k = m + 1 := ⟨k - 1, by omega⟩
    rcases YthdhpihfbggbbaaV.snoc_cases l with rfl | ⟨a, x, rfl⟩
    · simp at hn
    · have hla : a.length = n := by simpa using hn
      have hL : ((a ++ [x]).length : Int) = (n : Int) + 1 := by rw [hn]; rfl
      have hw : wrap64 ((n : Int) + 1 - 1) = (n : Int) := by unfold wrap64; omega
      have hrd : rd (a ++ [x]) (n : Int) = x := by
        unfold rd
        rw [Int.toNat_natCast, ← hla, List.getD_eq_getElem?_getD, List.getElem?_append_right (Nat.le_refl _)]
        simp
      have htk : (a ++ [x]).take ((n : Int)).toNat = a := by
        rw [Int.toNat_natCast, ← hla]; simp
      simp only [nat_cut.l0]
      rw [hL, hw, if_pos (by omega), if_pos (by omega), if_pos (by omega), hrd]
      by_cases hx : x = 0
      · rw [if_pos hx, if_pos (by omega), htk, ih a hla k (by omega) (by omega), hx]
        unfold YthdhpihfbggbbaaV.cut
        rw [YthdhpihfbggbbaaV.strip_snoc_zero]
      · rw [if_neg hx, if_neg (by omega)]
        unfold YthdhpihfbggbbaaV.cut
        rw [YthdhpihfbggbbaaV.strip_snoc hx]
        by_cases hb : (n : Int) + 1 > 65536
        · rw [if_pos hb, if_neg (by omega)]
        · rw [if_neg hb, if_pos (by omega)]
theorem nat_cut_val (l : List Int) (h : l.length ≤ 9223372036854775807) : nat_cut.f (l.length + 1) l = some (YthdhpihfbggbbaaV.cut l) := nat_cut_l0_val l _ (Nat.lt_succ_self _) h
def nat_Add.f (l0 : List Int) (l1 : List Int) : Option (List Int) := if YthdhpihfbggbbaaV.ok l0 = true ∧ YthdhpihfbggbbaaV.ok l1 = true then some (YthdhpihfbggbbaaV.addS l0 l1) else none
section
open Go.Shelf
attribute [local go_sem] Oper.semAt_some
set_option maxRecDepth 100000 in
set_option maxHeartbeats 8000000 in
theorem nat_Add_no (A0 : Option Addr) (c0 : Nat) (l0 : List Int) (A1 : Option Addr) (c1 : Nat) (l1 : List Int) (w : World) (hr0 : Kd.C (Kd.int .u32) w A0 l0.length l0) (hc0 : l0.length ≤ c0) (hr1 : Kd.C (Kd.int .u32) w A1 l1.length l1) (hc1 : l1.length ≤ c1) (hno : (YthdhpihfbggbbaaV.may l0 && YthdhpihfbggbbaaV.may l1) = false) :
    Calls Try.prog 12 #[.slice A0 l0.length c0, .slice A1 l1.length c1] w fun e w' => e = .returned (.slice none 0 0) ∧ Below w.heap.size w w' := by
  have HM := may2 hr0 hc0 hr1 hc1
  rw [hno] at HM
  have H := Aside0.mk HM
  clear HM hr0 hc0 hr1 hc1 hno
  go_enter Try.func12, Try.ntmps12
  go_wp2_with (go_at_call 36; refine H.out.mono ?_; rintro e w' ⟨rfl, ⟨nd, rfl⟩⟩)
  go_ret
  exact ⟨rfl, pw_below_drewN (below_alloc (Below.refl _ _) _) _⟩
set_option maxRecDepth 100000 in
set_option maxHeartbeats 8000000 in
theorem nat_Add_yes (A0 : Option Addr) (c0 : Nat) (l0 : List Int) (A1 : Option Addr) (c1 : Nat) (l1 : List Int) (w : World) (hr0 : Kd.C (Kd.int .u32) w A0 l0.length l0) (hc0 : l0.length ≤ c0) (hr1 : Kd.C (Kd.int .u32) w A1 l1.length l1) (hc1 : l1.length ≤ c1) (hyes : (YthdhpihfbggbbaaV.may l0 && YthdhpihfbggbbaaV.may l1) = true) (m0 : l0.length ≤ 65536) (m1 : l1.length ≤ 65536) :
    Calls Try.prog 12 #[.slice A0 l0.length c0, .slice A1 l1.length c1] w fun e w' => ∃ v0_ : Value, e = .returned (v0_) ∧ Kd.R (Kd.int .u32) 37 w' w.heap.size (fun _ => True) v0_ (YthdhpihfbggbbaaV.cut ((addOf (upto_ (pairL l0 l1) (max l0.length l1.length))).1 ++ [(addOf (upto_ (pairL l0 l1) (max l0.length l1.length))).2])) ∧ Below w.heap.size w w' := by
  have HM := may2 hr0 hc0 hr1 hc1
  rw [hyes] at HM
  have H := Aside0.mk HM
  have HR0 := Aside0.mk hr0
  have HR1 := Aside0.mk hr1
  obtain ⟨i0, hi, hz0, hz1, hz2⟩ := info_parts info37
  obtain ⟨M, hM⟩ : ∃ M : Nat, M = max l0.length l1.length := ⟨_, rfl⟩
  have hMi : (if (l0.length : Int) < (l1.length : Int) then (l1.length : Int) else (l0.length : Int)) = (M : Int) := by
    rw [hM]
    by_cases h : (l0.length : Int) < (l1.length : Int)
    · rw [if_pos h]; omega
    · rw [if_neg h]; omega
  have hMn : (if l0.length < l1.length then (l1.length : Int) else (l0.length : Int)) = (M : Int) := by
    rw [← hMi]; simp only [Int.ofNat_lt]
  have hMx : M ≤ 65536 := by omega
  rw [← hM]
  have KM := Aside0.mk hM
  clear HM hr0 hc0 hr1 hc1 hyes hM
  refine (callsIn_wide (n := 6)).1 ?_
  refine callsIn_of_wp_marks Try.func12 rfl trivial ?_ rfl
  simp only [Try.ntmps12, List.size_toArray, List.length_cons, List.length_nil, Nat.reduceAdd, Nat.reduceSub, Array.replicate_succ, Array.replicate_zero, List.push_toArray, List.append_toArray, List.nil_append, List.cons_append]
  gi_wp2_with (first | (refine ⟨trivial, ?_⟩; gi_at_call 36; refine (callsIn_wide.2 H.out).mono ?_; rintro e w' ⟨rfl, ⟨nd, rfl⟩⟩) | (gi_at_make; (refine wpListIn_make_own _ rfl _ _ 22 rfl w.heap.size 37 i0 (.int .u32 0) 1 Try.underlying22 hi hz0 hz1 .i64 .i64 ((M : Int) + 1) (M + 1) rfl rfl ?s1 ?s2 ?s3 ?s4 ?_); (case s1 => omega); (case s2 => rw [hz2]; omega); (case s3 => unfold maxLen; omega); (case s4 => simp); intro w1 hown hgrow) | (refine ⟨trivial, ?_⟩; gi_at_call 37; refine (nat_pairs_in Fence.wide _ trivial rfl _ _ rfl rfl _).mono ?_; rintro e w' ⟨rfl, rfl⟩))
  have eN : ((w.alloc (Obj.cells #[Value.slice A0 l0.length c0, Value.slice A1 l1.length c1] 22)).drewN nd).heap.size = w.heap.size + 1 := by simp
  have hBw : Below w.heap.size w w1 := (pw_below_drewN (below_alloc (Below.refl _ _) _) nd).grown hgrow (by simp) (fun k e => by cases e)
  rw [eN] at hown
  have hNge : w.heap.size + 1 < w1.heap.size := own_lt hown (w.heap.size + 1) (by simp [Value.ownBlock])
  have bO := (((Boxed.new w1 22 (.slice (some ⟨w.heap.size + 1, 0, none⟩) 0 (M + 1))).alloc (.cells #[.int .u32 0] 37)).alloc (.cells #[.slice A0 l0.length c0] 22)).alloc (.cells #[.slice A1 l1.length c1] 22)
  have bC := ((Boxed.new (w1.alloc (.cells #[.slice (some ⟨w.heap.size + 1, 0, none⟩) 0 (M + 1)] 22)) 37 (.int .u32 0)).alloc (.cells #[.slice A0 l0.length c0] 22)).alloc (.cells #[.slice A1 l1.length c1] 22)
  have b0 := (Boxed.new ((w1.alloc (.cells #[.slice (some ⟨w.heap.size + 1, 0, none⟩) 0 (M + 1)] 22)).alloc (.cells #[.int .u32 0] 37)) 22 (.slice A0 l0.length c0)).alloc (.cells #[.slice A1 l1.length c1] 22)
  have b1 := Boxed.new (((w1.alloc (.cells #[.slice (some ⟨w.heap.size + 1, 0, none⟩) 0 (M + 1)] 22)).alloc (.cells #[.int .u32 0] 37)).alloc (.cells #[.slice A0 l0.length c0] 22)) 22 (.slice A1 l1.length c1)
  rw [World.size_alloc] at bC b0 b1
  rw [World.size_alloc] at b0 b1
  rw [World.size_alloc] at b1
  have bR := (((hown.alloc (.cells #[.slice (some ⟨w.heap.size + 1, 0, none⟩) 0 (M + 1)] 22)).alloc (.cells #[.int .u32 0] 37)).alloc (.cells #[.slice A0 l0.length c0] 22)).alloc (.cells #[.slice A1 l1.length c1] 22)
  have hB0 : Below w.heap.size w ((((w1.alloc (.cells #[.slice (some ⟨w.heap.size + 1, 0, none⟩) 0 (M + 1)] 22)).alloc (.cells #[.int .u32 0] 37)).alloc (.cells #[.slice A0 l0.length c0] 22)).alloc (.cells #[.slice A1 l1.length c1] 22)) := below_alloc (below_alloc (below_alloc (below_alloc hBw _) _) _) _
  obtain ⟨N, hN⟩ : ∃ N, N = w1.heap.size := ⟨_, rfl⟩
  obtain ⟨W0, hW0⟩ : ∃ W0, W0 = ((((w1.alloc (.cells #[.slice (some ⟨w.heap.size + 1, 0, none⟩) 0 (M + 1)] 22)).alloc (.cells #[.int .u32 0] 37)).alloc (.cells #[.slice A0 l0.length c0] 22)).alloc (.cells #[.slice A1 l1.length c1] 22)) := ⟨_, rfl⟩
  have hsz : W0.heap.size = N + 4 := by rw [hW0, hN]; simp
  rw [← hW0] at bO bC b0 b1 bR hB0 ⊢
  rw [← hN] at bO bC b0 b1 hNge ⊢
  clear hW0 hN hown hgrow hBw eN H
  have hst := pairs_stops Fence.wide (6 - 1) trivial rfl (by omega) (N + 1 + 1) (N + 1 + 1 + 1) w.heap.size A0 c0 l0 A1 c1 l1 W0 hB0.size b0 b1 (fun W' hb => Kd.C_below HR0.out (hB0.trans hb)) (fun W' hb => Kd.C_below HR1.out (hB0.trans hb))
  rw [← KM.out] at hst
  refine wpIn_rangeFunc_ownG rfl (by omega) (gf := 50) (lb := #[.pointer (some ⟨N + 1 + 1, 0, none⟩), .pointer (some ⟨N + 1 + 1 + 1, 0, none⟩)]) rfl trivial (enters_of Try.func50 (by kernel_rfl) rfl)
    hst (fun h k => h.trans_ k) (KpB.put_ hB0.size) (Below.refl _ _) (fun _ => rfl)
    (fun pre W => (∃ v, Boxed W N 22 v ∧ W.ownsRow w.heap.size 37 1 v pre.length ((addOf pre).1.map (Value.int .u32)) ∧ v = .slice (some ⟨w.heap.size + 1, 0, none⟩) pre.length (M + 1)) ∧ Boxed W (N + 1) 37 (.int .u32 (addOf pre).2) ∧ Boxed W (N + 2) 22 (.slice A0 l0.length c0) ∧ Boxed W (N + 3) 22 (.slice A1 l1.length c1) ∧ Below w.heap.size w W)
    (fun _ _ _ => False)
    (OwnFrom.and (Own.from (holdsRow_own w.heap.size N 22 37 1 (fun pre : List (Int × Int) => pre.length) (fun pre => (addOf pre).1.map (Value.int .u32)) (fun pre v => v = .slice (some ⟨w.heap.size + 1, 0, none⟩) pre.length (M + 1))) _)
      (OwnFrom.and (Own.from (boxed_own _ _ (fun pre : List (Int × Int) => Value.int .u32 (addOf pre).2)) _) (OwnFrom.and (Own.from (boxed_own _ _ (fun _ : List (Int × Int) => Value.slice A0 l0.length c0)) _) (OwnFrom.and (Own.from (boxed_own _ _ (fun _ : List (Int × Int) => Value.slice A1 l1.length c1)) _) (ownFrom_below (Nat.le_refl _) (by rw [hsz]; omega))))))
    (fun _ _ _ _ _ hs _ _ => hs)
    ⟨⟨_, bO, bR, rfl⟩, bC, b0, b1, hB0⟩
    (fun x => { tmps := #[.slice A0 l0.length c0, .slice A1 l1.length c1, undef, undef, .slice none 0 0, .pointer (some ⟨N, 0, none⟩), .pointer (some ⟨N + 1, 0, none⟩), .int .u32 x.1, .int .u32 x.2, undef, .slice A0 l0.length c0, .slice A1 l1.length c1, .slice (some ⟨w.heap.size, 0, none⟩) 2 2, .bool true, .bool false, .slice A0 l0.length c0, .int .i64 l0.length, .slice A1 l1.length c1, .int .i64 l1.length, .int .i64 M, .int .i64 (M + 1), .slice (some ⟨w.heap.size + 1, 0, none⟩) 0 (M + 1), .slice A0 l0.length c0, .slice A1 l1.length c1, .func (.func 50) #[] #[.pointer (some ⟨N + 1 + 1, 0, none⟩), .pointer (some ⟨N + 1 + 1 + 1, 0, none⟩)], .int .u32 x.1, .int .u32 x.2, undef, undef, undef, undef, undef, undef, undef, undef, undef, undef, undef, undef, undef, undef, undef, undef], defers := [] }) ?assign ?body ?done ?stop
  case assign =>
    intro l x W K hK
    gi_wp2
    exact hK
  case body =>
    rintro l pre ⟨x, y⟩ W ⟨⟨v, hv, hrow, rfl⟩, hC, h0, h1, hB⟩ hlt
    obtain ⟨s, hs⟩ : ∃ s, addOf pre = s := ⟨_, rfl⟩
    rw [hs] at hrow hC
    have hc1 := hv.cell
    have hf1 := hv.frozen
    have hc2 := hC.cell
    have hf2 := hC.frozen
    have hNW : N + 1 < W.heap.size := hC.lt
    have hrow1 : ∀ u, (W.setCell ⟨N + 1, 0, none⟩ u).ownsRow w.heap.size 37 1 (.slice (some ⟨w.heap.size + 1, 0, none⟩) pre.length (M + 1)) pre.length (s.1.map (Value.int .u32)) := fun u => hrow.kept (grownBy_setCell' W (N + 1) u) (.inr (by simp [Value.ownBlock]; omega))
    have hc3 : ∀ u, (W.setCell ⟨N + 1, 0, none⟩ u).cell? ⟨N, 0, none⟩ = some (.slice (some ⟨w.heap.size + 1, 0, none⟩) pre.length (M + 1)) := fun u => (hv.other (by omega) u).cell
    have HS := Aside0.mk hs
    have KR := Aside0.mk hrow1
    have KB := Aside0.mk (And.intro hv (And.intro hC (And.intro h0 (And.intro h1 (And.intro hrow hB)))))
    clear hs hrow hrow1 hv hC h0 h1 hB b0 b1 bO bC bR hB0 hst
    gi_wp2_with (first | (refine ⟨trivial, ?_⟩; gi_at_call 38; refine (CallsIn.inRound l (callsIn_wide.2 (add32_of _ _ _ _))).mono ?_; rintro e w' ⟨rfl, rfl⟩) | (gi_at_builtin; go_must (refine wpListIn_append_fits _ rfl _ _ 22 rfl w.heap.size 37 i0 1 Try.underlying22 hi hz1 (w.heap.size + 1) pre.length (M + 1) _ rfl ((KR.out _).alloc _) ⟨W.heap.size, 0, none⟩ 1 1 [.int .u32 (a32 x y s.2).1] rfl rfl ?s1 ?s2 ?s3 ?_); go_must (case s1 => exact cell_one_set _ _ _ _ _); go_must (case s2 => simp [Value.oneCell']); go_must (case s3 => omega); intro w2 hown2 hgrow2; go_must (have hfin := Aside0.mk (fits_body (Bz := W0.heap.size) (by omega) (by omega) (by omega) KB.out.1 KB.out.2.1 KB.out.2.2.1 KB.out.2.2.2.1 KB.out.2.2.2.2.1 hown2 hgrow2)); go_must (have hc4 := hfin.out.1.cell); have hf4 := hfin.out.1.frozen))
    obtain ⟨_, k1, k2, k3, k4, k5, k6, k7⟩ := hfin.out
    have e1 : (pre ++ [(x, y)]).length = pre.length + 1 := by simp
    have e2 : addOf (pre ++ [(x, y)]) = addStep s (x, y) := by rw [addOf_snoc, HS.out]
    refine ⟨k1, k2, ⟨_, k3, ?_, ?_⟩, ?_, k5, k6, KB.out.2.2.2.2.2.trans k2.below⟩
    · rw [e1, e2]
      simpa [addStep] using k7
    · rw [e1]
    · rw [e2]
      exact k4
  case done =>
    rintro D ys W hD rfl ⟨⟨v, hv, hrow, rfl⟩, hC, h0, h1, hB⟩ hK
    have hlen : (upto_ (pairL l0 l1) M).length = M := upto_length _ _
    have hsl := addOf_length (upto_ (pairL l0 l1) M)
    rw [hlen] at hv hrow hsl
    obtain ⟨s, hs⟩ : ∃ s, addOf (upto_ (pairL l0 l1) M) = s := ⟨_, rfl⟩
    rw [hs] at hrow hC hsl
    have hc1 := hv.cell
    have hc2 := hC.cell
    have hlen2 : (s.1 ++ [s.2]).length = M + 1 := by simp [hsl]
    have hgD : D ≠ w.heap.size + 1 := by omega
    have hDW : D < W.heap.size := (Array.getElem?_eq_some_iff.1 hK).1
    have hcut := nat_cut_val (s.1 ++ [s.2]) (by rw [hlen2]; omega)
    have HC := Aside0.mk hcut
    have HS := Aside0.mk hs
    have HL := Aside0.mk hlen2
    have HD := Aside0.mk hK
    have KB := Aside0.mk (And.intro hrow hB)
    clear hs hlen hsl hlen2 hcut hK hrow hv hC h0 h1 hB b0 b1 bO bC bR hB0 hst
    gi_wp2_with (first | (gi_at_builtin; go_must (refine wpListIn_append_fits _ rfl _ _ 22 rfl w.heap.size 37 i0 1 Try.underlying22 hi hz1 (w.heap.size + 1) M (M + 1) _ rfl (KB.out.1.alloc _) ⟨W.heap.size, 0, none⟩ 1 1 [.int .u32 s.2] rfl rfl ?s1 ?s2 ?s3 ?_); go_must (case s1 => exact cell_one_new _ _ _); go_must (case s2 => simp [Value.oneCell']); go_must (case s3 => omega); intro w2 hown2 hgrow2; go_must (have hR2 : Aside0 (Kd.R (Kd.int .u32) 37 w2 w.heap.size (fun k => k = w.heap.size + 1) (.slice (some ⟨w.heap.size + 1, 0, none⟩) (M + 1) (M + 1)) (s.1 ++ [s.2])) := ⟨Kd.R_of_own (by rw [HL.out]; simpa [encs] using hown2) (by simp [Value.ownBlock])⟩); go_must (have hB2 : Aside0 (Below w.heap.size w w2) := ⟨(below_alloc KB.out.2 _).grown hgrow2 (by simp; omega) (fun k e => by cases e; omega)⟩); have hG2 := Aside0.mk hgrow2; clear hown2 hgrow2) | (refine ⟨trivial, ?_⟩; gi_at_call 39; go_must (refine (callsIn_wide.2 (nat_cut.calls _ _ _ _ _ w _ hB2.out hR2.out HC.out)).mono ?_); rintro e w3 ⟨v0, rfl, hR3, hB3, hKept⟩))
    have hW2 : W.heap.size + 1 ≤ w2.heap.size := by have := hG2.out.size; simpa using this
    have hK2 : w2.heap[D]? = some (.deferred (some [])) := (hG2.out.block D (by simp; omega) (fun e => hgD (Option.some.inj e))).trans ((Below.heap_alloc _ _ _ hDW).trans HD.out)
    have hK3 : w3.heap[D]? = some (.deferred (some [])) := (hKept.2 D (by omega) hgD).trans hK2
    refine ⟨by simp, .inl ⟨_, _, rfl, run_takeDeferred hK3, ?_⟩⟩
    refine ⟨_, results_tmp rfl _ _ _, v0, rfl, ?_, hB3.trans (belowK_b (w := w) (Nat.le_refl _) w3 D _ _ (by omega) hK3 rfl rfl)⟩
    rw [HS.out]
    exact Kd.R_mono (Kd.R_grown hR3 (grownBy_putObj' w3 D _) (fun k hk e => by injection e with e; omega)) (fun _ _ => trivial)
  case stop =>
    rintro D c pre W hD _ h _
    exact h.elim
set_option maxRecDepth 100000 in
set_option maxHeartbeats 8000000 in
theorem nat_Add.calls (A0 : Option Addr) (c0 : Nat) (l0 : List Int) (A1 : Option Addr) (c1 : Nat) (l1 : List Int) (r : List Int) (w : World) (hr0 : Kd.C (Kd.int .u32) w A0 l0.length l0) (hc0 : l0.length ≤ c0) (hr1 : Kd.C (Kd.int .u32) w A1 l1.length l1) (hc1 : l1.length ≤ c1) (h : nat_Add.f l0 l1 = some r) :
    Calls Try.prog 12 #[.slice A0 l0.length c0, .slice A1 l1.length c1] w fun e w' => ∃ v0_ : Value, e = .returned (v0_) ∧ Kd.R (Kd.int .u32) 37 w' w.heap.size (fun _ => True) v0_ r ∧ Below w.heap.size w w' := by
  unfold nat_Add.f at h
  by_cases hok : YthdhpihfbggbbaaV.ok l0 = true ∧ YthdhpihfbggbbaaV.ok l1 = true
  · rw [if_pos hok] at h
    obtain rfl := Option.some.inj h
    unfold YthdhpihfbggbbaaV.addS
    cases hm : (YthdhpihfbggbbaaV.may l0 && YthdhpihfbggbbaaV.may l1) with
    | false =>
      rw [if_neg (by simp)]
      refine (nat_Add_no A0 c0 l0 A1 c1 l1 w hr0 hc0 hr1 hc1 hm).mono fun e w' ⟨h1, h2⟩ => ⟨_, h1, Kd.R_nil _ _ _ _ _, h2⟩
    | true =>
      rw [if_pos rfl, ← add_spec hok.1 hok.2]
      have hm' := hm
      simp only [Bool.and_eq_true] at hm'
      exact nat_Add_yes A0 c0 l0 A1 c1 l1 w hr0 hc0 hr1 hc1 hm (YthdhpihfbggbbaaV.may_length hm'.1) (YthdhpihfbggbbaaV.may_length hm'.2)
  · rw [if_neg hok] at h
    cases h
end

end Go.Proofs.Ythdhpihfbggbbaa.PNat
