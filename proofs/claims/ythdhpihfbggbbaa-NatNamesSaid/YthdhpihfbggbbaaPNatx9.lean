-- A text of the seat Ythdhpihfbggbbaa, written by a program of this session (drive.py).
import Derived.Test.YthdhpihfbggbbaaGNatFulltoPNatx1
import Derived.Test.YthdhpihfbggbbaaGPNatx2toPNatx3
import Derived.Test.YthdhpihfbggbbaaGPNatx2toPNatx3
import Derived.Test.YthdhpihfbggbbaaPNatx4
import Derived.Test.YthdhpihfbggbbaaPNatx5
import Derived.Test.YthdhpihfbggbbaaPNatx7
import Derived.Test.YthdhpihfbggbbaaVal
import Derived.Test.YthdhpihfbggbbaaBits
import Derived.Laws.BitsLemmas
import Derived.WalkSpells
namespace Go.Proofs.Ythdhpihfbggbbaa.PNat
open Go.RowKit Go.Proofs.YthdhpihfbggbbaaW.PrintWords Go.Proofs.YthdhpihfbggbbaaW.PrintLast Go.Proofs.YthdhpihfbggbbaaW.PrintMore
attribute [local go_sem] max2_int min2_int max_two min_two max_three min_three max_four min_four   -- for this text's walks alone
set_option linter.unusedVariables false
set_option linter.unusedSimpArgs false

-- BY HAND: alidade/nat.Sub: function 13
-- IMPORT Derived.Test.YthdhpihfbggbbaaVal
-- IMPORT Derived.Test.YthdhpihfbggbbaaBits
-- IMPORT Derived.Laws.BitsLemmas
-- IMPORT Derived.WalkSpells
def s32 (x y b : Int) : Int × Int := ((x - y - b) % 4294967296, bits .or .u32 (bits .and .u32 (bits .xor .u32 IntKind.u32.max x) y) (bits .and .u32 (bits .xor .u32 IntKind.u32.max (bits .xor .u32 x y)) ((x - y - b) % 4294967296)) / 2147483648)
theorem sub32_of (x y c : Int) (w : World) : Calls Try.prog 40 #[.int .u32 x, .int .u32 y, .int .u32 c] w fun e w' => e = .returned (.tuple #[.int .u32 (s32 x y c).1, .int .u32 (s32 x y c).2]) ∧ w = w' := by
  go_enter Try.func40, Try.ntmps40
  go_wp2
  go_ret2
  exact ⟨rfl, rfl⟩
def subStep (s : List Int × Int) (x : Int × Int) : List Int × Int := (s.1 ++ [(s32 x.1 x.2 s.2).1], (s32 x.1 x.2 s.2).2)
def subOf (xs : List (Int × Int)) : List Int × Int := xs.foldl subStep ([], 0)
theorem subOf_snoc (xs : List (Int × Int)) (x : Int × Int) : subOf (xs ++ [x]) = subStep (subOf xs) x := by simp [subOf]
theorem subOf_length (xs : List (Int × Int)) : (subOf xs).1.length = xs.length := by
  generalize hn : xs.length = n
  induction n generalizing xs with
  | zero =>
    have : xs = [] := List.length_eq_zero_iff.1 hn
    subst this; rfl
  | succ n ih =>
    rcases List.eq_nil_or_concat xs with rfl | ⟨a, x, rfl⟩
    · simp at hn
    · rw [List.concat_eq_append] at hn ⊢
      rw [subOf_snoc]
      simp only [subStep, List.length_append, List.length_singleton]
      rw [ih a (by simpa using hn)]
theorem s32_val {x y c : Int} (hx : 0 ≤ x ∧ x < 4294967296) (hy : 0 ≤ y ∧ y < 4294967296) (hc : 0 ≤ c ∧ c ≤ 1) :
    (0 ≤ (s32 x y c).1 ∧ (s32 x y c).1 < 4294967296) ∧ (0 ≤ (s32 x y c).2 ∧ (s32 x y c).2 ≤ 1) ∧ (s32 x y c).1 + y + c = x + 4294967296 * (s32 x y c).2 := by
  unfold s32
  rw [YthdhpihfbggbbaaV.borrow_int x y c hx hy hc]
  dsimp only
  by_cases h : x < y + c
  · rw [if_pos h]; omega
  · rw [if_neg h]; omega
theorem subOf_upto {l0 l1 : List Int} (h0 : YthdhpihfbggbbaaV.ok l0 = true) (h1 : YthdhpihfbggbbaaV.ok l1 = true) (k : Nat) :
    YthdhpihfbggbbaaV.ok (subOf (upto_ (pairL l0 l1) k)).1 = true ∧ (0 ≤ (subOf (upto_ (pairL l0 l1) k)).2 ∧ (subOf (upto_ (pairL l0 l1) k)).2 ≤ 1) ∧
    YthdhpihfbggbbaaV.val (subOf (upto_ (pairL l0 l1) k)).1 + YthdhpihfbggbbaaV.val (l1.take k) = YthdhpihfbggbbaaV.val (l0.take k) + YthdhpihfbggbbaaV.B ^ k * (subOf (upto_ (pairL l0 l1) k)).2.toNat := by
  induction k with
  | zero => simp [upto_, subOf, YthdhpihfbggbbaaV.ok, YthdhpihfbggbbaaV.val]
  | succ k ih =>
    obtain ⟨i1, i2, i3⟩ := ih
    have hl : (subOf (upto_ (pairL l0 l1) k)).1.length = k := by rw [subOf_length, upto_length]
    rw [upto_succ, subOf_snoc]
    obtain ⟨a1, a2, a3⟩ := s32_val (YthdhpihfbggbbaaV.ok_get h0 k) (YthdhpihfbggbbaaV.ok_get h1 k) i2
    simp only [subStep, pairL]
    generalize subOf (upto_ (pairL l0 l1) k) = s at *
    generalize s32 (l0.getD k 0) (l1.getD k 0) s.2 = t at *
    refine ⟨?_, a2, ?_⟩
    · rw [YthdhpihfbggbbaaV.ok_append]
      exact ⟨i1, by rw [YthdhpihfbggbbaaV.ok_cons]; exact ⟨a1, rfl⟩⟩
    · rw [YthdhpihfbggbbaaV.val_snoc, hl, YthdhpihfbggbbaaV.val_take_succ, YthdhpihfbggbbaaV.val_take_succ, Nat.pow_succ, Nat.mul_assoc]
      have a4 : t.1.toNat + (l1.getD k 0).toNat + s.2.toNat = (l0.getD k 0).toNat + YthdhpihfbggbbaaV.B * t.2.toNat := by
        have := YthdhpihfbggbbaaV.ok_get h0 k
        have := YthdhpihfbggbbaaV.ok_get h1 k
        simp only [YthdhpihfbggbbaaV.B]; omega
      have a5 := congrArg (fun z => YthdhpihfbggbbaaV.B ^ k * z) a4
      simp only [Nat.mul_add] at a5
      omega
theorem sub_spec {l0 l1 : List Int} (h0 : YthdhpihfbggbbaaV.ok l0 = true) (h1 : YthdhpihfbggbbaaV.ok l1 = true) (hm : YthdhpihfbggbbaaV.may l0 = true) (hl : l1.length ≤ l0.length) (hle : YthdhpihfbggbbaaV.val l1 ≤ YthdhpihfbggbbaaV.val l0) :
    YthdhpihfbggbbaaV.cut (subOf (upto_ (pairL l0 l1) l0.length)).1 = YthdhpihfbggbbaaV.toL (YthdhpihfbggbbaaV.val l0 - YthdhpihfbggbbaaV.val l1) := by
  obtain ⟨i1, i2, i3⟩ := subOf_upto h0 h1 l0.length
  have hl2 : (subOf (upto_ (pairL l0 l1) l0.length)).1.length = l0.length := by rw [subOf_length, upto_length]
  have v1 := YthdhpihfbggbbaaV.val_lt i1
  rw [hl2] at v1
  rw [List.take_of_length_le (Nat.le_refl _), List.take_of_length_le hl] at i3
  have e2 : (subOf (upto_ (pairL l0 l1) l0.length)).2.toNat = 0 := by
    rcases Nat.eq_zero_or_pos (subOf (upto_ (pairL l0 l1) l0.length)).2.toNat with h | h
    · exact h
    · have := Nat.mul_le_mul_left (YthdhpihfbggbbaaV.B ^ l0.length) (show 1 ≤ (subOf (upto_ (pairL l0 l1) l0.length)).2.toNat by omega)
      omega
  rw [e2, Nat.mul_zero] at i3
  rw [YthdhpihfbggbbaaV.cut_fit i1, show YthdhpihfbggbbaaV.val (subOf (upto_ (pairL l0 l1) l0.length)).1 = YthdhpihfbggbbaaV.val l0 - YthdhpihfbggbbaaV.val l1 by omega]
  refine YthdhpihfbggbbaaV.fit_lt ?_
  have v0 := YthdhpihfbggbbaaV.val_lt h0
  have : YthdhpihfbggbbaaV.B ^ l0.length ≤ YthdhpihfbggbbaaV.B ^ YthdhpihfbggbbaaV.most := Nat.pow_le_pow_right (by decide) (by rw [YthdhpihfbggbbaaV.most_eq]; exact YthdhpihfbggbbaaV.may_length hm)
  omega
theorem length_le_of_val {l0 l1 : List Int} (h0 : YthdhpihfbggbbaaV.ok l0 = true) (h1 : YthdhpihfbggbbaaV.ok l1 = true) (n1 : YthdhpihfbggbbaaV.norm l1) (hle : YthdhpihfbggbbaaV.val l1 ≤ YthdhpihfbggbbaaV.val l0) : l1.length ≤ l0.length := by
  rcases Nat.lt_or_ge l0.length l1.length with h | h
  · have := val_lt_of_length h0 h1 n1 h; omega
  · exact h
def nat_Sub.f (l0 : List Int) (l1 : List Int) : Option (List Int × Bool) := if YthdhpihfbggbbaaV.ok l0 = true ∧ YthdhpihfbggbbaaV.ok l1 = true then some (YthdhpihfbggbbaaV.subS l0 l1) else none
section
open Go.Shelf
attribute [local go_sem] Oper.semAt_some
set_option maxRecDepth 100000 in
set_option maxHeartbeats 8000000 in
theorem nat_Sub_no (A0 : Option Addr) (c0 : Nat) (l0 : List Int) (A1 : Option Addr) (c1 : Nat) (l1 : List Int) (w : World) (hr0 : Kd.C (Kd.int .u32) w A0 l0.length l0) (hc0 : l0.length ≤ c0) (hr1 : Kd.C (Kd.int .u32) w A1 l1.length l1) (hc1 : l1.length ≤ c1) (hno : (YthdhpihfbggbbaaV.may l0 && YthdhpihfbggbbaaV.may l1) = false) :
    Calls Try.prog 13 #[.slice A0 l0.length c0, .slice A1 l1.length c1] w fun e w' => e = .returned (.tuple #[.slice none 0 0, .bool false]) ∧ Below w.heap.size w w' := by
  have HM := may2 hr0 hc0 hr1 hc1
  rw [hno] at HM
  have H := Aside0.mk HM
  clear HM hr0 hc0 hr1 hc1 hno
  go_enter Try.func13, Try.ntmps13
  go_wp2_with (go_at_call 36; refine H.out.mono ?_; rintro e w' ⟨rfl, ⟨nd, rfl⟩⟩)
  go_ret2
  exact ⟨rfl, pw_below_drewN (below_alloc (Below.refl _ _) _) _⟩
set_option maxRecDepth 100000 in
set_option maxHeartbeats 8000000 in
theorem nat_Sub_less (A0 : Option Addr) (c0 : Nat) (l0 : List Int) (A1 : Option Addr) (c1 : Nat) (l1 : List Int) (w : World) (hr0 : Kd.C (Kd.int .u32) w A0 l0.length l0) (hc0 : l0.length ≤ c0) (hr1 : Kd.C (Kd.int .u32) w A1 l1.length l1) (hc1 : l1.length ≤ c1) (hyes : (YthdhpihfbggbbaaV.may l0 && YthdhpihfbggbbaaV.may l1) = true) (hf : nat_Cmp.f l0 l1 = some (-1)) :
    Calls Try.prog 13 #[.slice A0 l0.length c0, .slice A1 l1.length c1] w fun e w' => e = .returned (.tuple #[.slice none 0 0, .bool false]) ∧ Below w.heap.size w w' := by
  have HM := may2 hr0 hc0 hr1 hc1
  rw [hyes] at HM
  have H := Aside0.mk HM
  have HF := Aside0.mk hf
  have HR0 := Aside0.mk hr0
  have HR1 := Aside0.mk hr1
  have HC0 := Aside0.mk hc0
  have HC1 := Aside0.mk hc1
  clear HM hr0 hc0 hr1 hc1 hyes hf
  go_enter Try.func13, Try.ntmps13
  go_wp2_with (first | (go_at_call 36; refine H.out.mono ?_; rintro e w' ⟨rfl, ⟨nd, rfl⟩⟩) | (go_at_call 15; (with_reducible refine (nat_Cmp.calls _ _ l0 _ _ l1 (-1) _ ?s1 HC0.out ?s2 HC1.out HF.out).mono ?_); (case s1 => exact Kd.C_drewN (Kd.C_alloc HR0.out _) _); (case s2 => exact Kd.C_drewN (Kd.C_alloc HR1.out _) _); rintro e w' ⟨rfl, hb⟩; have HB := Aside0.mk hb; clear hb))
  go_ret2
  exact ⟨rfl, (pw_below_drewN (below_alloc (Below.refl _ _) _) _).trans (HB.out.mono (by simp))⟩
set_option maxRecDepth 100000 in
set_option maxHeartbeats 8000000 in
theorem nat_Sub_yes (q : Int) (A0 : Option Addr) (c0 : Nat) (l0 : List Int) (A1 : Option Addr) (c1 : Nat) (l1 : List Int) (w : World) (hr0 : Kd.C (Kd.int .u32) w A0 l0.length l0) (hc0 : l0.length ≤ c0) (hr1 : Kd.C (Kd.int .u32) w A1 l1.length l1) (hc1 : l1.length ≤ c1) (hyes : (YthdhpihfbggbbaaV.may l0 && YthdhpihfbggbbaaV.may l1) = true) (hf : nat_Cmp.f l0 l1 = some q) (hq : 0 ≤ q) (m0 : l0.length ≤ 65536) (m1 : l1.length ≤ l0.length) :
    Calls Try.prog 13 #[.slice A0 l0.length c0, .slice A1 l1.length c1] w fun e w' => ∃ v0_ : Value, e = .returned (.tuple #[v0_, .bool true]) ∧ Kd.R (Kd.int .u32) 37 w' w.heap.size (fun _ => True) v0_ (YthdhpihfbggbbaaV.cut (subOf (upto_ (pairL l0 l1) l0.length)).1) ∧ Below w.heap.size w w' := by
  have HM := may2 hr0 hc0 hr1 hc1
  rw [hyes] at HM
  have H := Aside0.mk HM
  have HR0 := Aside0.mk hr0
  have HR1 := Aside0.mk hr1
  obtain ⟨i0, hi, hz0, hz1, hz2⟩ := info_parts info37
  obtain ⟨M, hM0⟩ : ∃ M : Nat, M = l0.length := ⟨_, rfl⟩
  have hM : M = max l0.length l1.length := by omega
  have hMx : M ≤ 65536 := by omega
  have hML : M ≤ l0.length := by omega
  have hLM : l0.length ≤ M := by omega
  rw [show upto_ (pairL l0 l1) l0.length = upto_ (pairL l0 l1) M by rw [hM0]]
  have KM := Aside0.mk hM
  have HF := Aside0.mk hf
  have HC0 := Aside0.mk hc0
  have HC1 := Aside0.mk hc1
  have dq : decide (q < 0) = false := decide_eq_false (by omega)
  clear HM hr0 hc0 hr1 hc1 hyes hM hM0 hf hq
  refine (callsIn_wide (n := 6)).1 ?_
  refine callsIn_of_wp_marks Try.func13 rfl trivial ?_ rfl
  simp only [Try.ntmps13, List.size_toArray, List.length_cons, List.length_nil, Nat.reduceAdd, Nat.reduceSub, Array.replicate_succ, Array.replicate_zero, List.push_toArray, List.append_toArray, List.nil_append, List.cons_append]
  gi_wp2_with (first | (refine ⟨trivial, ?_⟩; gi_at_call 36; refine (callsIn_wide.2 H.out).mono ?_; rintro e w' ⟨rfl, ⟨nd, rfl⟩⟩) | (refine ⟨trivial, ?_⟩; gi_at_call 15; (with_reducible refine (callsIn_wide.2 (nat_Cmp.calls _ _ l0 _ _ l1 q _ ?s1 HC0.out ?s2 HC1.out HF.out)).mono ?_); (case s1 => exact Kd.C_drewN (Kd.C_alloc HR0.out _) _); (case s2 => exact Kd.C_drewN (Kd.C_alloc HR1.out _) _); rintro e wC ⟨rfl, hb⟩; have HB := Aside0.mk hb; have hsC := hb.size; clear hb) | (gi_at_make; (refine wpListIn_make_own _ rfl _ _ 22 rfl w.heap.size 37 i0 (.int .u32 0) 1 Try.underlying22 hi hz0 hz1 .i64 .i64 (l0.length : Int) l0.length rfl rfl ?s1 ?s2 ?s3 ?s4 ?_); (case s1 => omega); (case s2 => rw [hz2]; omega); (case s3 => unfold maxLen; omega); (case s4 => simp at hsC; omega); intro w1 hown hgrow) | (refine ⟨trivial, ?_⟩; gi_at_call 37; refine (nat_pairs_in Fence.wide _ trivial rfl _ _ rfl rfl _).mono ?_; rintro e w' ⟨rfl, rfl⟩))
  have hgw : w.heap.size ≤ wC.heap.size := by simp at hsC; omega
  have hBC : Below w.heap.size w wC := (pw_below_drewN (below_alloc (Below.refl _ _) _) nd).trans (HB.out.mono (by simp))
  have hBw : Below w.heap.size w w1 := hBC.grown hgrow hgw (fun k e => by cases e)
  have hNge : wC.heap.size < w1.heap.size := own_lt hown wC.heap.size (by simp [Value.ownBlock])
  obtain ⟨g, hg⟩ : ∃ g, g = wC.heap.size := ⟨_, rfl⟩
  rw [← hg] at hgw hNge hown ⊢
  have bO := (((Boxed.new w1 22 (.slice (some ⟨g, 0, none⟩) 0 l0.length)).alloc (.cells #[.int .u32 0] 37)).alloc (.cells #[.slice A0 l0.length c0] 22)).alloc (.cells #[.slice A1 l1.length c1] 22)
  have bC := ((Boxed.new (w1.alloc (.cells #[.slice (some ⟨g, 0, none⟩) 0 l0.length] 22)) 37 (.int .u32 0)).alloc (.cells #[.slice A0 l0.length c0] 22)).alloc (.cells #[.slice A1 l1.length c1] 22)
  have b0 := (Boxed.new ((w1.alloc (.cells #[.slice (some ⟨g, 0, none⟩) 0 l0.length] 22)).alloc (.cells #[.int .u32 0] 37)) 22 (.slice A0 l0.length c0)).alloc (.cells #[.slice A1 l1.length c1] 22)
  have b1 := Boxed.new (((w1.alloc (.cells #[.slice (some ⟨g, 0, none⟩) 0 l0.length] 22)).alloc (.cells #[.int .u32 0] 37)).alloc (.cells #[.slice A0 l0.length c0] 22)) 22 (.slice A1 l1.length c1)
  rw [World.size_alloc] at bC b0 b1
  rw [World.size_alloc] at b0 b1
  rw [World.size_alloc] at b1
  have bR := (((hown.alloc (.cells #[.slice (some ⟨g, 0, none⟩) 0 l0.length] 22)).alloc (.cells #[.int .u32 0] 37)).alloc (.cells #[.slice A0 l0.length c0] 22)).alloc (.cells #[.slice A1 l1.length c1] 22)
  have hB0 : Below w.heap.size w ((((w1.alloc (.cells #[.slice (some ⟨g, 0, none⟩) 0 l0.length] 22)).alloc (.cells #[.int .u32 0] 37)).alloc (.cells #[.slice A0 l0.length c0] 22)).alloc (.cells #[.slice A1 l1.length c1] 22)) := below_alloc (below_alloc (below_alloc (below_alloc hBw _) _) _) _
  obtain ⟨N, hN⟩ : ∃ N, N = w1.heap.size := ⟨_, rfl⟩
  obtain ⟨W0, hW0⟩ : ∃ W0, W0 = ((((w1.alloc (.cells #[.slice (some ⟨g, 0, none⟩) 0 l0.length] 22)).alloc (.cells #[.int .u32 0] 37)).alloc (.cells #[.slice A0 l0.length c0] 22)).alloc (.cells #[.slice A1 l1.length c1] 22)) := ⟨_, rfl⟩
  have hsz : W0.heap.size = N + 4 := by rw [hW0, hN]; simp
  rw [← hW0] at bO bC b0 b1 bR hB0 ⊢
  rw [← hN] at bO bC b0 b1 hNge ⊢
  clear hW0 hN hown hgrow hBw hBC hg hsC HB H
  have hst := pairs_stops Fence.wide (6 - 1) trivial rfl (by omega) (N + 1 + 1) (N + 1 + 1 + 1) w.heap.size A0 c0 l0 A1 c1 l1 W0 hB0.size b0 b1 (fun W' hb => Kd.C_below HR0.out (hB0.trans hb)) (fun W' hb => Kd.C_below HR1.out (hB0.trans hb))
  rw [← KM.out] at hst
  refine wpIn_rangeFunc_ownG rfl (by omega) (gf := 50) (lb := #[.pointer (some ⟨N + 1 + 1, 0, none⟩), .pointer (some ⟨N + 1 + 1 + 1, 0, none⟩)]) rfl trivial (enters_of Try.func50 (by kernel_rfl) rfl)
    hst (fun h k => h.trans_ k) (KpB.put_ hB0.size) (Below.refl _ _) (fun _ => rfl)
    (fun pre W => (∃ v, Boxed W N 22 v ∧ W.ownsRow w.heap.size 37 1 v pre.length ((subOf pre).1.map (Value.int .u32)) ∧ v = .slice (some ⟨g, 0, none⟩) pre.length l0.length) ∧ Boxed W (N + 1) 37 (.int .u32 (subOf pre).2) ∧ Boxed W (N + 2) 22 (.slice A0 l0.length c0) ∧ Boxed W (N + 3) 22 (.slice A1 l1.length c1) ∧ Below w.heap.size w W)
    (fun _ _ _ => False)
    (OwnFrom.and (Own.from (holdsRow_own w.heap.size N 22 37 1 (fun pre : List (Int × Int) => pre.length) (fun pre => (subOf pre).1.map (Value.int .u32)) (fun pre v => v = .slice (some ⟨g, 0, none⟩) pre.length l0.length)) _)
      (OwnFrom.and (Own.from (boxed_own _ _ (fun pre : List (Int × Int) => Value.int .u32 (subOf pre).2)) _) (OwnFrom.and (Own.from (boxed_own _ _ (fun _ : List (Int × Int) => Value.slice A0 l0.length c0)) _) (OwnFrom.and (Own.from (boxed_own _ _ (fun _ : List (Int × Int) => Value.slice A1 l1.length c1)) _) (ownFrom_below (Nat.le_refl _) (by rw [hsz]; omega))))))
    (fun _ _ _ _ _ hs _ _ => hs)
    ⟨⟨_, bO, bR, rfl⟩, bC, b0, b1, hB0⟩
    (fun x => { tmps := #[.slice A0 l0.length c0, .slice A1 l1.length c1, undef, undef, .slice none 0 0, .bool false, .pointer (some ⟨N, 0, none⟩), .pointer (some ⟨N + 1, 0, none⟩), .int .u32 x.1, .int .u32 x.2, undef, .slice A0 l0.length c0, .slice A1 l1.length c1, .slice (some ⟨w.heap.size, 0, none⟩) 2 2, .bool true, .bool false, .bool false, .slice A0 l0.length c0, .slice A1 l1.length c1, .int .i64 q, .bool false, .bool false, .slice A0 l0.length c0, .int .i64 l0.length, .slice (some ⟨g, 0, none⟩) 0 l0.length, .slice A0 l0.length c0, .slice A1 l1.length c1, .func (.func 50) #[] #[.pointer (some ⟨N + 1 + 1, 0, none⟩), .pointer (some ⟨N + 1 + 1 + 1, 0, none⟩)], .int .u32 x.1, .int .u32 x.2, undef, undef, undef, undef, undef, undef, undef, undef, undef, undef, undef, undef, undef], defers := [] }) ?assign ?body ?done ?stop
  case assign =>
    intro l x W K hK
    gi_wp2
    exact hK
  case body =>
    rintro l pre ⟨x, y⟩ W ⟨⟨v, hv, hrow, rfl⟩, hC, h0, h1, hB⟩ hlt
    obtain ⟨s, hs⟩ : ∃ s, subOf pre = s := ⟨_, rfl⟩
    rw [hs] at hrow hC
    have hc1 := hv.cell
    have hf1 := hv.frozen
    have hc2 := hC.cell
    have hf2 := hC.frozen
    have hNW : N + 1 < W.heap.size := hC.lt
    have hrow1 : ∀ u, (W.setCell ⟨N + 1, 0, none⟩ u).ownsRow w.heap.size 37 1 (.slice (some ⟨g, 0, none⟩) pre.length l0.length) pre.length (s.1.map (Value.int .u32)) := fun u => hrow.kept (grownBy_setCell' W (N + 1) u) (.inr (by simp [Value.ownBlock]; omega))
    have hc3 : ∀ u, (W.setCell ⟨N + 1, 0, none⟩ u).cell? ⟨N, 0, none⟩ = some (.slice (some ⟨g, 0, none⟩) pre.length l0.length) := fun u => (hv.other (by omega) u).cell
    have HS := Aside0.mk hs
    have KR := Aside0.mk hrow1
    have KB := Aside0.mk (And.intro hv (And.intro hC (And.intro h0 (And.intro h1 (And.intro hrow hB)))))
    clear hs hrow hrow1 hv hC h0 h1 hB b0 b1 bO bC bR hB0 hst
    gi_wp2_with (first | (refine ⟨trivial, ?_⟩; gi_at_call 40; refine (CallsIn.inRound l (callsIn_wide.2 (sub32_of _ _ _ _))).mono ?_; rintro e w' ⟨rfl, rfl⟩) | (gi_at_builtin; go_must (refine wpListIn_append_fits _ rfl _ _ 22 rfl w.heap.size 37 i0 1 Try.underlying22 hi hz1 g pre.length l0.length _ rfl ((KR.out _).alloc _) ⟨W.heap.size, 0, none⟩ 1 1 [.int .u32 (s32 x y s.2).1] rfl rfl ?s1 ?s2 ?s3 ?_); go_must (case s1 => exact cell_one_set _ _ _ _ _); go_must (case s2 => simp [Value.oneCell']); go_must (case s3 => omega); intro w2 hown2 hgrow2; go_must (have hfin := Aside0.mk (fits_body (Bz := W0.heap.size) (by omega) (by omega) (by omega) KB.out.1 KB.out.2.1 KB.out.2.2.1 KB.out.2.2.2.1 KB.out.2.2.2.2.1 hown2 hgrow2)); go_must (have hc4 := hfin.out.1.cell); have hf4 := hfin.out.1.frozen))
    obtain ⟨_, k1, k2, k3, k4, k5, k6, k7⟩ := hfin.out
    have e1 : (pre ++ [(x, y)]).length = pre.length + 1 := by simp
    have e2 : subOf (pre ++ [(x, y)]) = subStep s (x, y) := by rw [subOf_snoc, HS.out]
    refine ⟨k1, k2, ⟨_, k3, ?_, ?_⟩, ?_, k5, k6, KB.out.2.2.2.2.2.trans k2.below⟩
    · rw [e1, e2]
      simpa [subStep] using k7
    · rw [e1]
    · rw [e2]
      exact k4
  case done =>
    rintro D ys W hD rfl ⟨⟨v, hv, hrow, rfl⟩, hC, h0, h1, hB⟩ hK
    have hlen : (upto_ (pairL l0 l1) M).length = M := upto_length _ _
    have hsl := subOf_length (upto_ (pairL l0 l1) M)
    rw [hlen] at hv hrow hsl
    obtain ⟨s, hs⟩ : ∃ s, subOf (upto_ (pairL l0 l1) M) = s := ⟨_, rfl⟩
    rw [hs] at hrow hC hsl
    have hc1 := hv.cell
    have hc2 := hC.cell
    have hlen2 : s.1.length = M := hsl
    have hgD : D ≠ g := by omega
    have hDW : D < W.heap.size := (Array.getElem?_eq_some_iff.1 hK).1
    have hcut := nat_cut_val s.1 (by rw [hlen2]; omega)
    have hR2 : Kd.R (Kd.int .u32) 37 W w.heap.size (fun k => k = g) (.slice (some ⟨g, 0, none⟩) M l0.length) s.1 := Kd.R_of_own (by rw [hlen2]; exact hrow) (by simp [Value.ownBlock])
    have HC := Aside0.mk hcut
    have HS := Aside0.mk hs
    have HR2 := Aside0.mk hR2
    have HD := Aside0.mk hK
    have HB2 := Aside0.mk hB
    clear hs hlen hsl hlen2 hcut hK hrow hv hC h0 h1 hB b0 b1 bO bC bR hB0 hst hR2
    gi_wp2_with (refine ⟨trivial, ?_⟩; gi_at_call 39; go_must (refine (callsIn_wide.2 (nat_cut.calls _ _ _ _ _ w _ HB2.out HR2.out HC.out)).mono ?_); rintro e w3 ⟨v0, rfl, hR3, hB3, hKept⟩)
    have hK3 : w3.heap[D]? = some (.deferred (some [])) := (hKept.2 D hDW hgD).trans HD.out
    refine ⟨by simp, .inl ⟨_, _, rfl, run_takeDeferred hK3, ?_⟩⟩
    refine ⟨_, results_tmp2 rfl _ _ _, v0, rfl, ?_, hB3.trans (belowK_b (w := w) (Nat.le_refl _) w3 D _ _ (by omega) hK3 rfl rfl)⟩
    rw [HS.out]
    exact Kd.R_mono (Kd.R_grown hR3 (grownBy_putObj' w3 D _) (fun k hk e => by injection e with e; omega)) (fun _ _ => trivial)
  case stop =>
    rintro D c pre W hD _ h _
    exact h.elim
theorem nat_Sub.calls (A0 : Option Addr) (c0 : Nat) (l0 : List Int) (A1 : Option Addr) (c1 : Nat) (l1 : List Int) (r1 : List Int) (r2 : Bool) (w : World) (hr0 : Kd.C (Kd.int .u32) w A0 l0.length l0) (hc0 : l0.length ≤ c0) (hr1 : Kd.C (Kd.int .u32) w A1 l1.length l1) (hc1 : l1.length ≤ c1) (h : nat_Sub.f l0 l1 = some (r1, r2)) :
    Calls Try.prog 13 #[.slice A0 l0.length c0, .slice A1 l1.length c1] w fun e w' => ∃ v0_ : Value, e = .returned (.tuple #[v0_, .bool r2]) ∧ Kd.R (Kd.int .u32) 37 w' w.heap.size (fun _ => True) v0_ r1 ∧ Below w.heap.size w w' := by
  unfold nat_Sub.f at h
  by_cases hok : YthdhpihfbggbbaaV.ok l0 = true ∧ YthdhpihfbggbbaaV.ok l1 = true
  · rw [if_pos hok] at h
    have h2 := Option.some.inj h
    unfold YthdhpihfbggbbaaV.subS at h2
    cases hm : (YthdhpihfbggbbaaV.may l0 && YthdhpihfbggbbaaV.may l1) with
    | false =>
      rw [hm] at h2
      simp only [Bool.false_and, Bool.false_eq_true, if_false] at h2
      injection h2 with e1 e2
      subst e1; subst e2
      exact (nat_Sub_no A0 c0 l0 A1 c1 l1 w hr0 hc0 hr1 hc1 hm).mono fun e w' ⟨h1, h2⟩ => ⟨_, h1, Kd.R_nil _ _ _ _ _, h2⟩
    | true =>
      rw [hm] at h2
      have hm' := hm
      simp only [Bool.and_eq_true] at hm'
      have hf : nat_Cmp.f l0 l1 = some (YthdhpihfbggbbaaV.cmpN (YthdhpihfbggbbaaV.val l0) (YthdhpihfbggbbaaV.val l1)) := by
        unfold nat_Cmp.f YthdhpihfbggbbaaV.cmpS
        rw [if_pos hok, hm]; rfl
      by_cases hle : YthdhpihfbggbbaaV.val l1 ≤ YthdhpihfbggbbaaV.val l0
      · rw [if_pos (by simp [hle])] at h2
        injection h2 with e1 e2
        subst e1; subst e2
        have hl := length_le_of_val hok.1 hok.2 (YthdhpihfbggbbaaV.may_norm hm'.2) hle
        rw [← sub_spec hok.1 hok.2 hm'.1 hl hle]
        refine nat_Sub_yes _ A0 c0 l0 A1 c1 l1 w hr0 hc0 hr1 hc1 hm hf ?_ (YthdhpihfbggbbaaV.may_length hm'.1) hl
        unfold YthdhpihfbggbbaaV.cmpN
        rw [if_neg (by omega)]
        split <;> decide
      · rw [if_neg (by simp [hle])] at h2
        injection h2 with e1 e2
        subst e1; subst e2
        have hf2 : nat_Cmp.f l0 l1 = some (-1) := by
          rw [hf]; unfold YthdhpihfbggbbaaV.cmpN; rw [if_pos (by omega)]
        exact (nat_Sub_less A0 c0 l0 A1 c1 l1 w hr0 hc0 hr1 hc1 hm hf2).mono fun e w' ⟨h1, h2⟩ => ⟨_, h1, Kd.R_nil _ _ _ _ _, h2⟩
  · rw [if_neg hok] at h
    cases h
end

end Go.Proofs.Ythdhpihfbggbbaa.PNat
