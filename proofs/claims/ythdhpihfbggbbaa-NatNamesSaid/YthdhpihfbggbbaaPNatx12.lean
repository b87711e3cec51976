-- A text of the seat Ythdhpihfbggbbaa, written by a program of this session (drive.py).
import Derived.Test.YthdhpihfbggbbaaGNatFulltoPNatx1
import Derived.Test.YthdhpihfbggbbaaGNatFulltoPNatx1
import Derived.Test.YthdhpihfbggbbaaGPNatx2toPNatx3
import Derived.Test.YthdhpihfbggbbaaGPNatx2toPNatx3
import Derived.Test.YthdhpihfbggbbaaPNatx4
import Derived.Test.YthdhpihfbggbbaaPNatx5
import Derived.Test.YthdhpihfbggbbaaPNatx11
import Derived.Test.YthdhpihfbggbbaaVal
import Derived.Test.YthdhpihfbggbbaaPlainIn
import Derived.Laws.BitsLemmas
import Derived.WalkSpells
import Derived.StillTailTactics
namespace Go.Proofs.Ythdhpihfbggbbaa.PNat
open Go.RowKit Go.Proofs.YthdhpihfbggbbaaW.PrintWords Go.Proofs.YthdhpihfbggbbaaW.PrintLast Go.Proofs.YthdhpihfbggbbaaW.PrintMore
attribute [local go_sem] max2_int min2_int max_two min_two max_three min_three max_four min_four   -- for this text's walks alone
set_option linter.unusedVariables false
set_option linter.unusedSimpArgs false

-- BY HAND: alidade/nat.Shr: function 17
-- IMPORT Derived.Test.YthdhpihfbggbbaaVal
-- IMPORT Derived.Test.YthdhpihfbggbbaaPlainIn
-- IMPORT Derived.Laws.BitsLemmas
-- IMPORT Derived.WalkSpells
-- IMPORT Derived.StillTailTactics
theorem boxed_drew {W : World} {B : Nat} {t : TypeId} {v : Value} (h : Boxed W B t v) : Boxed W.drew B t v := h
def shrElem (s : Nat) (x y : Int) : Int := (bits .or .u64 (IntKind.u64.wrap (IntKind.u64.wrap y * 4294967296)) (IntKind.u64.wrap x) / 2 ^ s) % 4294967296
def shrL (s : Nat) (l : List (Int × Int)) : List Int := l.map fun p => shrElem s p.1 p.2
theorem app_others {W w1 : World} {n₀ N B : Nat} {t e : TypeId} {size k : Nat} {v v' u : Value} {xs : List Value} {tmp : Obj} (hte : t ≠ e) (hB : Boxed W B t u) (hne : B ≠ N)
    (hrow : W.ownsRow n₀ e size v k xs) (hgrow : (W.alloc tmp).grownBy w1 v.ownBlock) : Boxed (w1.setCell ⟨N, 0, none⟩ v') B t u :=
  ((hB.alloc tmp).kept hgrow (hB.not_row hte hrow)).other hne _
theorem shrElem_nat {s x y : Nat} (hx : x < 4294967296) (hy : y < 4294967296) : shrElem s (x : Int) (y : Int) = (((x + 4294967296 * y) / 2 ^ s % 4294967296 : Nat) : Int) := by
  unfold shrElem
  rw [wraps_u64 (y : Int) (by omega) (by omega), wraps_u64 (x : Int) (by omega) (by omega)]
  have e : ((y : Int) * 4294967296) = ((2 ^ 32 * y : Nat) : Int) := by simp; omega
  rw [e, wraps_u64 _ (by omega) (by omega)]
  have h2 := (bits_nat .u64 64 (by decide) wraps_u64 (2 ^ 32 * y) x (by omega) (by omega)).2
  rw [h2, ← Nat.two_pow_add_eq_or_of_lt (by omega) y]
  have e2 : 2 ^ 32 * y + x = x + 4294967296 * y := by omega
  rw [e2]
  have e3 : ((2 : Int) ^ s) = ((2 ^ s : Nat) : Int) := by simp
  rw [e3]
  generalize x + 4294967296 * y = z
  rw [← Int.natCast_ediv]
  omega
def shrG (s : Nat) (L : List Int) : List Int := shrL s (upto_ (pairL L (L.drop 1)) L.length)
theorem upto_cons {α : Type} (f : Nat → α) (k : Nat) : upto_ f (k + 1) = f 0 :: upto_ (fun i => f (i + 1)) k := by
  simp [upto_, List.range_succ_eq_map, Function.comp_def]
theorem shrG_cons (s : Nat) (x : Int) (L : List Int) : shrG s (x :: L) = shrElem s x (L.getD 0 0) :: shrG s L := by
  unfold shrG
  rw [List.length_cons, upto_cons]
  simp only [shrL, List.map_cons, List.drop_succ_cons, List.drop_zero]
  congr 1
  have e : (fun i => pairL (x :: L) L (i + 1)) = pairL L (L.drop 1) := by
    funext i
    simp [pairL, List.getD_eq_getElem?_getD]
  rw [e]
theorem shr_arith {x T c P b : Nat} (hb : b = P * c) (hP : 0 < P) (hx : x < b) : (x + b * T) / P = (x + b * (T % b)) / P % b + b * (T / P) := by
  subst hb
  have d1 : ∀ z, (x + P * c * z) / P = x / P + c * z := fun z => by rw [Nat.mul_assoc, Nat.add_mul_div_left _ _ hP]
  rw [d1, d1]
  have hxP : x / P < c := by rw [Nat.div_lt_iff_lt_mul hP, Nat.mul_comm]; exact hx
  have hT := Nat.div_add_mod T P
  have hr : T % P < P := Nat.mod_lt _ hP
  have hy := Nat.div_add_mod (T % (P * c)) P
  rw [Nat.mod_mul_right_mod] at hy
  generalize T / P = t at *
  generalize T % P = r at *
  generalize T % (P * c) / P = u at *
  rw [← hy, ← hT]
  have e1 : c * (P * t + r) = c * r + P * c * t := by rw [Nat.mul_add, ← Nat.mul_assoc, Nat.mul_comm c P]; omega
  have e2 : c * (P * u + r) = c * r + P * c * u := by rw [Nat.mul_add, ← Nat.mul_assoc, Nat.mul_comm c P]; omega
  rw [e1, e2, ← Nat.add_assoc, ← Nat.add_assoc, Nat.add_mul_mod_self_left, Nat.mod_eq_of_lt]
  have h3 : c * (r + 1) ≤ c * P := Nat.mul_le_mul_left _ hr
  rw [Nat.mul_add, Nat.mul_one, Nat.mul_comm c P] at h3
  omega
theorem val_mod (L : List Int) (h : YthdhpihfbggbbaaV.ok L = true) : YthdhpihfbggbbaaV.val L % 4294967296 = (L.getD 0 0).toNat := by
  cases L with
  | nil => rfl
  | cons x L =>
    obtain ⟨⟨h0, h1⟩, h2⟩ := YthdhpihfbggbbaaV.ok_cons.1 h
    rw [List.getD_cons_zero]
    show (x.toNat + 4294967296 * _) % 4294967296 = _
    rw [Nat.add_mul_mod_self_left, Nat.mod_eq_of_lt]
    omega
theorem shrG_val {s : Nat} (hs : s < 32) : ∀ L : List Int, YthdhpihfbggbbaaV.ok L = true → YthdhpihfbggbbaaV.ok (shrG s L) = true ∧ (shrG s L).length = L.length ∧ YthdhpihfbggbbaaV.val (shrG s L) = YthdhpihfbggbbaaV.val L / 2 ^ s
  | [], _ => ⟨rfl, rfl, by show 0 = 0 / _; rw [Nat.zero_div]⟩
  | x :: L, h => by
    obtain ⟨⟨h0, h1⟩, h2⟩ := YthdhpihfbggbbaaV.ok_cons.1 h
    obtain ⟨i1, i2, i3⟩ := shrG_val hs L h2
    obtain ⟨X, rfl⟩ := Int.eq_ofNat_of_zero_le h0
    have hy := YthdhpihfbggbbaaV.ok_get h2 0
    have hm := val_mod L h2
    obtain ⟨Y, hY⟩ := Int.eq_ofNat_of_zero_le hy.1
    rw [hY] at hm hy
    rw [Int.toNat_natCast] at hm
    have he := shrElem_nat (s := s) (x := X) (y := Y) (by omega) (by omega)
    have ha := shr_arith (x := X) (T := YthdhpihfbggbbaaV.val L) (c := 2 ^ (32 - s)) (P := 2 ^ s) (b := 4294967296) (by rw [← Nat.pow_add, show s + (32 - s) = 32 by omega]) (Nat.two_pow_pos s) (by omega)
    rw [hm] at ha
    rw [shrG_cons]
    rw [hY, he]
    generalize (X + 4294967296 * Y) / 2 ^ s = z at *
    refine ⟨by rw [YthdhpihfbggbbaaV.ok_cons]; exact ⟨by omega, i1⟩, by simp [i2], ?_⟩
    show ((z % 4294967296 : Nat) : Int).toNat + 4294967296 * YthdhpihfbggbbaaV.val (shrG s L) = (((X : Int)).toNat + 4294967296 * YthdhpihfbggbbaaV.val L) / 2 ^ s
    rw [i3, Int.toNat_natCast, Int.toNat_natCast, ha]
theorem val_drop {l : List Int} (h : YthdhpihfbggbbaaV.ok l = true) (q : Nat) (hq : q ≤ l.length) : YthdhpihfbggbbaaV.val (l.drop q) = YthdhpihfbggbbaaV.val l / YthdhpihfbggbbaaV.B ^ q := by
  have h1 := YthdhpihfbggbbaaV.val_append (l.take q) (l.drop q)
  rw [List.take_append_drop, List.length_take, Nat.min_eq_left hq] at h1
  have h2 := YthdhpihfbggbbaaV.val_lt (YthdhpihfbggbbaaV.ok_take h q)
  rw [List.length_take, Nat.min_eq_left hq] at h2
  rw [h1, Nat.add_mul_div_left _ _ (Nat.pow_pos (by decide)), Nat.div_eq_of_lt h2, Nat.zero_add]
theorem shr_spec {l0 L2 L3 : List Int} {a1 : Int} {q s : Nat} (hs : s < 32) (ho : YthdhpihfbggbbaaV.ok l0 = true) (hm : YthdhpihfbggbbaaV.may l0 = true) (hq : a1 = 32 * (q : Int) + s) (hl : q < l0.length) (h2 : L2 = l0.drop q) (h3 : L3 = l0.drop (q + 1)) :
    YthdhpihfbggbbaaV.cut (shrL s (upto_ (pairL L2 L3) L2.length)) = YthdhpihfbggbbaaV.shrS l0 a1 := by
  have e3 : L3 = L2.drop 1 := by rw [h2, h3, List.drop_drop]
  subst e3
  have h4 := shrG_val hs L2 (h2 ▸ YthdhpihfbggbbaaV.ok_drop ho q)
  have hlen := YthdhpihfbggbbaaV.may_length hm
  change YthdhpihfbggbbaaV.cut (shrG s L2) = _
  unfold YthdhpihfbggbbaaV.shrS
  rw [if_pos (by simp only [hm, Bool.true_and, Bool.and_eq_true, decide_eq_true_eq]; omega)]
  rw [YthdhpihfbggbbaaV.cut_fit h4.1]
  have h5 := YthdhpihfbggbbaaV.val_lt h4.1
  have e5 : YthdhpihfbggbbaaV.val (shrG s L2) = YthdhpihfbggbbaaV.val l0 / 2 ^ a1.toNat := by
    rw [h4.2.2, h2, val_drop ho q (by omega), show a1.toNat = 32 * q + s by omega, Nat.pow_add, Nat.pow_mul, Nat.div_div_eq_div_mul]
  have h6 : (YthdhpihfbggbbaaV.toL (YthdhpihfbggbbaaV.val (shrG s L2))).length ≤ 65536 := by
    have := YthdhpihfbggbbaaV.toL_length_le.2 h5
    rw [h4.2.1, h2, List.length_drop] at this
    rw [h2]
    omega
  unfold YthdhpihfbggbbaaV.fit
  rw [if_pos h6, e5]
def nat_Shr.f (l0 : List Int) (a1 : Int) : Option (List Int) := if YthdhpihfbggbbaaV.ok l0 = true ∧ (-9223372036854775808 ≤ a1 ∧ a1 ≤ 9223372036854775807) then some (YthdhpihfbggbbaaV.shrS l0 a1) else none
section
attribute [local go_sem] Oper.semAt_some
set_option maxRecDepth 100000 in
set_option maxHeartbeats 8000000 in
theorem nat_Shr_yes (A0 : Option Addr) (c0 : Nat) (l0 : List Int) (a1 : Int) (w : World) (hr0 : Kd.C (Kd.int .u32) w A0 l0.length l0) (hc0 : l0.length ≤ c0) (hm : YthdhpihfbggbbaaV.may l0 = true) (ho : YthdhpihfbggbbaaV.ok l0 = true) (hk0 : 0 ≤ a1) (hk1 : a1 / 32 < l0.length) (hlen : l0.length ≤ 65536) :
    Calls Try.prog 17 #[.slice A0 l0.length c0, .int .i64 a1] w fun e w' => ∃ v0_ : Value, e = .returned (v0_) ∧ Kd.R (Kd.int .u32) 37 w' w.heap.size (fun _ => True) v0_ (YthdhpihfbggbbaaV.shrS l0 a1) ∧ Below w.heap.size w w' := by
  have HM := nat_May.calls A0 c0 l0 (YthdhpihfbggbbaaV.may l0) (w.alloc (.cells #[.int .i64 a1] 3)) (Kd.C_alloc hr0 _) hc0 (nat_May_val l0 hr0.2.1)
  rw [hm] at HM
  have H := Aside0.mk HM
  have HR0 := Aside0.mk hr0
  have HC0 := Aside0.mk hc0
  have bK := Boxed.new w 3 (.int .i64 a1)
  have hck := bK.cell
  have hdv : IntKind.i64.wrap (a1.tdiv 32) = a1 / 32 := by rw [Int.tdiv_eq_ediv_of_nonneg hk0]; simp only [IntKind.wrap, IntKind.bits, IntKind.signed]; simp; omega
  have hdv1 : IntKind.i64.wrap (a1 / 32 + 1) = a1 / 32 + 1 := by simp only [IntKind.wrap, IntKind.bits, IntKind.signed]; simp; omega
  obtain ⟨s, hs1, hmd⟩ : ∃ s : Nat, s < 32 ∧ a1.tmod 32 = (s : Int) := ⟨(a1 % 32).toNat, by omega, by rw [Int.tmod_eq_emod_of_nonneg hk0]; omega⟩
  have d1 : decide (a1 < 0) = false := decide_eq_false (by omega)
  have d2 : decide ((l0.length : Int) ≤ a1 / 32) = false := decide_eq_false (by omega)
  obtain ⟨i0, hi, hz0, hz1, hz2⟩ := info_parts info37
  obtain ⟨q, hq⟩ : ∃ q : Nat, (q : Int) = a1 / 32 := ⟨(a1 / 32).toNat, by omega⟩
  obtain ⟨A2, hcut2, hread2⟩ := print_cut_of (P := Try.prog) (Value.int .u32) (0 : Int) 22 37 .i64 Try.underlying22 hi hz1 A0 l0.length c0 q (by omega)
  obtain ⟨A3, hcut3, hread3⟩ := print_cut_of (P := Try.prog) (Value.int .u32) (0 : Int) 22 37 .i64 Try.underlying22 hi hz1 A0 l0.length c0 (q + 1) (by omega)
  obtain ⟨L2, hL2⟩ : ∃ L2, L2 = l0.drop q := ⟨_, rfl⟩
  obtain ⟨L3, hL3⟩ : ∃ L3, L3 = l0.drop (q + 1) := ⟨_, rfl⟩
  have n2 : l0.length - q = L2.length := by rw [hL2, List.length_drop]
  have n3 : l0.length - (q + 1) = L3.length := by rw [hL3, List.length_drop]
  have b2 : L2.length ≤ 65536 := by omega
  have b4 : 0 < L2.length := by omega
  have hm_ := Aside0.mk hm
  have b3 : L3.length ≤ L2.length := by omega
  have r2 : ∀ W', Below w.heap.size w W' → Kd.C (Kd.int .u32) W' A2 L2.length L2 := fun W' hb => by
    have h := Kd.C_of_reads (h1 := fun _ => rfl) (hread2 W' l0 hc0 (Kd.reads_of_C (d := (0 : Int)) (Kd.C_below hr0 hb)))
    rw [← hL2, n2] at h
    exact h
  have r3 : ∀ W', Below w.heap.size w W' → Kd.C (Kd.int .u32) W' A3 L3.length L3 := fun W' hb => by
    have h := Kd.C_of_reads (h1 := fun _ => rfl) (hread3 W' l0 hc0 (Kd.reads_of_C (d := (0 : Int)) (Kd.C_below hr0 hb)))
    rw [← hL3, n3] at h
    exact h
  rw [hq, n2] at hcut2
  rw [show ((q + 1 : Nat) : Int) = a1 / 32 + 1 by omega, n3] at hcut3
  have K2 := Aside0.mk r2
  have K3 := Aside0.mk r3
  have HQ := Aside0.mk hq
  have H2 := Aside0.mk hL2
  have H3 := Aside0.mk hL3
  generalize c0 - q = c2 at hcut2
  generalize c0 - (q + 1) = c3 at hcut3
  clear HM hr0 hc0 hm hread2 hread3 n2 n3 hL2 hL3 r2 r3 hq
  refine (callsIn_wide (n := 6)).1 ?_
  refine callsIn_of_wp_marks Try.func17 rfl trivial ?_ rfl
  simp only [Try.ntmps17, List.size_toArray, List.length_cons, List.length_nil, Nat.reduceAdd, Nat.reduceSub, Array.replicate_succ, Array.replicate_zero, List.push_toArray, List.append_toArray, List.nil_append, List.cons_append]
  gi_wp2_with (refine ⟨trivial, ?_⟩; gi_at_call 11; refine (callsIn_wide.2 H.out).mono ?_; rintro e w' ⟨rfl, ⟨nd, rfl⟩⟩)
  refine wpIn_wide.2 ?_
  refine YthdhpihfbggbbaaV.wp_region_still_tail_drew 9 (by kernel_rfl) (by kernel_rfl) ?_
  simp only [List.take_succ_cons, List.take_zero, List.drop_succ_cons, List.drop_zero]
  repeat still_step
  refine wpStill_nil ?_
  go_wp2_with (go_at_call 37; refine (callsIn_wide.1 (nat_pairs_in Fence.wide 6 trivial rfl _ _ rfl rfl _)).mono ?_; rintro e w' ⟨rfl, rfl⟩)
  have bO := ((Boxed.new ((w.alloc (.cells #[.int .i64 a1] 3)).drewN nd) 22 (.slice none 0 0)).alloc (.cells #[.slice A2 L2.length c2] 22)).alloc (.cells #[.slice A3 L3.length c3] 22)
  have b2_ := (Boxed.new (((w.alloc (.cells #[.int .i64 a1] 3)).drewN nd).alloc (.cells #[.slice none 0 0] 22)) 22 (.slice A2 L2.length c2)).alloc (.cells #[.slice A3 L3.length c3] 22)
  have b3_ := Boxed.new ((((w.alloc (.cells #[.int .i64 a1] 3)).drewN nd).alloc (.cells #[.slice none 0 0] 22)).alloc (.cells #[.slice A2 L2.length c2] 22)) 22 (.slice A3 L3.length c3)
  have bK_ := ((show Boxed ((w.alloc (.cells #[.int .i64 a1] 3)).drewN nd) w.heap.size 3 (.int .i64 a1) from bK).alloc (.cells #[.slice none 0 0] 22)).alloc (.cells #[.slice A2 L2.length c2] 22) |>.alloc (.cells #[.slice A3 L3.length c3] 22)
  have hB0 : Below w.heap.size w (((((w.alloc (.cells #[.int .i64 a1] 3)).drewN nd).alloc (.cells #[.slice none 0 0] 22)).alloc (.cells #[.slice A2 L2.length c2] 22)).alloc (.cells #[.slice A3 L3.length c3] 22)).drew := (below_alloc (below_alloc (below_alloc (pw_below_drewN (below_alloc (Below.refl _ _) _) _) _) _) _).drew
  obtain ⟨W0, hW0⟩ : ∃ W0, W0 = (((((w.alloc (.cells #[.int .i64 a1] 3)).drewN nd).alloc (.cells #[.slice none 0 0] 22)).alloc (.cells #[.slice A2 L2.length c2] 22)).alloc (.cells #[.slice A3 L3.length c3] 22)).drew := ⟨_, rfl⟩
  have hsz : W0.heap.size = w.heap.size + 4 := by rw [hW0]; simp
  replace bO : Boxed W0 (w.heap.size + 1) 22 (.slice none 0 0) := by rw [hW0]; refine boxed_drew ?_; simpa using bO
  replace b2_ : Boxed W0 (w.heap.size + 1 + 1) 22 (.slice A2 L2.length c2) := by rw [hW0]; refine boxed_drew ?_; simpa using b2_
  replace b3_ : Boxed W0 (w.heap.size + 1 + 1 + 1) 22 (.slice A3 L3.length c3) := by rw [hW0]; refine boxed_drew ?_; simpa using b3_
  replace bK_ : Boxed W0 w.heap.size 3 (.int .i64 a1) := by rw [hW0]; exact boxed_drew bK_
  rw [← hW0] at hB0 ⊢
  clear hW0 hck bK
  have hst := pairs_stops Fence.wide (6 - 1) trivial rfl (by omega) (w.heap.size + 1 + 1) (w.heap.size + 1 + 1 + 1) w.heap.size A2 c2 L2 A3 c3 L3 W0 hB0.size b2_ b3_ (fun W' hb => K2.out _ (hB0.trans hb)) (fun W' hb => K3.out _ (hB0.trans hb))
  rw [show max L2.length L3.length = L2.length by omega] at hst
  gi_wp2
  refine wpIn_rangeFunc_ownG rfl (by omega) (gf := 50) (lb := #[.pointer (some ⟨w.heap.size + 1 + 1, 0, none⟩), .pointer (some ⟨w.heap.size + 1 + 1 + 1, 0, none⟩)]) rfl trivial (enters_of Try.func50 (by kernel_rfl) rfl)
    hst (fun h k => h.trans_ k) (KpB.put_ hB0.size) (Below.refl _ _) (fun _ => rfl)
    (fun pre W => (∃ v, Boxed W (w.heap.size + 1) 22 v ∧ W.ownsRow w.heap.size 37 1 v pre.length ((shrL s pre).map (Value.int .u32)) ∧ True) ∧ Boxed W w.heap.size 3 (.int .i64 a1) ∧ Boxed W (w.heap.size + 1 + 1) 22 (.slice A2 L2.length c2) ∧ Boxed W (w.heap.size + 1 + 1 + 1) 22 (.slice A3 L3.length c3) ∧ Below w.heap.size w W)
    (fun _ _ _ => False)
    (OwnFrom.and (Own.from (holdsRow_own w.heap.size (w.heap.size + 1) 22 37 1 (fun pre : List (Int × Int) => pre.length) (fun pre => (shrL s pre).map (Value.int .u32)) (fun _ _ => True)) _)
      (OwnFrom.and (Own.from (boxed_own _ _ (fun _ : List (Int × Int) => Value.int .i64 a1)) _) (OwnFrom.and (Own.from (boxed_own _ _ (fun _ : List (Int × Int) => Value.slice A2 L2.length c2)) _) (OwnFrom.and (Own.from (boxed_own _ _ (fun _ : List (Int × Int) => Value.slice A3 L3.length c3)) _) (ownFrom_below (Nat.le_refl _) (by rw [hsz]; omega))))))
    (fun _ _ _ _ _ hs _ _ => hs)
    ⟨⟨_, bO, World.ownsRow_nil W0 _ _ _, trivial⟩, bK_, b2_, b3_, hB0⟩
    (fun x => { tmps := #[.slice A0 l0.length c0, .int .i64 a1, undef, .pointer (some ⟨w.heap.size, 0, none⟩), .slice none 0 0, .pointer (some ⟨w.heap.size + 1, 0, none⟩), .int .u32 x.1, .int .u32 x.2, .slice A0 l0.length c0, .bool true, .bool false, .bool false, .int .i64 a1, .bool false, .bool false, .bool false, .int .i64 a1, .int .i64 (a1 / 32), .slice A0 l0.length c0, .int .i64 l0.length, .bool false, .bool false, .slice A0 l0.length c0, .int .i64 a1, .int .i64 (a1 / 32), .slice A2 L2.length c2, .slice A0 l0.length c0, .int .i64 a1, .int .i64 (a1 / 32), .int .i64 (a1 / 32 + 1), .slice A3 L3.length c3, .func (.func 50) #[] #[.pointer (some ⟨w.heap.size + 1 + 1, 0, none⟩), .pointer (some ⟨w.heap.size + 1 + 1 + 1, 0, none⟩)], .int .u32 x.1, .int .u32 x.2, undef, undef, undef, undef, undef, undef, undef, undef, undef, undef, undef, undef, undef, undef, undef], defers := [] }) ?assign ?body ?done ?stop
  case assign =>
    intro l x W K hK
    gi_wp2
    exact hK
  case body =>
    rintro l pre ⟨x, y⟩ W ⟨⟨v, hv, hrow, -⟩, hk, h2, h3, hB⟩ hlt
    have hc1 : W.drew.cell? ⟨w.heap.size + 1, 0, none⟩ = some v := hv.cell
    have hck : W.drew.cell? ⟨w.heap.size, 0, none⟩ = some (.int .i64 a1) := hk.cell
    have hc7 : (W.alloc (.cells #[.int .u32 (shrElem s x y)] 37)).cell? ⟨w.heap.size + 1, 0, none⟩ = some v := (hv.alloc _).cell
    have KB := Aside0.mk (And.intro hv (And.intro hk (And.intro h2 (And.intro h3 (And.intro hrow hB)))))
    clear hrow hv hk h2 h3 hB b2_ b3_ bO bK_ hB0 hst
    have hel : IntKind.u32.wrap (bits BinOp.or IntKind.u64 (IntKind.u64.wrap (IntKind.u64.wrap y * 4294967296)) (IntKind.u64.wrap x) / 2 ^ s) = shrElem s x y := by unfold shrElem; simp only [IntKind.wrap, IntKind.bits, IntKind.signed]; simp
    refine wpIn_block ?_
    refine wpIn_region_any (by kernel_rfl) (YthdhpihfbggbbaaV.wpAnyIn_of (YthdhpihfbggbbaaV.plain_all (by rfl)) (fun ⟨_, _, h⟩ => h) _ _ _ _ ?_)
    change wpAny _ _ _ _ _ _ _ (World.drew _)
    refine wpAny_take (i := 1) (v := ?v1) rfl (by kernel_rfl) (by kernel_rfl) (by kernel_rfl) (fun _ _ _ h => h) (Or.inl ⟨by rfl, ?h1⟩) ?_
    case h1 => (intro w_; first | (go_simp; done) | (go_simp; with_reducible rfl))
    simp only [Act.put, List.setIfInBounds_toArray, List.set_cons_zero, List.set_cons_succ]
    refine wpAny_take (i := 2) (v := ?v2) rfl (by kernel_rfl) (by kernel_rfl) (by kernel_rfl) (fun _ _ _ h => h) (Or.inl ⟨by rfl, ?h2⟩) ?_
    case h2 => (intro w_; first | (go_simp; done) | (go_simp; with_reducible rfl))
    simp only [Act.put, List.setIfInBounds_toArray, List.set_cons_zero, List.set_cons_succ]
    refine wpAny_take (i := 3) (v := ?v3) rfl (by kernel_rfl) (by kernel_rfl) (by kernel_rfl) (fun _ _ _ h => h) (Or.inl ⟨by rfl, ?h3⟩) ?_
    case h3 => (intro w_; first | (go_simp; done) | (go_simp; with_reducible rfl))
    simp only [Act.put, List.setIfInBounds_toArray, List.set_cons_zero, List.set_cons_succ]
    refine wpAny_take (i := 4) (v := ?v4) rfl (by kernel_rfl) (by kernel_rfl) (by kernel_rfl) (fun _ _ _ h => h) (Or.inl ⟨by rfl, ?h4⟩) ?_
    case h4 => (intro w_; first | (go_simp; done) | (go_simp; with_reducible rfl))
    simp only [Act.put, List.setIfInBounds_toArray, List.set_cons_zero, List.set_cons_succ]
    refine wpAny_take (i := 5) (v := ?v5) rfl (by kernel_rfl) (by kernel_rfl) (by kernel_rfl) (fun _ _ _ h => h) (Or.inl ⟨by rfl, ?h5⟩) ?_
    case h5 => (intro w_; first | (go_simp; done) | (go_simp; with_reducible rfl))
    simp only [Act.put, List.setIfInBounds_toArray, List.set_cons_zero, List.set_cons_succ]
    refine wpAny_take (i := 6) (v := ?v6) rfl (by kernel_rfl) (by kernel_rfl) (by kernel_rfl) (fun _ _ _ h => h) (Or.inl ⟨by rfl, ?h6⟩) ?_
    case h6 => (intro w_; first | (go_simp; done) | (go_simp; with_reducible rfl))
    simp only [Act.put, List.setIfInBounds_toArray, List.set_cons_zero, List.set_cons_succ]
    refine wpAny_ready (rs := [0, 7]) (by kernel_rfl) (by simp) ?_
    refine AllReady.cons rfl (fun K hK => ?_) (AllReady.cons rfl (fun K hK => ?_) AllReady.nil)
    · go_simp
      refine hK _ _ ?_
      clear hK K
      refine wpAny_ready (rs := [7]) (by kernel_rfl) (by simp) ?_
      refine AllReady.cons rfl (fun K hK => ?_) AllReady.nil
      go_simp
      refine hK _ _ ?_
      clear hK K
      refine wpAny_take (i := 8) (v := ?v8) rfl (by kernel_rfl) (by kernel_rfl) (by kernel_rfl) (fun _ _ _ h => h) (Or.inl ⟨by rfl, ?h8⟩) ?_
      case h8 => (intro w_; first | (go_simp; done) | (go_simp; with_reducible rfl))
      simp only [Act.put, List.setIfInBounds_toArray, List.set_cons_zero, List.set_cons_succ]
      refine wpAny_take (i := 9) (v := ?v9) rfl (by kernel_rfl) (by kernel_rfl) (by kernel_rfl) (fun _ _ _ h => h) (Or.inl ⟨by rfl, ?h9⟩) ?_
      case h9 => (intro w_; first | (go_simp; done) | (go_simp; with_reducible rfl))
      simp only [Act.put, List.setIfInBounds_toArray, List.set_cons_zero, List.set_cons_succ]
      refine wpAny_take (i := 10) (v := ?v10) rfl (by kernel_rfl) (by kernel_rfl) (by kernel_rfl) (fun _ _ _ h => h) (Or.inl ⟨by rfl, ?h10⟩) ?_
      case h10 => (intro w_; first | (go_simp; done) | (go_simp; with_reducible rfl))
      simp only [Act.put, List.setIfInBounds_toArray, List.set_cons_zero, List.set_cons_succ]
      refine wpAny_ready (rs := [11]) (by kernel_rfl) (by simp) ?_
      refine AllReady.cons rfl (fun K hK => ?_) AllReady.nil
      go_simp
      refine hK _ _ ?_
      clear hK K
      try rw [hel]
      refine wpAny_ready (rs := [12]) (by kernel_rfl) (by simp) ?_
      refine AllReady.cons rfl (fun K hK => ?_) AllReady.nil
      rw [if_pos (by rfl)]
      refine wp_append_own _ (.tmp 34) (.tmp 45) 22 rfl w.heap.size 37 i0 (.int .u32 0) 1 4 Try.underlying22 hi hz0 hz1 hz2 rfl (by decide) v pre.length _ rfl (show (W.alloc _).drew.ownsRow _ _ _ _ _ _ from KB.out.2.2.2.2.1.alloc _) ⟨W.heap.size, 0, none⟩ 1 1 [.int .u32 (shrElem s x y)] rfl rfl (cell_one_new W _ _) (by simp [Value.oneCell']) (by unfold maxLen; omega) (by omega) (by have := KB.out.2.2.2.2.2.size; simp; omega) ?_
      intro v' w1 hown hgrow _
      refine hK _ _ ?_
      clear hK K
      obtain ⟨g', cap', rfl⟩ := ownsRow_succ hown
      obtain ⟨hv1, hv2, hr2, hk2, hb2⟩ := (show Boxed W.drew _ _ _ from KB.out.1).appended (by decide) (show W.drew.ownsRow _ _ _ _ _ _ from KB.out.2.2.2.2.1) KB.out.2.2.2.2.2.size (by omega) hown hgrow
      have hc5 := hv1.cell
      have hf5 := hv1.frozen
      refine wpAny_ready (rs := [13]) (by kernel_rfl) (by simp) ?_
      refine AllReady.cons rfl (fun K hK => ?_) AllReady.nil
      go_simp
      refine hK _ _ ?_
      clear hK K
      refine wpAny_done (by kernel_rfl) ?_ _
      refine ⟨((KeepsOthers.drew W).trans hk2).from _, ⟨(Below.refl _ W).drew.trans hb2, fun u hu => app_others (by decide) (show Boxed W.drew _ _ _ from hu) (by omega) (show W.drew.ownsRow _ _ _ _ _ _ from KB.out.2.2.2.2.1) hgrow, fun u hu => app_others (by decide) (show Boxed W.drew _ _ _ from hu) (by omega) (show W.drew.ownsRow _ _ _ _ _ _ from KB.out.2.2.2.2.1) hgrow⟩, ⟨_, hv2, by first | exact ⟨by simpa [shrL] using hr2, trivial⟩ | simpa [shrL] using hr2⟩, app_others (by decide) (show Boxed W.drew _ _ _ from KB.out.2.1) (by omega) (show W.drew.ownsRow _ _ _ _ _ _ from KB.out.2.2.2.2.1) hgrow, app_others (by decide) (show Boxed W.drew _ _ _ from KB.out.2.2.1) (by omega) (show W.drew.ownsRow _ _ _ _ _ _ from KB.out.2.2.2.2.1) hgrow, app_others (by decide) (show Boxed W.drew _ _ _ from KB.out.2.2.2.1) (by omega) (show W.drew.ownsRow _ _ _ _ _ _ from KB.out.2.2.2.2.1) hgrow, KB.out.2.2.2.2.2.trans ((Below.refl _ W).drew.trans hb2)⟩
    · go_simp
      refine hK _ _ ?_
      clear hK K
      refine wpAny_take (i := 8) (v := ?v8) rfl (by kernel_rfl) (by kernel_rfl) (by kernel_rfl) (fun _ _ _ h => h) (Or.inl ⟨by rfl, ?h8⟩) ?_
      case h8 => (intro w_; first | (go_simp; done) | (go_simp; with_reducible rfl))
      simp only [Act.put, List.setIfInBounds_toArray, List.set_cons_zero, List.set_cons_succ]
      refine wpAny_take (i := 9) (v := ?v9) rfl (by kernel_rfl) (by kernel_rfl) (by kernel_rfl) (fun _ _ _ h => h) (Or.inl ⟨by rfl, ?h9⟩) ?_
      case h9 => (intro w_; first | (go_simp; done) | (go_simp; with_reducible rfl))
      simp only [Act.put, List.setIfInBounds_toArray, List.set_cons_zero, List.set_cons_succ]
      refine wpAny_take (i := 10) (v := ?v10) rfl (by kernel_rfl) (by kernel_rfl) (by kernel_rfl) (fun _ _ _ h => h) (Or.inl ⟨by rfl, ?h10⟩) ?_
      case h10 => (intro w_; first | (go_simp; done) | (go_simp; with_reducible rfl))
      simp only [Act.put, List.setIfInBounds_toArray, List.set_cons_zero, List.set_cons_succ]
      refine wpAny_ready (rs := [0, 11]) (by kernel_rfl) (by simp) ?_
      refine AllReady.cons rfl (fun K hK => ?_) (AllReady.cons rfl (fun K hK => ?_) AllReady.nil)
      · go_simp
        refine hK _ _ ?_
        clear hK K
        refine wpAny_ready (rs := [11]) (by kernel_rfl) (by simp) ?_
        refine AllReady.cons rfl (fun K hK => ?_) AllReady.nil
        go_simp
        refine hK _ _ ?_
        clear hK K
        try rw [hel]
        refine wpAny_ready (rs := [12]) (by kernel_rfl) (by simp) ?_
        refine AllReady.cons rfl (fun K hK => ?_) AllReady.nil
        rw [if_pos (by rfl)]
        refine wp_append_own _ (.tmp 34) (.tmp 45) 22 rfl w.heap.size 37 i0 (.int .u32 0) 1 4 Try.underlying22 hi hz0 hz1 hz2 rfl (by decide) v pre.length _ rfl (show (W.alloc _).drew.ownsRow _ _ _ _ _ _ from KB.out.2.2.2.2.1.alloc _) ⟨W.heap.size, 0, none⟩ 1 1 [.int .u32 (shrElem s x y)] rfl rfl (cell_one_new W _ _) (by simp [Value.oneCell']) (by unfold maxLen; omega) (by omega) (by have := KB.out.2.2.2.2.2.size; simp; omega) ?_
        intro v' w1 hown hgrow _
        refine hK _ _ ?_
        clear hK K
        obtain ⟨g', cap', rfl⟩ := ownsRow_succ hown
        obtain ⟨hv1, hv2, hr2, hk2, hb2⟩ := (show Boxed W.drew _ _ _ from KB.out.1).appended (by decide) (show W.drew.ownsRow _ _ _ _ _ _ from KB.out.2.2.2.2.1) KB.out.2.2.2.2.2.size (by omega) hown hgrow
        have hc5 := hv1.cell
        have hf5 := hv1.frozen
        refine wpAny_ready (rs := [13]) (by kernel_rfl) (by simp) ?_
        refine AllReady.cons rfl (fun K hK => ?_) AllReady.nil
        go_simp
        refine hK _ _ ?_
        clear hK K
        refine wpAny_done (by kernel_rfl) ?_ _
        refine ⟨((KeepsOthers.drew W).trans hk2).from _, ⟨(Below.refl _ W).drew.trans hb2, fun u hu => app_others (by decide) (show Boxed W.drew _ _ _ from hu) (by omega) (show W.drew.ownsRow _ _ _ _ _ _ from KB.out.2.2.2.2.1) hgrow, fun u hu => app_others (by decide) (show Boxed W.drew _ _ _ from hu) (by omega) (show W.drew.ownsRow _ _ _ _ _ _ from KB.out.2.2.2.2.1) hgrow⟩, ⟨_, hv2, by first | exact ⟨by simpa [shrL] using hr2, trivial⟩ | simpa [shrL] using hr2⟩, app_others (by decide) (show Boxed W.drew _ _ _ from KB.out.2.1) (by omega) (show W.drew.ownsRow _ _ _ _ _ _ from KB.out.2.2.2.2.1) hgrow, app_others (by decide) (show Boxed W.drew _ _ _ from KB.out.2.2.1) (by omega) (show W.drew.ownsRow _ _ _ _ _ _ from KB.out.2.2.2.2.1) hgrow, app_others (by decide) (show Boxed W.drew _ _ _ from KB.out.2.2.2.1) (by omega) (show W.drew.ownsRow _ _ _ _ _ _ from KB.out.2.2.2.2.1) hgrow, KB.out.2.2.2.2.2.trans ((Below.refl _ W).drew.trans hb2)⟩
      · go_simp
        refine hK _ _ ?_
        clear hK K
        refine wpAny_ready (rs := [0]) (by kernel_rfl) (by simp) ?_
        refine AllReady.cons rfl (fun K hK => ?_) AllReady.nil
        go_simp
        refine hK _ _ ?_
        clear hK K
        try rw [hel]
        refine wpAny_ready (rs := [12]) (by kernel_rfl) (by simp) ?_
        refine AllReady.cons rfl (fun K hK => ?_) AllReady.nil
        rw [if_pos (by rfl)]
        refine wp_append_own _ (.tmp 34) (.tmp 45) 22 rfl w.heap.size 37 i0 (.int .u32 0) 1 4 Try.underlying22 hi hz0 hz1 hz2 rfl (by decide) v pre.length _ rfl (show (W.alloc _).drew.ownsRow _ _ _ _ _ _ from KB.out.2.2.2.2.1.alloc _) ⟨W.heap.size, 0, none⟩ 1 1 [.int .u32 (shrElem s x y)] rfl rfl (cell_one_new W _ _) (by simp [Value.oneCell']) (by unfold maxLen; omega) (by omega) (by have := KB.out.2.2.2.2.2.size; simp; omega) ?_
        intro v' w1 hown hgrow _
        refine hK _ _ ?_
        clear hK K
        obtain ⟨g', cap', rfl⟩ := ownsRow_succ hown
        obtain ⟨hv1, hv2, hr2, hk2, hb2⟩ := (show Boxed W.drew _ _ _ from KB.out.1).appended (by decide) (show W.drew.ownsRow _ _ _ _ _ _ from KB.out.2.2.2.2.1) KB.out.2.2.2.2.2.size (by omega) hown hgrow
        have hc5 := hv1.cell
        have hf5 := hv1.frozen
        refine wpAny_ready (rs := [13]) (by kernel_rfl) (by simp) ?_
        refine AllReady.cons rfl (fun K hK => ?_) AllReady.nil
        go_simp
        refine hK _ _ ?_
        clear hK K
        refine wpAny_done (by kernel_rfl) ?_ _
        refine ⟨((KeepsOthers.drew W).trans hk2).from _, ⟨(Below.refl _ W).drew.trans hb2, fun u hu => app_others (by decide) (show Boxed W.drew _ _ _ from hu) (by omega) (show W.drew.ownsRow _ _ _ _ _ _ from KB.out.2.2.2.2.1) hgrow, fun u hu => app_others (by decide) (show Boxed W.drew _ _ _ from hu) (by omega) (show W.drew.ownsRow _ _ _ _ _ _ from KB.out.2.2.2.2.1) hgrow⟩, ⟨_, hv2, by first | exact ⟨by simpa [shrL] using hr2, trivial⟩ | simpa [shrL] using hr2⟩, app_others (by decide) (show Boxed W.drew _ _ _ from KB.out.2.1) (by omega) (show W.drew.ownsRow _ _ _ _ _ _ from KB.out.2.2.2.2.1) hgrow, app_others (by decide) (show Boxed W.drew _ _ _ from KB.out.2.2.1) (by omega) (show W.drew.ownsRow _ _ _ _ _ _ from KB.out.2.2.2.2.1) hgrow, app_others (by decide) (show Boxed W.drew _ _ _ from KB.out.2.2.2.1) (by omega) (show W.drew.ownsRow _ _ _ _ _ _ from KB.out.2.2.2.2.1) hgrow, KB.out.2.2.2.2.2.trans ((Below.refl _ W).drew.trans hb2)⟩
  case done =>
    rintro D ys W hD rfl ⟨⟨v, hv, hrow, -⟩, hk, h2, h3, hB⟩ hK
    have hlen : (upto_ (pairL L2 L3) L2.length).length = L2.length := upto_length _ _
    rw [hlen] at hrow
    have hspec := shr_spec hs1 ho hm_.out (show a1 = 32 * (q : Int) + s by have := HQ.out; have := Int.tmod_eq_emod_of_nonneg hk0 (b := 32); omega) (by have := HQ.out; omega) H2.out H3.out
    obtain ⟨xs, hxs⟩ : ∃ xs, shrL s (upto_ (pairL L2 L3) L2.length) = xs := ⟨_, rfl⟩
    have hxl : xs.length = L2.length := by rw [← hxs]; simp [shrL, hlen]
    rw [hxs] at hspec hrow
    obtain ⟨m, hm1⟩ : ∃ m, L2.length = m + 1 := ⟨L2.length - 1, by omega⟩
    rw [hm1] at hrow
    obtain ⟨g, cap, rfl⟩ := ownsRow_succ hrow
    have hc1 := hv.cell
    have hDW : D < W.heap.size := (Array.getElem?_eq_some_iff.1 hK).1
    have hgD : D ≠ g := by
      rintro rfl
      rcases hrow.2 with ⟨h, _⟩ | ⟨g', cap', cur, h, _, hh, _⟩
      · cases h
      · injection h with h _ _
        injection h with h
        injection h with h _ _
        subst h
        rw [hK] at hh
        cases hh
    have hcut := nat_cut_val xs (by omega)
    have hR2 : Kd.R (Kd.int .u32) 37 W w.heap.size (fun k => k = g) (.slice (some ⟨g, 0, none⟩) (m + 1) cap) xs := Kd.R_of_own (by rw [hxl, hm1]; exact hrow) (by simp [Value.ownBlock])
    have HC := Aside0.mk hcut
    have HS := Aside0.mk hspec
    have HR2 := Aside0.mk hR2
    have HD := Aside0.mk hK
    have HB2 := Aside0.mk hB
    clear hspec hcut hK hrow hv hk h2 h3 hB b2_ b3_ bO bK_ hB0 hst hR2 hxs hxl hm1 hlen
    gi_wp2_with (refine ⟨trivial, ?_⟩; gi_at_call 39; go_must (refine (callsIn_wide.2 (nat_cut.calls _ _ _ _ _ w _ HB2.out HR2.out HC.out)).mono ?_); rintro e w3 ⟨v0, rfl, hR3, hB3, hKept⟩)
    have hK3 : w3.heap[D]? = some (.deferred (some [])) := (hKept.2 D hDW hgD).trans HD.out
    refine ⟨by simp, .inl ⟨_, _, rfl, run_takeDeferred hK3, ?_⟩⟩
    refine ⟨_, results_tmp rfl _ _ _, v0, rfl, ?_, hB3.trans (belowK_b (w := w) (Nat.le_refl _) w3 D _ _ (by omega) hK3 rfl rfl)⟩
    rw [← HS.out]
    exact Kd.R_mono (Kd.R_grown hR3 (grownBy_putObj' w3 D _) (fun k hk e => by injection e with e; omega)) (fun _ _ => trivial)
  case stop =>
    rintro D c pre W hD _ h _
    exact h.elim
set_option maxHeartbeats 4000000 in
theorem nat_Shr_no (A0 : Option Addr) (c0 : Nat) (l0 : List Int) (a1 : Int) (w : World) (hr0 : Kd.C (Kd.int .u32) w A0 l0.length l0) (hc0 : l0.length ≤ c0) (hbd : a1 ≤ 9223372036854775807) (hno : YthdhpihfbggbbaaV.may l0 = false ∨ a1 < 0 ∨ (0 ≤ a1 ∧ (l0.length : Int) ≤ a1 / 32)) :
    Calls Try.prog 17 #[.slice A0 l0.length c0, .int .i64 a1] w fun e w' => e = .returned (.slice none 0 0) ∧ Below w.heap.size w w' := by
  have HM := nat_May.calls A0 c0 l0 (YthdhpihfbggbbaaV.may l0) (w.alloc (.cells #[.int .i64 a1] 3)) (Kd.C_alloc hr0 _) hc0 (nat_May_val l0 hr0.2.1)
  have H := Aside0.mk HM
  have bK := Boxed.new w 3 (.int .i64 a1)
  have hck := bK.cell
  clear HM hr0 hc0
  cases hm : YthdhpihfbggbbaaV.may l0 with
  | false =>
    rw [hm] at H
    clear hm hno
    go_enter Try.func17, Try.ntmps17
    go_wp2_with (go_at_call 11; refine H.out.mono ?_; rintro e w' ⟨rfl, ⟨nd, rfl⟩⟩)
    go_ret
    exact ⟨rfl, pw_below_drewN (below_alloc (Below.refl _ _) _) _⟩
  | true =>
    rw [hm] at H hno
    clear hm
    by_cases h0 : a1 < 0
    · have d1 : decide (a1 < 0) = true := decide_eq_true h0
      clear hno
      go_enter Try.func17, Try.ntmps17
      go_wp2_with (go_at_call 11; refine H.out.mono ?_; rintro e w' ⟨rfl, ⟨nd, rfl⟩⟩)
      go_ret
      exact ⟨rfl, pw_below_drewN (below_alloc (Below.refl _ _) _) _⟩
    · have d1 : decide (a1 < 0) = false := decide_eq_false h0
      have h1 : (l0.length : Int) ≤ a1 / 32 := by
        rcases hno with h | h | h
        · cases h
        · exact absurd h h0
        · exact h.2
      have d2 : decide ((l0.length : Int) ≤ a1 / 32) = true := decide_eq_true h1
      have hk0 : 0 ≤ a1 := by omega
      have hdv : IntKind.i64.wrap (a1.tdiv 32) = a1 / 32 := by rw [Int.tdiv_eq_ediv_of_nonneg hk0]; simp only [IntKind.wrap, IntKind.bits, IntKind.signed]; simp; omega
      clear hno
      go_enter Try.func17, Try.ntmps17
      go_wp2_with (go_at_call 11; refine H.out.mono ?_; rintro e w' ⟨rfl, ⟨nd, rfl⟩⟩)
      go_ret
      exact ⟨rfl, pw_below_drewN (below_alloc (Below.refl _ _) _) _⟩
theorem nat_Shr.calls (A0 : Option Addr) (c0 : Nat) (l0 : List Int) (a1 : Int) (r : List Int) (w : World) (hr0 : Kd.C (Kd.int .u32) w A0 l0.length l0) (hc0 : l0.length ≤ c0) (h : nat_Shr.f l0 a1 = some r) :
    Calls Try.prog 17 #[.slice A0 l0.length c0, .int .i64 a1] w fun e w' => ∃ v0_ : Value, e = .returned (v0_) ∧ Kd.R (Kd.int .u32) 37 w' w.heap.size (fun _ => True) v0_ r ∧ Below w.heap.size w w' := by
  unfold nat_Shr.f at h
  by_cases hok : YthdhpihfbggbbaaV.ok l0 = true ∧ (-9223372036854775808 ≤ a1 ∧ a1 ≤ 9223372036854775807)
  · rw [if_pos hok] at h
    obtain rfl := Option.some.inj h
    by_cases hy : YthdhpihfbggbbaaV.may l0 = true ∧ 0 ≤ a1 ∧ a1 / 32 < l0.length
    · exact nat_Shr_yes A0 c0 l0 a1 w hr0 hc0 hy.1 hok.1 hy.2.1 hy.2.2 (YthdhpihfbggbbaaV.may_length hy.1)
    · have e : YthdhpihfbggbbaaV.shrS l0 a1 = [] := by
        unfold YthdhpihfbggbbaaV.shrS
        rw [if_neg]
        simp only [Bool.and_eq_true, decide_eq_true_eq]
        exact fun h => hy ⟨h.1.1, h.1.2, h.2⟩
      rw [e]
      refine (nat_Shr_no A0 c0 l0 a1 w hr0 hc0 hok.2.2 ?_).mono fun e w' ⟨h1, h2⟩ => ⟨_, h1, Kd.R_nil _ _ _ _ _, h2⟩
      cases hm : YthdhpihfbggbbaaV.may l0 with
      | false => exact .inl rfl
      | true =>
        by_cases h0 : a1 < 0
        · exact .inr (.inl h0)
        · exact .inr (.inr ⟨by omega, by rw [hm] at hy; simp at hy; omega⟩)
  · rw [if_neg hok] at h
    cases h
end

end Go.Proofs.Ythdhpihfbggbbaa.PNat
