-- A text of the seat Ytejlgahkekgceaa, written by a program of this session (drive.py).
import Derived.Test.YtejlgahkekgceaaPDivx0
import Derived.Test.YtejlgahkekgceaaPDivx1
import Derived.Test.YtejlgahkekgceaaPDivx3
import Derived.Test.YtejlgahkekgceaaPDivx8
import Derived.Test.YtejlgahkekgceaaPDivx10
import Derived.Test.YtejlgahkekgceaaPDivx11
import Derived.Test.YtejlgahkekgceaaPDivx17
import Derived.Test.YtejlgahkekgceaaPDivx20
import Derived.Test.YtejlgahkekgceaaPDivx21
import Derived.Test.YtejlgahkekgceaaPDivx24
import Derived.Test.YtejlgahkekgceaaPDivx41
namespace Go.Proofs.Ytejlgahkekgceaa.PDiv
open Go.RowKit Go.Proofs.YtejlgahkekgceaaW.PrintWords Go.Proofs.YtejlgahkekgceaaW.PrintLast Go.Proofs.YtejlgahkekgceaaW.PrintMore
attribute [local go_sem] max2_int min2_int max_two min_two max_three min_three max_four min_four   -- for this text's walks alone
set_option linter.unusedVariables false
set_option linter.unusedSimpArgs false

/-! ### alidadelaw03_DivTwice: function 8 -/
mutual
def alidadelaw03_DivTwice.j0 : Nat → List Int → List Int → List Int → Int → Bool → Option (Bool)
  | 0, _, _, _, _, _ => none
  | k + 1, x0, x1, x2, x3, x47 => if x47 = true then ((alidadelaw03_awake.f k).bind fun t802 => (some t802)) else ((nat_May.f x0).bind fun t803 => (if t803 = true then ((nat_May.f x1).bind fun t804 => (if t804 = true then ((nat_May.f x2).bind fun t805 => (if t805 = true then (if (x1.length : Int) = 0 then (alidadelaw03_DivTwice.j1 k x0 x1 x2 x3 true) else (if (x2.length : Int) = 0 then (alidadelaw03_DivTwice.j1 k x0 x1 x2 x3 true) else (alidadelaw03_DivTwice.j1 k x0 x1 x2 x3 (decide (x3 < 0))))) else (alidadelaw03_DivTwice.j1 k x0 x1 x2 x3 true))) else (alidadelaw03_DivTwice.j1 k x0 x1 x2 x3 true))) else (alidadelaw03_DivTwice.j1 k x0 x1 x2 x3 true)))
def alidadelaw03_DivTwice.j1 : Nat → List Int → List Int → List Int → Int → Bool → Option (Bool)
  | 0, _, _, _, _, _ => none
  | k + 1, x0, x1, x2, x3, x75 => if x75 = true then (some true) else ((div_DivMod.f x0 x1).bind fun bt806 => ((div_DivMod.f bt806.1 x2).bind fun bt813 => ((mul_Mul.f k x1 x2).bind fun t820 => ((div_DivMod.f x0 t820).bind fun bt823 => ((alidadelaw03_of_1.f 1).bind fun t830 => ((nat_Shl.f t830 x3).bind fun t833 => ((div_DivMod.f x0 t833).bind fun bt836 => (if 0 < (x1.length : Int) then ((div_Small.f k x0 (Go.bits .or .u32 (rd x1 0) 1)).bind fun bt844 => ((alidadelaw03_of_1.f (Go.bits .or .u32 (rd x1 0) 1)).bind fun t850 => ((div_DivMod.f x0 t850).bind fun bt853 => (if bt823.2.2 = 0 then (if bt836.2.2 = 0 then (if bt844.2.2 = 0 then (if bt853.2.2 = 0 then ((alidadelaw03_same.f k bt813.1 bt823.1).bind fun t860 => (if t860 = true then ((nat_Shr.f x0 x3).bind fun t861 => ((alidadelaw03_same.f k bt836.1 t861).bind fun t864 => (if t864 = true then ((alidadelaw03_same.f k bt844.1 bt853.1).bind fun t865 => (if t865 = true then ((nat_Of.f k (IntKind.u64.wrap (bt844.2.1))).bind fun t866 => ((alidadelaw03_same.f k bt853.2.1 t866).bind fun t869 => (some t869))) else (none))) else (none)))) else (none))) else (none)) else (none)) else (none)) else (none))))) else (none)))))))))
end
def alidadelaw03_DivTwice.f (k : Nat) (l0 : List Int) (l1 : List Int) (l2 : List Int) (a3 : Int) : Option (Bool) := if (l0.length : Int) > 200 then (alidadelaw03_DivTwice.j0 k l0 l1 l2 a3 true) else (if (l1.length : Int) > 100 then (alidadelaw03_DivTwice.j0 k l0 l1 l2 a3 true) else (if (l2.length : Int) > 100 then (alidadelaw03_DivTwice.j0 k l0 l1 l2 a3 true) else (if a3 > 3000 then (alidadelaw03_DivTwice.j0 k l0 l1 l2 a3 true) else ((alidadelaw03_awake.f k).bind fun t801 => (alidadelaw03_DivTwice.j0 k l0 l1 l2 a3 (!t801))))))
set_option maxHeartbeats 8000000 in
set_option maxRecDepth 100000 in
theorem alidadelaw03_DivTwice.calls (k : Nat) (A0 : Option Addr) (c0 : Nat) (l0 : List Int) (A1 : Option Addr) (c1 : Nat) (l1 : List Int) (A2 : Option Addr) (c2 : Nat) (l2 : List Int) (a3 : Int) (r : Bool) (w : World) (hr0 : Kd.C (Kd.int .u32) w A0 l0.length l0) (hc0 : l0.length ≤ c0) (hr1 : Kd.C (Kd.int .u32) w A1 l1.length l1) (hc1 : l1.length ≤ c1) (hr2 : Kd.C (Kd.int .u32) w A2 l2.length l2) (hc2 : l2.length ≤ c2) (h : alidadelaw03_DivTwice.f k l0 l1 l2 a3 = some r) :
    Calls Try.prog 8 #[.slice A0 l0.length c0, .slice A1 l1.length c1, .slice A2 l2.length c2, .int .i64 a3] w fun e w' => e = .returned (.bool r) ∧ Below w.heap.size w w' := by
  have HR0 := Aside0.mk hr0
  have HC0 := Aside0.mk hc0
  clear hr0 hc0
  have HR1 := Aside0.mk hr1
  have HC1 := Aside0.mk hc1
  clear hr1 hc1
  have HR2 := Aside0.mk hr2
  have HC2 := Aside0.mk hc2
  clear hr2 hc2
  have HB := Aside0.mk (Below.refl w.heap.size w)
  have H : (if (l0.length : Int) > 200 then (alidadelaw03_DivTwice.j0 k l0 l1 l2 a3 true) else (if (l1.length : Int) > 100 then (alidadelaw03_DivTwice.j0 k l0 l1 l2 a3 true) else (if (l2.length : Int) > 100 then (alidadelaw03_DivTwice.j0 k l0 l1 l2 a3 true) else (if a3 > 3000 then (alidadelaw03_DivTwice.j0 k l0 l1 l2 a3 true) else ((alidadelaw03_awake.f k).bind fun t801 => (alidadelaw03_DivTwice.j0 k l0 l1 l2 a3 (!t801))))))) = some r := h
  clear h
  have HC5 := Aside0.mk H
  clear H
  go_enter Try.func8, Try.ntmps8
  go_upto_region 1 with (fail)
  go_cut [47] (fun v47 wc => ∃ (kq : Nat) (x47_4 : Bool), v47 = .bool x47_4 ∧ Aside0 (alidadelaw03_DivTwice.j0 kq l0 l1 l2 a3 x47_4 = some r) ∧ Aside0 (kq ≤ k) ∧ Aside0 (Below w.heap.size w wc))
  case first =>
    have H := HC5.out
    clear HC5
    by_cases c6 : (l0.length : Int) > 200
    · rw [if_pos c6] at H
      have c6b0 : decide (200 < (l0.length : Int)) = true := decide_eq_true c6
      have c6b1 : decide (200 < l0.length) = true := decide_eq_true (by omega)
      clear c6
      (first | rw [c6b0] | (simp only [i64_w, i32_w]; rw [c6b0]) | skip)
      have H' := Aside0.mk H
      clear H
      go_wp2
      go_meet
      case rel => exact ⟨_, (true), (by first | rfl | (simp; done) | (simp [*]; done)), H', ⟨by first | omega | exact Nat.le_refl _⟩, ⟨by repeat (first | (with_reducible first | exact HB.out | apply below_alloc | apply pw_below_drewN | apply below_drew1) | exact HB.out)⟩⟩
    · rw [if_neg c6] at H
      have c6b0 : decide (200 < (l0.length : Int)) = false := decide_eq_false c6
      have c6b1 : decide (200 < l0.length) = false := decide_eq_false (by omega)
      clear c6
      (first | rw [c6b0] | (simp only [i64_w, i32_w]; rw [c6b0]) | skip)
      by_cases c7 : (l1.length : Int) > 100
      · rw [if_pos c7] at H
        have c7b0 : decide (100 < (l1.length : Int)) = true := decide_eq_true c7
        have c7b1 : decide (100 < l1.length) = true := decide_eq_true (by omega)
        clear c7
        have H' := Aside0.mk H
        clear H
        go_wp2
        go_meet
        case rel => exact ⟨_, (true), (by first | rfl | (simp; done) | (simp [*]; done)), H', ⟨by first | omega | exact Nat.le_refl _⟩, ⟨by repeat (first | (with_reducible first | exact HB.out | apply below_alloc | apply pw_below_drewN | apply below_drew1) | exact HB.out)⟩⟩
      · rw [if_neg c7] at H
        have c7b0 : decide (100 < (l1.length : Int)) = false := decide_eq_false c7
        have c7b1 : decide (100 < l1.length) = false := decide_eq_false (by omega)
        clear c7
        by_cases c8 : (l2.length : Int) > 100
        · rw [if_pos c8] at H
          have c8b0 : decide (100 < (l2.length : Int)) = true := decide_eq_true c8
          have c8b1 : decide (100 < l2.length) = true := decide_eq_true (by omega)
          clear c8
          have H' := Aside0.mk H
          clear H
          go_wp2
          go_meet
          case rel => exact ⟨_, (true), (by first | rfl | (simp; done) | (simp [*]; done)), H', ⟨by first | omega | exact Nat.le_refl _⟩, ⟨by repeat (first | (with_reducible first | exact HB.out | apply below_alloc | apply pw_below_drewN | apply below_drew1) | exact HB.out)⟩⟩
        · rw [if_neg c8] at H
          have c8b0 : decide (100 < (l2.length : Int)) = false := decide_eq_false c8
          have c8b1 : decide (100 < l2.length) = false := decide_eq_false (by omega)
          clear c8
          by_cases c9 : a3 > 3000
          · rw [if_pos c9] at H
            have c9b0 : decide (3000 < a3) = true := decide_eq_true c9
            clear c9
            have H' := Aside0.mk H
            clear H
            go_wp2
            go_meet
            case rel => exact ⟨_, (true), (by first | rfl | (simp; done) | (simp [*]; done)), H', ⟨by first | omega | exact Nat.le_refl _⟩, ⟨by repeat (first | (with_reducible first | exact HB.out | apply below_alloc | apply pw_below_drewN | apply below_drew1) | exact HB.out)⟩⟩
          · rw [if_neg c9] at H
            have c9b0 : decide (3000 < a3) = false := decide_eq_false c9
            clear c9
            replace H := Option.bind_eq_some_iff.mp H
            obtain ⟨t801, A100, H⟩ := H
            replace H : (alidadelaw03_DivTwice.j0 k l0 l1 l2 a3 (!t801)) = some r := H
            have A10 := Aside0.mk A100
            clear A100
            have H' := Aside0.mk H
            clear H
            go_wp2_with (first | (go_at_call 10; (with_reducible refine (alidadelaw03_awake.calls k  t801 _ A10.out).mono ?_); rintro e w11 ⟨rfl, hb⟩; have n0_ := Aside0.mk (below_step (by repeat (first | (with_reducible first | exact HB.out | apply below_alloc | apply pw_below_drewN | apply below_drew1) | exact HB.out)) hb); clear HB; have HB := n0_; clear n0_; (try clear hb); (try clear hb2); (try clear hk); (try clear hi)))
            go_meet
            case rel => exact ⟨_, (!t801), (by first | rfl | (simp; done) | (simp [*]; done)), H', ⟨by first | omega | exact Nat.le_refl _⟩, ⟨by repeat (first | (with_reducible first | exact HB.out | apply below_alloc | apply pw_below_drewN | apply below_drew1) | exact HB.out)⟩⟩
  case rest =>
    clear HC5
    try clear c1
    try clear c2
    try clear p2
    try clear c6
    try clear c6b0
    try clear c6b1
    try clear c7
    try clear c7b0
    try clear c7b1
    try clear c8
    try clear c8b0
    try clear c8b1
    try clear c9
    try clear c9b0
    obtain ⟨kq, x47_4, rfl, HA, HJ4, HB⟩ := hcut
    cases kq with
    | zero => exact absurd HA.out (by simp [alidadelaw03_DivTwice.j0])
    | succ kj4 =>
      have H := HA.out
      clear HA
      simp only [alidadelaw03_DivTwice.j0] at H
      by_cases c12 : x47_4 = true
      · subst c12
        have H1 : ((alidadelaw03_awake.f kj4).bind fun t802 => (some t802)) = some r := by rw [if_pos rfl] at H; exact H
        clear H
        have H := H1
        clear H1
        replace H := Option.bind_eq_some_iff.mp H
        obtain ⟨t802, A130, H⟩ := H
        replace H : (some t802) = some r := H
        have A13 := Aside0.mk A130
        clear A130
        obtain rfl := Option.some.inj H
        go_wp2_with (first | ((with_reducible refine gate_callee (f := 10) rfl ?_); refine goesL_ (some 48) rfl rfl Try.func10 (by kernel_rfl) rfl #[] rfl (by (try simp only [List.map_toArray, List.map_cons, List.map_nil]); first | done | rfl | (simp only [List.length_drop, List.length_take]; rfl)) ?_; (with_reducible refine (alidadelaw03_awake.calls kj4  t802 _ A13.out).mono ?_); rintro e w14 ⟨rfl, hb⟩; refine ⟨_, rfl, ?_⟩; have n0_ := Aside0.mk (below_step (by repeat (first | (with_reducible first | exact HB.out | apply below_alloc | apply pw_below_drewN | apply below_drew1) | exact HB.out)) hb); clear HB; have HB := n0_; clear n0_; (try clear hb); (try clear hb2); (try clear hk); (try clear hi)))
        go_ret
        exact ⟨by first | rfl | (simp [errW_none, errW_some] <;> rfl) | (simp [*, errW_none, errW_some] <;> rfl), by repeat (first | (with_reducible first | exact HB.out | apply below_alloc | apply pw_below_drewN | apply below_drew1) | exact HB.out)⟩
      · replace c12 := Bool.eq_false_iff.mpr c12
        subst c12
        have H1 : ((nat_May.f l0).bind fun t803 => (if t803 = true then ((nat_May.f l1).bind fun t804 => (if t804 = true then ((nat_May.f l2).bind fun t805 => (if t805 = true then (if (l1.length : Int) = 0 then (alidadelaw03_DivTwice.j1 kj4 l0 l1 l2 a3 true) else (if (l2.length : Int) = 0 then (alidadelaw03_DivTwice.j1 kj4 l0 l1 l2 a3 true) else (alidadelaw03_DivTwice.j1 kj4 l0 l1 l2 a3 (decide (a3 < 0))))) else (alidadelaw03_DivTwice.j1 kj4 l0 l1 l2 a3 true))) else (alidadelaw03_DivTwice.j1 kj4 l0 l1 l2 a3 true))) else (alidadelaw03_DivTwice.j1 kj4 l0 l1 l2 a3 true))) = some r := by rw [if_neg (show ¬ (false = true) by decide)] at H; exact H
        clear H
        have H := H1
        clear H1
        have HC15 := Aside0.mk H
        clear H
        go_upto_region 3 with (fail)
        go_cut [75] (fun v75 wc => ∃ (kq : Nat) (x75_14 : Bool), v75 = .bool x75_14 ∧ Aside0 (alidadelaw03_DivTwice.j1 kq l0 l1 l2 a3 x75_14 = some r) ∧ Aside0 (kq ≤ kj4) ∧ Aside0 (Below w.heap.size w wc))
        case first =>
          have H := HC15.out
          clear HC15
          replace H := Option.bind_eq_some_iff.mp H
          obtain ⟨t803, A160, H⟩ := H
          replace H : (if t803 = true then ((nat_May.f l1).bind fun t804 => (if t804 = true then ((nat_May.f l2).bind fun t805 => (if t805 = true then (if (l1.length : Int) = 0 then (alidadelaw03_DivTwice.j1 kj4 l0 l1 l2 a3 true) else (if (l2.length : Int) = 0 then (alidadelaw03_DivTwice.j1 kj4 l0 l1 l2 a3 true) else (alidadelaw03_DivTwice.j1 kj4 l0 l1 l2 a3 (decide (a3 < 0))))) else (alidadelaw03_DivTwice.j1 kj4 l0 l1 l2 a3 true))) else (alidadelaw03_DivTwice.j1 kj4 l0 l1 l2 a3 true))) else (alidadelaw03_DivTwice.j1 kj4 l0 l1 l2 a3 true)) = some r := H
          have A16 := Aside0.mk A160
          clear A160
          by_cases c17 : t803 = true
          · subst c17
            have H1 : ((nat_May.f l1).bind fun t804 => (if t804 = true then ((nat_May.f l2).bind fun t805 => (if t805 = true then (if (l1.length : Int) = 0 then (alidadelaw03_DivTwice.j1 kj4 l0 l1 l2 a3 true) else (if (l2.length : Int) = 0 then (alidadelaw03_DivTwice.j1 kj4 l0 l1 l2 a3 true) else (alidadelaw03_DivTwice.j1 kj4 l0 l1 l2 a3 (decide (a3 < 0))))) else (alidadelaw03_DivTwice.j1 kj4 l0 l1 l2 a3 true))) else (alidadelaw03_DivTwice.j1 kj4 l0 l1 l2 a3 true))) = some r := by rw [if_pos rfl] at H; exact H
            clear H
            have H := H1
            clear H1
            replace H := Option.bind_eq_some_iff.mp H
            obtain ⟨t804, A180, H⟩ := H
            replace H : (if t804 = true then ((nat_May.f l2).bind fun t805 => (if t805 = true then (if (l1.length : Int) = 0 then (alidadelaw03_DivTwice.j1 kj4 l0 l1 l2 a3 true) else (if (l2.length : Int) = 0 then (alidadelaw03_DivTwice.j1 kj4 l0 l1 l2 a3 true) else (alidadelaw03_DivTwice.j1 kj4 l0 l1 l2 a3 (decide (a3 < 0))))) else (alidadelaw03_DivTwice.j1 kj4 l0 l1 l2 a3 true))) else (alidadelaw03_DivTwice.j1 kj4 l0 l1 l2 a3 true)) = some r := H
            have A18 := Aside0.mk A180
            clear A180
            by_cases c19 : t804 = true
            · subst c19
              have H1 : ((nat_May.f l2).bind fun t805 => (if t805 = true then (if (l1.length : Int) = 0 then (alidadelaw03_DivTwice.j1 kj4 l0 l1 l2 a3 true) else (if (l2.length : Int) = 0 then (alidadelaw03_DivTwice.j1 kj4 l0 l1 l2 a3 true) else (alidadelaw03_DivTwice.j1 kj4 l0 l1 l2 a3 (decide (a3 < 0))))) else (alidadelaw03_DivTwice.j1 kj4 l0 l1 l2 a3 true))) = some r := by rw [if_pos rfl] at H; exact H
              clear H
              have H := H1
              clear H1
              replace H := Option.bind_eq_some_iff.mp H
              obtain ⟨t805, A200, H⟩ := H
              replace H : (if t805 = true then (if (l1.length : Int) = 0 then (alidadelaw03_DivTwice.j1 kj4 l0 l1 l2 a3 true) else (if (l2.length : Int) = 0 then (alidadelaw03_DivTwice.j1 kj4 l0 l1 l2 a3 true) else (alidadelaw03_DivTwice.j1 kj4 l0 l1 l2 a3 (decide (a3 < 0))))) else (alidadelaw03_DivTwice.j1 kj4 l0 l1 l2 a3 true)) = some r := H
              have A20 := Aside0.mk A200
              clear A200
              by_cases c21 : t805 = true
              · subst c21
                have H1 : (if (l1.length : Int) = 0 then (alidadelaw03_DivTwice.j1 kj4 l0 l1 l2 a3 true) else (if (l2.length : Int) = 0 then (alidadelaw03_DivTwice.j1 kj4 l0 l1 l2 a3 true) else (alidadelaw03_DivTwice.j1 kj4 l0 l1 l2 a3 (decide (a3 < 0))))) = some r := by rw [if_pos rfl] at H; exact H
                clear H
                have H := H1
                clear H1
                by_cases c22 : (l1.length : Int) = 0
                · rw [if_pos c22] at H
                  have c22b0 : ((l1.length : Int) == 0) = true := beq_iff_eq.mpr c22
                  have c22b1 : ((l1.length : Int) != 0) = false := bne_eq_false_iff_eq.mpr c22
                  clear c22
                  (first | rw [c22b0] | (simp only [i64_w, i32_w]; rw [c22b0]) | skip)
                  have H' := Aside0.mk H
                  clear H
                  go_wp2_with (first | ((with_reducible refine gate_callee (f := 26) rfl ?_); refine goesL_ (some 50) rfl rfl Try.func26 (by kernel_rfl) rfl #[.slice A0 l0.length c0] rfl (by (try simp only [List.map_toArray, List.map_cons, List.map_nil]); first | done | rfl | (simp only [List.length_drop, List.length_take]; rfl)) ?_; (with_reducible refine (nat_May.calls _ _ l0 true _ ?side1 ?side2 A16.out).mono ?_); (case side1 => repeat (first | exact (Kd.C_below HR0.out HB.out) | (with_reducible refine Kd.C_alloc ?_ _) | (with_reducible refine Kd.C_drewN ?_ _) | (with_reducible refine Kd.C_drew ?_))); (case side2 => exact HC0.out); rintro e w' ⟨rfl, ⟨nd, rfl⟩⟩; refine ⟨_, rfl, ?_⟩) | (go_at_call 26; (with_reducible refine (nat_May.calls _ _ l1 true _ ?side1 ?side2 A18.out).mono ?_); (case side1 => repeat (first | exact (Kd.C_below HR1.out (by repeat (first | (with_reducible first | exact HB.out | apply below_alloc | apply pw_below_drewN | apply below_drew1) | exact HB.out))) | (with_reducible refine Kd.C_alloc ?_ _) | (with_reducible refine Kd.C_drewN ?_ _) | (with_reducible refine Kd.C_drew ?_))); (case side2 => exact HC1.out); rintro e w' ⟨rfl, ⟨nd, rfl⟩⟩) | (go_at_call 26; (with_reducible refine (nat_May.calls _ _ l2 true _ ?side1 ?side2 A20.out).mono ?_); (case side1 => repeat (first | exact (Kd.C_below HR2.out (by repeat (first | (with_reducible first | exact HB.out | apply below_alloc | apply pw_below_drewN | apply below_drew1) | exact HB.out))) | (with_reducible refine Kd.C_alloc ?_ _) | (with_reducible refine Kd.C_drewN ?_ _) | (with_reducible refine Kd.C_drew ?_))); (case side2 => exact HC2.out); rintro e w' ⟨rfl, ⟨nd, rfl⟩⟩))
                  go_meet
                  case rel => exact ⟨_, (true), (by first | rfl | (simp; done) | (simp [*]; done)), H', ⟨by have := HJ4.out; first | omega | exact Nat.le_refl _⟩, ⟨by repeat (first | (with_reducible first | exact HB.out | apply below_alloc | apply pw_below_drewN | apply below_drew1) | exact HB.out)⟩⟩
                · rw [if_neg c22] at H
                  have c22b0 : ((l1.length : Int) == 0) = false := beq_eq_false_iff_ne.mpr c22
                  have c22b1 : ((l1.length : Int) != 0) = true := bne_iff_ne.mpr c22
                  have c22b2 : ¬ (l1 = []) := fun h_ => c22 (by rw [h_]; rfl)
                  (first | rw [c22b0] | (simp only [i64_w, i32_w]; rw [c22b0]) | skip)
                  by_cases c23 : (l2.length : Int) = 0
                  · rw [if_pos c23] at H
                    have c23b0 : ((l2.length : Int) == 0) = true := beq_iff_eq.mpr c23
                    have c23b1 : ((l2.length : Int) != 0) = false := bne_eq_false_iff_eq.mpr c23
                    clear c23
                    have H' := Aside0.mk H
                    clear H
                    go_wp2_with (first | ((with_reducible refine gate_callee (f := 26) rfl ?_); refine goesL_ (some 50) rfl rfl Try.func26 (by kernel_rfl) rfl #[.slice A0 l0.length c0] rfl (by (try simp only [List.map_toArray, List.map_cons, List.map_nil]); first | done | rfl | (simp only [List.length_drop, List.length_take]; rfl)) ?_; (with_reducible refine (nat_May.calls _ _ l0 true _ ?side1 ?side2 A16.out).mono ?_); (case side1 => repeat (first | exact (Kd.C_below HR0.out HB.out) | (with_reducible refine Kd.C_alloc ?_ _) | (with_reducible refine Kd.C_drewN ?_ _) | (with_reducible refine Kd.C_drew ?_))); (case side2 => exact HC0.out); rintro e w' ⟨rfl, ⟨nd, rfl⟩⟩; refine ⟨_, rfl, ?_⟩) | (go_at_call 26; (with_reducible refine (nat_May.calls _ _ l1 true _ ?side1 ?side2 A18.out).mono ?_); (case side1 => repeat (first | exact (Kd.C_below HR1.out (by repeat (first | (with_reducible first | exact HB.out | apply below_alloc | apply pw_below_drewN | apply below_drew1) | exact HB.out))) | (with_reducible refine Kd.C_alloc ?_ _) | (with_reducible refine Kd.C_drewN ?_ _) | (with_reducible refine Kd.C_drew ?_))); (case side2 => exact HC1.out); rintro e w' ⟨rfl, ⟨nd, rfl⟩⟩) | (go_at_call 26; (with_reducible refine (nat_May.calls _ _ l2 true _ ?side1 ?side2 A20.out).mono ?_); (case side1 => repeat (first | exact (Kd.C_below HR2.out (by repeat (first | (with_reducible first | exact HB.out | apply below_alloc | apply pw_below_drewN | apply below_drew1) | exact HB.out))) | (with_reducible refine Kd.C_alloc ?_ _) | (with_reducible refine Kd.C_drewN ?_ _) | (with_reducible refine Kd.C_drew ?_))); (case side2 => exact HC2.out); rintro e w' ⟨rfl, ⟨nd, rfl⟩⟩))
                    go_meet
                    case rel => exact ⟨_, (true), (by first | rfl | (simp; done) | (simp [*]; done)), H', ⟨by have := HJ4.out; first | omega | exact Nat.le_refl _⟩, ⟨by repeat (first | (with_reducible first | exact HB.out | apply below_alloc | apply pw_below_drewN | apply below_drew1) | exact HB.out)⟩⟩
                  · rw [if_neg c23] at H
                    have c23b0 : ((l2.length : Int) == 0) = false := beq_eq_false_iff_ne.mpr c23
                    have c23b1 : ((l2.length : Int) != 0) = true := bne_iff_ne.mpr c23
                    have c23b2 : ¬ (l2 = []) := fun h_ => c23 (by rw [h_]; rfl)
                    have H' := Aside0.mk H
                    clear H
                    go_wp2_with (first | ((with_reducible refine gate_callee (f := 26) rfl ?_); refine goesL_ (some 50) rfl rfl Try.func26 (by kernel_rfl) rfl #[.slice A0 l0.length c0] rfl (by (try simp only [List.map_toArray, List.map_cons, List.map_nil]); first | done | rfl | (simp only [List.length_drop, List.length_take]; rfl)) ?_; (with_reducible refine (nat_May.calls _ _ l0 true _ ?side1 ?side2 A16.out).mono ?_); (case side1 => repeat (first | exact (Kd.C_below HR0.out HB.out) | (with_reducible refine Kd.C_alloc ?_ _) | (with_reducible refine Kd.C_drewN ?_ _) | (with_reducible refine Kd.C_drew ?_))); (case side2 => exact HC0.out); rintro e w' ⟨rfl, ⟨nd, rfl⟩⟩; refine ⟨_, rfl, ?_⟩) | (go_at_call 26; (with_reducible refine (nat_May.calls _ _ l1 true _ ?side1 ?side2 A18.out).mono ?_); (case side1 => repeat (first | exact (Kd.C_below HR1.out (by repeat (first | (with_reducible first | exact HB.out | apply below_alloc | apply pw_below_drewN | apply below_drew1) | exact HB.out))) | (with_reducible refine Kd.C_alloc ?_ _) | (with_reducible refine Kd.C_drewN ?_ _) | (with_reducible refine Kd.C_drew ?_))); (case side2 => exact HC1.out); rintro e w' ⟨rfl, ⟨nd, rfl⟩⟩) | (go_at_call 26; (with_reducible refine (nat_May.calls _ _ l2 true _ ?side1 ?side2 A20.out).mono ?_); (case side1 => repeat (first | exact (Kd.C_below HR2.out (by repeat (first | (with_reducible first | exact HB.out | apply below_alloc | apply pw_below_drewN | apply below_drew1) | exact HB.out))) | (with_reducible refine Kd.C_alloc ?_ _) | (with_reducible refine Kd.C_drewN ?_ _) | (with_reducible refine Kd.C_drew ?_))); (case side2 => exact HC2.out); rintro e w' ⟨rfl, ⟨nd, rfl⟩⟩))
                    go_meet
                    case rel => exact ⟨_, (decide (a3 < 0)), (by first | rfl | (simp; done) | (simp [*]; done)), H', ⟨by have := HJ4.out; first | omega | exact Nat.le_refl _⟩, ⟨by repeat (first | (with_reducible first | exact HB.out | apply below_alloc | apply pw_below_drewN | apply below_drew1) | exact HB.out)⟩⟩
              · replace c21 := Bool.eq_false_iff.mpr c21
                subst c21
                have H1 : (alidadelaw03_DivTwice.j1 kj4 l0 l1 l2 a3 true) = some r := by rw [if_neg (show ¬ (false = true) by decide)] at H; exact H
                clear H
                have H := H1
                clear H1
                have H' := Aside0.mk H
                clear H
                go_wp2_with (first | ((with_reducible refine gate_callee (f := 26) rfl ?_); refine goesL_ (some 50) rfl rfl Try.func26 (by kernel_rfl) rfl #[.slice A0 l0.length c0] rfl (by (try simp only [List.map_toArray, List.map_cons, List.map_nil]); first | done | rfl | (simp only [List.length_drop, List.length_take]; rfl)) ?_; (with_reducible refine (nat_May.calls _ _ l0 true _ ?side1 ?side2 A16.out).mono ?_); (case side1 => repeat (first | exact (Kd.C_below HR0.out HB.out) | (with_reducible refine Kd.C_alloc ?_ _) | (with_reducible refine Kd.C_drewN ?_ _) | (with_reducible refine Kd.C_drew ?_))); (case side2 => exact HC0.out); rintro e w' ⟨rfl, ⟨nd, rfl⟩⟩; refine ⟨_, rfl, ?_⟩) | (go_at_call 26; (with_reducible refine (nat_May.calls _ _ l1 true _ ?side1 ?side2 A18.out).mono ?_); (case side1 => repeat (first | exact (Kd.C_below HR1.out (by repeat (first | (with_reducible first | exact HB.out | apply below_alloc | apply pw_below_drewN | apply below_drew1) | exact HB.out))) | (with_reducible refine Kd.C_alloc ?_ _) | (with_reducible refine Kd.C_drewN ?_ _) | (with_reducible refine Kd.C_drew ?_))); (case side2 => exact HC1.out); rintro e w' ⟨rfl, ⟨nd, rfl⟩⟩) | (go_at_call 26; (with_reducible refine (nat_May.calls _ _ l2 false _ ?side1 ?side2 A20.out).mono ?_); (case side1 => repeat (first | exact (Kd.C_below HR2.out (by repeat (first | (with_reducible first | exact HB.out | apply below_alloc | apply pw_below_drewN | apply below_drew1) | exact HB.out))) | (with_reducible refine Kd.C_alloc ?_ _) | (with_reducible refine Kd.C_drewN ?_ _) | (with_reducible refine Kd.C_drew ?_))); (case side2 => exact HC2.out); rintro e w' ⟨rfl, ⟨nd, rfl⟩⟩))
                go_meet
                case rel => exact ⟨_, (true), (by first | rfl | (simp; done) | (simp [*]; done)), H', ⟨by have := HJ4.out; first | omega | exact Nat.le_refl _⟩, ⟨by repeat (first | (with_reducible first | exact HB.out | apply below_alloc | apply pw_below_drewN | apply below_drew1) | exact HB.out)⟩⟩
            · replace c19 := Bool.eq_false_iff.mpr c19
              subst c19
              have H1 : (alidadelaw03_DivTwice.j1 kj4 l0 l1 l2 a3 true) = some r := by rw [if_neg (show ¬ (false = true) by decide)] at H; exact H
              clear H
              have H := H1
              clear H1
              have H' := Aside0.mk H
              clear H
              go_wp2_with (first | ((with_reducible refine gate_callee (f := 26) rfl ?_); refine goesL_ (some 50) rfl rfl Try.func26 (by kernel_rfl) rfl #[.slice A0 l0.length c0] rfl (by (try simp only [List.map_toArray, List.map_cons, List.map_nil]); first | done | rfl | (simp only [List.length_drop, List.length_take]; rfl)) ?_; (with_reducible refine (nat_May.calls _ _ l0 true _ ?side1 ?side2 A16.out).mono ?_); (case side1 => repeat (first | exact (Kd.C_below HR0.out HB.out) | (with_reducible refine Kd.C_alloc ?_ _) | (with_reducible refine Kd.C_drewN ?_ _) | (with_reducible refine Kd.C_drew ?_))); (case side2 => exact HC0.out); rintro e w' ⟨rfl, ⟨nd, rfl⟩⟩; refine ⟨_, rfl, ?_⟩) | (go_at_call 26; (with_reducible refine (nat_May.calls _ _ l1 false _ ?side1 ?side2 A18.out).mono ?_); (case side1 => repeat (first | exact (Kd.C_below HR1.out (by repeat (first | (with_reducible first | exact HB.out | apply below_alloc | apply pw_below_drewN | apply below_drew1) | exact HB.out))) | (with_reducible refine Kd.C_alloc ?_ _) | (with_reducible refine Kd.C_drewN ?_ _) | (with_reducible refine Kd.C_drew ?_))); (case side2 => exact HC1.out); rintro e w' ⟨rfl, ⟨nd, rfl⟩⟩))
              go_meet
              case rel => exact ⟨_, (true), (by first | rfl | (simp; done) | (simp [*]; done)), H', ⟨by have := HJ4.out; first | omega | exact Nat.le_refl _⟩, ⟨by repeat (first | (with_reducible first | exact HB.out | apply below_alloc | apply pw_below_drewN | apply below_drew1) | exact HB.out)⟩⟩
          · replace c17 := Bool.eq_false_iff.mpr c17
            subst c17
            have H1 : (alidadelaw03_DivTwice.j1 kj4 l0 l1 l2 a3 true) = some r := by rw [if_neg (show ¬ (false = true) by decide)] at H; exact H
            clear H
            have H := H1
            clear H1
            have H' := Aside0.mk H
            clear H
            go_wp2_with (first | ((with_reducible refine gate_callee (f := 26) rfl ?_); refine goesL_ (some 50) rfl rfl Try.func26 (by kernel_rfl) rfl #[.slice A0 l0.length c0] rfl (by (try simp only [List.map_toArray, List.map_cons, List.map_nil]); first | done | rfl | (simp only [List.length_drop, List.length_take]; rfl)) ?_; (with_reducible refine (nat_May.calls _ _ l0 false _ ?side1 ?side2 A16.out).mono ?_); (case side1 => repeat (first | exact (Kd.C_below HR0.out HB.out) | (with_reducible refine Kd.C_alloc ?_ _) | (with_reducible refine Kd.C_drewN ?_ _) | (with_reducible refine Kd.C_drew ?_))); (case side2 => exact HC0.out); rintro e w' ⟨rfl, ⟨nd, rfl⟩⟩; refine ⟨_, rfl, ?_⟩))
            go_meet
            case rel => exact ⟨_, (true), (by first | rfl | (simp; done) | (simp [*]; done)), H', ⟨by have := HJ4.out; first | omega | exact Nat.le_refl _⟩, ⟨by repeat (first | (with_reducible first | exact HB.out | apply below_alloc | apply pw_below_drewN | apply below_drew1) | exact HB.out)⟩⟩
        case rest =>
          clear HC15
          try clear c1
          try clear c2
          try clear p2
          try clear c6
          try clear c6b0
          try clear c6b1
          try clear c7
          try clear c7b0
          try clear c7b1
          try clear c8
          try clear c8b0
          try clear c8b1
          try clear c9
          try clear c9b0
          try clear c10
          try clear c12
          try clear c17
          try clear c19
          try clear c21
          try clear c22
          try clear c22b0
          try clear c22b1
          try clear c22b2
          try clear c23
          try clear c23b0
          try clear c23b1
          try clear c23b2
          try clear p2
          obtain ⟨kq, x75_14, rfl, HA, HJ14, HB⟩ := hcut
          cases kq with
          | zero => exact absurd HA.out (by simp [alidadelaw03_DivTwice.j1])
          | succ kj14 =>
            have H := HA.out
            clear HA
            simp only [alidadelaw03_DivTwice.j1] at H
            by_cases c24 : x75_14 = true
            · subst c24
              have H1 : (some true) = some r := by rw [if_pos rfl] at H; exact H
              clear H
              have H := H1
              clear H1
              obtain rfl := Option.some.inj H
              go_wp2
              go_ret
              exact ⟨by first | rfl | (simp [errW_none, errW_some] <;> rfl) | (simp [*, errW_none, errW_some] <;> rfl), by repeat (first | (with_reducible first | exact HB.out | apply below_alloc | apply pw_below_drewN | apply below_drew1) | exact HB.out)⟩
            · replace c24 := Bool.eq_false_iff.mpr c24
              subst c24
              have H1 : ((div_DivMod.f l0 l1).bind fun bt806 => ((div_DivMod.f bt806.1 l2).bind fun bt813 => ((mul_Mul.f kj14 l1 l2).bind fun t820 => ((div_DivMod.f l0 t820).bind fun bt823 => ((alidadelaw03_of_1.f 1).bind fun t830 => ((nat_Shl.f t830 a3).bind fun t833 => ((div_DivMod.f l0 t833).bind fun bt836 => (if 0 < (l1.length : Int) then ((div_Small.f kj14 l0 (Go.bits .or .u32 (rd l1 0) 1)).bind fun bt844 => ((alidadelaw03_of_1.f (Go.bits .or .u32 (rd l1 0) 1)).bind fun t850 => ((div_DivMod.f l0 t850).bind fun bt853 => (if bt823.2.2 = 0 then (if bt836.2.2 = 0 then (if bt844.2.2 = 0 then (if bt853.2.2 = 0 then ((alidadelaw03_same.f kj14 bt813.1 bt823.1).bind fun t860 => (if t860 = true then ((nat_Shr.f l0 a3).bind fun t861 => ((alidadelaw03_same.f kj14 bt836.1 t861).bind fun t864 => (if t864 = true then ((alidadelaw03_same.f kj14 bt844.1 bt853.1).bind fun t865 => (if t865 = true then ((nat_Of.f kj14 (IntKind.u64.wrap (bt844.2.1))).bind fun t866 => ((alidadelaw03_same.f kj14 bt853.2.1 t866).bind fun t869 => (some t869))) else (none))) else (none)))) else (none))) else (none)) else (none)) else (none)) else (none))))) else (none))))))))) = some r := by rw [if_neg (show ¬ (false = true) by decide)] at H; exact H
              clear H
              have H := H1
              clear H1
              replace H := Option.bind_eq_some_iff.mp H
              obtain ⟨⟨t806, t807, t808⟩, A250, H⟩ := H
              replace H : ((div_DivMod.f t806 l2).bind fun bt813 => ((mul_Mul.f kj14 l1 l2).bind fun t820 => ((div_DivMod.f l0 t820).bind fun bt823 => ((alidadelaw03_of_1.f 1).bind fun t830 => ((nat_Shl.f t830 a3).bind fun t833 => ((div_DivMod.f l0 t833).bind fun bt836 => (if 0 < (l1.length : Int) then ((div_Small.f kj14 l0 (Go.bits .or .u32 (rd l1 0) 1)).bind fun bt844 => ((alidadelaw03_of_1.f (Go.bits .or .u32 (rd l1 0) 1)).bind fun t850 => ((div_DivMod.f l0 t850).bind fun bt853 => (if bt823.2.2 = 0 then (if bt836.2.2 = 0 then (if bt844.2.2 = 0 then (if bt853.2.2 = 0 then ((alidadelaw03_same.f kj14 bt813.1 bt823.1).bind fun t860 => (if t860 = true then ((nat_Shr.f l0 a3).bind fun t861 => ((alidadelaw03_same.f kj14 bt836.1 t861).bind fun t864 => (if t864 = true then ((alidadelaw03_same.f kj14 bt844.1 bt853.1).bind fun t865 => (if t865 = true then ((nat_Of.f kj14 (IntKind.u64.wrap (bt844.2.1))).bind fun t866 => ((alidadelaw03_same.f kj14 bt853.2.1 t866).bind fun t869 => (some t869))) else (none))) else (none)))) else (none))) else (none)) else (none)) else (none)) else (none))))) else (none)))))))) = some r := H
              have A25 := Aside0.mk A250
              clear A250
              replace H := Option.bind_eq_some_iff.mp H
              obtain ⟨⟨t813, t814, t815⟩, A260, H⟩ := H
              replace H : ((mul_Mul.f kj14 l1 l2).bind fun t820 => ((div_DivMod.f l0 t820).bind fun bt823 => ((alidadelaw03_of_1.f 1).bind fun t830 => ((nat_Shl.f t830 a3).bind fun t833 => ((div_DivMod.f l0 t833).bind fun bt836 => (if 0 < (l1.length : Int) then ((div_Small.f kj14 l0 (Go.bits .or .u32 (rd l1 0) 1)).bind fun bt844 => ((alidadelaw03_of_1.f (Go.bits .or .u32 (rd l1 0) 1)).bind fun t850 => ((div_DivMod.f l0 t850).bind fun bt853 => (if bt823.2.2 = 0 then (if bt836.2.2 = 0 then (if bt844.2.2 = 0 then (if bt853.2.2 = 0 then ((alidadelaw03_same.f kj14 t813 bt823.1).bind fun t860 => (if t860 = true then ((nat_Shr.f l0 a3).bind fun t861 => ((alidadelaw03_same.f kj14 bt836.1 t861).bind fun t864 => (if t864 = true then ((alidadelaw03_same.f kj14 bt844.1 bt853.1).bind fun t865 => (if t865 = true then ((nat_Of.f kj14 (IntKind.u64.wrap (bt844.2.1))).bind fun t866 => ((alidadelaw03_same.f kj14 bt853.2.1 t866).bind fun t869 => (some t869))) else (none))) else (none)))) else (none))) else (none)) else (none)) else (none)) else (none))))) else (none))))))) = some r := H
              have A26 := Aside0.mk A260
              clear A260
              replace H := Option.bind_eq_some_iff.mp H
              obtain ⟨t820, A270, H⟩ := H
              replace H : ((div_DivMod.f l0 t820).bind fun bt823 => ((alidadelaw03_of_1.f 1).bind fun t830 => ((nat_Shl.f t830 a3).bind fun t833 => ((div_DivMod.f l0 t833).bind fun bt836 => (if 0 < (l1.length : Int) then ((div_Small.f kj14 l0 (Go.bits .or .u32 (rd l1 0) 1)).bind fun bt844 => ((alidadelaw03_of_1.f (Go.bits .or .u32 (rd l1 0) 1)).bind fun t850 => ((div_DivMod.f l0 t850).bind fun bt853 => (if bt823.2.2 = 0 then (if bt836.2.2 = 0 then (if bt844.2.2 = 0 then (if bt853.2.2 = 0 then ((alidadelaw03_same.f kj14 t813 bt823.1).bind fun t860 => (if t860 = true then ((nat_Shr.f l0 a3).bind fun t861 => ((alidadelaw03_same.f kj14 bt836.1 t861).bind fun t864 => (if t864 = true then ((alidadelaw03_same.f kj14 bt844.1 bt853.1).bind fun t865 => (if t865 = true then ((nat_Of.f kj14 (IntKind.u64.wrap (bt844.2.1))).bind fun t866 => ((alidadelaw03_same.f kj14 bt853.2.1 t866).bind fun t869 => (some t869))) else (none))) else (none)))) else (none))) else (none)) else (none)) else (none)) else (none))))) else (none)))))) = some r := H
              have A27 := Aside0.mk A270
              clear A270
              replace H := Option.bind_eq_some_iff.mp H
              obtain ⟨⟨t823, t824, t825⟩, A280, H⟩ := H
              replace H : ((alidadelaw03_of_1.f 1).bind fun t830 => ((nat_Shl.f t830 a3).bind fun t833 => ((div_DivMod.f l0 t833).bind fun bt836 => (if 0 < (l1.length : Int) then ((div_Small.f kj14 l0 (Go.bits .or .u32 (rd l1 0) 1)).bind fun bt844 => ((alidadelaw03_of_1.f (Go.bits .or .u32 (rd l1 0) 1)).bind fun t850 => ((div_DivMod.f l0 t850).bind fun bt853 => (if t825 = 0 then (if bt836.2.2 = 0 then (if bt844.2.2 = 0 then (if bt853.2.2 = 0 then ((alidadelaw03_same.f kj14 t813 t823).bind fun t860 => (if t860 = true then ((nat_Shr.f l0 a3).bind fun t861 => ((alidadelaw03_same.f kj14 bt836.1 t861).bind fun t864 => (if t864 = true then ((alidadelaw03_same.f kj14 bt844.1 bt853.1).bind fun t865 => (if t865 = true then ((nat_Of.f kj14 (IntKind.u64.wrap (bt844.2.1))).bind fun t866 => ((alidadelaw03_same.f kj14 bt853.2.1 t866).bind fun t869 => (some t869))) else (none))) else (none)))) else (none))) else (none)) else (none)) else (none)) else (none))))) else (none))))) = some r := H
              have A28 := Aside0.mk A280
              clear A280
              replace H := Option.bind_eq_some_iff.mp H
              obtain ⟨t830, A290, H⟩ := H
              replace H : ((nat_Shl.f t830 a3).bind fun t833 => ((div_DivMod.f l0 t833).bind fun bt836 => (if 0 < (l1.length : Int) then ((div_Small.f kj14 l0 (Go.bits .or .u32 (rd l1 0) 1)).bind fun bt844 => ((alidadelaw03_of_1.f (Go.bits .or .u32 (rd l1 0) 1)).bind fun t850 => ((div_DivMod.f l0 t850).bind fun bt853 => (if t825 = 0 then (if bt836.2.2 = 0 then (if bt844.2.2 = 0 then (if bt853.2.2 = 0 then ((alidadelaw03_same.f kj14 t813 t823).bind fun t860 => (if t860 = true then ((nat_Shr.f l0 a3).bind fun t861 => ((alidadelaw03_same.f kj14 bt836.1 t861).bind fun t864 => (if t864 = true then ((alidadelaw03_same.f kj14 bt844.1 bt853.1).bind fun t865 => (if t865 = true then ((nat_Of.f kj14 (IntKind.u64.wrap (bt844.2.1))).bind fun t866 => ((alidadelaw03_same.f kj14 bt853.2.1 t866).bind fun t869 => (some t869))) else (none))) else (none)))) else (none))) else (none)) else (none)) else (none)) else (none))))) else (none)))) = some r := H
              have A29 := Aside0.mk A290
              clear A290
              replace H := Option.bind_eq_some_iff.mp H
              obtain ⟨t833, A300, H⟩ := H
              replace H : ((div_DivMod.f l0 t833).bind fun bt836 => (if 0 < (l1.length : Int) then ((div_Small.f kj14 l0 (Go.bits .or .u32 (rd l1 0) 1)).bind fun bt844 => ((alidadelaw03_of_1.f (Go.bits .or .u32 (rd l1 0) 1)).bind fun t850 => ((div_DivMod.f l0 t850).bind fun bt853 => (if t825 = 0 then (if bt836.2.2 = 0 then (if bt844.2.2 = 0 then (if bt853.2.2 = 0 then ((alidadelaw03_same.f kj14 t813 t823).bind fun t860 => (if t860 = true then ((nat_Shr.f l0 a3).bind fun t861 => ((alidadelaw03_same.f kj14 bt836.1 t861).bind fun t864 => (if t864 = true then ((alidadelaw03_same.f kj14 bt844.1 bt853.1).bind fun t865 => (if t865 = true then ((nat_Of.f kj14 (IntKind.u64.wrap (bt844.2.1))).bind fun t866 => ((alidadelaw03_same.f kj14 bt853.2.1 t866).bind fun t869 => (some t869))) else (none))) else (none)))) else (none))) else (none)) else (none)) else (none)) else (none))))) else (none))) = some r := H
              have A30 := Aside0.mk A300
              clear A300
              replace H := Option.bind_eq_some_iff.mp H
              obtain ⟨⟨t836, t837, t838⟩, A310, H⟩ := H
              replace H : (if 0 < (l1.length : Int) then ((div_Small.f kj14 l0 (Go.bits .or .u32 (rd l1 0) 1)).bind fun bt844 => ((alidadelaw03_of_1.f (Go.bits .or .u32 (rd l1 0) 1)).bind fun t850 => ((div_DivMod.f l0 t850).bind fun bt853 => (if t825 = 0 then (if t838 = 0 then (if bt844.2.2 = 0 then (if bt853.2.2 = 0 then ((alidadelaw03_same.f kj14 t813 t823).bind fun t860 => (if t860 = true then ((nat_Shr.f l0 a3).bind fun t861 => ((alidadelaw03_same.f kj14 t836 t861).bind fun t864 => (if t864 = true then ((alidadelaw03_same.f kj14 bt844.1 bt853.1).bind fun t865 => (if t865 = true then ((nat_Of.f kj14 (IntKind.u64.wrap (bt844.2.1))).bind fun t866 => ((alidadelaw03_same.f kj14 bt853.2.1 t866).bind fun t869 => (some t869))) else (none))) else (none)))) else (none))) else (none)) else (none)) else (none)) else (none))))) else (none)) = some r := H
              have A31 := Aside0.mk A310
              clear A310
              by_cases c32 : 0 < (l1.length : Int)
              · rw [if_pos c32] at H
                have c32b0 : decide (0 < (l1.length : Int)) = true := decide_eq_true c32
                have c32b1 : decide (0 < l1.length) = true := decide_eq_true (by omega)
                clear c32
                replace H := Option.bind_eq_some_iff.mp H
                obtain ⟨⟨t844, t845, t846⟩, A330, H⟩ := H
                replace H : ((alidadelaw03_of_1.f (Go.bits .or .u32 (rd l1 0) 1)).bind fun t850 => ((div_DivMod.f l0 t850).bind fun bt853 => (if t825 = 0 then (if t838 = 0 then (if t846 = 0 then (if bt853.2.2 = 0 then ((alidadelaw03_same.f kj14 t813 t823).bind fun t860 => (if t860 = true then ((nat_Shr.f l0 a3).bind fun t861 => ((alidadelaw03_same.f kj14 t836 t861).bind fun t864 => (if t864 = true then ((alidadelaw03_same.f kj14 t844 bt853.1).bind fun t865 => (if t865 = true then ((nat_Of.f kj14 (IntKind.u64.wrap (t845))).bind fun t866 => ((alidadelaw03_same.f kj14 bt853.2.1 t866).bind fun t869 => (some t869))) else (none))) else (none)))) else (none))) else (none)) else (none)) else (none)) else (none)))) = some r := H
                have A33 := Aside0.mk A330
                clear A330
                replace H := Option.bind_eq_some_iff.mp H
                obtain ⟨t850, A340, H⟩ := H
                replace H : ((div_DivMod.f l0 t850).bind fun bt853 => (if t825 = 0 then (if t838 = 0 then (if t846 = 0 then (if bt853.2.2 = 0 then ((alidadelaw03_same.f kj14 t813 t823).bind fun t860 => (if t860 = true then ((nat_Shr.f l0 a3).bind fun t861 => ((alidadelaw03_same.f kj14 t836 t861).bind fun t864 => (if t864 = true then ((alidadelaw03_same.f kj14 t844 bt853.1).bind fun t865 => (if t865 = true then ((nat_Of.f kj14 (IntKind.u64.wrap (t845))).bind fun t866 => ((alidadelaw03_same.f kj14 bt853.2.1 t866).bind fun t869 => (some t869))) else (none))) else (none)))) else (none))) else (none)) else (none)) else (none)) else (none))) = some r := H
                have A34 := Aside0.mk A340
                clear A340
                replace H := Option.bind_eq_some_iff.mp H
                obtain ⟨⟨t853, t854, t855⟩, A350, H⟩ := H
                replace H : (if t825 = 0 then (if t838 = 0 then (if t846 = 0 then (if t855 = 0 then ((alidadelaw03_same.f kj14 t813 t823).bind fun t860 => (if t860 = true then ((nat_Shr.f l0 a3).bind fun t861 => ((alidadelaw03_same.f kj14 t836 t861).bind fun t864 => (if t864 = true then ((alidadelaw03_same.f kj14 t844 t853).bind fun t865 => (if t865 = true then ((nat_Of.f kj14 (IntKind.u64.wrap (t845))).bind fun t866 => ((alidadelaw03_same.f kj14 t854 t866).bind fun t869 => (some t869))) else (none))) else (none)))) else (none))) else (none)) else (none)) else (none)) else (none)) = some r := H
                have A35 := Aside0.mk A350
                clear A350
                by_cases c36 : t825 = 0
                · rw [if_pos c36] at H
                  have c36b0 : (t825 == 0) = true := beq_iff_eq.mpr c36
                  have c36b1 : (t825 != 0) = false := bne_eq_false_iff_eq.mpr c36
                  clear c36
                  by_cases c37 : t838 = 0
                  · rw [if_pos c37] at H
                    have c37b0 : (t838 == 0) = true := beq_iff_eq.mpr c37
                    have c37b1 : (t838 != 0) = false := bne_eq_false_iff_eq.mpr c37
                    clear c37
                    by_cases c38 : t846 = 0
                    · rw [if_pos c38] at H
                      have c38b0 : (t846 == 0) = true := beq_iff_eq.mpr c38
                      have c38b1 : (t846 != 0) = false := bne_eq_false_iff_eq.mpr c38
                      clear c38
                      by_cases c39 : t855 = 0
                      · rw [if_pos c39] at H
                        have c39b0 : (t855 == 0) = true := beq_iff_eq.mpr c39
                        have c39b1 : (t855 != 0) = false := bne_eq_false_iff_eq.mpr c39
                        clear c39
                        replace H := Option.bind_eq_some_iff.mp H
                        obtain ⟨t860, A400, H⟩ := H
                        replace H : (if t860 = true then ((nat_Shr.f l0 a3).bind fun t861 => ((alidadelaw03_same.f kj14 t836 t861).bind fun t864 => (if t864 = true then ((alidadelaw03_same.f kj14 t844 t853).bind fun t865 => (if t865 = true then ((nat_Of.f kj14 (IntKind.u64.wrap (t845))).bind fun t866 => ((alidadelaw03_same.f kj14 t854 t866).bind fun t869 => (some t869))) else (none))) else (none)))) else (none)) = some r := H
                        have A40 := Aside0.mk A400
                        clear A400
                        by_cases c41 : t860 = true
                        · subst c41
                          have H1 : ((nat_Shr.f l0 a3).bind fun t861 => ((alidadelaw03_same.f kj14 t836 t861).bind fun t864 => (if t864 = true then ((alidadelaw03_same.f kj14 t844 t853).bind fun t865 => (if t865 = true then ((nat_Of.f kj14 (IntKind.u64.wrap (t845))).bind fun t866 => ((alidadelaw03_same.f kj14 t854 t866).bind fun t869 => (some t869))) else (none))) else (none)))) = some r := by rw [if_pos rfl] at H; exact H
                          clear H
                          have H := H1
                          clear H1
                          replace H := Option.bind_eq_some_iff.mp H
                          obtain ⟨t861, A420, H⟩ := H
                          replace H : ((alidadelaw03_same.f kj14 t836 t861).bind fun t864 => (if t864 = true then ((alidadelaw03_same.f kj14 t844 t853).bind fun t865 => (if t865 = true then ((nat_Of.f kj14 (IntKind.u64.wrap (t845))).bind fun t866 => ((alidadelaw03_same.f kj14 t854 t866).bind fun t869 => (some t869))) else (none))) else (none))) = some r := H
                          have A42 := Aside0.mk A420
                          clear A420
                          replace H := Option.bind_eq_some_iff.mp H
                          obtain ⟨t864, A430, H⟩ := H
                          replace H : (if t864 = true then ((alidadelaw03_same.f kj14 t844 t853).bind fun t865 => (if t865 = true then ((nat_Of.f kj14 (IntKind.u64.wrap (t845))).bind fun t866 => ((alidadelaw03_same.f kj14 t854 t866).bind fun t869 => (some t869))) else (none))) else (none)) = some r := H
                          have A43 := Aside0.mk A430
                          clear A430
                          by_cases c44 : t864 = true
                          · subst c44
                            have H1 : ((alidadelaw03_same.f kj14 t844 t853).bind fun t865 => (if t865 = true then ((nat_Of.f kj14 (IntKind.u64.wrap (t845))).bind fun t866 => ((alidadelaw03_same.f kj14 t854 t866).bind fun t869 => (some t869))) else (none))) = some r := by rw [if_pos rfl] at H; exact H
                            clear H
                            have H := H1
                            clear H1
                            replace H := Option.bind_eq_some_iff.mp H
                            obtain ⟨t865, A450, H⟩ := H
                            replace H : (if t865 = true then ((nat_Of.f kj14 (IntKind.u64.wrap (t845))).bind fun t866 => ((alidadelaw03_same.f kj14 t854 t866).bind fun t869 => (some t869))) else (none)) = some r := H
                            have A45 := Aside0.mk A450
                            clear A450
                            by_cases c46 : t865 = true
                            · subst c46
                              have H1 : ((nat_Of.f kj14 (IntKind.u64.wrap (t845))).bind fun t866 => ((alidadelaw03_same.f kj14 t854 t866).bind fun t869 => (some t869))) = some r := by rw [if_pos rfl] at H; exact H
                              clear H
                              have H := H1
                              clear H1
                              replace H := Option.bind_eq_some_iff.mp H
                              obtain ⟨t866, A470, H⟩ := H
                              replace H : ((alidadelaw03_same.f kj14 t854 t866).bind fun t869 => (some t869)) = some r := H
                              have A47 := Aside0.mk A470
                              clear A470
                              replace H := Option.bind_eq_some_iff.mp H
                              obtain ⟨t869, A480, H⟩ := H
                              replace H : (some t869) = some r := H
                              have A48 := Aside0.mk A480
                              clear A480
                              obtain rfl := Option.some.inj H
                              go_wp2_with (first | ((with_reducible refine gate_callee (f := 12) rfl ?_); refine goesL_ (some 79) rfl rfl Try.func12 (by kernel_rfl) rfl #[.slice A0 l0.length c0, .slice A1 l1.length c1] rfl (by (try simp only [List.map_toArray, List.map_cons, List.map_nil]); first | done | rfl | (simp only [List.length_drop, List.length_take]; rfl)) ?_; (with_reducible refine (div_DivMod.calls _ _ l0 _ _ l1 t806 t807 t808 _ ?side1 ?side2 ?side3 ?side4 A25.out).mono ?_); (case side1 => repeat (first | exact (Kd.C_below HR0.out HB.out) | (with_reducible refine Kd.C_alloc ?_ _) | (with_reducible refine Kd.C_drewN ?_ _) | (with_reducible refine Kd.C_drew ?_))); (case side2 => exact HC0.out); (case side3 => repeat (first | exact (Kd.C_below HR1.out HB.out) | (with_reducible refine Kd.C_alloc ?_ _) | (with_reducible refine Kd.C_drewN ?_ _) | (with_reducible refine Kd.C_drew ?_))); (case side4 => exact HC1.out); rintro e w49 ⟨v809, v811, rfl, ho0, ho1, hb⟩; refine ⟨_, rfl, ?_⟩; have n0_ := Aside0.mk (Kd.R_lower ho0 (below_size (by repeat (first | (with_reducible first | exact HB.out | apply below_alloc | apply pw_below_drewN | apply below_drew1) | exact HB.out)))); have n1_ := Aside0.mk (Kd.R_lower ho1 (below_size (by repeat (first | (with_reducible first | exact HB.out | apply below_alloc | apply pw_below_drewN | apply below_drew1) | exact HB.out)))); have n2_ := Aside0.mk (below_step (by repeat (first | (with_reducible first | exact HB.out | apply below_alloc | apply pw_below_drewN | apply below_drew1) | exact HB.out)) hb); clear HB; have HO810 := n0_; have HO812 := n1_; have HB := n2_; clear n0_ n1_ n2_; (try clear hb); (try clear hb2); (try clear hk); (try clear hi); (try clear ho0); (try clear ho1); clear HO812; have n_ := Aside0.mk (Kd.R_mono (ok' := (fun _ => True)) HO810.out (fun k_ hk => trivial)); clear HO810; have HO810 := n_; clear n_; obtain ⟨Ao50, co50, eo50⟩ := Kd.R_slice HO810.out; subst eo50) | ((with_reducible refine gate_callee (f := 12) rfl ?_); refine goesL_ (some 86) rfl rfl Try.func12 (by kernel_rfl) rfl #[.slice Ao50 t806.length co50, .slice A2 l2.length c2] rfl (by (try simp only [List.map_toArray, List.map_cons, List.map_nil]); first | done | rfl | (simp only [List.length_drop, List.length_take]; rfl)) ?_; (with_reducible refine (div_DivMod.calls _ _ t806 _ _ l2 t813 t814 t815 _ ?side1 ?side2 ?side3 ?side4 A26.out).mono ?_); (case side1 => repeat (first | exact (Kd.R_reads' HO810.out).2.2 | (with_reducible refine Kd.C_alloc ?_ _) | (with_reducible refine Kd.C_drewN ?_ _) | (with_reducible refine Kd.C_drew ?_))); (case side2 => exact (Kd.R_reads' HO810.out).2.1); (case side3 => repeat (first | exact (Kd.C_below HR2.out HB.out) | (with_reducible refine Kd.C_alloc ?_ _) | (with_reducible refine Kd.C_drewN ?_ _) | (with_reducible refine Kd.C_drew ?_))); (case side4 => exact HC2.out); rintro e w51 ⟨v816, v818, rfl, ho0, ho1, hb⟩; refine ⟨_, rfl, ?_⟩; have n0_ := Aside0.mk (Kd.R_mono (Kd.R_told (Kd.R_told (Kd.R_old (by (with_reducible repeat (first | apply Kd.R_alloc | apply Kd.R_drewN | apply Kd.R_drew)); exact HO810.out) hb) (Kd.R_base ho0)) (Kd.R_base ho1)) (fun _ h_ => h_.1)); have n1_ := Aside0.mk (Kd.R_lower (Kd.R_new' ho0 (Kd.R_lt (by (with_reducible repeat (first | apply Kd.R_alloc | apply Kd.R_drewN | apply Kd.R_drew)); exact HO810.out))) (below_size (by repeat (first | (with_reducible first | exact HB.out | apply below_alloc | apply pw_below_drewN | apply below_drew1) | exact HB.out)))); have n2_ := Aside0.mk (Kd.R_lower (Kd.R_new' ho1 (Kd.R_lt (by (with_reducible repeat (first | apply Kd.R_alloc | apply Kd.R_drewN | apply Kd.R_drew)); exact HO810.out))) (below_size (by repeat (first | (with_reducible first | exact HB.out | apply below_alloc | apply pw_below_drewN | apply below_drew1) | exact HB.out)))); have n3_ := Aside0.mk (below_step (by repeat (first | (with_reducible first | exact HB.out | apply below_alloc | apply pw_below_drewN | apply below_drew1) | exact HB.out)) hb); clear HO810; clear HB; have HO810 := n0_; have HO817 := n1_; have HO819 := n2_; have HB := n3_; clear n0_ n1_ n2_ n3_; (try clear hb); (try clear hb2); (try clear hk); (try clear hi); (try clear ho0); (try clear ho1); clear HO810; clear HO819; have n_ := Aside0.mk (Kd.R_mono (ok' := (fun _ => True)) HO817.out (fun k_ hk => trivial)); clear HO817; have HO817 := n_; clear n_) | ((with_reducible refine gate_callee (f := 24) rfl ?_); refine goesL_ (some 94) rfl rfl Try.func24 (by kernel_rfl) rfl #[.slice A1 l1.length c1, .slice A2 l2.length c2] rfl (by (try simp only [List.map_toArray, List.map_cons, List.map_nil]); first | done | rfl | (simp only [List.length_drop, List.length_take]; rfl)) ?_; (with_reducible refine (mul_Mul.calls kj14 _ _ l1 _ _ l2 t820 _ ?side1 ?side2 ?side3 ?side4 A27.out).mono ?_); (case side1 => repeat (first | exact (Kd.C_below HR1.out HB.out) | (with_reducible refine Kd.C_alloc ?_ _) | (with_reducible refine Kd.C_drewN ?_ _) | (with_reducible refine Kd.C_drew ?_))); (case side2 => exact HC1.out); (case side3 => repeat (first | exact (Kd.C_below HR2.out HB.out) | (with_reducible refine Kd.C_alloc ?_ _) | (with_reducible refine Kd.C_drewN ?_ _) | (with_reducible refine Kd.C_drew ?_))); (case side4 => exact HC2.out); rintro e w52 ⟨v821, rfl, ho0, hb⟩; refine ⟨_, rfl, ?_⟩; have n0_ := Aside0.mk (Kd.R_elder' (by (with_reducible repeat (first | apply Kd.R_alloc | apply Kd.R_drewN | apply Kd.R_drew)); exact HO817.out) (Kd.R_base ho0) hb); have n1_ := Aside0.mk (Kd.R_lower (Kd.R_new' ho0 (Kd.R_lt (by (with_reducible repeat (first | apply Kd.R_alloc | apply Kd.R_drewN | apply Kd.R_drew)); exact HO817.out))) (below_size (by repeat (first | (with_reducible first | exact HB.out | apply below_alloc | apply pw_below_drewN | apply below_drew1) | exact HB.out)))); have n2_ := Aside0.mk (below_step (by repeat (first | (with_reducible first | exact HB.out | apply below_alloc | apply pw_below_drewN | apply below_drew1) | exact HB.out)) hb); clear HO817; clear HB; have HO817 := n0_; have HO822 := n1_; have HB := n2_; clear n0_ n1_ n2_; (try clear hb); (try clear hb2); (try clear hk); (try clear hi); (try clear ho0); obtain ⟨Ao53, co53, eo53⟩ := Kd.R_slice HO822.out; subst eo53) | ((with_reducible refine gate_callee (f := 12) rfl ?_); refine goesL_ (some 95) rfl rfl Try.func12 (by kernel_rfl) rfl #[.slice A0 l0.length c0, .slice Ao53 t820.length co53] rfl (by (try simp only [List.map_toArray, List.map_cons, List.map_nil]); first | done | rfl | (simp only [List.length_drop, List.length_take]; rfl)) ?_; (with_reducible refine (div_DivMod.calls _ _ l0 _ _ t820 t823 t824 t825 _ ?side1 ?side2 ?side3 ?side4 A28.out).mono ?_); (case side1 => repeat (first | exact (Kd.C_below HR0.out HB.out) | (with_reducible refine Kd.C_alloc ?_ _) | (with_reducible refine Kd.C_drewN ?_ _) | (with_reducible refine Kd.C_drew ?_))); (case side2 => exact HC0.out); (case side3 => repeat (first | exact (Kd.R_reads' HO822.out).2.2 | (with_reducible refine Kd.C_alloc ?_ _) | (with_reducible refine Kd.C_drewN ?_ _) | (with_reducible refine Kd.C_drew ?_))); (case side4 => exact (Kd.R_reads' HO822.out).2.1); rintro e w54 ⟨v826, v828, rfl, ho0, ho1, hb⟩; refine ⟨_, rfl, ?_⟩; have n0_ := Aside0.mk (Kd.R_mono (Kd.R_told (Kd.R_told (Kd.R_old (by (with_reducible repeat (first | apply Kd.R_alloc | apply Kd.R_drewN | apply Kd.R_drew)); exact HO817.out) hb) (Kd.R_base ho0)) (Kd.R_base ho1)) (fun _ h_ => h_.1)); have n1_ := Aside0.mk (Kd.R_mono (Kd.R_told (Kd.R_told (Kd.R_old (by (with_reducible repeat (first | apply Kd.R_alloc | apply Kd.R_drewN | apply Kd.R_drew)); exact HO822.out) hb) (Kd.R_base ho0)) (Kd.R_base ho1)) (fun _ h_ => h_.1)); have n2_ := Aside0.mk (Kd.R_lower (Kd.R_new' (Kd.R_new' ho0 (Kd.R_lt (by (with_reducible repeat (first | apply Kd.R_alloc | apply Kd.R_drewN | apply Kd.R_drew)); exact HO817.out))) (Kd.R_lt (by (with_reducible repeat (first | apply Kd.R_alloc | apply Kd.R_drewN | apply Kd.R_drew)); exact HO822.out))) (below_size (by repeat (first | (with_reducible first | exact HB.out | apply below_alloc | apply pw_below_drewN | apply below_drew1) | exact HB.out)))); have n3_ := Aside0.mk (Kd.R_lower (Kd.R_new' (Kd.R_new' ho1 (Kd.R_lt (by (with_reducible repeat (first | apply Kd.R_alloc | apply Kd.R_drewN | apply Kd.R_drew)); exact HO817.out))) (Kd.R_lt (by (with_reducible repeat (first | apply Kd.R_alloc | apply Kd.R_drewN | apply Kd.R_drew)); exact HO822.out))) (below_size (by repeat (first | (with_reducible first | exact HB.out | apply below_alloc | apply pw_below_drewN | apply below_drew1) | exact HB.out)))); have n4_ := Aside0.mk (below_step (by repeat (first | (with_reducible first | exact HB.out | apply below_alloc | apply pw_below_drewN | apply below_drew1) | exact HB.out)) hb); clear HO817; clear HO822; clear HB; have HO817 := n0_; have HO822 := n1_; have HO827 := n2_; have HO829 := n3_; have HB := n4_; clear n0_ n1_ n2_ n3_ n4_; (try clear hb); (try clear hb2); (try clear hk); (try clear hi); (try clear ho0); (try clear ho1); clear HO822; clear HO829; have n_ := Aside0.mk (Kd.R_mono (ok' := (fun k_ => some k_ ≠ (v826 : Value).ownBlock)) HO817.out (fun k_ hk => hk.1.2)); clear HO817; have HO817 := n_; clear n_; have n_ := Aside0.mk (Kd.R_mono (ok' := (fun k_ => some k_ ≠ (v816 : Value).ownBlock)) HO827.out (fun k_ hk => hk.1.2)); clear HO827; have HO827 := n_; clear n_) | (go_at_call 21; (with_reducible refine (alidadelaw03_of_1.calls 1 t830 _ A29.out).mono ?_); rintro e w55 ⟨v831, rfl, ho0, hb⟩; have n0_ := Aside0.mk (Kd.R_elder' (by (with_reducible repeat (first | apply Kd.R_alloc | apply Kd.R_drewN | apply Kd.R_drew)); exact HO817.out) (Kd.R_base ho0) hb); have n1_ := Aside0.mk (Kd.R_elder' (by (with_reducible repeat (first | apply Kd.R_alloc | apply Kd.R_drewN | apply Kd.R_drew)); exact HO827.out) (Kd.R_base ho0) hb); have n2_ := Aside0.mk (Kd.R_lower (Kd.R_new' (Kd.R_new' ho0 (Kd.R_lt (by (with_reducible repeat (first | apply Kd.R_alloc | apply Kd.R_drewN | apply Kd.R_drew)); exact HO817.out))) (Kd.R_lt (by (with_reducible repeat (first | apply Kd.R_alloc | apply Kd.R_drewN | apply Kd.R_drew)); exact HO827.out))) (below_size (by repeat (first | (with_reducible first | exact HB.out | apply below_alloc | apply pw_below_drewN | apply below_drew1) | exact HB.out)))); have n3_ := Aside0.mk (below_step (by repeat (first | (with_reducible first | exact HB.out | apply below_alloc | apply pw_below_drewN | apply below_drew1) | exact HB.out)) hb); clear HO817; clear HO827; clear HB; have HO817 := n0_; have HO827 := n1_; have HO832 := n2_; have HB := n3_; clear n0_ n1_ n2_ n3_; (try clear hb); (try clear hb2); (try clear hk); (try clear hi); (try clear ho0); obtain ⟨Ao56, co56, eo56⟩ := Kd.R_slice HO832.out; subst eo56) | ((with_reducible refine gate_callee (f := 27) rfl ?_); refine goesL_ (some 104) rfl rfl Try.func27 (by kernel_rfl) rfl #[.slice Ao56 t830.length co56, .int .i64 a3] rfl (by (try simp only [List.map_toArray, List.map_cons, List.map_nil]); first | done | rfl | (simp only [List.length_drop, List.length_take]; rfl)) ?_; (with_reducible refine (nat_Shl.calls _ _ t830 a3 t833 _ ?side1 ?side2 A30.out).mono ?_); (case side1 => repeat (first | exact (Kd.R_reads' HO832.out).2.2 | (with_reducible refine Kd.C_alloc ?_ _) | (with_reducible refine Kd.C_drewN ?_ _) | (with_reducible refine Kd.C_drew ?_))); (case side2 => exact (Kd.R_reads' HO832.out).2.1); rintro e w57 ⟨v834, rfl, ho0, hb⟩; refine ⟨_, rfl, ?_⟩; have n0_ := Aside0.mk (Kd.R_elder' (by (with_reducible repeat (first | apply Kd.R_alloc | apply Kd.R_drewN | apply Kd.R_drew)); exact HO817.out) (Kd.R_base ho0) hb); have n1_ := Aside0.mk (Kd.R_elder' (by (with_reducible repeat (first | apply Kd.R_alloc | apply Kd.R_drewN | apply Kd.R_drew)); exact HO827.out) (Kd.R_base ho0) hb); have n2_ := Aside0.mk (Kd.R_elder' (by (with_reducible repeat (first | apply Kd.R_alloc | apply Kd.R_drewN | apply Kd.R_drew)); exact HO832.out) (Kd.R_base ho0) hb); have n3_ := Aside0.mk (Kd.R_lower (Kd.R_new' (Kd.R_new' (Kd.R_new' ho0 (Kd.R_lt (by (with_reducible repeat (first | apply Kd.R_alloc | apply Kd.R_drewN | apply Kd.R_drew)); exact HO817.out))) (Kd.R_lt (by (with_reducible repeat (first | apply Kd.R_alloc | apply Kd.R_drewN | apply Kd.R_drew)); exact HO827.out))) (Kd.R_lt (by (with_reducible repeat (first | apply Kd.R_alloc | apply Kd.R_drewN | apply Kd.R_drew)); exact HO832.out))) (below_size (by repeat (first | (with_reducible first | exact HB.out | apply below_alloc | apply pw_below_drewN | apply below_drew1) | exact HB.out)))); have n4_ := Aside0.mk (below_step (by repeat (first | (with_reducible first | exact HB.out | apply below_alloc | apply pw_below_drewN | apply below_drew1) | exact HB.out)) hb); clear HO817; clear HO827; clear HO832; clear HB; have HO817 := n0_; have HO827 := n1_; have HO832 := n2_; have HO835 := n3_; have HB := n4_; clear n0_ n1_ n2_ n3_ n4_; (try clear hb); (try clear hb2); (try clear hk); (try clear hi); (try clear ho0); clear HO832; have n_ := Aside0.mk (Kd.R_mono (ok' := (fun k_ => some k_ ≠ (v826 : Value).ownBlock ∧ some k_ ≠ (v834 : Value).ownBlock)) HO817.out (fun k_ hk => ⟨hk.1.1, hk.2⟩)); clear HO817; have HO817 := n_; clear n_; have n_ := Aside0.mk (Kd.R_mono (ok' := (fun k_ => some k_ ≠ (v816 : Value).ownBlock ∧ some k_ ≠ (v834 : Value).ownBlock)) HO827.out (fun k_ hk => ⟨hk.1.1, hk.2⟩)); clear HO827; have HO827 := n_; clear n_; have n_ := Aside0.mk (Kd.R_mono (ok' := (fun k_ => some k_ ≠ (v816 : Value).ownBlock ∧ some k_ ≠ (v826 : Value).ownBlock)) HO835.out (fun k_ hk => ⟨hk.1.1.2, hk.1.2⟩)); clear HO835; have HO835 := n_; clear n_; obtain ⟨Ao58, co58, eo58⟩ := Kd.R_slice HO835.out; subst eo58) | ((with_reducible refine gate_callee (f := 12) rfl ?_); refine goesL_ (some 105) rfl rfl Try.func12 (by kernel_rfl) rfl #[.slice A0 l0.length c0, .slice Ao58 t833.length co58] rfl (by (try simp only [List.map_toArray, List.map_cons, List.map_nil]); first | done | rfl | (simp only [List.length_drop, List.length_take]; rfl)) ?_; (with_reducible refine (div_DivMod.calls _ _ l0 _ _ t833 t836 t837 t838 _ ?side1 ?side2 ?side3 ?side4 A31.out).mono ?_); (case side1 => repeat (first | exact (Kd.C_below HR0.out HB.out) | (with_reducible refine Kd.C_alloc ?_ _) | (with_reducible refine Kd.C_drewN ?_ _) | (with_reducible refine Kd.C_drew ?_))); (case side2 => exact HC0.out); (case side3 => repeat (first | exact (Kd.R_reads' HO835.out).2.2 | (with_reducible refine Kd.C_alloc ?_ _) | (with_reducible refine Kd.C_drewN ?_ _) | (with_reducible refine Kd.C_drew ?_))); (case side4 => exact (Kd.R_reads' HO835.out).2.1); rintro e w59 ⟨v839, v841, rfl, ho0, ho1, hb⟩; refine ⟨_, rfl, ?_⟩; have n0_ := Aside0.mk (Kd.R_mono (Kd.R_told (Kd.R_told (Kd.R_old (by (with_reducible repeat (first | apply Kd.R_alloc | apply Kd.R_drewN | apply Kd.R_drew)); exact HO817.out) hb) (Kd.R_base ho0)) (Kd.R_base ho1)) (fun _ h_ => h_.1)); have n1_ := Aside0.mk (Kd.R_mono (Kd.R_told (Kd.R_told (Kd.R_old (by (with_reducible repeat (first | apply Kd.R_alloc | apply Kd.R_drewN | apply Kd.R_drew)); exact HO827.out) hb) (Kd.R_base ho0)) (Kd.R_base ho1)) (fun _ h_ => h_.1)); have n2_ := Aside0.mk (Kd.R_mono (Kd.R_told (Kd.R_told (Kd.R_old (by (with_reducible repeat (first | apply Kd.R_alloc | apply Kd.R_drewN | apply Kd.R_drew)); exact HO835.out) hb) (Kd.R_base ho0)) (Kd.R_base ho1)) (fun _ h_ => h_.1)); have n3_ := Aside0.mk (Kd.R_lower (Kd.R_new' (Kd.R_new' (Kd.R_new' ho0 (Kd.R_lt (by (with_reducible repeat (first | apply Kd.R_alloc | apply Kd.R_drewN | apply Kd.R_drew)); exact HO817.out))) (Kd.R_lt (by (with_reducible repeat (first | apply Kd.R_alloc | apply Kd.R_drewN | apply Kd.R_drew)); exact HO827.out))) (Kd.R_lt (by (with_reducible repeat (first | apply Kd.R_alloc | apply Kd.R_drewN | apply Kd.R_drew)); exact HO835.out))) (below_size (by repeat (first | (with_reducible first | exact HB.out | apply below_alloc | apply pw_below_drewN | apply below_drew1) | exact HB.out)))); have n4_ := Aside0.mk (Kd.R_lower (Kd.R_new' (Kd.R_new' (Kd.R_new' ho1 (Kd.R_lt (by (with_reducible repeat (first | apply Kd.R_alloc | apply Kd.R_drewN | apply Kd.R_drew)); exact HO817.out))) (Kd.R_lt (by (with_reducible repeat (first | apply Kd.R_alloc | apply Kd.R_drewN | apply Kd.R_drew)); exact HO827.out))) (Kd.R_lt (by (with_reducible repeat (first | apply Kd.R_alloc | apply Kd.R_drewN | apply Kd.R_drew)); exact HO835.out))) (below_size (by repeat (first | (with_reducible first | exact HB.out | apply below_alloc | apply pw_below_drewN | apply below_drew1) | exact HB.out)))); have n5_ := Aside0.mk (below_step (by repeat (first | (with_reducible first | exact HB.out | apply below_alloc | apply pw_below_drewN | apply below_drew1) | exact HB.out)) hb); clear HO817; clear HO827; clear HO835; clear HB; have HO817 := n0_; have HO827 := n1_; have HO835 := n2_; have HO840 := n3_; have HO842 := n4_; have HB := n5_; clear n0_ n1_ n2_ n3_ n4_ n5_; (try clear hb); (try clear hb2); (try clear hk); (try clear hi); (try clear ho0); (try clear ho1); clear HO835; clear HO842; have n_ := Aside0.mk (Kd.R_mono (ok' := (fun k_ => some k_ ≠ (v826 : Value).ownBlock ∧ some k_ ≠ (v839 : Value).ownBlock)) HO817.out (fun k_ hk => ⟨hk.1.1.1, hk.1.2⟩)); clear HO817; have HO817 := n_; clear n_; have n_ := Aside0.mk (Kd.R_mono (ok' := (fun k_ => some k_ ≠ (v816 : Value).ownBlock ∧ some k_ ≠ (v839 : Value).ownBlock)) HO827.out (fun k_ hk => ⟨hk.1.1.1, hk.1.2⟩)); clear HO827; have HO827 := n_; clear n_; have n_ := Aside0.mk (Kd.R_mono (ok' := (fun k_ => some k_ ≠ (v816 : Value).ownBlock ∧ some k_ ≠ (v826 : Value).ownBlock)) HO840.out (fun k_ hk => ⟨hk.1.1.2, hk.1.2⟩)); clear HO840; have HO840 := n_; clear n_; have p843 : 0 ≤ (0 : Int) := (by omega); have q843 : 0 < (l1.length : Int) := of_decide_eq_true (by first | (with_reducible assumption) | assumption); obtain ⟨ad843, e843, hx843_0⟩ := Kd.at_int HR1.out 0 p843 q843; cases e843; have qi843 : (0 < l1.length) = True := eq_true (by omega); (try rw [show ((0 : Int)).toNat = 0 from rfl] at hx843_0); (try rw [Addr.add_zero'] at hx843_0); replace hx843_0 := (HB.out.cell (World.block_lt_of_cell? w _ hx843_0)).trans hx843_0; replace p843 := eq_true p843; replace q843 := eq_true q843) | ((with_reducible refine gate_callee (f := 14) rfl ?_); refine goesL_ (some 115) rfl rfl Try.func14 (by kernel_rfl) rfl #[.slice A0 l0.length c0, .int .u32 (Go.bits .or .u32 (rd l1 0) 1)] rfl (by (try simp only [List.map_toArray, List.map_cons, List.map_nil]); first | done | rfl | (simp only [List.length_drop, List.length_take]; rfl)) ?_; (with_reducible refine (div_Small.calls kj14 _ _ l0 (Go.bits .or .u32 (rd l1 0) 1) t844 t845 t846 _ ?side1 ?side2 A33.out).mono ?_); (case side1 => repeat (first | exact (Kd.C_below HR0.out HB.out) | (with_reducible refine Kd.C_alloc ?_ _) | (with_reducible refine Kd.C_drewN ?_ _) | (with_reducible refine Kd.C_drew ?_))); (case side2 => exact HC0.out); rintro e w60 ⟨v847, rfl, ho0, hb⟩; refine ⟨_, rfl, ?_⟩; have n0_ := Aside0.mk (Kd.R_elder' (by (with_reducible repeat (first | apply Kd.R_alloc | apply Kd.R_drewN | apply Kd.R_drew)); exact HO817.out) (Kd.R_base ho0) hb); have n1_ := Aside0.mk (Kd.R_elder' (by (with_reducible repeat (first | apply Kd.R_alloc | apply Kd.R_drewN | apply Kd.R_drew)); exact HO827.out) (Kd.R_base ho0) hb); have n2_ := Aside0.mk (Kd.R_elder' (by (with_reducible repeat (first | apply Kd.R_alloc | apply Kd.R_drewN | apply Kd.R_drew)); exact HO840.out) (Kd.R_base ho0) hb); have n3_ := Aside0.mk (Kd.R_lower (Kd.R_new' (Kd.R_new' (Kd.R_new' ho0 (Kd.R_lt (by (with_reducible repeat (first | apply Kd.R_alloc | apply Kd.R_drewN | apply Kd.R_drew)); exact HO817.out))) (Kd.R_lt (by (with_reducible repeat (first | apply Kd.R_alloc | apply Kd.R_drewN | apply Kd.R_drew)); exact HO827.out))) (Kd.R_lt (by (with_reducible repeat (first | apply Kd.R_alloc | apply Kd.R_drewN | apply Kd.R_drew)); exact HO840.out))) (below_size (by repeat (first | (with_reducible first | exact HB.out | apply below_alloc | apply pw_below_drewN | apply below_drew1) | exact HB.out)))); have n4_ := Aside0.mk (below_step (by repeat (first | (with_reducible first | exact HB.out | apply below_alloc | apply pw_below_drewN | apply below_drew1) | exact HB.out)) hb); clear HO817; clear HO827; clear HO840; clear HB; have HO817 := n0_; have HO827 := n1_; have HO840 := n2_; have HO848 := n3_; have HB := n4_; clear n0_ n1_ n2_ n3_ n4_; (try clear hb); (try clear hb2); (try clear hk); (try clear hi); (try clear ho0); have p849 : 0 ≤ (0 : Int) := (by omega); have q849 : 0 < (l1.length : Int) := of_decide_eq_true (by first | (with_reducible assumption) | assumption); obtain ⟨ad849, e849, hx849_0⟩ := Kd.at_int HR1.out 0 p849 q849; obtain rfl : ad843 = ad849 := (by injection e849); have qi849 : (0 < l1.length) = True := eq_true (by omega); (try rw [show ((0 : Int)).toNat = 0 from rfl] at hx849_0); (try rw [Addr.add_zero'] at hx849_0); replace hx849_0 := (HB.out.cell (World.block_lt_of_cell? w _ hx849_0)).trans hx849_0; replace p849 := eq_true p849; replace q849 := eq_true q849) | (go_at_call 21; (with_reducible refine (alidadelaw03_of_1.calls (Go.bits .or .u32 (rd l1 0) 1) t850 _ A34.out).mono ?_); rintro e w61 ⟨v851, rfl, ho0, hb⟩; have n0_ := Aside0.mk (Kd.R_elder' (by (with_reducible repeat (first | apply Kd.R_alloc | apply Kd.R_drewN | apply Kd.R_drew)); exact HO817.out) (Kd.R_base ho0) hb); have n1_ := Aside0.mk (Kd.R_elder' (by (with_reducible repeat (first | apply Kd.R_alloc | apply Kd.R_drewN | apply Kd.R_drew)); exact HO827.out) (Kd.R_base ho0) hb); have n2_ := Aside0.mk (Kd.R_elder' (by (with_reducible repeat (first | apply Kd.R_alloc | apply Kd.R_drewN | apply Kd.R_drew)); exact HO840.out) (Kd.R_base ho0) hb); have n3_ := Aside0.mk (Kd.R_elder' (by (with_reducible repeat (first | apply Kd.R_alloc | apply Kd.R_drewN | apply Kd.R_drew)); exact HO848.out) (Kd.R_base ho0) hb); have n4_ := Aside0.mk (Kd.R_lower (Kd.R_new' (Kd.R_new' (Kd.R_new' (Kd.R_new' ho0 (Kd.R_lt (by (with_reducible repeat (first | apply Kd.R_alloc | apply Kd.R_drewN | apply Kd.R_drew)); exact HO817.out))) (Kd.R_lt (by (with_reducible repeat (first | apply Kd.R_alloc | apply Kd.R_drewN | apply Kd.R_drew)); exact HO827.out))) (Kd.R_lt (by (with_reducible repeat (first | apply Kd.R_alloc | apply Kd.R_drewN | apply Kd.R_drew)); exact HO840.out))) (Kd.R_lt (by (with_reducible repeat (first | apply Kd.R_alloc | apply Kd.R_drewN | apply Kd.R_drew)); exact HO848.out))) (below_size (by repeat (first | (with_reducible first | exact HB.out | apply below_alloc | apply pw_below_drewN | apply below_drew1) | exact HB.out)))); have n5_ := Aside0.mk (below_step (by repeat (first | (with_reducible first | exact HB.out | apply below_alloc | apply pw_below_drewN | apply below_drew1) | exact HB.out)) hb); clear HO817; clear HO827; clear HO840; clear HO848; clear HB; have HO817 := n0_; have HO827 := n1_; have HO840 := n2_; have HO848 := n3_; have HO852 := n4_; have HB := n5_; clear n0_ n1_ n2_ n3_ n4_ n5_; (try clear hb); (try clear hb2); (try clear hk); (try clear hi); (try clear ho0); obtain ⟨Ao62, co62, eo62⟩ := Kd.R_slice HO852.out; subst eo62) | ((with_reducible refine gate_callee (f := 12) rfl ?_); refine goesL_ (some 127) rfl rfl Try.func12 (by kernel_rfl) rfl #[.slice A0 l0.length c0, .slice Ao62 t850.length co62] rfl (by (try simp only [List.map_toArray, List.map_cons, List.map_nil]); first | done | rfl | (simp only [List.length_drop, List.length_take]; rfl)) ?_; (with_reducible refine (div_DivMod.calls _ _ l0 _ _ t850 t853 t854 t855 _ ?side1 ?side2 ?side3 ?side4 A35.out).mono ?_); (case side1 => repeat (first | exact (Kd.C_below HR0.out HB.out) | (with_reducible refine Kd.C_alloc ?_ _) | (with_reducible refine Kd.C_drewN ?_ _) | (with_reducible refine Kd.C_drew ?_))); (case side2 => exact HC0.out); (case side3 => repeat (first | exact (Kd.R_reads' HO852.out).2.2 | (with_reducible refine Kd.C_alloc ?_ _) | (with_reducible refine Kd.C_drewN ?_ _) | (with_reducible refine Kd.C_drew ?_))); (case side4 => exact (Kd.R_reads' HO852.out).2.1); rintro e w63 ⟨v856, v858, rfl, ho0, ho1, hb⟩; refine ⟨_, rfl, ?_⟩; have n0_ := Aside0.mk (Kd.R_mono (Kd.R_told (Kd.R_told (Kd.R_old (by (with_reducible repeat (first | apply Kd.R_alloc | apply Kd.R_drewN | apply Kd.R_drew)); exact HO817.out) hb) (Kd.R_base ho0)) (Kd.R_base ho1)) (fun _ h_ => h_.1)); have n1_ := Aside0.mk (Kd.R_mono (Kd.R_told (Kd.R_told (Kd.R_old (by (with_reducible repeat (first | apply Kd.R_alloc | apply Kd.R_drewN | apply Kd.R_drew)); exact HO827.out) hb) (Kd.R_base ho0)) (Kd.R_base ho1)) (fun _ h_ => h_.1)); have n2_ := Aside0.mk (Kd.R_mono (Kd.R_told (Kd.R_told (Kd.R_old (by (with_reducible repeat (first | apply Kd.R_alloc | apply Kd.R_drewN | apply Kd.R_drew)); exact HO840.out) hb) (Kd.R_base ho0)) (Kd.R_base ho1)) (fun _ h_ => h_.1)); have n3_ := Aside0.mk (Kd.R_mono (Kd.R_told (Kd.R_told (Kd.R_old (by (with_reducible repeat (first | apply Kd.R_alloc | apply Kd.R_drewN | apply Kd.R_drew)); exact HO848.out) hb) (Kd.R_base ho0)) (Kd.R_base ho1)) (fun _ h_ => h_.1)); have n4_ := Aside0.mk (Kd.R_mono (Kd.R_told (Kd.R_told (Kd.R_old (by (with_reducible repeat (first | apply Kd.R_alloc | apply Kd.R_drewN | apply Kd.R_drew)); exact HO852.out) hb) (Kd.R_base ho0)) (Kd.R_base ho1)) (fun _ h_ => h_.1)); have n5_ := Aside0.mk (Kd.R_lower (Kd.R_new' (Kd.R_new' (Kd.R_new' (Kd.R_new' (Kd.R_new' ho0 (Kd.R_lt (by (with_reducible repeat (first | apply Kd.R_alloc | apply Kd.R_drewN | apply Kd.R_drew)); exact HO817.out))) (Kd.R_lt (by (with_reducible repeat (first | apply Kd.R_alloc | apply Kd.R_drewN | apply Kd.R_drew)); exact HO827.out))) (Kd.R_lt (by (with_reducible repeat (first | apply Kd.R_alloc | apply Kd.R_drewN | apply Kd.R_drew)); exact HO840.out))) (Kd.R_lt (by (with_reducible repeat (first | apply Kd.R_alloc | apply Kd.R_drewN | apply Kd.R_drew)); exact HO848.out))) (Kd.R_lt (by (with_reducible repeat (first | apply Kd.R_alloc | apply Kd.R_drewN | apply Kd.R_drew)); exact HO852.out))) (below_size (by repeat (first | (with_reducible first | exact HB.out | apply below_alloc | apply pw_below_drewN | apply below_drew1) | exact HB.out)))); have n6_ := Aside0.mk (Kd.R_lower (Kd.R_new' (Kd.R_new' (Kd.R_new' (Kd.R_new' (Kd.R_new' ho1 (Kd.R_lt (by (with_reducible repeat (first | apply Kd.R_alloc | apply Kd.R_drewN | apply Kd.R_drew)); exact HO817.out))) (Kd.R_lt (by (with_reducible repeat (first | apply Kd.R_alloc | apply Kd.R_drewN | apply Kd.R_drew)); exact HO827.out))) (Kd.R_lt (by (with_reducible repeat (first | apply Kd.R_alloc | apply Kd.R_drewN | apply Kd.R_drew)); exact HO840.out))) (Kd.R_lt (by (with_reducible repeat (first | apply Kd.R_alloc | apply Kd.R_drewN | apply Kd.R_drew)); exact HO848.out))) (Kd.R_lt (by (with_reducible repeat (first | apply Kd.R_alloc | apply Kd.R_drewN | apply Kd.R_drew)); exact HO852.out))) (below_size (by repeat (first | (with_reducible first | exact HB.out | apply below_alloc | apply pw_below_drewN | apply below_drew1) | exact HB.out)))); have n7_ := Aside0.mk (below_step (by repeat (first | (with_reducible first | exact HB.out | apply below_alloc | apply pw_below_drewN | apply below_drew1) | exact HB.out)) hb); clear HO817; clear HO827; clear HO840; clear HO848; clear HO852; clear HB; have HO817 := n0_; have HO827 := n1_; have HO840 := n2_; have HO848 := n3_; have HO852 := n4_; have HO857 := n5_; have HO859 := n6_; have HB := n7_; clear n0_ n1_ n2_ n3_ n4_ n5_ n6_ n7_; (try clear hb); (try clear hb2); (try clear hk); (try clear hi); (try clear ho0); (try clear ho1); clear HO852; have n_ := Aside0.mk (Kd.R_mono (ok' := (fun k_ => some k_ ≠ (v826 : Value).ownBlock ∧ some k_ ≠ (v839 : Value).ownBlock ∧ some k_ ≠ (v847 : Value).ownBlock ∧ some k_ ≠ (v856 : Value).ownBlock ∧ some k_ ≠ (v858 : Value).ownBlock)) HO817.out (fun k_ hk => ⟨hk.1.1.1.1.1, ⟨hk.1.1.1.1.2, ⟨hk.1.1.1.2, ⟨hk.1.2, hk.2⟩⟩⟩⟩)); clear HO817; have HO817 := n_; clear n_; have n_ := Aside0.mk (Kd.R_mono (ok' := (fun k_ => some k_ ≠ (v816 : Value).ownBlock ∧ some k_ ≠ (v839 : Value).ownBlock ∧ some k_ ≠ (v847 : Value).ownBlock ∧ some k_ ≠ (v856 : Value).ownBlock ∧ some k_ ≠ (v858 : Value).ownBlock)) HO827.out (fun k_ hk => ⟨hk.1.1.1.1.1, ⟨hk.1.1.1.1.2, ⟨hk.1.1.1.2, ⟨hk.1.2, hk.2⟩⟩⟩⟩)); clear HO827; have HO827 := n_; clear n_; have n_ := Aside0.mk (Kd.R_mono (ok' := (fun k_ => some k_ ≠ (v816 : Value).ownBlock ∧ some k_ ≠ (v826 : Value).ownBlock ∧ some k_ ≠ (v847 : Value).ownBlock ∧ some k_ ≠ (v856 : Value).ownBlock ∧ some k_ ≠ (v858 : Value).ownBlock)) HO840.out (fun k_ hk => ⟨hk.1.1.1.1.1, ⟨hk.1.1.1.1.2, ⟨hk.1.1.1.2, ⟨hk.1.2, hk.2⟩⟩⟩⟩)); clear HO840; have HO840 := n_; clear n_; have n_ := Aside0.mk (Kd.R_mono (ok' := (fun k_ => some k_ ≠ (v816 : Value).ownBlock ∧ some k_ ≠ (v826 : Value).ownBlock ∧ some k_ ≠ (v839 : Value).ownBlock ∧ some k_ ≠ (v856 : Value).ownBlock ∧ some k_ ≠ (v858 : Value).ownBlock)) HO848.out (fun k_ hk => ⟨hk.1.1.1.1.1.2, ⟨hk.1.1.1.1.2, ⟨hk.1.1.1.2, ⟨hk.1.2, hk.2⟩⟩⟩⟩)); clear HO848; have HO848 := n_; clear n_; have n_ := Aside0.mk (Kd.R_mono (ok' := (fun k_ => some k_ ≠ (v816 : Value).ownBlock ∧ some k_ ≠ (v826 : Value).ownBlock ∧ some k_ ≠ (v839 : Value).ownBlock ∧ some k_ ≠ (v847 : Value).ownBlock ∧ some k_ ≠ (v858 : Value).ownBlock)) HO857.out (fun k_ hk => ⟨hk.1.1.1.1.2, ⟨hk.1.1.1.2, ⟨hk.1.1.2, ⟨hk.1.2, hk.1.1.1.1.1⟩⟩⟩⟩)); clear HO857; have HO857 := n_; clear n_; have n_ := Aside0.mk (Kd.R_mono (ok' := (fun k_ => some k_ ≠ (v816 : Value).ownBlock ∧ some k_ ≠ (v826 : Value).ownBlock ∧ some k_ ≠ (v839 : Value).ownBlock ∧ some k_ ≠ (v847 : Value).ownBlock ∧ some k_ ≠ (v856 : Value).ownBlock)) HO859.out (fun k_ hk => ⟨hk.1.1.1.1.2, ⟨hk.1.1.1.2, ⟨hk.1.1.2, ⟨hk.1.2, hk.1.1.1.1.1⟩⟩⟩⟩)); clear HO859; have HO859 := n_; clear n_; obtain ⟨Ao64, co64, eo64⟩ := Kd.R_slice HO817.out; subst eo64; obtain ⟨Ao65, co65, eo65⟩ := Kd.R_slice HO827.out; subst eo65) | (go_at_call 22; (with_reducible refine (alidadelaw03_same.calls kj14 _ _ t813 _ _ t823 true _ ?side1 ?side2 ?side3 ?side4 A40.out).mono ?_); (case side1 => repeat (first | exact (Kd.R_reads' HO817.out).2.2 | (with_reducible refine Kd.C_alloc ?_ _) | (with_reducible refine Kd.C_drewN ?_ _) | (with_reducible refine Kd.C_drew ?_))); (case side2 => exact (Kd.R_reads' HO817.out).2.1); (case side3 => repeat (first | exact (Kd.R_reads' HO827.out).2.2 | (with_reducible refine Kd.C_alloc ?_ _) | (with_reducible refine Kd.C_drewN ?_ _) | (with_reducible refine Kd.C_drew ?_))); (case side4 => exact (Kd.R_reads' HO827.out).2.1); rintro e w' ⟨rfl, ⟨nd, rfl⟩⟩; clear HO817; clear HO827; have n_ := Aside0.mk (Kd.R_mono (ok' := (fun k_ => some k_ ≠ (v847 : Value).ownBlock ∧ some k_ ≠ (v856 : Value).ownBlock ∧ some k_ ≠ (v858 : Value).ownBlock)) HO840.out (fun k_ hk => ⟨hk.2.2.1, ⟨hk.2.2.2.1, hk.2.2.2.2⟩⟩)); clear HO840; have HO840 := n_; clear n_; have n_ := Aside0.mk (Kd.R_mono (ok' := (fun k_ => some k_ ≠ (v839 : Value).ownBlock ∧ some k_ ≠ (v856 : Value).ownBlock ∧ some k_ ≠ (v858 : Value).ownBlock)) HO848.out (fun k_ hk => ⟨hk.2.2.1, ⟨hk.2.2.2.1, hk.2.2.2.2⟩⟩)); clear HO848; have HO848 := n_; clear n_; have n_ := Aside0.mk (Kd.R_mono (ok' := (fun k_ => some k_ ≠ (v839 : Value).ownBlock ∧ some k_ ≠ (v847 : Value).ownBlock ∧ some k_ ≠ (v858 : Value).ownBlock)) HO857.out (fun k_ hk => ⟨hk.2.2.1, ⟨hk.2.2.2.1, hk.2.2.2.2⟩⟩)); clear HO857; have HO857 := n_; clear n_; have n_ := Aside0.mk (Kd.R_mono (ok' := (fun k_ => some k_ ≠ (v839 : Value).ownBlock ∧ some k_ ≠ (v847 : Value).ownBlock ∧ some k_ ≠ (v856 : Value).ownBlock)) HO859.out (fun k_ hk => ⟨hk.2.2.1, ⟨hk.2.2.2.1, hk.2.2.2.2⟩⟩)); clear HO859; have HO859 := n_; clear n_) | (go_at_call 28; (with_reducible refine (nat_Shr.calls _ _ l0 a3 t861 _ ?side1 ?side2 A42.out).mono ?_); (case side1 => repeat (first | exact (Kd.C_below HR0.out (by repeat (first | (with_reducible first | exact HB.out | apply below_alloc | apply pw_below_drewN | apply below_drew1) | exact HB.out))) | (with_reducible refine Kd.C_alloc ?_ _) | (with_reducible refine Kd.C_drewN ?_ _) | (with_reducible refine Kd.C_drew ?_))); (case side2 => exact HC0.out); rintro e w66 ⟨v862, rfl, ho0, hb⟩; have n0_ := Aside0.mk (Kd.R_elder' (by (with_reducible repeat (first | apply Kd.R_alloc | apply Kd.R_drewN | apply Kd.R_drew)); exact HO840.out) (Kd.R_base ho0) hb); have n1_ := Aside0.mk (Kd.R_elder' (by (with_reducible repeat (first | apply Kd.R_alloc | apply Kd.R_drewN | apply Kd.R_drew)); exact HO848.out) (Kd.R_base ho0) hb); have n2_ := Aside0.mk (Kd.R_elder' (by (with_reducible repeat (first | apply Kd.R_alloc | apply Kd.R_drewN | apply Kd.R_drew)); exact HO857.out) (Kd.R_base ho0) hb); have n3_ := Aside0.mk (Kd.R_elder' (by (with_reducible repeat (first | apply Kd.R_alloc | apply Kd.R_drewN | apply Kd.R_drew)); exact HO859.out) (Kd.R_base ho0) hb); have n4_ := Aside0.mk (Kd.R_lower (Kd.R_new' (Kd.R_new' (Kd.R_new' (Kd.R_new' ho0 (Kd.R_lt (by (with_reducible repeat (first | apply Kd.R_alloc | apply Kd.R_drewN | apply Kd.R_drew)); exact HO840.out))) (Kd.R_lt (by (with_reducible repeat (first | apply Kd.R_alloc | apply Kd.R_drewN | apply Kd.R_drew)); exact HO848.out))) (Kd.R_lt (by (with_reducible repeat (first | apply Kd.R_alloc | apply Kd.R_drewN | apply Kd.R_drew)); exact HO857.out))) (Kd.R_lt (by (with_reducible repeat (first | apply Kd.R_alloc | apply Kd.R_drewN | apply Kd.R_drew)); exact HO859.out))) (below_size (by repeat (first | (with_reducible first | exact HB.out | apply below_alloc | apply pw_below_drewN | apply below_drew1) | exact HB.out)))); have n5_ := Aside0.mk (below_step (by repeat (first | (with_reducible first | exact HB.out | apply below_alloc | apply pw_below_drewN | apply below_drew1) | exact HB.out)) hb); clear HO840; clear HO848; clear HO857; clear HO859; clear HB; have HO840 := n0_; have HO848 := n1_; have HO857 := n2_; have HO859 := n3_; have HO863 := n4_; have HB := n5_; clear n0_ n1_ n2_ n3_ n4_ n5_; (try clear hb); (try clear hb2); (try clear hk); (try clear hi); (try clear ho0); obtain ⟨Ao67, co67, eo67⟩ := Kd.R_slice HO840.out; subst eo67; obtain ⟨Ao68, co68, eo68⟩ := Kd.R_slice HO863.out; subst eo68) | (go_at_call 22; (with_reducible refine (alidadelaw03_same.calls kj14 _ _ t836 _ _ t861 true _ ?side1 ?side2 ?side3 ?side4 A43.out).mono ?_); (case side1 => repeat (first | exact (Kd.R_reads' HO840.out).2.2 | (with_reducible refine Kd.C_alloc ?_ _) | (with_reducible refine Kd.C_drewN ?_ _) | (with_reducible refine Kd.C_drew ?_))); (case side2 => exact (Kd.R_reads' HO840.out).2.1); (case side3 => repeat (first | exact (Kd.R_reads' HO863.out).2.2 | (with_reducible refine Kd.C_alloc ?_ _) | (with_reducible refine Kd.C_drewN ?_ _) | (with_reducible refine Kd.C_drew ?_))); (case side4 => exact (Kd.R_reads' HO863.out).2.1); rintro e w' ⟨rfl, ⟨nd, rfl⟩⟩; clear HO840; clear HO863; have n_ := Aside0.mk (Kd.R_mono (ok' := (fun k_ => some k_ ≠ (v856 : Value).ownBlock ∧ some k_ ≠ (v858 : Value).ownBlock)) HO848.out (fun k_ hk => ⟨hk.1.2.1, hk.1.2.2⟩)); clear HO848; have HO848 := n_; clear n_; have n_ := Aside0.mk (Kd.R_mono (ok' := (fun k_ => some k_ ≠ (v847 : Value).ownBlock ∧ some k_ ≠ (v858 : Value).ownBlock)) HO857.out (fun k_ hk => ⟨hk.1.2.1, hk.1.2.2⟩)); clear HO857; have HO857 := n_; clear n_; have n_ := Aside0.mk (Kd.R_mono (ok' := (fun k_ => some k_ ≠ (v847 : Value).ownBlock ∧ some k_ ≠ (v856 : Value).ownBlock)) HO859.out (fun k_ hk => ⟨hk.1.2.1, hk.1.2.2⟩)); clear HO859; have HO859 := n_; clear n_; obtain ⟨Ao69, co69, eo69⟩ := Kd.R_slice HO848.out; subst eo69; obtain ⟨Ao70, co70, eo70⟩ := Kd.R_slice HO857.out; subst eo70) | (go_at_call 22; (with_reducible refine (alidadelaw03_same.calls kj14 _ _ t844 _ _ t853 true _ ?side1 ?side2 ?side3 ?side4 A45.out).mono ?_); (case side1 => repeat (first | exact (Kd.R_reads' HO848.out).2.2 | (with_reducible refine Kd.C_alloc ?_ _) | (with_reducible refine Kd.C_drewN ?_ _) | (with_reducible refine Kd.C_drew ?_))); (case side2 => exact (Kd.R_reads' HO848.out).2.1); (case side3 => repeat (first | exact (Kd.R_reads' HO857.out).2.2 | (with_reducible refine Kd.C_alloc ?_ _) | (with_reducible refine Kd.C_drewN ?_ _) | (with_reducible refine Kd.C_drew ?_))); (case side4 => exact (Kd.R_reads' HO857.out).2.1); rintro e w' ⟨rfl, ⟨nd, rfl⟩⟩; clear HO848; clear HO857; have n_ := Aside0.mk (Kd.R_mono (ok' := (fun _ => True)) HO859.out (fun k_ hk => trivial)); clear HO859; have HO859 := n_; clear n_) | (go_at_call 29; (with_reducible refine (nat_Of.calls kj14 (IntKind.u64.wrap (t845)) t866 _ A47.out).mono ?_); rintro e w71 ⟨v867, rfl, ho0, hb⟩; have n0_ := Aside0.mk (Kd.R_elder' (by (with_reducible repeat (first | apply Kd.R_alloc | apply Kd.R_drewN | apply Kd.R_drew)); exact HO859.out) (Kd.R_base ho0) hb); have n1_ := Aside0.mk (Kd.R_lower (Kd.R_new' ho0 (Kd.R_lt (by (with_reducible repeat (first | apply Kd.R_alloc | apply Kd.R_drewN | apply Kd.R_drew)); exact HO859.out))) (below_size (by repeat (first | (with_reducible first | exact HB.out | apply below_alloc | apply pw_below_drewN | apply below_drew1) | exact HB.out)))); have n2_ := Aside0.mk (below_step (by repeat (first | (with_reducible first | exact HB.out | apply below_alloc | apply pw_below_drewN | apply below_drew1) | exact HB.out)) hb); clear HO859; clear HB; have HO859 := n0_; have HO868 := n1_; have HB := n2_; clear n0_ n1_ n2_; (try clear hb); (try clear hb2); (try clear hk); (try clear hi); (try clear ho0); obtain ⟨Ao72, co72, eo72⟩ := Kd.R_slice HO859.out; subst eo72; obtain ⟨Ao73, co73, eo73⟩ := Kd.R_slice HO868.out; subst eo73) | (go_at_call 22; (with_reducible refine (alidadelaw03_same.calls kj14 _ _ t854 _ _ t866 t869 _ ?side1 ?side2 ?side3 ?side4 A48.out).mono ?_); (case side1 => repeat (first | exact (Kd.R_reads' HO859.out).2.2 | (with_reducible refine Kd.C_alloc ?_ _) | (with_reducible refine Kd.C_drewN ?_ _) | (with_reducible refine Kd.C_drew ?_))); (case side2 => exact (Kd.R_reads' HO859.out).2.1); (case side3 => repeat (first | exact (Kd.R_reads' HO868.out).2.2 | (with_reducible refine Kd.C_alloc ?_ _) | (with_reducible refine Kd.C_drewN ?_ _) | (with_reducible refine Kd.C_drew ?_))); (case side4 => exact (Kd.R_reads' HO868.out).2.1); rintro e w' ⟨rfl, ⟨nd, rfl⟩⟩))
                              go_ret
                              exact ⟨by first | rfl | (simp [errW_none, errW_some] <;> rfl) | (simp [*, errW_none, errW_some] <;> rfl), by repeat (first | (with_reducible first | exact HB.out | apply below_alloc | apply pw_below_drewN | apply below_drew1) | exact HB.out)⟩
                            · replace c46 := Bool.eq_false_iff.mpr c46
                              subst c46
                              have H1 : (none) = some r := by rw [if_neg (show ¬ (false = true) by decide)] at H; exact H
                              clear H
                              have H := H1
                              clear H1
                              exact absurd H (by simp)
                          · replace c44 := Bool.eq_false_iff.mpr c44
                            subst c44
                            have H1 : (none) = some r := by rw [if_neg (show ¬ (false = true) by decide)] at H; exact H
                            clear H
                            have H := H1
                            clear H1
                            exact absurd H (by simp)
                        · replace c41 := Bool.eq_false_iff.mpr c41
                          subst c41
                          have H1 : (none) = some r := by rw [if_neg (show ¬ (false = true) by decide)] at H; exact H
                          clear H
                          have H := H1
                          clear H1
                          exact absurd H (by simp)
                      · rw [if_neg c39] at H
                        exact absurd H (by simp)
                    · rw [if_neg c38] at H
                      exact absurd H (by simp)
                  · rw [if_neg c37] at H
                    exact absurd H (by simp)
                · rw [if_neg c36] at H
                  exact absurd H (by simp)
              · rw [if_neg c32] at H
                exact absurd H (by simp)

/-- THE ONE PURE STATEMENT of alidadelaw03_DivTwice: yours. -/
def alidadelaw03_DivTwice.Pure : Prop := ∀ (l0 : List Int) (l1 : List Int) (l2 : List Int) (a3 : Int), l0.length ≤ maxLen → l0.length * 4 ≤ 140737488351232 → (∀ x ∈ l0, (Lit.int .u32 x).wf = true) → l1.length ≤ maxLen → l1.length * 4 ≤ 140737488351232 → (∀ x ∈ l1, (Lit.int .u32 x).wf = true) → l2.length ≤ maxLen → l2.length * 4 ≤ 140737488351232 → (∀ x ∈ l2, (Lit.int .u32 x).wf = true) → (Lit.int .i64 a3).wf = true → ∃ k, alidadelaw03_DivTwice.f k l0 l1 l2 a3 = some true
theorem alidadelaw03_DivTwice.walk (P : alidadelaw03_DivTwice.Pure) (a0 : Option Addr) (len0 cap0 : Nat) (z0 : List Int) (a1 : Option Addr) (len1 cap1 : Nat) (z1 : List Int) (a2 : Option Addr) (len2 cap2 : Nat) (z2 : List Int) (a3 : Int) (w : World) (w0 : (a0 = none ∧ len0 = 0 ∧ cap0 = 0 ∧ z0 = []) ∨ ∃ x, a0 = some x ∧ len0 ≤ cap0 ∧ cap0 ≤ maxLen ∧ z0.length = cap0 ∧ (∀ i, i < z0.length → w.cell? (x.add i) = some (.int .u32 (z0.getD i 0))) ∧ ∀ n ∈ z0, (Lit.int .u32 n).wf = true) (y0 : len0 * 4 ≤ 140737488351232) (w1 : (a1 = none ∧ len1 = 0 ∧ cap1 = 0 ∧ z1 = []) ∨ ∃ x, a1 = some x ∧ len1 ≤ cap1 ∧ cap1 ≤ maxLen ∧ z1.length = cap1 ∧ (∀ i, i < z1.length → w.cell? (x.add i) = some (.int .u32 (z1.getD i 0))) ∧ ∀ n ∈ z1, (Lit.int .u32 n).wf = true) (y1 : len1 * 4 ≤ 140737488351232) (w2 : (a2 = none ∧ len2 = 0 ∧ cap2 = 0 ∧ z2 = []) ∨ ∃ x, a2 = some x ∧ len2 ≤ cap2 ∧ cap2 ≤ maxLen ∧ z2.length = cap2 ∧ (∀ i, i < z2.length → w.cell? (x.add i) = some (.int .u32 (z2.getD i 0))) ∧ ∀ n ∈ z2, (Lit.int .u32 n).wf = true) (y2 : len2 * 4 ≤ 140737488351232) (w3 : (Lit.int .i64 a3).wf = true) :
    Calls Try.prog 8 #[.slice a0 len0 cap0, .slice a1 len1 cap1, .slice a2 len2 cap2, .int .i64 a3] w fun e w' => e = .returned (.bool true) ∧ Below w.heap.size w w' := by
  obtain ⟨l0, rfl, hr0, hm0, hw0, hc0⟩ := ReadsInt.ofRowC w0
  obtain ⟨l1, rfl, hr1, hm1, hw1, hc1⟩ := ReadsInt.ofRowC w1
  obtain ⟨l2, rfl, hr2, hm2, hw2, hc2⟩ := ReadsInt.ofRowC w2
  obtain ⟨k, h⟩ := P l0 l1 l2 a3 hm0 y0 hw0 hm1 y1 hw1 hm2 y2 hw2 w3
  refine (alidadelaw03_DivTwice.calls k _ _ l0 _ _ l1 _ _ l2 a3 true w (Kd.C_of_reads (d := (0 : Int)) (h1 := fun _ => rfl) hr0) hc0 (Kd.C_of_reads (d := (0 : Int)) (h1 := fun _ => rfl) hr1) hc1 (Kd.C_of_reads (d := (0 : Int)) (h1 := fun _ => rfl) hr2) hc2 h).mono ?_
  rintro e w' ⟨rfl, hd⟩
  exact ⟨rfl, hd⟩

end Go.Proofs.Ytejlgahkekgceaa.PDiv
