-- A text of the seat Ythdhpihfbggbbaa, written by a program of this session (drive.py).
import Derived.Test.YthdhpihfbggbbaaPNatx0
import Derived.Test.YthdhpihfbggbbaaPNatx1
import Derived.Test.YthdhpihfbggbbaaPNatx5
import Derived.Test.YthdhpihfbggbbaaPNatx7
import Derived.Test.YthdhpihfbggbbaaPNatx9
import Derived.Test.YthdhpihfbggbbaaPNatx10
import Derived.Test.YthdhpihfbggbbaaPNatx14
import Derived.Test.YthdhpihfbggbbaaPNatx15
import Derived.Test.YthdhpihfbggbbaaPNatx19
import Derived.Test.YthdhpihfbggbbaaPNatx26
import Derived.Test.YthdhpihfbggbbaaPNatx27
import Derived.Test.YthdhpihfbggbbaaPNatx28
import Derived.Test.YthdhpihfbggbbaaPNatx29
namespace Go.Proofs.Ythdhpihfbggbbaa.PNat
open Go.RowKit Go.Proofs.YthdhpihfbggbbaaW.PrintWords Go.Proofs.YthdhpihfbggbbaaW.PrintLast Go.Proofs.YthdhpihfbggbbaaW.PrintMore
attribute [local go_sem] max2_int min2_int max_two min_two max_three min_three max_four min_four   -- for this text's walks alone
set_option linter.unusedVariables false
set_option linter.unusedSimpArgs false

/-! ### alidadelaw01_NatTells: function 8 -/
mutual
def alidadelaw01_NatTells.j0 : Nat → List Int → List Int → Int → Bool → Option (Bool)
  | 0, _, _, _, _ => none
  | k + 1, x0, x1, x2, x25 => if x25 = true then ((alidadelaw01_awake.f k).bind fun t484 => (some t484)) else ((alidadelaw01_own.f x0).bind fun t485 => ((alidadelaw01_own.f x1).bind fun t488 => ((nat_Low.f k t485).bind fun bt491 => ((alidaderef01_Low.f k x0).bind fun bt493 => ((nat_May.f t485).bind fun t495 => ((alidaderef01_May.f x0).bind fun t496 => (if t495 = true then (if t496 = true then (if bt491.1 = bt493.1 then (if bt491.2 = true then (if bt493.2 = true then ((nat_Cmp.f t485 t488).bind fun t497 => ((alidaderef01_Cmp.f k x0 x1).bind fun t498 => (alidadelaw01_NatTells.j1 k x0 x1 x2 t485 t488 (t497 != t498)))) else (alidadelaw01_NatTells.j1 k x0 x1 x2 t485 t488 true)) else (if bt493.2 = true then (alidadelaw01_NatTells.j1 k x0 x1 x2 t485 t488 true) else ((nat_Cmp.f t485 t488).bind fun t499 => ((alidaderef01_Cmp.f k x0 x1).bind fun t500 => (alidadelaw01_NatTells.j1 k x0 x1 x2 t485 t488 (t499 != t500)))))) else (alidadelaw01_NatTells.j1 k x0 x1 x2 t485 t488 true)) else (alidadelaw01_NatTells.j1 k x0 x1 x2 t485 t488 true)) else (if t496 = true then (alidadelaw01_NatTells.j1 k x0 x1 x2 t485 t488 true) else (if bt491.1 = bt493.1 then (if bt491.2 = true then (if bt493.2 = true then ((nat_Cmp.f t485 t488).bind fun t501 => ((alidaderef01_Cmp.f k x0 x1).bind fun t502 => (alidadelaw01_NatTells.j1 k x0 x1 x2 t485 t488 (t501 != t502)))) else (alidadelaw01_NatTells.j1 k x0 x1 x2 t485 t488 true)) else (if bt493.2 = true then (alidadelaw01_NatTells.j1 k x0 x1 x2 t485 t488 true) else ((nat_Cmp.f t485 t488).bind fun t503 => ((alidaderef01_Cmp.f k x0 x1).bind fun t504 => (alidadelaw01_NatTells.j1 k x0 x1 x2 t485 t488 (t503 != t504)))))) else (alidadelaw01_NatTells.j1 k x0 x1 x2 t485 t488 true))))))))))
def alidadelaw01_NatTells.j1 : Nat → List Int → List Int → Int → List Int → List Int → Bool → Option (Bool)
  | 0, _, _, _, _, _, _ => none
  | k + 1, x0, x1, x2, x7, x8, x64 => if x64 = true then (none) else (alidadelaw01_NatTells.l0 k x0 x1 x2 x7 x8 0)
def alidadelaw01_NatTells.l0 : Nat → List Int → List Int → Int → List Int → List Int → Int → Option (Bool)
  | 0, _, _, _, _, _, _ => none
  | k + 1, x0, x1, x2, x7, x8, x13 => if x13 < 2 then ((nat_Sub.f x7 x8).bind fun bt508 => ((alidaderef01_Sub.f k x0 x1).bind fun bt512 => (if bt508.2 = true then (if bt512.2 = true then ((alidadelaw01_is.f k bt508.1 bt512.1).bind fun bt516 => (if bt516.1 = true then ((nat_Add.f x7 x8).bind fun t518 => ((alidaderef01_Add.f k x0 x1).bind fun t521 => ((alidadelaw01_is.f k t518 t521).bind fun bt524 => (if bt524.1 = true then ((nat_Of.f k x2).bind fun t526 => ((alidaderef01_Of.f k x2).bind fun t529 => ((alidadelaw01_is.f k t526 t529).bind fun bt532 => (if bt532.1 = true then (alidadelaw01_NatTells.l0 k x0 x1 x2 x7 x8 (wrap64 (x13 + 1))) else (none))))) else (none))))) else (none))) else (none)) else (if bt512.2 = true then (none) else ((alidadelaw01_is.f k bt508.1 bt512.1).bind fun bt534 => (if bt534.1 = true then ((nat_Add.f x7 x8).bind fun t536 => ((alidaderef01_Add.f k x0 x1).bind fun t539 => ((alidadelaw01_is.f k t536 t539).bind fun bt542 => (if bt542.1 = true then ((nat_Of.f k x2).bind fun t544 => ((alidaderef01_Of.f k x2).bind fun t547 => ((alidadelaw01_is.f k t544 t547).bind fun bt550 => (if bt550.1 = true then (alidadelaw01_NatTells.l0 k x0 x1 x2 x7 x8 (wrap64 (x13 + 1))) else (none))))) else (none))))) else (none))))))) else ((alidaderef01_Same.f k x7 x0).bind fun t505 => (if t505 = true then ((alidaderef01_Same.f k x8 x1).bind fun t506 => (if t506 = true then ((alidadelaw01_awake.f k).bind fun t507 => (some t507)) else (none))) else (none)))
end
def alidadelaw01_NatTells.f (k : Nat) (l0 : List Int) (l1 : List Int) (a2 : Int) : Option (Bool) := if (l0.length : Int) > 60 then (alidadelaw01_NatTells.j0 k l0 l1 a2 true) else (alidadelaw01_NatTells.j0 k l0 l1 a2 (decide ((l1.length : Int) > 60)))
theorem alidadelaw01_NatTells.mono_l : ∀ k, (∀ y0 y1 y2 y3, LeO (alidadelaw01_NatTells.j0 k y0 y1 y2 y3) (alidadelaw01_NatTells.j0 (k + 1) y0 y1 y2 y3)) ∧ (∀ y0 y1 y2 y3 y4 y5, LeO (alidadelaw01_NatTells.j1 k y0 y1 y2 y3 y4 y5) (alidadelaw01_NatTells.j1 (k + 1) y0 y1 y2 y3 y4 y5)) ∧ (∀ y0 y1 y2 y3 y4 y5, LeO (alidadelaw01_NatTells.l0 k y0 y1 y2 y3 y4 y5) (alidadelaw01_NatTells.l0 (k + 1) y0 y1 y2 y3 y4 y5))
  | 0 => ⟨fun _ _ _ _ r h => by simp [alidadelaw01_NatTells.j0] at h, fun _ _ _ _ _ _ r h => by simp [alidadelaw01_NatTells.j1] at h, fun _ _ _ _ _ _ r h => by simp [alidadelaw01_NatTells.l0] at h⟩
  | k + 1 => by
    obtain ⟨ih0, ih1, ih2⟩ := alidadelaw01_NatTells.mono_l k
    refine ⟨?_, ?_, ?_⟩
    · intro y0 y1 y2 y3
      unfold alidadelaw01_NatTells.j0
      repeat' first
      | (with_reducible exact ih0 _ _ _ _)
      | (with_reducible exact ih1 _ _ _ _ _ _)
      | (with_reducible exact ih2 _ _ _ _ _ _)
      | (with_reducible exact alidadelaw01_awake.mono _)
      | (with_reducible exact alidadelaw01_is.mono _ _ _)
      | (with_reducible exact alidaderef01_Add.mono _ _ _)
      | (with_reducible exact alidaderef01_Cmp.mono _ _ _)
      | (with_reducible exact alidaderef01_Low.mono _ _)
      | (with_reducible exact alidaderef01_Of.mono _ _)
      | (with_reducible exact alidaderef01_Same.mono _ _ _)
      | (with_reducible exact alidaderef01_Sub.mono _ _ _)
      | (with_reducible exact nat_Low.mono _ _)
      | (with_reducible exact nat_Of.mono _ _)
      | (with_reducible exact LeO.refl _)
      | (with_reducible exact LeO.none _)
      | (with_reducible refine LeO.ite ?_ ?_)
      | (with_reducible refine LeO.bind ?_ (fun _ => ?_))
      | exact ih0 _ _ _ _
      | exact ih1 _ _ _ _ _ _
      | exact ih2 _ _ _ _ _ _
      | exact alidadelaw01_awake.mono _
      | exact alidadelaw01_is.mono _ _ _
      | exact alidaderef01_Add.mono _ _ _
      | exact alidaderef01_Cmp.mono _ _ _
      | exact alidaderef01_Low.mono _ _
      | exact alidaderef01_Of.mono _ _
      | exact alidaderef01_Same.mono _ _ _
      | exact alidaderef01_Sub.mono _ _ _
      | exact nat_Low.mono _ _
      | exact nat_Of.mono _ _
      | exact LeO.none _
      | refine LeO.ite ?_ ?_
      | refine LeO.bind ?_ (fun _ => ?_)
    · intro y0 y1 y2 y3 y4 y5
      unfold alidadelaw01_NatTells.j1
      repeat' first
      | (with_reducible exact ih0 _ _ _ _)
      | (with_reducible exact ih1 _ _ _ _ _ _)
      | (with_reducible exact ih2 _ _ _ _ _ _)
      | (with_reducible exact alidadelaw01_awake.mono _)
      | (with_reducible exact alidadelaw01_is.mono _ _ _)
      | (with_reducible exact alidaderef01_Add.mono _ _ _)
      | (with_reducible exact alidaderef01_Cmp.mono _ _ _)
      | (with_reducible exact alidaderef01_Low.mono _ _)
      | (with_reducible exact alidaderef01_Of.mono _ _)
      | (with_reducible exact alidaderef01_Same.mono _ _ _)
      | (with_reducible exact alidaderef01_Sub.mono _ _ _)
      | (with_reducible exact nat_Low.mono _ _)
      | (with_reducible exact nat_Of.mono _ _)
      | (with_reducible exact LeO.refl _)
      | (with_reducible exact LeO.none _)
      | (with_reducible refine LeO.ite ?_ ?_)
      | (with_reducible refine LeO.bind ?_ (fun _ => ?_))
      | exact ih0 _ _ _ _
      | exact ih1 _ _ _ _ _ _
      | exact ih2 _ _ _ _ _ _
      | exact alidadelaw01_awake.mono _
      | exact alidadelaw01_is.mono _ _ _
      | exact alidaderef01_Add.mono _ _ _
      | exact alidaderef01_Cmp.mono _ _ _
      | exact alidaderef01_Low.mono _ _
      | exact alidaderef01_Of.mono _ _
      | exact alidaderef01_Same.mono _ _ _
      | exact alidaderef01_Sub.mono _ _ _
      | exact nat_Low.mono _ _
      | exact nat_Of.mono _ _
      | exact LeO.none _
      | refine LeO.ite ?_ ?_
      | refine LeO.bind ?_ (fun _ => ?_)
    · intro y0 y1 y2 y3 y4 y5
      unfold alidadelaw01_NatTells.l0
      repeat' first
      | (with_reducible exact ih0 _ _ _ _)
      | (with_reducible exact ih1 _ _ _ _ _ _)
      | (with_reducible exact ih2 _ _ _ _ _ _)
      | (with_reducible exact alidadelaw01_awake.mono _)
      | (with_reducible exact alidadelaw01_is.mono _ _ _)
      | (with_reducible exact alidaderef01_Add.mono _ _ _)
      | (with_reducible exact alidaderef01_Cmp.mono _ _ _)
      | (with_reducible exact alidaderef01_Low.mono _ _)
      | (with_reducible exact alidaderef01_Of.mono _ _)
      | (with_reducible exact alidaderef01_Same.mono _ _ _)
      | (with_reducible exact alidaderef01_Sub.mono _ _ _)
      | (with_reducible exact nat_Low.mono _ _)
      | (with_reducible exact nat_Of.mono _ _)
      | (with_reducible exact LeO.refl _)
      | (with_reducible exact LeO.none _)
      | (with_reducible refine LeO.ite ?_ ?_)
      | (with_reducible refine LeO.bind ?_ (fun _ => ?_))
      | exact ih0 _ _ _ _
      | exact ih1 _ _ _ _ _ _
      | exact ih2 _ _ _ _ _ _
      | exact alidadelaw01_awake.mono _
      | exact alidadelaw01_is.mono _ _ _
      | exact alidaderef01_Add.mono _ _ _
      | exact alidaderef01_Cmp.mono _ _ _
      | exact alidaderef01_Low.mono _ _
      | exact alidaderef01_Of.mono _ _
      | exact alidaderef01_Same.mono _ _ _
      | exact alidaderef01_Sub.mono _ _ _
      | exact nat_Low.mono _ _
      | exact nat_Of.mono _ _
      | exact LeO.none _
      | refine LeO.ite ?_ ?_
      | refine LeO.bind ?_ (fun _ => ?_)
theorem alidadelaw01_NatTells.mono : ∀ a0 a1 a2 k, LeO (alidadelaw01_NatTells.f k a0 a1 a2) (alidadelaw01_NatTells.f (k + 1) a0 a1 a2) := by
  intro a0 a1 a2 k
  obtain ⟨ih0, ih1, ih2⟩ := alidadelaw01_NatTells.mono_l k
  unfold alidadelaw01_NatTells.f
  repeat' first
      | (with_reducible exact ih0 _ _ _ _)
      | (with_reducible exact ih1 _ _ _ _ _ _)
      | (with_reducible exact ih2 _ _ _ _ _ _)
      | (with_reducible exact alidadelaw01_awake.mono _)
      | (with_reducible exact alidadelaw01_is.mono _ _ _)
      | (with_reducible exact alidaderef01_Add.mono _ _ _)
      | (with_reducible exact alidaderef01_Cmp.mono _ _ _)
      | (with_reducible exact alidaderef01_Low.mono _ _)
      | (with_reducible exact alidaderef01_Of.mono _ _)
      | (with_reducible exact alidaderef01_Same.mono _ _ _)
      | (with_reducible exact alidaderef01_Sub.mono _ _ _)
      | (with_reducible exact nat_Low.mono _ _)
      | (with_reducible exact nat_Of.mono _ _)
      | (with_reducible exact LeO.refl _)
      | (with_reducible exact LeO.none _)
      | (with_reducible refine LeO.ite ?_ ?_)
      | (with_reducible refine LeO.bind ?_ (fun _ => ?_))
      | exact ih0 _ _ _ _
      | exact ih1 _ _ _ _ _ _
      | exact ih2 _ _ _ _ _ _
      | exact alidadelaw01_awake.mono _
      | exact alidadelaw01_is.mono _ _ _
      | exact alidaderef01_Add.mono _ _ _
      | exact alidaderef01_Cmp.mono _ _ _
      | exact alidaderef01_Low.mono _ _
      | exact alidaderef01_Of.mono _ _
      | exact alidaderef01_Same.mono _ _ _
      | exact alidaderef01_Sub.mono _ _ _
      | exact nat_Low.mono _ _
      | exact nat_Of.mono _ _
      | exact LeO.none _
      | refine LeO.ite ?_ ?_
      | refine LeO.bind ?_ (fun _ => ?_)
set_option maxHeartbeats 8000000 in
set_option maxRecDepth 100000 in
theorem alidadelaw01_NatTells.calls (k : Nat) (A0 : Option Addr) (c0 : Nat) (l0 : List Int) (A1 : Option Addr) (c1 : Nat) (l1 : List Int) (a2 : Int) (r : Bool) (w : World) (hr0 : Kd.C (Kd.int .u32) w A0 l0.length l0) (hc0 : l0.length ≤ c0) (hr1 : Kd.C (Kd.int .u32) w A1 l1.length l1) (hc1 : l1.length ≤ c1) (h : alidadelaw01_NatTells.f k l0 l1 a2 = some r) :
    Calls Try.prog 8 #[.slice A0 l0.length c0, .slice A1 l1.length c1, .int .u64 a2] w fun e w' => e = .returned (.bool r) ∧ Below w.heap.size w w' := by
  have HR0 := Aside0.mk hr0
  have HC0 := Aside0.mk hc0
  clear hr0 hc0
  have HR1 := Aside0.mk hr1
  have HC1 := Aside0.mk hc1
  clear hr1 hc1
  have HB := Aside0.mk (Below.refl w.heap.size w)
  have H : (if (l0.length : Int) > 60 then (alidadelaw01_NatTells.j0 k l0 l1 a2 true) else (alidadelaw01_NatTells.j0 k l0 l1 a2 (decide ((l1.length : Int) > 60)))) = some r := h
  clear h
  have HC4 := Aside0.mk H
  clear H
  go_enter Try.func8, Try.ntmps8
  go_upto_region 1 with (fail)
  go_cut [25] (fun v25 wc => ∃ (kq : Nat) (x25_3 : Bool), v25 = .bool x25_3 ∧ Aside0 (alidadelaw01_NatTells.j0 kq l0 l1 a2 x25_3 = some r) ∧ Aside0 (kq ≤ k) ∧ Aside0 (Below w.heap.size w wc))
  case first =>
    have H := HC4.out
    clear HC4
    by_cases c5 : (l0.length : Int) > 60
    · rw [if_pos c5] at H
      have c5b0 : decide (60 < (l0.length : Int)) = true := decide_eq_true c5
      have c5b1 : decide (60 < l0.length) = true := decide_eq_true (by omega)
      clear c5
      (first | rw [c5b0] | (simp only [i64_w, i32_w]; rw [c5b0]) | skip)
      have H' := Aside0.mk H
      clear H
      go_wp2
      go_meet
      case rel => exact ⟨_, (true), (by first | rfl | (simp; done) | (simp [*]; done)), H', ⟨by first | omega | exact Nat.le_refl _⟩, ⟨by repeat (first | (with_reducible first | exact HB.out | apply below_alloc | apply pw_below_drewN | apply below_drew1) | exact HB.out)⟩⟩
    · rw [if_neg c5] at H
      have c5b0 : decide (60 < (l0.length : Int)) = false := decide_eq_false c5
      have c5b1 : decide (60 < l0.length) = false := decide_eq_false (by omega)
      clear c5
      (first | rw [c5b0] | (simp only [i64_w, i32_w]; rw [c5b0]) | skip)
      have H' := Aside0.mk H
      clear H
      go_wp2
      go_meet
      case rel => exact ⟨_, (decide ((l1.length : Int) > 60)), (by first | rfl | (simp; done) | (simp [*]; done)), H', ⟨by first | omega | exact Nat.le_refl _⟩, ⟨by repeat (first | (with_reducible first | exact HB.out | apply below_alloc | apply pw_below_drewN | apply below_drew1) | exact HB.out)⟩⟩
  case rest =>
    clear HC4
    try clear c1
    try clear p2
    try clear c5
    try clear c5b0
    try clear c5b1
    obtain ⟨kq, x25_3, rfl, HA, HJ3, HB⟩ := hcut
    cases kq with
    | zero => exact absurd HA.out (by simp [alidadelaw01_NatTells.j0])
    | succ kj3 =>
      have H := HA.out
      clear HA
      simp only [alidadelaw01_NatTells.j0] at H
      by_cases c6 : x25_3 = true
      · subst c6
        have H1 : ((alidadelaw01_awake.f kj3).bind fun t484 => (some t484)) = some r := by rw [if_pos rfl] at H; exact H
        clear H
        have H := H1
        clear H1
        replace H := Option.bind_eq_some_iff.mp H
        obtain ⟨t484, A70, H⟩ := H
        replace H : (some t484) = some r := H
        have A7 := Aside0.mk A70
        clear A70
        obtain rfl := Option.some.inj H
        go_wp2_with (first | ((with_reducible refine gate_callee (f := 10) rfl ?_); refine goesL_ (some 26) rfl rfl Try.func10 (by kernel_rfl) rfl #[] rfl (by (try simp only [List.map_toArray, List.map_cons, List.map_nil]); first | done | rfl | (simp only [List.length_drop, List.length_take]; rfl)) ?_; (with_reducible refine (alidadelaw01_awake.calls kj3  t484 _ A7.out).mono ?_); rintro e w8 ⟨rfl, hb⟩; refine ⟨_, rfl, ?_⟩; have n0_ := Aside0.mk (below_step (by repeat (first | (with_reducible first | exact HB.out | apply below_alloc | apply pw_below_drewN | apply below_drew1) | exact HB.out)) hb); clear HB; have HB := n0_; clear n0_; (try clear hb); (try clear hb2); (try clear hk); (try clear hi)))
        go_ret
        exact ⟨by first | rfl | (simp [errW_none, errW_some] <;> rfl) | (simp [*, errW_none, errW_some] <;> rfl), by repeat (first | (with_reducible first | exact HB.out | apply below_alloc | apply pw_below_drewN | apply below_drew1) | exact HB.out)⟩
      · replace c6 := Bool.eq_false_iff.mpr c6
        subst c6
        have H1 : ((alidadelaw01_own.f l0).bind fun t485 => ((alidadelaw01_own.f l1).bind fun t488 => ((nat_Low.f kj3 t485).bind fun bt491 => ((alidaderef01_Low.f kj3 l0).bind fun bt493 => ((nat_May.f t485).bind fun t495 => ((alidaderef01_May.f l0).bind fun t496 => (if t495 = true then (if t496 = true then (if bt491.1 = bt493.1 then (if bt491.2 = true then (if bt493.2 = true then ((nat_Cmp.f t485 t488).bind fun t497 => ((alidaderef01_Cmp.f kj3 l0 l1).bind fun t498 => (alidadelaw01_NatTells.j1 kj3 l0 l1 a2 t485 t488 (t497 != t498)))) else (alidadelaw01_NatTells.j1 kj3 l0 l1 a2 t485 t488 true)) else (if bt493.2 = true then (alidadelaw01_NatTells.j1 kj3 l0 l1 a2 t485 t488 true) else ((nat_Cmp.f t485 t488).bind fun t499 => ((alidaderef01_Cmp.f kj3 l0 l1).bind fun t500 => (alidadelaw01_NatTells.j1 kj3 l0 l1 a2 t485 t488 (t499 != t500)))))) else (alidadelaw01_NatTells.j1 kj3 l0 l1 a2 t485 t488 true)) else (alidadelaw01_NatTells.j1 kj3 l0 l1 a2 t485 t488 true)) else (if t496 = true then (alidadelaw01_NatTells.j1 kj3 l0 l1 a2 t485 t488 true) else (if bt491.1 = bt493.1 then (if bt491.2 = true then (if bt493.2 = true then ((nat_Cmp.f t485 t488).bind fun t501 => ((alidaderef01_Cmp.f kj3 l0 l1).bind fun t502 => (alidadelaw01_NatTells.j1 kj3 l0 l1 a2 t485 t488 (t501 != t502)))) else (alidadelaw01_NatTells.j1 kj3 l0 l1 a2 t485 t488 true)) else (if bt493.2 = true then (alidadelaw01_NatTells.j1 kj3 l0 l1 a2 t485 t488 true) else ((nat_Cmp.f t485 t488).bind fun t503 => ((alidaderef01_Cmp.f kj3 l0 l1).bind fun t504 => (alidadelaw01_NatTells.j1 kj3 l0 l1 a2 t485 t488 (t503 != t504)))))) else (alidadelaw01_NatTells.j1 kj3 l0 l1 a2 t485 t488 true)))))))))) = some r := by rw [if_neg (show ¬ (false = true) by decide)] at H; exact H
        clear H
        have H := H1
        clear H1
        replace H := Option.bind_eq_some_iff.mp H
        obtain ⟨t485, A90, H⟩ := H
        replace H : ((alidadelaw01_own.f l1).bind fun t488 => ((nat_Low.f kj3 t485).bind fun bt491 => ((alidaderef01_Low.f kj3 l0).bind fun bt493 => ((nat_May.f t485).bind fun t495 => ((alidaderef01_May.f l0).bind fun t496 => (if t495 = true then (if t496 = true then (if bt491.1 = bt493.1 then (if bt491.2 = true then (if bt493.2 = true then ((nat_Cmp.f t485 t488).bind fun t497 => ((alidaderef01_Cmp.f kj3 l0 l1).bind fun t498 => (alidadelaw01_NatTells.j1 kj3 l0 l1 a2 t485 t488 (t497 != t498)))) else (alidadelaw01_NatTells.j1 kj3 l0 l1 a2 t485 t488 true)) else (if bt493.2 = true then (alidadelaw01_NatTells.j1 kj3 l0 l1 a2 t485 t488 true) else ((nat_Cmp.f t485 t488).bind fun t499 => ((alidaderef01_Cmp.f kj3 l0 l1).bind fun t500 => (alidadelaw01_NatTells.j1 kj3 l0 l1 a2 t485 t488 (t499 != t500)))))) else (alidadelaw01_NatTells.j1 kj3 l0 l1 a2 t485 t488 true)) else (alidadelaw01_NatTells.j1 kj3 l0 l1 a2 t485 t488 true)) else (if t496 = true then (alidadelaw01_NatTells.j1 kj3 l0 l1 a2 t485 t488 true) else (if bt491.1 = bt493.1 then (if bt491.2 = true then (if bt493.2 = true then ((nat_Cmp.f t485 t488).bind fun t501 => ((alidaderef01_Cmp.f kj3 l0 l1).bind fun t502 => (alidadelaw01_NatTells.j1 kj3 l0 l1 a2 t485 t488 (t501 != t502)))) else (alidadelaw01_NatTells.j1 kj3 l0 l1 a2 t485 t488 true)) else (if bt493.2 = true then (alidadelaw01_NatTells.j1 kj3 l0 l1 a2 t485 t488 true) else ((nat_Cmp.f t485 t488).bind fun t503 => ((alidaderef01_Cmp.f kj3 l0 l1).bind fun t504 => (alidadelaw01_NatTells.j1 kj3 l0 l1 a2 t485 t488 (t503 != t504)))))) else (alidadelaw01_NatTells.j1 kj3 l0 l1 a2 t485 t488 true))))))))) = some r := H
        have A9 := Aside0.mk A90
        clear A90
        replace H := Option.bind_eq_some_iff.mp H
        obtain ⟨t488, A100, H⟩ := H
        replace H : ((nat_Low.f kj3 t485).bind fun bt491 => ((alidaderef01_Low.f kj3 l0).bind fun bt493 => ((nat_May.f t485).bind fun t495 => ((alidaderef01_May.f l0).bind fun t496 => (if t495 = true then (if t496 = true then (if bt491.1 = bt493.1 then (if bt491.2 = true then (if bt493.2 = true then ((nat_Cmp.f t485 t488).bind fun t497 => ((alidaderef01_Cmp.f kj3 l0 l1).bind fun t498 => (alidadelaw01_NatTells.j1 kj3 l0 l1 a2 t485 t488 (t497 != t498)))) else (alidadelaw01_NatTells.j1 kj3 l0 l1 a2 t485 t488 true)) else (if bt493.2 = true then (alidadelaw01_NatTells.j1 kj3 l0 l1 a2 t485 t488 true) else ((nat_Cmp.f t485 t488).bind fun t499 => ((alidaderef01_Cmp.f kj3 l0 l1).bind fun t500 => (alidadelaw01_NatTells.j1 kj3 l0 l1 a2 t485 t488 (t499 != t500)))))) else (alidadelaw01_NatTells.j1 kj3 l0 l1 a2 t485 t488 true)) else (alidadelaw01_NatTells.j1 kj3 l0 l1 a2 t485 t488 true)) else (if t496 = true then (alidadelaw01_NatTells.j1 kj3 l0 l1 a2 t485 t488 true) else (if bt491.1 = bt493.1 then (if bt491.2 = true then (if bt493.2 = true then ((nat_Cmp.f t485 t488).bind fun t501 => ((alidaderef01_Cmp.f kj3 l0 l1).bind fun t502 => (alidadelaw01_NatTells.j1 kj3 l0 l1 a2 t485 t488 (t501 != t502)))) else (alidadelaw01_NatTells.j1 kj3 l0 l1 a2 t485 t488 true)) else (if bt493.2 = true then (alidadelaw01_NatTells.j1 kj3 l0 l1 a2 t485 t488 true) else ((nat_Cmp.f t485 t488).bind fun t503 => ((alidaderef01_Cmp.f kj3 l0 l1).bind fun t504 => (alidadelaw01_NatTells.j1 kj3 l0 l1 a2 t485 t488 (t503 != t504)))))) else (alidadelaw01_NatTells.j1 kj3 l0 l1 a2 t485 t488 true)))))))) = some r := H
        have A10 := Aside0.mk A100
        clear A100
        replace H := Option.bind_eq_some_iff.mp H
        obtain ⟨⟨t491, t492⟩, A110, H⟩ := H
        replace H : ((alidaderef01_Low.f kj3 l0).bind fun bt493 => ((nat_May.f t485).bind fun t495 => ((alidaderef01_May.f l0).bind fun t496 => (if t495 = true then (if t496 = true then (if t491 = bt493.1 then (if t492 = true then (if bt493.2 = true then ((nat_Cmp.f t485 t488).bind fun t497 => ((alidaderef01_Cmp.f kj3 l0 l1).bind fun t498 => (alidadelaw01_NatTells.j1 kj3 l0 l1 a2 t485 t488 (t497 != t498)))) else (alidadelaw01_NatTells.j1 kj3 l0 l1 a2 t485 t488 true)) else (if bt493.2 = true then (alidadelaw01_NatTells.j1 kj3 l0 l1 a2 t485 t488 true) else ((nat_Cmp.f t485 t488).bind fun t499 => ((alidaderef01_Cmp.f kj3 l0 l1).bind fun t500 => (alidadelaw01_NatTells.j1 kj3 l0 l1 a2 t485 t488 (t499 != t500)))))) else (alidadelaw01_NatTells.j1 kj3 l0 l1 a2 t485 t488 true)) else (alidadelaw01_NatTells.j1 kj3 l0 l1 a2 t485 t488 true)) else (if t496 = true then (alidadelaw01_NatTells.j1 kj3 l0 l1 a2 t485 t488 true) else (if t491 = bt493.1 then (if t492 = true then (if bt493.2 = true then ((nat_Cmp.f t485 t488).bind fun t501 => ((alidaderef01_Cmp.f kj3 l0 l1).bind fun t502 => (alidadelaw01_NatTells.j1 kj3 l0 l1 a2 t485 t488 (t501 != t502)))) else (alidadelaw01_NatTells.j1 kj3 l0 l1 a2 t485 t488 true)) else (if bt493.2 = true then (alidadelaw01_NatTells.j1 kj3 l0 l1 a2 t485 t488 true) else ((nat_Cmp.f t485 t488).bind fun t503 => ((alidaderef01_Cmp.f kj3 l0 l1).bind fun t504 => (alidadelaw01_NatTells.j1 kj3 l0 l1 a2 t485 t488 (t503 != t504)))))) else (alidadelaw01_NatTells.j1 kj3 l0 l1 a2 t485 t488 true))))))) = some r := H
        have A11 := Aside0.mk A110
        clear A110
        replace H := Option.bind_eq_some_iff.mp H
        obtain ⟨⟨t493, t494⟩, A120, H⟩ := H
        replace H : ((nat_May.f t485).bind fun t495 => ((alidaderef01_May.f l0).bind fun t496 => (if t495 = true then (if t496 = true then (if t491 = t493 then (if t492 = true then (if t494 = true then ((nat_Cmp.f t485 t488).bind fun t497 => ((alidaderef01_Cmp.f kj3 l0 l1).bind fun t498 => (alidadelaw01_NatTells.j1 kj3 l0 l1 a2 t485 t488 (t497 != t498)))) else (alidadelaw01_NatTells.j1 kj3 l0 l1 a2 t485 t488 true)) else (if t494 = true then (alidadelaw01_NatTells.j1 kj3 l0 l1 a2 t485 t488 true) else ((nat_Cmp.f t485 t488).bind fun t499 => ((alidaderef01_Cmp.f kj3 l0 l1).bind fun t500 => (alidadelaw01_NatTells.j1 kj3 l0 l1 a2 t485 t488 (t499 != t500)))))) else (alidadelaw01_NatTells.j1 kj3 l0 l1 a2 t485 t488 true)) else (alidadelaw01_NatTells.j1 kj3 l0 l1 a2 t485 t488 true)) else (if t496 = true then (alidadelaw01_NatTells.j1 kj3 l0 l1 a2 t485 t488 true) else (if t491 = t493 then (if t492 = true then (if t494 = true then ((nat_Cmp.f t485 t488).bind fun t501 => ((alidaderef01_Cmp.f kj3 l0 l1).bind fun t502 => (alidadelaw01_NatTells.j1 kj3 l0 l1 a2 t485 t488 (t501 != t502)))) else (alidadelaw01_NatTells.j1 kj3 l0 l1 a2 t485 t488 true)) else (if t494 = true then (alidadelaw01_NatTells.j1 kj3 l0 l1 a2 t485 t488 true) else ((nat_Cmp.f t485 t488).bind fun t503 => ((alidaderef01_Cmp.f kj3 l0 l1).bind fun t504 => (alidadelaw01_NatTells.j1 kj3 l0 l1 a2 t485 t488 (t503 != t504)))))) else (alidadelaw01_NatTells.j1 kj3 l0 l1 a2 t485 t488 true)))))) = some r := H
        have A12 := Aside0.mk A120
        clear A120
        have HC13 := Aside0.mk H
        clear H
        go_upto_region 6 with (first | ((with_reducible refine gate_callee (f := 19) rfl ?_); refine goesL_ (some 28) rfl rfl Try.func19 (by kernel_rfl) rfl #[.slice A0 l0.length c0] rfl (by (try simp only [List.map_toArray, List.map_cons, List.map_nil]); first | done | rfl | (simp only [List.length_drop, List.length_take]; rfl)) ?_; (with_reducible refine (alidadelaw01_own.calls _ _ l0 t485 _ ?side1 ?side2 A9.out).mono ?_); (case side1 => repeat (first | exact (Kd.C_below HR0.out HB.out) | (with_reducible refine Kd.C_alloc ?_ _) | (with_reducible refine Kd.C_drewN ?_ _) | (with_reducible refine Kd.C_drew ?_))); (case side2 => exact HC0.out); rintro e w14 ⟨v486, rfl, ho0, hb⟩; refine ⟨_, rfl, ?_⟩; have n0_ := Aside0.mk (Kd.R_lower ho0 (below_size (by repeat (first | (with_reducible first | exact HB.out | apply below_alloc | apply pw_below_drewN | apply below_drew1) | exact HB.out)))); have n1_ := Aside0.mk (below_step (by repeat (first | (with_reducible first | exact HB.out | apply below_alloc | apply pw_below_drewN | apply below_drew1) | exact HB.out)) hb); clear HB; have HO487 := n0_; have HB := n1_; clear n0_ n1_; (try clear hb); (try clear hb2); (try clear hk); (try clear hi); (try clear ho0)) | ((with_reducible refine gate_callee (f := 19) rfl ?_); refine goesL_ (some 30) rfl rfl Try.func19 (by kernel_rfl) rfl #[.slice A1 l1.length c1] rfl (by (try simp only [List.map_toArray, List.map_cons, List.map_nil]); first | done | rfl | (simp only [List.length_drop, List.length_take]; rfl)) ?_; (with_reducible refine (alidadelaw01_own.calls _ _ l1 t488 _ ?side1 ?side2 A10.out).mono ?_); (case side1 => repeat (first | exact (Kd.C_below HR1.out HB.out) | (with_reducible refine Kd.C_alloc ?_ _) | (with_reducible refine Kd.C_drewN ?_ _) | (with_reducible refine Kd.C_drew ?_))); (case side2 => exact HC1.out); rintro e w15 ⟨v489, rfl, ho0, hb⟩; refine ⟨_, rfl, ?_⟩; have n0_ := Aside0.mk (Kd.R_elder' (by (with_reducible repeat (first | apply Kd.R_alloc | apply Kd.R_drewN | apply Kd.R_drew)); exact HO487.out) (Kd.R_base ho0) hb); have n1_ := Aside0.mk (Kd.R_lower (Kd.R_new' ho0 (Kd.R_lt (by (with_reducible repeat (first | apply Kd.R_alloc | apply Kd.R_drewN | apply Kd.R_drew)); exact HO487.out))) (below_size (by repeat (first | (with_reducible first | exact HB.out | apply below_alloc | apply pw_below_drewN | apply below_drew1) | exact HB.out)))); have n2_ := Aside0.mk (below_step (by repeat (first | (with_reducible first | exact HB.out | apply below_alloc | apply pw_below_drewN | apply below_drew1) | exact HB.out)) hb); clear HO487; clear HB; have HO487 := n0_; have HO490 := n1_; have HB := n2_; clear n0_ n1_ n2_; (try clear hb); (try clear hb2); (try clear hk); (try clear hi); (try clear ho0); obtain ⟨Ao16, co16, eo16⟩ := Kd.R_slice HO487.out; subst eo16) | ((with_reducible refine gate_callee (f := 28) rfl ?_); refine goesL_ (some 33) rfl rfl Try.func28 (by kernel_rfl) rfl #[.slice Ao16 t485.length co16] rfl (by (try simp only [List.map_toArray, List.map_cons, List.map_nil]); first | done | rfl | (simp only [List.length_drop, List.length_take]; rfl)) ?_; (with_reducible refine (nat_Low.calls kj3 _ _ t485 t491 t492 _ ?side1 ?side2 A11.out).mono ?_); (case side1 => repeat (first | exact (Kd.R_reads' HO487.out).2.2 | (with_reducible refine Kd.C_alloc ?_ _) | (with_reducible refine Kd.C_drewN ?_ _) | (with_reducible refine Kd.C_drew ?_))); (case side2 => exact (Kd.R_reads' HO487.out).2.1); rintro e w' ⟨rfl, ⟨nd, rfl⟩⟩; refine ⟨_, rfl, ?_⟩) | ((with_reducible refine gate_callee (f := 29) rfl ?_); refine goesL_ (some 38) rfl rfl Try.func29 (by kernel_rfl) rfl #[.slice A0 l0.length c0] rfl (by (try simp only [List.map_toArray, List.map_cons, List.map_nil]); first | done | rfl | (simp only [List.length_drop, List.length_take]; rfl)) ?_; (with_reducible refine (alidaderef01_Low.calls kj3 _ _ l0 t493 t494 _ ?side1 ?side2 A12.out).mono ?_); (case side1 => repeat (first | exact (Kd.C_below HR0.out (by repeat (first | (with_reducible first | exact HB.out | apply below_alloc | apply pw_below_drewN | apply below_drew1) | exact HB.out))) | (with_reducible refine Kd.C_alloc ?_ _) | (with_reducible refine Kd.C_drewN ?_ _) | (with_reducible refine Kd.C_drew ?_))); (case side2 => exact HC0.out); rintro e w' ⟨rfl, ⟨nd, rfl⟩⟩; refine ⟨_, rfl, ?_⟩))
        (try simp only [Act.put, List.setIfInBounds_toArray, List.set_cons_zero, List.set_cons_succ])
        go_cut [64] (fun v64 wc => ∃ (kq : Nat) (x64_12 : Bool), v64 = .bool x64_12 ∧ Aside0 (alidadelaw01_NatTells.j1 kq l0 l1 a2 t485 t488 x64_12 = some r) ∧ Aside0 (kq ≤ kj3) ∧ Aside0 (Kd.R (Kd.int .u32) 37 wc w.heap.size (fun k_ => some k_ ≠ (v489 : Value).ownBlock) (.slice Ao16 t485.length co16) t485) ∧ Aside0 (Kd.R (Kd.int .u32) 37 wc w.heap.size (fun k_ => some k_ ≠ ((.slice Ao16 t485.length co16) : Value).ownBlock) v489 t488) ∧ Aside0 (Below w.heap.size w wc))
        case first =>
          have H := HC13.out
          clear HC13
          replace H := Option.bind_eq_some_iff.mp H
          obtain ⟨t495, A170, H⟩ := H
          replace H : ((alidaderef01_May.f l0).bind fun t496 => (if t495 = true then (if t496 = true then (if t491 = t493 then (if t492 = true then (if t494 = true then ((nat_Cmp.f t485 t488).bind fun t497 => ((alidaderef01_Cmp.f kj3 l0 l1).bind fun t498 => (alidadelaw01_NatTells.j1 kj3 l0 l1 a2 t485 t488 (t497 != t498)))) else (alidadelaw01_NatTells.j1 kj3 l0 l1 a2 t485 t488 true)) else (if t494 = true then (alidadelaw01_NatTells.j1 kj3 l0 l1 a2 t485 t488 true) else ((nat_Cmp.f t485 t488).bind fun t499 => ((alidaderef01_Cmp.f kj3 l0 l1).bind fun t500 => (alidadelaw01_NatTells.j1 kj3 l0 l1 a2 t485 t488 (t499 != t500)))))) else (alidadelaw01_NatTells.j1 kj3 l0 l1 a2 t485 t488 true)) else (alidadelaw01_NatTells.j1 kj3 l0 l1 a2 t485 t488 true)) else (if t496 = true then (alidadelaw01_NatTells.j1 kj3 l0 l1 a2 t485 t488 true) else (if t491 = t493 then (if t492 = true then (if t494 = true then ((nat_Cmp.f t485 t488).bind fun t501 => ((alidaderef01_Cmp.f kj3 l0 l1).bind fun t502 => (alidadelaw01_NatTells.j1 kj3 l0 l1 a2 t485 t488 (t501 != t502)))) else (alidadelaw01_NatTells.j1 kj3 l0 l1 a2 t485 t488 true)) else (if t494 = true then (alidadelaw01_NatTells.j1 kj3 l0 l1 a2 t485 t488 true) else ((nat_Cmp.f t485 t488).bind fun t503 => ((alidaderef01_Cmp.f kj3 l0 l1).bind fun t504 => (alidadelaw01_NatTells.j1 kj3 l0 l1 a2 t485 t488 (t503 != t504)))))) else (alidadelaw01_NatTells.j1 kj3 l0 l1 a2 t485 t488 true))))) = some r := H
          have A17 := Aside0.mk A170
          clear A170
          replace H := Option.bind_eq_some_iff.mp H
          obtain ⟨t496, A180, H⟩ := H
          replace H : (if t495 = true then (if t496 = true then (if t491 = t493 then (if t492 = true then (if t494 = true then ((nat_Cmp.f t485 t488).bind fun t497 => ((alidaderef01_Cmp.f kj3 l0 l1).bind fun t498 => (alidadelaw01_NatTells.j1 kj3 l0 l1 a2 t485 t488 (t497 != t498)))) else (alidadelaw01_NatTells.j1 kj3 l0 l1 a2 t485 t488 true)) else (if t494 = true then (alidadelaw01_NatTells.j1 kj3 l0 l1 a2 t485 t488 true) else ((nat_Cmp.f t485 t488).bind fun t499 => ((alidaderef01_Cmp.f kj3 l0 l1).bind fun t500 => (alidadelaw01_NatTells.j1 kj3 l0 l1 a2 t485 t488 (t499 != t500)))))) else (alidadelaw01_NatTells.j1 kj3 l0 l1 a2 t485 t488 true)) else (alidadelaw01_NatTells.j1 kj3 l0 l1 a2 t485 t488 true)) else (if t496 = true then (alidadelaw01_NatTells.j1 kj3 l0 l1 a2 t485 t488 true) else (if t491 = t493 then (if t492 = true then (if t494 = true then ((nat_Cmp.f t485 t488).bind fun t501 => ((alidaderef01_Cmp.f kj3 l0 l1).bind fun t502 => (alidadelaw01_NatTells.j1 kj3 l0 l1 a2 t485 t488 (t501 != t502)))) else (alidadelaw01_NatTells.j1 kj3 l0 l1 a2 t485 t488 true)) else (if t494 = true then (alidadelaw01_NatTells.j1 kj3 l0 l1 a2 t485 t488 true) else ((nat_Cmp.f t485 t488).bind fun t503 => ((alidaderef01_Cmp.f kj3 l0 l1).bind fun t504 => (alidadelaw01_NatTells.j1 kj3 l0 l1 a2 t485 t488 (t503 != t504)))))) else (alidadelaw01_NatTells.j1 kj3 l0 l1 a2 t485 t488 true)))) = some r := H
          have A18 := Aside0.mk A180
          clear A180
          by_cases c19 : t495 = true
          · subst c19
            have H1 : (if t496 = true then (if t491 = t493 then (if t492 = true then (if t494 = true then ((nat_Cmp.f t485 t488).bind fun t497 => ((alidaderef01_Cmp.f kj3 l0 l1).bind fun t498 => (alidadelaw01_NatTells.j1 kj3 l0 l1 a2 t485 t488 (t497 != t498)))) else (alidadelaw01_NatTells.j1 kj3 l0 l1 a2 t485 t488 true)) else (if t494 = true then (alidadelaw01_NatTells.j1 kj3 l0 l1 a2 t485 t488 true) else ((nat_Cmp.f t485 t488).bind fun t499 => ((alidaderef01_Cmp.f kj3 l0 l1).bind fun t500 => (alidadelaw01_NatTells.j1 kj3 l0 l1 a2 t485 t488 (t499 != t500)))))) else (alidadelaw01_NatTells.j1 kj3 l0 l1 a2 t485 t488 true)) else (alidadelaw01_NatTells.j1 kj3 l0 l1 a2 t485 t488 true)) = some r := by rw [if_pos rfl] at H; exact H
            clear H
            have H := H1
            clear H1
            by_cases c20 : t496 = true
            · subst c20
              have H1 : (if t491 = t493 then (if t492 = true then (if t494 = true then ((nat_Cmp.f t485 t488).bind fun t497 => ((alidaderef01_Cmp.f kj3 l0 l1).bind fun t498 => (alidadelaw01_NatTells.j1 kj3 l0 l1 a2 t485 t488 (t497 != t498)))) else (alidadelaw01_NatTells.j1 kj3 l0 l1 a2 t485 t488 true)) else (if t494 = true then (alidadelaw01_NatTells.j1 kj3 l0 l1 a2 t485 t488 true) else ((nat_Cmp.f t485 t488).bind fun t499 => ((alidaderef01_Cmp.f kj3 l0 l1).bind fun t500 => (alidadelaw01_NatTells.j1 kj3 l0 l1 a2 t485 t488 (t499 != t500)))))) else (alidadelaw01_NatTells.j1 kj3 l0 l1 a2 t485 t488 true)) = some r := by rw [if_pos rfl] at H; exact H
              clear H
              have H := H1
              clear H1
              by_cases c21 : t491 = t493
              · rw [if_pos c21] at H
                have c21b0 : (t491 == t493) = true := beq_iff_eq.mpr c21
                have c21b1 : (t491 != t493) = false := bne_eq_false_iff_eq.mpr c21
                clear c21
                (first | rw [c21b0] | (simp only [i64_w, i32_w]; rw [c21b0]) | skip)
                by_cases c22 : t492 = true
                · subst c22
                  have H1 : (if t494 = true then ((nat_Cmp.f t485 t488).bind fun t497 => ((alidaderef01_Cmp.f kj3 l0 l1).bind fun t498 => (alidadelaw01_NatTells.j1 kj3 l0 l1 a2 t485 t488 (t497 != t498)))) else (alidadelaw01_NatTells.j1 kj3 l0 l1 a2 t485 t488 true)) = some r := by rw [if_pos rfl] at H; exact H
                  clear H
                  have H := H1
                  clear H1
                  by_cases c23 : t494 = true
                  · subst c23
                    have H1 : ((nat_Cmp.f t485 t488).bind fun t497 => ((alidaderef01_Cmp.f kj3 l0 l1).bind fun t498 => (alidadelaw01_NatTells.j1 kj3 l0 l1 a2 t485 t488 (t497 != t498)))) = some r := by rw [if_pos rfl] at H; exact H
                    clear H
                    have H := H1
                    clear H1
                    replace H := Option.bind_eq_some_iff.mp H
                    obtain ⟨t497, A240, H⟩ := H
                    replace H : ((alidaderef01_Cmp.f kj3 l0 l1).bind fun t498 => (alidadelaw01_NatTells.j1 kj3 l0 l1 a2 t485 t488 (t497 != t498))) = some r := H
                    have A24 := Aside0.mk A240
                    clear A240
                    replace H := Option.bind_eq_some_iff.mp H
                    obtain ⟨t498, A250, H⟩ := H
                    replace H : (alidadelaw01_NatTells.j1 kj3 l0 l1 a2 t485 t488 (t497 != t498)) = some r := H
                    have A25 := Aside0.mk A250
                    clear A250
                    have H' := Aside0.mk H
                    clear H
                    go_wp2_with (first | ((with_reducible refine gate_callee (f := 11) rfl ?_); refine goesL_ (some 42) rfl rfl Try.func11 (by kernel_rfl) rfl #[.slice Ao16 t485.length co16] rfl (by (try simp only [List.map_toArray, List.map_cons, List.map_nil]); first | done | rfl | (simp only [List.length_drop, List.length_take]; rfl)) ?_; (with_reducible refine (nat_May.calls _ _ t485 true _ ?side1 ?side2 A17.out).mono ?_); (case side1 => repeat (first | exact (Kd.R_reads' HO487.out).2.2 | (with_reducible refine Kd.C_alloc ?_ _) | (with_reducible refine Kd.C_drewN ?_ _) | (with_reducible refine Kd.C_drew ?_))); (case side2 => exact (Kd.R_reads' HO487.out).2.1); rintro e w' ⟨rfl, ⟨nd, rfl⟩⟩; refine ⟨_, rfl, ?_⟩) | ((with_reducible refine gate_callee (f := 30) rfl ?_); refine goesL_ (some 44) rfl rfl Try.func30 (by kernel_rfl) rfl #[.slice A0 l0.length c0] rfl (by (try simp only [List.map_toArray, List.map_cons, List.map_nil]); first | done | rfl | (simp only [List.length_drop, List.length_take]; rfl)) ?_; (with_reducible refine (alidaderef01_May.calls _ _ l0 true _ ?side1 ?side2 A18.out).mono ?_); (case side1 => repeat (first | exact (Kd.C_below HR0.out (by repeat (first | (with_reducible first | exact HB.out | apply below_alloc | apply pw_below_drewN | apply below_drew1) | exact HB.out))) | (with_reducible refine Kd.C_alloc ?_ _) | (with_reducible refine Kd.C_drewN ?_ _) | (with_reducible refine Kd.C_drew ?_))); (case side2 => exact HC0.out); rintro e w' ⟨rfl, ⟨nd, rfl⟩⟩; refine ⟨_, rfl, ?_⟩; obtain ⟨Ao26, co26, eo26⟩ := Kd.R_slice HO490.out; subst eo26) | (go_at_call 15; (with_reducible refine (nat_Cmp.calls _ _ t485 _ _ t488 t497 _ ?side1 ?side2 ?side3 ?side4 A24.out).mono ?_); (case side1 => repeat (first | exact (Kd.R_reads' HO487.out).2.2 | (with_reducible refine Kd.C_alloc ?_ _) | (with_reducible refine Kd.C_drewN ?_ _) | (with_reducible refine Kd.C_drew ?_))); (case side2 => exact (Kd.R_reads' HO487.out).2.1); (case side3 => repeat (first | exact (Kd.R_reads' HO490.out).2.2 | (with_reducible refine Kd.C_alloc ?_ _) | (with_reducible refine Kd.C_drewN ?_ _) | (with_reducible refine Kd.C_drew ?_))); (case side4 => exact (Kd.R_reads' HO490.out).2.1); rintro e w27 ⟨rfl, hb⟩; have n0_ := Aside0.mk (Kd.R_below (by (with_reducible repeat (first | apply Kd.R_alloc | apply Kd.R_drewN | apply Kd.R_drew)); exact HO487.out) hb); have n1_ := Aside0.mk (Kd.R_below (by (with_reducible repeat (first | apply Kd.R_alloc | apply Kd.R_drewN | apply Kd.R_drew)); exact HO490.out) hb); have n2_ := Aside0.mk (below_step (by repeat (first | (with_reducible first | exact HB.out | apply below_alloc | apply pw_below_drewN | apply below_drew1) | exact HB.out)) hb); clear HO487; clear HO490; clear HB; have HO487 := n0_; have HO490 := n1_; have HB := n2_; clear n0_ n1_ n2_; (try clear hb); (try clear hb2); (try clear hk); (try clear hi)) | (go_at_call 31; (with_reducible refine (alidaderef01_Cmp.calls kj3 _ _ l0 _ _ l1 t498 _ ?side1 ?side2 ?side3 ?side4 A25.out).mono ?_); (case side1 => repeat (first | exact (Kd.C_below HR0.out HB.out) | (with_reducible refine Kd.C_alloc ?_ _) | (with_reducible refine Kd.C_drewN ?_ _) | (with_reducible refine Kd.C_drew ?_))); (case side2 => exact HC0.out); (case side3 => repeat (first | exact (Kd.C_below HR1.out HB.out) | (with_reducible refine Kd.C_alloc ?_ _) | (with_reducible refine Kd.C_drewN ?_ _) | (with_reducible refine Kd.C_drew ?_))); (case side4 => exact HC1.out); rintro e w' ⟨rfl, ⟨nd, rfl⟩⟩))
                    go_meet
                    case rel => exact ⟨_, ((t497 != t498)), (by first | rfl | (simp; done) | (simp [*]; done)), H', ⟨by have := HJ3.out; first | omega | exact Nat.le_refl _⟩, ⟨by (with_reducible repeat (first | apply Kd.R_alloc | apply Kd.R_drewN | apply Kd.R_drew)); exact Kd.R_mono HO487.out (fun _ hk => hk.2)⟩, ⟨by (with_reducible repeat (first | apply Kd.R_alloc | apply Kd.R_drewN | apply Kd.R_drew)); exact Kd.R_mono HO490.out (fun _ hk => hk.2)⟩, ⟨by repeat (first | (with_reducible first | exact HB.out | apply below_alloc | apply pw_below_drewN | apply below_drew1) | exact HB.out)⟩⟩
                  · replace c23 := Bool.eq_false_iff.mpr c23
                    subst c23
                    have H1 : (alidadelaw01_NatTells.j1 kj3 l0 l1 a2 t485 t488 true) = some r := by rw [if_neg (show ¬ (false = true) by decide)] at H; exact H
                    clear H
                    have H := H1
                    clear H1
                    have H' := Aside0.mk H
                    clear H
                    go_wp2_with (first | ((with_reducible refine gate_callee (f := 11) rfl ?_); refine goesL_ (some 42) rfl rfl Try.func11 (by kernel_rfl) rfl #[.slice Ao16 t485.length co16] rfl (by (try simp only [List.map_toArray, List.map_cons, List.map_nil]); first | done | rfl | (simp only [List.length_drop, List.length_take]; rfl)) ?_; (with_reducible refine (nat_May.calls _ _ t485 true _ ?side1 ?side2 A17.out).mono ?_); (case side1 => repeat (first | exact (Kd.R_reads' HO487.out).2.2 | (with_reducible refine Kd.C_alloc ?_ _) | (with_reducible refine Kd.C_drewN ?_ _) | (with_reducible refine Kd.C_drew ?_))); (case side2 => exact (Kd.R_reads' HO487.out).2.1); rintro e w' ⟨rfl, ⟨nd, rfl⟩⟩; refine ⟨_, rfl, ?_⟩) | ((with_reducible refine gate_callee (f := 30) rfl ?_); refine goesL_ (some 44) rfl rfl Try.func30 (by kernel_rfl) rfl #[.slice A0 l0.length c0] rfl (by (try simp only [List.map_toArray, List.map_cons, List.map_nil]); first | done | rfl | (simp only [List.length_drop, List.length_take]; rfl)) ?_; (with_reducible refine (alidaderef01_May.calls _ _ l0 true _ ?side1 ?side2 A18.out).mono ?_); (case side1 => repeat (first | exact (Kd.C_below HR0.out (by repeat (first | (with_reducible first | exact HB.out | apply below_alloc | apply pw_below_drewN | apply below_drew1) | exact HB.out))) | (with_reducible refine Kd.C_alloc ?_ _) | (with_reducible refine Kd.C_drewN ?_ _) | (with_reducible refine Kd.C_drew ?_))); (case side2 => exact HC0.out); rintro e w' ⟨rfl, ⟨nd, rfl⟩⟩; refine ⟨_, rfl, ?_⟩))
                    go_meet
                    case rel => exact ⟨_, (true), (by first | rfl | (simp; done) | (simp [*]; done)), H', ⟨by have := HJ3.out; first | omega | exact Nat.le_refl _⟩, ⟨by (with_reducible repeat (first | apply Kd.R_alloc | apply Kd.R_drewN | apply Kd.R_drew)); exact Kd.R_mono HO487.out (fun _ hk => hk.2)⟩, ⟨by (with_reducible repeat (first | apply Kd.R_alloc | apply Kd.R_drewN | apply Kd.R_drew)); exact Kd.R_mono HO490.out (fun _ hk => hk.2)⟩, ⟨by repeat (first | (with_reducible first | exact HB.out | apply below_alloc | apply pw_below_drewN | apply below_drew1) | exact HB.out)⟩⟩
                · replace c22 := Bool.eq_false_iff.mpr c22
                  subst c22
                  have H1 : (if t494 = true then (alidadelaw01_NatTells.j1 kj3 l0 l1 a2 t485 t488 true) else ((nat_Cmp.f t485 t488).bind fun t499 => ((alidaderef01_Cmp.f kj3 l0 l1).bind fun t500 => (alidadelaw01_NatTells.j1 kj3 l0 l1 a2 t485 t488 (t499 != t500))))) = some r := by rw [if_neg (show ¬ (false = true) by decide)] at H; exact H
                  clear H
                  have H := H1
                  clear H1
                  by_cases c28 : t494 = true
                  · subst c28
                    have H1 : (alidadelaw01_NatTells.j1 kj3 l0 l1 a2 t485 t488 true) = some r := by rw [if_pos rfl] at H; exact H
                    clear H
                    have H := H1
                    clear H1
                    have H' := Aside0.mk H
                    clear H
                    go_wp2_with (first | ((with_reducible refine gate_callee (f := 11) rfl ?_); refine goesL_ (some 42) rfl rfl Try.func11 (by kernel_rfl) rfl #[.slice Ao16 t485.length co16] rfl (by (try simp only [List.map_toArray, List.map_cons, List.map_nil]); first | done | rfl | (simp only [List.length_drop, List.length_take]; rfl)) ?_; (with_reducible refine (nat_May.calls _ _ t485 true _ ?side1 ?side2 A17.out).mono ?_); (case side1 => repeat (first | exact (Kd.R_reads' HO487.out).2.2 | (with_reducible refine Kd.C_alloc ?_ _) | (with_reducible refine Kd.C_drewN ?_ _) | (with_reducible refine Kd.C_drew ?_))); (case side2 => exact (Kd.R_reads' HO487.out).2.1); rintro e w' ⟨rfl, ⟨nd, rfl⟩⟩; refine ⟨_, rfl, ?_⟩) | ((with_reducible refine gate_callee (f := 30) rfl ?_); refine goesL_ (some 44) rfl rfl Try.func30 (by kernel_rfl) rfl #[.slice A0 l0.length c0] rfl (by (try simp only [List.map_toArray, List.map_cons, List.map_nil]); first | done | rfl | (simp only [List.length_drop, List.length_take]; rfl)) ?_; (with_reducible refine (alidaderef01_May.calls _ _ l0 true _ ?side1 ?side2 A18.out).mono ?_); (case side1 => repeat (first | exact (Kd.C_below HR0.out (by repeat (first | (with_reducible first | exact HB.out | apply below_alloc | apply pw_below_drewN | apply below_drew1) | exact HB.out))) | (with_reducible refine Kd.C_alloc ?_ _) | (with_reducible refine Kd.C_drewN ?_ _) | (with_reducible refine Kd.C_drew ?_))); (case side2 => exact HC0.out); rintro e w' ⟨rfl, ⟨nd, rfl⟩⟩; refine ⟨_, rfl, ?_⟩))
                    go_meet
                    case rel => exact ⟨_, (true), (by first | rfl | (simp; done) | (simp [*]; done)), H', ⟨by have := HJ3.out; first | omega | exact Nat.le_refl _⟩, ⟨by (with_reducible repeat (first | apply Kd.R_alloc | apply Kd.R_drewN | apply Kd.R_drew)); exact Kd.R_mono HO487.out (fun _ hk => hk.2)⟩, ⟨by (with_reducible repeat (first | apply Kd.R_alloc | apply Kd.R_drewN | apply Kd.R_drew)); exact Kd.R_mono HO490.out (fun _ hk => hk.2)⟩, ⟨by repeat (first | (with_reducible first | exact HB.out | apply below_alloc | apply pw_below_drewN | apply below_drew1) | exact HB.out)⟩⟩
                  · replace c28 := Bool.eq_false_iff.mpr c28
                    subst c28
                    have H1 : ((nat_Cmp.f t485 t488).bind fun t499 => ((alidaderef01_Cmp.f kj3 l0 l1).bind fun t500 => (alidadelaw01_NatTells.j1 kj3 l0 l1 a2 t485 t488 (t499 != t500)))) = some r := by rw [if_neg (show ¬ (false = true) by decide)] at H; exact H
                    clear H
                    have H := H1
                    clear H1
                    replace H := Option.bind_eq_some_iff.mp H
                    obtain ⟨t499, A290, H⟩ := H
                    replace H : ((alidaderef01_Cmp.f kj3 l0 l1).bind fun t500 => (alidadelaw01_NatTells.j1 kj3 l0 l1 a2 t485 t488 (t499 != t500))) = some r := H
                    have A29 := Aside0.mk A290
                    clear A290
                    replace H := Option.bind_eq_some_iff.mp H
                    obtain ⟨t500, A300, H⟩ := H
                    replace H : (alidadelaw01_NatTells.j1 kj3 l0 l1 a2 t485 t488 (t499 != t500)) = some r := H
                    have A30 := Aside0.mk A300
                    clear A300
                    have H' := Aside0.mk H
                    clear H
                    go_wp2_with (first | ((with_reducible refine gate_callee (f := 11) rfl ?_); refine goesL_ (some 42) rfl rfl Try.func11 (by kernel_rfl) rfl #[.slice Ao16 t485.length co16] rfl (by (try simp only [List.map_toArray, List.map_cons, List.map_nil]); first | done | rfl | (simp only [List.length_drop, List.length_take]; rfl)) ?_; (with_reducible refine (nat_May.calls _ _ t485 true _ ?side1 ?side2 A17.out).mono ?_); (case side1 => repeat (first | exact (Kd.R_reads' HO487.out).2.2 | (with_reducible refine Kd.C_alloc ?_ _) | (with_reducible refine Kd.C_drewN ?_ _) | (with_reducible refine Kd.C_drew ?_))); (case side2 => exact (Kd.R_reads' HO487.out).2.1); rintro e w' ⟨rfl, ⟨nd, rfl⟩⟩; refine ⟨_, rfl, ?_⟩) | ((with_reducible refine gate_callee (f := 30) rfl ?_); refine goesL_ (some 44) rfl rfl Try.func30 (by kernel_rfl) rfl #[.slice A0 l0.length c0] rfl (by (try simp only [List.map_toArray, List.map_cons, List.map_nil]); first | done | rfl | (simp only [List.length_drop, List.length_take]; rfl)) ?_; (with_reducible refine (alidaderef01_May.calls _ _ l0 true _ ?side1 ?side2 A18.out).mono ?_); (case side1 => repeat (first | exact (Kd.C_below HR0.out (by repeat (first | (with_reducible first | exact HB.out | apply below_alloc | apply pw_below_drewN | apply below_drew1) | exact HB.out))) | (with_reducible refine Kd.C_alloc ?_ _) | (with_reducible refine Kd.C_drewN ?_ _) | (with_reducible refine Kd.C_drew ?_))); (case side2 => exact HC0.out); rintro e w' ⟨rfl, ⟨nd, rfl⟩⟩; refine ⟨_, rfl, ?_⟩; obtain ⟨Ao31, co31, eo31⟩ := Kd.R_slice HO490.out; subst eo31) | (go_at_call 15; (with_reducible refine (nat_Cmp.calls _ _ t485 _ _ t488 t499 _ ?side1 ?side2 ?side3 ?side4 A29.out).mono ?_); (case side1 => repeat (first | exact (Kd.R_reads' HO487.out).2.2 | (with_reducible refine Kd.C_alloc ?_ _) | (with_reducible refine Kd.C_drewN ?_ _) | (with_reducible refine Kd.C_drew ?_))); (case side2 => exact (Kd.R_reads' HO487.out).2.1); (case side3 => repeat (first | exact (Kd.R_reads' HO490.out).2.2 | (with_reducible refine Kd.C_alloc ?_ _) | (with_reducible refine Kd.C_drewN ?_ _) | (with_reducible refine Kd.C_drew ?_))); (case side4 => exact (Kd.R_reads' HO490.out).2.1); rintro e w32 ⟨rfl, hb⟩; have n0_ := Aside0.mk (Kd.R_below (by (with_reducible repeat (first | apply Kd.R_alloc | apply Kd.R_drewN | apply Kd.R_drew)); exact HO487.out) hb); have n1_ := Aside0.mk (Kd.R_below (by (with_reducible repeat (first | apply Kd.R_alloc | apply Kd.R_drewN | apply Kd.R_drew)); exact HO490.out) hb); have n2_ := Aside0.mk (below_step (by repeat (first | (with_reducible first | exact HB.out | apply below_alloc | apply pw_below_drewN | apply below_drew1) | exact HB.out)) hb); clear HO487; clear HO490; clear HB; have HO487 := n0_; have HO490 := n1_; have HB := n2_; clear n0_ n1_ n2_; (try clear hb); (try clear hb2); (try clear hk); (try clear hi)) | (go_at_call 31; (with_reducible refine (alidaderef01_Cmp.calls kj3 _ _ l0 _ _ l1 t500 _ ?side1 ?side2 ?side3 ?side4 A30.out).mono ?_); (case side1 => repeat (first | exact (Kd.C_below HR0.out HB.out) | (with_reducible refine Kd.C_alloc ?_ _) | (with_reducible refine Kd.C_drewN ?_ _) | (with_reducible refine Kd.C_drew ?_))); (case side2 => exact HC0.out); (case side3 => repeat (first | exact (Kd.C_below HR1.out HB.out) | (with_reducible refine Kd.C_alloc ?_ _) | (with_reducible refine Kd.C_drewN ?_ _) | (with_reducible refine Kd.C_drew ?_))); (case side4 => exact HC1.out); rintro e w' ⟨rfl, ⟨nd, rfl⟩⟩))
                    go_meet
                    case rel => exact ⟨_, ((t499 != t500)), (by first | rfl | (simp; done) | (simp [*]; done)), H', ⟨by have := HJ3.out; first | omega | exact Nat.le_refl _⟩, ⟨by (with_reducible repeat (first | apply Kd.R_alloc | apply Kd.R_drewN | apply Kd.R_drew)); exact Kd.R_mono HO487.out (fun _ hk => hk.2)⟩, ⟨by (with_reducible repeat (first | apply Kd.R_alloc | apply Kd.R_drewN | apply Kd.R_drew)); exact Kd.R_mono HO490.out (fun _ hk => hk.2)⟩, ⟨by repeat (first | (with_reducible first | exact HB.out | apply below_alloc | apply pw_below_drewN | apply below_drew1) | exact HB.out)⟩⟩
              · rw [if_neg c21] at H
                have c21b0 : (t491 == t493) = false := beq_eq_false_iff_ne.mpr c21
                have c21b1 : (t491 != t493) = true := bne_iff_ne.mpr c21
                (first | rw [c21b0] | (simp only [i64_w, i32_w]; rw [c21b0]) | skip)
                have H' := Aside0.mk H
                clear H
                go_wp2_with (first | ((with_reducible refine gate_callee (f := 11) rfl ?_); refine goesL_ (some 42) rfl rfl Try.func11 (by kernel_rfl) rfl #[.slice Ao16 t485.length co16] rfl (by (try simp only [List.map_toArray, List.map_cons, List.map_nil]); first | done | rfl | (simp only [List.length_drop, List.length_take]; rfl)) ?_; (with_reducible refine (nat_May.calls _ _ t485 true _ ?side1 ?side2 A17.out).mono ?_); (case side1 => repeat (first | exact (Kd.R_reads' HO487.out).2.2 | (with_reducible refine Kd.C_alloc ?_ _) | (with_reducible refine Kd.C_drewN ?_ _) | (with_reducible refine Kd.C_drew ?_))); (case side2 => exact (Kd.R_reads' HO487.out).2.1); rintro e w' ⟨rfl, ⟨nd, rfl⟩⟩; refine ⟨_, rfl, ?_⟩) | ((with_reducible refine gate_callee (f := 30) rfl ?_); refine goesL_ (some 44) rfl rfl Try.func30 (by kernel_rfl) rfl #[.slice A0 l0.length c0] rfl (by (try simp only [List.map_toArray, List.map_cons, List.map_nil]); first | done | rfl | (simp only [List.length_drop, List.length_take]; rfl)) ?_; (with_reducible refine (alidaderef01_May.calls _ _ l0 true _ ?side1 ?side2 A18.out).mono ?_); (case side1 => repeat (first | exact (Kd.C_below HR0.out (by repeat (first | (with_reducible first | exact HB.out | apply below_alloc | apply pw_below_drewN | apply below_drew1) | exact HB.out))) | (with_reducible refine Kd.C_alloc ?_ _) | (with_reducible refine Kd.C_drewN ?_ _) | (with_reducible refine Kd.C_drew ?_))); (case side2 => exact HC0.out); rintro e w' ⟨rfl, ⟨nd, rfl⟩⟩; refine ⟨_, rfl, ?_⟩))
                go_meet
                case rel => exact ⟨_, (true), (by first | rfl | (simp; done) | (simp [*]; done)), H', ⟨by have := HJ3.out; first | omega | exact Nat.le_refl _⟩, ⟨by (with_reducible repeat (first | apply Kd.R_alloc | apply Kd.R_drewN | apply Kd.R_drew)); exact Kd.R_mono HO487.out (fun _ hk => hk.2)⟩, ⟨by (with_reducible repeat (first | apply Kd.R_alloc | apply Kd.R_drewN | apply Kd.R_drew)); exact Kd.R_mono HO490.out (fun _ hk => hk.2)⟩, ⟨by repeat (first | (with_reducible first | exact HB.out | apply below_alloc | apply pw_below_drewN | apply below_drew1) | exact HB.out)⟩⟩
            · replace c20 := Bool.eq_false_iff.mpr c20
              subst c20
              have H1 : (alidadelaw01_NatTells.j1 kj3 l0 l1 a2 t485 t488 true) = some r := by rw [if_neg (show ¬ (false = true) by decide)] at H; exact H
              clear H
              have H := H1
              clear H1
              have H' := Aside0.mk H
              clear H
              go_wp2_with (first | ((with_reducible refine gate_callee (f := 11) rfl ?_); refine goesL_ (some 42) rfl rfl Try.func11 (by kernel_rfl) rfl #[.slice Ao16 t485.length co16] rfl (by (try simp only [List.map_toArray, List.map_cons, List.map_nil]); first | done | rfl | (simp only [List.length_drop, List.length_take]; rfl)) ?_; (with_reducible refine (nat_May.calls _ _ t485 true _ ?side1 ?side2 A17.out).mono ?_); (case side1 => repeat (first | exact (Kd.R_reads' HO487.out).2.2 | (with_reducible refine Kd.C_alloc ?_ _) | (with_reducible refine Kd.C_drewN ?_ _) | (with_reducible refine Kd.C_drew ?_))); (case side2 => exact (Kd.R_reads' HO487.out).2.1); rintro e w' ⟨rfl, ⟨nd, rfl⟩⟩; refine ⟨_, rfl, ?_⟩) | ((with_reducible refine gate_callee (f := 30) rfl ?_); refine goesL_ (some 44) rfl rfl Try.func30 (by kernel_rfl) rfl #[.slice A0 l0.length c0] rfl (by (try simp only [List.map_toArray, List.map_cons, List.map_nil]); first | done | rfl | (simp only [List.length_drop, List.length_take]; rfl)) ?_; (with_reducible refine (alidaderef01_May.calls _ _ l0 false _ ?side1 ?side2 A18.out).mono ?_); (case side1 => repeat (first | exact (Kd.C_below HR0.out (by repeat (first | (with_reducible first | exact HB.out | apply below_alloc | apply pw_below_drewN | apply below_drew1) | exact HB.out))) | (with_reducible refine Kd.C_alloc ?_ _) | (with_reducible refine Kd.C_drewN ?_ _) | (with_reducible refine Kd.C_drew ?_))); (case side2 => exact HC0.out); rintro e w' ⟨rfl, ⟨nd, rfl⟩⟩; refine ⟨_, rfl, ?_⟩))
              go_meet
              case rel => exact ⟨_, (true), (by first | rfl | (simp; done) | (simp [*]; done)), H', ⟨by have := HJ3.out; first | omega | exact Nat.le_refl _⟩, ⟨by (with_reducible repeat (first | apply Kd.R_alloc | apply Kd.R_drewN | apply Kd.R_drew)); exact Kd.R_mono HO487.out (fun _ hk => hk.2)⟩, ⟨by (with_reducible repeat (first | apply Kd.R_alloc | apply Kd.R_drewN | apply Kd.R_drew)); exact Kd.R_mono HO490.out (fun _ hk => hk.2)⟩, ⟨by repeat (first | (with_reducible first | exact HB.out | apply below_alloc | apply pw_below_drewN | apply below_drew1) | exact HB.out)⟩⟩
          · replace c19 := Bool.eq_false_iff.mpr c19
            subst c19
            have H1 : (if t496 = true then (alidadelaw01_NatTells.j1 kj3 l0 l1 a2 t485 t488 true) else (if t491 = t493 then (if t492 = true then (if t494 = true then ((nat_Cmp.f t485 t488).bind fun t501 => ((alidaderef01_Cmp.f kj3 l0 l1).bind fun t502 => (alidadelaw01_NatTells.j1 kj3 l0 l1 a2 t485 t488 (t501 != t502)))) else (alidadelaw01_NatTells.j1 kj3 l0 l1 a2 t485 t488 true)) else (if t494 = true then (alidadelaw01_NatTells.j1 kj3 l0 l1 a2 t485 t488 true) else ((nat_Cmp.f t485 t488).bind fun t503 => ((alidaderef01_Cmp.f kj3 l0 l1).bind fun t504 => (alidadelaw01_NatTells.j1 kj3 l0 l1 a2 t485 t488 (t503 != t504)))))) else (alidadelaw01_NatTells.j1 kj3 l0 l1 a2 t485 t488 true))) = some r := by rw [if_neg (show ¬ (false = true) by decide)] at H; exact H
            clear H
            have H := H1
            clear H1
            by_cases c33 : t496 = true
            · subst c33
              have H1 : (alidadelaw01_NatTells.j1 kj3 l0 l1 a2 t485 t488 true) = some r := by rw [if_pos rfl] at H; exact H
              clear H
              have H := H1
              clear H1
              have H' := Aside0.mk H
              clear H
              go_wp2_with (first | ((with_reducible refine gate_callee (f := 11) rfl ?_); refine goesL_ (some 42) rfl rfl Try.func11 (by kernel_rfl) rfl #[.slice Ao16 t485.length co16] rfl (by (try simp only [List.map_toArray, List.map_cons, List.map_nil]); first | done | rfl | (simp only [List.length_drop, List.length_take]; rfl)) ?_; (with_reducible refine (nat_May.calls _ _ t485 false _ ?side1 ?side2 A17.out).mono ?_); (case side1 => repeat (first | exact (Kd.R_reads' HO487.out).2.2 | (with_reducible refine Kd.C_alloc ?_ _) | (with_reducible refine Kd.C_drewN ?_ _) | (with_reducible refine Kd.C_drew ?_))); (case side2 => exact (Kd.R_reads' HO487.out).2.1); rintro e w' ⟨rfl, ⟨nd, rfl⟩⟩; refine ⟨_, rfl, ?_⟩) | ((with_reducible refine gate_callee (f := 30) rfl ?_); refine goesL_ (some 44) rfl rfl Try.func30 (by kernel_rfl) rfl #[.slice A0 l0.length c0] rfl (by (try simp only [List.map_toArray, List.map_cons, List.map_nil]); first | done | rfl | (simp only [List.length_drop, List.length_take]; rfl)) ?_; (with_reducible refine (alidaderef01_May.calls _ _ l0 true _ ?side1 ?side2 A18.out).mono ?_); (case side1 => repeat (first | exact (Kd.C_below HR0.out (by repeat (first | (with_reducible first | exact HB.out | apply below_alloc | apply pw_below_drewN | apply below_drew1) | exact HB.out))) | (with_reducible refine Kd.C_alloc ?_ _) | (with_reducible refine Kd.C_drewN ?_ _) | (with_reducible refine Kd.C_drew ?_))); (case side2 => exact HC0.out); rintro e w' ⟨rfl, ⟨nd, rfl⟩⟩; refine ⟨_, rfl, ?_⟩))
              go_meet
              case rel => exact ⟨_, (true), (by first | rfl | (simp; done) | (simp [*]; done)), H', ⟨by have := HJ3.out; first | omega | exact Nat.le_refl _⟩, ⟨by (with_reducible repeat (first | apply Kd.R_alloc | apply Kd.R_drewN | apply Kd.R_drew)); exact Kd.R_mono HO487.out (fun _ hk => hk.2)⟩, ⟨by (with_reducible repeat (first | apply Kd.R_alloc | apply Kd.R_drewN | apply Kd.R_drew)); exact Kd.R_mono HO490.out (fun _ hk => hk.2)⟩, ⟨by repeat (first | (with_reducible first | exact HB.out | apply below_alloc | apply pw_below_drewN | apply below_drew1) | exact HB.out)⟩⟩
            · replace c33 := Bool.eq_false_iff.mpr c33
              subst c33
              have H1 : (if t491 = t493 then (if t492 = true then (if t494 = true then ((nat_Cmp.f t485 t488).bind fun t501 => ((alidaderef01_Cmp.f kj3 l0 l1).bind fun t502 => (alidadelaw01_NatTells.j1 kj3 l0 l1 a2 t485 t488 (t501 != t502)))) else (alidadelaw01_NatTells.j1 kj3 l0 l1 a2 t485 t488 true)) else (if t494 = true then (alidadelaw01_NatTells.j1 kj3 l0 l1 a2 t485 t488 true) else ((nat_Cmp.f t485 t488).bind fun t503 => ((alidaderef01_Cmp.f kj3 l0 l1).bind fun t504 => (alidadelaw01_NatTells.j1 kj3 l0 l1 a2 t485 t488 (t503 != t504)))))) else (alidadelaw01_NatTells.j1 kj3 l0 l1 a2 t485 t488 true)) = some r := by rw [if_neg (show ¬ (false = true) by decide)] at H; exact H
              clear H
              have H := H1
              clear H1
              by_cases c34 : t491 = t493
              · rw [if_pos c34] at H
                have c34b0 : (t491 == t493) = true := beq_iff_eq.mpr c34
                have c34b1 : (t491 != t493) = false := bne_eq_false_iff_eq.mpr c34
                clear c34
                by_cases c35 : t492 = true
                · subst c35
                  have H1 : (if t494 = true then ((nat_Cmp.f t485 t488).bind fun t501 => ((alidaderef01_Cmp.f kj3 l0 l1).bind fun t502 => (alidadelaw01_NatTells.j1 kj3 l0 l1 a2 t485 t488 (t501 != t502)))) else (alidadelaw01_NatTells.j1 kj3 l0 l1 a2 t485 t488 true)) = some r := by rw [if_pos rfl] at H; exact H
                  clear H
                  have H := H1
                  clear H1
                  by_cases c36 : t494 = true
                  · subst c36
                    have H1 : ((nat_Cmp.f t485 t488).bind fun t501 => ((alidaderef01_Cmp.f kj3 l0 l1).bind fun t502 => (alidadelaw01_NatTells.j1 kj3 l0 l1 a2 t485 t488 (t501 != t502)))) = some r := by rw [if_pos rfl] at H; exact H
                    clear H
                    have H := H1
                    clear H1
                    replace H := Option.bind_eq_some_iff.mp H
                    obtain ⟨t501, A370, H⟩ := H
                    replace H : ((alidaderef01_Cmp.f kj3 l0 l1).bind fun t502 => (alidadelaw01_NatTells.j1 kj3 l0 l1 a2 t485 t488 (t501 != t502))) = some r := H
                    have A37 := Aside0.mk A370
                    clear A370
                    replace H := Option.bind_eq_some_iff.mp H
                    obtain ⟨t502, A380, H⟩ := H
                    replace H : (alidadelaw01_NatTells.j1 kj3 l0 l1 a2 t485 t488 (t501 != t502)) = some r := H
                    have A38 := Aside0.mk A380
                    clear A380
                    have H' := Aside0.mk H
                    clear H
                    go_wp2_with (first | ((with_reducible refine gate_callee (f := 11) rfl ?_); refine goesL_ (some 42) rfl rfl Try.func11 (by kernel_rfl) rfl #[.slice Ao16 t485.length co16] rfl (by (try simp only [List.map_toArray, List.map_cons, List.map_nil]); first | done | rfl | (simp only [List.length_drop, List.length_take]; rfl)) ?_; (with_reducible refine (nat_May.calls _ _ t485 false _ ?side1 ?side2 A17.out).mono ?_); (case side1 => repeat (first | exact (Kd.R_reads' HO487.out).2.2 | (with_reducible refine Kd.C_alloc ?_ _) | (with_reducible refine Kd.C_drewN ?_ _) | (with_reducible refine Kd.C_drew ?_))); (case side2 => exact (Kd.R_reads' HO487.out).2.1); rintro e w' ⟨rfl, ⟨nd, rfl⟩⟩; refine ⟨_, rfl, ?_⟩) | ((with_reducible refine gate_callee (f := 30) rfl ?_); refine goesL_ (some 44) rfl rfl Try.func30 (by kernel_rfl) rfl #[.slice A0 l0.length c0] rfl (by (try simp only [List.map_toArray, List.map_cons, List.map_nil]); first | done | rfl | (simp only [List.length_drop, List.length_take]; rfl)) ?_; (with_reducible refine (alidaderef01_May.calls _ _ l0 false _ ?side1 ?side2 A18.out).mono ?_); (case side1 => repeat (first | exact (Kd.C_below HR0.out (by repeat (first | (with_reducible first | exact HB.out | apply below_alloc | apply pw_below_drewN | apply below_drew1) | exact HB.out))) | (with_reducible refine Kd.C_alloc ?_ _) | (with_reducible refine Kd.C_drewN ?_ _) | (with_reducible refine Kd.C_drew ?_))); (case side2 => exact HC0.out); rintro e w' ⟨rfl, ⟨nd, rfl⟩⟩; refine ⟨_, rfl, ?_⟩; obtain ⟨Ao39, co39, eo39⟩ := Kd.R_slice HO490.out; subst eo39) | (go_at_call 15; (with_reducible refine (nat_Cmp.calls _ _ t485 _ _ t488 t501 _ ?side1 ?side2 ?side3 ?side4 A37.out).mono ?_); (case side1 => repeat (first | exact (Kd.R_reads' HO487.out).2.2 | (with_reducible refine Kd.C_alloc ?_ _) | (with_reducible refine Kd.C_drewN ?_ _) | (with_reducible refine Kd.C_drew ?_))); (case side2 => exact (Kd.R_reads' HO487.out).2.1); (case side3 => repeat (first | exact (Kd.R_reads' HO490.out).2.2 | (with_reducible refine Kd.C_alloc ?_ _) | (with_reducible refine Kd.C_drewN ?_ _) | (with_reducible refine Kd.C_drew ?_))); (case side4 => exact (Kd.R_reads' HO490.out).2.1); rintro e w40 ⟨rfl, hb⟩; have n0_ := Aside0.mk (Kd.R_below (by (with_reducible repeat (first | apply Kd.R_alloc | apply Kd.R_drewN | apply Kd.R_drew)); exact HO487.out) hb); have n1_ := Aside0.mk (Kd.R_below (by (with_reducible repeat (first | apply Kd.R_alloc | apply Kd.R_drewN | apply Kd.R_drew)); exact HO490.out) hb); have n2_ := Aside0.mk (below_step (by repeat (first | (with_reducible first | exact HB.out | apply below_alloc | apply pw_below_drewN | apply below_drew1) | exact HB.out)) hb); clear HO487; clear HO490; clear HB; have HO487 := n0_; have HO490 := n1_; have HB := n2_; clear n0_ n1_ n2_; (try clear hb); (try clear hb2); (try clear hk); (try clear hi)) | (go_at_call 31; (with_reducible refine (alidaderef01_Cmp.calls kj3 _ _ l0 _ _ l1 t502 _ ?side1 ?side2 ?side3 ?side4 A38.out).mono ?_); (case side1 => repeat (first | exact (Kd.C_below HR0.out HB.out) | (with_reducible refine Kd.C_alloc ?_ _) | (with_reducible refine Kd.C_drewN ?_ _) | (with_reducible refine Kd.C_drew ?_))); (case side2 => exact HC0.out); (case side3 => repeat (first | exact (Kd.C_below HR1.out HB.out) | (with_reducible refine Kd.C_alloc ?_ _) | (with_reducible refine Kd.C_drewN ?_ _) | (with_reducible refine Kd.C_drew ?_))); (case side4 => exact HC1.out); rintro e w' ⟨rfl, ⟨nd, rfl⟩⟩))
                    go_meet
                    case rel => exact ⟨_, ((t501 != t502)), (by first | rfl | (simp; done) | (simp [*]; done)), H', ⟨by have := HJ3.out; first | omega | exact Nat.le_refl _⟩, ⟨by (with_reducible repeat (first | apply Kd.R_alloc | apply Kd.R_drewN | apply Kd.R_drew)); exact Kd.R_mono HO487.out (fun _ hk => hk.2)⟩, ⟨by (with_reducible repeat (first | apply Kd.R_alloc | apply Kd.R_drewN | apply Kd.R_drew)); exact Kd.R_mono HO490.out (fun _ hk => hk.2)⟩, ⟨by repeat (first | (with_reducible first | exact HB.out | apply below_alloc | apply pw_below_drewN | apply below_drew1) | exact HB.out)⟩⟩
                  · replace c36 := Bool.eq_false_iff.mpr c36
                    subst c36
                    have H1 : (alidadelaw01_NatTells.j1 kj3 l0 l1 a2 t485 t488 true) = some r := by rw [if_neg (show ¬ (false = true) by decide)] at H; exact H
                    clear H
                    have H := H1
                    clear H1
                    have H' := Aside0.mk H
                    clear H
                    go_wp2_with (first | ((with_reducible refine gate_callee (f := 11) rfl ?_); refine goesL_ (some 42) rfl rfl Try.func11 (by kernel_rfl) rfl #[.slice Ao16 t485.length co16] rfl (by (try simp only [List.map_toArray, List.map_cons, List.map_nil]); first | done | rfl | (simp only [List.length_drop, List.length_take]; rfl)) ?_; (with_reducible refine (nat_May.calls _ _ t485 false _ ?side1 ?side2 A17.out).mono ?_); (case side1 => repeat (first | exact (Kd.R_reads' HO487.out).2.2 | (with_reducible refine Kd.C_alloc ?_ _) | (with_reducible refine Kd.C_drewN ?_ _) | (with_reducible refine Kd.C_drew ?_))); (case side2 => exact (Kd.R_reads' HO487.out).2.1); rintro e w' ⟨rfl, ⟨nd, rfl⟩⟩; refine ⟨_, rfl, ?_⟩) | ((with_reducible refine gate_callee (f := 30) rfl ?_); refine goesL_ (some 44) rfl rfl Try.func30 (by kernel_rfl) rfl #[.slice A0 l0.length c0] rfl (by (try simp only [List.map_toArray, List.map_cons, List.map_nil]); first | done | rfl | (simp only [List.length_drop, List.length_take]; rfl)) ?_; (with_reducible refine (alidaderef01_May.calls _ _ l0 false _ ?side1 ?side2 A18.out).mono ?_); (case side1 => repeat (first | exact (Kd.C_below HR0.out (by repeat (first | (with_reducible first | exact HB.out | apply below_alloc | apply pw_below_drewN | apply below_drew1) | exact HB.out))) | (with_reducible refine Kd.C_alloc ?_ _) | (with_reducible refine Kd.C_drewN ?_ _) | (with_reducible refine Kd.C_drew ?_))); (case side2 => exact HC0.out); rintro e w' ⟨rfl, ⟨nd, rfl⟩⟩; refine ⟨_, rfl, ?_⟩))
                    go_meet
                    case rel => exact ⟨_, (true), (by first | rfl | (simp; done) | (simp [*]; done)), H', ⟨by have := HJ3.out; first | omega | exact Nat.le_refl _⟩, ⟨by (with_reducible repeat (first | apply Kd.R_alloc | apply Kd.R_drewN | apply Kd.R_drew)); exact Kd.R_mono HO487.out (fun _ hk => hk.2)⟩, ⟨by (with_reducible repeat (first | apply Kd.R_alloc | apply Kd.R_drewN | apply Kd.R_drew)); exact Kd.R_mono HO490.out (fun _ hk => hk.2)⟩, ⟨by repeat (first | (with_reducible first | exact HB.out | apply below_alloc | apply pw_below_drewN | apply below_drew1) | exact HB.out)⟩⟩
                · replace c35 := Bool.eq_false_iff.mpr c35
                  subst c35
                  have H1 : (if t494 = true then (alidadelaw01_NatTells.j1 kj3 l0 l1 a2 t485 t488 true) else ((nat_Cmp.f t485 t488).bind fun t503 => ((alidaderef01_Cmp.f kj3 l0 l1).bind fun t504 => (alidadelaw01_NatTells.j1 kj3 l0 l1 a2 t485 t488 (t503 != t504))))) = some r := by rw [if_neg (show ¬ (false = true) by decide)] at H; exact H
                  clear H
                  have H := H1
                  clear H1
                  by_cases c41 : t494 = true
                  · subst c41
                    have H1 : (alidadelaw01_NatTells.j1 kj3 l0 l1 a2 t485 t488 true) = some r := by rw [if_pos rfl] at H; exact H
                    clear H
                    have H := H1
                    clear H1
                    have H' := Aside0.mk H
                    clear H
                    go_wp2_with (first | ((with_reducible refine gate_callee (f := 11) rfl ?_); refine goesL_ (some 42) rfl rfl Try.func11 (by kernel_rfl) rfl #[.slice Ao16 t485.length co16] rfl (by (try simp only [List.map_toArray, List.map_cons, List.map_nil]); first | done | rfl | (simp only [List.length_drop, List.length_take]; rfl)) ?_; (with_reducible refine (nat_May.calls _ _ t485 false _ ?side1 ?side2 A17.out).mono ?_); (case side1 => repeat (first | exact (Kd.R_reads' HO487.out).2.2 | (with_reducible refine Kd.C_alloc ?_ _) | (with_reducible refine Kd.C_drewN ?_ _) | (with_reducible refine Kd.C_drew ?_))); (case side2 => exact (Kd.R_reads' HO487.out).2.1); rintro e w' ⟨rfl, ⟨nd, rfl⟩⟩; refine ⟨_, rfl, ?_⟩) | ((with_reducible refine gate_callee (f := 30) rfl ?_); refine goesL_ (some 44) rfl rfl Try.func30 (by kernel_rfl) rfl #[.slice A0 l0.length c0] rfl (by (try simp only [List.map_toArray, List.map_cons, List.map_nil]); first | done | rfl | (simp only [List.length_drop, List.length_take]; rfl)) ?_; (with_reducible refine (alidaderef01_May.calls _ _ l0 false _ ?side1 ?side2 A18.out).mono ?_); (case side1 => repeat (first | exact (Kd.C_below HR0.out (by repeat (first | (with_reducible first | exact HB.out | apply below_alloc | apply pw_below_drewN | apply below_drew1) | exact HB.out))) | (with_reducible refine Kd.C_alloc ?_ _) | (with_reducible refine Kd.C_drewN ?_ _) | (with_reducible refine Kd.C_drew ?_))); (case side2 => exact HC0.out); rintro e w' ⟨rfl, ⟨nd, rfl⟩⟩; refine ⟨_, rfl, ?_⟩))
                    go_meet
                    case rel => exact ⟨_, (true), (by first | rfl | (simp; done) | (simp [*]; done)), H', ⟨by have := HJ3.out; first | omega | exact Nat.le_refl _⟩, ⟨by (with_reducible repeat (first | apply Kd.R_alloc | apply Kd.R_drewN | apply Kd.R_drew)); exact Kd.R_mono HO487.out (fun _ hk => hk.2)⟩, ⟨by (with_reducible repeat (first | apply Kd.R_alloc | apply Kd.R_drewN | apply Kd.R_drew)); exact Kd.R_mono HO490.out (fun _ hk => hk.2)⟩, ⟨by repeat (first | (with_reducible first | exact HB.out | apply below_alloc | apply pw_below_drewN | apply below_drew1) | exact HB.out)⟩⟩
                  · replace c41 := Bool.eq_false_iff.mpr c41
                    subst c41
                    have H1 : ((nat_Cmp.f t485 t488).bind fun t503 => ((alidaderef01_Cmp.f kj3 l0 l1).bind fun t504 => (alidadelaw01_NatTells.j1 kj3 l0 l1 a2 t485 t488 (t503 != t504)))) = some r := by rw [if_neg (show ¬ (false = true) by decide)] at H; exact H
                    clear H
                    have H := H1
                    clear H1
                    replace H := Option.bind_eq_some_iff.mp H
                    obtain ⟨t503, A420, H⟩ := H
                    replace H : ((alidaderef01_Cmp.f kj3 l0 l1).bind fun t504 => (alidadelaw01_NatTells.j1 kj3 l0 l1 a2 t485 t488 (t503 != t504))) = some r := H
                    have A42 := Aside0.mk A420
                    clear A420
                    replace H := Option.bind_eq_some_iff.mp H
                    obtain ⟨t504, A430, H⟩ := H
                    replace H : (alidadelaw01_NatTells.j1 kj3 l0 l1 a2 t485 t488 (t503 != t504)) = some r := H
                    have A43 := Aside0.mk A430
                    clear A430
                    have H' := Aside0.mk H
                    clear H
                    go_wp2_with (first | ((with_reducible refine gate_callee (f := 11) rfl ?_); refine goesL_ (some 42) rfl rfl Try.func11 (by kernel_rfl) rfl #[.slice Ao16 t485.length co16] rfl (by (try simp only [List.map_toArray, List.map_cons, List.map_nil]); first | done | rfl | (simp only [List.length_drop, List.length_take]; rfl)) ?_; (with_reducible refine (nat_May.calls _ _ t485 false _ ?side1 ?side2 A17.out).mono ?_); (case side1 => repeat (first | exact (Kd.R_reads' HO487.out).2.2 | (with_reducible refine Kd.C_alloc ?_ _) | (with_reducible refine Kd.C_drewN ?_ _) | (with_reducible refine Kd.C_drew ?_))); (case side2 => exact (Kd.R_reads' HO487.out).2.1); rintro e w' ⟨rfl, ⟨nd, rfl⟩⟩; refine ⟨_, rfl, ?_⟩) | ((with_reducible refine gate_callee (f := 30) rfl ?_); refine goesL_ (some 44) rfl rfl Try.func30 (by kernel_rfl) rfl #[.slice A0 l0.length c0] rfl (by (try simp only [List.map_toArray, List.map_cons, List.map_nil]); first | done | rfl | (simp only [List.length_drop, List.length_take]; rfl)) ?_; (with_reducible refine (alidaderef01_May.calls _ _ l0 false _ ?side1 ?side2 A18.out).mono ?_); (case side1 => repeat (first | exact (Kd.C_below HR0.out (by repeat (first | (with_reducible first | exact HB.out | apply below_alloc | apply pw_below_drewN | apply below_drew1) | exact HB.out))) | (with_reducible refine Kd.C_alloc ?_ _) | (with_reducible refine Kd.C_drewN ?_ _) | (with_reducible refine Kd.C_drew ?_))); (case side2 => exact HC0.out); rintro e w' ⟨rfl, ⟨nd, rfl⟩⟩; refine ⟨_, rfl, ?_⟩; obtain ⟨Ao44, co44, eo44⟩ := Kd.R_slice HO490.out; subst eo44) | (go_at_call 15; (with_reducible refine (nat_Cmp.calls _ _ t485 _ _ t488 t503 _ ?side1 ?side2 ?side3 ?side4 A42.out).mono ?_); (case side1 => repeat (first | exact (Kd.R_reads' HO487.out).2.2 | (with_reducible refine Kd.C_alloc ?_ _) | (with_reducible refine Kd.C_drewN ?_ _) | (with_reducible refine Kd.C_drew ?_))); (case side2 => exact (Kd.R_reads' HO487.out).2.1); (case side3 => repeat (first | exact (Kd.R_reads' HO490.out).2.2 | (with_reducible refine Kd.C_alloc ?_ _) | (with_reducible refine Kd.C_drewN ?_ _) | (with_reducible refine Kd.C_drew ?_))); (case side4 => exact (Kd.R_reads' HO490.out).2.1); rintro e w45 ⟨rfl, hb⟩; have n0_ := Aside0.mk (Kd.R_below (by (with_reducible repeat (first | apply Kd.R_alloc | apply Kd.R_drewN | apply Kd.R_drew)); exact HO487.out) hb); have n1_ := Aside0.mk (Kd.R_below (by (with_reducible repeat (first | apply Kd.R_alloc | apply Kd.R_drewN | apply Kd.R_drew)); exact HO490.out) hb); have n2_ := Aside0.mk (below_step (by repeat (first | (with_reducible first | exact HB.out | apply below_alloc | apply pw_below_drewN | apply below_drew1) | exact HB.out)) hb); clear HO487; clear HO490; clear HB; have HO487 := n0_; have HO490 := n1_; have HB := n2_; clear n0_ n1_ n2_; (try clear hb); (try clear hb2); (try clear hk); (try clear hi)) | (go_at_call 31; (with_reducible refine (alidaderef01_Cmp.calls kj3 _ _ l0 _ _ l1 t504 _ ?side1 ?side2 ?side3 ?side4 A43.out).mono ?_); (case side1 => repeat (first | exact (Kd.C_below HR0.out HB.out) | (with_reducible refine Kd.C_alloc ?_ _) | (with_reducible refine Kd.C_drewN ?_ _) | (with_reducible refine Kd.C_drew ?_))); (case side2 => exact HC0.out); (case side3 => repeat (first | exact (Kd.C_below HR1.out HB.out) | (with_reducible refine Kd.C_alloc ?_ _) | (with_reducible refine Kd.C_drewN ?_ _) | (with_reducible refine Kd.C_drew ?_))); (case side4 => exact HC1.out); rintro e w' ⟨rfl, ⟨nd, rfl⟩⟩))
                    go_meet
                    case rel => exact ⟨_, ((t503 != t504)), (by first | rfl | (simp; done) | (simp [*]; done)), H', ⟨by have := HJ3.out; first | omega | exact Nat.le_refl _⟩, ⟨by (with_reducible repeat (first | apply Kd.R_alloc | apply Kd.R_drewN | apply Kd.R_drew)); exact Kd.R_mono HO487.out (fun _ hk => hk.2)⟩, ⟨by (with_reducible repeat (first | apply Kd.R_alloc | apply Kd.R_drewN | apply Kd.R_drew)); exact Kd.R_mono HO490.out (fun _ hk => hk.2)⟩, ⟨by repeat (first | (with_reducible first | exact HB.out | apply below_alloc | apply pw_below_drewN | apply below_drew1) | exact HB.out)⟩⟩
              · rw [if_neg c34] at H
                have c34b0 : (t491 == t493) = false := beq_eq_false_iff_ne.mpr c34
                have c34b1 : (t491 != t493) = true := bne_iff_ne.mpr c34
                have H' := Aside0.mk H
                clear H
                go_wp2_with (first | ((with_reducible refine gate_callee (f := 11) rfl ?_); refine goesL_ (some 42) rfl rfl Try.func11 (by kernel_rfl) rfl #[.slice Ao16 t485.length co16] rfl (by (try simp only [List.map_toArray, List.map_cons, List.map_nil]); first | done | rfl | (simp only [List.length_drop, List.length_take]; rfl)) ?_; (with_reducible refine (nat_May.calls _ _ t485 false _ ?side1 ?side2 A17.out).mono ?_); (case side1 => repeat (first | exact (Kd.R_reads' HO487.out).2.2 | (with_reducible refine Kd.C_alloc ?_ _) | (with_reducible refine Kd.C_drewN ?_ _) | (with_reducible refine Kd.C_drew ?_))); (case side2 => exact (Kd.R_reads' HO487.out).2.1); rintro e w' ⟨rfl, ⟨nd, rfl⟩⟩; refine ⟨_, rfl, ?_⟩) | ((with_reducible refine gate_callee (f := 30) rfl ?_); refine goesL_ (some 44) rfl rfl Try.func30 (by kernel_rfl) rfl #[.slice A0 l0.length c0] rfl (by (try simp only [List.map_toArray, List.map_cons, List.map_nil]); first | done | rfl | (simp only [List.length_drop, List.length_take]; rfl)) ?_; (with_reducible refine (alidaderef01_May.calls _ _ l0 false _ ?side1 ?side2 A18.out).mono ?_); (case side1 => repeat (first | exact (Kd.C_below HR0.out (by repeat (first | (with_reducible first | exact HB.out | apply below_alloc | apply pw_below_drewN | apply below_drew1) | exact HB.out))) | (with_reducible refine Kd.C_alloc ?_ _) | (with_reducible refine Kd.C_drewN ?_ _) | (with_reducible refine Kd.C_drew ?_))); (case side2 => exact HC0.out); rintro e w' ⟨rfl, ⟨nd, rfl⟩⟩; refine ⟨_, rfl, ?_⟩))
                go_meet
                case rel => exact ⟨_, (true), (by first | rfl | (simp; done) | (simp [*]; done)), H', ⟨by have := HJ3.out; first | omega | exact Nat.le_refl _⟩, ⟨by (with_reducible repeat (first | apply Kd.R_alloc | apply Kd.R_drewN | apply Kd.R_drew)); exact Kd.R_mono HO487.out (fun _ hk => hk.2)⟩, ⟨by (with_reducible repeat (first | apply Kd.R_alloc | apply Kd.R_drewN | apply Kd.R_drew)); exact Kd.R_mono HO490.out (fun _ hk => hk.2)⟩, ⟨by repeat (first | (with_reducible first | exact HB.out | apply below_alloc | apply pw_below_drewN | apply below_drew1) | exact HB.out)⟩⟩
        case rest =>
          clear HC13
          try clear c1
          try clear c2
          try clear p2
          try clear c3
          try clear c4
          try clear c5
          try clear c5b0
          try clear c5b1
          try clear c6
          try clear c8
          try clear c10
          try clear c11
          try clear c19
          try clear c20
          try clear c21
          try clear c21b0
          try clear c21b1
          try clear c22
          try clear c23
          try clear c28
          try clear c29
          try clear c30
          try clear c33
          try clear c34
          try clear c34b0
          try clear c34b1
          try clear c35
          try clear c36
          try clear c41
          try clear p2
          obtain ⟨kq, x64_12, rfl, HA, HJ12, HO_7, HO_8, HB⟩ := hcut
          cases kq with
          | zero => exact absurd HA.out (by simp [alidadelaw01_NatTells.j1])
          | succ kj12 =>
            have H := HA.out
            clear HA
            simp only [alidadelaw01_NatTells.j1] at H
            by_cases c46 : x64_12 = true
            · subst c46
              have H1 : (none) = some r := by rw [if_pos rfl] at H; exact H
              clear H
              have H := H1
              clear H1
              exact absurd H (by simp)
            · replace c46 := Bool.eq_false_iff.mpr c46
              subst c46
              have H1 : (alidadelaw01_NatTells.l0 kj12 l0 l1 a2 t485 t488 0) = some r := by rw [if_neg (show ¬ (false = true) by decide)] at H; exact H
              clear H
              have H := H1
              clear H1
              have H' := Aside0.mk H
              clear H
              go_wp2
              go_loopg [13] kj12 (fun kq v13 w' => ∃ (x7_3 : List Int) (x8_3 : List Int) (x13_3 : Int), v13 = .int .i64 x13_3 ∧ Aside0 (alidadelaw01_NatTells.l0 kq l0 l1 a2 x7_3 x8_3 x13_3 = some r) ∧ Aside0 (kq ≤ kj12) ∧ Aside0 (Kd.R (Kd.int .u32) 37 w' w.heap.size (fun k_ => some k_ ≠ (v489 : Value).ownBlock) (.slice Ao16 t485.length co16) x7_3) ∧ Aside0 (Kd.R (Kd.int .u32) 37 w' w.heap.size (fun k_ => some k_ ≠ ((.slice Ao16 t485.length co16) : Value).ownBlock) v489 x8_3) ∧ Aside0 (Below w.heap.size w w'))
              case atStart => exact ⟨(t485), (t488), (0), (by first | rfl | (simp; done) | (simp [*]; done)), H', ⟨Nat.le_refl _⟩, ⟨by (with_reducible repeat (first | apply Kd.R_alloc | apply Kd.R_drewN | apply Kd.R_drew)); exact HO_7.out⟩, ⟨by (with_reducible repeat (first | apply Kd.R_alloc | apply Kd.R_drewN | apply Kd.R_drew)); exact HO_8.out⟩, ⟨by repeat (first | (with_reducible first | exact HB.out | apply below_alloc | apply pw_below_drewN | apply below_drew1) | exact HB.out)⟩⟩
              case round =>
                clear H'
                try clear c1
                try clear c2
                try clear p2
                try clear c3
                try clear c4
                try clear c5
                try clear c5b0
                try clear c5b1
                try clear c6
                try clear c8
                try clear c10
                try clear c11
                try clear c19
                try clear c20
                try clear c21
                try clear c21b0
                try clear c21b1
                try clear c22
                try clear c23
                try clear c28
                try clear c29
                try clear c30
                try clear c33
                try clear c34
                try clear c34b0
                try clear c34b1
                try clear c35
                try clear c36
                try clear c41
                try clear c46
                try clear p2
                obtain ⟨x7_3, x8_3, x13_3, rfl, HA, HK3, HO_7, HO_8, HB⟩ := hrel
                have hl7_3 := (Kd.R_reads' HO_7.out).1
                rw [hl7_3] at HO_7
                (try simp only [hl7_3])
                (try simp only [hl7_3] at HO_8)
                cases gk with
                | zero => exact absurd HA.out (by simp [alidadelaw01_NatTells.l0])
                | succ k3 =>
                  have H := HA.out
                  clear HA
                  simp only [alidadelaw01_NatTells.l0] at H
                  by_cases c47 : x13_3 < 2
                  · rw [if_pos c47] at H
                    have c47b0 : decide (x13_3 < 2) = true := decide_eq_true c47
                    clear c47
                    replace H := Option.bind_eq_some_iff.mp H
                    obtain ⟨⟨t508, t509⟩, A480, H⟩ := H
                    replace H : ((alidaderef01_Sub.f k3 l0 l1).bind fun bt512 => (if t509 = true then (if bt512.2 = true then ((alidadelaw01_is.f k3 t508 bt512.1).bind fun bt516 => (if bt516.1 = true then ((nat_Add.f x7_3 x8_3).bind fun t518 => ((alidaderef01_Add.f k3 l0 l1).bind fun t521 => ((alidadelaw01_is.f k3 t518 t521).bind fun bt524 => (if bt524.1 = true then ((nat_Of.f k3 a2).bind fun t526 => ((alidaderef01_Of.f k3 a2).bind fun t529 => ((alidadelaw01_is.f k3 t526 t529).bind fun bt532 => (if bt532.1 = true then (alidadelaw01_NatTells.l0 k3 l0 l1 a2 x7_3 x8_3 (wrap64 (x13_3 + 1))) else (none))))) else (none))))) else (none))) else (none)) else (if bt512.2 = true then (none) else ((alidadelaw01_is.f k3 t508 bt512.1).bind fun bt534 => (if bt534.1 = true then ((nat_Add.f x7_3 x8_3).bind fun t536 => ((alidaderef01_Add.f k3 l0 l1).bind fun t539 => ((alidadelaw01_is.f k3 t536 t539).bind fun bt542 => (if bt542.1 = true then ((nat_Of.f k3 a2).bind fun t544 => ((alidaderef01_Of.f k3 a2).bind fun t547 => ((alidadelaw01_is.f k3 t544 t547).bind fun bt550 => (if bt550.1 = true then (alidadelaw01_NatTells.l0 k3 l0 l1 a2 x7_3 x8_3 (wrap64 (x13_3 + 1))) else (none))))) else (none))))) else (none)))))) = some r := H
                    have A48 := Aside0.mk A480
                    clear A480
                    replace H := Option.bind_eq_some_iff.mp H
                    obtain ⟨⟨t512, t513⟩, A490, H⟩ := H
                    replace H : (if t509 = true then (if t513 = true then ((alidadelaw01_is.f k3 t508 t512).bind fun bt516 => (if bt516.1 = true then ((nat_Add.f x7_3 x8_3).bind fun t518 => ((alidaderef01_Add.f k3 l0 l1).bind fun t521 => ((alidadelaw01_is.f k3 t518 t521).bind fun bt524 => (if bt524.1 = true then ((nat_Of.f k3 a2).bind fun t526 => ((alidaderef01_Of.f k3 a2).bind fun t529 => ((alidadelaw01_is.f k3 t526 t529).bind fun bt532 => (if bt532.1 = true then (alidadelaw01_NatTells.l0 k3 l0 l1 a2 x7_3 x8_3 (wrap64 (x13_3 + 1))) else (none))))) else (none))))) else (none))) else (none)) else (if t513 = true then (none) else ((alidadelaw01_is.f k3 t508 t512).bind fun bt534 => (if bt534.1 = true then ((nat_Add.f x7_3 x8_3).bind fun t536 => ((alidaderef01_Add.f k3 l0 l1).bind fun t539 => ((alidadelaw01_is.f k3 t536 t539).bind fun bt542 => (if bt542.1 = true then ((nat_Of.f k3 a2).bind fun t544 => ((alidaderef01_Of.f k3 a2).bind fun t547 => ((alidadelaw01_is.f k3 t544 t547).bind fun bt550 => (if bt550.1 = true then (alidadelaw01_NatTells.l0 k3 l0 l1 a2 x7_3 x8_3 (wrap64 (x13_3 + 1))) else (none))))) else (none))))) else (none))))) = some r := H
                    have A49 := Aside0.mk A490
                    clear A490
                    by_cases c50 : t509 = true
                    · subst c50
                      have H1 : (if t513 = true then ((alidadelaw01_is.f k3 t508 t512).bind fun bt516 => (if bt516.1 = true then ((nat_Add.f x7_3 x8_3).bind fun t518 => ((alidaderef01_Add.f k3 l0 l1).bind fun t521 => ((alidadelaw01_is.f k3 t518 t521).bind fun bt524 => (if bt524.1 = true then ((nat_Of.f k3 a2).bind fun t526 => ((alidaderef01_Of.f k3 a2).bind fun t529 => ((alidadelaw01_is.f k3 t526 t529).bind fun bt532 => (if bt532.1 = true then (alidadelaw01_NatTells.l0 k3 l0 l1 a2 x7_3 x8_3 (wrap64 (x13_3 + 1))) else (none))))) else (none))))) else (none))) else (none)) = some r := by rw [if_pos rfl] at H; exact H
                      clear H
                      have H := H1
                      clear H1
                      by_cases c51 : t513 = true
                      · subst c51
                        have H1 : ((alidadelaw01_is.f k3 t508 t512).bind fun bt516 => (if bt516.1 = true then ((nat_Add.f x7_3 x8_3).bind fun t518 => ((alidaderef01_Add.f k3 l0 l1).bind fun t521 => ((alidadelaw01_is.f k3 t518 t521).bind fun bt524 => (if bt524.1 = true then ((nat_Of.f k3 a2).bind fun t526 => ((alidaderef01_Of.f k3 a2).bind fun t529 => ((alidadelaw01_is.f k3 t526 t529).bind fun bt532 => (if bt532.1 = true then (alidadelaw01_NatTells.l0 k3 l0 l1 a2 x7_3 x8_3 (wrap64 (x13_3 + 1))) else (none))))) else (none))))) else (none))) = some r := by rw [if_pos rfl] at H; exact H
                        clear H
                        have H := H1
                        clear H1
                        replace H := Option.bind_eq_some_iff.mp H
                        obtain ⟨⟨t516, t517⟩, A520, H⟩ := H
                        replace H : (if t516 = true then ((nat_Add.f x7_3 x8_3).bind fun t518 => ((alidaderef01_Add.f k3 l0 l1).bind fun t521 => ((alidadelaw01_is.f k3 t518 t521).bind fun bt524 => (if bt524.1 = true then ((nat_Of.f k3 a2).bind fun t526 => ((alidaderef01_Of.f k3 a2).bind fun t529 => ((alidadelaw01_is.f k3 t526 t529).bind fun bt532 => (if bt532.1 = true then (alidadelaw01_NatTells.l0 k3 l0 l1 a2 x7_3 x8_3 (wrap64 (x13_3 + 1))) else (none))))) else (none))))) else (none)) = some r := H
                        have A52 := Aside0.mk A520
                        clear A520
                        by_cases c53 : t516 = true
                        · subst c53
                          have H1 : ((nat_Add.f x7_3 x8_3).bind fun t518 => ((alidaderef01_Add.f k3 l0 l1).bind fun t521 => ((alidadelaw01_is.f k3 t518 t521).bind fun bt524 => (if bt524.1 = true then ((nat_Of.f k3 a2).bind fun t526 => ((alidaderef01_Of.f k3 a2).bind fun t529 => ((alidadelaw01_is.f k3 t526 t529).bind fun bt532 => (if bt532.1 = true then (alidadelaw01_NatTells.l0 k3 l0 l1 a2 x7_3 x8_3 (wrap64 (x13_3 + 1))) else (none))))) else (none))))) = some r := by rw [if_pos rfl] at H; exact H
                          clear H
                          have H := H1
                          clear H1
                          replace H := Option.bind_eq_some_iff.mp H
                          obtain ⟨t518, A540, H⟩ := H
                          replace H : ((alidaderef01_Add.f k3 l0 l1).bind fun t521 => ((alidadelaw01_is.f k3 t518 t521).bind fun bt524 => (if bt524.1 = true then ((nat_Of.f k3 a2).bind fun t526 => ((alidaderef01_Of.f k3 a2).bind fun t529 => ((alidadelaw01_is.f k3 t526 t529).bind fun bt532 => (if bt532.1 = true then (alidadelaw01_NatTells.l0 k3 l0 l1 a2 x7_3 x8_3 (wrap64 (x13_3 + 1))) else (none))))) else (none)))) = some r := H
                          have A54 := Aside0.mk A540
                          clear A540
                          replace H := Option.bind_eq_some_iff.mp H
                          obtain ⟨t521, A550, H⟩ := H
                          replace H : ((alidadelaw01_is.f k3 t518 t521).bind fun bt524 => (if bt524.1 = true then ((nat_Of.f k3 a2).bind fun t526 => ((alidaderef01_Of.f k3 a2).bind fun t529 => ((alidadelaw01_is.f k3 t526 t529).bind fun bt532 => (if bt532.1 = true then (alidadelaw01_NatTells.l0 k3 l0 l1 a2 x7_3 x8_3 (wrap64 (x13_3 + 1))) else (none))))) else (none))) = some r := H
                          have A55 := Aside0.mk A550
                          clear A550
                          replace H := Option.bind_eq_some_iff.mp H
                          obtain ⟨⟨t524, t525⟩, A560, H⟩ := H
                          replace H : (if t524 = true then ((nat_Of.f k3 a2).bind fun t526 => ((alidaderef01_Of.f k3 a2).bind fun t529 => ((alidadelaw01_is.f k3 t526 t529).bind fun bt532 => (if bt532.1 = true then (alidadelaw01_NatTells.l0 k3 l0 l1 a2 x7_3 x8_3 (wrap64 (x13_3 + 1))) else (none))))) else (none)) = some r := H
                          have A56 := Aside0.mk A560
                          clear A560
                          by_cases c57 : t524 = true
                          · subst c57
                            have H1 : ((nat_Of.f k3 a2).bind fun t526 => ((alidaderef01_Of.f k3 a2).bind fun t529 => ((alidadelaw01_is.f k3 t526 t529).bind fun bt532 => (if bt532.1 = true then (alidadelaw01_NatTells.l0 k3 l0 l1 a2 x7_3 x8_3 (wrap64 (x13_3 + 1))) else (none))))) = some r := by rw [if_pos rfl] at H; exact H
                            clear H
                            have H := H1
                            clear H1
                            replace H := Option.bind_eq_some_iff.mp H
                            obtain ⟨t526, A580, H⟩ := H
                            replace H : ((alidaderef01_Of.f k3 a2).bind fun t529 => ((alidadelaw01_is.f k3 t526 t529).bind fun bt532 => (if bt532.1 = true then (alidadelaw01_NatTells.l0 k3 l0 l1 a2 x7_3 x8_3 (wrap64 (x13_3 + 1))) else (none)))) = some r := H
                            have A58 := Aside0.mk A580
                            clear A580
                            replace H := Option.bind_eq_some_iff.mp H
                            obtain ⟨t529, A590, H⟩ := H
                            replace H : ((alidadelaw01_is.f k3 t526 t529).bind fun bt532 => (if bt532.1 = true then (alidadelaw01_NatTells.l0 k3 l0 l1 a2 x7_3 x8_3 (wrap64 (x13_3 + 1))) else (none))) = some r := H
                            have A59 := Aside0.mk A590
                            clear A590
                            replace H := Option.bind_eq_some_iff.mp H
                            obtain ⟨⟨t532, t533⟩, A600, H⟩ := H
                            replace H : (if t532 = true then (alidadelaw01_NatTells.l0 k3 l0 l1 a2 x7_3 x8_3 (wrap64 (x13_3 + 1))) else (none)) = some r := H
                            have A60 := Aside0.mk A600
                            clear A600
                            by_cases c61 : t532 = true
                            · subst c61
                              have H1 : (alidadelaw01_NatTells.l0 k3 l0 l1 a2 x7_3 x8_3 (wrap64 (x13_3 + 1))) = some r := by rw [if_pos rfl] at H; exact H
                              clear H
                              have H := H1
                              clear H1
                              have H' := Aside0.mk H
                              clear H
                              obtain ⟨Ao62, co62, eo62⟩ := Kd.R_slice HO_8.out
                              subst eo62
                              go_wp2_with (first | ((with_reducible refine gate_callee (f := 13) rfl ?_); refine goesL_ (some 72) rfl rfl Try.func13 (by kernel_rfl) rfl #[.slice Ao16 x7_3.length co16, .slice Ao62 x8_3.length co62] rfl (by (try simp only [List.map_toArray, List.map_cons, List.map_nil]); first | done | rfl | (simp only [List.length_drop, List.length_take]; rfl)) ?_; (with_reducible refine (nat_Sub.calls _ _ x7_3 _ _ x8_3 t508 true _ ?side1 ?side2 ?side3 ?side4 A48.out).mono ?_); (case side1 => repeat (first | exact (Kd.R_reads' HO_7.out).2.2 | (with_reducible refine Kd.C_alloc ?_ _) | (with_reducible refine Kd.C_drewN ?_ _) | (with_reducible refine Kd.C_drew ?_))); (case side2 => exact (Kd.R_reads' HO_7.out).2.1); (case side3 => repeat (first | exact (Kd.R_reads' HO_8.out).2.2 | (with_reducible refine Kd.C_alloc ?_ _) | (with_reducible refine Kd.C_drewN ?_ _) | (with_reducible refine Kd.C_drew ?_))); (case side4 => exact (Kd.R_reads' HO_8.out).2.1); rintro e w63 ⟨v510, rfl, ho0, hb⟩; refine ⟨_, rfl, ?_⟩; have n0_ := Aside0.mk (Kd.R_elder' (by (with_reducible repeat (first | apply Kd.R_alloc | apply Kd.R_drewN | apply Kd.R_drew)); exact HO_7.out) (Kd.R_base ho0) hb); have n1_ := Aside0.mk (Kd.R_elder' (by (with_reducible repeat (first | apply Kd.R_alloc | apply Kd.R_drewN | apply Kd.R_drew)); exact HO_8.out) (Kd.R_base ho0) hb); have n2_ := Aside0.mk (Kd.R_lower (Kd.R_new' (Kd.R_new' ho0 (Kd.R_lt (by (with_reducible repeat (first | apply Kd.R_alloc | apply Kd.R_drewN | apply Kd.R_drew)); exact HO_7.out))) (Kd.R_lt (by (with_reducible repeat (first | apply Kd.R_alloc | apply Kd.R_drewN | apply Kd.R_drew)); exact HO_8.out))) (below_size (by repeat (first | (with_reducible first | exact HB.out | apply below_alloc | apply pw_below_drewN | apply below_drew1) | exact HB.out)))); have n3_ := Aside0.mk (below_step (by repeat (first | (with_reducible first | exact HB.out | apply below_alloc | apply pw_below_drewN | apply below_drew1) | exact HB.out)) hb); clear HO_7; clear HO_8; clear HB; have HO_7 := n0_; have HO_8 := n1_; have HO511 := n2_; have HB := n3_; clear n0_ n1_ n2_ n3_; (try clear hb); (try clear hb2); (try clear hk); (try clear hi); (try clear ho0)) | ((with_reducible refine gate_callee (f := 32) rfl ?_); refine goesL_ (some 78) rfl rfl Try.func32 (by kernel_rfl) rfl #[.slice A0 l0.length c0, .slice A1 l1.length c1] rfl (by (try simp only [List.map_toArray, List.map_cons, List.map_nil]); first | done | rfl | (simp only [List.length_drop, List.length_take]; rfl)) ?_; (with_reducible refine (alidaderef01_Sub.calls k3 _ _ l0 _ _ l1 t512 true _ ?side1 ?side2 ?side3 ?side4 A49.out).mono ?_); (case side1 => repeat (first | exact (Kd.C_below HR0.out HB.out) | (with_reducible refine Kd.C_alloc ?_ _) | (with_reducible refine Kd.C_drewN ?_ _) | (with_reducible refine Kd.C_drew ?_))); (case side2 => exact HC0.out); (case side3 => repeat (first | exact (Kd.C_below HR1.out HB.out) | (with_reducible refine Kd.C_alloc ?_ _) | (with_reducible refine Kd.C_drewN ?_ _) | (with_reducible refine Kd.C_drew ?_))); (case side4 => exact HC1.out); rintro e w64 ⟨v514, rfl, ho0, hb⟩; refine ⟨_, rfl, ?_⟩; have n0_ := Aside0.mk (Kd.R_elder' (by (with_reducible repeat (first | apply Kd.R_alloc | apply Kd.R_drewN | apply Kd.R_drew)); exact HO_7.out) (Kd.R_base ho0) hb); have n1_ := Aside0.mk (Kd.R_elder' (by (with_reducible repeat (first | apply Kd.R_alloc | apply Kd.R_drewN | apply Kd.R_drew)); exact HO_8.out) (Kd.R_base ho0) hb); have n2_ := Aside0.mk (Kd.R_elder' (by (with_reducible repeat (first | apply Kd.R_alloc | apply Kd.R_drewN | apply Kd.R_drew)); exact HO511.out) (Kd.R_base ho0) hb); have n3_ := Aside0.mk (Kd.R_lower (Kd.R_new' (Kd.R_new' (Kd.R_new' ho0 (Kd.R_lt (by (with_reducible repeat (first | apply Kd.R_alloc | apply Kd.R_drewN | apply Kd.R_drew)); exact HO_7.out))) (Kd.R_lt (by (with_reducible repeat (first | apply Kd.R_alloc | apply Kd.R_drewN | apply Kd.R_drew)); exact HO_8.out))) (Kd.R_lt (by (with_reducible repeat (first | apply Kd.R_alloc | apply Kd.R_drewN | apply Kd.R_drew)); exact HO511.out))) (below_size (by repeat (first | (with_reducible first | exact HB.out | apply below_alloc | apply pw_below_drewN | apply below_drew1) | exact HB.out)))); have n4_ := Aside0.mk (below_step (by repeat (first | (with_reducible first | exact HB.out | apply below_alloc | apply pw_below_drewN | apply below_drew1) | exact HB.out)) hb); clear HO_7; clear HO_8; clear HO511; clear HB; have HO_7 := n0_; have HO_8 := n1_; have HO511 := n2_; have HO515 := n3_; have HB := n4_; clear n0_ n1_ n2_ n3_ n4_; (try clear hb); (try clear hb2); (try clear hk); (try clear hi); (try clear ho0); obtain ⟨Ao65, co65, eo65⟩ := Kd.R_slice HO511.out; subst eo65; obtain ⟨Ao66, co66, eo66⟩ := Kd.R_slice HO515.out; subst eo66) | (go_at_call 20; (with_reducible refine (alidadelaw01_is.calls k3 (fun k_ => some k_ = (.slice Ao65 t508.length co65 : Value).ownBlock) (.slice Ao65 t508.length co65) t508 _ _ t512 true t517 w _ ?side1 ?side2 ?side3 ?side4 A52.out).mono ?_); (case side1 => repeat (first | (with_reducible first | exact HB.out | apply below_alloc | apply pw_below_drewN | apply below_drew1) | exact HB.out)); (case side2 => exact Kd.R_tight rfl HO511.out); (case side3 => exact Kd.C_kept_own (HO515.out) (fun k_ hk_ hs_ => (hk_.2) hs_)); (case side4 => exact (Kd.R_reads' HO515.out).2.1); rintro e w67 ⟨rfl, hy0, hb, hkp⟩; have n0_ := Aside0.mk (Kd.R_mono (ok' := fun k_ => some k_ ≠ (.slice Ao62 x8_3.length co62 : Value).ownBlock ∧ some k_ ≠ (.slice Ao65 t508.length co65 : Value).ownBlock ∧ some k_ ≠ (.slice Ao66 t512.length co66 : Value).ownBlock) (Kd.R_keptB (HO_7.out) hkp (fun k_ hk_ hs_ => (hk_.1.2) hs_)) (fun k_ hk_ => ⟨hk_.1.1.1, hk_.1.1.2, hk_.1.2⟩)); have n1_ := Aside0.mk (Kd.R_mono (ok' := fun k_ => some k_ ≠ (.slice Ao16 x7_3.length co16 : Value).ownBlock ∧ some k_ ≠ (.slice Ao65 t508.length co65 : Value).ownBlock ∧ some k_ ≠ (.slice Ao66 t512.length co66 : Value).ownBlock) (Kd.R_keptB (HO_8.out) hkp (fun k_ hk_ hs_ => (hk_.1.2) hs_)) (fun k_ hk_ => ⟨hk_.1.1.1, hk_.1.1.2, hk_.1.2⟩)); have n2_ := Aside0.mk (Kd.R_reok rfl hy0 (fun k_ e_ => HO511.out.1 k_ e_)); have n3_ := Aside0.mk (Kd.R_mono (ok' := fun k_ => some k_ ≠ (.slice Ao16 x7_3.length co16 : Value).ownBlock ∧ some k_ ≠ (.slice Ao62 x8_3.length co62 : Value).ownBlock ∧ some k_ ≠ (.slice Ao65 t508.length co65 : Value).ownBlock) (Kd.R_keptB (HO515.out) hkp (fun k_ hk_ hs_ => (hk_.2) hs_)) (fun k_ hk_ => ⟨hk_.1.1.1.2, hk_.1.1.2, hk_.1.2⟩)); have n4_ := Aside0.mk (hb); clear HO_7; clear HO_8; clear HO511; clear HO515; clear HB; have HO_7 := n0_; have HO_8 := n1_; have HO511 := n2_; have HO515 := n3_; have HB := n4_; clear n0_ n1_ n2_ n3_ n4_; (try clear hb); (try clear hkp); (try clear hy0)) | (go_at_call 12; (with_reducible refine (nat_Add.calls _ _ x7_3 _ _ x8_3 t518 _ ?side1 ?side2 ?side3 ?side4 A54.out).mono ?_); (case side1 => repeat (first | exact (Kd.R_reads' HO_7.out).2.2 | (with_reducible refine Kd.C_alloc ?_ _) | (with_reducible refine Kd.C_drewN ?_ _) | (with_reducible refine Kd.C_drew ?_))); (case side2 => exact (Kd.R_reads' HO_7.out).2.1); (case side3 => repeat (first | exact (Kd.R_reads' HO_8.out).2.2 | (with_reducible refine Kd.C_alloc ?_ _) | (with_reducible refine Kd.C_drewN ?_ _) | (with_reducible refine Kd.C_drew ?_))); (case side4 => exact (Kd.R_reads' HO_8.out).2.1); rintro e w68 ⟨v519, rfl, ho0, hb⟩; have n0_ := Aside0.mk (Kd.R_elder' (by (with_reducible repeat (first | apply Kd.R_alloc | apply Kd.R_drewN | apply Kd.R_drew)); exact HO_7.out) (Kd.R_base ho0) hb); have n1_ := Aside0.mk (Kd.R_elder' (by (with_reducible repeat (first | apply Kd.R_alloc | apply Kd.R_drewN | apply Kd.R_drew)); exact HO_8.out) (Kd.R_base ho0) hb); have n2_ := Aside0.mk (Kd.R_elder' (by (with_reducible repeat (first | apply Kd.R_alloc | apply Kd.R_drewN | apply Kd.R_drew)); exact HO511.out) (Kd.R_base ho0) hb); have n3_ := Aside0.mk (Kd.R_elder' (by (with_reducible repeat (first | apply Kd.R_alloc | apply Kd.R_drewN | apply Kd.R_drew)); exact HO515.out) (Kd.R_base ho0) hb); have n4_ := Aside0.mk (Kd.R_lower (Kd.R_new' (Kd.R_new' (Kd.R_new' (Kd.R_new' ho0 (Kd.R_lt (by (with_reducible repeat (first | apply Kd.R_alloc | apply Kd.R_drewN | apply Kd.R_drew)); exact HO_7.out))) (Kd.R_lt (by (with_reducible repeat (first | apply Kd.R_alloc | apply Kd.R_drewN | apply Kd.R_drew)); exact HO_8.out))) (Kd.R_lt (by (with_reducible repeat (first | apply Kd.R_alloc | apply Kd.R_drewN | apply Kd.R_drew)); exact HO511.out))) (Kd.R_lt (by (with_reducible repeat (first | apply Kd.R_alloc | apply Kd.R_drewN | apply Kd.R_drew)); exact HO515.out))) (below_size (by repeat (first | (with_reducible first | exact HB.out | apply below_alloc | apply pw_below_drewN | apply below_drew1) | exact HB.out)))); have n5_ := Aside0.mk (below_step (by repeat (first | (with_reducible first | exact HB.out | apply below_alloc | apply pw_below_drewN | apply below_drew1) | exact HB.out)) hb); clear HO_7; clear HO_8; clear HO511; clear HO515; clear HB; have HO_7 := n0_; have HO_8 := n1_; have HO511 := n2_; have HO515 := n3_; have HO520 := n4_; have HB := n5_; clear n0_ n1_ n2_ n3_ n4_ n5_; (try clear hb); (try clear hb2); (try clear hk); (try clear hi); (try clear ho0)) | (go_at_call 33; (with_reducible refine (alidaderef01_Add.calls k3 _ _ l0 _ _ l1 t521 _ ?side1 ?side2 ?side3 ?side4 A55.out).mono ?_); (case side1 => repeat (first | exact (Kd.C_below HR0.out HB.out) | (with_reducible refine Kd.C_alloc ?_ _) | (with_reducible refine Kd.C_drewN ?_ _) | (with_reducible refine Kd.C_drew ?_))); (case side2 => exact HC0.out); (case side3 => repeat (first | exact (Kd.C_below HR1.out HB.out) | (with_reducible refine Kd.C_alloc ?_ _) | (with_reducible refine Kd.C_drewN ?_ _) | (with_reducible refine Kd.C_drew ?_))); (case side4 => exact HC1.out); rintro e w69 ⟨v522, rfl, ho0, hb⟩; have n0_ := Aside0.mk (Kd.R_elder' (by (with_reducible repeat (first | apply Kd.R_alloc | apply Kd.R_drewN | apply Kd.R_drew)); exact HO_7.out) (Kd.R_base ho0) hb); have n1_ := Aside0.mk (Kd.R_elder' (by (with_reducible repeat (first | apply Kd.R_alloc | apply Kd.R_drewN | apply Kd.R_drew)); exact HO_8.out) (Kd.R_base ho0) hb); have n2_ := Aside0.mk (Kd.R_elder' (by (with_reducible repeat (first | apply Kd.R_alloc | apply Kd.R_drewN | apply Kd.R_drew)); exact HO511.out) (Kd.R_base ho0) hb); have n3_ := Aside0.mk (Kd.R_elder' (by (with_reducible repeat (first | apply Kd.R_alloc | apply Kd.R_drewN | apply Kd.R_drew)); exact HO515.out) (Kd.R_base ho0) hb); have n4_ := Aside0.mk (Kd.R_elder' (by (with_reducible repeat (first | apply Kd.R_alloc | apply Kd.R_drewN | apply Kd.R_drew)); exact HO520.out) (Kd.R_base ho0) hb); have n5_ := Aside0.mk (Kd.R_lower (Kd.R_new' (Kd.R_new' (Kd.R_new' (Kd.R_new' (Kd.R_new' ho0 (Kd.R_lt (by (with_reducible repeat (first | apply Kd.R_alloc | apply Kd.R_drewN | apply Kd.R_drew)); exact HO_7.out))) (Kd.R_lt (by (with_reducible repeat (first | apply Kd.R_alloc | apply Kd.R_drewN | apply Kd.R_drew)); exact HO_8.out))) (Kd.R_lt (by (with_reducible repeat (first | apply Kd.R_alloc | apply Kd.R_drewN | apply Kd.R_drew)); exact HO511.out))) (Kd.R_lt (by (with_reducible repeat (first | apply Kd.R_alloc | apply Kd.R_drewN | apply Kd.R_drew)); exact HO515.out))) (Kd.R_lt (by (with_reducible repeat (first | apply Kd.R_alloc | apply Kd.R_drewN | apply Kd.R_drew)); exact HO520.out))) (below_size (by repeat (first | (with_reducible first | exact HB.out | apply below_alloc | apply pw_below_drewN | apply below_drew1) | exact HB.out)))); have n6_ := Aside0.mk (below_step (by repeat (first | (with_reducible first | exact HB.out | apply below_alloc | apply pw_below_drewN | apply below_drew1) | exact HB.out)) hb); clear HO_7; clear HO_8; clear HO511; clear HO515; clear HO520; clear HB; have HO_7 := n0_; have HO_8 := n1_; have HO511 := n2_; have HO515 := n3_; have HO520 := n4_; have HO523 := n5_; have HB := n6_; clear n0_ n1_ n2_ n3_ n4_ n5_ n6_; (try clear hb); (try clear hb2); (try clear hk); (try clear hi); (try clear ho0); obtain ⟨Ao70, co70, eo70⟩ := Kd.R_slice HO520.out; subst eo70; obtain ⟨Ao71, co71, eo71⟩ := Kd.R_slice HO523.out; subst eo71) | (go_at_call 20; (with_reducible refine (alidadelaw01_is.calls k3 (fun k_ => some k_ = (.slice Ao70 t518.length co70 : Value).ownBlock) (.slice Ao70 t518.length co70) t518 _ _ t521 true t525 w _ ?side1 ?side2 ?side3 ?side4 A56.out).mono ?_); (case side1 => repeat (first | (with_reducible first | exact HB.out | apply below_alloc | apply pw_below_drewN | apply below_drew1) | exact HB.out)); (case side2 => exact Kd.R_tight rfl HO520.out); (case side3 => exact Kd.C_kept_own (HO523.out) (fun k_ hk_ hs_ => (hk_.2) hs_)); (case side4 => exact (Kd.R_reads' HO523.out).2.1); rintro e w72 ⟨rfl, hy0, hb, hkp⟩; have n0_ := Aside0.mk (Kd.R_mono (ok' := fun k_ => some k_ ≠ (.slice Ao62 x8_3.length co62 : Value).ownBlock ∧ some k_ ≠ (.slice Ao65 t508.length co65 : Value).ownBlock ∧ some k_ ≠ (.slice Ao66 t512.length co66 : Value).ownBlock ∧ some k_ ≠ (.slice Ao70 t518.length co70 : Value).ownBlock ∧ some k_ ≠ (.slice Ao71 t521.length co71 : Value).ownBlock) (Kd.R_keptB (HO_7.out) hkp (fun k_ hk_ hs_ => (hk_.1.2) hs_)) (fun k_ hk_ => ⟨hk_.1.1.1.1, hk_.1.1.1.2.1, hk_.1.1.1.2.2, hk_.1.1.2, hk_.1.2⟩)); have n1_ := Aside0.mk (Kd.R_mono (ok' := fun k_ => some k_ ≠ (.slice Ao16 x7_3.length co16 : Value).ownBlock ∧ some k_ ≠ (.slice Ao65 t508.length co65 : Value).ownBlock ∧ some k_ ≠ (.slice Ao66 t512.length co66 : Value).ownBlock ∧ some k_ ≠ (.slice Ao70 t518.length co70 : Value).ownBlock ∧ some k_ ≠ (.slice Ao71 t521.length co71 : Value).ownBlock) (Kd.R_keptB (HO_8.out) hkp (fun k_ hk_ hs_ => (hk_.1.2) hs_)) (fun k_ hk_ => ⟨hk_.1.1.1.1, hk_.1.1.1.2.1, hk_.1.1.1.2.2, hk_.1.1.2, hk_.1.2⟩)); have n2_ := Aside0.mk (Kd.R_mono (ok' := fun k_ => some k_ ≠ (.slice Ao16 x7_3.length co16 : Value).ownBlock ∧ some k_ ≠ (.slice Ao62 x8_3.length co62 : Value).ownBlock ∧ some k_ ≠ (.slice Ao66 t512.length co66 : Value).ownBlock ∧ some k_ ≠ (.slice Ao70 t518.length co70 : Value).ownBlock ∧ some k_ ≠ (.slice Ao71 t521.length co71 : Value).ownBlock) (Kd.R_keptB (HO511.out) hkp (fun k_ hk_ hs_ => (hk_.1.2) hs_)) (fun k_ hk_ => ⟨hk_.1.1.1.1.1.2, hk_.1.1.1.1.2, hk_.1.1.1.2, hk_.1.1.2, hk_.1.2⟩)); have n3_ := Aside0.mk (Kd.R_mono (ok' := fun k_ => some k_ ≠ (.slice Ao16 x7_3.length co16 : Value).ownBlock ∧ some k_ ≠ (.slice Ao62 x8_3.length co62 : Value).ownBlock ∧ some k_ ≠ (.slice Ao65 t508.length co65 : Value).ownBlock ∧ some k_ ≠ (.slice Ao70 t518.length co70 : Value).ownBlock ∧ some k_ ≠ (.slice Ao71 t521.length co71 : Value).ownBlock) (Kd.R_keptB (HO515.out) hkp (fun k_ hk_ hs_ => (hk_.1.2) hs_)) (fun k_ hk_ => ⟨hk_.1.1.1.1, hk_.1.1.1.2.1, hk_.1.1.1.2.2, hk_.1.1.2, hk_.1.2⟩)); have n4_ := Aside0.mk (Kd.R_reok rfl hy0 (fun k_ e_ => HO520.out.1 k_ e_)); have n5_ := Aside0.mk (Kd.R_mono (ok' := fun k_ => some k_ ≠ (.slice Ao16 x7_3.length co16 : Value).ownBlock ∧ some k_ ≠ (.slice Ao62 x8_3.length co62 : Value).ownBlock ∧ some k_ ≠ (.slice Ao65 t508.length co65 : Value).ownBlock ∧ some k_ ≠ (.slice Ao66 t512.length co66 : Value).ownBlock ∧ some k_ ≠ (.slice Ao70 t518.length co70 : Value).ownBlock) (Kd.R_keptB (HO523.out) hkp (fun k_ hk_ hs_ => (hk_.2) hs_)) (fun k_ hk_ => ⟨hk_.1.1.1.1.1.2, hk_.1.1.1.1.2, hk_.1.1.1.2, hk_.1.1.2, hk_.1.2⟩)); have n6_ := Aside0.mk (hb); clear HO_7; clear HO_8; clear HO511; clear HO515; clear HO520; clear HO523; clear HB; have HO_7 := n0_; have HO_8 := n1_; have HO511 := n2_; have HO515 := n3_; have HO520 := n4_; have HO523 := n5_; have HB := n6_; clear n0_ n1_ n2_ n3_ n4_ n5_ n6_; (try clear hb); (try clear hkp); (try clear hy0)) | (go_at_call 34; (with_reducible refine (nat_Of.calls k3 a2 t526 _ A58.out).mono ?_); rintro e w73 ⟨v527, rfl, ho0, hb⟩; have n0_ := Aside0.mk (Kd.R_elder' (by (with_reducible repeat (first | apply Kd.R_alloc | apply Kd.R_drewN | apply Kd.R_drew)); exact HO_7.out) (Kd.R_base ho0) hb); have n1_ := Aside0.mk (Kd.R_elder' (by (with_reducible repeat (first | apply Kd.R_alloc | apply Kd.R_drewN | apply Kd.R_drew)); exact HO_8.out) (Kd.R_base ho0) hb); have n2_ := Aside0.mk (Kd.R_elder' (by (with_reducible repeat (first | apply Kd.R_alloc | apply Kd.R_drewN | apply Kd.R_drew)); exact HO511.out) (Kd.R_base ho0) hb); have n3_ := Aside0.mk (Kd.R_elder' (by (with_reducible repeat (first | apply Kd.R_alloc | apply Kd.R_drewN | apply Kd.R_drew)); exact HO515.out) (Kd.R_base ho0) hb); have n4_ := Aside0.mk (Kd.R_elder' (by (with_reducible repeat (first | apply Kd.R_alloc | apply Kd.R_drewN | apply Kd.R_drew)); exact HO520.out) (Kd.R_base ho0) hb); have n5_ := Aside0.mk (Kd.R_elder' (by (with_reducible repeat (first | apply Kd.R_alloc | apply Kd.R_drewN | apply Kd.R_drew)); exact HO523.out) (Kd.R_base ho0) hb); have n6_ := Aside0.mk (Kd.R_lower (Kd.R_new' (Kd.R_new' (Kd.R_new' (Kd.R_new' (Kd.R_new' (Kd.R_new' ho0 (Kd.R_lt (by (with_reducible repeat (first | apply Kd.R_alloc | apply Kd.R_drewN | apply Kd.R_drew)); exact HO_7.out))) (Kd.R_lt (by (with_reducible repeat (first | apply Kd.R_alloc | apply Kd.R_drewN | apply Kd.R_drew)); exact HO_8.out))) (Kd.R_lt (by (with_reducible repeat (first | apply Kd.R_alloc | apply Kd.R_drewN | apply Kd.R_drew)); exact HO511.out))) (Kd.R_lt (by (with_reducible repeat (first | apply Kd.R_alloc | apply Kd.R_drewN | apply Kd.R_drew)); exact HO515.out))) (Kd.R_lt (by (with_reducible repeat (first | apply Kd.R_alloc | apply Kd.R_drewN | apply Kd.R_drew)); exact HO520.out))) (Kd.R_lt (by (with_reducible repeat (first | apply Kd.R_alloc | apply Kd.R_drewN | apply Kd.R_drew)); exact HO523.out))) (below_size (by repeat (first | (with_reducible first | exact HB.out | apply below_alloc | apply pw_below_drewN | apply below_drew1) | exact HB.out)))); have n7_ := Aside0.mk (below_step (by repeat (first | (with_reducible first | exact HB.out | apply below_alloc | apply pw_below_drewN | apply below_drew1) | exact HB.out)) hb); clear HO_7; clear HO_8; clear HO511; clear HO515; clear HO520; clear HO523; clear HB; have HO_7 := n0_; have HO_8 := n1_; have HO511 := n2_; have HO515 := n3_; have HO520 := n4_; have HO523 := n5_; have HO528 := n6_; have HB := n7_; clear n0_ n1_ n2_ n3_ n4_ n5_ n6_ n7_; (try clear hb); (try clear hb2); (try clear hk); (try clear hi); (try clear ho0)) | (go_at_call 35; (with_reducible refine (alidaderef01_Of.calls k3 a2 t529 _ A59.out).mono ?_); rintro e w74 ⟨v530, rfl, ho0, hb⟩; have n0_ := Aside0.mk (Kd.R_elder' (by (with_reducible repeat (first | apply Kd.R_alloc | apply Kd.R_drewN | apply Kd.R_drew)); exact HO_7.out) (Kd.R_base ho0) hb); have n1_ := Aside0.mk (Kd.R_elder' (by (with_reducible repeat (first | apply Kd.R_alloc | apply Kd.R_drewN | apply Kd.R_drew)); exact HO_8.out) (Kd.R_base ho0) hb); have n2_ := Aside0.mk (Kd.R_elder' (by (with_reducible repeat (first | apply Kd.R_alloc | apply Kd.R_drewN | apply Kd.R_drew)); exact HO511.out) (Kd.R_base ho0) hb); have n3_ := Aside0.mk (Kd.R_elder' (by (with_reducible repeat (first | apply Kd.R_alloc | apply Kd.R_drewN | apply Kd.R_drew)); exact HO515.out) (Kd.R_base ho0) hb); have n4_ := Aside0.mk (Kd.R_elder' (by (with_reducible repeat (first | apply Kd.R_alloc | apply Kd.R_drewN | apply Kd.R_drew)); exact HO520.out) (Kd.R_base ho0) hb); have n5_ := Aside0.mk (Kd.R_elder' (by (with_reducible repeat (first | apply Kd.R_alloc | apply Kd.R_drewN | apply Kd.R_drew)); exact HO523.out) (Kd.R_base ho0) hb); have n6_ := Aside0.mk (Kd.R_elder' (by (with_reducible repeat (first | apply Kd.R_alloc | apply Kd.R_drewN | apply Kd.R_drew)); exact HO528.out) (Kd.R_base ho0) hb); have n7_ := Aside0.mk (Kd.R_lower (Kd.R_new' (Kd.R_new' (Kd.R_new' (Kd.R_new' (Kd.R_new' (Kd.R_new' (Kd.R_new' ho0 (Kd.R_lt (by (with_reducible repeat (first | apply Kd.R_alloc | apply Kd.R_drewN | apply Kd.R_drew)); exact HO_7.out))) (Kd.R_lt (by (with_reducible repeat (first | apply Kd.R_alloc | apply Kd.R_drewN | apply Kd.R_drew)); exact HO_8.out))) (Kd.R_lt (by (with_reducible repeat (first | apply Kd.R_alloc | apply Kd.R_drewN | apply Kd.R_drew)); exact HO511.out))) (Kd.R_lt (by (with_reducible repeat (first | apply Kd.R_alloc | apply Kd.R_drewN | apply Kd.R_drew)); exact HO515.out))) (Kd.R_lt (by (with_reducible repeat (first | apply Kd.R_alloc | apply Kd.R_drewN | apply Kd.R_drew)); exact HO520.out))) (Kd.R_lt (by (with_reducible repeat (first | apply Kd.R_alloc | apply Kd.R_drewN | apply Kd.R_drew)); exact HO523.out))) (Kd.R_lt (by (with_reducible repeat (first | apply Kd.R_alloc | apply Kd.R_drewN | apply Kd.R_drew)); exact HO528.out))) (below_size (by repeat (first | (with_reducible first | exact HB.out | apply below_alloc | apply pw_below_drewN | apply below_drew1) | exact HB.out)))); have n8_ := Aside0.mk (below_step (by repeat (first | (with_reducible first | exact HB.out | apply below_alloc | apply pw_below_drewN | apply below_drew1) | exact HB.out)) hb); clear HO_7; clear HO_8; clear HO511; clear HO515; clear HO520; clear HO523; clear HO528; clear HB; have HO_7 := n0_; have HO_8 := n1_; have HO511 := n2_; have HO515 := n3_; have HO520 := n4_; have HO523 := n5_; have HO528 := n6_; have HO531 := n7_; have HB := n8_; clear n0_ n1_ n2_ n3_ n4_ n5_ n6_ n7_ n8_; (try clear hb); (try clear hb2); (try clear hk); (try clear hi); (try clear ho0); obtain ⟨Ao75, co75, eo75⟩ := Kd.R_slice HO528.out; subst eo75; obtain ⟨Ao76, co76, eo76⟩ := Kd.R_slice HO531.out; subst eo76) | (go_at_call 20; (with_reducible refine (alidadelaw01_is.calls k3 (fun k_ => some k_ = (.slice Ao75 t526.length co75 : Value).ownBlock) (.slice Ao75 t526.length co75) t526 _ _ t529 true t533 w _ ?side1 ?side2 ?side3 ?side4 A60.out).mono ?_); (case side1 => repeat (first | (with_reducible first | exact HB.out | apply below_alloc | apply pw_below_drewN | apply below_drew1) | exact HB.out)); (case side2 => exact Kd.R_tight rfl HO528.out); (case side3 => exact Kd.C_kept_own (HO531.out) (fun k_ hk_ hs_ => (hk_.2) hs_)); (case side4 => exact (Kd.R_reads' HO531.out).2.1); rintro e w77 ⟨rfl, hy0, hb, hkp⟩; have n0_ := Aside0.mk (Kd.R_mono (ok' := fun k_ => some k_ ≠ (.slice Ao62 x8_3.length co62 : Value).ownBlock ∧ some k_ ≠ (.slice Ao65 t508.length co65 : Value).ownBlock ∧ some k_ ≠ (.slice Ao66 t512.length co66 : Value).ownBlock ∧ some k_ ≠ (.slice Ao70 t518.length co70 : Value).ownBlock ∧ some k_ ≠ (.slice Ao71 t521.length co71 : Value).ownBlock ∧ some k_ ≠ (.slice Ao75 t526.length co75 : Value).ownBlock ∧ some k_ ≠ (.slice Ao76 t529.length co76 : Value).ownBlock) (Kd.R_keptB (HO_7.out) hkp (fun k_ hk_ hs_ => (hk_.1.2) hs_)) (fun k_ hk_ => ⟨hk_.1.1.1.1, hk_.1.1.1.2.1, hk_.1.1.1.2.2.1, hk_.1.1.1.2.2.2.1, hk_.1.1.1.2.2.2.2, hk_.1.1.2, hk_.1.2⟩)); have n1_ := Aside0.mk (Kd.R_mono (ok' := fun k_ => some k_ ≠ (.slice Ao16 x7_3.length co16 : Value).ownBlock ∧ some k_ ≠ (.slice Ao65 t508.length co65 : Value).ownBlock ∧ some k_ ≠ (.slice Ao66 t512.length co66 : Value).ownBlock ∧ some k_ ≠ (.slice Ao70 t518.length co70 : Value).ownBlock ∧ some k_ ≠ (.slice Ao71 t521.length co71 : Value).ownBlock ∧ some k_ ≠ (.slice Ao75 t526.length co75 : Value).ownBlock ∧ some k_ ≠ (.slice Ao76 t529.length co76 : Value).ownBlock) (Kd.R_keptB (HO_8.out) hkp (fun k_ hk_ hs_ => (hk_.1.2) hs_)) (fun k_ hk_ => ⟨hk_.1.1.1.1, hk_.1.1.1.2.1, hk_.1.1.1.2.2.1, hk_.1.1.1.2.2.2.1, hk_.1.1.1.2.2.2.2, hk_.1.1.2, hk_.1.2⟩)); have n2_ := Aside0.mk (Kd.R_mono (ok' := fun k_ => some k_ ≠ (.slice Ao16 x7_3.length co16 : Value).ownBlock ∧ some k_ ≠ (.slice Ao62 x8_3.length co62 : Value).ownBlock ∧ some k_ ≠ (.slice Ao66 t512.length co66 : Value).ownBlock ∧ some k_ ≠ (.slice Ao70 t518.length co70 : Value).ownBlock ∧ some k_ ≠ (.slice Ao71 t521.length co71 : Value).ownBlock ∧ some k_ ≠ (.slice Ao75 t526.length co75 : Value).ownBlock ∧ some k_ ≠ (.slice Ao76 t529.length co76 : Value).ownBlock) (Kd.R_keptB (HO511.out) hkp (fun k_ hk_ hs_ => (hk_.1.2) hs_)) (fun k_ hk_ => ⟨hk_.1.1.1.1, hk_.1.1.1.2.1, hk_.1.1.1.2.2.1, hk_.1.1.1.2.2.2.1, hk_.1.1.1.2.2.2.2, hk_.1.1.2, hk_.1.2⟩)); have n3_ := Aside0.mk (Kd.R_mono (ok' := fun k_ => some k_ ≠ (.slice Ao16 x7_3.length co16 : Value).ownBlock ∧ some k_ ≠ (.slice Ao62 x8_3.length co62 : Value).ownBlock ∧ some k_ ≠ (.slice Ao65 t508.length co65 : Value).ownBlock ∧ some k_ ≠ (.slice Ao70 t518.length co70 : Value).ownBlock ∧ some k_ ≠ (.slice Ao71 t521.length co71 : Value).ownBlock ∧ some k_ ≠ (.slice Ao75 t526.length co75 : Value).ownBlock ∧ some k_ ≠ (.slice Ao76 t529.length co76 : Value).ownBlock) (Kd.R_keptB (HO515.out) hkp (fun k_ hk_ hs_ => (hk_.1.2) hs_)) (fun k_ hk_ => ⟨hk_.1.1.1.1, hk_.1.1.1.2.1, hk_.1.1.1.2.2.1, hk_.1.1.1.2.2.2.1, hk_.1.1.1.2.2.2.2, hk_.1.1.2, hk_.1.2⟩)); have n4_ := Aside0.mk (Kd.R_mono (ok' := fun k_ => some k_ ≠ (.slice Ao16 x7_3.length co16 : Value).ownBlock ∧ some k_ ≠ (.slice Ao62 x8_3.length co62 : Value).ownBlock ∧ some k_ ≠ (.slice Ao65 t508.length co65 : Value).ownBlock ∧ some k_ ≠ (.slice Ao66 t512.length co66 : Value).ownBlock ∧ some k_ ≠ (.slice Ao71 t521.length co71 : Value).ownBlock ∧ some k_ ≠ (.slice Ao75 t526.length co75 : Value).ownBlock ∧ some k_ ≠ (.slice Ao76 t529.length co76 : Value).ownBlock) (Kd.R_keptB (HO520.out) hkp (fun k_ hk_ hs_ => (hk_.1.2) hs_)) (fun k_ hk_ => ⟨hk_.1.1.1.1.1.1.1.2, hk_.1.1.1.1.1.1.2, hk_.1.1.1.1.1.2, hk_.1.1.1.1.2, hk_.1.1.1.2, hk_.1.1.2, hk_.1.2⟩)); have n5_ := Aside0.mk (Kd.R_mono (ok' := fun k_ => some k_ ≠ (.slice Ao16 x7_3.length co16 : Value).ownBlock ∧ some k_ ≠ (.slice Ao62 x8_3.length co62 : Value).ownBlock ∧ some k_ ≠ (.slice Ao65 t508.length co65 : Value).ownBlock ∧ some k_ ≠ (.slice Ao66 t512.length co66 : Value).ownBlock ∧ some k_ ≠ (.slice Ao70 t518.length co70 : Value).ownBlock ∧ some k_ ≠ (.slice Ao75 t526.length co75 : Value).ownBlock ∧ some k_ ≠ (.slice Ao76 t529.length co76 : Value).ownBlock) (Kd.R_keptB (HO523.out) hkp (fun k_ hk_ hs_ => (hk_.1.2) hs_)) (fun k_ hk_ => ⟨hk_.1.1.1.1, hk_.1.1.1.2.1, hk_.1.1.1.2.2.1, hk_.1.1.1.2.2.2.1, hk_.1.1.1.2.2.2.2, hk_.1.1.2, hk_.1.2⟩)); have n6_ := Aside0.mk (Kd.R_reok rfl hy0 (fun k_ e_ => HO528.out.1 k_ e_)); have n7_ := Aside0.mk (Kd.R_mono (ok' := fun k_ => some k_ ≠ (.slice Ao16 x7_3.length co16 : Value).ownBlock ∧ some k_ ≠ (.slice Ao62 x8_3.length co62 : Value).ownBlock ∧ some k_ ≠ (.slice Ao65 t508.length co65 : Value).ownBlock ∧ some k_ ≠ (.slice Ao66 t512.length co66 : Value).ownBlock ∧ some k_ ≠ (.slice Ao70 t518.length co70 : Value).ownBlock ∧ some k_ ≠ (.slice Ao71 t521.length co71 : Value).ownBlock ∧ some k_ ≠ (.slice Ao75 t526.length co75 : Value).ownBlock) (Kd.R_keptB (HO531.out) hkp (fun k_ hk_ hs_ => (hk_.2) hs_)) (fun k_ hk_ => ⟨hk_.1.1.1.1.1.1.1.2, hk_.1.1.1.1.1.1.2, hk_.1.1.1.1.1.2, hk_.1.1.1.1.2, hk_.1.1.1.2, hk_.1.1.2, hk_.1.2⟩)); have n8_ := Aside0.mk (hb); clear HO_7; clear HO_8; clear HO511; clear HO515; clear HO520; clear HO523; clear HO528; clear HO531; clear HB; have HO_7 := n0_; have HO_8 := n1_; have HO511 := n2_; have HO515 := n3_; have HO520 := n4_; have HO523 := n5_; have HO528 := n6_; have HO531 := n7_; have HB := n8_; clear n0_ n1_ n2_ n3_ n4_ n5_ n6_ n7_ n8_; (try clear hb); (try clear hkp); (try clear hy0)))
                              (try simp only [← hl7_3])
                              go_roundg k3
                              case measure => have := HJ3.out; have := HJ12.out; have := HK3.out; omega
                              case rel => exact ⟨(x7_3), (x8_3), (wrap64 (x13_3 + 1)), (by first | rfl | (simp; done) | (simp [*]; done)), H', ⟨by have := HJ3.out; have := HJ12.out; have := HK3.out; omega⟩, ⟨by (try simp only [hl7_3]); (with_reducible repeat (first | apply Kd.R_alloc | apply Kd.R_drewN | apply Kd.R_drew)); exact Kd.R_mono HO_7.out (fun _ hk => hk.1)⟩, ⟨by (try simp only [hl7_3]); (with_reducible repeat (first | apply Kd.R_alloc | apply Kd.R_drewN | apply Kd.R_drew)); exact Kd.R_mono HO_8.out (fun _ hk => hk.1)⟩, ⟨by repeat (first | (with_reducible first | exact HB.out | apply below_alloc | apply pw_below_drewN | apply below_drew1) | exact HB.out)⟩⟩
                            · replace c61 := Bool.eq_false_iff.mpr c61
                              subst c61
                              have H1 : (none) = some r := by rw [if_neg (show ¬ (false = true) by decide)] at H; exact H
                              clear H
                              have H := H1
                              clear H1
                              exact absurd H (by simp)
                          · replace c57 := Bool.eq_false_iff.mpr c57
                            subst c57
                            have H1 : (none) = some r := by rw [if_neg (show ¬ (false = true) by decide)] at H; exact H
                            clear H
                            have H := H1
                            clear H1
                            exact absurd H (by simp)
                        · replace c53 := Bool.eq_false_iff.mpr c53
                          subst c53
                          have H1 : (none) = some r := by rw [if_neg (show ¬ (false = true) by decide)] at H; exact H
                          clear H
                          have H := H1
                          clear H1
                          exact absurd H (by simp)
                      · replace c51 := Bool.eq_false_iff.mpr c51
                        subst c51
                        have H1 : (none) = some r := by rw [if_neg (show ¬ (false = true) by decide)] at H; exact H
                        clear H
                        have H := H1
                        clear H1
                        exact absurd H (by simp)
                    · replace c50 := Bool.eq_false_iff.mpr c50
                      subst c50
                      have H1 : (if t513 = true then (none) else ((alidadelaw01_is.f k3 t508 t512).bind fun bt534 => (if bt534.1 = true then ((nat_Add.f x7_3 x8_3).bind fun t536 => ((alidaderef01_Add.f k3 l0 l1).bind fun t539 => ((alidadelaw01_is.f k3 t536 t539).bind fun bt542 => (if bt542.1 = true then ((nat_Of.f k3 a2).bind fun t544 => ((alidaderef01_Of.f k3 a2).bind fun t547 => ((alidadelaw01_is.f k3 t544 t547).bind fun bt550 => (if bt550.1 = true then (alidadelaw01_NatTells.l0 k3 l0 l1 a2 x7_3 x8_3 (wrap64 (x13_3 + 1))) else (none))))) else (none))))) else (none)))) = some r := by rw [if_neg (show ¬ (false = true) by decide)] at H; exact H
                      clear H
                      have H := H1
                      clear H1
                      by_cases c78 : t513 = true
                      · subst c78
                        have H1 : (none) = some r := by rw [if_pos rfl] at H; exact H
                        clear H
                        have H := H1
                        clear H1
                        exact absurd H (by simp)
                      · replace c78 := Bool.eq_false_iff.mpr c78
                        subst c78
                        have H1 : ((alidadelaw01_is.f k3 t508 t512).bind fun bt534 => (if bt534.1 = true then ((nat_Add.f x7_3 x8_3).bind fun t536 => ((alidaderef01_Add.f k3 l0 l1).bind fun t539 => ((alidadelaw01_is.f k3 t536 t539).bind fun bt542 => (if bt542.1 = true then ((nat_Of.f k3 a2).bind fun t544 => ((alidaderef01_Of.f k3 a2).bind fun t547 => ((alidadelaw01_is.f k3 t544 t547).bind fun bt550 => (if bt550.1 = true then (alidadelaw01_NatTells.l0 k3 l0 l1 a2 x7_3 x8_3 (wrap64 (x13_3 + 1))) else (none))))) else (none))))) else (none))) = some r := by rw [if_neg (show ¬ (false = true) by decide)] at H; exact H
                        clear H
                        have H := H1
                        clear H1
                        replace H := Option.bind_eq_some_iff.mp H
                        obtain ⟨⟨t534, t535⟩, A790, H⟩ := H
                        replace H : (if t534 = true then ((nat_Add.f x7_3 x8_3).bind fun t536 => ((alidaderef01_Add.f k3 l0 l1).bind fun t539 => ((alidadelaw01_is.f k3 t536 t539).bind fun bt542 => (if bt542.1 = true then ((nat_Of.f k3 a2).bind fun t544 => ((alidaderef01_Of.f k3 a2).bind fun t547 => ((alidadelaw01_is.f k3 t544 t547).bind fun bt550 => (if bt550.1 = true then (alidadelaw01_NatTells.l0 k3 l0 l1 a2 x7_3 x8_3 (wrap64 (x13_3 + 1))) else (none))))) else (none))))) else (none)) = some r := H
                        have A79 := Aside0.mk A790
                        clear A790
                        by_cases c80 : t534 = true
                        · subst c80
                          have H1 : ((nat_Add.f x7_3 x8_3).bind fun t536 => ((alidaderef01_Add.f k3 l0 l1).bind fun t539 => ((alidadelaw01_is.f k3 t536 t539).bind fun bt542 => (if bt542.1 = true then ((nat_Of.f k3 a2).bind fun t544 => ((alidaderef01_Of.f k3 a2).bind fun t547 => ((alidadelaw01_is.f k3 t544 t547).bind fun bt550 => (if bt550.1 = true then (alidadelaw01_NatTells.l0 k3 l0 l1 a2 x7_3 x8_3 (wrap64 (x13_3 + 1))) else (none))))) else (none))))) = some r := by rw [if_pos rfl] at H; exact H
                          clear H
                          have H := H1
                          clear H1
                          replace H := Option.bind_eq_some_iff.mp H
                          obtain ⟨t536, A810, H⟩ := H
                          replace H : ((alidaderef01_Add.f k3 l0 l1).bind fun t539 => ((alidadelaw01_is.f k3 t536 t539).bind fun bt542 => (if bt542.1 = true then ((nat_Of.f k3 a2).bind fun t544 => ((alidaderef01_Of.f k3 a2).bind fun t547 => ((alidadelaw01_is.f k3 t544 t547).bind fun bt550 => (if bt550.1 = true then (alidadelaw01_NatTells.l0 k3 l0 l1 a2 x7_3 x8_3 (wrap64 (x13_3 + 1))) else (none))))) else (none)))) = some r := H
                          have A81 := Aside0.mk A810
                          clear A810
                          replace H := Option.bind_eq_some_iff.mp H
                          obtain ⟨t539, A820, H⟩ := H
                          replace H : ((alidadelaw01_is.f k3 t536 t539).bind fun bt542 => (if bt542.1 = true then ((nat_Of.f k3 a2).bind fun t544 => ((alidaderef01_Of.f k3 a2).bind fun t547 => ((alidadelaw01_is.f k3 t544 t547).bind fun bt550 => (if bt550.1 = true then (alidadelaw01_NatTells.l0 k3 l0 l1 a2 x7_3 x8_3 (wrap64 (x13_3 + 1))) else (none))))) else (none))) = some r := H
                          have A82 := Aside0.mk A820
                          clear A820
                          replace H := Option.bind_eq_some_iff.mp H
                          obtain ⟨⟨t542, t543⟩, A830, H⟩ := H
                          replace H : (if t542 = true then ((nat_Of.f k3 a2).bind fun t544 => ((alidaderef01_Of.f k3 a2).bind fun t547 => ((alidadelaw01_is.f k3 t544 t547).bind fun bt550 => (if bt550.1 = true then (alidadelaw01_NatTells.l0 k3 l0 l1 a2 x7_3 x8_3 (wrap64 (x13_3 + 1))) else (none))))) else (none)) = some r := H
                          have A83 := Aside0.mk A830
                          clear A830
                          by_cases c84 : t542 = true
                          · subst c84
                            have H1 : ((nat_Of.f k3 a2).bind fun t544 => ((alidaderef01_Of.f k3 a2).bind fun t547 => ((alidadelaw01_is.f k3 t544 t547).bind fun bt550 => (if bt550.1 = true then (alidadelaw01_NatTells.l0 k3 l0 l1 a2 x7_3 x8_3 (wrap64 (x13_3 + 1))) else (none))))) = some r := by rw [if_pos rfl] at H; exact H
                            clear H
                            have H := H1
                            clear H1
                            replace H := Option.bind_eq_some_iff.mp H
                            obtain ⟨t544, A850, H⟩ := H
                            replace H : ((alidaderef01_Of.f k3 a2).bind fun t547 => ((alidadelaw01_is.f k3 t544 t547).bind fun bt550 => (if bt550.1 = true then (alidadelaw01_NatTells.l0 k3 l0 l1 a2 x7_3 x8_3 (wrap64 (x13_3 + 1))) else (none)))) = some r := H
                            have A85 := Aside0.mk A850
                            clear A850
                            replace H := Option.bind_eq_some_iff.mp H
                            obtain ⟨t547, A860, H⟩ := H
                            replace H : ((alidadelaw01_is.f k3 t544 t547).bind fun bt550 => (if bt550.1 = true then (alidadelaw01_NatTells.l0 k3 l0 l1 a2 x7_3 x8_3 (wrap64 (x13_3 + 1))) else (none))) = some r := H
                            have A86 := Aside0.mk A860
                            clear A860
                            replace H := Option.bind_eq_some_iff.mp H
                            obtain ⟨⟨t550, t551⟩, A870, H⟩ := H
                            replace H : (if t550 = true then (alidadelaw01_NatTells.l0 k3 l0 l1 a2 x7_3 x8_3 (wrap64 (x13_3 + 1))) else (none)) = some r := H
                            have A87 := Aside0.mk A870
                            clear A870
                            by_cases c88 : t550 = true
                            · subst c88
                              have H1 : (alidadelaw01_NatTells.l0 k3 l0 l1 a2 x7_3 x8_3 (wrap64 (x13_3 + 1))) = some r := by rw [if_pos rfl] at H; exact H
                              clear H
                              have H := H1
                              clear H1
                              have H' := Aside0.mk H
                              clear H
                              obtain ⟨Ao89, co89, eo89⟩ := Kd.R_slice HO_8.out
                              subst eo89
                              go_wp2_with (first | ((with_reducible refine gate_callee (f := 13) rfl ?_); refine goesL_ (some 72) rfl rfl Try.func13 (by kernel_rfl) rfl #[.slice Ao16 x7_3.length co16, .slice Ao89 x8_3.length co89] rfl (by (try simp only [List.map_toArray, List.map_cons, List.map_nil]); first | done | rfl | (simp only [List.length_drop, List.length_take]; rfl)) ?_; (with_reducible refine (nat_Sub.calls _ _ x7_3 _ _ x8_3 t508 false _ ?side1 ?side2 ?side3 ?side4 A48.out).mono ?_); (case side1 => repeat (first | exact (Kd.R_reads' HO_7.out).2.2 | (with_reducible refine Kd.C_alloc ?_ _) | (with_reducible refine Kd.C_drewN ?_ _) | (with_reducible refine Kd.C_drew ?_))); (case side2 => exact (Kd.R_reads' HO_7.out).2.1); (case side3 => repeat (first | exact (Kd.R_reads' HO_8.out).2.2 | (with_reducible refine Kd.C_alloc ?_ _) | (with_reducible refine Kd.C_drewN ?_ _) | (with_reducible refine Kd.C_drew ?_))); (case side4 => exact (Kd.R_reads' HO_8.out).2.1); rintro e w90 ⟨v510, rfl, ho0, hb⟩; refine ⟨_, rfl, ?_⟩; have n0_ := Aside0.mk (Kd.R_elder' (by (with_reducible repeat (first | apply Kd.R_alloc | apply Kd.R_drewN | apply Kd.R_drew)); exact HO_7.out) (Kd.R_base ho0) hb); have n1_ := Aside0.mk (Kd.R_elder' (by (with_reducible repeat (first | apply Kd.R_alloc | apply Kd.R_drewN | apply Kd.R_drew)); exact HO_8.out) (Kd.R_base ho0) hb); have n2_ := Aside0.mk (Kd.R_lower (Kd.R_new' (Kd.R_new' ho0 (Kd.R_lt (by (with_reducible repeat (first | apply Kd.R_alloc | apply Kd.R_drewN | apply Kd.R_drew)); exact HO_7.out))) (Kd.R_lt (by (with_reducible repeat (first | apply Kd.R_alloc | apply Kd.R_drewN | apply Kd.R_drew)); exact HO_8.out))) (below_size (by repeat (first | (with_reducible first | exact HB.out | apply below_alloc | apply pw_below_drewN | apply below_drew1) | exact HB.out)))); have n3_ := Aside0.mk (below_step (by repeat (first | (with_reducible first | exact HB.out | apply below_alloc | apply pw_below_drewN | apply below_drew1) | exact HB.out)) hb); clear HO_7; clear HO_8; clear HB; have HO_7 := n0_; have HO_8 := n1_; have HO511 := n2_; have HB := n3_; clear n0_ n1_ n2_ n3_; (try clear hb); (try clear hb2); (try clear hk); (try clear hi); (try clear ho0)) | ((with_reducible refine gate_callee (f := 32) rfl ?_); refine goesL_ (some 78) rfl rfl Try.func32 (by kernel_rfl) rfl #[.slice A0 l0.length c0, .slice A1 l1.length c1] rfl (by (try simp only [List.map_toArray, List.map_cons, List.map_nil]); first | done | rfl | (simp only [List.length_drop, List.length_take]; rfl)) ?_; (with_reducible refine (alidaderef01_Sub.calls k3 _ _ l0 _ _ l1 t512 false _ ?side1 ?side2 ?side3 ?side4 A49.out).mono ?_); (case side1 => repeat (first | exact (Kd.C_below HR0.out HB.out) | (with_reducible refine Kd.C_alloc ?_ _) | (with_reducible refine Kd.C_drewN ?_ _) | (with_reducible refine Kd.C_drew ?_))); (case side2 => exact HC0.out); (case side3 => repeat (first | exact (Kd.C_below HR1.out HB.out) | (with_reducible refine Kd.C_alloc ?_ _) | (with_reducible refine Kd.C_drewN ?_ _) | (with_reducible refine Kd.C_drew ?_))); (case side4 => exact HC1.out); rintro e w91 ⟨v514, rfl, ho0, hb⟩; refine ⟨_, rfl, ?_⟩; have n0_ := Aside0.mk (Kd.R_elder' (by (with_reducible repeat (first | apply Kd.R_alloc | apply Kd.R_drewN | apply Kd.R_drew)); exact HO_7.out) (Kd.R_base ho0) hb); have n1_ := Aside0.mk (Kd.R_elder' (by (with_reducible repeat (first | apply Kd.R_alloc | apply Kd.R_drewN | apply Kd.R_drew)); exact HO_8.out) (Kd.R_base ho0) hb); have n2_ := Aside0.mk (Kd.R_elder' (by (with_reducible repeat (first | apply Kd.R_alloc | apply Kd.R_drewN | apply Kd.R_drew)); exact HO511.out) (Kd.R_base ho0) hb); have n3_ := Aside0.mk (Kd.R_lower (Kd.R_new' (Kd.R_new' (Kd.R_new' ho0 (Kd.R_lt (by (with_reducible repeat (first | apply Kd.R_alloc | apply Kd.R_drewN | apply Kd.R_drew)); exact HO_7.out))) (Kd.R_lt (by (with_reducible repeat (first | apply Kd.R_alloc | apply Kd.R_drewN | apply Kd.R_drew)); exact HO_8.out))) (Kd.R_lt (by (with_reducible repeat (first | apply Kd.R_alloc | apply Kd.R_drewN | apply Kd.R_drew)); exact HO511.out))) (below_size (by repeat (first | (with_reducible first | exact HB.out | apply below_alloc | apply pw_below_drewN | apply below_drew1) | exact HB.out)))); have n4_ := Aside0.mk (below_step (by repeat (first | (with_reducible first | exact HB.out | apply below_alloc | apply pw_below_drewN | apply below_drew1) | exact HB.out)) hb); clear HO_7; clear HO_8; clear HO511; clear HB; have HO_7 := n0_; have HO_8 := n1_; have HO511 := n2_; have HO515 := n3_; have HB := n4_; clear n0_ n1_ n2_ n3_ n4_; (try clear hb); (try clear hb2); (try clear hk); (try clear hi); (try clear ho0); obtain ⟨Ao92, co92, eo92⟩ := Kd.R_slice HO511.out; subst eo92; obtain ⟨Ao93, co93, eo93⟩ := Kd.R_slice HO515.out; subst eo93) | (go_at_call 20; (with_reducible refine (alidadelaw01_is.calls k3 (fun k_ => some k_ = (.slice Ao92 t508.length co92 : Value).ownBlock) (.slice Ao92 t508.length co92) t508 _ _ t512 true t535 w _ ?side1 ?side2 ?side3 ?side4 A79.out).mono ?_); (case side1 => repeat (first | (with_reducible first | exact HB.out | apply below_alloc | apply pw_below_drewN | apply below_drew1) | exact HB.out)); (case side2 => exact Kd.R_tight rfl HO511.out); (case side3 => exact Kd.C_kept_own (HO515.out) (fun k_ hk_ hs_ => (hk_.2) hs_)); (case side4 => exact (Kd.R_reads' HO515.out).2.1); rintro e w94 ⟨rfl, hy0, hb, hkp⟩; have n0_ := Aside0.mk (Kd.R_mono (ok' := fun k_ => some k_ ≠ (.slice Ao89 x8_3.length co89 : Value).ownBlock ∧ some k_ ≠ (.slice Ao92 t508.length co92 : Value).ownBlock ∧ some k_ ≠ (.slice Ao93 t512.length co93 : Value).ownBlock) (Kd.R_keptB (HO_7.out) hkp (fun k_ hk_ hs_ => (hk_.1.2) hs_)) (fun k_ hk_ => ⟨hk_.1.1.1, hk_.1.1.2, hk_.1.2⟩)); have n1_ := Aside0.mk (Kd.R_mono (ok' := fun k_ => some k_ ≠ (.slice Ao16 x7_3.length co16 : Value).ownBlock ∧ some k_ ≠ (.slice Ao92 t508.length co92 : Value).ownBlock ∧ some k_ ≠ (.slice Ao93 t512.length co93 : Value).ownBlock) (Kd.R_keptB (HO_8.out) hkp (fun k_ hk_ hs_ => (hk_.1.2) hs_)) (fun k_ hk_ => ⟨hk_.1.1.1, hk_.1.1.2, hk_.1.2⟩)); have n2_ := Aside0.mk (Kd.R_reok rfl hy0 (fun k_ e_ => HO511.out.1 k_ e_)); have n3_ := Aside0.mk (Kd.R_mono (ok' := fun k_ => some k_ ≠ (.slice Ao16 x7_3.length co16 : Value).ownBlock ∧ some k_ ≠ (.slice Ao89 x8_3.length co89 : Value).ownBlock ∧ some k_ ≠ (.slice Ao92 t508.length co92 : Value).ownBlock) (Kd.R_keptB (HO515.out) hkp (fun k_ hk_ hs_ => (hk_.2) hs_)) (fun k_ hk_ => ⟨hk_.1.1.1.2, hk_.1.1.2, hk_.1.2⟩)); have n4_ := Aside0.mk (hb); clear HO_7; clear HO_8; clear HO511; clear HO515; clear HB; have HO_7 := n0_; have HO_8 := n1_; have HO511 := n2_; have HO515 := n3_; have HB := n4_; clear n0_ n1_ n2_ n3_ n4_; (try clear hb); (try clear hkp); (try clear hy0)) | (go_at_call 12; (with_reducible refine (nat_Add.calls _ _ x7_3 _ _ x8_3 t536 _ ?side1 ?side2 ?side3 ?side4 A81.out).mono ?_); (case side1 => repeat (first | exact (Kd.R_reads' HO_7.out).2.2 | (with_reducible refine Kd.C_alloc ?_ _) | (with_reducible refine Kd.C_drewN ?_ _) | (with_reducible refine Kd.C_drew ?_))); (case side2 => exact (Kd.R_reads' HO_7.out).2.1); (case side3 => repeat (first | exact (Kd.R_reads' HO_8.out).2.2 | (with_reducible refine Kd.C_alloc ?_ _) | (with_reducible refine Kd.C_drewN ?_ _) | (with_reducible refine Kd.C_drew ?_))); (case side4 => exact (Kd.R_reads' HO_8.out).2.1); rintro e w95 ⟨v537, rfl, ho0, hb⟩; have n0_ := Aside0.mk (Kd.R_elder' (by (with_reducible repeat (first | apply Kd.R_alloc | apply Kd.R_drewN | apply Kd.R_drew)); exact HO_7.out) (Kd.R_base ho0) hb); have n1_ := Aside0.mk (Kd.R_elder' (by (with_reducible repeat (first | apply Kd.R_alloc | apply Kd.R_drewN | apply Kd.R_drew)); exact HO_8.out) (Kd.R_base ho0) hb); have n2_ := Aside0.mk (Kd.R_elder' (by (with_reducible repeat (first | apply Kd.R_alloc | apply Kd.R_drewN | apply Kd.R_drew)); exact HO511.out) (Kd.R_base ho0) hb); have n3_ := Aside0.mk (Kd.R_elder' (by (with_reducible repeat (first | apply Kd.R_alloc | apply Kd.R_drewN | apply Kd.R_drew)); exact HO515.out) (Kd.R_base ho0) hb); have n4_ := Aside0.mk (Kd.R_lower (Kd.R_new' (Kd.R_new' (Kd.R_new' (Kd.R_new' ho0 (Kd.R_lt (by (with_reducible repeat (first | apply Kd.R_alloc | apply Kd.R_drewN | apply Kd.R_drew)); exact HO_7.out))) (Kd.R_lt (by (with_reducible repeat (first | apply Kd.R_alloc | apply Kd.R_drewN | apply Kd.R_drew)); exact HO_8.out))) (Kd.R_lt (by (with_reducible repeat (first | apply Kd.R_alloc | apply Kd.R_drewN | apply Kd.R_drew)); exact HO511.out))) (Kd.R_lt (by (with_reducible repeat (first | apply Kd.R_alloc | apply Kd.R_drewN | apply Kd.R_drew)); exact HO515.out))) (below_size (by repeat (first | (with_reducible first | exact HB.out | apply below_alloc | apply pw_below_drewN | apply below_drew1) | exact HB.out)))); have n5_ := Aside0.mk (below_step (by repeat (first | (with_reducible first | exact HB.out | apply below_alloc | apply pw_below_drewN | apply below_drew1) | exact HB.out)) hb); clear HO_7; clear HO_8; clear HO511; clear HO515; clear HB; have HO_7 := n0_; have HO_8 := n1_; have HO511 := n2_; have HO515 := n3_; have HO538 := n4_; have HB := n5_; clear n0_ n1_ n2_ n3_ n4_ n5_; (try clear hb); (try clear hb2); (try clear hk); (try clear hi); (try clear ho0)) | (go_at_call 33; (with_reducible refine (alidaderef01_Add.calls k3 _ _ l0 _ _ l1 t539 _ ?side1 ?side2 ?side3 ?side4 A82.out).mono ?_); (case side1 => repeat (first | exact (Kd.C_below HR0.out HB.out) | (with_reducible refine Kd.C_alloc ?_ _) | (with_reducible refine Kd.C_drewN ?_ _) | (with_reducible refine Kd.C_drew ?_))); (case side2 => exact HC0.out); (case side3 => repeat (first | exact (Kd.C_below HR1.out HB.out) | (with_reducible refine Kd.C_alloc ?_ _) | (with_reducible refine Kd.C_drewN ?_ _) | (with_reducible refine Kd.C_drew ?_))); (case side4 => exact HC1.out); rintro e w96 ⟨v540, rfl, ho0, hb⟩; have n0_ := Aside0.mk (Kd.R_elder' (by (with_reducible repeat (first | apply Kd.R_alloc | apply Kd.R_drewN | apply Kd.R_drew)); exact HO_7.out) (Kd.R_base ho0) hb); have n1_ := Aside0.mk (Kd.R_elder' (by (with_reducible repeat (first | apply Kd.R_alloc | apply Kd.R_drewN | apply Kd.R_drew)); exact HO_8.out) (Kd.R_base ho0) hb); have n2_ := Aside0.mk (Kd.R_elder' (by (with_reducible repeat (first | apply Kd.R_alloc | apply Kd.R_drewN | apply Kd.R_drew)); exact HO511.out) (Kd.R_base ho0) hb); have n3_ := Aside0.mk (Kd.R_elder' (by (with_reducible repeat (first | apply Kd.R_alloc | apply Kd.R_drewN | apply Kd.R_drew)); exact HO515.out) (Kd.R_base ho0) hb); have n4_ := Aside0.mk (Kd.R_elder' (by (with_reducible repeat (first | apply Kd.R_alloc | apply Kd.R_drewN | apply Kd.R_drew)); exact HO538.out) (Kd.R_base ho0) hb); have n5_ := Aside0.mk (Kd.R_lower (Kd.R_new' (Kd.R_new' (Kd.R_new' (Kd.R_new' (Kd.R_new' ho0 (Kd.R_lt (by (with_reducible repeat (first | apply Kd.R_alloc | apply Kd.R_drewN | apply Kd.R_drew)); exact HO_7.out))) (Kd.R_lt (by (with_reducible repeat (first | apply Kd.R_alloc | apply Kd.R_drewN | apply Kd.R_drew)); exact HO_8.out))) (Kd.R_lt (by (with_reducible repeat (first | apply Kd.R_alloc | apply Kd.R_drewN | apply Kd.R_drew)); exact HO511.out))) (Kd.R_lt (by (with_reducible repeat (first | apply Kd.R_alloc | apply Kd.R_drewN | apply Kd.R_drew)); exact HO515.out))) (Kd.R_lt (by (with_reducible repeat (first | apply Kd.R_alloc | apply Kd.R_drewN | apply Kd.R_drew)); exact HO538.out))) (below_size (by repeat (first | (with_reducible first | exact HB.out | apply below_alloc | apply pw_below_drewN | apply below_drew1) | exact HB.out)))); have n6_ := Aside0.mk (below_step (by repeat (first | (with_reducible first | exact HB.out | apply below_alloc | apply pw_below_drewN | apply below_drew1) | exact HB.out)) hb); clear HO_7; clear HO_8; clear HO511; clear HO515; clear HO538; clear HB; have HO_7 := n0_; have HO_8 := n1_; have HO511 := n2_; have HO515 := n3_; have HO538 := n4_; have HO541 := n5_; have HB := n6_; clear n0_ n1_ n2_ n3_ n4_ n5_ n6_; (try clear hb); (try clear hb2); (try clear hk); (try clear hi); (try clear ho0); obtain ⟨Ao97, co97, eo97⟩ := Kd.R_slice HO538.out; subst eo97; obtain ⟨Ao98, co98, eo98⟩ := Kd.R_slice HO541.out; subst eo98) | (go_at_call 20; (with_reducible refine (alidadelaw01_is.calls k3 (fun k_ => some k_ = (.slice Ao97 t536.length co97 : Value).ownBlock) (.slice Ao97 t536.length co97) t536 _ _ t539 true t543 w _ ?side1 ?side2 ?side3 ?side4 A83.out).mono ?_); (case side1 => repeat (first | (with_reducible first | exact HB.out | apply below_alloc | apply pw_below_drewN | apply below_drew1) | exact HB.out)); (case side2 => exact Kd.R_tight rfl HO538.out); (case side3 => exact Kd.C_kept_own (HO541.out) (fun k_ hk_ hs_ => (hk_.2) hs_)); (case side4 => exact (Kd.R_reads' HO541.out).2.1); rintro e w99 ⟨rfl, hy0, hb, hkp⟩; have n0_ := Aside0.mk (Kd.R_mono (ok' := fun k_ => some k_ ≠ (.slice Ao89 x8_3.length co89 : Value).ownBlock ∧ some k_ ≠ (.slice Ao92 t508.length co92 : Value).ownBlock ∧ some k_ ≠ (.slice Ao93 t512.length co93 : Value).ownBlock ∧ some k_ ≠ (.slice Ao97 t536.length co97 : Value).ownBlock ∧ some k_ ≠ (.slice Ao98 t539.length co98 : Value).ownBlock) (Kd.R_keptB (HO_7.out) hkp (fun k_ hk_ hs_ => (hk_.1.2) hs_)) (fun k_ hk_ => ⟨hk_.1.1.1.1, hk_.1.1.1.2.1, hk_.1.1.1.2.2, hk_.1.1.2, hk_.1.2⟩)); have n1_ := Aside0.mk (Kd.R_mono (ok' := fun k_ => some k_ ≠ (.slice Ao16 x7_3.length co16 : Value).ownBlock ∧ some k_ ≠ (.slice Ao92 t508.length co92 : Value).ownBlock ∧ some k_ ≠ (.slice Ao93 t512.length co93 : Value).ownBlock ∧ some k_ ≠ (.slice Ao97 t536.length co97 : Value).ownBlock ∧ some k_ ≠ (.slice Ao98 t539.length co98 : Value).ownBlock) (Kd.R_keptB (HO_8.out) hkp (fun k_ hk_ hs_ => (hk_.1.2) hs_)) (fun k_ hk_ => ⟨hk_.1.1.1.1, hk_.1.1.1.2.1, hk_.1.1.1.2.2, hk_.1.1.2, hk_.1.2⟩)); have n2_ := Aside0.mk (Kd.R_mono (ok' := fun k_ => some k_ ≠ (.slice Ao16 x7_3.length co16 : Value).ownBlock ∧ some k_ ≠ (.slice Ao89 x8_3.length co89 : Value).ownBlock ∧ some k_ ≠ (.slice Ao93 t512.length co93 : Value).ownBlock ∧ some k_ ≠ (.slice Ao97 t536.length co97 : Value).ownBlock ∧ some k_ ≠ (.slice Ao98 t539.length co98 : Value).ownBlock) (Kd.R_keptB (HO511.out) hkp (fun k_ hk_ hs_ => (hk_.1.2) hs_)) (fun k_ hk_ => ⟨hk_.1.1.1.1.1.2, hk_.1.1.1.1.2, hk_.1.1.1.2, hk_.1.1.2, hk_.1.2⟩)); have n3_ := Aside0.mk (Kd.R_mono (ok' := fun k_ => some k_ ≠ (.slice Ao16 x7_3.length co16 : Value).ownBlock ∧ some k_ ≠ (.slice Ao89 x8_3.length co89 : Value).ownBlock ∧ some k_ ≠ (.slice Ao92 t508.length co92 : Value).ownBlock ∧ some k_ ≠ (.slice Ao97 t536.length co97 : Value).ownBlock ∧ some k_ ≠ (.slice Ao98 t539.length co98 : Value).ownBlock) (Kd.R_keptB (HO515.out) hkp (fun k_ hk_ hs_ => (hk_.1.2) hs_)) (fun k_ hk_ => ⟨hk_.1.1.1.1, hk_.1.1.1.2.1, hk_.1.1.1.2.2, hk_.1.1.2, hk_.1.2⟩)); have n4_ := Aside0.mk (Kd.R_reok rfl hy0 (fun k_ e_ => HO538.out.1 k_ e_)); have n5_ := Aside0.mk (Kd.R_mono (ok' := fun k_ => some k_ ≠ (.slice Ao16 x7_3.length co16 : Value).ownBlock ∧ some k_ ≠ (.slice Ao89 x8_3.length co89 : Value).ownBlock ∧ some k_ ≠ (.slice Ao92 t508.length co92 : Value).ownBlock ∧ some k_ ≠ (.slice Ao93 t512.length co93 : Value).ownBlock ∧ some k_ ≠ (.slice Ao97 t536.length co97 : Value).ownBlock) (Kd.R_keptB (HO541.out) hkp (fun k_ hk_ hs_ => (hk_.2) hs_)) (fun k_ hk_ => ⟨hk_.1.1.1.1.1.2, hk_.1.1.1.1.2, hk_.1.1.1.2, hk_.1.1.2, hk_.1.2⟩)); have n6_ := Aside0.mk (hb); clear HO_7; clear HO_8; clear HO511; clear HO515; clear HO538; clear HO541; clear HB; have HO_7 := n0_; have HO_8 := n1_; have HO511 := n2_; have HO515 := n3_; have HO538 := n4_; have HO541 := n5_; have HB := n6_; clear n0_ n1_ n2_ n3_ n4_ n5_ n6_; (try clear hb); (try clear hkp); (try clear hy0)) | (go_at_call 34; (with_reducible refine (nat_Of.calls k3 a2 t544 _ A85.out).mono ?_); rintro e w100 ⟨v545, rfl, ho0, hb⟩; have n0_ := Aside0.mk (Kd.R_elder' (by (with_reducible repeat (first | apply Kd.R_alloc | apply Kd.R_drewN | apply Kd.R_drew)); exact HO_7.out) (Kd.R_base ho0) hb); have n1_ := Aside0.mk (Kd.R_elder' (by (with_reducible repeat (first | apply Kd.R_alloc | apply Kd.R_drewN | apply Kd.R_drew)); exact HO_8.out) (Kd.R_base ho0) hb); have n2_ := Aside0.mk (Kd.R_elder' (by (with_reducible repeat (first | apply Kd.R_alloc | apply Kd.R_drewN | apply Kd.R_drew)); exact HO511.out) (Kd.R_base ho0) hb); have n3_ := Aside0.mk (Kd.R_elder' (by (with_reducible repeat (first | apply Kd.R_alloc | apply Kd.R_drewN | apply Kd.R_drew)); exact HO515.out) (Kd.R_base ho0) hb); have n4_ := Aside0.mk (Kd.R_elder' (by (with_reducible repeat (first | apply Kd.R_alloc | apply Kd.R_drewN | apply Kd.R_drew)); exact HO538.out) (Kd.R_base ho0) hb); have n5_ := Aside0.mk (Kd.R_elder' (by (with_reducible repeat (first | apply Kd.R_alloc | apply Kd.R_drewN | apply Kd.R_drew)); exact HO541.out) (Kd.R_base ho0) hb); have n6_ := Aside0.mk (Kd.R_lower (Kd.R_new' (Kd.R_new' (Kd.R_new' (Kd.R_new' (Kd.R_new' (Kd.R_new' ho0 (Kd.R_lt (by (with_reducible repeat (first | apply Kd.R_alloc | apply Kd.R_drewN | apply Kd.R_drew)); exact HO_7.out))) (Kd.R_lt (by (with_reducible repeat (first | apply Kd.R_alloc | apply Kd.R_drewN | apply Kd.R_drew)); exact HO_8.out))) (Kd.R_lt (by (with_reducible repeat (first | apply Kd.R_alloc | apply Kd.R_drewN | apply Kd.R_drew)); exact HO511.out))) (Kd.R_lt (by (with_reducible repeat (first | apply Kd.R_alloc | apply Kd.R_drewN | apply Kd.R_drew)); exact HO515.out))) (Kd.R_lt (by (with_reducible repeat (first | apply Kd.R_alloc | apply Kd.R_drewN | apply Kd.R_drew)); exact HO538.out))) (Kd.R_lt (by (with_reducible repeat (first | apply Kd.R_alloc | apply Kd.R_drewN | apply Kd.R_drew)); exact HO541.out))) (below_size (by repeat (first | (with_reducible first | exact HB.out | apply below_alloc | apply pw_below_drewN | apply below_drew1) | exact HB.out)))); have n7_ := Aside0.mk (below_step (by repeat (first | (with_reducible first | exact HB.out | apply below_alloc | apply pw_below_drewN | apply below_drew1) | exact HB.out)) hb); clear HO_7; clear HO_8; clear HO511; clear HO515; clear HO538; clear HO541; clear HB; have HO_7 := n0_; have HO_8 := n1_; have HO511 := n2_; have HO515 := n3_; have HO538 := n4_; have HO541 := n5_; have HO546 := n6_; have HB := n7_; clear n0_ n1_ n2_ n3_ n4_ n5_ n6_ n7_; (try clear hb); (try clear hb2); (try clear hk); (try clear hi); (try clear ho0)) | (go_at_call 35; (with_reducible refine (alidaderef01_Of.calls k3 a2 t547 _ A86.out).mono ?_); rintro e w101 ⟨v548, rfl, ho0, hb⟩; have n0_ := Aside0.mk (Kd.R_elder' (by (with_reducible repeat (first | apply Kd.R_alloc | apply Kd.R_drewN | apply Kd.R_drew)); exact HO_7.out) (Kd.R_base ho0) hb); have n1_ := Aside0.mk (Kd.R_elder' (by (with_reducible repeat (first | apply Kd.R_alloc | apply Kd.R_drewN | apply Kd.R_drew)); exact HO_8.out) (Kd.R_base ho0) hb); have n2_ := Aside0.mk (Kd.R_elder' (by (with_reducible repeat (first | apply Kd.R_alloc | apply Kd.R_drewN | apply Kd.R_drew)); exact HO511.out) (Kd.R_base ho0) hb); have n3_ := Aside0.mk (Kd.R_elder' (by (with_reducible repeat (first | apply Kd.R_alloc | apply Kd.R_drewN | apply Kd.R_drew)); exact HO515.out) (Kd.R_base ho0) hb); have n4_ := Aside0.mk (Kd.R_elder' (by (with_reducible repeat (first | apply Kd.R_alloc | apply Kd.R_drewN | apply Kd.R_drew)); exact HO538.out) (Kd.R_base ho0) hb); have n5_ := Aside0.mk (Kd.R_elder' (by (with_reducible repeat (first | apply Kd.R_alloc | apply Kd.R_drewN | apply Kd.R_drew)); exact HO541.out) (Kd.R_base ho0) hb); have n6_ := Aside0.mk (Kd.R_elder' (by (with_reducible repeat (first | apply Kd.R_alloc | apply Kd.R_drewN | apply Kd.R_drew)); exact HO546.out) (Kd.R_base ho0) hb); have n7_ := Aside0.mk (Kd.R_lower (Kd.R_new' (Kd.R_new' (Kd.R_new' (Kd.R_new' (Kd.R_new' (Kd.R_new' (Kd.R_new' ho0 (Kd.R_lt (by (with_reducible repeat (first | apply Kd.R_alloc | apply Kd.R_drewN | apply Kd.R_drew)); exact HO_7.out))) (Kd.R_lt (by (with_reducible repeat (first | apply Kd.R_alloc | apply Kd.R_drewN | apply Kd.R_drew)); exact HO_8.out))) (Kd.R_lt (by (with_reducible repeat (first | apply Kd.R_alloc | apply Kd.R_drewN | apply Kd.R_drew)); exact HO511.out))) (Kd.R_lt (by (with_reducible repeat (first | apply Kd.R_alloc | apply Kd.R_drewN | apply Kd.R_drew)); exact HO515.out))) (Kd.R_lt (by (with_reducible repeat (first | apply Kd.R_alloc | apply Kd.R_drewN | apply Kd.R_drew)); exact HO538.out))) (Kd.R_lt (by (with_reducible repeat (first | apply Kd.R_alloc | apply Kd.R_drewN | apply Kd.R_drew)); exact HO541.out))) (Kd.R_lt (by (with_reducible repeat (first | apply Kd.R_alloc | apply Kd.R_drewN | apply Kd.R_drew)); exact HO546.out))) (below_size (by repeat (first | (with_reducible first | exact HB.out | apply below_alloc | apply pw_below_drewN | apply below_drew1) | exact HB.out)))); have n8_ := Aside0.mk (below_step (by repeat (first | (with_reducible first | exact HB.out | apply below_alloc | apply pw_below_drewN | apply below_drew1) | exact HB.out)) hb); clear HO_7; clear HO_8; clear HO511; clear HO515; clear HO538; clear HO541; clear HO546; clear HB; have HO_7 := n0_; have HO_8 := n1_; have HO511 := n2_; have HO515 := n3_; have HO538 := n4_; have HO541 := n5_; have HO546 := n6_; have HO549 := n7_; have HB := n8_; clear n0_ n1_ n2_ n3_ n4_ n5_ n6_ n7_ n8_; (try clear hb); (try clear hb2); (try clear hk); (try clear hi); (try clear ho0); obtain ⟨Ao102, co102, eo102⟩ := Kd.R_slice HO546.out; subst eo102; obtain ⟨Ao103, co103, eo103⟩ := Kd.R_slice HO549.out; subst eo103) | (go_at_call 20; (with_reducible refine (alidadelaw01_is.calls k3 (fun k_ => some k_ = (.slice Ao102 t544.length co102 : Value).ownBlock) (.slice Ao102 t544.length co102) t544 _ _ t547 true t551 w _ ?side1 ?side2 ?side3 ?side4 A87.out).mono ?_); (case side1 => repeat (first | (with_reducible first | exact HB.out | apply below_alloc | apply pw_below_drewN | apply below_drew1) | exact HB.out)); (case side2 => exact Kd.R_tight rfl HO546.out); (case side3 => exact Kd.C_kept_own (HO549.out) (fun k_ hk_ hs_ => (hk_.2) hs_)); (case side4 => exact (Kd.R_reads' HO549.out).2.1); rintro e w104 ⟨rfl, hy0, hb, hkp⟩; have n0_ := Aside0.mk (Kd.R_mono (ok' := fun k_ => some k_ ≠ (.slice Ao89 x8_3.length co89 : Value).ownBlock ∧ some k_ ≠ (.slice Ao92 t508.length co92 : Value).ownBlock ∧ some k_ ≠ (.slice Ao93 t512.length co93 : Value).ownBlock ∧ some k_ ≠ (.slice Ao97 t536.length co97 : Value).ownBlock ∧ some k_ ≠ (.slice Ao98 t539.length co98 : Value).ownBlock ∧ some k_ ≠ (.slice Ao102 t544.length co102 : Value).ownBlock ∧ some k_ ≠ (.slice Ao103 t547.length co103 : Value).ownBlock) (Kd.R_keptB (HO_7.out) hkp (fun k_ hk_ hs_ => (hk_.1.2) hs_)) (fun k_ hk_ => ⟨hk_.1.1.1.1, hk_.1.1.1.2.1, hk_.1.1.1.2.2.1, hk_.1.1.1.2.2.2.1, hk_.1.1.1.2.2.2.2, hk_.1.1.2, hk_.1.2⟩)); have n1_ := Aside0.mk (Kd.R_mono (ok' := fun k_ => some k_ ≠ (.slice Ao16 x7_3.length co16 : Value).ownBlock ∧ some k_ ≠ (.slice Ao92 t508.length co92 : Value).ownBlock ∧ some k_ ≠ (.slice Ao93 t512.length co93 : Value).ownBlock ∧ some k_ ≠ (.slice Ao97 t536.length co97 : Value).ownBlock ∧ some k_ ≠ (.slice Ao98 t539.length co98 : Value).ownBlock ∧ some k_ ≠ (.slice Ao102 t544.length co102 : Value).ownBlock ∧ some k_ ≠ (.slice Ao103 t547.length co103 : Value).ownBlock) (Kd.R_keptB (HO_8.out) hkp (fun k_ hk_ hs_ => (hk_.1.2) hs_)) (fun k_ hk_ => ⟨hk_.1.1.1.1, hk_.1.1.1.2.1, hk_.1.1.1.2.2.1, hk_.1.1.1.2.2.2.1, hk_.1.1.1.2.2.2.2, hk_.1.1.2, hk_.1.2⟩)); have n2_ := Aside0.mk (Kd.R_mono (ok' := fun k_ => some k_ ≠ (.slice Ao16 x7_3.length co16 : Value).ownBlock ∧ some k_ ≠ (.slice Ao89 x8_3.length co89 : Value).ownBlock ∧ some k_ ≠ (.slice Ao93 t512.length co93 : Value).ownBlock ∧ some k_ ≠ (.slice Ao97 t536.length co97 : Value).ownBlock ∧ some k_ ≠ (.slice Ao98 t539.length co98 : Value).ownBlock ∧ some k_ ≠ (.slice Ao102 t544.length co102 : Value).ownBlock ∧ some k_ ≠ (.slice Ao103 t547.length co103 : Value).ownBlock) (Kd.R_keptB (HO511.out) hkp (fun k_ hk_ hs_ => (hk_.1.2) hs_)) (fun k_ hk_ => ⟨hk_.1.1.1.1, hk_.1.1.1.2.1, hk_.1.1.1.2.2.1, hk_.1.1.1.2.2.2.1, hk_.1.1.1.2.2.2.2, hk_.1.1.2, hk_.1.2⟩)); have n3_ := Aside0.mk (Kd.R_mono (ok' := fun k_ => some k_ ≠ (.slice Ao16 x7_3.length co16 : Value).ownBlock ∧ some k_ ≠ (.slice Ao89 x8_3.length co89 : Value).ownBlock ∧ some k_ ≠ (.slice Ao92 t508.length co92 : Value).ownBlock ∧ some k_ ≠ (.slice Ao97 t536.length co97 : Value).ownBlock ∧ some k_ ≠ (.slice Ao98 t539.length co98 : Value).ownBlock ∧ some k_ ≠ (.slice Ao102 t544.length co102 : Value).ownBlock ∧ some k_ ≠ (.slice Ao103 t547.length co103 : Value).ownBlock) (Kd.R_keptB (HO515.out) hkp (fun k_ hk_ hs_ => (hk_.1.2) hs_)) (fun k_ hk_ => ⟨hk_.1.1.1.1, hk_.1.1.1.2.1, hk_.1.1.1.2.2.1, hk_.1.1.1.2.2.2.1, hk_.1.1.1.2.2.2.2, hk_.1.1.2, hk_.1.2⟩)); have n4_ := Aside0.mk (Kd.R_mono (ok' := fun k_ => some k_ ≠ (.slice Ao16 x7_3.length co16 : Value).ownBlock ∧ some k_ ≠ (.slice Ao89 x8_3.length co89 : Value).ownBlock ∧ some k_ ≠ (.slice Ao92 t508.length co92 : Value).ownBlock ∧ some k_ ≠ (.slice Ao93 t512.length co93 : Value).ownBlock ∧ some k_ ≠ (.slice Ao98 t539.length co98 : Value).ownBlock ∧ some k_ ≠ (.slice Ao102 t544.length co102 : Value).ownBlock ∧ some k_ ≠ (.slice Ao103 t547.length co103 : Value).ownBlock) (Kd.R_keptB (HO538.out) hkp (fun k_ hk_ hs_ => (hk_.1.2) hs_)) (fun k_ hk_ => ⟨hk_.1.1.1.1.1.1.1.2, hk_.1.1.1.1.1.1.2, hk_.1.1.1.1.1.2, hk_.1.1.1.1.2, hk_.1.1.1.2, hk_.1.1.2, hk_.1.2⟩)); have n5_ := Aside0.mk (Kd.R_mono (ok' := fun k_ => some k_ ≠ (.slice Ao16 x7_3.length co16 : Value).ownBlock ∧ some k_ ≠ (.slice Ao89 x8_3.length co89 : Value).ownBlock ∧ some k_ ≠ (.slice Ao92 t508.length co92 : Value).ownBlock ∧ some k_ ≠ (.slice Ao93 t512.length co93 : Value).ownBlock ∧ some k_ ≠ (.slice Ao97 t536.length co97 : Value).ownBlock ∧ some k_ ≠ (.slice Ao102 t544.length co102 : Value).ownBlock ∧ some k_ ≠ (.slice Ao103 t547.length co103 : Value).ownBlock) (Kd.R_keptB (HO541.out) hkp (fun k_ hk_ hs_ => (hk_.1.2) hs_)) (fun k_ hk_ => ⟨hk_.1.1.1.1, hk_.1.1.1.2.1, hk_.1.1.1.2.2.1, hk_.1.1.1.2.2.2.1, hk_.1.1.1.2.2.2.2, hk_.1.1.2, hk_.1.2⟩)); have n6_ := Aside0.mk (Kd.R_reok rfl hy0 (fun k_ e_ => HO546.out.1 k_ e_)); have n7_ := Aside0.mk (Kd.R_mono (ok' := fun k_ => some k_ ≠ (.slice Ao16 x7_3.length co16 : Value).ownBlock ∧ some k_ ≠ (.slice Ao89 x8_3.length co89 : Value).ownBlock ∧ some k_ ≠ (.slice Ao92 t508.length co92 : Value).ownBlock ∧ some k_ ≠ (.slice Ao93 t512.length co93 : Value).ownBlock ∧ some k_ ≠ (.slice Ao97 t536.length co97 : Value).ownBlock ∧ some k_ ≠ (.slice Ao98 t539.length co98 : Value).ownBlock ∧ some k_ ≠ (.slice Ao102 t544.length co102 : Value).ownBlock) (Kd.R_keptB (HO549.out) hkp (fun k_ hk_ hs_ => (hk_.2) hs_)) (fun k_ hk_ => ⟨hk_.1.1.1.1.1.1.1.2, hk_.1.1.1.1.1.1.2, hk_.1.1.1.1.1.2, hk_.1.1.1.1.2, hk_.1.1.1.2, hk_.1.1.2, hk_.1.2⟩)); have n8_ := Aside0.mk (hb); clear HO_7; clear HO_8; clear HO511; clear HO515; clear HO538; clear HO541; clear HO546; clear HO549; clear HB; have HO_7 := n0_; have HO_8 := n1_; have HO511 := n2_; have HO515 := n3_; have HO538 := n4_; have HO541 := n5_; have HO546 := n6_; have HO549 := n7_; have HB := n8_; clear n0_ n1_ n2_ n3_ n4_ n5_ n6_ n7_ n8_; (try clear hb); (try clear hkp); (try clear hy0)))
                              (try simp only [← hl7_3])
                              go_roundg k3
                              case measure => have := HJ3.out; have := HJ12.out; have := HK3.out; omega
                              case rel => exact ⟨(x7_3), (x8_3), (wrap64 (x13_3 + 1)), (by first | rfl | (simp; done) | (simp [*]; done)), H', ⟨by have := HJ3.out; have := HJ12.out; have := HK3.out; omega⟩, ⟨by (try simp only [hl7_3]); (with_reducible repeat (first | apply Kd.R_alloc | apply Kd.R_drewN | apply Kd.R_drew)); exact Kd.R_mono HO_7.out (fun _ hk => hk.1)⟩, ⟨by (try simp only [hl7_3]); (with_reducible repeat (first | apply Kd.R_alloc | apply Kd.R_drewN | apply Kd.R_drew)); exact Kd.R_mono HO_8.out (fun _ hk => hk.1)⟩, ⟨by repeat (first | (with_reducible first | exact HB.out | apply below_alloc | apply pw_below_drewN | apply below_drew1) | exact HB.out)⟩⟩
                            · replace c88 := Bool.eq_false_iff.mpr c88
                              subst c88
                              have H1 : (none) = some r := by rw [if_neg (show ¬ (false = true) by decide)] at H; exact H
                              clear H
                              have H := H1
                              clear H1
                              exact absurd H (by simp)
                          · replace c84 := Bool.eq_false_iff.mpr c84
                            subst c84
                            have H1 : (none) = some r := by rw [if_neg (show ¬ (false = true) by decide)] at H; exact H
                            clear H
                            have H := H1
                            clear H1
                            exact absurd H (by simp)
                        · replace c80 := Bool.eq_false_iff.mpr c80
                          subst c80
                          have H1 : (none) = some r := by rw [if_neg (show ¬ (false = true) by decide)] at H; exact H
                          clear H
                          have H := H1
                          clear H1
                          exact absurd H (by simp)
                  · rw [if_neg c47] at H
                    have c47b0 : decide (x13_3 < 2) = false := decide_eq_false c47
                    clear c47
                    replace H := Option.bind_eq_some_iff.mp H
                    obtain ⟨t505, A1050, H⟩ := H
                    replace H : (if t505 = true then ((alidaderef01_Same.f k3 x8_3 l1).bind fun t506 => (if t506 = true then ((alidadelaw01_awake.f k3).bind fun t507 => (some t507)) else (none))) else (none)) = some r := H
                    have A105 := Aside0.mk A1050
                    clear A1050
                    by_cases c106 : t505 = true
                    · subst c106
                      have H1 : ((alidaderef01_Same.f k3 x8_3 l1).bind fun t506 => (if t506 = true then ((alidadelaw01_awake.f k3).bind fun t507 => (some t507)) else (none))) = some r := by rw [if_pos rfl] at H; exact H
                      clear H
                      have H := H1
                      clear H1
                      replace H := Option.bind_eq_some_iff.mp H
                      obtain ⟨t506, A1070, H⟩ := H
                      replace H : (if t506 = true then ((alidadelaw01_awake.f k3).bind fun t507 => (some t507)) else (none)) = some r := H
                      have A107 := Aside0.mk A1070
                      clear A1070
                      by_cases c108 : t506 = true
                      · subst c108
                        have H1 : ((alidadelaw01_awake.f k3).bind fun t507 => (some t507)) = some r := by rw [if_pos rfl] at H; exact H
                        clear H
                        have H := H1
                        clear H1
                        replace H := Option.bind_eq_some_iff.mp H
                        obtain ⟨t507, A1090, H⟩ := H
                        replace H : (some t507) = some r := H
                        have A109 := Aside0.mk A1090
                        clear A1090
                        obtain rfl := Option.some.inj H
                        go_wp2_with (first | ((with_reducible refine gate_callee (f := 26) rfl ?_); refine goesL_ (some 110) rfl rfl Try.func26 (by kernel_rfl) rfl #[.slice Ao16 x7_3.length co16, .slice A0 l0.length c0] rfl (by (try simp only [List.map_toArray, List.map_cons, List.map_nil]); first | done | rfl | (simp only [List.length_drop, List.length_take]; rfl)) ?_; (with_reducible refine (alidaderef01_Same.calls k3 _ _ x7_3 _ _ l0 true _ ?side1 ?side2 ?side3 ?side4 A105.out).mono ?_); (case side1 => repeat (first | exact (Kd.R_reads' HO_7.out).2.2 | (with_reducible refine Kd.C_alloc ?_ _) | (with_reducible refine Kd.C_drewN ?_ _) | (with_reducible refine Kd.C_drew ?_))); (case side2 => exact (Kd.R_reads' HO_7.out).2.1); (case side3 => repeat (first | exact (Kd.C_below HR0.out HB.out) | (with_reducible refine Kd.C_alloc ?_ _) | (with_reducible refine Kd.C_drewN ?_ _) | (with_reducible refine Kd.C_drew ?_))); (case side4 => exact HC0.out); rintro e w' ⟨rfl, ⟨nd, rfl⟩⟩; refine ⟨_, rfl, ?_⟩; clear HO_7; have n_ := Aside0.mk (Kd.R_mono (ok' := (fun _ => True)) HO_8.out (fun k_ hk => trivial)); clear HO_8; have HO_8 := n_; clear n_; obtain ⟨Ao110, co110, eo110⟩ := Kd.R_slice HO_8.out; subst eo110) | (go_at_call 26; (with_reducible refine (alidaderef01_Same.calls k3 _ _ x8_3 _ _ l1 true _ ?side1 ?side2 ?side3 ?side4 A107.out).mono ?_); (case side1 => repeat (first | exact (Kd.R_reads' HO_8.out).2.2 | (with_reducible refine Kd.C_alloc ?_ _) | (with_reducible refine Kd.C_drewN ?_ _) | (with_reducible refine Kd.C_drew ?_))); (case side2 => exact (Kd.R_reads' HO_8.out).2.1); (case side3 => repeat (first | exact (Kd.C_below HR1.out (by repeat (first | (with_reducible first | exact HB.out | apply below_alloc | apply pw_below_drewN | apply below_drew1) | exact HB.out))) | (with_reducible refine Kd.C_alloc ?_ _) | (with_reducible refine Kd.C_drewN ?_ _) | (with_reducible refine Kd.C_drew ?_))); (case side4 => exact HC1.out); rintro e w' ⟨rfl, ⟨nd, rfl⟩⟩; clear HO_8) | (go_at_call 10; (with_reducible refine (alidadelaw01_awake.calls k3  t507 _ A109.out).mono ?_); rintro e w111 ⟨rfl, hb⟩; have n0_ := Aside0.mk (below_step (by repeat (first | (with_reducible first | exact HB.out | apply below_alloc | apply pw_below_drewN | apply below_drew1) | exact HB.out)) hb); clear HB; have HB := n0_; clear n0_; (try clear hb); (try clear hb2); (try clear hk); (try clear hi)))
                        go_ret
                        exact ⟨by first | rfl | (simp [errW_none, errW_some] <;> rfl) | (simp [*, errW_none, errW_some] <;> rfl), by repeat (first | (with_reducible first | exact HB.out | apply below_alloc | apply pw_below_drewN | apply below_drew1) | exact HB.out)⟩
                      · replace c108 := Bool.eq_false_iff.mpr c108
                        subst c108
                        have H1 : (none) = some r := by rw [if_neg (show ¬ (false = true) by decide)] at H; exact H
                        clear H
                        have H := H1
                        clear H1
                        exact absurd H (by simp)
                    · replace c106 := Bool.eq_false_iff.mpr c106
                      subst c106
                      have H1 : (none) = some r := by rw [if_neg (show ¬ (false = true) by decide)] at H; exact H
                      clear H
                      have H := H1
                      clear H1
                      exact absurd H (by simp)

/-- THE ONE PURE STATEMENT of alidadelaw01_NatTells: yours. -/
def alidadelaw01_NatTells.Pure : Prop := ∀ (l0 : List Int) (l1 : List Int) (a2 : Int), l0.length ≤ maxLen → l0.length * 4 ≤ 140737488351232 → (∀ x ∈ l0, (Lit.int .u32 x).wf = true) → l1.length ≤ maxLen → l1.length * 4 ≤ 140737488351232 → (∀ x ∈ l1, (Lit.int .u32 x).wf = true) → (Lit.int .u64 a2).wf = true → ∃ k, alidadelaw01_NatTells.f k l0 l1 a2 = some true
theorem alidadelaw01_NatTells.walk (P : alidadelaw01_NatTells.Pure) (a0 : Option Addr) (len0 cap0 : Nat) (z0 : List Int) (a1 : Option Addr) (len1 cap1 : Nat) (z1 : List Int) (a2 : Int) (w : World) (w0 : (a0 = none ∧ len0 = 0 ∧ cap0 = 0 ∧ z0 = []) ∨ ∃ x, a0 = some x ∧ len0 ≤ cap0 ∧ cap0 ≤ maxLen ∧ z0.length = cap0 ∧ (∀ i, i < z0.length → w.cell? (x.add i) = some (.int .u32 (z0.getD i 0))) ∧ ∀ n ∈ z0, (Lit.int .u32 n).wf = true) (y0 : len0 * 4 ≤ 140737488351232) (w1 : (a1 = none ∧ len1 = 0 ∧ cap1 = 0 ∧ z1 = []) ∨ ∃ x, a1 = some x ∧ len1 ≤ cap1 ∧ cap1 ≤ maxLen ∧ z1.length = cap1 ∧ (∀ i, i < z1.length → w.cell? (x.add i) = some (.int .u32 (z1.getD i 0))) ∧ ∀ n ∈ z1, (Lit.int .u32 n).wf = true) (y1 : len1 * 4 ≤ 140737488351232) (w2 : (Lit.int .u64 a2).wf = true) :
    Calls Try.prog 8 #[.slice a0 len0 cap0, .slice a1 len1 cap1, .int .u64 a2] w fun e w' => e = .returned (.bool true) ∧ Below w.heap.size w w' := by
  obtain ⟨l0, rfl, hr0, hm0, hw0, hc0⟩ := ReadsInt.ofRowC w0
  obtain ⟨l1, rfl, hr1, hm1, hw1, hc1⟩ := ReadsInt.ofRowC w1
  obtain ⟨k, h⟩ := P l0 l1 a2 hm0 y0 hw0 hm1 y1 hw1 w2
  refine (alidadelaw01_NatTells.calls k _ _ l0 _ _ l1 a2 true w (Kd.C_of_reads (d := (0 : Int)) (h1 := fun _ => rfl) hr0) hc0 (Kd.C_of_reads (d := (0 : Int)) (h1 := fun _ => rfl) hr1) hc1 h).mono ?_
  rintro e w' ⟨rfl, hd⟩
  exact ⟨rfl, hd⟩

end Go.Proofs.Ythdhpihfbggbbaa.PNat
