-- A text of the seat Ytgikmpgpccfiiaa, written by a program of this session (drive.py).
import Derived.Test.YtgikmpgpccfiiaaPSxpx0
import Derived.Test.YtgikmpgpccfiiaaPSxpx25
import Derived.Test.YtgikmpgpccfiiaaPSxpx26
import Derived.Test.YtgikmpgpccfiiaaPSxpx29
import Derived.Test.YtgikmpgpccfiiaaPSxpx30
namespace Go.Proofs.Ytgikmpgpccfiiaa.PSxp
open Go.RowKit Go.Proofs.YtgikmpgpccfiiaaW.PrintWords Go.Proofs.YtgikmpgpccfiiaaW.PrintLast Go.Proofs.YtgikmpgpccfiiaaW.PrintMore
attribute [local go_sem] max2_int min2_int max_two min_two max_three min_three max_four min_four   -- for this text's walks alone
set_option linter.unusedVariables false
set_option linter.unusedSimpArgs false

/-! ### alidadelaw13_awake: function 22 -/
def alidadelaw13_awake.j0 : Nat → List (S51) → Bool → Option (Bool)
 | 0, _, _ => none
 | k + 1, x1, x30 => if x30 = true then (none) else (if 0 < (x1.length : Int) then (if (((rd_T51 x1 0).f3).length : Int) = 3 then (if 1 < (((rd_T51 x1 0).f3).length : Int) then (if ((rd_T51 ((rd_T51 x1 0).f3) 1).f1) = 3 then ((sexp_Show.f k ((rd_T51 x1 0).f0) ((rd_T51 x1 0).f1) ((rd_T51 x1 0).f2) ((rd_T51 x1 0).f3)).bind fun t227 => (if t227.toList = ([40, 97, 32, 40, 49, 32, 50, 46, 53, 41, 32, 58, 107, 41] : List UInt8) then ((sexp_Size.f k ((rd_T51 x1 0).f0) ((rd_T51 x1 0).f1) ((rd_T51 x1 0).f2) ((rd_T51 x1 0).f3)).bind fun t228 => (if t228 = 6 then ((sexp_Depth.f k ((rd_T51 x1 0).f0) ((rd_T51 x1 0).f1) ((rd_T51 x1 0).f2) ((rd_T51 x1 0).f3)).bind fun t229 => (if t229 = 2 then ((sexp_Head.f ((rd_T51 x1 0).f0) ((rd_T51 x1 0).f1) ((rd_T51 x1 0).f2) ((rd_T51 x1 0).f3)).bind fun t230 => (if t230.toList = ([97] : List UInt8) then ((alidadelaw13_wrong.f k (⟨#[40, 41, 41]⟩ : ByteArray) 9 2 4).bind fun t231 => (if t231 = true then ((alidadelaw13_wrong.f k (⟨#[40, 40, 41]⟩ : ByteArray) 9 3 4).bind fun t232 => (if t232 = true then ((alidadelaw13_wrong.f k (⟨#[40, 40, 97, 41, 41]⟩ : ByteArray) 1 1 46).bind fun t233 => (some t233)) else (none))) else (none))) else (none))) else (none))) else (none))) else (none))) else (none)) else (none)) else (none)) else (none))
def alidadelaw13_awake.f (k : Nat)  : Option (Bool) := (alidadelaw13_read.f k (⟨#[40, 97, 32, 40, 49, 32, 50, 46, 53, 41, 32, 58, 107, 41, 32, 120]⟩ : ByteArray) 9).bind fun bt217 => (if bt217.2.2 = 0 then (if (bt217.1.length : Int) = 2 then (if 1 < (bt217.1.length : Int) then (if ((rd_T51 bt217.1 1).f2).toList = ([120] : List UInt8) then (alidadelaw13_awake.j0 k bt217.1 (((rd_T51 bt217.1 1).f1) != 15)) else (alidadelaw13_awake.j0 k bt217.1 true)) else (none)) else (alidadelaw13_awake.j0 k bt217.1 true)) else (alidadelaw13_awake.j0 k bt217.1 true))
theorem alidadelaw13_awake.mono_l : ∀ k, (∀ y0 y1, LeO (alidadelaw13_awake.j0 k y0 y1) (alidadelaw13_awake.j0 (k + 1) y0 y1))
 | 0 => fun _ _ r h => by simp [alidadelaw13_awake.j0] at h
 | k + 1 => by
  have ih0 := alidadelaw13_awake.mono_l k
  ·intro y0 y1
   unfold alidadelaw13_awake.j0
   repeat' first
   | (with_reducible exact ih0 _ _)
   | (with_reducible exact alidadelaw13_read.mono _ _ _)
   | (with_reducible exact alidadelaw13_wrong.mono _ _ _ _ _)
   | (with_reducible exact sexp_Depth.mono _ _ _ _ _)
   | (with_reducible exact sexp_Show.mono _ _ _ _ _)
   | (with_reducible exact sexp_Size.mono _ _ _ _ _)
   | (with_reducible exact LeO.refl _)
   | (with_reducible exact LeO.none _)
   | (with_reducible refine LeO.ite ?_ ?_)
   | (with_reducible refine LeO.bind ?_ (fun _ => ?_))
   | exact ih0 _ _
   | exact alidadelaw13_read.mono _ _ _
   | exact alidadelaw13_wrong.mono _ _ _ _ _
   | exact sexp_Depth.mono _ _ _ _ _
   | exact sexp_Show.mono _ _ _ _ _
   | exact sexp_Size.mono _ _ _ _ _
   | exact LeO.none _
   | refine LeO.ite ?_ ?_
   | refine LeO.bind ?_ (fun _ => ?_)
theorem alidadelaw13_awake.mono : ∀ k, LeO (alidadelaw13_awake.f k ) (alidadelaw13_awake.f (k + 1) ) := by
 intro  k
 have ih0 := alidadelaw13_awake.mono_l k
 unfold alidadelaw13_awake.f
 repeat' first
   | (with_reducible exact ih0 _ _)
   | (with_reducible exact alidadelaw13_read.mono _ _ _)
   | (with_reducible exact alidadelaw13_wrong.mono _ _ _ _ _)
   | (with_reducible exact sexp_Depth.mono _ _ _ _ _)
   | (with_reducible exact sexp_Show.mono _ _ _ _ _)
   | (with_reducible exact sexp_Size.mono _ _ _ _ _)
   | (with_reducible exact LeO.refl _)
   | (with_reducible exact LeO.none _)
   | (with_reducible refine LeO.ite ?_ ?_)
   | (with_reducible refine LeO.bind ?_ (fun _ => ?_))
   | exact ih0 _ _
   | exact alidadelaw13_read.mono _ _ _
   | exact alidadelaw13_wrong.mono _ _ _ _ _
   | exact sexp_Depth.mono _ _ _ _ _
   | exact sexp_Show.mono _ _ _ _ _
   | exact sexp_Size.mono _ _ _ _ _
   | exact LeO.none _
   | refine LeO.ite ?_ ?_
   | refine LeO.bind ?_ (fun _ => ?_)
set_option maxHeartbeats 8000000 in
set_option maxRecDepth 100000 in
theorem alidadelaw13_awake.calls (k : Nat)  (r : Bool) (w : World) (h : alidadelaw13_awake.f k  = some r) :
  Calls Try.prog 22 #[] w fun e w' => e = .returned (.bool r) ∧ Below w.heap.size w w' := by
 have hu51 := Try.underlying51
 have HB := Aside0.mk (Below.refl w.heap.size w)
 have H : ((alidadelaw13_read.f k (⟨#[40, 97, 32, 40, 49, 32, 50, 46, 53, 41, 32, 58, 107, 41, 32, 120]⟩ : ByteArray) 9).bind fun bt217 => (if bt217.2.2 = 0 then (if (bt217.1.length : Int) = 2 then (if 1 < (bt217.1.length : Int) then (if ((rd_T51 bt217.1 1).f2).toList = ([120] : List UInt8) then (alidadelaw13_awake.j0 k bt217.1 (((rd_T51 bt217.1 1).f1) != 15)) else (alidadelaw13_awake.j0 k bt217.1 true)) else (none)) else (alidadelaw13_awake.j0 k bt217.1 true)) else (alidadelaw13_awake.j0 k bt217.1 true))) = some r := h
 clear h
 replace H := Option.bind_eq_some_iff.mp H
 obtain ⟨⟨t217, t218, t219⟩, A10, H⟩ := H
 replace H : (if t219 = 0 then (if (t217.length : Int) = 2 then (if 1 < (t217.length : Int) then (if ((rd_T51 t217 1).f2).toList = ([120] : List UInt8) then (alidadelaw13_awake.j0 k t217 (((rd_T51 t217 1).f1) != 15)) else (alidadelaw13_awake.j0 k t217 true)) else (none)) else (alidadelaw13_awake.j0 k t217 true)) else (alidadelaw13_awake.j0 k t217 true)) = some r := H
 have A1 := Aside0.mk A10
 clear A10
 have HC2 := Aside0.mk H
 clear H
 go_enter Try.func22, Try.ntmps22
 go_upto_region 2 with (first | ((with_reducible refine gate_callee (f := 23) rfl ?_); refine goesL_ (some 6) rfl rfl Try.func23 (by kernel_rfl) rfl #[.string (⟨#[40, 97, 32, 40, 49, 32, 50, 46, 53, 41, 32, 58, 107, 41, 32, 120]⟩ : ByteArray), .int .i64 9] rfl (by (try simp only [List.map_toArray, List.map_cons, List.map_nil]); first | done | rfl | (simp only [List.length_drop, List.length_take]; rfl)) ?_; (with_reducible refine (alidadelaw13_read.calls k (⟨#[40, 97, 32, 40, 49, 32, 50, 46, 53, 41, 32, 58, 107, 41, 32, 120]⟩ : ByteArray) 9 t217 t218 t219 _ A1.out).mono ?_); rintro e w3 ⟨v220, rfl, ho0, hb⟩; refine ⟨_, rfl, ?_⟩; have n0_ := Aside0.mk (Kd.R_lower ho0 (below_size (by repeat (first | (with_reducible first | exact HB.out | apply below_alloc | apply pw_below_drewN | apply below_drew1) | exact HB.out)))); have n1_ := Aside0.mk (below_step (by repeat (first | (with_reducible first | exact HB.out | apply below_alloc | apply pw_below_drewN | apply below_drew1) | exact HB.out)) hb); clear HB; have HO221 := n0_; have HB := n1_; clear n0_ n1_; (try clear hb); (try clear hb2); (try clear hk); (try clear hi); (try clear ho0)))
 (try simp only [Act.put, List.setIfInBounds_toArray, List.set_cons_zero, List.set_cons_succ])
 go_cut [30] (fun v30 wc => ∃ (kq : Nat) (x30_1 : Bool), v30 = .bool x30_1 ∧ Aside0 (alidadelaw13_awake.j0 kq t217 x30_1 = some r) ∧ Aside0 (kq ≤ k) ∧ Aside0 (Kd.R k51 51 wc w.heap.size (fun _ => True) v220 t217) ∧ Aside0 (Below w.heap.size w wc))
 case first =>
  have H := HC2.out
  clear HC2
  by_cases c4 : t219 = 0
  ·rw [if_pos c4] at H
   have c4b0 : (t219 == 0) = true := beq_iff_eq.mpr c4
   have c4b1 : (t219 != 0) = false := bne_eq_false_iff_eq.mpr c4
   clear c4
   (first | rw [c4b0] | (simp only [i64_w, i32_w]; rw [c4b0]) | skip)
   by_cases c5 : (t217.length : Int) = 2
   ·rw [if_pos c5] at H
    have c5b0 : ((t217.length : Int) == 2) = true := beq_iff_eq.mpr c5
    have c5b1 : ((t217.length : Int) != 2) = false := bne_eq_false_iff_eq.mpr c5
    clear c5
    by_cases c6 : 1 < (t217.length : Int)
    ·rw [if_pos c6] at H
     have c6b0 : decide (1 < (t217.length : Int)) = true := decide_eq_true c6
     have c6b1 : decide (1 < t217.length) = true := decide_eq_true (by omega)
     clear c6
     by_cases c7 : ((rd_T51 t217 1).f2).toList = ([120] : List UInt8)
     ·rw [if_pos c7] at H
      have c7b0 : (((rd_T51 t217 1).f2).toList == ([120] : List UInt8)) = true := beq_iff_eq.mpr c7
      have c7b1 : (((rd_T51 t217 1).f2).toList != ([120] : List UInt8)) = false := bne_eq_false_iff_eq.mpr c7
      clear c7
      have H' := Aside0.mk H
      clear H
      obtain ⟨Ao8, co8, eo8⟩ := Kd.R_slice HO221.out
      subst eo8
      have p222 : 0 ≤ (1 : Int) := (by omega)
      have q222 : 1 < (t217.length : Int) := of_decide_eq_true (by first | (with_reducible assumption) | assumption)
      obtain ⟨ad222, A222_3, c222_3, e222, hx222_0, hx222_1, hx222_2, hx222_3, hl222_3, hi222_3⟩ := at_T51 (Kd.R_reads' HO221.out).2.2 1 p222 q222
      cases e222
      obtain ⟨ce222, hce222, hMe222, hcc222⟩ := Kd.R_get HO221.out z51 1 p222 (by first | exact q222 | exact of_decide_eq_true (by first | (with_reducible assumption) | assumption) | (have e_ := (Kd.R_reads' HO221.out).1; omega))
      obtain ⟨ve222_3, rfl, ge222_3⟩ := k51_openM hMe222
      have hv222_3 := hcc222 3 _ rfl
      rw [add_field _ _ 3 (by omega)] at hv222_3
      replace hv222_3 := Option.some.inj (hv222_3.symm.trans hx222_3)
      rw [hv222_3] at ge222_3
      have HL222_3 := Aside0.mk (show Kd.R k51 51 _ _ _ _ ((rd_T51 t217 1).f3) from ge222_3)
      clear hv222_3 ge222_3
      clear hcc222 hce222
      (try simp only [show (1 : Int).toNat = 1 from rfl, Nat.reduceMul, Nat.reduceEqDiff, Go.Addr.add, ↓reduceIte] at hx222_0)
      (try simp only [show (1 : Int).toNat = 1 from rfl, Nat.reduceMul, Nat.reduceEqDiff, Go.Addr.add, ↓reduceIte] at hx222_1)
      (try simp only [show (1 : Int).toNat = 1 from rfl, Nat.reduceMul, Nat.reduceEqDiff, Go.Addr.add, ↓reduceIte] at hx222_2)
      (try simp only [show (1 : Int).toNat = 1 from rfl, Nat.reduceMul, Nat.reduceEqDiff, Go.Addr.add, ↓reduceIte] at hx222_3)
      have qi222 : (1 < t217.length) = True := eq_true (by omega)
      (try rw [show ((1 : Int)).toNat = 1 from rfl] at hx222_0)
      (try rw [show 1 * 4 = 4 from rfl] at hx222_0)
      (try rw [show ((1 : Int)).toNat = 1 from rfl] at hx222_1)
      (try rw [show 1 * 4 = 4 from rfl] at hx222_1)
      (try rw [show ((1 : Int)).toNat = 1 from rfl] at hx222_2)
      (try rw [show 1 * 4 = 4 from rfl] at hx222_2)
      (try rw [show ((1 : Int)).toNat = 1 from rfl] at hx222_3)
      (try rw [show 1 * 4 = 4 from rfl] at hx222_3)
      have HR222_3 := Aside0.mk hi222_3
      have HC222_3 := Aside0.mk hl222_3
      clear hi222_3 hl222_3
      replace p222 := eq_true p222
      replace q222 := eq_true q222
      have p223 : 0 ≤ (1 : Int) := (by omega)
      have q223 : 1 < (t217.length : Int) := of_decide_eq_true (by first | (with_reducible assumption) | assumption)
      obtain ⟨ad223, A223_3, c223_3, e223, hx223_0, hx223_1, hx223_2, hx223_3, hl223_3, hi223_3⟩ := at_T51 (Kd.R_reads' HO221.out).2.2 1 p223 q223
      obtain rfl : ad222 = ad223 := (by injection e223)
      obtain ⟨ce223, hce223, hMe223, hcc223⟩ := Kd.R_get HO221.out z51 1 p223 (by first | exact q223 | exact of_decide_eq_true (by first | (with_reducible assumption) | assumption) | (have e_ := (Kd.R_reads' HO221.out).1; omega))
      obtain ⟨ve223_3, rfl, ge223_3⟩ := k51_openM hMe223
      have hv223_3 := hcc223 3 _ rfl
      rw [add_field _ _ 3 (by omega)] at hv223_3
      replace hv223_3 := Option.some.inj (hv223_3.symm.trans hx223_3)
      rw [hv223_3] at ge223_3
      have HL223_3 := Aside0.mk (show Kd.R k51 51 _ _ _ _ ((rd_T51 t217 1).f3) from ge223_3)
      clear hv223_3 ge223_3
      clear hcc223 hce223
      (try simp only [show (1 : Int).toNat = 1 from rfl, Nat.reduceMul, Nat.reduceEqDiff, Go.Addr.add, ↓reduceIte] at hx223_0)
      (try simp only [show (1 : Int).toNat = 1 from rfl, Nat.reduceMul, Nat.reduceEqDiff, Go.Addr.add, ↓reduceIte] at hx223_1)
      (try simp only [show (1 : Int).toNat = 1 from rfl, Nat.reduceMul, Nat.reduceEqDiff, Go.Addr.add, ↓reduceIte] at hx223_2)
      (try simp only [show (1 : Int).toNat = 1 from rfl, Nat.reduceMul, Nat.reduceEqDiff, Go.Addr.add, ↓reduceIte] at hx223_3)
      have qi223 : (1 < t217.length) = True := eq_true (by omega)
      (try rw [show ((1 : Int)).toNat = 1 from rfl] at hx223_0)
      (try rw [show 1 * 4 = 4 from rfl] at hx223_0)
      (try rw [show ((1 : Int)).toNat = 1 from rfl] at hx223_1)
      (try rw [show 1 * 4 = 4 from rfl] at hx223_1)
      (try rw [show ((1 : Int)).toNat = 1 from rfl] at hx223_2)
      (try rw [show 1 * 4 = 4 from rfl] at hx223_2)
      (try rw [show ((1 : Int)).toNat = 1 from rfl] at hx223_3)
      (try rw [show 1 * 4 = 4 from rfl] at hx223_3)
      have HR223_3 := Aside0.mk hi223_3
      have HC223_3 := Aside0.mk hl223_3
      clear hi223_3 hl223_3
      replace p223 := eq_true p223
      replace q223 := eq_true q223
      have ea_ := Option.some.inj (hx222_3.symm.trans hx223_3)
      injection ea_ with ea_ en_ ec_
      subst ea_
      subst ec_
      clear en_
      go_wp2
      go_meet
      case rel => exact ⟨_, ((((rd_T51 t217 1).f1) != 15)), (by first | rfl | (simp; done) | (simp [*]; done)), H', ⟨by first | omega | exact Nat.le_refl _⟩, ⟨by (with_reducible repeat (first | apply Kd.R_alloc | apply Kd.R_drewN | apply Kd.R_drew)); exact HO221.out⟩, ⟨by repeat (first | (with_reducible first | exact HB.out | apply below_alloc | apply pw_below_drewN | apply below_drew1) | exact HB.out)⟩⟩
     ·rw [if_neg c7] at H
      have c7b0 : (((rd_T51 t217 1).f2).toList == ([120] : List UInt8)) = false := beq_eq_false_iff_ne.mpr c7
      have c7b1 : (((rd_T51 t217 1).f2).toList != ([120] : List UInt8)) = true := bne_iff_ne.mpr c7
      have H' := Aside0.mk H
      clear H
      obtain ⟨Ao9, co9, eo9⟩ := Kd.R_slice HO221.out
      subst eo9
      have p222 : 0 ≤ (1 : Int) := (by omega)
      have q222 : 1 < (t217.length : Int) := of_decide_eq_true (by first | (with_reducible assumption) | assumption)
      obtain ⟨ad222, A222_3, c222_3, e222, hx222_0, hx222_1, hx222_2, hx222_3, hl222_3, hi222_3⟩ := at_T51 (Kd.R_reads' HO221.out).2.2 1 p222 q222
      cases e222
      obtain ⟨ce222, hce222, hMe222, hcc222⟩ := Kd.R_get HO221.out z51 1 p222 (by first | exact q222 | exact of_decide_eq_true (by first | (with_reducible assumption) | assumption) | (have e_ := (Kd.R_reads' HO221.out).1; omega))
      obtain ⟨ve222_3, rfl, ge222_3⟩ := k51_openM hMe222
      have hv222_3 := hcc222 3 _ rfl
      rw [add_field _ _ 3 (by omega)] at hv222_3
      replace hv222_3 := Option.some.inj (hv222_3.symm.trans hx222_3)
      rw [hv222_3] at ge222_3
      have HL222_3 := Aside0.mk (show Kd.R k51 51 _ _ _ _ ((rd_T51 t217 1).f3) from ge222_3)
      clear hv222_3 ge222_3
      clear hcc222 hce222
      (try simp only [show (1 : Int).toNat = 1 from rfl, Nat.reduceMul, Nat.reduceEqDiff, Go.Addr.add, ↓reduceIte] at hx222_0)
      (try simp only [show (1 : Int).toNat = 1 from rfl, Nat.reduceMul, Nat.reduceEqDiff, Go.Addr.add, ↓reduceIte] at hx222_1)
      (try simp only [show (1 : Int).toNat = 1 from rfl, Nat.reduceMul, Nat.reduceEqDiff, Go.Addr.add, ↓reduceIte] at hx222_2)
      (try simp only [show (1 : Int).toNat = 1 from rfl, Nat.reduceMul, Nat.reduceEqDiff, Go.Addr.add, ↓reduceIte] at hx222_3)
      have qi222 : (1 < t217.length) = True := eq_true (by omega)
      (try rw [show ((1 : Int)).toNat = 1 from rfl] at hx222_0)
      (try rw [show 1 * 4 = 4 from rfl] at hx222_0)
      (try rw [show ((1 : Int)).toNat = 1 from rfl] at hx222_1)
      (try rw [show 1 * 4 = 4 from rfl] at hx222_1)
      (try rw [show ((1 : Int)).toNat = 1 from rfl] at hx222_2)
      (try rw [show 1 * 4 = 4 from rfl] at hx222_2)
      (try rw [show ((1 : Int)).toNat = 1 from rfl] at hx222_3)
      (try rw [show 1 * 4 = 4 from rfl] at hx222_3)
      have HR222_3 := Aside0.mk hi222_3
      have HC222_3 := Aside0.mk hl222_3
      clear hi222_3 hl222_3
      replace p222 := eq_true p222
      replace q222 := eq_true q222
      go_wp2
      go_meet
      case rel => exact ⟨_, (true), (by first | rfl | (simp; done) | (simp [*]; done)), H', ⟨by first | omega | exact Nat.le_refl _⟩, ⟨by (with_reducible repeat (first | apply Kd.R_alloc | apply Kd.R_drewN | apply Kd.R_drew)); exact HO221.out⟩, ⟨by repeat (first | (with_reducible first | exact HB.out | apply below_alloc | apply pw_below_drewN | apply below_drew1) | exact HB.out)⟩⟩
    ·rw [if_neg c6] at H
     exact absurd H (by simp)
   ·rw [if_neg c5] at H
    have c5b0 : ((t217.length : Int) == 2) = false := beq_eq_false_iff_ne.mpr c5
    have c5b1 : ((t217.length : Int) != 2) = true := bne_iff_ne.mpr c5
    have H' := Aside0.mk H
    clear H
    obtain ⟨Ao10, co10, eo10⟩ := Kd.R_slice HO221.out
    subst eo10
    go_wp2
    go_meet
    case rel => exact ⟨_, (true), (by first | rfl | (simp; done) | (simp [*]; done)), H', ⟨by first | omega | exact Nat.le_refl _⟩, ⟨by (with_reducible repeat (first | apply Kd.R_alloc | apply Kd.R_drewN | apply Kd.R_drew)); exact HO221.out⟩, ⟨by repeat (first | (with_reducible first | exact HB.out | apply below_alloc | apply pw_below_drewN | apply below_drew1) | exact HB.out)⟩⟩
  ·rw [if_neg c4] at H
   have c4b0 : (t219 == 0) = false := beq_eq_false_iff_ne.mpr c4
   have c4b1 : (t219 != 0) = true := bne_iff_ne.mpr c4
   (first | rw [c4b0] | (simp only [i64_w, i32_w]; rw [c4b0]) | skip)
   have H' := Aside0.mk H
   clear H
   go_wp2
   go_meet
   case rel => exact ⟨_, (true), (by first | rfl | (simp; done) | (simp [*]; done)), H', ⟨by first | omega | exact Nat.le_refl _⟩, ⟨by (with_reducible repeat (first | apply Kd.R_alloc | apply Kd.R_drewN | apply Kd.R_drew)); exact HO221.out⟩, ⟨by repeat (first | (with_reducible first | exact HB.out | apply below_alloc | apply pw_below_drewN | apply below_drew1) | exact HB.out)⟩⟩
 case rest =>
  clear HC2
  try clear c2
  try clear p2
  try clear q2
  try clear hx2
  try clear qi2
  try clear c4
  try clear c4b0
  try clear c4b1
  try clear c5
  try clear c5b0
  try clear c5b1
  try clear c6
  try clear c6b0
  try clear c6b1
  try clear c7
  try clear c7b0
  try clear c7b1
  try clear hx222_0
  try clear hx222_1
  try clear hx222_2
  try clear hx222_3
  try clear hx223_0
  try clear hx223_1
  try clear hx223_2
  try clear hx223_3
  try clear p222
  try clear p223
  try clear q222
  try clear q223
  obtain ⟨kq, x30_1, rfl, HA, HJ1, HO_1, HB⟩ := hcut
  cases kq with
  | zero => exact absurd HA.out (by simp [alidadelaw13_awake.j0])
  | succ kj1 =>
   have H := HA.out
   clear HA
   simp only [alidadelaw13_awake.j0] at H
   by_cases c11 : x30_1 = true
   ·subst c11
    have H1 : (none) = some r := by rw [if_pos rfl] at H; exact H
    clear H
    have H := H1
    clear H1
    exact absurd H (by simp)
   ·replace c11 := Bool.eq_false_iff.mpr c11
    subst c11
    have H1 : (if 0 < (t217.length : Int) then (if (((rd_T51 t217 0).f3).length : Int) = 3 then (if 1 < (((rd_T51 t217 0).f3).length : Int) then (if ((rd_T51 ((rd_T51 t217 0).f3) 1).f1) = 3 then ((sexp_Show.f kj1 ((rd_T51 t217 0).f0) ((rd_T51 t217 0).f1) ((rd_T51 t217 0).f2) ((rd_T51 t217 0).f3)).bind fun t227 => (if t227.toList = ([40, 97, 32, 40, 49, 32, 50, 46, 53, 41, 32, 58, 107, 41] : List UInt8) then ((sexp_Size.f kj1 ((rd_T51 t217 0).f0) ((rd_T51 t217 0).f1) ((rd_T51 t217 0).f2) ((rd_T51 t217 0).f3)).bind fun t228 => (if t228 = 6 then ((sexp_Depth.f kj1 ((rd_T51 t217 0).f0) ((rd_T51 t217 0).f1) ((rd_T51 t217 0).f2) ((rd_T51 t217 0).f3)).bind fun t229 => (if t229 = 2 then ((sexp_Head.f ((rd_T51 t217 0).f0) ((rd_T51 t217 0).f1) ((rd_T51 t217 0).f2) ((rd_T51 t217 0).f3)).bind fun t230 => (if t230.toList = ([97] : List UInt8) then ((alidadelaw13_wrong.f kj1 (⟨#[40, 41, 41]⟩ : ByteArray) 9 2 4).bind fun t231 => (if t231 = true then ((alidadelaw13_wrong.f kj1 (⟨#[40, 40, 41]⟩ : ByteArray) 9 3 4).bind fun t232 => (if t232 = true then ((alidadelaw13_wrong.f kj1 (⟨#[40, 40, 97, 41, 41]⟩ : ByteArray) 1 1 46).bind fun t233 => (some t233)) else (none))) else (none))) else (none))) else (none))) else (none))) else (none))) else (none)) else (none)) else (none)) else (none)) = some r := by rw [if_neg (show ¬ (false = true) by decide)] at H; exact H
    clear H
    have H := H1
    clear H1
    by_cases c12 : 0 < (t217.length : Int)
    ·rw [if_pos c12] at H
     have c12b0 : decide (0 < (t217.length : Int)) = true := decide_eq_true c12
     have c12b1 : decide (0 < t217.length) = true := decide_eq_true (by omega)
     clear c12
     by_cases c13 : (((rd_T51 t217 0).f3).length : Int) = 3
     ·rw [if_pos c13] at H
      have c13b0 : ((((rd_T51 t217 0).f3).length : Int) == 3) = true := beq_iff_eq.mpr c13
      have c13b1 : ((((rd_T51 t217 0).f3).length : Int) != 3) = false := bne_eq_false_iff_eq.mpr c13
      clear c13
      by_cases c14 : 1 < (((rd_T51 t217 0).f3).length : Int)
      ·rw [if_pos c14] at H
       have c14b0 : decide (1 < (((rd_T51 t217 0).f3).length : Int)) = true := decide_eq_true c14
       have c14b1 : decide (1 < ((rd_T51 t217 0).f3).length) = true := decide_eq_true (by omega)
       clear c14
       by_cases c15 : ((rd_T51 ((rd_T51 t217 0).f3) 1).f1) = 3
       ·rw [if_pos c15] at H
        have c15b0 : (((rd_T51 ((rd_T51 t217 0).f3) 1).f1) == 3) = true := beq_iff_eq.mpr c15
        have c15b1 : (((rd_T51 ((rd_T51 t217 0).f3) 1).f1) != 3) = false := bne_eq_false_iff_eq.mpr c15
        clear c15
        replace H := Option.bind_eq_some_iff.mp H
        obtain ⟨t227, A160, H⟩ := H
        replace H : (if t227.toList = ([40, 97, 32, 40, 49, 32, 50, 46, 53, 41, 32, 58, 107, 41] : List UInt8) then ((sexp_Size.f kj1 ((rd_T51 t217 0).f0) ((rd_T51 t217 0).f1) ((rd_T51 t217 0).f2) ((rd_T51 t217 0).f3)).bind fun t228 => (if t228 = 6 then ((sexp_Depth.f kj1 ((rd_T51 t217 0).f0) ((rd_T51 t217 0).f1) ((rd_T51 t217 0).f2) ((rd_T51 t217 0).f3)).bind fun t229 => (if t229 = 2 then ((sexp_Head.f ((rd_T51 t217 0).f0) ((rd_T51 t217 0).f1) ((rd_T51 t217 0).f2) ((rd_T51 t217 0).f3)).bind fun t230 => (if t230.toList = ([97] : List UInt8) then ((alidadelaw13_wrong.f kj1 (⟨#[40, 41, 41]⟩ : ByteArray) 9 2 4).bind fun t231 => (if t231 = true then ((alidadelaw13_wrong.f kj1 (⟨#[40, 40, 41]⟩ : ByteArray) 9 3 4).bind fun t232 => (if t232 = true then ((alidadelaw13_wrong.f kj1 (⟨#[40, 40, 97, 41, 41]⟩ : ByteArray) 1 1 46).bind fun t233 => (some t233)) else (none))) else (none))) else (none))) else (none))) else (none))) else (none)) = some r := H
        have A16 := Aside0.mk A160
        clear A160
        by_cases c17 : t227.toList = ([40, 97, 32, 40, 49, 32, 50, 46, 53, 41, 32, 58, 107, 41] : List UInt8)
        ·rw [if_pos c17] at H
         have c17b0 : (t227.toList == ([40, 97, 32, 40, 49, 32, 50, 46, 53, 41, 32, 58, 107, 41] : List UInt8)) = true := beq_iff_eq.mpr c17
         have c17b1 : (t227.toList != ([40, 97, 32, 40, 49, 32, 50, 46, 53, 41, 32, 58, 107, 41] : List UInt8)) = false := bne_eq_false_iff_eq.mpr c17
         clear c17
         replace H := Option.bind_eq_some_iff.mp H
         obtain ⟨t228, A180, H⟩ := H
         replace H : (if t228 = 6 then ((sexp_Depth.f kj1 ((rd_T51 t217 0).f0) ((rd_T51 t217 0).f1) ((rd_T51 t217 0).f2) ((rd_T51 t217 0).f3)).bind fun t229 => (if t229 = 2 then ((sexp_Head.f ((rd_T51 t217 0).f0) ((rd_T51 t217 0).f1) ((rd_T51 t217 0).f2) ((rd_T51 t217 0).f3)).bind fun t230 => (if t230.toList = ([97] : List UInt8) then ((alidadelaw13_wrong.f kj1 (⟨#[40, 41, 41]⟩ : ByteArray) 9 2 4).bind fun t231 => (if t231 = true then ((alidadelaw13_wrong.f kj1 (⟨#[40, 40, 41]⟩ : ByteArray) 9 3 4).bind fun t232 => (if t232 = true then ((alidadelaw13_wrong.f kj1 (⟨#[40, 40, 97, 41, 41]⟩ : ByteArray) 1 1 46).bind fun t233 => (some t233)) else (none))) else (none))) else (none))) else (none))) else (none)) = some r := H
         have A18 := Aside0.mk A180
         clear A180
         by_cases c19 : t228 = 6
         ·rw [if_pos c19] at H
          have c19b0 : (t228 == 6) = true := beq_iff_eq.mpr c19
          have c19b1 : (t228 != 6) = false := bne_eq_false_iff_eq.mpr c19
          clear c19
          replace H := Option.bind_eq_some_iff.mp H
          obtain ⟨t229, A200, H⟩ := H
          replace H : (if t229 = 2 then ((sexp_Head.f ((rd_T51 t217 0).f0) ((rd_T51 t217 0).f1) ((rd_T51 t217 0).f2) ((rd_T51 t217 0).f3)).bind fun t230 => (if t230.toList = ([97] : List UInt8) then ((alidadelaw13_wrong.f kj1 (⟨#[40, 41, 41]⟩ : ByteArray) 9 2 4).bind fun t231 => (if t231 = true then ((alidadelaw13_wrong.f kj1 (⟨#[40, 40, 41]⟩ : ByteArray) 9 3 4).bind fun t232 => (if t232 = true then ((alidadelaw13_wrong.f kj1 (⟨#[40, 40, 97, 41, 41]⟩ : ByteArray) 1 1 46).bind fun t233 => (some t233)) else (none))) else (none))) else (none))) else (none)) = some r := H
          have A20 := Aside0.mk A200
          clear A200
          by_cases c21 : t229 = 2
          ·rw [if_pos c21] at H
           have c21b0 : (t229 == 2) = true := beq_iff_eq.mpr c21
           have c21b1 : (t229 != 2) = false := bne_eq_false_iff_eq.mpr c21
           clear c21
           replace H := Option.bind_eq_some_iff.mp H
           obtain ⟨t230, A220, H⟩ := H
           replace H : (if t230.toList = ([97] : List UInt8) then ((alidadelaw13_wrong.f kj1 (⟨#[40, 41, 41]⟩ : ByteArray) 9 2 4).bind fun t231 => (if t231 = true then ((alidadelaw13_wrong.f kj1 (⟨#[40, 40, 41]⟩ : ByteArray) 9 3 4).bind fun t232 => (if t232 = true then ((alidadelaw13_wrong.f kj1 (⟨#[40, 40, 97, 41, 41]⟩ : ByteArray) 1 1 46).bind fun t233 => (some t233)) else (none))) else (none))) else (none)) = some r := H
           have A22 := Aside0.mk A220
           clear A220
           by_cases c23 : t230.toList = ([97] : List UInt8)
           ·rw [if_pos c23] at H
            have c23b0 : (t230.toList == ([97] : List UInt8)) = true := beq_iff_eq.mpr c23
            have c23b1 : (t230.toList != ([97] : List UInt8)) = false := bne_eq_false_iff_eq.mpr c23
            clear c23
            replace H := Option.bind_eq_some_iff.mp H
            obtain ⟨t231, A240, H⟩ := H
            replace H : (if t231 = true then ((alidadelaw13_wrong.f kj1 (⟨#[40, 40, 41]⟩ : ByteArray) 9 3 4).bind fun t232 => (if t232 = true then ((alidadelaw13_wrong.f kj1 (⟨#[40, 40, 97, 41, 41]⟩ : ByteArray) 1 1 46).bind fun t233 => (some t233)) else (none))) else (none)) = some r := H
            have A24 := Aside0.mk A240
            clear A240
            by_cases c25 : t231 = true
            ·subst c25
             have H1 : ((alidadelaw13_wrong.f kj1 (⟨#[40, 40, 41]⟩ : ByteArray) 9 3 4).bind fun t232 => (if t232 = true then ((alidadelaw13_wrong.f kj1 (⟨#[40, 40, 97, 41, 41]⟩ : ByteArray) 1 1 46).bind fun t233 => (some t233)) else (none))) = some r := by rw [if_pos rfl] at H; exact H
             clear H
             have H := H1
             clear H1
             replace H := Option.bind_eq_some_iff.mp H
             obtain ⟨t232, A260, H⟩ := H
             replace H : (if t232 = true then ((alidadelaw13_wrong.f kj1 (⟨#[40, 40, 97, 41, 41]⟩ : ByteArray) 1 1 46).bind fun t233 => (some t233)) else (none)) = some r := H
             have A26 := Aside0.mk A260
             clear A260
             by_cases c27 : t232 = true
             ·subst c27
              have H1 : ((alidadelaw13_wrong.f kj1 (⟨#[40, 40, 97, 41, 41]⟩ : ByteArray) 1 1 46).bind fun t233 => (some t233)) = some r := by rw [if_pos rfl] at H; exact H
              clear H
              have H := H1
              clear H1
              replace H := Option.bind_eq_some_iff.mp H
              obtain ⟨t233, A280, H⟩ := H
              replace H : (some t233) = some r := H
              have A28 := Aside0.mk A280
              clear A280
              obtain rfl := Option.some.inj H
              obtain ⟨Ao29, co29, eo29⟩ := Kd.R_slice HO_1.out
              subst eo29
              have p224 : 0 ≤ (0 : Int) := (by omega)
              have q224 : 0 < (t217.length : Int) := of_decide_eq_true (by first | (with_reducible assumption) | assumption)
              obtain ⟨ad224, A224_3, c224_3, e224, hx224_0, hx224_1, hx224_2, hx224_3, hl224_3, hi224_3⟩ := at_T51 (Kd.R_reads' HO_1.out).2.2 0 p224 q224
              cases e224
              obtain ⟨ce224, hce224, hMe224, hcc224⟩ := Kd.R_get HO_1.out z51 0 p224 (by first | exact q224 | exact of_decide_eq_true (by first | (with_reducible assumption) | assumption) | (have e_ := (Kd.R_reads' HO_1.out).1; omega))
              obtain ⟨ve224_3, rfl, ge224_3⟩ := k51_openM hMe224
              have hv224_3 := hcc224 3 _ rfl
              rw [add_field _ _ 3 (by omega)] at hv224_3
              replace hv224_3 := Option.some.inj (hv224_3.symm.trans hx224_3)
              rw [hv224_3] at ge224_3
              have HL224_3 := Aside0.mk (show Kd.R k51 51 _ _ _ _ ((rd_T51 t217 0).f3) from ge224_3)
              clear hv224_3 ge224_3
              clear hcc224 hce224
              have qi224 : (0 < t217.length) = True := eq_true (by omega)
              (try rw [show ((0 : Int)).toNat = 0 from rfl] at hx224_0)
              (try rw [show 0 * 4 = 0 from rfl] at hx224_0)
              (try rw [Addr.add_zero'] at hx224_0)
              (try rw [show ((0 : Int)).toNat = 0 from rfl] at hx224_1)
              (try rw [show 0 * 4 = 0 from rfl] at hx224_1)
              (try rw [Addr.add_zero'] at hx224_1)
              (try rw [show ((0 : Int)).toNat = 0 from rfl] at hx224_2)
              (try rw [show 0 * 4 = 0 from rfl] at hx224_2)
              (try rw [Addr.add_zero'] at hx224_2)
              (try rw [show ((0 : Int)).toNat = 0 from rfl] at hx224_3)
              (try rw [show 0 * 4 = 0 from rfl] at hx224_3)
              (try rw [Addr.add_zero'] at hx224_3)
              have HR224_3 := Aside0.mk hi224_3
              have HC224_3 := Aside0.mk hl224_3
              clear hi224_3 hl224_3
              replace p224 := eq_true p224
              replace q224 := eq_true q224
              go_wp2_with (first | ((with_reducible refine gate_dst (N := 4) rfl ?_); (try (refine gate_guard (by rfl) ?_; dsimp only)); refine box_event ?hg (N := 4) ?hd (cs := #[.int .u8 0, .int .i64 0, .string (⟨#[]⟩ : ByteArray), .slice none 0 0]) (t := 51) ?hr ?_; (case hd => rfl); (case hg => rfl); (case hr => first | (go_simp; done) | (go_simp; rfl)); intro gb225 hg w30 hbox hb; have n0_ := Aside0.mk (Kd.R_below (Kd.R_elderB (by (with_reducible repeat (first | apply Kd.R_alloc | apply Kd.R_drewN | apply Kd.R_drew)); exact HO_1.out) gb225 (Nat.le_of_eq hg.symm)) hb); have n1_ := Aside0.mk (Kd.R_below (Kd.R_elderB (by (with_reducible repeat (first | apply Kd.R_alloc | apply Kd.R_drewN | apply Kd.R_drew)); exact HL224_3.out) gb225 (Nat.le_of_eq hg.symm)) hb); have n2_ := Aside0.mk (Kd.C_below (by repeat (first | (with_reducible exact HR224_3.out) | (with_reducible refine Kd.C_alloc ?_ _) | (with_reducible refine Kd.C_drewN ?_ _) | (with_reducible refine Kd.C_drew ?_) | exact HR224_3.out)) hb); have n3_ := Aside0.mk (below_step (by repeat (first | (with_reducible first | exact HB.out | apply below_alloc | apply pw_below_drewN | apply below_drew1) | exact HB.out)) hb); have n4_ := Aside0.mk (hbox); have n5_ := Aside0.mk ((by rw [hg]; exact (below_size (by repeat (first | (with_reducible first | exact HB.out | apply below_alloc | apply pw_below_drewN | apply below_drew1) | exact HB.out))) : w.heap.size ≤ gb225)); have n6_ := Aside0.mk ((by rw [hg]; exact (below_size (by repeat (first | (with_reducible first | exact HB.out | apply below_alloc | apply pw_below_drewN | apply below_drew1) | exact HB.out))) : w.heap.size ≤ gb225)); clear HO_1; clear HL224_3; clear HR224_3; clear HB; have HO_1 := n0_; have HL224_3 := n1_; have HR224_3 := n2_; have HB := n3_; have BK225 := n4_; have GW225 := n5_; have GE225 := n6_; clear n0_ n1_ n2_ n3_ n4_ n5_ n6_; clear hb hbox hg; have hcz31_0 : w30.cell? ⟨gb225, 0, none⟩ = some (.int .u8 0) := (blk_cell BK225.out 0).trans rfl; have hcz31_1 : w30.cell? ⟨gb225, 1, none⟩ = some (.int .i64 0) := (blk_cell BK225.out 1).trans rfl; have hcz31_2 : w30.cell? ⟨gb225, 2, none⟩ = some (.string (⟨#[]⟩ : ByteArray)) := (blk_cell BK225.out 2).trans rfl; have hcz31_3 : w30.cell? ⟨gb225, 3, none⟩ = some (.slice none 0 0) := (blk_cell BK225.out 3).trans rfl; have hfz31_0 := blk_frozen BK225.out 0; have hfz31_1 := blk_frozen BK225.out 1; have hfz31_2 := blk_frozen BK225.out 2; have hfz31_3 := blk_frozen BK225.out 3) | ((with_reducible refine gate_store (t := 51) (p := 4) rfl ?_); refine store_event (t := 51) (p := 4) (v := ?vo_w32) (w1 := ((((w30.setCell ⟨gb225, 0, none⟩ (.int .u8 ((rd_T51 t217 0).f0))).setCell ⟨gb225, 1, none⟩ (.int .i64 ((rd_T51 t217 0).f1))).setCell ⟨gb225, 2, none⟩ (.string ((rd_T51 t217 0).f2))).setCell ⟨gb225, 3, none⟩ (.slice A224_3 ((rd_T51 t217 0).f3).length c224_3))) ?hg ?ho ?hn ?hr ?_; (case ho => rfl); (case hg => rfl); (case hn => rfl); (case hr => first | (go_simp; done) | (go_simp; rfl)); intro w32 hw; have n0_ : Aside0 (Kd.R k51 51 w32 w.heap.size (fun k_ => k_ ≠ gb225) (.slice (some ad224) t217.length co29) t217) := ⟨(by rw [hw]; exact (by (with_reducible repeat (first | apply Kd.R_alloc | apply Kd.R_drewN | apply Kd.R_drew)); exact Kd.R_mono (Kd.R_far (p := ⟨gb225, 3, none⟩) (Kd.R_far (p := ⟨gb225, 2, none⟩) (Kd.R_far (p := ⟨gb225, 1, none⟩) (Kd.R_far (p := ⟨gb225, 0, none⟩) (Kd.R_mono HO_1.out (fun k_ hk => (⟨hk, hk.2⟩ : _ ∧ k_ ≠ gb225))) (fun _ hk => hk.2) (.int .u8 ((rd_T51 t217 0).f0))) (fun _ hk => hk.2) (.int .i64 ((rd_T51 t217 0).f1))) (fun _ hk => hk.2) (.string ((rd_T51 t217 0).f2))) (fun _ hk => hk.2) (.slice A224_3 ((rd_T51 t217 0).f3).length c224_3)) (fun _ hk => hk.1.2)))⟩; have n1_ : Aside0 (Kd.R k51 51 w32 w.heap.size (fun k_ => some k_ ≠ (.slice (some ad224) t217.length co29 : Value).ownBlock ∧ k_ ≠ gb225) (.slice A224_3 ((rd_T51 t217 0).f3).length c224_3) ((rd_T51 t217 0).f3)) := ⟨(by rw [hw]; exact (by (with_reducible repeat (first | apply Kd.R_alloc | apply Kd.R_drewN | apply Kd.R_drew)); exact Kd.R_mono (Kd.R_far (p := ⟨gb225, 3, none⟩) (Kd.R_far (p := ⟨gb225, 2, none⟩) (Kd.R_far (p := ⟨gb225, 1, none⟩) (Kd.R_far (p := ⟨gb225, 0, none⟩) (Kd.R_mono HL224_3.out (fun k_ hk => (⟨hk, hk.2⟩ : _ ∧ k_ ≠ gb225))) (fun _ hk => hk.2) (.int .u8 ((rd_T51 t217 0).f0))) (fun _ hk => hk.2) (.int .i64 ((rd_T51 t217 0).f1))) (fun _ hk => hk.2) (.string ((rd_T51 t217 0).f2))) (fun _ hk => hk.2) (.slice A224_3 ((rd_T51 t217 0).f3).length c224_3)) (fun _ hk => ⟨hk.1.1.2, hk.1.2⟩)))⟩; have n2_ : Aside0 (w32.heap[gb225]? = some (.cells #[.int .u8 ((rd_T51 t217 0).f0), .int .i64 ((rd_T51 t217 0).f1), .string ((rd_T51 t217 0).f2), .slice A224_3 ((rd_T51 t217 0).f3).length c224_3] 51 (0, 0))) := ⟨(by rw [hw]; exact (by (with_reducible repeat (first | refine blk_drewN ?_ _ | refine blk_drew ?_ | refine blk_alloc ?_ _)); refine blk_put (cs := #[.int .u8 ((rd_T51 t217 0).f0), .int .i64 ((rd_T51 t217 0).f1), .string ((rd_T51 t217 0).f2), .slice none 0 0]) ?_ 3 _ rfl; (with_reducible repeat (first | refine blk_drewN ?_ _ | refine blk_drew ?_ | refine blk_alloc ?_ _)); refine blk_put (cs := #[.int .u8 ((rd_T51 t217 0).f0), .int .i64 ((rd_T51 t217 0).f1), .string (⟨#[]⟩ : ByteArray), .slice none 0 0]) ?_ 2 _ rfl; (with_reducible repeat (first | refine blk_drewN ?_ _ | refine blk_drew ?_ | refine blk_alloc ?_ _)); refine blk_put (cs := #[.int .u8 ((rd_T51 t217 0).f0), .int .i64 0, .string (⟨#[]⟩ : ByteArray), .slice none 0 0]) ?_ 1 _ rfl; (with_reducible repeat (first | refine blk_drewN ?_ _ | refine blk_drew ?_ | refine blk_alloc ?_ _)); refine blk_put (cs := #[.int .u8 0, .int .i64 0, .string (⟨#[]⟩ : ByteArray), .slice none 0 0]) ?_ 0 _ rfl; (with_reducible repeat (first | refine blk_drewN ?_ _ | refine blk_drew ?_ | refine blk_alloc ?_ _)); exact BK225.out))⟩; have n3_ : Aside0 (Below w.heap.size w w32) := ⟨(by rw [hw]; exact (by repeat (first | (with_reducible first | exact HB.out | apply below_alloc | apply pw_below_drewN | apply below_drew1 | refine below_set ?_ GE225.out) | exact HB.out)))⟩; clear hw; clear HO_1; clear HL224_3; clear BK225; clear HB; have HO_1 := n0_; have HL224_3 := n1_; (try (have HRx_ := Aside0.mk ((Kd.R_reads' HL224_3.out).2.2); clear HR224_3; have HR224_3 := HRx_; clear HRx_)); have BK225 := n2_; have HB := n3_; clear n0_ n1_ n2_ n3_; have hcz33_0 : w32.cell? ⟨gb225, 0, none⟩ = some (.int .u8 ((rd_T51 t217 0).f0)) := (blk_cell BK225.out 0).trans rfl; have hcz33_1 : w32.cell? ⟨gb225, 1, none⟩ = some (.int .i64 ((rd_T51 t217 0).f1)) := (blk_cell BK225.out 1).trans rfl; have hcz33_2 : w32.cell? ⟨gb225, 2, none⟩ = some (.string ((rd_T51 t217 0).f2)) := (blk_cell BK225.out 2).trans rfl; have hcz33_3 : w32.cell? ⟨gb225, 3, none⟩ = some (.slice A224_3 ((rd_T51 t217 0).f3).length c224_3) := (blk_cell BK225.out 3).trans rfl; have hfz33_0 := blk_frozen BK225.out 0; have hfz33_1 := blk_frozen BK225.out 1; have hfz33_2 := blk_frozen BK225.out 2; have hfz33_3 := blk_frozen BK225.out 3; have p226 : 0 ≤ (1 : Int) := (by omega); have q226 : 1 < (((rd_T51 t217 0).f3).length : Int) := of_decide_eq_true (by first | (with_reducible assumption) | assumption); obtain ⟨ad226, A226_3, c226_3, e226, hx226_0, hx226_1, hx226_2, hx226_3, hl226_3, hi226_3⟩ := at_T51 (by repeat (first | (with_reducible exact HR224_3.out) | (with_reducible refine Kd.C_alloc ?_ _) | (with_reducible refine Kd.C_drewN ?_ _) | (with_reducible refine Kd.C_drew ?_) | exact HR224_3.out)) 1 p226 q226; cases e226; obtain ⟨ce226, hce226, hMe226, hcc226⟩ := Kd.R_get HL224_3.out z51 1 p226 (by first | exact q226 | exact of_decide_eq_true (by first | (with_reducible assumption) | assumption) | (have e_ := (Kd.R_reads' HL224_3.out).1; omega)); obtain ⟨ve226_3, rfl, ge226_3⟩ := k51_openM hMe226; have hv226_3 := hcc226 3 _ rfl; rw [add_field _ _ 3 (by omega)] at hv226_3; replace hv226_3 := Option.some.inj (hv226_3.symm.trans hx226_3); rw [hv226_3] at ge226_3; have HL226_3 := Aside0.mk (show Kd.R k51 51 _ _ _ _ ((rd_T51 ((rd_T51 t217 0).f3) 1).f3) from ge226_3); clear hv226_3 ge226_3; clear hcc226 hce226; (try simp only [show (1 : Int).toNat = 1 from rfl, Nat.reduceMul, Nat.reduceEqDiff, Go.Addr.add, ↓reduceIte] at hx226_0); (try simp only [show (1 : Int).toNat = 1 from rfl, Nat.reduceMul, Nat.reduceEqDiff, Go.Addr.add, ↓reduceIte] at hx226_1); (try simp only [show (1 : Int).toNat = 1 from rfl, Nat.reduceMul, Nat.reduceEqDiff, Go.Addr.add, ↓reduceIte] at hx226_2); (try simp only [show (1 : Int).toNat = 1 from rfl, Nat.reduceMul, Nat.reduceEqDiff, Go.Addr.add, ↓reduceIte] at hx226_3); have qi226 : (1 < ((rd_T51 t217 0).f3).length) = True := eq_true (by omega); (try rw [show ((1 : Int)).toNat = 1 from rfl] at hx226_0); (try rw [show 1 * 4 = 4 from rfl] at hx226_0); (try rw [show ((1 : Int)).toNat = 1 from rfl] at hx226_1); (try rw [show 1 * 4 = 4 from rfl] at hx226_1); (try rw [show ((1 : Int)).toNat = 1 from rfl] at hx226_2); (try rw [show 1 * 4 = 4 from rfl] at hx226_2); (try rw [show ((1 : Int)).toNat = 1 from rfl] at hx226_3); (try rw [show 1 * 4 = 4 from rfl] at hx226_3); have HR226_3 := Aside0.mk hi226_3; have HC226_3 := Aside0.mk hl226_3; clear hi226_3 hl226_3; replace p226 := eq_true p226; replace q226 := eq_true q226) | (go_at_call 37; (with_reducible refine (sexp_Show.calls kj1 ((rd_T51 t217 0).f0) ((rd_T51 t217 0).f1) ((rd_T51 t217 0).f2) _ _ ((rd_T51 t217 0).f3) t227 _ ?side1 ?side2 A16.out).mono ?_); (case side1 => repeat (first | exact (by repeat (first | (with_reducible exact HR224_3.out) | (with_reducible refine Kd.C_alloc ?_ _) | (with_reducible refine Kd.C_drewN ?_ _) | (with_reducible refine Kd.C_drew ?_) | exact HR224_3.out)) | (with_reducible refine Kd.C_alloc ?_ _) | (with_reducible refine Kd.C_drewN ?_ _) | (with_reducible refine Kd.C_drew ?_))); (case side2 => exact HC224_3.out); rintro e w34 ⟨rfl, hb⟩; have n0_ := Aside0.mk (Kd.R_below (by (with_reducible repeat (first | apply Kd.R_alloc | apply Kd.R_drewN | apply Kd.R_drew)); exact HO_1.out) hb); have n1_ := Aside0.mk (Kd.R_below (by (with_reducible repeat (first | apply Kd.R_alloc | apply Kd.R_drewN | apply Kd.R_drew)); exact HL224_3.out) hb); have n2_ := Aside0.mk (Kd.R_below (by (with_reducible repeat (first | apply Kd.R_alloc | apply Kd.R_drewN | apply Kd.R_drew)); exact HL226_3.out) hb); have n3_ := Aside0.mk (Kd.C_below (by repeat (first | (with_reducible exact HR224_3.out) | (with_reducible refine Kd.C_alloc ?_ _) | (with_reducible refine Kd.C_drewN ?_ _) | (with_reducible refine Kd.C_drew ?_) | exact HR224_3.out)) hb); have n4_ := Aside0.mk (blk_below (g := gb225) (o := .cells #[.int .u8 ((rd_T51 t217 0).f0), .int .i64 ((rd_T51 t217 0).f1), .string ((rd_T51 t217 0).f2), .slice (some ad226) ((rd_T51 t217 0).f3).length c224_3] 51 (0, 0)) (by (with_reducible repeat (first | refine blk_drewN ?_ _ | refine blk_drew ?_ | refine blk_alloc ?_ _)); exact BK225.out) hb); have n5_ := Aside0.mk (Kd.C_below (by repeat (first | (with_reducible exact HR226_3.out) | (with_reducible refine Kd.C_alloc ?_ _) | (with_reducible refine Kd.C_drewN ?_ _) | (with_reducible refine Kd.C_drew ?_) | exact HR226_3.out)) hb); have n6_ := Aside0.mk (below_step (by repeat (first | (with_reducible first | exact HB.out | apply below_alloc | apply pw_below_drewN | apply below_drew1 | refine below_set ?_ GE225.out) | exact HB.out)) hb); clear HO_1; clear HL224_3; clear HL226_3; clear HR224_3; clear BK225; clear HR226_3; clear HB; have HO_1 := n0_; have HL224_3 := n1_; have HL226_3 := n2_; have HR224_3 := n3_; have BK225 := n4_; have HR226_3 := n5_; have HB := n6_; clear n0_ n1_ n2_ n3_ n4_ n5_ n6_; (try clear hb); (try clear hb2); (try clear hk); (try clear hi); have hcz35_0 : w34.cell? ⟨gb225, 0, none⟩ = some (.int .u8 ((rd_T51 t217 0).f0)) := (blk_cell BK225.out 0).trans rfl; have hcz35_1 : w34.cell? ⟨gb225, 1, none⟩ = some (.int .i64 ((rd_T51 t217 0).f1)) := (blk_cell BK225.out 1).trans rfl; have hcz35_2 : w34.cell? ⟨gb225, 2, none⟩ = some (.string ((rd_T51 t217 0).f2)) := (blk_cell BK225.out 2).trans rfl; have hcz35_3 : w34.cell? ⟨gb225, 3, none⟩ = some (.slice (some ad226) ((rd_T51 t217 0).f3).length c224_3) := (blk_cell BK225.out 3).trans rfl; have hfz35_0 := blk_frozen BK225.out 0; have hfz35_1 := blk_frozen BK225.out 1; have hfz35_2 := blk_frozen BK225.out 2; have hfz35_3 := blk_frozen BK225.out 3) | (go_at_call 35; (with_reducible refine (sexp_Size.calls kj1 ((rd_T51 t217 0).f0) ((rd_T51 t217 0).f1) ((rd_T51 t217 0).f2) _ _ ((rd_T51 t217 0).f3) t228 _ ?side1 ?side2 A18.out).mono ?_); (case side1 => repeat (first | exact (by repeat (first | (with_reducible exact HR224_3.out) | (with_reducible refine Kd.C_alloc ?_ _) | (with_reducible refine Kd.C_drewN ?_ _) | (with_reducible refine Kd.C_drew ?_) | exact HR224_3.out)) | (with_reducible refine Kd.C_alloc ?_ _) | (with_reducible refine Kd.C_drewN ?_ _) | (with_reducible refine Kd.C_drew ?_))); (case side2 => exact HC224_3.out); rintro e w36 ⟨rfl, hb⟩; have n0_ := Aside0.mk (Kd.R_below (by (with_reducible repeat (first | apply Kd.R_alloc | apply Kd.R_drewN | apply Kd.R_drew)); exact HO_1.out) hb); have n1_ := Aside0.mk (Kd.R_below (by (with_reducible repeat (first | apply Kd.R_alloc | apply Kd.R_drewN | apply Kd.R_drew)); exact HL224_3.out) hb); have n2_ := Aside0.mk (Kd.R_below (by (with_reducible repeat (first | apply Kd.R_alloc | apply Kd.R_drewN | apply Kd.R_drew)); exact HL226_3.out) hb); have n3_ := Aside0.mk (Kd.C_below (by repeat (first | (with_reducible exact HR224_3.out) | (with_reducible refine Kd.C_alloc ?_ _) | (with_reducible refine Kd.C_drewN ?_ _) | (with_reducible refine Kd.C_drew ?_) | exact HR224_3.out)) hb); have n4_ := Aside0.mk (blk_below (g := gb225) (o := .cells #[.int .u8 ((rd_T51 t217 0).f0), .int .i64 ((rd_T51 t217 0).f1), .string ((rd_T51 t217 0).f2), .slice (some ad226) ((rd_T51 t217 0).f3).length c224_3] 51 (0, 0)) (by (with_reducible repeat (first | refine blk_drewN ?_ _ | refine blk_drew ?_ | refine blk_alloc ?_ _)); exact BK225.out) hb); have n5_ := Aside0.mk (Kd.C_below (by repeat (first | (with_reducible exact HR226_3.out) | (with_reducible refine Kd.C_alloc ?_ _) | (with_reducible refine Kd.C_drewN ?_ _) | (with_reducible refine Kd.C_drew ?_) | exact HR226_3.out)) hb); have n6_ := Aside0.mk (below_step (by repeat (first | (with_reducible first | exact HB.out | apply below_alloc | apply pw_below_drewN | apply below_drew1 | refine below_set ?_ GE225.out) | exact HB.out)) hb); clear HO_1; clear HL224_3; clear HL226_3; clear HR224_3; clear BK225; clear HR226_3; clear HB; have HO_1 := n0_; have HL224_3 := n1_; have HL226_3 := n2_; have HR224_3 := n3_; have BK225 := n4_; have HR226_3 := n5_; have HB := n6_; clear n0_ n1_ n2_ n3_ n4_ n5_ n6_; (try clear hb); (try clear hb2); (try clear hk); (try clear hi); have hcz37_0 : w36.cell? ⟨gb225, 0, none⟩ = some (.int .u8 ((rd_T51 t217 0).f0)) := (blk_cell BK225.out 0).trans rfl; have hcz37_1 : w36.cell? ⟨gb225, 1, none⟩ = some (.int .i64 ((rd_T51 t217 0).f1)) := (blk_cell BK225.out 1).trans rfl; have hcz37_2 : w36.cell? ⟨gb225, 2, none⟩ = some (.string ((rd_T51 t217 0).f2)) := (blk_cell BK225.out 2).trans rfl; have hcz37_3 : w36.cell? ⟨gb225, 3, none⟩ = some (.slice (some ad226) ((rd_T51 t217 0).f3).length c224_3) := (blk_cell BK225.out 3).trans rfl; have hfz37_0 := blk_frozen BK225.out 0; have hfz37_1 := blk_frozen BK225.out 1; have hfz37_2 := blk_frozen BK225.out 2; have hfz37_3 := blk_frozen BK225.out 3) | (go_at_call 25; (with_reducible refine (sexp_Depth.calls kj1 ((rd_T51 t217 0).f0) ((rd_T51 t217 0).f1) ((rd_T51 t217 0).f2) _ _ ((rd_T51 t217 0).f3) t229 _ ?side1 ?side2 A20.out).mono ?_); (case side1 => repeat (first | exact (by repeat (first | (with_reducible exact HR224_3.out) | (with_reducible refine Kd.C_alloc ?_ _) | (with_reducible refine Kd.C_drewN ?_ _) | (with_reducible refine Kd.C_drew ?_) | exact HR224_3.out)) | (with_reducible refine Kd.C_alloc ?_ _) | (with_reducible refine Kd.C_drewN ?_ _) | (with_reducible refine Kd.C_drew ?_))); (case side2 => exact HC224_3.out); rintro e w38 ⟨rfl, hb⟩; have n0_ := Aside0.mk (Kd.R_below (by (with_reducible repeat (first | apply Kd.R_alloc | apply Kd.R_drewN | apply Kd.R_drew)); exact HO_1.out) hb); have n1_ := Aside0.mk (Kd.R_below (by (with_reducible repeat (first | apply Kd.R_alloc | apply Kd.R_drewN | apply Kd.R_drew)); exact HL224_3.out) hb); have n2_ := Aside0.mk (Kd.R_below (by (with_reducible repeat (first | apply Kd.R_alloc | apply Kd.R_drewN | apply Kd.R_drew)); exact HL226_3.out) hb); have n3_ := Aside0.mk (Kd.C_below (by repeat (first | (with_reducible exact HR224_3.out) | (with_reducible refine Kd.C_alloc ?_ _) | (with_reducible refine Kd.C_drewN ?_ _) | (with_reducible refine Kd.C_drew ?_) | exact HR224_3.out)) hb); have n4_ := Aside0.mk (blk_below (g := gb225) (o := .cells #[.int .u8 ((rd_T51 t217 0).f0), .int .i64 ((rd_T51 t217 0).f1), .string ((rd_T51 t217 0).f2), .slice (some ad226) ((rd_T51 t217 0).f3).length c224_3] 51 (0, 0)) (by (with_reducible repeat (first | refine blk_drewN ?_ _ | refine blk_drew ?_ | refine blk_alloc ?_ _)); exact BK225.out) hb); have n5_ := Aside0.mk (Kd.C_below (by repeat (first | (with_reducible exact HR226_3.out) | (with_reducible refine Kd.C_alloc ?_ _) | (with_reducible refine Kd.C_drewN ?_ _) | (with_reducible refine Kd.C_drew ?_) | exact HR226_3.out)) hb); have n6_ := Aside0.mk (below_step (by repeat (first | (with_reducible first | exact HB.out | apply below_alloc | apply pw_below_drewN | apply below_drew1 | refine below_set ?_ GE225.out) | exact HB.out)) hb); clear HO_1; clear HL224_3; clear HL226_3; clear HR224_3; clear BK225; clear HR226_3; clear HB; have HO_1 := n0_; have HL224_3 := n1_; have HL226_3 := n2_; have HR224_3 := n3_; have BK225 := n4_; have HR226_3 := n5_; have HB := n6_; clear n0_ n1_ n2_ n3_ n4_ n5_ n6_; (try clear hb); (try clear hb2); (try clear hk); (try clear hi); have hcz39_0 : w38.cell? ⟨gb225, 0, none⟩ = some (.int .u8 ((rd_T51 t217 0).f0)) := (blk_cell BK225.out 0).trans rfl; have hcz39_1 : w38.cell? ⟨gb225, 1, none⟩ = some (.int .i64 ((rd_T51 t217 0).f1)) := (blk_cell BK225.out 1).trans rfl; have hcz39_2 : w38.cell? ⟨gb225, 2, none⟩ = some (.string ((rd_T51 t217 0).f2)) := (blk_cell BK225.out 2).trans rfl; have hcz39_3 : w38.cell? ⟨gb225, 3, none⟩ = some (.slice (some ad226) ((rd_T51 t217 0).f3).length c224_3) := (blk_cell BK225.out 3).trans rfl; have hfz39_0 := blk_frozen BK225.out 0; have hfz39_1 := blk_frozen BK225.out 1; have hfz39_2 := blk_frozen BK225.out 2; have hfz39_3 := blk_frozen BK225.out 3) | (go_at_call 39; (with_reducible refine (sexp_Head.calls ((rd_T51 t217 0).f0) ((rd_T51 t217 0).f1) ((rd_T51 t217 0).f2) _ _ ((rd_T51 t217 0).f3) t230 _ ?side1 ?side2 A22.out).mono ?_); (case side1 => repeat (first | exact (by repeat (first | (with_reducible exact HR224_3.out) | (with_reducible refine Kd.C_alloc ?_ _) | (with_reducible refine Kd.C_drewN ?_ _) | (with_reducible refine Kd.C_drew ?_) | exact HR224_3.out)) | (with_reducible refine Kd.C_alloc ?_ _) | (with_reducible refine Kd.C_drewN ?_ _) | (with_reducible refine Kd.C_drew ?_))); (case side2 => exact HC224_3.out); rintro e w40 ⟨rfl, hb⟩; have n0_ := Aside0.mk (Kd.R_below (by (with_reducible repeat (first | apply Kd.R_alloc | apply Kd.R_drewN | apply Kd.R_drew)); exact HO_1.out) hb); have n1_ := Aside0.mk (Kd.R_below (by (with_reducible repeat (first | apply Kd.R_alloc | apply Kd.R_drewN | apply Kd.R_drew)); exact HL224_3.out) hb); have n2_ := Aside0.mk (Kd.R_below (by (with_reducible repeat (first | apply Kd.R_alloc | apply Kd.R_drewN | apply Kd.R_drew)); exact HL226_3.out) hb); have n3_ := Aside0.mk (Kd.C_below (by repeat (first | (with_reducible exact HR224_3.out) | (with_reducible refine Kd.C_alloc ?_ _) | (with_reducible refine Kd.C_drewN ?_ _) | (with_reducible refine Kd.C_drew ?_) | exact HR224_3.out)) hb); have n4_ := Aside0.mk (blk_below (g := gb225) (o := .cells #[.int .u8 ((rd_T51 t217 0).f0), .int .i64 ((rd_T51 t217 0).f1), .string ((rd_T51 t217 0).f2), .slice (some ad226) ((rd_T51 t217 0).f3).length c224_3] 51 (0, 0)) (by (with_reducible repeat (first | refine blk_drewN ?_ _ | refine blk_drew ?_ | refine blk_alloc ?_ _)); exact BK225.out) hb); have n5_ := Aside0.mk (Kd.C_below (by repeat (first | (with_reducible exact HR226_3.out) | (with_reducible refine Kd.C_alloc ?_ _) | (with_reducible refine Kd.C_drewN ?_ _) | (with_reducible refine Kd.C_drew ?_) | exact HR226_3.out)) hb); have n6_ := Aside0.mk (below_step (by repeat (first | (with_reducible first | exact HB.out | apply below_alloc | apply pw_below_drewN | apply below_drew1 | refine below_set ?_ GE225.out) | exact HB.out)) hb); clear HO_1; clear HL224_3; clear HL226_3; clear HR224_3; clear BK225; clear HR226_3; clear HB; have HO_1 := n0_; have HL224_3 := n1_; have HL226_3 := n2_; have HR224_3 := n3_; have BK225 := n4_; have HR226_3 := n5_; have HB := n6_; clear n0_ n1_ n2_ n3_ n4_ n5_ n6_; (try clear hb); (try clear hb2); (try clear hk); (try clear hi)) | (go_at_call 36; (with_reducible refine (alidadelaw13_wrong.calls kj1 (⟨#[40, 41, 41]⟩ : ByteArray) 9 2 4 true _ A24.out).mono ?_); rintro e w41 ⟨rfl, hb⟩; have n0_ := Aside0.mk (Kd.R_below (by (with_reducible repeat (first | apply Kd.R_alloc | apply Kd.R_drewN | apply Kd.R_drew)); exact HO_1.out) hb); have n1_ := Aside0.mk (Kd.R_below (by (with_reducible repeat (first | apply Kd.R_alloc | apply Kd.R_drewN | apply Kd.R_drew)); exact HL224_3.out) hb); have n2_ := Aside0.mk (Kd.R_below (by (with_reducible repeat (first | apply Kd.R_alloc | apply Kd.R_drewN | apply Kd.R_drew)); exact HL226_3.out) hb); have n3_ := Aside0.mk (Kd.C_below (by repeat (first | (with_reducible exact HR224_3.out) | (with_reducible refine Kd.C_alloc ?_ _) | (with_reducible refine Kd.C_drewN ?_ _) | (with_reducible refine Kd.C_drew ?_) | exact HR224_3.out)) hb); have n4_ := Aside0.mk (blk_below (g := gb225) (o := .cells #[.int .u8 ((rd_T51 t217 0).f0), .int .i64 ((rd_T51 t217 0).f1), .string ((rd_T51 t217 0).f2), .slice (some ad226) ((rd_T51 t217 0).f3).length c224_3] 51 (0, 0)) (by (with_reducible repeat (first | refine blk_drewN ?_ _ | refine blk_drew ?_ | refine blk_alloc ?_ _)); exact BK225.out) hb); have n5_ := Aside0.mk (Kd.C_below (by repeat (first | (with_reducible exact HR226_3.out) | (with_reducible refine Kd.C_alloc ?_ _) | (with_reducible refine Kd.C_drewN ?_ _) | (with_reducible refine Kd.C_drew ?_) | exact HR226_3.out)) hb); have n6_ := Aside0.mk (below_step (by repeat (first | (with_reducible first | exact HB.out | apply below_alloc | apply pw_below_drewN | apply below_drew1 | refine below_set ?_ GE225.out) | exact HB.out)) hb); clear HO_1; clear HL224_3; clear HL226_3; clear HR224_3; clear BK225; clear HR226_3; clear HB; have HO_1 := n0_; have HL224_3 := n1_; have HL226_3 := n2_; have HR224_3 := n3_; have BK225 := n4_; have HR226_3 := n5_; have HB := n6_; clear n0_ n1_ n2_ n3_ n4_ n5_ n6_; (try clear hb); (try clear hb2); (try clear hk); (try clear hi)) | (go_at_call 36; (with_reducible refine (alidadelaw13_wrong.calls kj1 (⟨#[40, 40, 41]⟩ : ByteArray) 9 3 4 true _ A26.out).mono ?_); rintro e w42 ⟨rfl, hb⟩; have n0_ := Aside0.mk (Kd.R_below (by (with_reducible repeat (first | apply Kd.R_alloc | apply Kd.R_drewN | apply Kd.R_drew)); exact HO_1.out) hb); have n1_ := Aside0.mk (Kd.R_below (by (with_reducible repeat (first | apply Kd.R_alloc | apply Kd.R_drewN | apply Kd.R_drew)); exact HL224_3.out) hb); have n2_ := Aside0.mk (Kd.R_below (by (with_reducible repeat (first | apply Kd.R_alloc | apply Kd.R_drewN | apply Kd.R_drew)); exact HL226_3.out) hb); have n3_ := Aside0.mk (Kd.C_below (by repeat (first | (with_reducible exact HR224_3.out) | (with_reducible refine Kd.C_alloc ?_ _) | (with_reducible refine Kd.C_drewN ?_ _) | (with_reducible refine Kd.C_drew ?_) | exact HR224_3.out)) hb); have n4_ := Aside0.mk (blk_below (g := gb225) (o := .cells #[.int .u8 ((rd_T51 t217 0).f0), .int .i64 ((rd_T51 t217 0).f1), .string ((rd_T51 t217 0).f2), .slice (some ad226) ((rd_T51 t217 0).f3).length c224_3] 51 (0, 0)) (by (with_reducible repeat (first | refine blk_drewN ?_ _ | refine blk_drew ?_ | refine blk_alloc ?_ _)); exact BK225.out) hb); have n5_ := Aside0.mk (Kd.C_below (by repeat (first | (with_reducible exact HR226_3.out) | (with_reducible refine Kd.C_alloc ?_ _) | (with_reducible refine Kd.C_drewN ?_ _) | (with_reducible refine Kd.C_drew ?_) | exact HR226_3.out)) hb); have n6_ := Aside0.mk (below_step (by repeat (first | (with_reducible first | exact HB.out | apply below_alloc | apply pw_below_drewN | apply below_drew1 | refine below_set ?_ GE225.out) | exact HB.out)) hb); clear HO_1; clear HL224_3; clear HL226_3; clear HR224_3; clear BK225; clear HR226_3; clear HB; have HO_1 := n0_; have HL224_3 := n1_; have HL226_3 := n2_; have HR224_3 := n3_; have BK225 := n4_; have HR226_3 := n5_; have HB := n6_; clear n0_ n1_ n2_ n3_ n4_ n5_ n6_; (try clear hb); (try clear hb2); (try clear hk); (try clear hi)) | (go_at_call 36; (with_reducible refine (alidadelaw13_wrong.calls kj1 (⟨#[40, 40, 97, 41, 41]⟩ : ByteArray) 1 1 46 t233 _ A28.out).mono ?_); rintro e w43 ⟨rfl, hb⟩; have n0_ := Aside0.mk (Kd.R_below (by (with_reducible repeat (first | apply Kd.R_alloc | apply Kd.R_drewN | apply Kd.R_drew)); exact HO_1.out) hb); have n1_ := Aside0.mk (Kd.R_below (by (with_reducible repeat (first | apply Kd.R_alloc | apply Kd.R_drewN | apply Kd.R_drew)); exact HL224_3.out) hb); have n2_ := Aside0.mk (Kd.R_below (by (with_reducible repeat (first | apply Kd.R_alloc | apply Kd.R_drewN | apply Kd.R_drew)); exact HL226_3.out) hb); have n3_ := Aside0.mk (Kd.C_below (by repeat (first | (with_reducible exact HR224_3.out) | (with_reducible refine Kd.C_alloc ?_ _) | (with_reducible refine Kd.C_drewN ?_ _) | (with_reducible refine Kd.C_drew ?_) | exact HR224_3.out)) hb); have n4_ := Aside0.mk (blk_below (g := gb225) (o := .cells #[.int .u8 ((rd_T51 t217 0).f0), .int .i64 ((rd_T51 t217 0).f1), .string ((rd_T51 t217 0).f2), .slice (some ad226) ((rd_T51 t217 0).f3).length c224_3] 51 (0, 0)) (by (with_reducible repeat (first | refine blk_drewN ?_ _ | refine blk_drew ?_ | refine blk_alloc ?_ _)); exact BK225.out) hb); have n5_ := Aside0.mk (Kd.C_below (by repeat (first | (with_reducible exact HR226_3.out) | (with_reducible refine Kd.C_alloc ?_ _) | (with_reducible refine Kd.C_drewN ?_ _) | (with_reducible refine Kd.C_drew ?_) | exact HR226_3.out)) hb); have n6_ := Aside0.mk (below_step (by repeat (first | (with_reducible first | exact HB.out | apply below_alloc | apply pw_below_drewN | apply below_drew1 | refine below_set ?_ GE225.out) | exact HB.out)) hb); clear HO_1; clear HL224_3; clear HL226_3; clear HR224_3; clear BK225; clear HR226_3; clear HB; have HO_1 := n0_; have HL224_3 := n1_; have HL226_3 := n2_; have HR224_3 := n3_; have BK225 := n4_; have HR226_3 := n5_; have HB := n6_; clear n0_ n1_ n2_ n3_ n4_ n5_ n6_; (try clear hb); (try clear hb2); (try clear hk); (try clear hi)))
              go_ret
              exact ⟨by first | rfl | (simp [errW_none, errW_some] <;> rfl) | (simp [*, errW_none, errW_some] <;> rfl), by repeat (first | (with_reducible first | exact HB.out | apply below_alloc | apply pw_below_drewN | apply below_drew1 | refine below_set ?_ GE225.out) | exact HB.out)⟩
             ·replace c27 := Bool.eq_false_iff.mpr c27
              subst c27
              have H1 : (none) = some r := by rw [if_neg (show ¬ (false = true) by decide)] at H; exact H
              clear H
              have H := H1
              clear H1
              exact absurd H (by simp)
            ·replace c25 := Bool.eq_false_iff.mpr c25
             subst c25
             have H1 : (none) = some r := by rw [if_neg (show ¬ (false = true) by decide)] at H; exact H
             clear H
             have H := H1
             clear H1
             exact absurd H (by simp)
           ·rw [if_neg c23] at H
            exact absurd H (by simp)
          ·rw [if_neg c21] at H
           exact absurd H (by simp)
         ·rw [if_neg c19] at H
          exact absurd H (by simp)
        ·rw [if_neg c17] at H
         exact absurd H (by simp)
       ·rw [if_neg c15] at H
        exact absurd H (by simp)
      ·rw [if_neg c14] at H
       exact absurd H (by simp)
     ·rw [if_neg c13] at H
      exact absurd H (by simp)
    ·rw [if_neg c12] at H
     exact absurd H (by simp)

end Go.Proofs.Ytgikmpgpccfiiaa.PSxp
