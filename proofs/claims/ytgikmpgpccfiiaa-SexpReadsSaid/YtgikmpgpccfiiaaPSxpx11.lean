-- A text of the seat Ytgikmpgpccfiiaa, written by a program of this session (drive.py).
import Derived.Test.YtgikmpgpccfiiaaPSxpx0
import Derived.Test.YtgikmpgpccfiiaaGPSxpx4toPSxpx8
import Derived.Test.YtgikmpgpccfiiaaPSxpx10
namespace Go.Proofs.Ytgikmpgpccfiiaa.PSxp
open Go.RowKit Go.Proofs.YtgikmpgpccfiiaaW.PrintWords Go.Proofs.YtgikmpgpccfiiaaW.PrintLast Go.Proofs.YtgikmpgpccfiiaaW.PrintMore
attribute [local go_sem] max2_int min2_int max_two min_two max_three min_three max_four min_four   -- for this text's walks alone
set_option linter.unusedVariables false
set_option linter.unusedSimpArgs false

/-! ### lex_Kind: function 15 -/
def lex_Kind.j0 : Nat → ByteArray → Bool → Option (Int)
 | 0, _, _ => none
 | k + 1, x0, x22 => if x22 = true then (some 4) else ((lex_symbol.f k x0).bind fun t119 => (if t119 = true then (some 5) else (if 0 < (x0.size : Int) then (if (bt x0 0) = 58 then (if 1 ≤ (x0.size : Int) then ((lex_symbol.f k (x0.extract 1 x0.size)).bind fun t120 => (if t120 = true then (some 6) else (some 0))) else (none)) else (some 0)) else (none))))
def lex_Kind.f (k : Nat) (a0 : ByteArray) : Option (Int) := if a0.toList = ([] : List UInt8) then (some 0) else (if a0.toList = ([40] : List UInt8) then (some 1) else (if a0.toList = ([41] : List UInt8) then (some 2) else ((strings_Cut.f a0 (⟨#[46]⟩ : ByteArray)).bind fun bt113 => ((lex_numeral.f k a0).bind fun t116 => (if t116 = true then (some 3) else (if bt113.2.2 = true then ((lex_numeral.f k bt113.1).bind fun t117 => (if t117 = true then (if bt113.2.1.toList = ([] : List UInt8) then (lex_Kind.j0 k a0 false) else ((lex_all.f k bt113.2.1 8).bind fun t118 => (lex_Kind.j0 k a0 t118))) else (lex_Kind.j0 k a0 false))) else (lex_Kind.j0 k a0 false)))))))
theorem lex_Kind.mono_l : ∀ k, (∀ y0 y1, LeO (lex_Kind.j0 k y0 y1) (lex_Kind.j0 (k + 1) y0 y1))
 | 0 => fun _ _ r h => by simp [lex_Kind.j0] at h
 | k + 1 => by
  have ih0 := lex_Kind.mono_l k
  ·intro y0 y1
   unfold lex_Kind.j0
   repeat' first
   | (with_reducible exact ih0 _ _)
   | (with_reducible exact lex_all.mono _ _ _)
   | (with_reducible exact lex_numeral.mono _ _)
   | (with_reducible exact lex_symbol.mono _ _)
   | (with_reducible exact LeO.refl _)
   | (with_reducible exact LeO.none _)
   | (with_reducible refine LeO.ite ?_ ?_)
   | (with_reducible refine LeO.bind ?_ (fun _ => ?_))
   | exact ih0 _ _
   | exact lex_all.mono _ _ _
   | exact lex_numeral.mono _ _
   | exact lex_symbol.mono _ _
   | exact LeO.none _
   | refine LeO.ite ?_ ?_
   | refine LeO.bind ?_ (fun _ => ?_)
theorem lex_Kind.mono : ∀ a0 k, LeO (lex_Kind.f k a0) (lex_Kind.f (k + 1) a0) := by
 intro a0 k
 have ih0 := lex_Kind.mono_l k
 unfold lex_Kind.f
 repeat' first
   | (with_reducible exact ih0 _ _)
   | (with_reducible exact lex_all.mono _ _ _)
   | (with_reducible exact lex_numeral.mono _ _)
   | (with_reducible exact lex_symbol.mono _ _)
   | (with_reducible exact LeO.refl _)
   | (with_reducible exact LeO.none _)
   | (with_reducible refine LeO.ite ?_ ?_)
   | (with_reducible refine LeO.bind ?_ (fun _ => ?_))
   | exact ih0 _ _
   | exact lex_all.mono _ _ _
   | exact lex_numeral.mono _ _
   | exact lex_symbol.mono _ _
   | exact LeO.none _
   | refine LeO.ite ?_ ?_
   | refine LeO.bind ?_ (fun _ => ?_)
set_option maxHeartbeats 8000000 in
set_option maxRecDepth 100000 in
theorem lex_Kind.calls (k : Nat) (a0 : ByteArray) (r : Int) (w : World) (h : lex_Kind.f k a0 = some r) :
  Calls Try.prog 15 #[.string a0] w fun e w' => e = .returned (.int .u8 r) ∧ Drawn0 w w' := by
 have H : (if a0.toList = ([] : List UInt8) then (some 0) else (if a0.toList = ([40] : List UInt8) then (some 1) else (if a0.toList = ([41] : List UInt8) then (some 2) else ((strings_Cut.f a0 (⟨#[46]⟩ : ByteArray)).bind fun bt113 => ((lex_numeral.f k a0).bind fun t116 => (if t116 = true then (some 3) else (if bt113.2.2 = true then ((lex_numeral.f k bt113.1).bind fun t117 => (if t117 = true then (if bt113.2.1.toList = ([] : List UInt8) then (lex_Kind.j0 k a0 false) else ((lex_all.f k bt113.2.1 8).bind fun t118 => (lex_Kind.j0 k a0 t118))) else (lex_Kind.j0 k a0 false))) else (lex_Kind.j0 k a0 false)))))))) = some r := h
 clear h
 by_cases c2 : a0.toList = ([] : List UInt8)
 ·rw [if_pos c2] at H
  have c2b0 : (a0.toList == ([] : List UInt8)) = true := beq_iff_eq.mpr c2
  have c2b1 : (a0.toList != ([] : List UInt8)) = false := bne_eq_false_iff_eq.mpr c2
  clear c2
  obtain rfl := Option.some.inj H
  go_enter Try.func15, Try.ntmps15
  go_wp2
  go_ret
  exact ⟨by first | rfl | (simp; done) | (simp [*]; done), by repeat (first | exact Drawn0.refl _ | apply Drawn0.step)⟩
 ·rw [if_neg c2] at H
  have c2b0 : (a0.toList == ([] : List UInt8)) = false := beq_eq_false_iff_ne.mpr c2
  have c2b1 : (a0.toList != ([] : List UInt8)) = true := bne_iff_ne.mpr c2
  by_cases c3 : a0.toList = ([40] : List UInt8)
  ·rw [if_pos c3] at H
   have c3b0 : (a0.toList == ([40] : List UInt8)) = true := beq_iff_eq.mpr c3
   have c3b1 : (a0.toList != ([40] : List UInt8)) = false := bne_eq_false_iff_eq.mpr c3
   clear c3
   obtain rfl := Option.some.inj H
   go_enter Try.func15, Try.ntmps15
   go_wp2
   go_ret
   exact ⟨by first | rfl | (simp; done) | (simp [*]; done), by repeat (first | exact Drawn0.refl _ | apply Drawn0.step)⟩
  ·rw [if_neg c3] at H
   have c3b0 : (a0.toList == ([40] : List UInt8)) = false := beq_eq_false_iff_ne.mpr c3
   have c3b1 : (a0.toList != ([40] : List UInt8)) = true := bne_iff_ne.mpr c3
   by_cases c4 : a0.toList = ([41] : List UInt8)
   ·rw [if_pos c4] at H
    have c4b0 : (a0.toList == ([41] : List UInt8)) = true := beq_iff_eq.mpr c4
    have c4b1 : (a0.toList != ([41] : List UInt8)) = false := bne_eq_false_iff_eq.mpr c4
    clear c4
    obtain rfl := Option.some.inj H
    go_enter Try.func15, Try.ntmps15
    go_wp2
    go_ret
    exact ⟨by first | rfl | (simp; done) | (simp [*]; done), by repeat (first | exact Drawn0.refl _ | apply Drawn0.step)⟩
   ·rw [if_neg c4] at H
    have c4b0 : (a0.toList == ([41] : List UInt8)) = false := beq_eq_false_iff_ne.mpr c4
    have c4b1 : (a0.toList != ([41] : List UInt8)) = true := bne_iff_ne.mpr c4
    replace H := Option.bind_eq_some_iff.mp H
    obtain ⟨⟨t113, t114, t115⟩, A50, H⟩ := H
    replace H : ((lex_numeral.f k a0).bind fun t116 => (if t116 = true then (some 3) else (if t115 = true then ((lex_numeral.f k t113).bind fun t117 => (if t117 = true then (if t114.toList = ([] : List UInt8) then (lex_Kind.j0 k a0 false) else ((lex_all.f k t114 8).bind fun t118 => (lex_Kind.j0 k a0 t118))) else (lex_Kind.j0 k a0 false))) else (lex_Kind.j0 k a0 false)))) = some r := H
    have A5 := Aside0.mk A50
    clear A50
    replace H := Option.bind_eq_some_iff.mp H
    obtain ⟨t116, A60, H⟩ := H
    replace H : (if t116 = true then (some 3) else (if t115 = true then ((lex_numeral.f k t113).bind fun t117 => (if t117 = true then (if t114.toList = ([] : List UInt8) then (lex_Kind.j0 k a0 false) else ((lex_all.f k t114 8).bind fun t118 => (lex_Kind.j0 k a0 t118))) else (lex_Kind.j0 k a0 false))) else (lex_Kind.j0 k a0 false))) = some r := H
    have A6 := Aside0.mk A60
    clear A60
    by_cases c7 : t116 = true
    ·subst c7
     have H1 : (some 3) = some r := by rw [if_pos rfl] at H; exact H
     clear H
     have H := H1
     clear H1
     obtain rfl := Option.some.inj H
     go_enter Try.func15, Try.ntmps15
     go_wp2_with (first | ((with_reducible refine gate_callee (f := 45) rfl ?_); refine goesL_ (some 15) rfl rfl Try.func45 (by kernel_rfl) rfl #[.string a0, .string (⟨#[46]⟩ : ByteArray)] rfl (by (try simp only [List.map_toArray, List.map_cons, List.map_nil]); first | done | rfl | (simp only [List.length_drop, List.length_take]; rfl)) ?_; (with_reducible refine (strings_Cut.calls a0 (⟨#[46]⟩ : ByteArray) t113 t114 t115 _ A5.out).mono ?_); rintro e w' ⟨rfl, ⟨nd, rfl⟩⟩; refine ⟨_, rfl, ?_⟩) | ((with_reducible refine gate_callee (f := 46) rfl ?_); refine goesL_ (some 21) rfl rfl Try.func46 (by kernel_rfl) rfl #[.string a0] rfl (by (try simp only [List.map_toArray, List.map_cons, List.map_nil]); first | done | rfl | (simp only [List.length_drop, List.length_take]; rfl)) ?_; (with_reducible refine (lex_numeral.calls k a0 true _ A6.out).mono ?_); rintro e w' ⟨rfl, ⟨nd, rfl⟩⟩; refine ⟨_, rfl, ?_⟩))
     go_ret
     exact ⟨by first | rfl | (simp; done) | (simp [*]; done), by repeat (first | exact Drawn0.refl _ | apply Drawn0.step)⟩
    ·replace c7 := Bool.eq_false_iff.mpr c7
     subst c7
     have H1 : (if t115 = true then ((lex_numeral.f k t113).bind fun t117 => (if t117 = true then (if t114.toList = ([] : List UInt8) then (lex_Kind.j0 k a0 false) else ((lex_all.f k t114 8).bind fun t118 => (lex_Kind.j0 k a0 t118))) else (lex_Kind.j0 k a0 false))) else (lex_Kind.j0 k a0 false)) = some r := by rw [if_neg (show ¬ (false = true) by decide)] at H; exact H
     clear H
     have H := H1
     clear H1
     have HC8 := Aside0.mk H
     clear H
     go_enter Try.func15, Try.ntmps15
     go_upto_region 11 with (first | ((with_reducible refine gate_callee (f := 45) rfl ?_); refine goesL_ (some 15) rfl rfl Try.func45 (by kernel_rfl) rfl #[.string a0, .string (⟨#[46]⟩ : ByteArray)] rfl (by (try simp only [List.map_toArray, List.map_cons, List.map_nil]); first | done | rfl | (simp only [List.length_drop, List.length_take]; rfl)) ?_; (with_reducible refine (strings_Cut.calls a0 (⟨#[46]⟩ : ByteArray) t113 t114 t115 _ A5.out).mono ?_); rintro e w' ⟨rfl, ⟨nd, rfl⟩⟩; refine ⟨_, rfl, ?_⟩) | ((with_reducible refine gate_callee (f := 46) rfl ?_); refine goesL_ (some 21) rfl rfl Try.func46 (by kernel_rfl) rfl #[.string a0] rfl (by (try simp only [List.map_toArray, List.map_cons, List.map_nil]); first | done | rfl | (simp only [List.length_drop, List.length_take]; rfl)) ?_; (with_reducible refine (lex_numeral.calls k a0 false _ A6.out).mono ?_); rintro e w' ⟨rfl, ⟨nd, rfl⟩⟩; refine ⟨_, rfl, ?_⟩))
     (try simp only [Act.put, List.setIfInBounds_toArray, List.set_cons_zero, List.set_cons_succ])
     go_cut [22] (fun v22 wc => ∃ (kq : Nat) (x22_7 : Bool), v22 = .bool x22_7 ∧ Aside0 (lex_Kind.j0 kq a0 x22_7 = some r) ∧ Aside0 (kq ≤ k) ∧ Drawn0 w wc)
     case first =>
      have H := HC8.out
      clear HC8
      by_cases c9 : t115 = true
      ·subst c9
       have H1 : ((lex_numeral.f k t113).bind fun t117 => (if t117 = true then (if t114.toList = ([] : List UInt8) then (lex_Kind.j0 k a0 false) else ((lex_all.f k t114 8).bind fun t118 => (lex_Kind.j0 k a0 t118))) else (lex_Kind.j0 k a0 false))) = some r := by rw [if_pos rfl] at H; exact H
       clear H
       have H := H1
       clear H1
       replace H := Option.bind_eq_some_iff.mp H
       obtain ⟨t117, A100, H⟩ := H
       replace H : (if t117 = true then (if t114.toList = ([] : List UInt8) then (lex_Kind.j0 k a0 false) else ((lex_all.f k t114 8).bind fun t118 => (lex_Kind.j0 k a0 t118))) else (lex_Kind.j0 k a0 false)) = some r := H
       have A10 := Aside0.mk A100
       clear A100
       by_cases c11 : t117 = true
       ·subst c11
        have H1 : (if t114.toList = ([] : List UInt8) then (lex_Kind.j0 k a0 false) else ((lex_all.f k t114 8).bind fun t118 => (lex_Kind.j0 k a0 t118))) = some r := by rw [if_pos rfl] at H; exact H
        clear H
        have H := H1
        clear H1
        by_cases c12 : t114.toList = ([] : List UInt8)
        ·rw [if_pos c12] at H
         have c12b0 : (t114.toList == ([] : List UInt8)) = true := beq_iff_eq.mpr c12
         have c12b1 : (t114.toList != ([] : List UInt8)) = false := bne_eq_false_iff_eq.mpr c12
         clear c12
         (first | rw [c12b0] | (simp only [i64_w, i32_w]; rw [c12b0]) | skip)
         have H' := Aside0.mk H
         clear H
         go_wp2_with (first | (go_at_call 46; (with_reducible refine (lex_numeral.calls k t113 true _ A10.out).mono ?_); rintro e w' ⟨rfl, ⟨nd, rfl⟩⟩))
         go_meet
         case rel => exact ⟨_, (false), (by first | rfl | (simp; done) | (simp [*]; done)), H', ⟨by first | omega | exact Nat.le_refl _⟩, by repeat (first | exact Drawn0.refl _ | apply Drawn0.step)⟩
        ·rw [if_neg c12] at H
         have c12b0 : (t114.toList == ([] : List UInt8)) = false := beq_eq_false_iff_ne.mpr c12
         have c12b1 : (t114.toList != ([] : List UInt8)) = true := bne_iff_ne.mpr c12
         (first | rw [c12b0] | (simp only [i64_w, i32_w]; rw [c12b0]) | skip)
         replace H := Option.bind_eq_some_iff.mp H
         obtain ⟨t118, A130, H⟩ := H
         replace H : (lex_Kind.j0 k a0 t118) = some r := H
         have A13 := Aside0.mk A130
         clear A130
         have H' := Aside0.mk H
         clear H
         go_wp2_with (first | (go_at_call 46; (with_reducible refine (lex_numeral.calls k t113 true _ A10.out).mono ?_); rintro e w' ⟨rfl, ⟨nd, rfl⟩⟩) | (go_at_call 47; (with_reducible refine (lex_all.calls k t114 8 t118 _ A13.out).mono ?_); rintro e w' ⟨rfl, ⟨nd, rfl⟩⟩))
         go_meet
         case rel => exact ⟨_, (t118), (by first | rfl | (simp; done) | (simp [*]; done)), H', ⟨by first | omega | exact Nat.le_refl _⟩, by repeat (first | exact Drawn0.refl _ | apply Drawn0.step)⟩
       ·replace c11 := Bool.eq_false_iff.mpr c11
        subst c11
        have H1 : (lex_Kind.j0 k a0 false) = some r := by rw [if_neg (show ¬ (false = true) by decide)] at H; exact H
        clear H
        have H := H1
        clear H1
        have H' := Aside0.mk H
        clear H
        go_wp2_with (first | (go_at_call 46; (with_reducible refine (lex_numeral.calls k t113 false _ A10.out).mono ?_); rintro e w' ⟨rfl, ⟨nd, rfl⟩⟩))
        go_meet
        case rel => exact ⟨_, (false), (by first | rfl | (simp; done) | (simp [*]; done)), H', ⟨by first | omega | exact Nat.le_refl _⟩, by repeat (first | exact Drawn0.refl _ | apply Drawn0.step)⟩
      ·replace c9 := Bool.eq_false_iff.mpr c9
       subst c9
       have H1 : (lex_Kind.j0 k a0 false) = some r := by rw [if_neg (show ¬ (false = true) by decide)] at H; exact H
       clear H
       have H := H1
       clear H1
       have H' := Aside0.mk H
       clear H
       go_wp2
       go_meet
       case rel => exact ⟨_, (false), (by first | rfl | (simp; done) | (simp [*]; done)), H', ⟨by first | omega | exact Nat.le_refl _⟩, by repeat (first | exact Drawn0.refl _ | apply Drawn0.step)⟩
     case rest =>
      clear HC8
      try clear c1
      try clear c2
      try clear c2b0
      try clear c2b1
      try clear p2
      try clear c3
      try clear c3b0
      try clear c3b1
      try clear c4
      try clear c4b0
      try clear c4b1
      try clear c7
      try clear c9
      try clear c11
      try clear c12
      try clear c12b0
      try clear c12b1
      obtain ⟨kq, x22_7, rfl, HA, HJ7, ⟨mc7, rfl⟩⟩ := hcut
      cases kq with
      | zero => exact absurd HA.out (by simp [lex_Kind.j0])
      | succ kj7 =>
       have H := HA.out
       clear HA
       simp only [lex_Kind.j0] at H
       by_cases c14 : x22_7 = true
       ·subst c14
        have H1 : (some 4) = some r := by rw [if_pos rfl] at H; exact H
        clear H
        have H := H1
        clear H1
        obtain rfl := Option.some.inj H
        go_wp2
        go_ret
        exact ⟨by first | rfl | (simp; done) | (simp [*]; done), by repeat (first | exact Drawn0.refl _ | apply Drawn0.step)⟩
       ·replace c14 := Bool.eq_false_iff.mpr c14
        subst c14
        have H1 : ((lex_symbol.f kj7 a0).bind fun t119 => (if t119 = true then (some 5) else (if 0 < (a0.size : Int) then (if (bt a0 0) = 58 then (if 1 ≤ (a0.size : Int) then ((lex_symbol.f kj7 (a0.extract 1 a0.size)).bind fun t120 => (if t120 = true then (some 6) else (some 0))) else (none)) else (some 0)) else (none)))) = some r := by rw [if_neg (show ¬ (false = true) by decide)] at H; exact H
        clear H
        have H := H1
        clear H1
        replace H := Option.bind_eq_some_iff.mp H
        obtain ⟨t119, A150, H⟩ := H
        replace H : (if t119 = true then (some 5) else (if 0 < (a0.size : Int) then (if (bt a0 0) = 58 then (if 1 ≤ (a0.size : Int) then ((lex_symbol.f kj7 (a0.extract 1 a0.size)).bind fun t120 => (if t120 = true then (some 6) else (some 0))) else (none)) else (some 0)) else (none))) = some r := H
        have A15 := Aside0.mk A150
        clear A150
        by_cases c16 : t119 = true
        ·subst c16
         have H1 : (some 5) = some r := by rw [if_pos rfl] at H; exact H
         clear H
         have H := H1
         clear H1
         obtain rfl := Option.some.inj H
         go_wp2_with (first | ((with_reducible refine gate_callee (f := 48) rfl ?_); refine goesL_ (some 38) rfl rfl Try.func48 (by kernel_rfl) rfl #[.string a0] rfl (by (try simp only [List.map_toArray, List.map_cons, List.map_nil]); first | done | rfl | (simp only [List.length_drop, List.length_take]; rfl)) ?_; (with_reducible refine (lex_symbol.calls kj7 a0 true _ A15.out).mono ?_); rintro e w' ⟨rfl, ⟨nd, rfl⟩⟩; refine ⟨_, rfl, ?_⟩))
         go_ret
         exact ⟨by first | rfl | (simp; done) | (simp [*]; done), by repeat (first | exact Drawn0.refl _ | apply Drawn0.step)⟩
        ·replace c16 := Bool.eq_false_iff.mpr c16
         subst c16
         have H1 : (if 0 < (a0.size : Int) then (if (bt a0 0) = 58 then (if 1 ≤ (a0.size : Int) then ((lex_symbol.f kj7 (a0.extract 1 a0.size)).bind fun t120 => (if t120 = true then (some 6) else (some 0))) else (none)) else (some 0)) else (none)) = some r := by rw [if_neg (show ¬ (false = true) by decide)] at H; exact H
         clear H
         have H := H1
         clear H1
         by_cases c17 : 0 < (a0.size : Int)
         ·rw [if_pos c17] at H
          have c17b0 : decide (0 < (a0.size : Int)) = true := decide_eq_true c17
          have c17b1 : decide (0 < a0.size) = true := decide_eq_true (by omega)
          clear c17
          by_cases c19 : (bt a0 0) = 58
          ·rw [if_pos c19] at H
           have c19b0 : ((bt a0 0) == 58) = true := beq_iff_eq.mpr c19
           have c19b1 : ((bt a0 0) != 58) = false := bne_eq_false_iff_eq.mpr c19
           clear c19
           by_cases c20 : 1 ≤ (a0.size : Int)
           ·rw [if_pos c20] at H
            have c20b0 := eq_true c20
            have c20b1 : decide (1 ≤ (a0.size : Int)) = true := decide_eq_true c20
            clear c20
            replace H := Option.bind_eq_some_iff.mp H
            obtain ⟨t120, A210, H⟩ := H
            replace H : (if t120 = true then (some 6) else (some 0)) = some r := H
            have A21 := Aside0.mk A210
            clear A210
            by_cases c22 : t120 = true
            ·subst c22
             have H1 : (some 6) = some r := by rw [if_pos rfl] at H; exact H
             clear H
             have H := H1
             clear H1
             obtain rfl := Option.some.inj H
             go_wp2_with (first | ((with_reducible refine gate_callee (f := 48) rfl ?_); refine goesL_ (some 38) rfl rfl Try.func48 (by kernel_rfl) rfl #[.string a0] rfl (by (try simp only [List.map_toArray, List.map_cons, List.map_nil]); first | done | rfl | (simp only [List.length_drop, List.length_take]; rfl)) ?_; (with_reducible refine (lex_symbol.calls kj7 a0 false _ A15.out).mono ?_); rintro e w' ⟨rfl, ⟨nd, rfl⟩⟩; refine ⟨_, rfl, ?_⟩; have p18 : 0 ≤ (0 : Int) := (by omega); have q18 : 0 < a0.size := (by have : (0 : Int) < (a0.size : Int) := of_decide_eq_true (by first | (with_reducible assumption) | assumption); omega); have hx18 : ∀ h : 0 < a0.size, ((a0[0]'h).toNat : Int) = bt a0 0 := bt_at a0 0; clear p18; have qi18 : (0 < (a0.size : Int)) = True := eq_true (of_decide_eq_true (by first | (with_reducible assumption) | assumption)); replace q18 := eq_true q18) | (go_at_call 48; (with_reducible refine (lex_symbol.calls kj7 (a0.extract 1 a0.size) true _ A21.out).mono ?_); rintro e w' ⟨rfl, ⟨nd, rfl⟩⟩))
             go_ret
             exact ⟨by first | rfl | (simp; done) | (simp [*]; done), by repeat (first | exact Drawn0.refl _ | apply Drawn0.step)⟩
            ·replace c22 := Bool.eq_false_iff.mpr c22
             subst c22
             have H1 : (some 0) = some r := by rw [if_neg (show ¬ (false = true) by decide)] at H; exact H
             clear H
             have H := H1
             clear H1
             obtain rfl := Option.some.inj H
             go_wp2_with (first | ((with_reducible refine gate_callee (f := 48) rfl ?_); refine goesL_ (some 38) rfl rfl Try.func48 (by kernel_rfl) rfl #[.string a0] rfl (by (try simp only [List.map_toArray, List.map_cons, List.map_nil]); first | done | rfl | (simp only [List.length_drop, List.length_take]; rfl)) ?_; (with_reducible refine (lex_symbol.calls kj7 a0 false _ A15.out).mono ?_); rintro e w' ⟨rfl, ⟨nd, rfl⟩⟩; refine ⟨_, rfl, ?_⟩; have p18 : 0 ≤ (0 : Int) := (by omega); have q18 : 0 < a0.size := (by have : (0 : Int) < (a0.size : Int) := of_decide_eq_true (by first | (with_reducible assumption) | assumption); omega); have hx18 : ∀ h : 0 < a0.size, ((a0[0]'h).toNat : Int) = bt a0 0 := bt_at a0 0; clear p18; have qi18 : (0 < (a0.size : Int)) = True := eq_true (of_decide_eq_true (by first | (with_reducible assumption) | assumption)); replace q18 := eq_true q18) | (go_at_call 48; (with_reducible refine (lex_symbol.calls kj7 (a0.extract 1 a0.size) false _ A21.out).mono ?_); rintro e w' ⟨rfl, ⟨nd, rfl⟩⟩))
             go_ret
             exact ⟨by first | rfl | (simp; done) | (simp [*]; done), by repeat (first | exact Drawn0.refl _ | apply Drawn0.step)⟩
           ·rw [if_neg c20] at H
            exact absurd H (by simp)
          ·rw [if_neg c19] at H
           have c19b0 : ((bt a0 0) == 58) = false := beq_eq_false_iff_ne.mpr c19
           have c19b1 : ((bt a0 0) != 58) = true := bne_iff_ne.mpr c19
           obtain rfl := Option.some.inj H
           go_wp2_with (first | ((with_reducible refine gate_callee (f := 48) rfl ?_); refine goesL_ (some 38) rfl rfl Try.func48 (by kernel_rfl) rfl #[.string a0] rfl (by (try simp only [List.map_toArray, List.map_cons, List.map_nil]); first | done | rfl | (simp only [List.length_drop, List.length_take]; rfl)) ?_; (with_reducible refine (lex_symbol.calls kj7 a0 false _ A15.out).mono ?_); rintro e w' ⟨rfl, ⟨nd, rfl⟩⟩; refine ⟨_, rfl, ?_⟩; have p18 : 0 ≤ (0 : Int) := (by omega); have q18 : 0 < a0.size := (by have : (0 : Int) < (a0.size : Int) := of_decide_eq_true (by first | (with_reducible assumption) | assumption); omega); have hx18 : ∀ h : 0 < a0.size, ((a0[0]'h).toNat : Int) = bt a0 0 := bt_at a0 0; clear p18; have qi18 : (0 < (a0.size : Int)) = True := eq_true (of_decide_eq_true (by first | (with_reducible assumption) | assumption)); replace q18 := eq_true q18))
           go_ret
           exact ⟨by first | rfl | (simp; done) | (simp [*]; done), by repeat (first | exact Drawn0.refl _ | apply Drawn0.step)⟩
         ·rw [if_neg c17] at H
          exact absurd H (by simp)

-- NOT PRINTED: function 44 (lex_each)

end Go.Proofs.Ytgikmpgpccfiiaa.PSxp
