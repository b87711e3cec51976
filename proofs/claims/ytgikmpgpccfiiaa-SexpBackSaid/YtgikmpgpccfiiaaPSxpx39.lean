-- A text of the seat Ytgikmpgpccfiiaa, written by a program of this session (drive.py).
import Derived.Test.YtgikmpgpccfiiaaPSxpx0
import Derived.Test.YtgikmpgpccfiiaaPSxpx24
import Derived.Test.YtgikmpgpccfiiaaPSxpx25
import Derived.Test.YtgikmpgpccfiiaaPSxpx26
import Derived.Test.YtgikmpgpccfiiaaPSxpx28
import Derived.Test.YtgikmpgpccfiiaaPSxpx30
import Derived.Test.YtgikmpgpccfiiaaPSxpx37
import Derived.Test.YtgikmpgpccfiiaaPSxpx38
namespace Go.Proofs.Ytgikmpgpccfiiaa.PSxp
open Go.RowKit Go.Proofs.YtgikmpgpccfiiaaW.PrintWords Go.Proofs.YtgikmpgpccfiiaaW.PrintLast Go.Proofs.YtgikmpgpccfiiaaW.PrintMore
attribute [local go_sem] max2_int min2_int max_two min_two max_three min_three max_four min_four   -- for this text's walks alone
set_option linter.unusedVariables false
set_option linter.unusedSimpArgs false

theorem strsz_ (s : ByteArray) : ((s ++ (⟨#[32]⟩ : ByteArray)).size : Int) = (s.size : Int) + 1 := by rw [ByteArray.size_append]; rfl
theorem strw_ {x y : Nat} (h : x + y ≤ 9223372036854775807) : wrap64 ((x : Int) + (y : Int)) = (x : Int) + (y : Int) := by unfold wrap64; omega
/-! ### alidadelaw13_SexpBack: function 11 -/
mutual
def alidadelaw13_SexpBack.j0 : Nat → List (S51) → Bool → Option (Bool)
  | 0, _, _ => none
  | k + 1, x0, x23 => if x23 = true then ((alidadelaw13_awake.f k).bind fun t343 => (some t343)) else (alidadelaw13_SexpBack.l0 k x0 (⟨#[]⟩ : ByteArray) ([] : List Int) 0 0)
def alidadelaw13_SexpBack.l0 : Nat → List (S51) → ByteArray → List Int → Int → Int → Option (Bool)
  | 0, _, _, _, _, _ => none
  | k + 1, x0, x3, x4, x5, x6 => if x6 < (x0.length : Int) then (if 0 ≤ x6 then ((sexp_Show.f k ((rd_T51 x0 x6).f0) ((rd_T51 x0 x6).f1) ((rd_T51 x0 x6).f2) ((rd_T51 x0 x6).f3)).bind fun t345 => ((sexp_May.f k ((rd_T51 x0 x6).f0) ((rd_T51 x0 x6).f1) ((rd_T51 x0 x6).f2) ((rd_T51 x0 x6).f3)).bind fun t347 => (if t347 = true then (if t345.toList = ([] : List UInt8) then (none) else (if (wrap64 ((x3.size : Int) + (t345.size : Int))) > 60000 then (some true) else (if x6 > 0 then (if x3.size + 1 ≤ 9223372036854775807 then (if x4.length < 17592186044416 then (if (x3 ++ (⟨#[32]⟩ : ByteArray)).size + t345.size ≤ 9223372036854775807 then ((sexp_Depth.f k ((rd_T51 x0 x6).f0) ((rd_T51 x0 x6).f1) ((rd_T51 x0 x6).f2) ((rd_T51 x0 x6).f3)).bind fun t352 => (alidadelaw13_SexpBack.l0 k x0 ((x3 ++ (⟨#[32]⟩ : ByteArray)) ++ t345) (x4 ++ [((x3 ++ (⟨#[32]⟩ : ByteArray)).size : Int)]) (mx x5 t352) (wrap64 (x6 + 1)))) else (none)) else (none)) else (none)) else (if x4.length < 17592186044416 then (if x3.size + t345.size ≤ 9223372036854775807 then ((sexp_Depth.f k ((rd_T51 x0 x6).f0) ((rd_T51 x0 x6).f1) ((rd_T51 x0 x6).f2) ((rd_T51 x0 x6).f3)).bind fun t357 => (alidadelaw13_SexpBack.l0 k x0 (x3 ++ t345) (x4 ++ [(x3.size : Int)]) (mx x5 t357) (wrap64 (x6 + 1)))) else (none)) else (none))))) else (if t345.toList = ([] : List UInt8) then (some true) else (none))))) else (none)) else ((alidadelaw13_read.f k x3 x5).bind fun bt358 => (if bt358.2.2 = 0 then (if bt358.2.1 = 0 then (alidadelaw13_SexpBack.j2 k x0 x4 bt358.1 ((bt358.1.length : Int) != (x0.length : Int))) else (alidadelaw13_SexpBack.j2 k x0 x4 bt358.1 true)) else (alidadelaw13_SexpBack.j2 k x0 x4 bt358.1 true)))
def alidadelaw13_SexpBack.j2 : Nat → List (S51) → List Int → List (S51) → Bool → Option (Bool)
  | 0, _, _, _, _ => none
  | k + 1, x0, x4, x8, x92 => if x92 = true then (none) else (alidadelaw13_SexpBack.l1 k x0 x4 x8 0)
def alidadelaw13_SexpBack.l1 : Nat → List (S51) → List Int → List (S51) → Int → Option (Bool)
  | 0, _, _, _, _ => none
  | k + 1, x0, x4, x8, x11 => if x11 < (x0.length : Int) then (if 0 ≤ x11 then (if x11 < (x8.length : Int) then ((sexp_Same.f k ((rd_T51 x8 x11).f0) ((rd_T51 x8 x11).f1) ((rd_T51 x8 x11).f2) ((rd_T51 x8 x11).f3) ((rd_T51 x0 x11).f0) ((rd_T51 x0 x11).f1) ((rd_T51 x0 x11).f2) ((rd_T51 x0 x11).f3)).bind fun t365 => (if t365 = true then (if x11 < (x4.length : Int) then (if ((rd_T51 x8 x11).f1) = (rd x4 x11) then (alidadelaw13_SexpBack.l1 k x0 x4 x8 (wrap64 (x11 + 1))) else (none)) else (none)) else (none))) else (none)) else (none)) else (some true)
end
def alidadelaw13_SexpBack.f (k : Nat) (l0 : List (S51)) : Option (Bool) := if (l0.length : Int) > 100 then (alidadelaw13_SexpBack.j0 k l0 true) else ((alidadelaw13_large.f k l0).bind fun t341 => (if t341 ≥ 3000 then (alidadelaw13_SexpBack.j0 k l0 true) else ((alidadelaw13_awake.f k).bind fun t342 => (alidadelaw13_SexpBack.j0 k l0 (!t342)))))
def alidadelaw13_SexpBack.T25 : Bool × List (List Nat × List Nat) := (true, [([], []), ([], []), ([0, 1], [0, 1]), ([2], [2]), ([], []), ([], []), ([4, 5], [4, 5]), ([6], [6]), ([3, 7], [3, 7]), ([8], [8]), ([9, 8], [9]), ([10], [10]), ([10], [10]), ([11, 12, 10], [10, 11, 12]), ([13, 10], [10, 13]), ([14, 10], [10, 14]), ([10], [10]), ([10], [10]), ([16, 17, 10], [10, 16, 17]), ([18, 10], [10, 18]), ([15, 19, 10], [10, 15, 19]), ([10, 20], [10, 20])])
def alidadelaw13_SexpBack.B25 : List Nat := [0, 0, 3, 7, 0, 0, 48, 112, 255, 511, 1023, 2047, 2047, 8191, 16383, 32767, 2047, 2047, 198655, 460799, 1048575, 2097151]
theorem alidadelaw13_SexpBack.tab25 : rtab .any (opsOf Try.f11 25) = alidadelaw13_SexpBack.T25 := by kernel_rfl
theorem alidadelaw13_SexpBack.bits25 : waitsOk alidadelaw13_SexpBack.T25.2 alidadelaw13_SexpBack.B25 = true := by kernel_rfl
set_option maxHeartbeats 8000000 in
set_option maxRecDepth 100000 in
theorem alidadelaw13_SexpBack.calls (k : Nat) (A0 : Option Addr) (c0 : Nat) (l0 : List (S51)) (r : Bool) (w : World) (hr0 : Kd.C k51 w A0 l0.length l0) (hc0 : l0.length ≤ c0) (h : alidadelaw13_SexpBack.f k l0 = some r) :
    Calls Try.prog 11 #[.slice A0 l0.length c0] w fun e w' => e = .returned (.bool r) ∧ Below w.heap.size w w' := by
  have hu51 := Try.underlying51
  have HR0 := Aside0.mk hr0
  have HC0 := Aside0.mk hc0
  clear hr0 hc0
  have HB := Aside0.mk (Below.refl w.heap.size w)
  have H : (if (l0.length : Int) > 100 then (alidadelaw13_SexpBack.j0 k l0 true) else ((alidadelaw13_large.f k l0).bind fun t341 => (if t341 ≥ 3000 then (alidadelaw13_SexpBack.j0 k l0 true) else ((alidadelaw13_awake.f k).bind fun t342 => (alidadelaw13_SexpBack.j0 k l0 (!t342)))))) = some r := h
  clear h
  have HC2 := Aside0.mk H
  clear H
  go_enter Try.func11, Try.ntmps11
  go_upto_region 1 with (fail)
  go_cut [23] (fun v23 wc => ∃ (kq : Nat) (x23_1 : Bool), v23 = .bool x23_1 ∧ Aside0 (alidadelaw13_SexpBack.j0 kq l0 x23_1 = some r) ∧ Aside0 (kq ≤ k) ∧ Aside0 (Below w.heap.size w wc))
  case first =>
    have H := HC2.out
    clear HC2
    by_cases c3 : (l0.length : Int) > 100
    · rw [if_pos c3] at H
      have c3b0 : decide (100 < (l0.length : Int)) = true := decide_eq_true c3
      have c3b1 : decide (100 < l0.length) = true := decide_eq_true (by omega)
      clear c3
      (first | rw [c3b0] | (simp only [i64_w, i32_w]; rw [c3b0]) | skip)
      have H' := Aside0.mk H
      clear H
      go_wp2
      go_meet
      case rel => exact ⟨_, (true), (by first | rfl | (simp; done) | (simp [*]; done)), H', ⟨by first | omega | exact Nat.le_refl _⟩, ⟨by repeat (first | (with_reducible first | exact HB.out | apply below_alloc | apply pw_below_drewN | apply below_drew1) | exact HB.out)⟩⟩
    · rw [if_neg c3] at H
      have c3b0 : decide (100 < (l0.length : Int)) = false := decide_eq_false c3
      have c3b1 : decide (100 < l0.length) = false := decide_eq_false (by omega)
      clear c3
      (first | rw [c3b0] | (simp only [i64_w, i32_w]; rw [c3b0]) | skip)
      replace H := Option.bind_eq_some_iff.mp H
      obtain ⟨t341, A40, H⟩ := H
      replace H : (if t341 ≥ 3000 then (alidadelaw13_SexpBack.j0 k l0 true) else ((alidadelaw13_awake.f k).bind fun t342 => (alidadelaw13_SexpBack.j0 k l0 (!t342)))) = some r := H
      have A4 := Aside0.mk A40
      clear A40
      by_cases c5 : t341 ≥ 3000
      · rw [if_pos c5] at H
        have c5b0 : decide (3000 ≤ t341) = true := decide_eq_true c5
        clear c5
        have H' := Aside0.mk H
        clear H
        go_wp2_with (first | (go_at_call 40; (with_reducible refine (alidadelaw13_large.calls k _ _ l0 t341 _ ?side1 ?side2 A4.out).mono ?_); (case side1 => repeat (first | exact (Kd.C_below HR0.out HB.out) | (with_reducible refine Kd.C_alloc ?_ _) | (with_reducible refine Kd.C_drewN ?_ _) | (with_reducible refine Kd.C_drew ?_))); (case side2 => exact HC0.out); rintro e w6 ⟨rfl, hb⟩; have n0_ := Aside0.mk (below_step (by repeat (first | (with_reducible first | exact HB.out | apply below_alloc | apply pw_below_drewN | apply below_drew1) | exact HB.out)) hb); clear HB; have HB := n0_; clear n0_; (try clear hb); (try clear hb2); (try clear hk); (try clear hi)))
        go_meet
        case rel => exact ⟨_, (true), (by first | rfl | (simp; done) | (simp [*]; done)), H', ⟨by first | omega | exact Nat.le_refl _⟩, ⟨by repeat (first | (with_reducible first | exact HB.out | apply below_alloc | apply pw_below_drewN | apply below_drew1) | exact HB.out)⟩⟩
      · rw [if_neg c5] at H
        have c5b0 : decide (3000 ≤ t341) = false := decide_eq_false c5
        clear c5
        replace H := Option.bind_eq_some_iff.mp H
        obtain ⟨t342, A70, H⟩ := H
        replace H : (alidadelaw13_SexpBack.j0 k l0 (!t342)) = some r := H
        have A7 := Aside0.mk A70
        clear A70
        have H' := Aside0.mk H
        clear H
        go_wp2_with (first | (go_at_call 40; (with_reducible refine (alidadelaw13_large.calls k _ _ l0 t341 _ ?side1 ?side2 A4.out).mono ?_); (case side1 => repeat (first | exact (Kd.C_below HR0.out HB.out) | (with_reducible refine Kd.C_alloc ?_ _) | (with_reducible refine Kd.C_drewN ?_ _) | (with_reducible refine Kd.C_drew ?_))); (case side2 => exact HC0.out); rintro e w8 ⟨rfl, hb⟩; have n0_ := Aside0.mk (below_step (by repeat (first | (with_reducible first | exact HB.out | apply below_alloc | apply pw_below_drewN | apply below_drew1) | exact HB.out)) hb); clear HB; have HB := n0_; clear n0_; (try clear hb); (try clear hb2); (try clear hk); (try clear hi)) | (go_at_call 22; (with_reducible refine (alidadelaw13_awake.calls k  t342 _ A7.out).mono ?_); rintro e w9 ⟨rfl, hb⟩; have n0_ := Aside0.mk (below_step (by repeat (first | (with_reducible first | exact HB.out | apply below_alloc | apply pw_below_drewN | apply below_drew1) | exact HB.out)) hb); clear HB; have HB := n0_; clear n0_; (try clear hb); (try clear hb2); (try clear hk); (try clear hi)))
        go_meet
        case rel => exact ⟨_, (!t342), (by first | rfl | (simp; done) | (simp [*]; done)), H', ⟨by first | omega | exact Nat.le_refl _⟩, ⟨by repeat (first | (with_reducible first | exact HB.out | apply below_alloc | apply pw_below_drewN | apply below_drew1) | exact HB.out)⟩⟩
  case rest =>
    clear HC2
    try clear c1
    try clear p2
    try clear c3
    try clear c3b0
    try clear c3b1
    try clear c5
    try clear c5b0
    obtain ⟨kq, x23_1, rfl, HA, HJ1, HB⟩ := hcut
    cases kq with
    | zero => exact absurd HA.out (by simp [alidadelaw13_SexpBack.j0])
    | succ kj1 =>
      have H := HA.out
      clear HA
      simp only [alidadelaw13_SexpBack.j0] at H
      by_cases c10 : x23_1 = true
      · subst c10
        have H1 : ((alidadelaw13_awake.f kj1).bind fun t343 => (some t343)) = some r := by rw [if_pos rfl] at H; exact H
        clear H
        have H := H1
        clear H1
        replace H := Option.bind_eq_some_iff.mp H
        obtain ⟨t343, A110, H⟩ := H
        replace H : (some t343) = some r := H
        have A11 := Aside0.mk A110
        clear A110
        obtain rfl := Option.some.inj H
        go_wp2_with (first | ((with_reducible refine gate_callee (f := 22) rfl ?_); refine goesL_ (some 24) rfl rfl Try.func22 (by kernel_rfl) rfl #[] rfl (by (try simp only [List.map_toArray, List.map_cons, List.map_nil]); first | done | rfl | (simp only [List.length_drop, List.length_take]; rfl)) ?_; (with_reducible refine (alidadelaw13_awake.calls kj1  t343 _ A11.out).mono ?_); rintro e w12 ⟨rfl, hb⟩; refine ⟨_, rfl, ?_⟩; have n0_ := Aside0.mk (below_step (by repeat (first | (with_reducible first | exact HB.out | apply below_alloc | apply pw_below_drewN | apply below_drew1) | exact HB.out)) hb); clear HB; have HB := n0_; clear n0_; (try clear hb); (try clear hb2); (try clear hk); (try clear hi)))
        go_ret
        exact ⟨by first | rfl | (simp [errW_none, errW_some] <;> rfl) | (simp [*, errW_none, errW_some] <;> rfl), by repeat (first | (with_reducible first | exact HB.out | apply below_alloc | apply pw_below_drewN | apply below_drew1) | exact HB.out)⟩
      · replace c10 := Bool.eq_false_iff.mpr c10
        subst c10
        have H1 : (alidadelaw13_SexpBack.l0 kj1 l0 (⟨#[]⟩ : ByteArray) ([] : List Int) 0 0) = some r := by rw [if_neg (show ¬ (false = true) by decide)] at H; exact H
        clear H
        have H := H1
        clear H1
        have H' := Aside0.mk H
        clear H
        go_wp2
        go_loopg [3, 4, 5, 6] kj1 (fun kq v3 v4 v5 v6 w' => ∃ (x3_2 : ByteArray) (x4_2 : List Int) (x5_2 : Int) (x6_2 : Int), v3 = .string x3_2 ∧ v5 = .int .i64 x5_2 ∧ v6 = .int .i64 x6_2 ∧ Aside0 (alidadelaw13_SexpBack.l0 kq l0 x3_2 x4_2 x5_2 x6_2 = some r) ∧ Aside0 (kq ≤ kj1) ∧ Aside0 (Kd.R (Kd.int .i64) 3 w' w.heap.size (fun _ => True) v4 x4_2) ∧ Aside0 (Below w.heap.size w w'))
        case atStart => exact ⟨((⟨#[]⟩ : ByteArray)), (([] : List Int)), (0), (0), (by first | rfl | (simp; done) | (simp [*]; done)), (by first | rfl | (simp; done) | (simp [*]; done)), (by first | rfl | (simp; done) | (simp [*]; done)), H', ⟨Nat.le_refl _⟩, ⟨by first | exact Kd.R_nil _ _ _ _ _ | exact Kd.N_nil _ _ _ _ _ | exact Kd.V_nil _ _ _ _ _ | exact Kd.Q_nil _ _ _ _ _ | exact Kd.S_nil _ _ _ _ _⟩, ⟨by repeat (first | (with_reducible first | exact HB.out | apply below_alloc | apply pw_below_drewN | apply below_drew1) | exact HB.out)⟩⟩
        case round =>
          clear H'
          try clear c1
          try clear c2
          try clear p2
          try clear c3
          try clear c3b0
          try clear c3b1
          try clear c5
          try clear c5b0
          try clear c10
          try clear c11
          try clear p2
          obtain ⟨x3_2, x4_2, x5_2, x6_2, rfl, rfl, rfl, HA, HK2, HO_4, HB⟩ := hrel
          cases gk with
          | zero => exact absurd HA.out (by simp [alidadelaw13_SexpBack.l0])
          | succ k2 =>
            have H := HA.out
            clear HA
            simp only [alidadelaw13_SexpBack.l0] at H
            by_cases c13 : x6_2 < (l0.length : Int)
            · rw [if_pos c13] at H
              have c13b0 : decide (x6_2 < (l0.length : Int)) = true := decide_eq_true c13
              clear c13
              by_cases c14 : 0 ≤ x6_2
              · rw [if_pos c14] at H
                have c14b0 : decide (0 ≤ x6_2) = true := decide_eq_true c14
                clear c14
                replace H := Option.bind_eq_some_iff.mp H
                obtain ⟨t345, A150, H⟩ := H
                replace H : ((sexp_May.f k2 ((rd_T51 l0 x6_2).f0) ((rd_T51 l0 x6_2).f1) ((rd_T51 l0 x6_2).f2) ((rd_T51 l0 x6_2).f3)).bind fun t347 => (if t347 = true then (if t345.toList = ([] : List UInt8) then (none) else (if (wrap64 ((x3_2.size : Int) + (t345.size : Int))) > 60000 then (some true) else (if x6_2 > 0 then (if x3_2.size + 1 ≤ 9223372036854775807 then (if x4_2.length < 17592186044416 then (if (x3_2 ++ (⟨#[32]⟩ : ByteArray)).size + t345.size ≤ 9223372036854775807 then ((sexp_Depth.f k2 ((rd_T51 l0 x6_2).f0) ((rd_T51 l0 x6_2).f1) ((rd_T51 l0 x6_2).f2) ((rd_T51 l0 x6_2).f3)).bind fun t352 => (alidadelaw13_SexpBack.l0 k2 l0 ((x3_2 ++ (⟨#[32]⟩ : ByteArray)) ++ t345) (x4_2 ++ [((x3_2 ++ (⟨#[32]⟩ : ByteArray)).size : Int)]) (mx x5_2 t352) (wrap64 (x6_2 + 1)))) else (none)) else (none)) else (none)) else (if x4_2.length < 17592186044416 then (if x3_2.size + t345.size ≤ 9223372036854775807 then ((sexp_Depth.f k2 ((rd_T51 l0 x6_2).f0) ((rd_T51 l0 x6_2).f1) ((rd_T51 l0 x6_2).f2) ((rd_T51 l0 x6_2).f3)).bind fun t357 => (alidadelaw13_SexpBack.l0 k2 l0 (x3_2 ++ t345) (x4_2 ++ [(x3_2.size : Int)]) (mx x5_2 t357) (wrap64 (x6_2 + 1)))) else (none)) else (none))))) else (if t345.toList = ([] : List UInt8) then (some true) else (none)))) = some r := H
                have A15 := Aside0.mk A150
                clear A150
                replace H := Option.bind_eq_some_iff.mp H
                obtain ⟨t347, A160, H⟩ := H
                replace H : (if t347 = true then (if t345.toList = ([] : List UInt8) then (none) else (if (wrap64 ((x3_2.size : Int) + (t345.size : Int))) > 60000 then (some true) else (if x6_2 > 0 then (if x3_2.size + 1 ≤ 9223372036854775807 then (if x4_2.length < 17592186044416 then (if (x3_2 ++ (⟨#[32]⟩ : ByteArray)).size + t345.size ≤ 9223372036854775807 then ((sexp_Depth.f k2 ((rd_T51 l0 x6_2).f0) ((rd_T51 l0 x6_2).f1) ((rd_T51 l0 x6_2).f2) ((rd_T51 l0 x6_2).f3)).bind fun t352 => (alidadelaw13_SexpBack.l0 k2 l0 ((x3_2 ++ (⟨#[32]⟩ : ByteArray)) ++ t345) (x4_2 ++ [((x3_2 ++ (⟨#[32]⟩ : ByteArray)).size : Int)]) (mx x5_2 t352) (wrap64 (x6_2 + 1)))) else (none)) else (none)) else (none)) else (if x4_2.length < 17592186044416 then (if x3_2.size + t345.size ≤ 9223372036854775807 then ((sexp_Depth.f k2 ((rd_T51 l0 x6_2).f0) ((rd_T51 l0 x6_2).f1) ((rd_T51 l0 x6_2).f2) ((rd_T51 l0 x6_2).f3)).bind fun t357 => (alidadelaw13_SexpBack.l0 k2 l0 (x3_2 ++ t345) (x4_2 ++ [(x3_2.size : Int)]) (mx x5_2 t357) (wrap64 (x6_2 + 1)))) else (none)) else (none))))) else (if t345.toList = ([] : List UInt8) then (some true) else (none))) = some r := H
                have A16 := Aside0.mk A160
                clear A160
                by_cases c17 : t347 = true
                · subst c17
                  have H1 : (if t345.toList = ([] : List UInt8) then (none) else (if (wrap64 ((x3_2.size : Int) + (t345.size : Int))) > 60000 then (some true) else (if x6_2 > 0 then (if x3_2.size + 1 ≤ 9223372036854775807 then (if x4_2.length < 17592186044416 then (if (x3_2 ++ (⟨#[32]⟩ : ByteArray)).size + t345.size ≤ 9223372036854775807 then ((sexp_Depth.f k2 ((rd_T51 l0 x6_2).f0) ((rd_T51 l0 x6_2).f1) ((rd_T51 l0 x6_2).f2) ((rd_T51 l0 x6_2).f3)).bind fun t352 => (alidadelaw13_SexpBack.l0 k2 l0 ((x3_2 ++ (⟨#[32]⟩ : ByteArray)) ++ t345) (x4_2 ++ [((x3_2 ++ (⟨#[32]⟩ : ByteArray)).size : Int)]) (mx x5_2 t352) (wrap64 (x6_2 + 1)))) else (none)) else (none)) else (none)) else (if x4_2.length < 17592186044416 then (if x3_2.size + t345.size ≤ 9223372036854775807 then ((sexp_Depth.f k2 ((rd_T51 l0 x6_2).f0) ((rd_T51 l0 x6_2).f1) ((rd_T51 l0 x6_2).f2) ((rd_T51 l0 x6_2).f3)).bind fun t357 => (alidadelaw13_SexpBack.l0 k2 l0 (x3_2 ++ t345) (x4_2 ++ [(x3_2.size : Int)]) (mx x5_2 t357) (wrap64 (x6_2 + 1)))) else (none)) else (none))))) = some r := by rw [if_pos rfl] at H; exact H
                  clear H
                  have H := H1
                  clear H1
                  by_cases c18 : t345.toList = ([] : List UInt8)
                  · rw [if_pos c18] at H
                    exact absurd H (by simp)
                  · rw [if_neg c18] at H
                    have c18b0 : (t345.toList == ([] : List UInt8)) = false := beq_eq_false_iff_ne.mpr c18
                    have c18b1 : (t345.toList != ([] : List UInt8)) = true := bne_iff_ne.mpr c18
                    by_cases c19 : (wrap64 ((x3_2.size : Int) + (t345.size : Int))) > 60000
                    · rw [if_pos c19] at H
                      have c19b0 : decide (60000 < (wrap64 ((x3_2.size : Int) + (t345.size : Int)))) = true := decide_eq_true c19
                      clear c19
                      obtain rfl := Option.some.inj H
                      have p344 : 0 ≤ (x6_2 : Int) := of_decide_eq_true (by first | (with_reducible assumption) | assumption)
                      have q344 : x6_2 < (l0.length : Int) := of_decide_eq_true (by first | (with_reducible assumption) | assumption)
                      obtain ⟨ad344, A344_3, c344_3, e344, hx344_0, hx344_1, hx344_2, hx344_3, hl344_3, hi344_3⟩ := at_T51 HR0.out x6_2 p344 q344
                      cases e344
                      replace hx344_0 := (HB.out.cell (World.block_lt_of_cell? w _ hx344_0)).trans hx344_0
                      replace hx344_1 := (HB.out.cell (World.block_lt_of_cell? w _ hx344_1)).trans hx344_1
                      replace hx344_2 := (HB.out.cell (World.block_lt_of_cell? w _ hx344_2)).trans hx344_2
                      replace hx344_3 := (HB.out.cell (World.block_lt_of_cell? w _ hx344_3)).trans hx344_3
                      have HR344_3 := Aside0.mk hi344_3
                      have HC344_3 := Aside0.mk hl344_3
                      clear hi344_3 hl344_3
                      replace p344 := eq_true p344
                      replace q344 := eq_true q344
                      go_wp2_with (first | ((with_reducible refine gate_callee (f := 37) rfl ?_); refine goesL_ (some 35) rfl rfl Try.func37 (by kernel_rfl) rfl #[.agg #[.int .u8 ((rd_T51 l0 x6_2).f0), .int .i64 ((rd_T51 l0 x6_2).f1), .string ((rd_T51 l0 x6_2).f2), .slice A344_3 ((rd_T51 l0 x6_2).f3).length c344_3]] rfl (by (try simp only [List.map_toArray, List.map_cons, List.map_nil]); first | done | rfl | (simp only [List.length_drop, List.length_take]; rfl)) ?_; (with_reducible refine (sexp_Show.calls k2 ((rd_T51 l0 x6_2).f0) ((rd_T51 l0 x6_2).f1) ((rd_T51 l0 x6_2).f2) _ _ ((rd_T51 l0 x6_2).f3) t345 _ ?side1 ?side2 A15.out).mono ?_); (case side1 => repeat (first | exact (Kd.C_below HR344_3.out HB.out) | (with_reducible refine Kd.C_alloc ?_ _) | (with_reducible refine Kd.C_drewN ?_ _) | (with_reducible refine Kd.C_drew ?_))); (case side2 => exact HC344_3.out); rintro e w20 ⟨rfl, hb⟩; refine ⟨_, rfl, ?_⟩; have n0_ := Aside0.mk (Kd.R_below (by (with_reducible repeat (first | apply Kd.R_alloc | apply Kd.R_drewN | apply Kd.R_drew)); exact HO_4.out) hb); have n1_ := Aside0.mk (below_step (by repeat (first | (with_reducible first | exact HB.out | apply below_alloc | apply pw_below_drewN | apply below_drew1) | exact HB.out)) hb); clear HO_4; clear HB; have HO_4 := n0_; have HB := n1_; clear n0_ n1_; (try clear hb); (try clear hb2); (try clear hk); (try clear hi); clear HO_4; have p346 : 0 ≤ (x6_2 : Int) := of_decide_eq_true (by first | (with_reducible assumption) | assumption); have q346 : x6_2 < (l0.length : Int) := of_decide_eq_true (by first | (with_reducible assumption) | assumption); obtain ⟨ad346, A346_3, c346_3, e346, hx346_0, hx346_1, hx346_2, hx346_3, hl346_3, hi346_3⟩ := at_T51 HR0.out x6_2 p346 q346; obtain rfl : ad344 = ad346 := (by injection e346); replace hx346_0 := (HB.out.cell (World.block_lt_of_cell? w _ hx346_0)).trans hx346_0; replace hx346_1 := (HB.out.cell (World.block_lt_of_cell? w _ hx346_1)).trans hx346_1; replace hx346_2 := (HB.out.cell (World.block_lt_of_cell? w _ hx346_2)).trans hx346_2; replace hx346_3 := (HB.out.cell (World.block_lt_of_cell? w _ hx346_3)).trans hx346_3; have HR346_3 := Aside0.mk hi346_3; have HC346_3 := Aside0.mk hl346_3; clear hi346_3 hl346_3; replace p346 := eq_true p346; replace q346 := eq_true q346) | ((with_reducible refine gate_callee (f := 24) rfl ?_); refine goesL_ (some 40) rfl rfl Try.func24 (by kernel_rfl) rfl #[.agg #[.int .u8 ((rd_T51 l0 x6_2).f0), .int .i64 ((rd_T51 l0 x6_2).f1), .string ((rd_T51 l0 x6_2).f2), .slice A346_3 ((rd_T51 l0 x6_2).f3).length c346_3]] rfl (by (try simp only [List.map_toArray, List.map_cons, List.map_nil]); first | done | rfl | (simp only [List.length_drop, List.length_take]; rfl)) ?_; (with_reducible refine (sexp_May.calls k2 ((rd_T51 l0 x6_2).f0) ((rd_T51 l0 x6_2).f1) ((rd_T51 l0 x6_2).f2) _ _ ((rd_T51 l0 x6_2).f3) true _ ?side1 ?side2 A16.out).mono ?_); (case side1 => repeat (first | exact (Kd.C_below HR346_3.out HB.out) | (with_reducible refine Kd.C_alloc ?_ _) | (with_reducible refine Kd.C_drewN ?_ _) | (with_reducible refine Kd.C_drew ?_))); (case side2 => exact HC346_3.out); rintro e w21 ⟨rfl, hb⟩; refine ⟨_, rfl, ?_⟩; have n0_ := Aside0.mk (below_step (by repeat (first | (with_reducible first | exact HB.out | apply below_alloc | apply pw_below_drewN | apply below_drew1) | exact HB.out)) hb); clear HB; have HB := n0_; clear n0_; (try clear hb); (try clear hb2); (try clear hk); (try clear hi)))
                      go_ret
                      exact ⟨by first | rfl | (simp [errW_none, errW_some] <;> rfl) | (simp [*, errW_none, errW_some] <;> rfl), by repeat (first | (with_reducible first | exact HB.out | apply below_alloc | apply pw_below_drewN | apply below_drew1) | exact HB.out)⟩
                    · rw [if_neg c19] at H
                      have c19b0 : decide (60000 < (wrap64 ((x3_2.size : Int) + (t345.size : Int)))) = false := decide_eq_false c19
                      clear c19
                      by_cases c22 : x6_2 > 0
                      · rw [if_pos c22] at H
                        have c22b0 : decide (0 < x6_2) = true := decide_eq_true c22
                        clear c22
                        by_cases c23 : x3_2.size + 1 ≤ 9223372036854775807
                        · rw [if_pos c23] at H
                          have c23b0 := eq_true c23
                          have c23b1 : decide (x3_2.size + 1 ≤ 9223372036854775807) = true := decide_eq_true c23
                          try have c23b2 : (9223372036854775807 < x3_2.size + 1) = False := eq_false (Nat.not_lt.2 c23)
                          by_cases c24 : x4_2.length < 17592186044416
                          · rw [if_pos c24] at H
                            have LMc24 := Aside0.mk c24
                            clear c24
                            obtain ⟨y348, hy348⟩ : ∃ y_ : List Int, y_ = (x4_2 ++ [((x3_2 ++ (⟨#[32]⟩ : ByteArray)).size : Int)]) := ⟨_, rfl⟩
                            replace H : (if (x3_2 ++ (⟨#[32]⟩ : ByteArray)).size + t345.size ≤ 9223372036854775807 then ((sexp_Depth.f k2 ((rd_T51 l0 x6_2).f0) ((rd_T51 l0 x6_2).f1) ((rd_T51 l0 x6_2).f2) ((rd_T51 l0 x6_2).f3)).bind fun t352 => (alidadelaw13_SexpBack.l0 k2 l0 ((x3_2 ++ (⟨#[32]⟩ : ByteArray)) ++ t345) y348 (mx x5_2 t352) (wrap64 (x6_2 + 1)))) else (none)) = some r := by first | (rw [hy348]; with_reducible exact H) | (have H2_ := (Option.bind_some _ _).symm.trans H; rw [hy348]; with_reducible exact H2_) | (have H2_ := (Option.bind_some _ _).symm.trans H; with_reducible exact H2_) | with_reducible exact H | (rw [hy348]; exact H) | exact H
                            have Ny348 := Aside0.mk hy348
                            clear hy348
                            by_cases c25 : (x3_2 ++ (⟨#[32]⟩ : ByteArray)).size + t345.size ≤ 9223372036854775807
                            · rw [if_pos c25] at H
                              have c25b0 := eq_true c25
                              have c25b1 : decide ((x3_2 ++ (⟨#[32]⟩ : ByteArray)).size + t345.size ≤ 9223372036854775807) = true := decide_eq_true c25
                              try have c25b2 : (9223372036854775807 < (x3_2 ++ (⟨#[32]⟩ : ByteArray)).size + t345.size) = False := eq_false (Nat.not_lt.2 c25)
                              try (have c25b3 := c25b2; simp only [ByteArray.size_append] at c25b3)
                              replace H := Option.bind_eq_some_iff.mp H
                              obtain ⟨t352, A260, H⟩ := H
                              replace H : (alidadelaw13_SexpBack.l0 k2 l0 ((x3_2 ++ (⟨#[32]⟩ : ByteArray)) ++ t345) y348 (mx x5_2 t352) (wrap64 (x6_2 + 1))) = some r := H
                              have A26 := Aside0.mk A260
                              clear A260
                              obtain ⟨ji27, hji27⟩ : ∃ j_ : Int, (mx x5_2 t352) = j_ := ⟨_, rfl⟩
                              replace H : (alidadelaw13_SexpBack.l0 k2 l0 ((x3_2 ++ (⟨#[32]⟩ : ByteArray)) ++ t345) y348 ji27 (wrap64 (x6_2 + 1))) = some r := by first | (rw [hji27] at H; exact H) | (simp only [hji27] at H ⊢; exact H)
                              (try rw [hji27] at A15)
                              (try rw [hji27] at A16)
                              (try rw [hji27] at A26)
                              have hji27_ : (if x5_2 < t352 then t352 else x5_2) = ji27 := hji27
                              have H' := Aside0.mk H
                              clear H
                              have p344 : 0 ≤ (x6_2 : Int) := of_decide_eq_true (by first | (with_reducible assumption) | assumption)
                              have q344 : x6_2 < (l0.length : Int) := of_decide_eq_true (by first | (with_reducible assumption) | assumption)
                              obtain ⟨ad344, A344_3, c344_3, e344, hx344_0, hx344_1, hx344_2, hx344_3, hl344_3, hi344_3⟩ := at_T51 HR0.out x6_2 p344 q344
                              cases e344
                              replace hx344_0 := (HB.out.cell (World.block_lt_of_cell? w _ hx344_0)).trans hx344_0
                              replace hx344_1 := (HB.out.cell (World.block_lt_of_cell? w _ hx344_1)).trans hx344_1
                              replace hx344_2 := (HB.out.cell (World.block_lt_of_cell? w _ hx344_2)).trans hx344_2
                              replace hx344_3 := (HB.out.cell (World.block_lt_of_cell? w _ hx344_3)).trans hx344_3
                              have HR344_3 := Aside0.mk hi344_3
                              have HC344_3 := Aside0.mk hl344_3
                              clear hi344_3 hl344_3
                              replace p344 := eq_true p344
                              replace q344 := eq_true q344
                              go_wp2_with (first | ((with_reducible refine gate_callee (f := 37) rfl ?_); refine goesL_ (some 35) rfl rfl Try.func37 (by kernel_rfl) rfl #[.agg #[.int .u8 ((rd_T51 l0 x6_2).f0), .int .i64 ((rd_T51 l0 x6_2).f1), .string ((rd_T51 l0 x6_2).f2), .slice A344_3 ((rd_T51 l0 x6_2).f3).length c344_3]] rfl (by (try simp only [List.map_toArray, List.map_cons, List.map_nil]); first | done | rfl | (simp only [List.length_drop, List.length_take]; rfl)) ?_; (with_reducible refine (sexp_Show.calls k2 ((rd_T51 l0 x6_2).f0) ((rd_T51 l0 x6_2).f1) ((rd_T51 l0 x6_2).f2) _ _ ((rd_T51 l0 x6_2).f3) t345 _ ?side1 ?side2 A15.out).mono ?_); (case side1 => repeat (first | exact (Kd.C_below HR344_3.out HB.out) | (with_reducible refine Kd.C_alloc ?_ _) | (with_reducible refine Kd.C_drewN ?_ _) | (with_reducible refine Kd.C_drew ?_))); (case side2 => exact HC344_3.out); rintro e w28 ⟨rfl, hb⟩; refine ⟨_, rfl, ?_⟩; have n0_ := Aside0.mk (Kd.R_below (by (with_reducible repeat (first | apply Kd.R_alloc | apply Kd.R_drewN | apply Kd.R_drew)); exact HO_4.out) hb); have n1_ := Aside0.mk (below_step (by repeat (first | (with_reducible first | exact HB.out | apply below_alloc | apply pw_below_drewN | apply below_drew1) | exact HB.out)) hb); clear HO_4; clear HB; have HO_4 := n0_; have HB := n1_; clear n0_ n1_; (try clear hb); (try clear hb2); (try clear hk); (try clear hi); have p346 : 0 ≤ (x6_2 : Int) := of_decide_eq_true (by first | (with_reducible assumption) | assumption); have q346 : x6_2 < (l0.length : Int) := of_decide_eq_true (by first | (with_reducible assumption) | assumption); obtain ⟨ad346, A346_3, c346_3, e346, hx346_0, hx346_1, hx346_2, hx346_3, hl346_3, hi346_3⟩ := at_T51 HR0.out x6_2 p346 q346; obtain rfl : ad344 = ad346 := (by injection e346); replace hx346_0 := (HB.out.cell (World.block_lt_of_cell? w _ hx346_0)).trans hx346_0; replace hx346_1 := (HB.out.cell (World.block_lt_of_cell? w _ hx346_1)).trans hx346_1; replace hx346_2 := (HB.out.cell (World.block_lt_of_cell? w _ hx346_2)).trans hx346_2; replace hx346_3 := (HB.out.cell (World.block_lt_of_cell? w _ hx346_3)).trans hx346_3; have HR346_3 := Aside0.mk hi346_3; have HC346_3 := Aside0.mk hl346_3; clear hi346_3 hl346_3; replace p346 := eq_true p346; replace q346 := eq_true q346) | ((with_reducible refine gate_callee (f := 24) rfl ?_); refine goesL_ (some 40) rfl rfl Try.func24 (by kernel_rfl) rfl #[.agg #[.int .u8 ((rd_T51 l0 x6_2).f0), .int .i64 ((rd_T51 l0 x6_2).f1), .string ((rd_T51 l0 x6_2).f2), .slice A346_3 ((rd_T51 l0 x6_2).f3).length c346_3]] rfl (by (try simp only [List.map_toArray, List.map_cons, List.map_nil]); first | done | rfl | (simp only [List.length_drop, List.length_take]; rfl)) ?_; (with_reducible refine (sexp_May.calls k2 ((rd_T51 l0 x6_2).f0) ((rd_T51 l0 x6_2).f1) ((rd_T51 l0 x6_2).f2) _ _ ((rd_T51 l0 x6_2).f3) true _ ?side1 ?side2 A16.out).mono ?_); (case side1 => repeat (first | exact (Kd.C_below HR346_3.out HB.out) | (with_reducible refine Kd.C_alloc ?_ _) | (with_reducible refine Kd.C_drewN ?_ _) | (with_reducible refine Kd.C_drew ?_))); (case side2 => exact HC346_3.out); rintro e w29 ⟨rfl, hb⟩; refine ⟨_, rfl, ?_⟩; have n0_ := Aside0.mk (Kd.R_below (by (with_reducible repeat (first | apply Kd.R_alloc | apply Kd.R_drewN | apply Kd.R_drew)); exact HO_4.out) hb); have n1_ := Aside0.mk (below_step (by repeat (first | (with_reducible first | exact HB.out | apply below_alloc | apply pw_below_drewN | apply below_drew1) | exact HB.out)) hb); clear HO_4; clear HB; have HO_4 := n0_; have HB := n1_; clear n0_ n1_; (try clear hb); (try clear hb2); (try clear hk); (try clear hi)) | ((with_reducible refine gate_builtin (b := .append) (xs := #[.tmp 58, .tmp 61]) rfl ?_); (try (refine gate_guard (by rfl) ?_; dsimp only)); at_builtin; refine Kd.R_append (Kd.int .i64) (w0 := w) w.heap.size rfl (.tmp 58) (.tmp 61) 75 3 (.int .i64 0) 8 rfl Try.underlying75 info3 rfl (by decide) (by omega) u4 x4_2 ((x3_2.size : Int) + 1) [.int .i64 ((x3_2.size : Int) + 1)] (fun _ => True) (fun _ => False) rfl rfl ?aP (fun _ hk => hk.elim) ?aF ?aO ?aB ?aS ?aL ?_; (case aP => exact rfl); (case aB => exact (by repeat (first | (with_reducible first | exact HB.out | apply below_alloc | apply pw_below_drewN | apply below_drew1) | exact HB.out))); (case aF => exact (fun _ _ => trivial)); (case aO => exact (by (with_reducible repeat (first | apply Kd.R_alloc | apply Kd.R_drewN | apply Kd.R_drew)); exact HO_4.out)); (case aS => exact (below_size (by repeat (first | (with_reducible first | exact HB.out | apply below_alloc | apply pw_below_drewN | apply below_drew1) | exact HB.out)))); (case aL => have := LMc24.out; omega); intro v349 w30 ho hb hg hat; rw [← strsz_ x3_2, ← Ny348.out] at ho; have n0_ := Aside0.mk (hb); have n1_ := Aside0.mk (ho); clear HB; clear HO_4; have HB := n0_; have HO350 := n1_; clear n0_ n1_; clear ho hb hg hat; have p351 : 0 ≤ (x6_2 : Int) := of_decide_eq_true (by first | (with_reducible assumption) | assumption); have q351 : x6_2 < (l0.length : Int) := of_decide_eq_true (by first | (with_reducible assumption) | assumption); obtain ⟨ad351, A351_3, c351_3, e351, hx351_0, hx351_1, hx351_2, hx351_3, hl351_3, hi351_3⟩ := at_T51 HR0.out x6_2 p351 q351; obtain rfl : ad344 = ad351 := (by injection e351); replace hx351_0 := (HB.out.cell (World.block_lt_of_cell? w _ hx351_0)).trans hx351_0; replace hx351_1 := (HB.out.cell (World.block_lt_of_cell? w _ hx351_1)).trans hx351_1; replace hx351_2 := (HB.out.cell (World.block_lt_of_cell? w _ hx351_2)).trans hx351_2; replace hx351_3 := (HB.out.cell (World.block_lt_of_cell? w _ hx351_3)).trans hx351_3; have HR351_3 := Aside0.mk hi351_3; have HC351_3 := Aside0.mk hl351_3; clear hi351_3 hl351_3; replace p351 := eq_true p351; replace q351 := eq_true q351) | ((with_reducible refine gate_callee (f := 25) rfl ?_); refine goesL_ (some 71) rfl rfl Try.func25 (by kernel_rfl) rfl #[.agg #[.int .u8 ((rd_T51 l0 x6_2).f0), .int .i64 ((rd_T51 l0 x6_2).f1), .string ((rd_T51 l0 x6_2).f2), .slice A351_3 ((rd_T51 l0 x6_2).f3).length c351_3]] rfl (by (try simp only [List.map_toArray, List.map_cons, List.map_nil]); first | done | rfl | (simp only [List.length_drop, List.length_take]; rfl)) ?_; (with_reducible refine (sexp_Depth.calls k2 ((rd_T51 l0 x6_2).f0) ((rd_T51 l0 x6_2).f1) ((rd_T51 l0 x6_2).f2) _ _ ((rd_T51 l0 x6_2).f3) t352 _ ?side1 ?side2 A26.out).mono ?_); (case side1 => repeat (first | exact (Kd.C_below HR351_3.out HB.out) | (with_reducible refine Kd.C_alloc ?_ _) | (with_reducible refine Kd.C_drewN ?_ _) | (with_reducible refine Kd.C_drew ?_))); (case side2 => exact HC351_3.out); rintro e w31 ⟨rfl, hb⟩; refine ⟨_, rfl, ?_⟩; have n0_ := Aside0.mk (Kd.R_below (by (with_reducible repeat (first | apply Kd.R_alloc | apply Kd.R_drewN | apply Kd.R_drew)); exact HO350.out) hb); have n1_ := Aside0.mk (below_step (by repeat (first | (with_reducible first | exact HB.out | apply below_alloc | apply pw_below_drewN | apply below_drew1) | exact HB.out)) hb); clear HO350; clear HB; have HO350 := n0_; have HB := n1_; clear n0_ n1_; (try clear hb); (try clear hb2); (try clear hk); (try clear hi)))
                              go_roundg k2
                              case measure => have := HJ1.out; have := HK2.out; omega
                              case rel => exact ⟨((x3_2 ++ (⟨#[32]⟩ : ByteArray)) ++ t345), (y348), (ji27), (wrap64 (x6_2 + 1)), (by first | rfl | (simp; done) | (simp [*]; done)), (by first | rfl | (simp; done) | (simp only [← hji27] <;> (first | rfl | simp)) | (simp [*]; done)), (by first | rfl | (simp; done) | (simp [*]; done)), H', ⟨by have := HJ1.out; have := HK2.out; omega⟩, ⟨by (with_reducible repeat (first | apply Kd.R_alloc | apply Kd.R_drewN | apply Kd.R_drew)); exact HO350.out⟩, ⟨by repeat (first | (with_reducible first | exact HB.out | apply below_alloc | apply pw_below_drewN | apply below_drew1) | exact HB.out)⟩⟩
                            · rw [if_neg c25] at H
                              exact absurd H (by simp)
                          · rw [if_neg c24] at H
                            exact absurd H (by simp)
                        · rw [if_neg c23] at H
                          exact absurd H (by simp)
                      · rw [if_neg c22] at H
                        have c22b0 : decide (0 < x6_2) = false := decide_eq_false c22
                        clear c22
                        by_cases c32 : x4_2.length < 17592186044416
                        · rw [if_pos c32] at H
                          have LMc32 := Aside0.mk c32
                          clear c32
                          obtain ⟨y353, hy353⟩ : ∃ y_ : List Int, y_ = (x4_2 ++ [(x3_2.size : Int)]) := ⟨_, rfl⟩
                          replace H : (if x3_2.size + t345.size ≤ 9223372036854775807 then ((sexp_Depth.f k2 ((rd_T51 l0 x6_2).f0) ((rd_T51 l0 x6_2).f1) ((rd_T51 l0 x6_2).f2) ((rd_T51 l0 x6_2).f3)).bind fun t357 => (alidadelaw13_SexpBack.l0 k2 l0 (x3_2 ++ t345) y353 (mx x5_2 t357) (wrap64 (x6_2 + 1)))) else (none)) = some r := by first | (rw [hy353]; with_reducible exact H) | (have H2_ := (Option.bind_some _ _).symm.trans H; rw [hy353]; with_reducible exact H2_) | (have H2_ := (Option.bind_some _ _).symm.trans H; with_reducible exact H2_) | with_reducible exact H | (rw [hy353]; exact H) | exact H
                          have Ny353 := Aside0.mk hy353
                          clear hy353
                          by_cases c33 : x3_2.size + t345.size ≤ 9223372036854775807
                          · rw [if_pos c33] at H
                            have c33b0 := eq_true c33
                            have c33b1 : decide (x3_2.size + t345.size ≤ 9223372036854775807) = true := decide_eq_true c33
                            try have c33b2 : (9223372036854775807 < x3_2.size + t345.size) = False := eq_false (Nat.not_lt.2 c33)
                            have c19b9 : decide (60000 < ((x3_2.size : Int) + (t345.size : Int))) = false := by
                              have e_ : wrap64 ((x3_2.size : Int) + (t345.size : Int)) = (x3_2.size : Int) + (t345.size : Int) := strw_ c33
                              rw [e_] at c19b0; exact c19b0
                            replace H := Option.bind_eq_some_iff.mp H
                            obtain ⟨t357, A340, H⟩ := H
                            replace H : (alidadelaw13_SexpBack.l0 k2 l0 (x3_2 ++ t345) y353 (mx x5_2 t357) (wrap64 (x6_2 + 1))) = some r := H
                            have A34 := Aside0.mk A340
                            clear A340
                            obtain ⟨ji35, hji35⟩ : ∃ j_ : Int, (mx x5_2 t357) = j_ := ⟨_, rfl⟩
                            replace H : (alidadelaw13_SexpBack.l0 k2 l0 (x3_2 ++ t345) y353 ji35 (wrap64 (x6_2 + 1))) = some r := by first | (rw [hji35] at H; exact H) | (simp only [hji35] at H ⊢; exact H)
                            (try rw [hji35] at A15)
                            (try rw [hji35] at A16)
                            (try rw [hji35] at A34)
                            have hji35_ : (if x5_2 < t357 then t357 else x5_2) = ji35 := hji35
                            have H' := Aside0.mk H
                            clear H
                            have p344 : 0 ≤ (x6_2 : Int) := of_decide_eq_true (by first | (with_reducible assumption) | assumption)
                            have q344 : x6_2 < (l0.length : Int) := of_decide_eq_true (by first | (with_reducible assumption) | assumption)
                            obtain ⟨ad344, A344_3, c344_3, e344, hx344_0, hx344_1, hx344_2, hx344_3, hl344_3, hi344_3⟩ := at_T51 HR0.out x6_2 p344 q344
                            cases e344
                            replace hx344_0 := (HB.out.cell (World.block_lt_of_cell? w _ hx344_0)).trans hx344_0
                            replace hx344_1 := (HB.out.cell (World.block_lt_of_cell? w _ hx344_1)).trans hx344_1
                            replace hx344_2 := (HB.out.cell (World.block_lt_of_cell? w _ hx344_2)).trans hx344_2
                            replace hx344_3 := (HB.out.cell (World.block_lt_of_cell? w _ hx344_3)).trans hx344_3
                            have HR344_3 := Aside0.mk hi344_3
                            have HC344_3 := Aside0.mk hl344_3
                            clear hi344_3 hl344_3
                            replace p344 := eq_true p344
                            replace q344 := eq_true q344
                            go_wp2_with (first | ((with_reducible refine gate_callee (f := 37) rfl ?_); refine goesL_ (some 35) rfl rfl Try.func37 (by kernel_rfl) rfl #[.agg #[.int .u8 ((rd_T51 l0 x6_2).f0), .int .i64 ((rd_T51 l0 x6_2).f1), .string ((rd_T51 l0 x6_2).f2), .slice A344_3 ((rd_T51 l0 x6_2).f3).length c344_3]] rfl (by (try simp only [List.map_toArray, List.map_cons, List.map_nil]); first | done | rfl | (simp only [List.length_drop, List.length_take]; rfl)) ?_; (with_reducible refine (sexp_Show.calls k2 ((rd_T51 l0 x6_2).f0) ((rd_T51 l0 x6_2).f1) ((rd_T51 l0 x6_2).f2) _ _ ((rd_T51 l0 x6_2).f3) t345 _ ?side1 ?side2 A15.out).mono ?_); (case side1 => repeat (first | exact (Kd.C_below HR344_3.out HB.out) | (with_reducible refine Kd.C_alloc ?_ _) | (with_reducible refine Kd.C_drewN ?_ _) | (with_reducible refine Kd.C_drew ?_))); (case side2 => exact HC344_3.out); rintro e w36 ⟨rfl, hb⟩; refine ⟨_, rfl, ?_⟩; have n0_ := Aside0.mk (Kd.R_below (by (with_reducible repeat (first | apply Kd.R_alloc | apply Kd.R_drewN | apply Kd.R_drew)); exact HO_4.out) hb); have n1_ := Aside0.mk (below_step (by repeat (first | (with_reducible first | exact HB.out | apply below_alloc | apply pw_below_drewN | apply below_drew1) | exact HB.out)) hb); clear HO_4; clear HB; have HO_4 := n0_; have HB := n1_; clear n0_ n1_; (try clear hb); (try clear hb2); (try clear hk); (try clear hi); have p346 : 0 ≤ (x6_2 : Int) := of_decide_eq_true (by first | (with_reducible assumption) | assumption); have q346 : x6_2 < (l0.length : Int) := of_decide_eq_true (by first | (with_reducible assumption) | assumption); obtain ⟨ad346, A346_3, c346_3, e346, hx346_0, hx346_1, hx346_2, hx346_3, hl346_3, hi346_3⟩ := at_T51 HR0.out x6_2 p346 q346; obtain rfl : ad344 = ad346 := (by injection e346); replace hx346_0 := (HB.out.cell (World.block_lt_of_cell? w _ hx346_0)).trans hx346_0; replace hx346_1 := (HB.out.cell (World.block_lt_of_cell? w _ hx346_1)).trans hx346_1; replace hx346_2 := (HB.out.cell (World.block_lt_of_cell? w _ hx346_2)).trans hx346_2; replace hx346_3 := (HB.out.cell (World.block_lt_of_cell? w _ hx346_3)).trans hx346_3; have HR346_3 := Aside0.mk hi346_3; have HC346_3 := Aside0.mk hl346_3; clear hi346_3 hl346_3; replace p346 := eq_true p346; replace q346 := eq_true q346) | ((with_reducible refine gate_callee (f := 24) rfl ?_); refine goesL_ (some 40) rfl rfl Try.func24 (by kernel_rfl) rfl #[.agg #[.int .u8 ((rd_T51 l0 x6_2).f0), .int .i64 ((rd_T51 l0 x6_2).f1), .string ((rd_T51 l0 x6_2).f2), .slice A346_3 ((rd_T51 l0 x6_2).f3).length c346_3]] rfl (by (try simp only [List.map_toArray, List.map_cons, List.map_nil]); first | done | rfl | (simp only [List.length_drop, List.length_take]; rfl)) ?_; (with_reducible refine (sexp_May.calls k2 ((rd_T51 l0 x6_2).f0) ((rd_T51 l0 x6_2).f1) ((rd_T51 l0 x6_2).f2) _ _ ((rd_T51 l0 x6_2).f3) true _ ?side1 ?side2 A16.out).mono ?_); (case side1 => repeat (first | exact (Kd.C_below HR346_3.out HB.out) | (with_reducible refine Kd.C_alloc ?_ _) | (with_reducible refine Kd.C_drewN ?_ _) | (with_reducible refine Kd.C_drew ?_))); (case side2 => exact HC346_3.out); rintro e w37 ⟨rfl, hb⟩; refine ⟨_, rfl, ?_⟩; have n0_ := Aside0.mk (Kd.R_below (by (with_reducible repeat (first | apply Kd.R_alloc | apply Kd.R_drewN | apply Kd.R_drew)); exact HO_4.out) hb); have n1_ := Aside0.mk (below_step (by repeat (first | (with_reducible first | exact HB.out | apply below_alloc | apply pw_below_drewN | apply below_drew1) | exact HB.out)) hb); clear HO_4; clear HB; have HO_4 := n0_; have HB := n1_; clear n0_ n1_; (try clear hb); (try clear hb2); (try clear hk); (try clear hi)) | ((with_reducible refine gate_builtin (b := .append) (xs := #[.tmp 58, .tmp 61]) rfl ?_); (try (refine gate_guard (by rfl) ?_; dsimp only)); at_builtin; refine Kd.R_append (Kd.int .i64) (w0 := w) w.heap.size rfl (.tmp 58) (.tmp 61) 75 3 (.int .i64 0) 8 rfl Try.underlying75 info3 rfl (by decide) (by omega) u4 x4_2 (x3_2.size : Int) [.int .i64 (x3_2.size : Int)] (fun _ => True) (fun _ => False) rfl rfl ?aP (fun _ hk => hk.elim) ?aF ?aO ?aB ?aS ?aL ?_; (case aP => exact rfl); (case aB => exact (by repeat (first | (with_reducible first | exact HB.out | apply below_alloc | apply pw_below_drewN | apply below_drew1) | exact HB.out))); (case aF => exact (fun _ _ => trivial)); (case aO => exact (by (with_reducible repeat (first | apply Kd.R_alloc | apply Kd.R_drewN | apply Kd.R_drew)); exact HO_4.out)); (case aS => exact (below_size (by repeat (first | (with_reducible first | exact HB.out | apply below_alloc | apply pw_below_drewN | apply below_drew1) | exact HB.out)))); (case aL => have := LMc32.out; omega); intro v354 w38 ho hb hg hat; rw [← Ny353.out] at ho; have n0_ := Aside0.mk (hb); have n1_ := Aside0.mk (ho); clear HB; clear HO_4; have HB := n0_; have HO355 := n1_; clear n0_ n1_; clear ho hb hg hat; have p356 : 0 ≤ (x6_2 : Int) := of_decide_eq_true (by first | (with_reducible assumption) | assumption); have q356 : x6_2 < (l0.length : Int) := of_decide_eq_true (by first | (with_reducible assumption) | assumption); obtain ⟨ad356, A356_3, c356_3, e356, hx356_0, hx356_1, hx356_2, hx356_3, hl356_3, hi356_3⟩ := at_T51 HR0.out x6_2 p356 q356; obtain rfl : ad344 = ad356 := (by injection e356); replace hx356_0 := (HB.out.cell (World.block_lt_of_cell? w _ hx356_0)).trans hx356_0; replace hx356_1 := (HB.out.cell (World.block_lt_of_cell? w _ hx356_1)).trans hx356_1; replace hx356_2 := (HB.out.cell (World.block_lt_of_cell? w _ hx356_2)).trans hx356_2; replace hx356_3 := (HB.out.cell (World.block_lt_of_cell? w _ hx356_3)).trans hx356_3; have HR356_3 := Aside0.mk hi356_3; have HC356_3 := Aside0.mk hl356_3; clear hi356_3 hl356_3; replace p356 := eq_true p356; replace q356 := eq_true q356) | ((with_reducible refine gate_callee (f := 25) rfl ?_); refine goesL_ (some 71) rfl rfl Try.func25 (by kernel_rfl) rfl #[.agg #[.int .u8 ((rd_T51 l0 x6_2).f0), .int .i64 ((rd_T51 l0 x6_2).f1), .string ((rd_T51 l0 x6_2).f2), .slice A356_3 ((rd_T51 l0 x6_2).f3).length c356_3]] rfl (by (try simp only [List.map_toArray, List.map_cons, List.map_nil]); first | done | rfl | (simp only [List.length_drop, List.length_take]; rfl)) ?_; (with_reducible refine (sexp_Depth.calls k2 ((rd_T51 l0 x6_2).f0) ((rd_T51 l0 x6_2).f1) ((rd_T51 l0 x6_2).f2) _ _ ((rd_T51 l0 x6_2).f3) t357 _ ?side1 ?side2 A34.out).mono ?_); (case side1 => repeat (first | exact (Kd.C_below HR356_3.out HB.out) | (with_reducible refine Kd.C_alloc ?_ _) | (with_reducible refine Kd.C_drewN ?_ _) | (with_reducible refine Kd.C_drew ?_))); (case side2 => exact HC356_3.out); rintro e w39 ⟨rfl, hb⟩; refine ⟨_, rfl, ?_⟩; have n0_ := Aside0.mk (Kd.R_below (by (with_reducible repeat (first | apply Kd.R_alloc | apply Kd.R_drewN | apply Kd.R_drew)); exact HO355.out) hb); have n1_ := Aside0.mk (below_step (by repeat (first | (with_reducible first | exact HB.out | apply below_alloc | apply pw_below_drewN | apply below_drew1) | exact HB.out)) hb); clear HO355; clear HB; have HO355 := n0_; have HB := n1_; clear n0_ n1_; (try clear hb); (try clear hb2); (try clear hk); (try clear hi)))
                            go_roundg k2
                            case measure => have := HJ1.out; have := HK2.out; omega
                            case rel => exact ⟨(x3_2 ++ t345), (y353), (ji35), (wrap64 (x6_2 + 1)), (by first | rfl | (simp; done) | (simp [*]; done)), (by first | rfl | (simp; done) | (simp only [← hji35] <;> (first | rfl | simp)) | (simp [*]; done)), (by first | rfl | (simp; done) | (simp [*]; done)), H', ⟨by have := HJ1.out; have := HK2.out; omega⟩, ⟨by (with_reducible repeat (first | apply Kd.R_alloc | apply Kd.R_drewN | apply Kd.R_drew)); exact HO355.out⟩, ⟨by repeat (first | (with_reducible first | exact HB.out | apply below_alloc | apply pw_below_drewN | apply below_drew1) | exact HB.out)⟩⟩
                          · rw [if_neg c33] at H
                            exact absurd H (by simp)
                        · rw [if_neg c32] at H
                          exact absurd H (by simp)
                · replace c17 := Bool.eq_false_iff.mpr c17
                  subst c17
                  have H1 : (if t345.toList = ([] : List UInt8) then (some true) else (none)) = some r := by rw [if_neg (show ¬ (false = true) by decide)] at H; exact H
                  clear H
                  have H := H1
                  clear H1
                  by_cases c40 : t345.toList = ([] : List UInt8)
                  · rw [if_pos c40] at H
                    have c40b0 : (t345.toList == ([] : List UInt8)) = true := beq_iff_eq.mpr c40
                    have c40b1 : (t345.toList != ([] : List UInt8)) = false := bne_eq_false_iff_eq.mpr c40
                    clear c40
                    obtain rfl := Option.some.inj H
                    have p344 : 0 ≤ (x6_2 : Int) := of_decide_eq_true (by first | (with_reducible assumption) | assumption)
                    have q344 : x6_2 < (l0.length : Int) := of_decide_eq_true (by first | (with_reducible assumption) | assumption)
                    obtain ⟨ad344, A344_3, c344_3, e344, hx344_0, hx344_1, hx344_2, hx344_3, hl344_3, hi344_3⟩ := at_T51 HR0.out x6_2 p344 q344
                    cases e344
                    replace hx344_0 := (HB.out.cell (World.block_lt_of_cell? w _ hx344_0)).trans hx344_0
                    replace hx344_1 := (HB.out.cell (World.block_lt_of_cell? w _ hx344_1)).trans hx344_1
                    replace hx344_2 := (HB.out.cell (World.block_lt_of_cell? w _ hx344_2)).trans hx344_2
                    replace hx344_3 := (HB.out.cell (World.block_lt_of_cell? w _ hx344_3)).trans hx344_3
                    have HR344_3 := Aside0.mk hi344_3
                    have HC344_3 := Aside0.mk hl344_3
                    clear hi344_3 hl344_3
                    replace p344 := eq_true p344
                    replace q344 := eq_true q344
                    go_wp2_with (first | ((with_reducible refine gate_callee (f := 37) rfl ?_); refine goesL_ (some 35) rfl rfl Try.func37 (by kernel_rfl) rfl #[.agg #[.int .u8 ((rd_T51 l0 x6_2).f0), .int .i64 ((rd_T51 l0 x6_2).f1), .string ((rd_T51 l0 x6_2).f2), .slice A344_3 ((rd_T51 l0 x6_2).f3).length c344_3]] rfl (by (try simp only [List.map_toArray, List.map_cons, List.map_nil]); first | done | rfl | (simp only [List.length_drop, List.length_take]; rfl)) ?_; (with_reducible refine (sexp_Show.calls k2 ((rd_T51 l0 x6_2).f0) ((rd_T51 l0 x6_2).f1) ((rd_T51 l0 x6_2).f2) _ _ ((rd_T51 l0 x6_2).f3) t345 _ ?side1 ?side2 A15.out).mono ?_); (case side1 => repeat (first | exact (Kd.C_below HR344_3.out HB.out) | (with_reducible refine Kd.C_alloc ?_ _) | (with_reducible refine Kd.C_drewN ?_ _) | (with_reducible refine Kd.C_drew ?_))); (case side2 => exact HC344_3.out); rintro e w41 ⟨rfl, hb⟩; refine ⟨_, rfl, ?_⟩; have n0_ := Aside0.mk (Kd.R_below (by (with_reducible repeat (first | apply Kd.R_alloc | apply Kd.R_drewN | apply Kd.R_drew)); exact HO_4.out) hb); have n1_ := Aside0.mk (below_step (by repeat (first | (with_reducible first | exact HB.out | apply below_alloc | apply pw_below_drewN | apply below_drew1) | exact HB.out)) hb); clear HO_4; clear HB; have HO_4 := n0_; have HB := n1_; clear n0_ n1_; (try clear hb); (try clear hb2); (try clear hk); (try clear hi); clear HO_4; have p346 : 0 ≤ (x6_2 : Int) := of_decide_eq_true (by first | (with_reducible assumption) | assumption); have q346 : x6_2 < (l0.length : Int) := of_decide_eq_true (by first | (with_reducible assumption) | assumption); obtain ⟨ad346, A346_3, c346_3, e346, hx346_0, hx346_1, hx346_2, hx346_3, hl346_3, hi346_3⟩ := at_T51 HR0.out x6_2 p346 q346; obtain rfl : ad344 = ad346 := (by injection e346); replace hx346_0 := (HB.out.cell (World.block_lt_of_cell? w _ hx346_0)).trans hx346_0; replace hx346_1 := (HB.out.cell (World.block_lt_of_cell? w _ hx346_1)).trans hx346_1; replace hx346_2 := (HB.out.cell (World.block_lt_of_cell? w _ hx346_2)).trans hx346_2; replace hx346_3 := (HB.out.cell (World.block_lt_of_cell? w _ hx346_3)).trans hx346_3; have HR346_3 := Aside0.mk hi346_3; have HC346_3 := Aside0.mk hl346_3; clear hi346_3 hl346_3; replace p346 := eq_true p346; replace q346 := eq_true q346) | ((with_reducible refine gate_callee (f := 24) rfl ?_); refine goesL_ (some 40) rfl rfl Try.func24 (by kernel_rfl) rfl #[.agg #[.int .u8 ((rd_T51 l0 x6_2).f0), .int .i64 ((rd_T51 l0 x6_2).f1), .string ((rd_T51 l0 x6_2).f2), .slice A346_3 ((rd_T51 l0 x6_2).f3).length c346_3]] rfl (by (try simp only [List.map_toArray, List.map_cons, List.map_nil]); first | done | rfl | (simp only [List.length_drop, List.length_take]; rfl)) ?_; (with_reducible refine (sexp_May.calls k2 ((rd_T51 l0 x6_2).f0) ((rd_T51 l0 x6_2).f1) ((rd_T51 l0 x6_2).f2) _ _ ((rd_T51 l0 x6_2).f3) false _ ?side1 ?side2 A16.out).mono ?_); (case side1 => repeat (first | exact (Kd.C_below HR346_3.out HB.out) | (with_reducible refine Kd.C_alloc ?_ _) | (with_reducible refine Kd.C_drewN ?_ _) | (with_reducible refine Kd.C_drew ?_))); (case side2 => exact HC346_3.out); rintro e w42 ⟨rfl, hb⟩; refine ⟨_, rfl, ?_⟩; have n0_ := Aside0.mk (below_step (by repeat (first | (with_reducible first | exact HB.out | apply below_alloc | apply pw_below_drewN | apply below_drew1) | exact HB.out)) hb); clear HB; have HB := n0_; clear n0_; (try clear hb); (try clear hb2); (try clear hk); (try clear hi)))
                    go_ret
                    exact ⟨by first | rfl | (simp [errW_none, errW_some] <;> rfl) | (simp [*, errW_none, errW_some] <;> rfl), by repeat (first | (with_reducible first | exact HB.out | apply below_alloc | apply pw_below_drewN | apply below_drew1) | exact HB.out)⟩
                  · rw [if_neg c40] at H
                    exact absurd H (by simp)
              · rw [if_neg c14] at H
                exact absurd H (by simp)
            · rw [if_neg c13] at H
              have c13b0 : decide (x6_2 < (l0.length : Int)) = false := decide_eq_false c13
              clear c13
              replace H := Option.bind_eq_some_iff.mp H
              obtain ⟨⟨t358, t359, t360⟩, A430, H⟩ := H
              replace H : (if t360 = 0 then (if t359 = 0 then (alidadelaw13_SexpBack.j2 k2 l0 x4_2 t358 ((t358.length : Int) != (l0.length : Int))) else (alidadelaw13_SexpBack.j2 k2 l0 x4_2 t358 true)) else (alidadelaw13_SexpBack.j2 k2 l0 x4_2 t358 true)) = some r := H
              have A43 := Aside0.mk A430
              clear A430
              have HC44 := Aside0.mk H
              clear H
              go_upto_region 20 with (first | ((with_reducible refine gate_callee (f := 23) rfl ?_); refine goesL_ (some 76) rfl rfl Try.func23 (by kernel_rfl) rfl #[.string x3_2, .int .i64 x5_2] rfl (by (try simp only [List.map_toArray, List.map_cons, List.map_nil]); first | done | rfl | (simp only [List.length_drop, List.length_take]; rfl)) ?_; (with_reducible refine (alidadelaw13_read.calls k2 x3_2 x5_2 t358 t359 t360 _ A43.out).mono ?_); rintro e w45 ⟨v361, rfl, ho0, hb⟩; refine ⟨_, rfl, ?_⟩; have n0_ := Aside0.mk (Kd.R_below (by (with_reducible repeat (first | apply Kd.R_alloc | apply Kd.R_drewN | apply Kd.R_drew)); exact HO_4.out) hb); have n1_ := Aside0.mk (Kd.R_lower ho0 (below_size (by repeat (first | (with_reducible first | exact HB.out | apply below_alloc | apply pw_below_drewN | apply below_drew1) | exact HB.out)))); have n2_ := Aside0.mk (below_step (by repeat (first | (with_reducible first | exact HB.out | apply below_alloc | apply pw_below_drewN | apply below_drew1) | exact HB.out)) hb); clear HO_4; clear HB; have HO_4 := n0_; have HO362 := n1_; have HB := n2_; clear n0_ n1_ n2_; (try clear hb); (try clear hb2); (try clear hk); (try clear hi); (try clear ho0)))
              (try simp only [Act.put, List.setIfInBounds_toArray, List.set_cons_zero, List.set_cons_succ])
              go_cut [92] (fun v92 wc => ∃ (kq : Nat) (x92_43 : Bool), v92 = .bool x92_43 ∧ Aside0 (alidadelaw13_SexpBack.j2 kq l0 x4_2 t358 x92_43 = some r) ∧ Aside0 (kq ≤ k2) ∧ Aside0 (Kd.R (Kd.int .i64) 3 wc w.heap.size (fun _ => True) u4 x4_2) ∧ Aside0 (Kd.R k51 51 wc w.heap.size (fun _ => True) v361 t358) ∧ Aside0 (Below w.heap.size w wc))
              case first =>
                have H := HC44.out
                clear HC44
                by_cases c46 : t360 = 0
                · rw [if_pos c46] at H
                  have c46b0 : (t360 == 0) = true := beq_iff_eq.mpr c46
                  have c46b1 : (t360 != 0) = false := bne_eq_false_iff_eq.mpr c46
                  clear c46
                  (first | rw [c46b0] | (simp only [i64_w, i32_w]; rw [c46b0]) | skip)
                  by_cases c47 : t359 = 0
                  · rw [if_pos c47] at H
                    have c47b0 : (t359 == 0) = true := beq_iff_eq.mpr c47
                    have c47b1 : (t359 != 0) = false := bne_eq_false_iff_eq.mpr c47
                    clear c47
                    have H' := Aside0.mk H
                    clear H
                    obtain ⟨Ao48, co48, eo48⟩ := Kd.R_slice HO362.out
                    subst eo48
                    go_wp2
                    go_meet
                    case rel => exact ⟨_, (((t358.length : Int) != (l0.length : Int))), (by first | rfl | (simp; done) | (simp [*]; done)), H', ⟨by have := HJ1.out; have := HK2.out; first | omega | exact Nat.le_refl _⟩, ⟨by (with_reducible repeat (first | apply Kd.R_alloc | apply Kd.R_drewN | apply Kd.R_drew)); exact HO_4.out⟩, ⟨by (with_reducible repeat (first | apply Kd.R_alloc | apply Kd.R_drewN | apply Kd.R_drew)); exact HO362.out⟩, ⟨by repeat (first | (with_reducible first | exact HB.out | apply below_alloc | apply pw_below_drewN | apply below_drew1) | exact HB.out)⟩⟩
                  · rw [if_neg c47] at H
                    have c47b0 : (t359 == 0) = false := beq_eq_false_iff_ne.mpr c47
                    have c47b1 : (t359 != 0) = true := bne_iff_ne.mpr c47
                    have H' := Aside0.mk H
                    clear H
                    go_wp2
                    go_meet
                    case rel => exact ⟨_, (true), (by first | rfl | (simp; done) | (simp [*]; done)), H', ⟨by have := HJ1.out; have := HK2.out; first | omega | exact Nat.le_refl _⟩, ⟨by (with_reducible repeat (first | apply Kd.R_alloc | apply Kd.R_drewN | apply Kd.R_drew)); exact HO_4.out⟩, ⟨by (with_reducible repeat (first | apply Kd.R_alloc | apply Kd.R_drewN | apply Kd.R_drew)); exact HO362.out⟩, ⟨by repeat (first | (with_reducible first | exact HB.out | apply below_alloc | apply pw_below_drewN | apply below_drew1) | exact HB.out)⟩⟩
                · rw [if_neg c46] at H
                  have c46b0 : (t360 == 0) = false := beq_eq_false_iff_ne.mpr c46
                  have c46b1 : (t360 != 0) = true := bne_iff_ne.mpr c46
                  (first | rw [c46b0] | (simp only [i64_w, i32_w]; rw [c46b0]) | skip)
                  have H' := Aside0.mk H
                  clear H
                  go_wp2
                  go_meet
                  case rel => exact ⟨_, (true), (by first | rfl | (simp; done) | (simp [*]; done)), H', ⟨by have := HJ1.out; have := HK2.out; first | omega | exact Nat.le_refl _⟩, ⟨by (with_reducible repeat (first | apply Kd.R_alloc | apply Kd.R_drewN | apply Kd.R_drew)); exact HO_4.out⟩, ⟨by (with_reducible repeat (first | apply Kd.R_alloc | apply Kd.R_drewN | apply Kd.R_drew)); exact HO362.out⟩, ⟨by repeat (first | (with_reducible first | exact HB.out | apply below_alloc | apply pw_below_drewN | apply below_drew1) | exact HB.out)⟩⟩
              case rest =>
                clear HC44
                try clear c1
                try clear c2
                try clear p2
                try clear c3
                try clear c3b0
                try clear c3b1
                try clear p3
                try clear q3
                try clear hx3
                try clear c4
                try clear c5
                try clear c5b0
                try clear p6
                try clear c10
                try clear c11
                try clear c13
                try clear c13b0
                try clear c14
                try clear c14b0
                try clear c17
                try clear c18
                try clear c18b0
                try clear c18b1
                try clear c19
                try clear c19b0
                try clear c22
                try clear c22b0
                try clear c23
                try clear c23b0
                try clear c23b1
                try clear c23b2
                try clear c24
                try clear c25
                try clear c25b0
                try clear c25b1
                try clear c25b2
                try clear c32
                try clear c33
                try clear c33b0
                try clear c33b1
                try clear c33b2
                try clear c34
                try clear p34
                try clear q34
                try clear hx34
                try clear c35
                try clear p35
                try clear q35
                try clear hx35
                try clear c37
                try clear c40
                try clear c40b0
                try clear c40b1
                try clear c46
                try clear c46b0
                try clear c46b1
                try clear c47
                try clear c47b0
                try clear c47b1
                try clear hx344_0
                try clear hx344_1
                try clear hx344_2
                try clear hx344_3
                try clear hx346_0
                try clear hx346_1
                try clear hx346_2
                try clear hx346_3
                try clear hx351_0
                try clear hx351_1
                try clear hx351_2
                try clear hx351_3
                try clear hx356_0
                try clear hx356_1
                try clear hx356_2
                try clear hx356_3
                try clear p2
                try clear p344
                try clear p346
                try clear p351
                try clear p356
                try clear q344
                try clear q346
                try clear q351
                try clear q356
                obtain ⟨kq, x92_43, rfl, HA, HJ43, HO_4, HO_8, HB⟩ := hcut
                cases kq with
                | zero => exact absurd HA.out (by simp [alidadelaw13_SexpBack.j2])
                | succ kj43 =>
                  have H := HA.out
                  clear HA
                  simp only [alidadelaw13_SexpBack.j2] at H
                  by_cases c49 : x92_43 = true
                  · subst c49
                    have H1 : (none) = some r := by rw [if_pos rfl] at H; exact H
                    clear H
                    have H := H1
                    clear H1
                    exact absurd H (by simp)
                  · replace c49 := Bool.eq_false_iff.mpr c49
                    subst c49
                    have H1 : (alidadelaw13_SexpBack.l1 kj43 l0 x4_2 t358 0) = some r := by rw [if_neg (show ¬ (false = true) by decide)] at H; exact H
                    clear H
                    have H := H1
                    clear H1
                    have H' := Aside0.mk H
                    clear H
                    go_wp2
                    go_loopg [11] kj43 (fun kq v11 w' => ∃ (x11_4 : Int), v11 = .int .i64 x11_4 ∧ Aside0 (alidadelaw13_SexpBack.l1 kq l0 x4_2 t358 x11_4 = some r) ∧ Aside0 (kq ≤ kj43) ∧ Aside0 (Kd.R (Kd.int .i64) 3 w' w.heap.size (fun _ => True) u4 x4_2) ∧ Aside0 (Kd.R k51 51 w' w.heap.size (fun _ => True) v361 t358) ∧ Aside0 (Below w.heap.size w w'))
                    case atStart => exact ⟨(0), (by first | rfl | (simp; done) | (simp [*]; done)), H', ⟨Nat.le_refl _⟩, ⟨by (with_reducible repeat (first | apply Kd.R_alloc | apply Kd.R_drewN | apply Kd.R_drew)); exact HO_4.out⟩, ⟨by (with_reducible repeat (first | apply Kd.R_alloc | apply Kd.R_drewN | apply Kd.R_drew)); exact HO_8.out⟩, ⟨by repeat (first | (with_reducible first | exact HB.out | apply below_alloc | apply pw_below_drewN | apply below_drew1) | exact HB.out)⟩⟩
                    case round =>
                      clear H'
                      try clear c1
                      try clear c2
                      try clear p2
                      try clear c3
                      try clear c3b0
                      try clear c3b1
                      try clear p3
                      try clear q3
                      try clear hx3
                      try clear c4
                      try clear c5
                      try clear c5b0
                      try clear p6
                      try clear c10
                      try clear c11
                      try clear c13
                      try clear c13b0
                      try clear c14
                      try clear c14b0
                      try clear c17
                      try clear c18
                      try clear c18b0
                      try clear c18b1
                      try clear c19
                      try clear c19b0
                      try clear c22
                      try clear c22b0
                      try clear c23
                      try clear c23b0
                      try clear c23b1
                      try clear c23b2
                      try clear c24
                      try clear c25
                      try clear c25b0
                      try clear c25b1
                      try clear c25b2
                      try clear c32
                      try clear c33
                      try clear c33b0
                      try clear c33b1
                      try clear c33b2
                      try clear c34
                      try clear p34
                      try clear q34
                      try clear hx34
                      try clear c35
                      try clear p35
                      try clear q35
                      try clear hx35
                      try clear c37
                      try clear c40
                      try clear c40b0
                      try clear c40b1
                      try clear c46
                      try clear c46b0
                      try clear c46b1
                      try clear c47
                      try clear c47b0
                      try clear c47b1
                      try clear c49
                      try clear hx344_0
                      try clear hx344_1
                      try clear hx344_2
                      try clear hx344_3
                      try clear hx346_0
                      try clear hx346_1
                      try clear hx346_2
                      try clear hx346_3
                      try clear hx351_0
                      try clear hx351_1
                      try clear hx351_2
                      try clear hx351_3
                      try clear hx356_0
                      try clear hx356_1
                      try clear hx356_2
                      try clear hx356_3
                      try clear p2
                      try clear p3
                      try clear p34
                      try clear p344
                      try clear p346
                      try clear p35
                      try clear p351
                      try clear p356
                      try clear p6
                      try clear q3
                      try clear q34
                      try clear q344
                      try clear q346
                      try clear q35
                      try clear q351
                      try clear q356
                      obtain ⟨x11_4, rfl, HA, HK4, HO_4, HO_8, HB⟩ := hrel
                      cases gk with
                      | zero => exact absurd HA.out (by simp [alidadelaw13_SexpBack.l1])
                      | succ k4 =>
                        have H := HA.out
                        clear HA
                        simp only [alidadelaw13_SexpBack.l1] at H
                        by_cases c50 : x11_4 < (l0.length : Int)
                        · rw [if_pos c50] at H
                          have c50b0 : decide (x11_4 < (l0.length : Int)) = true := decide_eq_true c50
                          clear c50
                          by_cases c51 : 0 ≤ x11_4
                          · rw [if_pos c51] at H
                            have c51b0 : decide (0 ≤ x11_4) = true := decide_eq_true c51
                            clear c51
                            by_cases c52 : x11_4 < (t358.length : Int)
                            · rw [if_pos c52] at H
                              have c52b0 : decide (x11_4 < (t358.length : Int)) = true := decide_eq_true c52
                              clear c52
                              replace H := Option.bind_eq_some_iff.mp H
                              obtain ⟨t365, A530, H⟩ := H
                              replace H : (if t365 = true then (if x11_4 < (x4_2.length : Int) then (if ((rd_T51 t358 x11_4).f1) = (rd x4_2 x11_4) then (alidadelaw13_SexpBack.l1 k4 l0 x4_2 t358 (wrap64 (x11_4 + 1))) else (none)) else (none)) else (none)) = some r := H
                              have A53 := Aside0.mk A530
                              clear A530
                              by_cases c54 : t365 = true
                              · subst c54
                                have H1 : (if x11_4 < (x4_2.length : Int) then (if ((rd_T51 t358 x11_4).f1) = (rd x4_2 x11_4) then (alidadelaw13_SexpBack.l1 k4 l0 x4_2 t358 (wrap64 (x11_4 + 1))) else (none)) else (none)) = some r := by rw [if_pos rfl] at H; exact H
                                clear H
                                have H := H1
                                clear H1
                                by_cases c55 : x11_4 < (x4_2.length : Int)
                                · rw [if_pos c55] at H
                                  have c55b0 : decide (x11_4 < (x4_2.length : Int)) = true := decide_eq_true c55
                                  clear c55
                                  by_cases c56 : ((rd_T51 t358 x11_4).f1) = (rd x4_2 x11_4)
                                  · rw [if_pos c56] at H
                                    have c56b0 : (((rd_T51 t358 x11_4).f1) == (rd x4_2 x11_4)) = true := beq_iff_eq.mpr c56
                                    have c56b1 : (((rd_T51 t358 x11_4).f1) != (rd x4_2 x11_4)) = false := bne_eq_false_iff_eq.mpr c56
                                    clear c56
                                    have H' := Aside0.mk H
                                    clear H
                                    try go_wp2
                                    have n0_ := Aside0.mk (Kd.R_drew HO_4.out)
                                    have n1_ := Aside0.mk (Kd.R_drew HO_8.out)
                                    have n2_ := Aside0.mk (below_drew1 HB.out)
                                    clear HO_4
                                    clear HO_8
                                    clear HB
                                    have HO_4 := n0_
                                    have HO_8 := n1_
                                    have HB := n2_
                                    clear n0_ n1_ n2_
                                    obtain ⟨Ao58, co58, eo58⟩ := Kd.R_slice HO_8.out
                                    (first | subst eo58 | (injection eo58 with f1_ f2_ f3_; have f4_ := f1_.symm; have f5_ := f3_.symm; clear f1_ f2_ f3_; subst f4_; subst f5_))
                                    have p363 : 0 ≤ (x11_4 : Int) := of_decide_eq_true (by first | (with_reducible assumption) | assumption)
                                    have q363 : x11_4 < (t358.length : Int) := of_decide_eq_true (by first | (with_reducible assumption) | assumption)
                                    obtain ⟨ad363, A363_3, c363_3, e363, hx363_0, hx363_1, hx363_2, hx363_3, hl363_3, hi363_3⟩ := at_T51 (Kd.R_reads' HO_8.out).2.2 x11_4 p363 q363
                                    cases e363
                                    obtain ⟨ce363, hce363, hMe363, hcc363⟩ := Kd.R_get HO_8.out z51 x11_4 p363 (by first | exact q363 | exact of_decide_eq_true (by first | (with_reducible assumption) | assumption) | (have e_ := (Kd.R_reads' HO_8.out).1; omega))
                                    obtain ⟨ve363_3, rfl, ge363_3⟩ := k51_openM hMe363
                                    have hv363_3 := hcc363 3 _ rfl
                                    rw [add_field _ _ 3 (by omega)] at hv363_3
                                    replace hv363_3 := Option.some.inj (hv363_3.symm.trans hx363_3)
                                    rw [hv363_3] at ge363_3
                                    have HL363_3 := Aside0.mk (show Kd.R k51 51 _ _ _ _ ((rd_T51 t358 x11_4).f3) from ge363_3)
                                    clear hv363_3 ge363_3
                                    clear hcc363 hce363
                                    have HR363_3 := Aside0.mk hi363_3
                                    have HC363_3 := Aside0.mk hl363_3
                                    clear hi363_3 hl363_3
                                    replace p363 := eq_true p363
                                    replace q363 := eq_true q363
                                    have p364 : 0 ≤ (x11_4 : Int) := of_decide_eq_true (by first | (with_reducible assumption) | assumption)
                                    have q364 : x11_4 < (l0.length : Int) := of_decide_eq_true (by first | (with_reducible assumption) | assumption)
                                    obtain ⟨ad364, A364_3, c364_3, e364, hx364_0, hx364_1, hx364_2, hx364_3, hl364_3, hi364_3⟩ := at_T51 HR0.out x11_4 p364 q364
                                    have hw364_3 := hx364_3
                                    have hw364_2 := hx364_2
                                    have hw364_1 := hx364_1
                                    have hw364_0 := hx364_0
                                    cases e364
                                    replace hx364_0 := (HB.out.cell (World.block_lt_of_cell? w _ hx364_0)).trans hx364_0
                                    replace hx364_1 := (HB.out.cell (World.block_lt_of_cell? w _ hx364_1)).trans hx364_1
                                    replace hx364_2 := (HB.out.cell (World.block_lt_of_cell? w _ hx364_2)).trans hx364_2
                                    replace hx364_3 := (HB.out.cell (World.block_lt_of_cell? w _ hx364_3)).trans hx364_3
                                    have HR364_3 := Aside0.mk hi364_3
                                    have HC364_3 := Aside0.mk hl364_3
                                    clear hi364_3 hl364_3
                                    replace p364 := eq_true p364
                                    replace q364 := eq_true q364
                                    have p366 : 0 ≤ (x11_4 : Int) := of_decide_eq_true (by first | (with_reducible assumption) | assumption)
                                    have q366 : x11_4 < (t358.length : Int) := of_decide_eq_true (by first | (with_reducible assumption) | assumption)
                                    obtain ⟨ad366, A366_3, c366_3, e366, hx366_0, hx366_1, hx366_2, hx366_3, hl366_3, hi366_3⟩ := at_T51 (Kd.R_reads' HO_8.out).2.2 x11_4 p366 q366
                                    obtain rfl : ad363 = ad366 := (by injection e366)
                                    obtain ⟨ce366, hce366, hMe366, hcc366⟩ := Kd.R_get HO_8.out z51 x11_4 p366 (by first | exact q366 | exact of_decide_eq_true (by first | (with_reducible assumption) | assumption) | (have e_ := (Kd.R_reads' HO_8.out).1; omega))
                                    obtain ⟨ve366_3, rfl, ge366_3⟩ := k51_openM hMe366
                                    have hv366_3 := hcc366 3 _ rfl
                                    rw [add_field _ _ 3 (by omega)] at hv366_3
                                    replace hv366_3 := Option.some.inj (hv366_3.symm.trans hx366_3)
                                    rw [hv366_3] at ge366_3
                                    have HL366_3 := Aside0.mk (show Kd.R k51 51 _ _ _ _ ((rd_T51 t358 x11_4).f3) from ge366_3)
                                    clear hv366_3 ge366_3
                                    clear hcc366 hce366
                                    have HR366_3 := Aside0.mk hi366_3
                                    have HC366_3 := Aside0.mk hl366_3
                                    clear hi366_3 hl366_3
                                    replace p366 := eq_true p366
                                    replace q366 := eq_true q366
                                    have p367 : 0 ≤ (x11_4 : Int) := of_decide_eq_true (by first | (with_reducible assumption) | assumption)
                                    have q367 : x11_4 < (x4_2.length : Int) := of_decide_eq_true (by first | (with_reducible assumption) | assumption)
                                    obtain ⟨A367_, c367_, e367_⟩ := Kd.R_slice HO_4.out
                                    subst e367_
                                    obtain ⟨ad367, e367, hx367_0⟩ := Kd.at_int (Kd.R_reads' HO_4.out).2.2 x11_4 p367 q367
                                    cases e367
                                    replace p367 := eq_true p367
                                    replace q367 := eq_true q367
                                    refine start_ (n := 22) (S := fun w' => w'.cell? (ad363.add ((x11_4).toNat * 4)) = some (.int .u8 ((rd_T51 t358 x11_4).f0)) ∧ w'.cell? ⟨(ad363.add ((x11_4).toNat * 4)).block, (ad363.add ((x11_4).toNat * 4)).off + 1, none⟩ = some (.int .i64 ((rd_T51 t358 x11_4).f1)) ∧ w'.cell? ⟨(ad363.add ((x11_4).toNat * 4)).block, (ad363.add ((x11_4).toNat * 4)).off + 2, none⟩ = some (.string ((rd_T51 t358 x11_4).f2)) ∧ w'.cell? ⟨(ad363.add ((x11_4).toNat * 4)).block, (ad363.add ((x11_4).toNat * 4)).off + 3, none⟩ = some (.slice A363_3 ((rd_T51 t358 x11_4).f3).length c363_3) ∧ w'.cell? (ad364.add ((x11_4).toNat * 4)) = some (.int .u8 ((rd_T51 l0 x11_4).f0)) ∧ w'.cell? ⟨(ad364.add ((x11_4).toNat * 4)).block, (ad364.add ((x11_4).toNat * 4)).off + 1, none⟩ = some (.int .i64 ((rd_T51 l0 x11_4).f1)) ∧ w'.cell? ⟨(ad364.add ((x11_4).toNat * 4)).block, (ad364.add ((x11_4).toNat * 4)).off + 2, none⟩ = some (.string ((rd_T51 l0 x11_4).f2)) ∧ w'.cell? ⟨(ad364.add ((x11_4).toNat * 4)).block, (ad364.add ((x11_4).toNat * 4)).off + 3, none⟩ = some (.slice A364_3 ((rd_T51 l0 x11_4).f3).length c364_3) ∧ w'.cell? (ad363.add ((x11_4).toNat * 4)) = some (.int .u8 ((rd_T51 t358 x11_4).f0)) ∧ w'.cell? ⟨(ad363.add ((x11_4).toNat * 4)).block, (ad363.add ((x11_4).toNat * 4)).off + 1, none⟩ = some (.int .i64 ((rd_T51 t358 x11_4).f1)) ∧ w'.cell? ⟨(ad363.add ((x11_4).toNat * 4)).block, (ad363.add ((x11_4).toNat * 4)).off + 2, none⟩ = some (.string ((rd_T51 t358 x11_4).f2)) ∧ w'.cell? ⟨(ad363.add ((x11_4).toNat * 4)).block, (ad363.add ((x11_4).toNat * 4)).off + 3, none⟩ = some (.slice A366_3 ((rd_T51 t358 x11_4).f3).length c366_3) ∧ w'.cell? (ad367.add (x11_4).toNat) = some (.int .i64 (rd x4_2 x11_4))) (ds := []) #[false, false, false, false, false, false, false, false, false, false, false, false, false, false, false, false, false, false, false, false, false, false] (by kernel_rfl) rfl rfl ⟨hx363_0, hx363_1, hx363_2, hx363_3, ((HB.out.cell (World.block_lt_of_cell? w _ hw364_0)).trans hw364_0), ((HB.out.cell (World.block_lt_of_cell? w _ hw364_1)).trans hw364_1), ((HB.out.cell (World.block_lt_of_cell? w _ hw364_2)).trans hw364_2), ((HB.out.cell (World.block_lt_of_cell? w _ hw364_3)).trans hw364_3), hx366_0, hx366_1, hx366_2, hx366_3, hx367_0⟩ (fun hHeld => ?_); refine with_tabW alidadelaw13_SexpBack.tab25 alidadelaw13_SexpBack.bits25 (fun HT_ HW_ => ?_)
                                    generalize wr.drew = w57 at HO_4 HO_8 HB HL363_3 HL366_3 HR363_3 HR364_3 HR366_3 hx363_0 hx363_1 hx363_2 hx363_3 hx364_0 hx364_1 hx364_2 hx364_3 hx366_0 hx366_1 hx366_2 hx366_3 hx367_0 hHeld ⊢
                                    refine pure_ (i := 0) (N := some 99) (v := ?_) (a' := ?_) #[true, false, false, false, false, false, false, false, false, false, false, false, false, false, false, false, false, false, false, false, false, false] rfl rfl (any_of HT_.out (by kernel_rfl)) (fun _ _ _ h => h) (Or.inl ⟨by rfl, ?_⟩) ?_ ?_
                                    rotate_left
                                    · intro w'
                                      go_simp
                                      with_reducible rfl
                                    rotate_left
                                    · simp only [Act.put, List.setIfInBounds_toArray, List.set_cons_zero, List.set_cons_succ, i64_w, i32_w]
                                      rfl
                                    refine pure_ (i := 1) (N := some 100) (v := ?_) (a' := ?_) #[true, true, false, false, false, false, false, false, false, false, false, false, false, false, false, false, false, false, false, false, false, false] rfl rfl (any_of HT_.out (by kernel_rfl)) (fun _ _ _ h => h) (Or.inl ⟨by rfl, ?_⟩) ?_ ?_
                                    rotate_left
                                    · intro w'
                                      go_simp
                                      with_reducible rfl
                                    rotate_left
                                    · simp only [Act.put, List.setIfInBounds_toArray, List.set_cons_zero, List.set_cons_succ, i64_w, i32_w]
                                      rfl
                                    refine pure_ (i := 2) (N := some 101) (v := ?_) (a' := ?_) #[true, true, true, false, false, false, false, false, false, false, false, false, false, false, false, false, false, false, false, false, false, false] rfl rfl (any_of HT_.out (by kernel_rfl)) (fun _ _ _ h => h) (Or.inl ⟨by rfl, ?_⟩) ?_ ?_
                                    rotate_left
                                    · intro w'
                                      go_simp
                                      with_reducible rfl
                                    rotate_left
                                    · simp only [Act.put, List.setIfInBounds_toArray, List.set_cons_zero, List.set_cons_succ, i64_w, i32_w]
                                      rfl
                                    refine pure_ (i := 4) (N := some 103) (v := ?_) (a' := ?_) #[true, true, true, false, true, false, false, false, false, false, false, false, false, false, false, false, false, false, false, false, false, false] rfl rfl (any_of HT_.out (by kernel_rfl)) (fun _ _ _ h => h) (Or.inl ⟨by rfl, ?_⟩) ?_ ?_
                                    rotate_left
                                    · intro w'
                                      go_simp
                                      with_reducible rfl
                                    rotate_left
                                    · simp only [Act.put, List.setIfInBounds_toArray, List.set_cons_zero, List.set_cons_succ, i64_w, i32_w]
                                      rfl
                                    refine pure_ (i := 5) (N := some 104) (v := ?_) (a' := ?_) #[true, true, true, false, true, true, false, false, false, false, false, false, false, false, false, false, false, false, false, false, false, false] rfl rfl (any_of HT_.out (by kernel_rfl)) (fun _ _ _ h => h) (Or.inl ⟨by rfl, ?_⟩) ?_ ?_
                                    rotate_left
                                    · intro w'
                                      go_simp
                                      with_reducible rfl
                                    rotate_left
                                    · simp only [Act.put, List.setIfInBounds_toArray, List.set_cons_zero, List.set_cons_succ, i64_w, i32_w]
                                      rfl
                                    refine pure_ (i := 6) (N := some 105) (v := ?_) (a' := ?_) #[true, true, true, false, true, true, true, false, false, false, false, false, false, false, false, false, false, false, false, false, false, false] rfl rfl (any_of HT_.out (by kernel_rfl)) (fun _ _ _ h => h) (Or.inl ⟨by rfl, ?_⟩) ?_ ?_
                                    rotate_left
                                    · intro w'
                                      go_simp
                                      with_reducible rfl
                                    rotate_left
                                    · simp only [Act.put, List.setIfInBounds_toArray, List.set_cons_zero, List.set_cons_succ, i64_w, i32_w]
                                      rfl
                                    refine take_ (i := 3) (N := some 102) (v := ?_) (a' := ?_) #[true, true, true, true, true, true, true, false, false, false, false, false, false, false, false, false, false, false, false, false, false, false] rfl rfl (take_ofW HT_.out HW_.out (by kernel_rfl)) (fun _ _ _ h => h) (Or.inl ⟨by rfl, ?_⟩) hHeld ?_ ?_
                                    rotate_left
                                    · rintro w' ⟨s0, s1, s2, s3, s4, s5, s6, s7, s8, s9, s10, s11, s12⟩
                                      go_simp
                                      with_reducible rfl
                                    rotate_left
                                    · simp only [Act.put, List.setIfInBounds_toArray, List.set_cons_zero, List.set_cons_succ, i64_w, i32_w]
                                      rfl
                                    refine take_ (i := 7) (N := some 106) (v := ?_) (a' := ?_) #[true, true, true, true, true, true, true, true, false, false, false, false, false, false, false, false, false, false, false, false, false, false] rfl rfl (take_ofW HT_.out HW_.out (by kernel_rfl)) (fun _ _ _ h => h) (Or.inl ⟨by rfl, ?_⟩) hHeld ?_ ?_
                                    rotate_left
                                    · rintro w' ⟨s0, s1, s2, s3, s4, s5, s6, s7, s8, s9, s10, s11, s12⟩
                                      go_simp
                                      with_reducible rfl
                                    rotate_left
                                    · simp only [Act.put, List.setIfInBounds_toArray, List.set_cons_zero, List.set_cons_succ, i64_w, i32_w]
                                      rfl
                                    refine one_ (i := 8) (N := some 107) #[true, true, true, true, true, true, true, true, true, false, false, false, false, false, false, false, false, false, false, false, false, false] rfl rfl (one_of HT_.out (by kernel_rfl)) (by decide) (fun K hK => ?_)
                                    refine goes_ Try.func38 (by kernel_rfl) rfl #[.agg #[.int .u8 ((rd_T51 t358 x11_4).f0), .int .i64 ((rd_T51 t358 x11_4).f1), .string ((rd_T51 t358 x11_4).f2), .slice A363_3 ((rd_T51 t358 x11_4).f3).length c363_3], .agg #[.int .u8 ((rd_T51 l0 x11_4).f0), .int .i64 ((rd_T51 l0 x11_4).f1), .string ((rd_T51 l0 x11_4).f2), .slice A364_3 ((rd_T51 l0 x11_4).f3).length c364_3]] (by rfl) rfl rfl (by (try simp only [List.map_toArray, List.map_cons, List.map_nil]); first | done | rfl | (simp only [List.length_drop, List.length_take]; rfl)) ?_
                                    with_reducible refine (sexp_Same.calls k4 ((rd_T51 t358 x11_4).f0) ((rd_T51 t358 x11_4).f1) ((rd_T51 t358 x11_4).f2) _ _ ((rd_T51 t358 x11_4).f3) ((rd_T51 l0 x11_4).f0) ((rd_T51 l0 x11_4).f1) ((rd_T51 l0 x11_4).f2) _ _ ((rd_T51 l0 x11_4).f3) true _ ?side1 ?side2 ?side3 ?side4 A53.out).mono ?_
                                    (case side1 => repeat (first | exact (by repeat (first | (with_reducible exact HR363_3.out) | (with_reducible refine Kd.C_alloc ?_ _) | (with_reducible refine Kd.C_drewN ?_ _) | (with_reducible refine Kd.C_drew ?_) | exact HR363_3.out)) | (with_reducible refine Kd.C_alloc ?_ _) | (with_reducible refine Kd.C_drewN ?_ _) | (with_reducible refine Kd.C_drew ?_)))
                                    (case side2 => exact HC363_3.out)
                                    (case side3 => repeat (first | exact (Kd.C_below HR364_3.out HB.out) | (with_reducible refine Kd.C_alloc ?_ _) | (with_reducible refine Kd.C_drewN ?_ _) | (with_reducible refine Kd.C_drew ?_)))
                                    (case side4 => exact HC364_3.out)
                                    rintro e w59 ⟨rfl, hb⟩
                                    have HS0_ := (hb.cell (World.block_lt_of_cell? _ _ (hHeld.1))).trans (hHeld.1)
                                    have HS1_ := (hb.cell (World.block_lt_of_cell? _ _ (hHeld.2.1))).trans (hHeld.2.1)
                                    have HS2_ := (hb.cell (World.block_lt_of_cell? _ _ (hHeld.2.2.1))).trans (hHeld.2.2.1)
                                    have HS3_ := (hb.cell (World.block_lt_of_cell? _ _ (hHeld.2.2.2.1))).trans (hHeld.2.2.2.1)
                                    have HS8_ := (hb.cell (World.block_lt_of_cell? _ _ (hHeld.2.2.2.2.2.2.2.2.1))).trans (hHeld.2.2.2.2.2.2.2.2.1)
                                    have HS9_ := (hb.cell (World.block_lt_of_cell? _ _ (hHeld.2.2.2.2.2.2.2.2.2.1))).trans (hHeld.2.2.2.2.2.2.2.2.2.1)
                                    have HS10_ := (hb.cell (World.block_lt_of_cell? _ _ (hHeld.2.2.2.2.2.2.2.2.2.2.1))).trans (hHeld.2.2.2.2.2.2.2.2.2.2.1)
                                    have HS11_ := (hb.cell (World.block_lt_of_cell? _ _ (hHeld.2.2.2.2.2.2.2.2.2.2.2.1))).trans (hHeld.2.2.2.2.2.2.2.2.2.2.2.1)
                                    have HS12_ := (hb.cell (World.block_lt_of_cell? _ _ (hHeld.2.2.2.2.2.2.2.2.2.2.2.2))).trans (hHeld.2.2.2.2.2.2.2.2.2.2.2.2)
                                    refine ⟨_, rfl, ?_⟩
                                    have n0_ := Aside0.mk (Kd.R_below (by (with_reducible repeat (first | apply Kd.R_alloc | apply Kd.R_drewN | apply Kd.R_drew)); exact HO_4.out) hb)
                                    have n1_ := Aside0.mk (Kd.R_below (by (with_reducible repeat (first | apply Kd.R_alloc | apply Kd.R_drewN | apply Kd.R_drew)); exact HO_8.out) hb)
                                    have n2_ := Aside0.mk (Kd.R_below (by (with_reducible repeat (first | apply Kd.R_alloc | apply Kd.R_drewN | apply Kd.R_drew)); exact HL363_3.out) hb)
                                    have n3_ := Aside0.mk (Kd.C_below (by repeat (first | (with_reducible exact HR363_3.out) | (with_reducible refine Kd.C_alloc ?_ _) | (with_reducible refine Kd.C_drewN ?_ _) | (with_reducible refine Kd.C_drew ?_) | exact HR363_3.out)) hb)
                                    have n4_ := Aside0.mk (below_step (by repeat (first | (with_reducible first | exact HB.out | apply below_alloc | apply pw_below_drewN | apply below_drew1) | exact HB.out)) hb)
                                    clear HO_4
                                    clear HO_8
                                    clear HL363_3
                                    clear HR363_3
                                    clear HB
                                    have HO_4 := n0_
                                    have HO_8 := n1_
                                    have HL363_3 := n2_
                                    have HR363_3 := n3_
                                    have HB := n4_
                                    clear n0_ n1_ n2_ n3_ n4_
                                    (try clear hb)
                                    (try clear hb2)
                                    (try clear hk)
                                    (try clear hi)
                                    obtain ⟨Ao60, co60, eo60⟩ := Kd.R_slice HO_4.out
                                    (first | subst eo60 | (injection eo60 with f1_ f2_ f3_; have f4_ := f1_.symm; have f5_ := f3_.symm; clear f1_ f2_ f3_; subst f4_; subst f5_))
                                    refine hK.out _ _ ⟨HS0_, HS1_, HS2_, HS3_, ((HB.out.cell (World.block_lt_of_cell? w _ hw364_0)).trans hw364_0), ((HB.out.cell (World.block_lt_of_cell? w _ hw364_1)).trans hw364_1), ((HB.out.cell (World.block_lt_of_cell? w _ hw364_2)).trans hw364_2), ((HB.out.cell (World.block_lt_of_cell? w _ hw364_3)).trans hw364_3), HS8_, HS9_, HS10_, HS11_, HS12_⟩ (fun hHeld => ?_)
                                    clear hK K
                                    refine norm_ (a' := ?_) ?_ ?_
                                    rotate_left
                                    · show Act.put _ (some 107) _ = _
                                      simp only [Act.put, List.setIfInBounds_toArray, List.set_cons_zero, List.set_cons_succ, i64_w, i32_w]
                                      rfl
                                    refine pure_ (i := 9) (N := some 108) (v := ?_) (a' := ?_) #[true, true, true, true, true, true, true, true, true, true, false, false, false, false, false, false, false, false, false, false, false, false] rfl rfl (any_of HT_.out (by kernel_rfl)) (fun _ _ _ h => h) (Or.inl ⟨by rfl, ?_⟩) ?_ ?_
                                    rotate_left
                                    · intro w'
                                      go_simp
                                      with_reducible rfl
                                    rotate_left
                                    · simp only [Act.put, List.setIfInBounds_toArray, List.set_cons_zero, List.set_cons_succ, i64_w, i32_w]
                                      rfl
                                    refine pure_ (i := 10) (N := some 109) (v := ?_) (a' := ?_) #[true, true, true, true, true, true, true, true, true, true, true, false, false, false, false, false, false, false, false, false, false, false] rfl rfl (any_of HT_.out (by kernel_rfl)) (fun _ _ _ h => h) (Or.inl ⟨by rfl, ?_⟩) ?_ ?_
                                    rotate_left
                                    · intro w'
                                      go_simp
                                      with_reducible rfl
                                    rotate_left
                                    · simp only [Act.put, List.setIfInBounds_toArray, List.set_cons_zero, List.set_cons_succ, i64_w, i32_w]
                                      rfl
                                    refine pure_ (i := 11) (N := some 110) (v := ?_) (a' := ?_) #[true, true, true, true, true, true, true, true, true, true, true, true, false, false, false, false, false, false, false, false, false, false] rfl rfl (any_of HT_.out (by kernel_rfl)) (fun _ _ _ h => h) (Or.inl ⟨by rfl, ?_⟩) ?_ ?_
                                    rotate_left
                                    · intro w'
                                      go_simp
                                      with_reducible rfl
                                    rotate_left
                                    · simp only [Act.put, List.setIfInBounds_toArray, List.set_cons_zero, List.set_cons_succ, i64_w, i32_w]
                                      rfl
                                    refine pure_ (i := 12) (N := some 111) (v := ?_) (a' := ?_) #[true, true, true, true, true, true, true, true, true, true, true, true, true, false, false, false, false, false, false, false, false, false] rfl rfl (any_of HT_.out (by kernel_rfl)) (fun _ _ _ h => h) (Or.inl ⟨by rfl, ?_⟩) ?_ ?_
                                    rotate_left
                                    · intro w'
                                      go_simp
                                      with_reducible rfl
                                    rotate_left
                                    · simp only [Act.put, List.setIfInBounds_toArray, List.set_cons_zero, List.set_cons_succ, i64_w, i32_w]
                                      rfl
                                    refine pure_ (i := 13) (N := some 112) (v := ?_) (a' := ?_) #[true, true, true, true, true, true, true, true, true, true, true, true, true, true, false, false, false, false, false, false, false, false] rfl rfl (any_of HT_.out (by kernel_rfl)) (fun _ _ _ h => h) (Or.inl ⟨by rfl, ?_⟩) ?_ ?_
                                    rotate_left
                                    · intro w'
                                      go_simp
                                      with_reducible rfl
                                    rotate_left
                                    · simp only [Act.put, List.setIfInBounds_toArray, List.set_cons_zero, List.set_cons_succ, i64_w, i32_w]
                                      rfl
                                    refine pure_ (i := 14) (N := some 113) (v := ?_) (a' := ?_) #[true, true, true, true, true, true, true, true, true, true, true, true, true, true, true, false, false, false, false, false, false, false] rfl rfl (any_of HT_.out (by kernel_rfl)) (fun _ _ _ h => h) (Or.inl ⟨by rfl, ?_⟩) ?_ ?_
                                    rotate_left
                                    · intro w'
                                      go_simp
                                      with_reducible rfl
                                    rotate_left
                                    · simp only [Act.put, List.setIfInBounds_toArray, List.set_cons_zero, List.set_cons_succ, i64_w, i32_w]
                                      rfl
                                    refine pure_ (i := 16) (N := some 115) (v := ?_) (a' := ?_) #[true, true, true, true, true, true, true, true, true, true, true, true, true, true, true, false, true, false, false, false, false, false] rfl rfl (any_of HT_.out (by kernel_rfl)) (fun _ _ _ h => h) (Or.inl ⟨by rfl, ?_⟩) ?_ ?_
                                    rotate_left
                                    · intro w'
                                      go_simp
                                      with_reducible rfl
                                    rotate_left
                                    · simp only [Act.put, List.setIfInBounds_toArray, List.set_cons_zero, List.set_cons_succ, i64_w, i32_w]
                                      rfl
                                    refine pure_ (i := 17) (N := some 116) (v := ?_) (a' := ?_) #[true, true, true, true, true, true, true, true, true, true, true, true, true, true, true, false, true, true, false, false, false, false] rfl rfl (any_of HT_.out (by kernel_rfl)) (fun _ _ _ h => h) (Or.inl ⟨by rfl, ?_⟩) ?_ ?_
                                    rotate_left
                                    · intro w'
                                      go_simp
                                      with_reducible rfl
                                    rotate_left
                                    · simp only [Act.put, List.setIfInBounds_toArray, List.set_cons_zero, List.set_cons_succ, i64_w, i32_w]
                                      rfl
                                    refine pure_ (i := 18) (N := some 117) (v := ?_) (a' := ?_) #[true, true, true, true, true, true, true, true, true, true, true, true, true, true, true, false, true, true, true, false, false, false] rfl rfl (any_of HT_.out (by kernel_rfl)) (fun _ _ _ h => h) (Or.inl ⟨by rfl, ?_⟩) ?_ ?_
                                    rotate_left
                                    · intro w'
                                      go_simp
                                      with_reducible rfl
                                    rotate_left
                                    · simp only [Act.put, List.setIfInBounds_toArray, List.set_cons_zero, List.set_cons_succ, i64_w, i32_w]
                                      rfl
                                    refine take_ (i := 15) (N := some 114) (v := ?_) (a' := ?_) #[true, true, true, true, true, true, true, true, true, true, true, true, true, true, true, true, true, true, true, false, false, false] rfl rfl (take_ofW HT_.out HW_.out (by kernel_rfl)) (fun _ _ _ h => h) (Or.inl ⟨by rfl, ?_⟩) hHeld ?_ ?_
                                    rotate_left
                                    · rintro w' ⟨s0, s1, s2, s3, s4, s5, s6, s7, s8, s9, s10, s11, s12⟩
                                      go_simp
                                      with_reducible rfl
                                    rotate_left
                                    · simp only [Act.put, List.setIfInBounds_toArray, List.set_cons_zero, List.set_cons_succ, i64_w, i32_w]
                                      rfl
                                    refine take_ (i := 19) (N := some 118) (v := ?_) (a' := ?_) #[true, true, true, true, true, true, true, true, true, true, true, true, true, true, true, true, true, true, true, true, false, false] rfl rfl (take_ofW HT_.out HW_.out (by kernel_rfl)) (fun _ _ _ h => h) (Or.inl ⟨by rfl, ?_⟩) hHeld ?_ ?_
                                    rotate_left
                                    · rintro w' ⟨s0, s1, s2, s3, s4, s5, s6, s7, s8, s9, s10, s11, s12⟩
                                      go_simp
                                      with_reducible rfl
                                    rotate_left
                                    · simp only [Act.put, List.setIfInBounds_toArray, List.set_cons_zero, List.set_cons_succ, i64_w, i32_w]
                                      rfl
                                    refine pure_ (i := 20) (N := some 119) (v := ?_) (a' := ?_) #[true, true, true, true, true, true, true, true, true, true, true, true, true, true, true, true, true, true, true, true, true, false] rfl rfl (any_of HT_.out (by kernel_rfl)) (fun _ _ _ h => h) (Or.inl ⟨by rfl, ?_⟩) ?_ ?_
                                    rotate_left
                                    · intro w'
                                      go_simp
                                      with_reducible rfl
                                    rotate_left
                                    · simp only [Act.put, List.setIfInBounds_toArray, List.set_cons_zero, List.set_cons_succ, i64_w, i32_w]
                                      rfl
                                    refine pure_ (i := 21) (N := some 120) (v := ?_) (a' := ?_) #[true, true, true, true, true, true, true, true, true, true, true, true, true, true, true, true, true, true, true, true, true, true] rfl rfl (any_of HT_.out (by kernel_rfl)) (fun _ _ _ h => h) (Or.inl ⟨by rfl, ?_⟩) ?_ ?_
                                    rotate_left
                                    · intro w'
                                      go_simp
                                      with_reducible rfl
                                    rotate_left
                                    · simp only [Act.put, List.setIfInBounds_toArray, List.set_cons_zero, List.set_cons_succ, i64_w, i32_w]
                                      rfl
                                    refine done_ (done_of HT_.out (by kernel_rfl)) ?_
                                    try go_wp2
                                    go_roundg k4
                                    case measure => have := HJ1.out; have := HK2.out; have := HJ43.out; have := HK4.out; omega
                                    case rel => exact ⟨(wrap64 (x11_4 + 1)), (by first | rfl | (simp; done) | (simp [*]; done)), H', ⟨by have := HJ1.out; have := HK2.out; have := HJ43.out; have := HK4.out; omega⟩, ⟨by (with_reducible repeat (first | apply Kd.R_alloc | apply Kd.R_drewN | apply Kd.R_drew)); exact HO_4.out⟩, ⟨by (with_reducible repeat (first | apply Kd.R_alloc | apply Kd.R_drewN | apply Kd.R_drew)); exact HO_8.out⟩, ⟨by repeat (first | (with_reducible first | exact HB.out | apply below_alloc | apply pw_below_drewN | apply below_drew1) | exact HB.out)⟩⟩
                                  · rw [if_neg c56] at H
                                    exact absurd H (by simp)
                                · rw [if_neg c55] at H
                                  exact absurd H (by simp)
                              · replace c54 := Bool.eq_false_iff.mpr c54
                                subst c54
                                have H1 : (none) = some r := by rw [if_neg (show ¬ (false = true) by decide)] at H; exact H
                                clear H
                                have H := H1
                                clear H1
                                exact absurd H (by simp)
                            · rw [if_neg c52] at H
                              exact absurd H (by simp)
                          · rw [if_neg c51] at H
                            exact absurd H (by simp)
                        · rw [if_neg c50] at H
                          have c50b0 : decide (x11_4 < (l0.length : Int)) = false := decide_eq_false c50
                          clear c50
                          obtain rfl := Option.some.inj H
                          go_wp2
                          go_ret
                          exact ⟨by first | rfl | (simp [errW_none, errW_some] <;> rfl) | (simp [*, errW_none, errW_some] <;> rfl), by repeat (first | (with_reducible first | exact HB.out | apply below_alloc | apply pw_below_drewN | apply below_drew1) | exact HB.out)⟩

end Go.Proofs.Ytgikmpgpccfiiaa.PSxp
