-- A text of the seat Ytgikmpgpccfiiaa, written by a program of this session (drive.py).
import Derived.Test.YtgikmpgpccfiiaaPLexx0
import Derived.Test.YtgikmpgpccfiiaaPLexx13
import Derived.Test.YtgikmpgpccfiiaaPLexx15
import Derived.Test.YtgikmpgpccfiiaaPLexx26
namespace Go.Proofs.Ytgikmpgpccfiiaa.PLex
open Go.RowKit Go.Proofs.YtgikmpgpccfiiaaW.PrintWords Go.Proofs.YtgikmpgpccfiiaaW.PrintLast Go.Proofs.YtgikmpgpccfiiaaW.PrintMore
attribute [local go_sem] max2_int min2_int max_two min_two max_three min_three max_four min_four   -- for this text's walks alone
set_option linter.unusedVariables false
set_option linter.unusedSimpArgs false

/-! ### alidadelaw12_LexParted: function 5 -/
mutual
def alidadelaw12_LexParted.j0 : Nat → ByteArray → List Int → Bool → Option (Bool)
  | 0, _, _, _ => none
  | k + 1, x0, x1, x32 => if x32 = true then ((alidadelaw12_works.f k).bind fun t218 => (some t218)) else ((lex_Words.f k x0).bind fun bt219 => (if bt219.2.2 = 0 then (alidadelaw12_LexParted.l0 k x1 bt219.1 (([(⟨#[]⟩ : ByteArray), (⟨#[32]⟩ : ByteArray), (⟨#[10]⟩ : ByteArray), (⟨#[9, 13, 10]⟩ : ByteArray), (⟨#[59, 120, 10]⟩ : ByteArray), (⟨#[32, 59, 32, 40, 97, 10, 10]⟩ : ByteArray), (⟨#[59, 59, 10, 59, 10]⟩ : ByteArray)] : List ByteArray)) (⟨#[]⟩ : ByteArray) 0 0) else (some true)))
def alidadelaw12_LexParted.l0 : Nat → List Int → List (S32) → List ByteArray → ByteArray → Int → Int → Option (Bool)
  | 0, _, _, _, _, _, _ => none
  | k + 1, x1, x5, x8, x9, x10, x11 => if x11 < (x5.length : Int) then (if (x1.length : Int) = 0 then (none) else (if 0 ≤ (Int.tmod x11 (x1.length : Int)) then (if (Int.tmod x11 (x1.length : Int)) < (x1.length : Int) then (if (x8.length : Int) = 0 then (none) else (if (Int.tmod (wrap64 (rd x1 (Int.tmod x11 (x1.length : Int)))) (x8.length : Int)) = 0 then (if 0 ≤ x11 then (if ((rd_T32 x5 x11).f1) > x10 then (if x11 > 0 then (if 1 < (x8.length : Int) then (if x9.size + (rdOf ByteArray.empty x8 1).size ≤ 9223372036854775807 then (if (x9 ++ (rdOf ByteArray.empty x8 1)).size + ((rd_T32 x5 x11).f3).size ≤ 9223372036854775807 then (alidadelaw12_LexParted.l0 k x1 x5 x8 ((x9 ++ (rdOf ByteArray.empty x8 1)) ++ ((rd_T32 x5 x11).f3)) ((rd_T32 x5 x11).f2) (wrap64 (x11 + 1))) else (none)) else (none)) else (none)) else (if 0 ≤ (Int.tmod (wrap64 (rd x1 (Int.tmod x11 (x1.length : Int)))) (x8.length : Int)) then (if (Int.tmod (wrap64 (rd x1 (Int.tmod x11 (x1.length : Int)))) (x8.length : Int)) < (x8.length : Int) then (if x9.size + (rdOf ByteArray.empty x8 (Int.tmod (wrap64 (rd x1 (Int.tmod x11 (x1.length : Int)))) (x8.length : Int))).size ≤ 9223372036854775807 then (if (x9 ++ (rdOf ByteArray.empty x8 (Int.tmod (wrap64 (rd x1 (Int.tmod x11 (x1.length : Int)))) (x8.length : Int)))).size + ((rd_T32 x5 x11).f3).size ≤ 9223372036854775807 then (alidadelaw12_LexParted.l0 k x1 x5 x8 ((x9 ++ (rdOf ByteArray.empty x8 (Int.tmod (wrap64 (rd x1 (Int.tmod x11 (x1.length : Int)))) (x8.length : Int)))) ++ ((rd_T32 x5 x11).f3)) ((rd_T32 x5 x11).f2) (wrap64 (x11 + 1))) else (none)) else (none)) else (none)) else (none))) else (if 0 ≤ (Int.tmod (wrap64 (rd x1 (Int.tmod x11 (x1.length : Int)))) (x8.length : Int)) then (if (Int.tmod (wrap64 (rd x1 (Int.tmod x11 (x1.length : Int)))) (x8.length : Int)) < (x8.length : Int) then (if x9.size + (rdOf ByteArray.empty x8 (Int.tmod (wrap64 (rd x1 (Int.tmod x11 (x1.length : Int)))) (x8.length : Int))).size ≤ 9223372036854775807 then (if (x9 ++ (rdOf ByteArray.empty x8 (Int.tmod (wrap64 (rd x1 (Int.tmod x11 (x1.length : Int)))) (x8.length : Int)))).size + ((rd_T32 x5 x11).f3).size ≤ 9223372036854775807 then (alidadelaw12_LexParted.l0 k x1 x5 x8 ((x9 ++ (rdOf ByteArray.empty x8 (Int.tmod (wrap64 (rd x1 (Int.tmod x11 (x1.length : Int)))) (x8.length : Int)))) ++ ((rd_T32 x5 x11).f3)) ((rd_T32 x5 x11).f2) (wrap64 (x11 + 1))) else (none)) else (none)) else (none)) else (none))) else (none)) else (if 0 ≤ (Int.tmod (wrap64 (rd x1 (Int.tmod x11 (x1.length : Int)))) (x8.length : Int)) then (if (Int.tmod (wrap64 (rd x1 (Int.tmod x11 (x1.length : Int)))) (x8.length : Int)) < (x8.length : Int) then (if x9.size + (rdOf ByteArray.empty x8 (Int.tmod (wrap64 (rd x1 (Int.tmod x11 (x1.length : Int)))) (x8.length : Int))).size ≤ 9223372036854775807 then (if 0 ≤ x11 then (if (x9 ++ (rdOf ByteArray.empty x8 (Int.tmod (wrap64 (rd x1 (Int.tmod x11 (x1.length : Int)))) (x8.length : Int)))).size + ((rd_T32 x5 x11).f3).size ≤ 9223372036854775807 then (alidadelaw12_LexParted.l0 k x1 x5 x8 ((x9 ++ (rdOf ByteArray.empty x8 (Int.tmod (wrap64 (rd x1 (Int.tmod x11 (x1.length : Int)))) (x8.length : Int)))) ++ ((rd_T32 x5 x11).f3)) ((rd_T32 x5 x11).f2) (wrap64 (x11 + 1))) else (none)) else (none)) else (none)) else (none)) else (none)))) else (none)) else (none))) else (if 0 < (x1.length : Int) then (if (x8.length : Int) = 0 then (none) else (if 0 ≤ (Int.tmod (wrap64 (rd x1 0)) (x8.length : Int)) then (if (Int.tmod (wrap64 (rd x1 0)) (x8.length : Int)) < (x8.length : Int) then (if x9.size + (rdOf ByteArray.empty x8 (Int.tmod (wrap64 (rd x1 0)) (x8.length : Int))).size ≤ 9223372036854775807 then (if (x9 ++ (rdOf ByteArray.empty x8 (Int.tmod (wrap64 (rd x1 0)) (x8.length : Int)))).size + 9 ≤ 9223372036854775807 then ((lex_Words.f k ((x9 ++ (rdOf ByteArray.empty x8 (Int.tmod (wrap64 (rd x1 0)) (x8.length : Int)))) ++ (⟨#[59, 32, 116, 104, 101, 32, 101, 110, 100]⟩ : ByteArray))).bind fun bt243 => (if bt243.2.2 = 0 then ((lex_Same.f x5 bt243.1).bind fun t248 => (some t248)) else (none))) else (none)) else (none)) else (none)) else (none))) else (none))
end
def alidadelaw12_LexParted.f (k : Nat) (a0 : ByteArray) (l1 : List Int) : Option (Bool) := (alidadelaw12_works.f k).bind fun t217 => (if t217 = true then (if (a0.size : Int) > 3000 then (alidadelaw12_LexParted.j0 k a0 l1 true) else (if (l1.length : Int) > 3000 then (alidadelaw12_LexParted.j0 k a0 l1 true) else (alidadelaw12_LexParted.j0 k a0 l1 ((l1.length : Int) == 0)))) else (alidadelaw12_LexParted.j0 k a0 l1 true))
theorem alidadelaw12_LexParted.mono_l : ∀ k, (∀ y0 y1 y2, LeO (alidadelaw12_LexParted.j0 k y0 y1 y2) (alidadelaw12_LexParted.j0 (k + 1) y0 y1 y2)) ∧ (∀ y0 y1 y2 y3 y4 y5, LeO (alidadelaw12_LexParted.l0 k y0 y1 y2 y3 y4 y5) (alidadelaw12_LexParted.l0 (k + 1) y0 y1 y2 y3 y4 y5))
  | 0 => ⟨fun _ _ _ r h => by simp [alidadelaw12_LexParted.j0] at h, fun _ _ _ _ _ _ r h => by simp [alidadelaw12_LexParted.l0] at h⟩
  | k + 1 => by
    obtain ⟨ih0, ih1⟩ := alidadelaw12_LexParted.mono_l k
    refine ⟨?_, ?_⟩
    · intro y0 y1 y2
      unfold alidadelaw12_LexParted.j0
      repeat' first
      | (with_reducible exact ih0 _ _ _)
      | (with_reducible exact ih1 _ _ _ _ _ _)
      | (with_reducible exact alidadelaw12_works.mono _)
      | (with_reducible exact lex_Words.mono _ _)
      | (with_reducible exact LeO.refl _)
      | (with_reducible exact LeO.none _)
      | (with_reducible refine LeO.ite ?_ ?_)
      | (with_reducible refine LeO.bind ?_ (fun _ => ?_))
      | exact ih0 _ _ _
      | exact ih1 _ _ _ _ _ _
      | exact alidadelaw12_works.mono _
      | exact lex_Words.mono _ _
      | exact LeO.none _
      | refine LeO.ite ?_ ?_
      | refine LeO.bind ?_ (fun _ => ?_)
    · intro y0 y1 y2 y3 y4 y5
      unfold alidadelaw12_LexParted.l0
      repeat' first
      | (with_reducible exact ih0 _ _ _)
      | (with_reducible exact ih1 _ _ _ _ _ _)
      | (with_reducible exact alidadelaw12_works.mono _)
      | (with_reducible exact lex_Words.mono _ _)
      | (with_reducible exact LeO.refl _)
      | (with_reducible exact LeO.none _)
      | (with_reducible refine LeO.ite ?_ ?_)
      | (with_reducible refine LeO.bind ?_ (fun _ => ?_))
      | exact ih0 _ _ _
      | exact ih1 _ _ _ _ _ _
      | exact alidadelaw12_works.mono _
      | exact lex_Words.mono _ _
      | exact LeO.none _
      | refine LeO.ite ?_ ?_
      | refine LeO.bind ?_ (fun _ => ?_)
theorem alidadelaw12_LexParted.mono : ∀ a0 a1 k, LeO (alidadelaw12_LexParted.f k a0 a1) (alidadelaw12_LexParted.f (k + 1) a0 a1) := by
  intro a0 a1 k
  obtain ⟨ih0, ih1⟩ := alidadelaw12_LexParted.mono_l k
  unfold alidadelaw12_LexParted.f
  repeat' first
      | (with_reducible exact ih0 _ _ _)
      | (with_reducible exact ih1 _ _ _ _ _ _)
      | (with_reducible exact alidadelaw12_works.mono _)
      | (with_reducible exact lex_Words.mono _ _)
      | (with_reducible exact LeO.refl _)
      | (with_reducible exact LeO.none _)
      | (with_reducible refine LeO.ite ?_ ?_)
      | (with_reducible refine LeO.bind ?_ (fun _ => ?_))
      | exact ih0 _ _ _
      | exact ih1 _ _ _ _ _ _
      | exact alidadelaw12_works.mono _
      | exact lex_Words.mono _ _
      | exact LeO.none _
      | refine LeO.ite ?_ ?_
      | refine LeO.bind ?_ (fun _ => ?_)
set_option maxHeartbeats 8000000 in
set_option maxRecDepth 100000 in
theorem alidadelaw12_LexParted.calls (k : Nat) (a0 : ByteArray) (A1 : Option Addr) (c1 : Nat) (l1 : List Int) (r : Bool) (w : World) (hr1 : Kd.C (Kd.int .u8) w A1 l1.length l1) (hc1 : l1.length ≤ c1) (h : alidadelaw12_LexParted.f k a0 l1 = some r) :
    Calls Try.prog 5 #[.string a0, .slice A1 l1.length c1] w fun e w' => e = .returned (.bool r) ∧ Below w.heap.size w w' := by
  have HR1 := Aside0.mk hr1
  have HC1 := Aside0.mk hc1
  clear hr1 hc1
  have HB := Aside0.mk (Below.refl w.heap.size w)
  have H : ((alidadelaw12_works.f k).bind fun t217 => (if t217 = true then (if (a0.size : Int) > 3000 then (alidadelaw12_LexParted.j0 k a0 l1 true) else (if (l1.length : Int) > 3000 then (alidadelaw12_LexParted.j0 k a0 l1 true) else (alidadelaw12_LexParted.j0 k a0 l1 ((l1.length : Int) == 0)))) else (alidadelaw12_LexParted.j0 k a0 l1 true))) = some r := h
  clear h
  have HC3 := Aside0.mk H
  clear H
  go_enter Try.func5, Try.ntmps5
  go_upto_region 1 with (fail)
  repeat (go_quiet (fail); go_upto_region 1 with (fail))
  go_cut [32] (fun v32 wc => ∃ (kq : Nat) (x32_2 : Bool), v32 = .bool x32_2 ∧ Aside0 (alidadelaw12_LexParted.j0 kq a0 l1 x32_2 = some r) ∧ Aside0 (kq ≤ k) ∧ Aside0 (Below w.heap.size w wc))
  case first =>
    have H := HC3.out
    clear HC3
    replace H := Option.bind_eq_some_iff.mp H
    obtain ⟨t217, A40, H⟩ := H
    replace H : (if t217 = true then (if (a0.size : Int) > 3000 then (alidadelaw12_LexParted.j0 k a0 l1 true) else (if (l1.length : Int) > 3000 then (alidadelaw12_LexParted.j0 k a0 l1 true) else (alidadelaw12_LexParted.j0 k a0 l1 ((l1.length : Int) == 0)))) else (alidadelaw12_LexParted.j0 k a0 l1 true)) = some r := H
    have A4 := Aside0.mk A40
    clear A40
    by_cases c5 : t217 = true
    · subst c5
      have H1 : (if (a0.size : Int) > 3000 then (alidadelaw12_LexParted.j0 k a0 l1 true) else (if (l1.length : Int) > 3000 then (alidadelaw12_LexParted.j0 k a0 l1 true) else (alidadelaw12_LexParted.j0 k a0 l1 ((l1.length : Int) == 0)))) = some r := by rw [if_pos rfl] at H; exact H
      clear H
      have H := H1
      clear H1
      by_cases c6 : (a0.size : Int) > 3000
      · rw [if_pos c6] at H
        have c6b0 : decide (3000 < (a0.size : Int)) = true := decide_eq_true c6
        have c6b1 : decide (3000 < a0.size) = true := decide_eq_true (by omega)
        clear c6
        (first | rw [c6b0] | (simp only [i64_w, i32_w]; rw [c6b0]) | skip)
        have H' := Aside0.mk H
        clear H
        go_wp2_with (first | (go_at_call 12; (with_reducible refine (alidadelaw12_works.calls k  true _ A4.out).mono ?_); rintro e w7 ⟨rfl, hb⟩; have n0_ := Aside0.mk (below_step (by repeat (first | (with_reducible first | exact HB.out | apply below_alloc | apply pw_below_drewN | apply below_drew1) | exact HB.out)) hb); clear HB; have HB := n0_; clear n0_; (try clear hb); (try clear hb2); (try clear hk); (try clear hi)))
        repeat (go_quiet (first | (go_at_call 12; (fail_if_success (have hx_ := mktrue_)); have mktrue_ := Aside0.mk (Nat.le_refl 0); (with_reducible refine (alidadelaw12_works.calls k  true _ A4.out).mono ?_); rintro e w7 ⟨rfl, hb⟩; have n0_ := Aside0.mk (below_step (by repeat (first | (with_reducible first | exact HB.out | apply below_alloc | apply pw_below_drewN | apply below_drew1) | exact HB.out)) hb); clear HB; have HB := n0_; clear n0_; (try clear hb); (try clear hb2); (try clear hk); (try clear hi))); try go_wp2_with (first | (go_at_call 12; (with_reducible refine (alidadelaw12_works.calls k  true _ A4.out).mono ?_); rintro e w7 ⟨rfl, hb⟩; have n0_ := Aside0.mk (below_step (by repeat (first | (with_reducible first | exact HB.out | apply below_alloc | apply pw_below_drewN | apply below_drew1) | exact HB.out)) hb); clear HB; have HB := n0_; clear n0_; (try clear hb); (try clear hb2); (try clear hk); (try clear hi))))
        go_meet
        case rel => exact ⟨_, (true), (by first | rfl | (simp; done) | (simp [*]; done)), H', ⟨by first | omega | exact Nat.le_refl _⟩, ⟨by repeat (first | (with_reducible first | exact HB.out | apply below_alloc | apply pw_below_drewN | apply below_drew1) | exact HB.out)⟩⟩
      · rw [if_neg c6] at H
        have c6b0 : decide (3000 < (a0.size : Int)) = false := decide_eq_false c6
        have c6b1 : decide (3000 < a0.size) = false := decide_eq_false (by omega)
        clear c6
        (first | rw [c6b0] | (simp only [i64_w, i32_w]; rw [c6b0]) | skip)
        by_cases c8 : (l1.length : Int) > 3000
        · rw [if_pos c8] at H
          have c8b0 : decide (3000 < (l1.length : Int)) = true := decide_eq_true c8
          have c8b1 : decide (3000 < l1.length) = true := decide_eq_true (by omega)
          clear c8
          have H' := Aside0.mk H
          clear H
          go_wp2_with (first | (go_at_call 12; (with_reducible refine (alidadelaw12_works.calls k  true _ A4.out).mono ?_); rintro e w9 ⟨rfl, hb⟩; have n0_ := Aside0.mk (below_step (by repeat (first | (with_reducible first | exact HB.out | apply below_alloc | apply pw_below_drewN | apply below_drew1) | exact HB.out)) hb); clear HB; have HB := n0_; clear n0_; (try clear hb); (try clear hb2); (try clear hk); (try clear hi)))
          repeat (go_quiet (first | (go_at_call 12; (fail_if_success (have hx_ := mktrue_)); have mktrue_ := Aside0.mk (Nat.le_refl 0); (with_reducible refine (alidadelaw12_works.calls k  true _ A4.out).mono ?_); rintro e w9 ⟨rfl, hb⟩; have n0_ := Aside0.mk (below_step (by repeat (first | (with_reducible first | exact HB.out | apply below_alloc | apply pw_below_drewN | apply below_drew1) | exact HB.out)) hb); clear HB; have HB := n0_; clear n0_; (try clear hb); (try clear hb2); (try clear hk); (try clear hi))); try go_wp2_with (first | (go_at_call 12; (with_reducible refine (alidadelaw12_works.calls k  true _ A4.out).mono ?_); rintro e w9 ⟨rfl, hb⟩; have n0_ := Aside0.mk (below_step (by repeat (first | (with_reducible first | exact HB.out | apply below_alloc | apply pw_below_drewN | apply below_drew1) | exact HB.out)) hb); clear HB; have HB := n0_; clear n0_; (try clear hb); (try clear hb2); (try clear hk); (try clear hi))))
          go_meet
          case rel => exact ⟨_, (true), (by first | rfl | (simp; done) | (simp [*]; done)), H', ⟨by first | omega | exact Nat.le_refl _⟩, ⟨by repeat (first | (with_reducible first | exact HB.out | apply below_alloc | apply pw_below_drewN | apply below_drew1) | exact HB.out)⟩⟩
        · rw [if_neg c8] at H
          have c8b0 : decide (3000 < (l1.length : Int)) = false := decide_eq_false c8
          have c8b1 : decide (3000 < l1.length) = false := decide_eq_false (by omega)
          clear c8
          have H' := Aside0.mk H
          clear H
          go_wp2_with (first | (go_at_call 12; (with_reducible refine (alidadelaw12_works.calls k  true _ A4.out).mono ?_); rintro e w10 ⟨rfl, hb⟩; have n0_ := Aside0.mk (below_step (by repeat (first | (with_reducible first | exact HB.out | apply below_alloc | apply pw_below_drewN | apply below_drew1) | exact HB.out)) hb); clear HB; have HB := n0_; clear n0_; (try clear hb); (try clear hb2); (try clear hk); (try clear hi)))
          repeat (go_quiet (first | (go_at_call 12; (fail_if_success (have hx_ := mktrue_)); have mktrue_ := Aside0.mk (Nat.le_refl 0); (with_reducible refine (alidadelaw12_works.calls k  true _ A4.out).mono ?_); rintro e w10 ⟨rfl, hb⟩; have n0_ := Aside0.mk (below_step (by repeat (first | (with_reducible first | exact HB.out | apply below_alloc | apply pw_below_drewN | apply below_drew1) | exact HB.out)) hb); clear HB; have HB := n0_; clear n0_; (try clear hb); (try clear hb2); (try clear hk); (try clear hi))); try go_wp2_with (first | (go_at_call 12; (with_reducible refine (alidadelaw12_works.calls k  true _ A4.out).mono ?_); rintro e w10 ⟨rfl, hb⟩; have n0_ := Aside0.mk (below_step (by repeat (first | (with_reducible first | exact HB.out | apply below_alloc | apply pw_below_drewN | apply below_drew1) | exact HB.out)) hb); clear HB; have HB := n0_; clear n0_; (try clear hb); (try clear hb2); (try clear hk); (try clear hi))))
          go_meet
          case rel => exact ⟨_, (((l1.length : Int) == 0)), (by first | rfl | (simp; done) | (simp [*]; done)), H', ⟨by first | omega | exact Nat.le_refl _⟩, ⟨by repeat (first | (with_reducible first | exact HB.out | apply below_alloc | apply pw_below_drewN | apply below_drew1) | exact HB.out)⟩⟩
    · replace c5 := Bool.eq_false_iff.mpr c5
      subst c5
      have H1 : (alidadelaw12_LexParted.j0 k a0 l1 true) = some r := by rw [if_neg (show ¬ (false = true) by decide)] at H; exact H
      clear H
      have H := H1
      clear H1
      have H' := Aside0.mk H
      clear H
      go_wp2_with (first | (go_at_call 12; (with_reducible refine (alidadelaw12_works.calls k  false _ A4.out).mono ?_); rintro e w11 ⟨rfl, hb⟩; have n0_ := Aside0.mk (below_step (by repeat (first | (with_reducible first | exact HB.out | apply below_alloc | apply pw_below_drewN | apply below_drew1) | exact HB.out)) hb); clear HB; have HB := n0_; clear n0_; (try clear hb); (try clear hb2); (try clear hk); (try clear hi)))
      repeat (go_quiet (first | (go_at_call 12; (fail_if_success (have hx_ := mkfalse_)); have mkfalse_ := Aside0.mk (Nat.le_refl 0); (with_reducible refine (alidadelaw12_works.calls k  false _ A4.out).mono ?_); rintro e w11 ⟨rfl, hb⟩; have n0_ := Aside0.mk (below_step (by repeat (first | (with_reducible first | exact HB.out | apply below_alloc | apply pw_below_drewN | apply below_drew1) | exact HB.out)) hb); clear HB; have HB := n0_; clear n0_; (try clear hb); (try clear hb2); (try clear hk); (try clear hi))); try go_wp2_with (first | (go_at_call 12; (with_reducible refine (alidadelaw12_works.calls k  false _ A4.out).mono ?_); rintro e w11 ⟨rfl, hb⟩; have n0_ := Aside0.mk (below_step (by repeat (first | (with_reducible first | exact HB.out | apply below_alloc | apply pw_below_drewN | apply below_drew1) | exact HB.out)) hb); clear HB; have HB := n0_; clear n0_; (try clear hb); (try clear hb2); (try clear hk); (try clear hi))))
      go_meet
      case rel => exact ⟨_, (true), (by first | rfl | (simp; done) | (simp [*]; done)), H', ⟨by first | omega | exact Nat.le_refl _⟩, ⟨by repeat (first | (with_reducible first | exact HB.out | apply below_alloc | apply pw_below_drewN | apply below_drew1) | exact HB.out)⟩⟩
  case rest =>
    clear HC3
    try clear c1
    try clear p2
    try clear c5
    try clear c6
    try clear c6b0
    try clear c6b1
    try clear c8
    try clear c8b0
    try clear c8b1
    obtain ⟨kq, x32_2, rfl, HA, HJ2, HB⟩ := hcut
    cases kq with
    | zero => exact absurd HA.out (by simp [alidadelaw12_LexParted.j0])
    | succ kj2 =>
      have H := HA.out
      clear HA
      simp only [alidadelaw12_LexParted.j0] at H
      by_cases c12 : x32_2 = true
      · subst c12
        have H1 : ((alidadelaw12_works.f kj2).bind fun t218 => (some t218)) = some r := by rw [if_pos rfl] at H; exact H
        clear H
        have H := H1
        clear H1
        replace H := Option.bind_eq_some_iff.mp H
        obtain ⟨t218, A130, H⟩ := H
        replace H : (some t218) = some r := H
        have A13 := Aside0.mk A130
        clear A130
        obtain rfl := Option.some.inj H
        go_wp2_with (first | (go_at_call 12; (with_reducible refine (alidadelaw12_works.calls kj2  t218 _ A13.out).mono ?_); rintro e w14 ⟨rfl, hb⟩; have n0_ := Aside0.mk (below_step (by repeat (first | (with_reducible first | exact HB.out | apply below_alloc | apply pw_below_drewN | apply below_drew1) | exact HB.out)) hb); clear HB; have HB := n0_; clear n0_; (try clear hb); (try clear hb2); (try clear hk); (try clear hi)))
        repeat (go_quiet (first | (go_at_call 12; (fail_if_success (have hx_ := mkt218_)); have mkt218_ := Aside0.mk (Nat.le_refl 0); (with_reducible refine (alidadelaw12_works.calls kj2  t218 _ A13.out).mono ?_); rintro e w14 ⟨rfl, hb⟩; have n0_ := Aside0.mk (below_step (by repeat (first | (with_reducible first | exact HB.out | apply below_alloc | apply pw_below_drewN | apply below_drew1) | exact HB.out)) hb); clear HB; have HB := n0_; clear n0_; (try clear hb); (try clear hb2); (try clear hk); (try clear hi))); try go_wp2_with (first | (go_at_call 12; (with_reducible refine (alidadelaw12_works.calls kj2  t218 _ A13.out).mono ?_); rintro e w14 ⟨rfl, hb⟩; have n0_ := Aside0.mk (below_step (by repeat (first | (with_reducible first | exact HB.out | apply below_alloc | apply pw_below_drewN | apply below_drew1) | exact HB.out)) hb); clear HB; have HB := n0_; clear n0_; (try clear hb); (try clear hb2); (try clear hk); (try clear hi))))
        go_ret
        exact ⟨by first | rfl | (simp [errW_none, errW_some] <;> rfl) | (simp [*, errW_none, errW_some] <;> rfl), by repeat (first | (with_reducible first | exact HB.out | apply below_alloc | apply pw_below_drewN | apply below_drew1) | exact HB.out)⟩
      · replace c12 := Bool.eq_false_iff.mpr c12
        subst c12
        have H1 : ((lex_Words.f kj2 a0).bind fun bt219 => (if bt219.2.2 = 0 then (alidadelaw12_LexParted.l0 kj2 l1 bt219.1 (([(⟨#[]⟩ : ByteArray), (⟨#[32]⟩ : ByteArray), (⟨#[10]⟩ : ByteArray), (⟨#[9, 13, 10]⟩ : ByteArray), (⟨#[59, 120, 10]⟩ : ByteArray), (⟨#[32, 59, 32, 40, 97, 10, 10]⟩ : ByteArray), (⟨#[59, 59, 10, 59, 10]⟩ : ByteArray)] : List ByteArray)) (⟨#[]⟩ : ByteArray) 0 0) else (some true))) = some r := by rw [if_neg (show ¬ (false = true) by decide)] at H; exact H
        clear H
        have H := H1
        clear H1
        replace H := Option.bind_eq_some_iff.mp H
        obtain ⟨⟨t219, t220, t221⟩, A150, H⟩ := H
        replace H : (if t221 = 0 then (alidadelaw12_LexParted.l0 kj2 l1 t219 (([(⟨#[]⟩ : ByteArray), (⟨#[32]⟩ : ByteArray), (⟨#[10]⟩ : ByteArray), (⟨#[9, 13, 10]⟩ : ByteArray), (⟨#[59, 120, 10]⟩ : ByteArray), (⟨#[32, 59, 32, 40, 97, 10, 10]⟩ : ByteArray), (⟨#[59, 59, 10, 59, 10]⟩ : ByteArray)] : List ByteArray)) (⟨#[]⟩ : ByteArray) 0 0) else (some true)) = some r := H
        have A15 := Aside0.mk A150
        clear A150
        by_cases c16 : t221 = 0
        · rw [if_pos c16] at H
          have c16b0 : (t221 == 0) = true := beq_iff_eq.mpr c16
          have c16b1 : (t221 != 0) = false := bne_eq_false_iff_eq.mpr c16
          clear c16
          obtain ⟨y224, hy224⟩ : ∃ y_ : List ByteArray, y_ = (([(⟨#[]⟩ : ByteArray), (⟨#[32]⟩ : ByteArray), (⟨#[10]⟩ : ByteArray), (⟨#[9, 13, 10]⟩ : ByteArray), (⟨#[59, 120, 10]⟩ : ByteArray), (⟨#[32, 59, 32, 40, 97, 10, 10]⟩ : ByteArray), (⟨#[59, 59, 10, 59, 10]⟩ : ByteArray)] : List ByteArray)) := ⟨_, rfl⟩
          replace H : (alidadelaw12_LexParted.l0 kj2 l1 t219 y224 (⟨#[]⟩ : ByteArray) 0 0) = some r := by first | (rw [hy224]; with_reducible exact H) | (have H2_ := (Option.bind_some _ _).symm.trans H; rw [hy224]; with_reducible exact H2_) | (have H2_ := (Option.bind_some _ _).symm.trans H; with_reducible exact H2_) | with_reducible exact H | (rw [hy224]; exact H) | exact H
          have Ny224 := Aside0.mk hy224
          clear hy224
          have H' := Aside0.mk H
          clear H
          go_wp2_with (first | (go_at_call 14; (with_reducible refine (lex_Words.calls kj2 a0 t219 t220 t221 _ A15.out).mono ?_); rintro e w17 ⟨v222, rfl, ho0, hb⟩; have n0_ := Aside0.mk (Kd.R_lower ho0 (below_size (by repeat (first | (with_reducible first | exact HB.out | apply below_alloc | apply pw_below_drewN | apply below_drew1) | exact HB.out)))); have n1_ := Aside0.mk (below_step (by repeat (first | (with_reducible first | exact HB.out | apply below_alloc | apply pw_below_drewN | apply below_drew1) | exact HB.out)) hb); clear HB; have HO223 := n0_; have HB := n1_; clear n0_ n1_; (try clear hb); (try clear hb2); (try clear hk); (try clear hi); (try clear ho0)) | ((with_reducible refine gate_dst (N := 42) rfl ?_); (try (refine gate_guard (by rfl) ?_; dsimp only)); refine Kd.R_lit Kd.string _ 9 ?hg (N := 42) ?hd (xs := ([(⟨#[]⟩ : ByteArray), (⟨#[32]⟩ : ByteArray), (⟨#[10]⟩ : ByteArray), (⟨#[9, 13, 10]⟩ : ByteArray), (⟨#[59, 120, 10]⟩ : ByteArray), (⟨#[32, 59, 32, 40, 97, 10, 10]⟩ : ByteArray), (⟨#[59, 59, 10, 59, 10]⟩ : ByteArray)] : List ByteArray)) (inner := [.string (⟨#[]⟩ : ByteArray), .string (⟨#[32]⟩ : ByteArray), .string (⟨#[10]⟩ : ByteArray), .string (⟨#[9, 13, 10]⟩ : ByteArray), .string (⟨#[59, 120, 10]⟩ : ByteArray), .string (⟨#[32, 59, 32, 40, 97, 10, 10]⟩ : ByteArray), .string (⟨#[59, 59, 10, 59, 10]⟩ : ByteArray)]) (ok := fun _ => True) (okp := fun _ => True) ?hr ?hp (fun _ hk => hk) trivial (Below.refl _ _) (Nat.le_refl _) (by simp) ?_; (case hd => rfl); (case hg => rfl); (case hr => first | (go_simp; done) | (go_simp; rfl)); (case hp => exact (Reps.one (show Kd.M Kd.string _ _ _ (⟨#[]⟩ : ByteArray) [.string (⟨#[]⟩ : ByteArray)] from rfl) (Reps.one (show Kd.M Kd.string _ _ _ (⟨#[32]⟩ : ByteArray) [.string (⟨#[32]⟩ : ByteArray)] from rfl) (Reps.one (show Kd.M Kd.string _ _ _ (⟨#[10]⟩ : ByteArray) [.string (⟨#[10]⟩ : ByteArray)] from rfl) (Reps.one (show Kd.M Kd.string _ _ _ (⟨#[9, 13, 10]⟩ : ByteArray) [.string (⟨#[9, 13, 10]⟩ : ByteArray)] from rfl) (Reps.one (show Kd.M Kd.string _ _ _ (⟨#[59, 120, 10]⟩ : ByteArray) [.string (⟨#[59, 120, 10]⟩ : ByteArray)] from rfl) (Reps.one (show Kd.M Kd.string _ _ _ (⟨#[32, 59, 32, 40, 97, 10, 10]⟩ : ByteArray) [.string (⟨#[32, 59, 32, 40, 97, 10, 10]⟩ : ByteArray)] from rfl) (Reps.one (show Kd.M Kd.string _ _ _ (⟨#[59, 59, 10, 59, 10]⟩ : ByteArray) [.string (⟨#[59, 59, 10, 59, 10]⟩ : ByteArray)] from rfl) (Reps.none _ _))))))))); intro v225 w18 ho19 hb hg_ hnew_; clear hg_ hnew_; (first | rw [← Ny224.out] at ho19 | (simp only [Int.reduceToNat] at ho19; rw [← Ny224.out] at ho19)); have n0_ := Aside0.mk (Kd.R_below (by (with_reducible repeat (first | apply Kd.R_alloc | apply Kd.R_drewN | apply Kd.R_drew)); exact HO223.out) hb); have n1_ := Aside0.mk (Kd.R_lower ho19 (below_size (by repeat (first | (with_reducible first | exact HB.out | apply below_alloc | apply pw_below_drewN | apply below_drew1) | exact HB.out)))); have n2_ := Aside0.mk (below_step (by repeat (first | (with_reducible first | exact HB.out | apply below_alloc | apply pw_below_drewN | apply below_drew1) | exact HB.out)) hb); clear HO223; clear HB; have HO223 := n0_; have HO226 := n1_; have HB := n2_; clear n0_ n1_ n2_; clear hb ho19))
          repeat (go_quiet (first | (go_at_call 14; (fail_if_success (have hx_ := mkt221_)); have mkt221_ := Aside0.mk (Nat.le_refl 0); (with_reducible refine (lex_Words.calls kj2 a0 t219 t220 t221 _ A15.out).mono ?_); rintro e w17 ⟨v222, rfl, ho0, hb⟩; have n0_ := Aside0.mk (Kd.R_lower ho0 (below_size (by repeat (first | (with_reducible first | exact HB.out | apply below_alloc | apply pw_below_drewN | apply below_drew1) | exact HB.out)))); have n1_ := Aside0.mk (below_step (by repeat (first | (with_reducible first | exact HB.out | apply below_alloc | apply pw_below_drewN | apply below_drew1) | exact HB.out)) hb); clear HB; have HO223 := n0_; have HB := n1_; clear n0_ n1_; (try clear hb); (try clear hb2); (try clear hk); (try clear hi); (try clear ho0)) | ((with_reducible refine gate_dst (N := 42) rfl ?_); (try (refine gate_guard (by rfl) ?_; dsimp only)); refine Kd.R_lit Kd.string _ 9 ?hg (N := 42) ?hd (xs := ([(⟨#[]⟩ : ByteArray), (⟨#[32]⟩ : ByteArray), (⟨#[10]⟩ : ByteArray), (⟨#[9, 13, 10]⟩ : ByteArray), (⟨#[59, 120, 10]⟩ : ByteArray), (⟨#[32, 59, 32, 40, 97, 10, 10]⟩ : ByteArray), (⟨#[59, 59, 10, 59, 10]⟩ : ByteArray)] : List ByteArray)) (inner := [.string (⟨#[]⟩ : ByteArray), .string (⟨#[32]⟩ : ByteArray), .string (⟨#[10]⟩ : ByteArray), .string (⟨#[9, 13, 10]⟩ : ByteArray), .string (⟨#[59, 120, 10]⟩ : ByteArray), .string (⟨#[32, 59, 32, 40, 97, 10, 10]⟩ : ByteArray), .string (⟨#[59, 59, 10, 59, 10]⟩ : ByteArray)]) (ok := fun _ => True) (okp := fun _ => True) ?hr ?hp (fun _ hk => hk) trivial (Below.refl _ _) (Nat.le_refl _) (by simp) ?_; (case hd => rfl); (case hg => rfl); (case hr => first | (go_simp; done) | (go_simp; rfl)); (case hp => exact (Reps.one (show Kd.M Kd.string _ _ _ (⟨#[]⟩ : ByteArray) [.string (⟨#[]⟩ : ByteArray)] from rfl) (Reps.one (show Kd.M Kd.string _ _ _ (⟨#[32]⟩ : ByteArray) [.string (⟨#[32]⟩ : ByteArray)] from rfl) (Reps.one (show Kd.M Kd.string _ _ _ (⟨#[10]⟩ : ByteArray) [.string (⟨#[10]⟩ : ByteArray)] from rfl) (Reps.one (show Kd.M Kd.string _ _ _ (⟨#[9, 13, 10]⟩ : ByteArray) [.string (⟨#[9, 13, 10]⟩ : ByteArray)] from rfl) (Reps.one (show Kd.M Kd.string _ _ _ (⟨#[59, 120, 10]⟩ : ByteArray) [.string (⟨#[59, 120, 10]⟩ : ByteArray)] from rfl) (Reps.one (show Kd.M Kd.string _ _ _ (⟨#[32, 59, 32, 40, 97, 10, 10]⟩ : ByteArray) [.string (⟨#[32, 59, 32, 40, 97, 10, 10]⟩ : ByteArray)] from rfl) (Reps.one (show Kd.M Kd.string _ _ _ (⟨#[59, 59, 10, 59, 10]⟩ : ByteArray) [.string (⟨#[59, 59, 10, 59, 10]⟩ : ByteArray)] from rfl) (Reps.none _ _))))))))); intro v225 w18 ho19 hb hg_ hnew_; clear hg_ hnew_; (first | rw [← Ny224.out] at ho19 | (simp only [Int.reduceToNat] at ho19; rw [← Ny224.out] at ho19)); have n0_ := Aside0.mk (Kd.R_below (by (with_reducible repeat (first | apply Kd.R_alloc | apply Kd.R_drewN | apply Kd.R_drew)); exact HO223.out) hb); have n1_ := Aside0.mk (Kd.R_lower ho19 (below_size (by repeat (first | (with_reducible first | exact HB.out | apply below_alloc | apply pw_below_drewN | apply below_drew1) | exact HB.out)))); have n2_ := Aside0.mk (below_step (by repeat (first | (with_reducible first | exact HB.out | apply below_alloc | apply pw_below_drewN | apply below_drew1) | exact HB.out)) hb); clear HO223; clear HB; have HO223 := n0_; have HO226 := n1_; have HB := n2_; clear n0_ n1_ n2_; clear hb ho19)); try go_wp2_with (first | (go_at_call 14; (with_reducible refine (lex_Words.calls kj2 a0 t219 t220 t221 _ A15.out).mono ?_); rintro e w17 ⟨v222, rfl, ho0, hb⟩; have n0_ := Aside0.mk (Kd.R_lower ho0 (below_size (by repeat (first | (with_reducible first | exact HB.out | apply below_alloc | apply pw_below_drewN | apply below_drew1) | exact HB.out)))); have n1_ := Aside0.mk (below_step (by repeat (first | (with_reducible first | exact HB.out | apply below_alloc | apply pw_below_drewN | apply below_drew1) | exact HB.out)) hb); clear HB; have HO223 := n0_; have HB := n1_; clear n0_ n1_; (try clear hb); (try clear hb2); (try clear hk); (try clear hi); (try clear ho0)) | ((with_reducible refine gate_dst (N := 42) rfl ?_); (try (refine gate_guard (by rfl) ?_; dsimp only)); refine Kd.R_lit Kd.string _ 9 ?hg (N := 42) ?hd (xs := ([(⟨#[]⟩ : ByteArray), (⟨#[32]⟩ : ByteArray), (⟨#[10]⟩ : ByteArray), (⟨#[9, 13, 10]⟩ : ByteArray), (⟨#[59, 120, 10]⟩ : ByteArray), (⟨#[32, 59, 32, 40, 97, 10, 10]⟩ : ByteArray), (⟨#[59, 59, 10, 59, 10]⟩ : ByteArray)] : List ByteArray)) (inner := [.string (⟨#[]⟩ : ByteArray), .string (⟨#[32]⟩ : ByteArray), .string (⟨#[10]⟩ : ByteArray), .string (⟨#[9, 13, 10]⟩ : ByteArray), .string (⟨#[59, 120, 10]⟩ : ByteArray), .string (⟨#[32, 59, 32, 40, 97, 10, 10]⟩ : ByteArray), .string (⟨#[59, 59, 10, 59, 10]⟩ : ByteArray)]) (ok := fun _ => True) (okp := fun _ => True) ?hr ?hp (fun _ hk => hk) trivial (Below.refl _ _) (Nat.le_refl _) (by simp) ?_; (case hd => rfl); (case hg => rfl); (case hr => first | (go_simp; done) | (go_simp; rfl)); (case hp => exact (Reps.one (show Kd.M Kd.string _ _ _ (⟨#[]⟩ : ByteArray) [.string (⟨#[]⟩ : ByteArray)] from rfl) (Reps.one (show Kd.M Kd.string _ _ _ (⟨#[32]⟩ : ByteArray) [.string (⟨#[32]⟩ : ByteArray)] from rfl) (Reps.one (show Kd.M Kd.string _ _ _ (⟨#[10]⟩ : ByteArray) [.string (⟨#[10]⟩ : ByteArray)] from rfl) (Reps.one (show Kd.M Kd.string _ _ _ (⟨#[9, 13, 10]⟩ : ByteArray) [.string (⟨#[9, 13, 10]⟩ : ByteArray)] from rfl) (Reps.one (show Kd.M Kd.string _ _ _ (⟨#[59, 120, 10]⟩ : ByteArray) [.string (⟨#[59, 120, 10]⟩ : ByteArray)] from rfl) (Reps.one (show Kd.M Kd.string _ _ _ (⟨#[32, 59, 32, 40, 97, 10, 10]⟩ : ByteArray) [.string (⟨#[32, 59, 32, 40, 97, 10, 10]⟩ : ByteArray)] from rfl) (Reps.one (show Kd.M Kd.string _ _ _ (⟨#[59, 59, 10, 59, 10]⟩ : ByteArray) [.string (⟨#[59, 59, 10, 59, 10]⟩ : ByteArray)] from rfl) (Reps.none _ _))))))))); intro v225 w18 ho19 hb hg_ hnew_; clear hg_ hnew_; (first | rw [← Ny224.out] at ho19 | (simp only [Int.reduceToNat] at ho19; rw [← Ny224.out] at ho19)); have n0_ := Aside0.mk (Kd.R_below (by (with_reducible repeat (first | apply Kd.R_alloc | apply Kd.R_drewN | apply Kd.R_drew)); exact HO223.out) hb); have n1_ := Aside0.mk (Kd.R_lower ho19 (below_size (by repeat (first | (with_reducible first | exact HB.out | apply below_alloc | apply pw_below_drewN | apply below_drew1) | exact HB.out)))); have n2_ := Aside0.mk (below_step (by repeat (first | (with_reducible first | exact HB.out | apply below_alloc | apply pw_below_drewN | apply below_drew1) | exact HB.out)) hb); clear HO223; clear HB; have HO223 := n0_; have HO226 := n1_; have HB := n2_; clear n0_ n1_ n2_; clear hb ho19)))
          go_loopg [9, 10, 11] kj2 (fun kq v9 v10 v11 w' => ∃ (x9_2 : ByteArray) (x10_2 : Int) (x11_2 : Int), v9 = .string x9_2 ∧ v10 = .int .i64 x10_2 ∧ v11 = .int .i64 x11_2 ∧ Aside0 (alidadelaw12_LexParted.l0 kq l1 t219 y224 x9_2 x10_2 x11_2 = some r) ∧ Aside0 (kq ≤ kj2) ∧ Aside0 (Kd.R k32 32 w' w.heap.size (fun _ => True) v222 t219) ∧ Aside0 (Kd.R Kd.string 9 w' w.heap.size (fun _ => True) v225 y224) ∧ Aside0 (Below w.heap.size w w'))
          case atStart => exact ⟨((⟨#[]⟩ : ByteArray)), (0), (0), (by first | rfl | (simp; done) | (simp [*]; done)), (by first | rfl | (simp; done) | (simp [*]; done)), (by first | rfl | (simp; done) | (simp [*]; done)), H', ⟨Nat.le_refl _⟩, ⟨by (with_reducible repeat (first | apply Kd.R_alloc | apply Kd.R_drewN | apply Kd.R_drew)); exact HO223.out⟩, ⟨by (with_reducible repeat (first | apply Kd.R_alloc | apply Kd.R_drewN | apply Kd.R_drew)); exact HO226.out⟩, ⟨by repeat (first | (with_reducible first | exact HB.out | apply below_alloc | apply pw_below_drewN | apply below_drew1) | exact HB.out)⟩⟩
          case round =>
            clear H'
            try clear c1
            try clear p2
            try clear c5
            try clear c6
            try clear c6b0
            try clear c6b1
            try clear c8
            try clear c8b0
            try clear c8b1
            try clear c12
            try clear c16
            try clear c16b0
            try clear c16b1
            try clear p2
            obtain ⟨x9_2, x10_2, x11_2, rfl, rfl, rfl, HA, HK2, HO_5, HO_8, HB⟩ := hrel
            cases gk with
            | zero => exact absurd HA.out (by simp [alidadelaw12_LexParted.l0])
            | succ k2 =>
              have H := HA.out
              clear HA
              simp only [alidadelaw12_LexParted.l0] at H
              by_cases c20 : x11_2 < (t219.length : Int)
              · rw [if_pos c20] at H
                have c20b0 : decide (x11_2 < (t219.length : Int)) = true := decide_eq_true c20
                clear c20
                by_cases c21 : (l1.length : Int) = 0
                · rw [if_pos c21] at H
                  exact absurd H (by simp)
                · rw [if_neg c21] at H
                  have c21b0 : ((l1.length : Int) == 0) = false := beq_eq_false_iff_ne.mpr c21
                  have c21b1 : ((l1.length : Int) != 0) = true := bne_iff_ne.mpr c21
                  have c21b2 : ¬ (l1 = []) := fun h_ => c21 (by rw [h_]; rfl)
                  obtain ⟨ji22, hji22⟩ : ∃ j_ : Int, (Int.tmod x11_2 (l1.length : Int)) = j_ := ⟨_, rfl⟩
                  replace H : (if 0 ≤ (ji22) then (if (ji22) < (l1.length : Int) then (if (y224.length : Int) = 0 then (none) else (if (Int.tmod (wrap64 (rd l1 (ji22))) (y224.length : Int)) = 0 then (if 0 ≤ x11_2 then (if ((rd_T32 t219 x11_2).f1) > x10_2 then (if x11_2 > 0 then (if 1 < (y224.length : Int) then (if x9_2.size + (rdOf ByteArray.empty y224 1).size ≤ 9223372036854775807 then (if (x9_2 ++ (rdOf ByteArray.empty y224 1)).size + ((rd_T32 t219 x11_2).f3).size ≤ 9223372036854775807 then (alidadelaw12_LexParted.l0 k2 l1 t219 y224 ((x9_2 ++ (rdOf ByteArray.empty y224 1)) ++ ((rd_T32 t219 x11_2).f3)) ((rd_T32 t219 x11_2).f2) (wrap64 (x11_2 + 1))) else (none)) else (none)) else (none)) else (if 0 ≤ (Int.tmod (wrap64 (rd l1 (ji22))) (y224.length : Int)) then (if (Int.tmod (wrap64 (rd l1 (ji22))) (y224.length : Int)) < (y224.length : Int) then (if x9_2.size + (rdOf ByteArray.empty y224 (Int.tmod (wrap64 (rd l1 (ji22))) (y224.length : Int))).size ≤ 9223372036854775807 then (if (x9_2 ++ (rdOf ByteArray.empty y224 (Int.tmod (wrap64 (rd l1 (ji22))) (y224.length : Int)))).size + ((rd_T32 t219 x11_2).f3).size ≤ 9223372036854775807 then (alidadelaw12_LexParted.l0 k2 l1 t219 y224 ((x9_2 ++ (rdOf ByteArray.empty y224 (Int.tmod (wrap64 (rd l1 (ji22))) (y224.length : Int)))) ++ ((rd_T32 t219 x11_2).f3)) ((rd_T32 t219 x11_2).f2) (wrap64 (x11_2 + 1))) else (none)) else (none)) else (none)) else (none))) else (if 0 ≤ (Int.tmod (wrap64 (rd l1 (ji22))) (y224.length : Int)) then (if (Int.tmod (wrap64 (rd l1 (ji22))) (y224.length : Int)) < (y224.length : Int) then (if x9_2.size + (rdOf ByteArray.empty y224 (Int.tmod (wrap64 (rd l1 (ji22))) (y224.length : Int))).size ≤ 9223372036854775807 then (if (x9_2 ++ (rdOf ByteArray.empty y224 (Int.tmod (wrap64 (rd l1 (ji22))) (y224.length : Int)))).size + ((rd_T32 t219 x11_2).f3).size ≤ 9223372036854775807 then (alidadelaw12_LexParted.l0 k2 l1 t219 y224 ((x9_2 ++ (rdOf ByteArray.empty y224 (Int.tmod (wrap64 (rd l1 (ji22))) (y224.length : Int)))) ++ ((rd_T32 t219 x11_2).f3)) ((rd_T32 t219 x11_2).f2) (wrap64 (x11_2 + 1))) else (none)) else (none)) else (none)) else (none))) else (none)) else (if 0 ≤ (Int.tmod (wrap64 (rd l1 (ji22))) (y224.length : Int)) then (if (Int.tmod (wrap64 (rd l1 (ji22))) (y224.length : Int)) < (y224.length : Int) then (if x9_2.size + (rdOf ByteArray.empty y224 (Int.tmod (wrap64 (rd l1 (ji22))) (y224.length : Int))).size ≤ 9223372036854775807 then (if 0 ≤ x11_2 then (if (x9_2 ++ (rdOf ByteArray.empty y224 (Int.tmod (wrap64 (rd l1 (ji22))) (y224.length : Int)))).size + ((rd_T32 t219 x11_2).f3).size ≤ 9223372036854775807 then (alidadelaw12_LexParted.l0 k2 l1 t219 y224 ((x9_2 ++ (rdOf ByteArray.empty y224 (Int.tmod (wrap64 (rd l1 (ji22))) (y224.length : Int)))) ++ ((rd_T32 t219 x11_2).f3)) ((rd_T32 t219 x11_2).f2) (wrap64 (x11_2 + 1))) else (none)) else (none)) else (none)) else (none)) else (none)))) else (none)) else (none)) = some r := by first | (rw [hji22] at H; exact H) | (simp only [hji22] at H ⊢; exact H)
                  by_cases c23 : 0 ≤ (ji22)
                  · rw [if_pos c23] at H
                    have c23b0 : decide (0 ≤ (ji22)) = true := decide_eq_true c23
                    clear c23
                    by_cases c24 : (ji22) < (l1.length : Int)
                    · rw [if_pos c24] at H
                      have c24b0 : decide ((ji22) < (l1.length : Int)) = true := decide_eq_true c24
                      clear c24
                      by_cases c25 : (y224.length : Int) = 0
                      · rw [if_pos c25] at H
                        exact absurd H (by simp)
                      · rw [if_neg c25] at H
                        have c25b0 : ((y224.length : Int) == 0) = false := beq_eq_false_iff_ne.mpr c25
                        have c25b1 : ((y224.length : Int) != 0) = true := bne_iff_ne.mpr c25
                        have c25b2 : ¬ (y224 = []) := fun h_ => c25 (by rw [h_]; rfl)
                        by_cases c26 : (Int.tmod (wrap64 (rd l1 (ji22))) (y224.length : Int)) = 0
                        · rw [if_pos c26] at H
                          have c26b0 : ((Int.tmod (wrap64 (rd l1 (ji22))) (y224.length : Int)) == 0) = true := beq_iff_eq.mpr c26
                          have c26b1 : ((Int.tmod (wrap64 (rd l1 (ji22))) (y224.length : Int)) != 0) = false := bne_eq_false_iff_eq.mpr c26
                          clear c26
                          by_cases c27 : 0 ≤ x11_2
                          · rw [if_pos c27] at H
                            have c27b0 : decide (0 ≤ x11_2) = true := decide_eq_true c27
                            clear c27
                            by_cases c28 : ((rd_T32 t219 x11_2).f1) > x10_2
                            · rw [if_pos c28] at H
                              have c28b0 : decide (x10_2 < ((rd_T32 t219 x11_2).f1)) = true := decide_eq_true c28
                              clear c28
                              by_cases c29 : x11_2 > 0
                              · rw [if_pos c29] at H
                                have c29b0 : decide (0 < x11_2) = true := decide_eq_true c29
                                clear c29
                                by_cases c30 : 1 < (y224.length : Int)
                                · rw [if_pos c30] at H
                                  have c30b0 : decide (1 < (y224.length : Int)) = true := decide_eq_true c30
                                  have c30b1 : decide (1 < y224.length) = true := decide_eq_true (by omega)
                                  clear c30
                                  by_cases c31 : x9_2.size + (rdOf ByteArray.empty y224 1).size ≤ 9223372036854775807
                                  · rw [if_pos c31] at H
                                    have c31b0 := eq_true c31
                                    have c31b1 : decide (x9_2.size + (rdOf ByteArray.empty y224 1).size ≤ 9223372036854775807) = true := decide_eq_true c31
                                    try have c31b2 : (9223372036854775807 < x9_2.size + (rdOf ByteArray.empty y224 1).size) = False := eq_false (Nat.not_lt.2 c31)
                                    by_cases c32 : (x9_2 ++ (rdOf ByteArray.empty y224 1)).size + ((rd_T32 t219 x11_2).f3).size ≤ 9223372036854775807
                                    · rw [if_pos c32] at H
                                      have c32b0 := eq_true c32
                                      have c32b1 : decide ((x9_2 ++ (rdOf ByteArray.empty y224 1)).size + ((rd_T32 t219 x11_2).f3).size ≤ 9223372036854775807) = true := decide_eq_true c32
                                      try have c32b2 : (9223372036854775807 < (x9_2 ++ (rdOf ByteArray.empty y224 1)).size + ((rd_T32 t219 x11_2).f3).size) = False := eq_false (Nat.not_lt.2 c32)
                                      try (have c32b3 := c32b2; simp only [ByteArray.size_append] at c32b3)
                                      have H' := Aside0.mk H
                                      clear H
                                      obtain ⟨Ao33, co33, eo33⟩ := Kd.R_slice HO_5.out
                                      subst eo33
                                      have p227 : 0 ≤ ((ji22) : Int) := of_decide_eq_true (by first | (with_reducible assumption) | assumption)
                                      have q227 : (ji22) < (l1.length : Int) := of_decide_eq_true (by first | (with_reducible assumption) | assumption)
                                      obtain ⟨ad227, e227, hx227_0⟩ := Kd.at_int HR1.out (ji22) p227 q227
                                      cases e227
                                      replace hx227_0 := (HB.out.cell (World.block_lt_of_cell? w _ hx227_0)).trans hx227_0
                                      replace p227 := eq_true p227
                                      replace q227 := eq_true q227
                                      obtain ⟨Ao34, co34, eo34⟩ := Kd.R_slice HO_8.out
                                      subst eo34
                                      have p228 : 0 ≤ (x11_2 : Int) := of_decide_eq_true (by first | (with_reducible assumption) | assumption)
                                      have q228 : x11_2 < (t219.length : Int) := of_decide_eq_true (by first | (with_reducible assumption) | assumption)
                                      obtain ⟨ad228, e228, hx228_0, hx228_1, hx228_2, hx228_3⟩ := at_T32 (Kd.R_reads' HO_5.out).2.2 x11_2 p228 q228
                                      cases e228
                                      replace p228 := eq_true p228
                                      replace q228 := eq_true q228
                                      have p229 : 0 ≤ (1 : Int) := (by omega)
                                      have q229 : 1 < (y224.length : Int) := of_decide_eq_true (by first | (with_reducible assumption) | assumption)
                                      obtain ⟨ad229, e229, hx229_0⟩ := Kd.at_string (Kd.R_reads' HO_8.out).2.2 1 p229 q229
                                      cases e229
                                      (try simp only [show (1 : Int).toNat = 1 from rfl, Nat.reduceMul, Nat.reduceEqDiff, Go.Addr.add, ↓reduceIte] at hx229_0)
                                      have qi229 : (1 < y224.length) = True := eq_true (by omega)
                                      (try rw [show ((1 : Int)).toNat = 1 from rfl] at hx229_0)
                                      replace p229 := eq_true p229
                                      replace q229 := eq_true q229
                                      have p230 : 0 ≤ (x11_2 : Int) := of_decide_eq_true (by first | (with_reducible assumption) | assumption)
                                      have q230 : x11_2 < (t219.length : Int) := of_decide_eq_true (by first | (with_reducible assumption) | assumption)
                                      obtain ⟨ad230, e230, hx230_0, hx230_1, hx230_2, hx230_3⟩ := at_T32 (Kd.R_reads' HO_5.out).2.2 x11_2 p230 q230
                                      obtain rfl : ad228 = ad230 := (by injection e230)
                                      replace p230 := eq_true p230
                                      replace q230 := eq_true q230
                                      have p231 : 0 ≤ (x11_2 : Int) := of_decide_eq_true (by first | (with_reducible assumption) | assumption)
                                      have q231 : x11_2 < (t219.length : Int) := of_decide_eq_true (by first | (with_reducible assumption) | assumption)
                                      obtain ⟨ad231, e231, hx231_0, hx231_1, hx231_2, hx231_3⟩ := at_T32 (Kd.R_reads' HO_5.out).2.2 x11_2 p231 q231
                                      obtain rfl : ad228 = ad231 := (by injection e231)
                                      replace p231 := eq_true p231
                                      replace q231 := eq_true q231
                                      go_wp2
                                      repeat (go_quiet (fail); try go_wp2)
                                      go_roundg k2
                                      case measure => have := HJ2.out; have := HK2.out; omega
                                      case rel => exact ⟨((x9_2 ++ (rdOf ByteArray.empty y224 1)) ++ ((rd_T32 t219 x11_2).f3)), ((rd_T32 t219 x11_2).f2), (wrap64 (x11_2 + 1)), (by first | rfl | (simp; done) | (simp [*]; done)), (by first | rfl | (simp; done) | (simp [*]; done)), (by first | rfl | (simp; done) | (simp [*]; done)), H', ⟨by have := HJ2.out; have := HK2.out; omega⟩, ⟨by (with_reducible repeat (first | apply Kd.R_alloc | apply Kd.R_drewN | apply Kd.R_drew)); exact HO_5.out⟩, ⟨by (with_reducible repeat (first | apply Kd.R_alloc | apply Kd.R_drewN | apply Kd.R_drew)); exact HO_8.out⟩, ⟨by repeat (first | (with_reducible first | exact HB.out | apply below_alloc | apply pw_below_drewN | apply below_drew1) | exact HB.out)⟩⟩
                                    · rw [if_neg c32] at H
                                      exact absurd H (by simp)
                                  · rw [if_neg c31] at H
                                    exact absurd H (by simp)
                                · rw [if_neg c30] at H
                                  exact absurd H (by simp)
                              · rw [if_neg c29] at H
                                have c29b0 : decide (0 < x11_2) = false := decide_eq_false c29
                                clear c29
                                obtain ⟨ji35, hji35⟩ : ∃ j_ : Int, (Int.tmod (wrap64 (rd l1 (ji22))) (y224.length : Int)) = j_ := ⟨_, rfl⟩
                                replace H : (if 0 ≤ (ji35) then (if (ji35) < (y224.length : Int) then (if x9_2.size + (rdOf ByteArray.empty y224 (ji35)).size ≤ 9223372036854775807 then (if (x9_2 ++ (rdOf ByteArray.empty y224 (ji35))).size + ((rd_T32 t219 x11_2).f3).size ≤ 9223372036854775807 then (alidadelaw12_LexParted.l0 k2 l1 t219 y224 ((x9_2 ++ (rdOf ByteArray.empty y224 (ji35))) ++ ((rd_T32 t219 x11_2).f3)) ((rd_T32 t219 x11_2).f2) (wrap64 (x11_2 + 1))) else (none)) else (none)) else (none)) else (none)) = some r := by first | (rw [hji35] at H; exact H) | (simp only [hji35] at H ⊢; exact H)
                                (try rw [hji35] at c26b0)
                                (try rw [hji35] at c26b1)
                                by_cases c36 : 0 ≤ (ji35)
                                · rw [if_pos c36] at H
                                  have c36b0 : decide (0 ≤ (ji35)) = true := decide_eq_true c36
                                  clear c36
                                  by_cases c37 : (ji35) < (y224.length : Int)
                                  · rw [if_pos c37] at H
                                    have c37b0 : decide ((ji35) < (y224.length : Int)) = true := decide_eq_true c37
                                    clear c37
                                    by_cases c38 : x9_2.size + (rdOf ByteArray.empty y224 (ji35)).size ≤ 9223372036854775807
                                    · rw [if_pos c38] at H
                                      have c38b0 := eq_true c38
                                      have c38b1 : decide (x9_2.size + (rdOf ByteArray.empty y224 (ji35)).size ≤ 9223372036854775807) = true := decide_eq_true c38
                                      try have c38b2 : (9223372036854775807 < x9_2.size + (rdOf ByteArray.empty y224 (ji35)).size) = False := eq_false (Nat.not_lt.2 c38)
                                      by_cases c39 : (x9_2 ++ (rdOf ByteArray.empty y224 (ji35))).size + ((rd_T32 t219 x11_2).f3).size ≤ 9223372036854775807
                                      · rw [if_pos c39] at H
                                        have c39b0 := eq_true c39
                                        have c39b1 : decide ((x9_2 ++ (rdOf ByteArray.empty y224 (ji35))).size + ((rd_T32 t219 x11_2).f3).size ≤ 9223372036854775807) = true := decide_eq_true c39
                                        try have c39b2 : (9223372036854775807 < (x9_2 ++ (rdOf ByteArray.empty y224 (ji35))).size + ((rd_T32 t219 x11_2).f3).size) = False := eq_false (Nat.not_lt.2 c39)
                                        try (have c39b3 := c39b2; simp only [ByteArray.size_append] at c39b3)
                                        have H' := Aside0.mk H
                                        clear H
                                        obtain ⟨Ao40, co40, eo40⟩ := Kd.R_slice HO_5.out
                                        subst eo40
                                        have p227 : 0 ≤ ((ji22) : Int) := of_decide_eq_true (by first | (with_reducible assumption) | assumption)
                                        have q227 : (ji22) < (l1.length : Int) := of_decide_eq_true (by first | (with_reducible assumption) | assumption)
                                        obtain ⟨ad227, e227, hx227_0⟩ := Kd.at_int HR1.out (ji22) p227 q227
                                        cases e227
                                        replace hx227_0 := (HB.out.cell (World.block_lt_of_cell? w _ hx227_0)).trans hx227_0
                                        replace p227 := eq_true p227
                                        replace q227 := eq_true q227
                                        obtain ⟨Ao41, co41, eo41⟩ := Kd.R_slice HO_8.out
                                        subst eo41
                                        have p228 : 0 ≤ (x11_2 : Int) := of_decide_eq_true (by first | (with_reducible assumption) | assumption)
                                        have q228 : x11_2 < (t219.length : Int) := of_decide_eq_true (by first | (with_reducible assumption) | assumption)
                                        obtain ⟨ad228, e228, hx228_0, hx228_1, hx228_2, hx228_3⟩ := at_T32 (Kd.R_reads' HO_5.out).2.2 x11_2 p228 q228
                                        cases e228
                                        replace p228 := eq_true p228
                                        replace q228 := eq_true q228
                                        have p232 : 0 ≤ ((ji35) : Int) := of_decide_eq_true (by first | (with_reducible assumption) | assumption)
                                        have q232 : (ji35) < (y224.length : Int) := of_decide_eq_true (by first | (with_reducible assumption) | assumption)
                                        obtain ⟨ad232, e232, hx232_0⟩ := Kd.at_string (Kd.R_reads' HO_8.out).2.2 (ji35) p232 q232
                                        cases e232
                                        replace p232 := eq_true p232
                                        replace q232 := eq_true q232
                                        have p233 : 0 ≤ (x11_2 : Int) := of_decide_eq_true (by first | (with_reducible assumption) | assumption)
                                        have q233 : x11_2 < (t219.length : Int) := of_decide_eq_true (by first | (with_reducible assumption) | assumption)
                                        obtain ⟨ad233, e233, hx233_0, hx233_1, hx233_2, hx233_3⟩ := at_T32 (Kd.R_reads' HO_5.out).2.2 x11_2 p233 q233
                                        obtain rfl : ad228 = ad233 := (by injection e233)
                                        replace p233 := eq_true p233
                                        replace q233 := eq_true q233
                                        have p234 : 0 ≤ (x11_2 : Int) := of_decide_eq_true (by first | (with_reducible assumption) | assumption)
                                        have q234 : x11_2 < (t219.length : Int) := of_decide_eq_true (by first | (with_reducible assumption) | assumption)
                                        obtain ⟨ad234, e234, hx234_0, hx234_1, hx234_2, hx234_3⟩ := at_T32 (Kd.R_reads' HO_5.out).2.2 x11_2 p234 q234
                                        obtain rfl : ad228 = ad234 := (by injection e234)
                                        replace p234 := eq_true p234
                                        replace q234 := eq_true q234
                                        go_wp2
                                        repeat (go_quiet (fail); try go_wp2)
                                        go_roundg k2
                                        case measure => have := HJ2.out; have := HK2.out; omega
                                        case rel => exact ⟨((x9_2 ++ (rdOf ByteArray.empty y224 (ji35))) ++ ((rd_T32 t219 x11_2).f3)), ((rd_T32 t219 x11_2).f2), (wrap64 (x11_2 + 1)), (by first | rfl | (simp; done) | (simp only [← hji35] <;> (first | rfl | simp)) | (simp [*]; done)), (by first | rfl | (simp; done) | (simp [*]; done)), (by first | rfl | (simp; done) | (simp [*]; done)), H', ⟨by have := HJ2.out; have := HK2.out; omega⟩, ⟨by (with_reducible repeat (first | apply Kd.R_alloc | apply Kd.R_drewN | apply Kd.R_drew)); exact HO_5.out⟩, ⟨by (with_reducible repeat (first | apply Kd.R_alloc | apply Kd.R_drewN | apply Kd.R_drew)); exact HO_8.out⟩, ⟨by repeat (first | (with_reducible first | exact HB.out | apply below_alloc | apply pw_below_drewN | apply below_drew1) | exact HB.out)⟩⟩
                                      · rw [if_neg c39] at H
                                        exact absurd H (by simp)
                                    · rw [if_neg c38] at H
                                      exact absurd H (by simp)
                                  · rw [if_neg c37] at H
                                    exact absurd H (by simp)
                                · rw [if_neg c36] at H
                                  exact absurd H (by simp)
                            · rw [if_neg c28] at H
                              have c28b0 : decide (x10_2 < ((rd_T32 t219 x11_2).f1)) = false := decide_eq_false c28
                              clear c28
                              obtain ⟨ji42, hji42⟩ : ∃ j_ : Int, (Int.tmod (wrap64 (rd l1 (ji22))) (y224.length : Int)) = j_ := ⟨_, rfl⟩
                              replace H : (if 0 ≤ (ji42) then (if (ji42) < (y224.length : Int) then (if x9_2.size + (rdOf ByteArray.empty y224 (ji42)).size ≤ 9223372036854775807 then (if (x9_2 ++ (rdOf ByteArray.empty y224 (ji42))).size + ((rd_T32 t219 x11_2).f3).size ≤ 9223372036854775807 then (alidadelaw12_LexParted.l0 k2 l1 t219 y224 ((x9_2 ++ (rdOf ByteArray.empty y224 (ji42))) ++ ((rd_T32 t219 x11_2).f3)) ((rd_T32 t219 x11_2).f2) (wrap64 (x11_2 + 1))) else (none)) else (none)) else (none)) else (none)) = some r := by first | (rw [hji42] at H; exact H) | (simp only [hji42] at H ⊢; exact H)
                              (try rw [hji42] at c26b0)
                              (try rw [hji42] at c26b1)
                              by_cases c43 : 0 ≤ (ji42)
                              · rw [if_pos c43] at H
                                have c43b0 : decide (0 ≤ (ji42)) = true := decide_eq_true c43
                                clear c43
                                by_cases c44 : (ji42) < (y224.length : Int)
                                · rw [if_pos c44] at H
                                  have c44b0 : decide ((ji42) < (y224.length : Int)) = true := decide_eq_true c44
                                  clear c44
                                  by_cases c45 : x9_2.size + (rdOf ByteArray.empty y224 (ji42)).size ≤ 9223372036854775807
                                  · rw [if_pos c45] at H
                                    have c45b0 := eq_true c45
                                    have c45b1 : decide (x9_2.size + (rdOf ByteArray.empty y224 (ji42)).size ≤ 9223372036854775807) = true := decide_eq_true c45
                                    try have c45b2 : (9223372036854775807 < x9_2.size + (rdOf ByteArray.empty y224 (ji42)).size) = False := eq_false (Nat.not_lt.2 c45)
                                    by_cases c46 : (x9_2 ++ (rdOf ByteArray.empty y224 (ji42))).size + ((rd_T32 t219 x11_2).f3).size ≤ 9223372036854775807
                                    · rw [if_pos c46] at H
                                      have c46b0 := eq_true c46
                                      have c46b1 : decide ((x9_2 ++ (rdOf ByteArray.empty y224 (ji42))).size + ((rd_T32 t219 x11_2).f3).size ≤ 9223372036854775807) = true := decide_eq_true c46
                                      try have c46b2 : (9223372036854775807 < (x9_2 ++ (rdOf ByteArray.empty y224 (ji42))).size + ((rd_T32 t219 x11_2).f3).size) = False := eq_false (Nat.not_lt.2 c46)
                                      try (have c46b3 := c46b2; simp only [ByteArray.size_append] at c46b3)
                                      have H' := Aside0.mk H
                                      clear H
                                      obtain ⟨Ao47, co47, eo47⟩ := Kd.R_slice HO_5.out
                                      subst eo47
                                      have p227 : 0 ≤ ((ji22) : Int) := of_decide_eq_true (by first | (with_reducible assumption) | assumption)
                                      have q227 : (ji22) < (l1.length : Int) := of_decide_eq_true (by first | (with_reducible assumption) | assumption)
                                      obtain ⟨ad227, e227, hx227_0⟩ := Kd.at_int HR1.out (ji22) p227 q227
                                      cases e227
                                      replace hx227_0 := (HB.out.cell (World.block_lt_of_cell? w _ hx227_0)).trans hx227_0
                                      replace p227 := eq_true p227
                                      replace q227 := eq_true q227
                                      obtain ⟨Ao48, co48, eo48⟩ := Kd.R_slice HO_8.out
                                      subst eo48
                                      have p228 : 0 ≤ (x11_2 : Int) := of_decide_eq_true (by first | (with_reducible assumption) | assumption)
                                      have q228 : x11_2 < (t219.length : Int) := of_decide_eq_true (by first | (with_reducible assumption) | assumption)
                                      obtain ⟨ad228, e228, hx228_0, hx228_1, hx228_2, hx228_3⟩ := at_T32 (Kd.R_reads' HO_5.out).2.2 x11_2 p228 q228
                                      cases e228
                                      replace p228 := eq_true p228
                                      replace q228 := eq_true q228
                                      have p235 : 0 ≤ ((ji42) : Int) := of_decide_eq_true (by first | (with_reducible assumption) | assumption)
                                      have q235 : (ji42) < (y224.length : Int) := of_decide_eq_true (by first | (with_reducible assumption) | assumption)
                                      obtain ⟨ad235, e235, hx235_0⟩ := Kd.at_string (Kd.R_reads' HO_8.out).2.2 (ji42) p235 q235
                                      cases e235
                                      replace p235 := eq_true p235
                                      replace q235 := eq_true q235
                                      have p236 : 0 ≤ (x11_2 : Int) := of_decide_eq_true (by first | (with_reducible assumption) | assumption)
                                      have q236 : x11_2 < (t219.length : Int) := of_decide_eq_true (by first | (with_reducible assumption) | assumption)
                                      obtain ⟨ad236, e236, hx236_0, hx236_1, hx236_2, hx236_3⟩ := at_T32 (Kd.R_reads' HO_5.out).2.2 x11_2 p236 q236
                                      obtain rfl : ad228 = ad236 := (by injection e236)
                                      replace p236 := eq_true p236
                                      replace q236 := eq_true q236
                                      have p237 : 0 ≤ (x11_2 : Int) := of_decide_eq_true (by first | (with_reducible assumption) | assumption)
                                      have q237 : x11_2 < (t219.length : Int) := of_decide_eq_true (by first | (with_reducible assumption) | assumption)
                                      obtain ⟨ad237, e237, hx237_0, hx237_1, hx237_2, hx237_3⟩ := at_T32 (Kd.R_reads' HO_5.out).2.2 x11_2 p237 q237
                                      obtain rfl : ad228 = ad237 := (by injection e237)
                                      replace p237 := eq_true p237
                                      replace q237 := eq_true q237
                                      go_wp2
                                      repeat (go_quiet (fail); try go_wp2)
                                      go_roundg k2
                                      case measure => have := HJ2.out; have := HK2.out; omega
                                      case rel => exact ⟨((x9_2 ++ (rdOf ByteArray.empty y224 (ji42))) ++ ((rd_T32 t219 x11_2).f3)), ((rd_T32 t219 x11_2).f2), (wrap64 (x11_2 + 1)), (by first | rfl | (simp; done) | (simp only [← hji42] <;> (first | rfl | simp)) | (simp [*]; done)), (by first | rfl | (simp; done) | (simp [*]; done)), (by first | rfl | (simp; done) | (simp [*]; done)), H', ⟨by have := HJ2.out; have := HK2.out; omega⟩, ⟨by (with_reducible repeat (first | apply Kd.R_alloc | apply Kd.R_drewN | apply Kd.R_drew)); exact HO_5.out⟩, ⟨by (with_reducible repeat (first | apply Kd.R_alloc | apply Kd.R_drewN | apply Kd.R_drew)); exact HO_8.out⟩, ⟨by repeat (first | (with_reducible first | exact HB.out | apply below_alloc | apply pw_below_drewN | apply below_drew1) | exact HB.out)⟩⟩
                                    · rw [if_neg c46] at H
                                      exact absurd H (by simp)
                                  · rw [if_neg c45] at H
                                    exact absurd H (by simp)
                                · rw [if_neg c44] at H
                                  exact absurd H (by simp)
                              · rw [if_neg c43] at H
                                exact absurd H (by simp)
                          · rw [if_neg c27] at H
                            exact absurd H (by simp)
                        · rw [if_neg c26] at H
                          have c26b0 : ((Int.tmod (wrap64 (rd l1 (ji22))) (y224.length : Int)) == 0) = false := beq_eq_false_iff_ne.mpr c26
                          have c26b1 : ((Int.tmod (wrap64 (rd l1 (ji22))) (y224.length : Int)) != 0) = true := bne_iff_ne.mpr c26
                          obtain ⟨ji49, hji49⟩ : ∃ j_ : Int, (Int.tmod (wrap64 (rd l1 (ji22))) (y224.length : Int)) = j_ := ⟨_, rfl⟩
                          replace H : (if 0 ≤ (ji49) then (if (ji49) < (y224.length : Int) then (if x9_2.size + (rdOf ByteArray.empty y224 (ji49)).size ≤ 9223372036854775807 then (if 0 ≤ x11_2 then (if (x9_2 ++ (rdOf ByteArray.empty y224 (ji49))).size + ((rd_T32 t219 x11_2).f3).size ≤ 9223372036854775807 then (alidadelaw12_LexParted.l0 k2 l1 t219 y224 ((x9_2 ++ (rdOf ByteArray.empty y224 (ji49))) ++ ((rd_T32 t219 x11_2).f3)) ((rd_T32 t219 x11_2).f2) (wrap64 (x11_2 + 1))) else (none)) else (none)) else (none)) else (none)) else (none)) = some r := by first | (rw [hji49] at H; exact H) | (simp only [hji49] at H ⊢; exact H)
                          (try rw [hji49] at c26b0)
                          (try rw [hji49] at c26b1)
                          by_cases c50 : 0 ≤ (ji49)
                          · rw [if_pos c50] at H
                            have c50b0 : decide (0 ≤ (ji49)) = true := decide_eq_true c50
                            clear c50
                            by_cases c51 : (ji49) < (y224.length : Int)
                            · rw [if_pos c51] at H
                              have c51b0 : decide ((ji49) < (y224.length : Int)) = true := decide_eq_true c51
                              clear c51
                              by_cases c52 : x9_2.size + (rdOf ByteArray.empty y224 (ji49)).size ≤ 9223372036854775807
                              · rw [if_pos c52] at H
                                have c52b0 := eq_true c52
                                have c52b1 : decide (x9_2.size + (rdOf ByteArray.empty y224 (ji49)).size ≤ 9223372036854775807) = true := decide_eq_true c52
                                try have c52b2 : (9223372036854775807 < x9_2.size + (rdOf ByteArray.empty y224 (ji49)).size) = False := eq_false (Nat.not_lt.2 c52)
                                by_cases c53 : 0 ≤ x11_2
                                · rw [if_pos c53] at H
                                  have c53b0 : decide (0 ≤ x11_2) = true := decide_eq_true c53
                                  clear c53
                                  by_cases c54 : (x9_2 ++ (rdOf ByteArray.empty y224 (ji49))).size + ((rd_T32 t219 x11_2).f3).size ≤ 9223372036854775807
                                  · rw [if_pos c54] at H
                                    have c54b0 := eq_true c54
                                    have c54b1 : decide ((x9_2 ++ (rdOf ByteArray.empty y224 (ji49))).size + ((rd_T32 t219 x11_2).f3).size ≤ 9223372036854775807) = true := decide_eq_true c54
                                    try have c54b2 : (9223372036854775807 < (x9_2 ++ (rdOf ByteArray.empty y224 (ji49))).size + ((rd_T32 t219 x11_2).f3).size) = False := eq_false (Nat.not_lt.2 c54)
                                    try (have c54b3 := c54b2; simp only [ByteArray.size_append] at c54b3)
                                    have H' := Aside0.mk H
                                    clear H
                                    obtain ⟨Ao55, co55, eo55⟩ := Kd.R_slice HO_5.out
                                    subst eo55
                                    have p227 : 0 ≤ ((ji22) : Int) := of_decide_eq_true (by first | (with_reducible assumption) | assumption)
                                    have q227 : (ji22) < (l1.length : Int) := of_decide_eq_true (by first | (with_reducible assumption) | assumption)
                                    obtain ⟨ad227, e227, hx227_0⟩ := Kd.at_int HR1.out (ji22) p227 q227
                                    cases e227
                                    replace hx227_0 := (HB.out.cell (World.block_lt_of_cell? w _ hx227_0)).trans hx227_0
                                    replace p227 := eq_true p227
                                    replace q227 := eq_true q227
                                    obtain ⟨Ao56, co56, eo56⟩ := Kd.R_slice HO_8.out
                                    subst eo56
                                    have p238 : 0 ≤ ((ji49) : Int) := of_decide_eq_true (by first | (with_reducible assumption) | assumption)
                                    have q238 : (ji49) < (y224.length : Int) := of_decide_eq_true (by first | (with_reducible assumption) | assumption)
                                    obtain ⟨ad238, e238, hx238_0⟩ := Kd.at_string (Kd.R_reads' HO_8.out).2.2 (ji49) p238 q238
                                    cases e238
                                    replace p238 := eq_true p238
                                    replace q238 := eq_true q238
                                    have p239 : 0 ≤ (x11_2 : Int) := of_decide_eq_true (by first | (with_reducible assumption) | assumption)
                                    have q239 : x11_2 < (t219.length : Int) := of_decide_eq_true (by first | (with_reducible assumption) | assumption)
                                    obtain ⟨ad239, e239, hx239_0, hx239_1, hx239_2, hx239_3⟩ := at_T32 (Kd.R_reads' HO_5.out).2.2 x11_2 p239 q239
                                    cases e239
                                    replace p239 := eq_true p239
                                    replace q239 := eq_true q239
                                    have p240 : 0 ≤ (x11_2 : Int) := of_decide_eq_true (by first | (with_reducible assumption) | assumption)
                                    have q240 : x11_2 < (t219.length : Int) := of_decide_eq_true (by first | (with_reducible assumption) | assumption)
                                    obtain ⟨ad240, e240, hx240_0, hx240_1, hx240_2, hx240_3⟩ := at_T32 (Kd.R_reads' HO_5.out).2.2 x11_2 p240 q240
                                    obtain rfl : ad239 = ad240 := (by injection e240)
                                    replace p240 := eq_true p240
                                    replace q240 := eq_true q240
                                    go_wp2
                                    repeat (go_quiet (fail); try go_wp2)
                                    go_roundg k2
                                    case measure => have := HJ2.out; have := HK2.out; omega
                                    case rel => exact ⟨((x9_2 ++ (rdOf ByteArray.empty y224 (ji49))) ++ ((rd_T32 t219 x11_2).f3)), ((rd_T32 t219 x11_2).f2), (wrap64 (x11_2 + 1)), (by first | rfl | (simp; done) | (simp only [← hji49] <;> (first | rfl | simp)) | (simp [*]; done)), (by first | rfl | (simp; done) | (simp [*]; done)), (by first | rfl | (simp; done) | (simp [*]; done)), H', ⟨by have := HJ2.out; have := HK2.out; omega⟩, ⟨by (with_reducible repeat (first | apply Kd.R_alloc | apply Kd.R_drewN | apply Kd.R_drew)); exact HO_5.out⟩, ⟨by (with_reducible repeat (first | apply Kd.R_alloc | apply Kd.R_drewN | apply Kd.R_drew)); exact HO_8.out⟩, ⟨by repeat (first | (with_reducible first | exact HB.out | apply below_alloc | apply pw_below_drewN | apply below_drew1) | exact HB.out)⟩⟩
                                  · rw [if_neg c54] at H
                                    exact absurd H (by simp)
                                · rw [if_neg c53] at H
                                  exact absurd H (by simp)
                              · rw [if_neg c52] at H
                                exact absurd H (by simp)
                            · rw [if_neg c51] at H
                              exact absurd H (by simp)
                          · rw [if_neg c50] at H
                            exact absurd H (by simp)
                    · rw [if_neg c24] at H
                      exact absurd H (by simp)
                  · rw [if_neg c23] at H
                    exact absurd H (by simp)
              · rw [if_neg c20] at H
                have c20b0 : decide (x11_2 < (t219.length : Int)) = false := decide_eq_false c20
                clear c20
                by_cases c57 : 0 < (l1.length : Int)
                · rw [if_pos c57] at H
                  have c57b0 : decide (0 < (l1.length : Int)) = true := decide_eq_true c57
                  have c57b1 : decide (0 < l1.length) = true := decide_eq_true (by omega)
                  clear c57
                  by_cases c58 : (y224.length : Int) = 0
                  · rw [if_pos c58] at H
                    exact absurd H (by simp)
                  · rw [if_neg c58] at H
                    have c58b0 : ((y224.length : Int) == 0) = false := beq_eq_false_iff_ne.mpr c58
                    have c58b1 : ((y224.length : Int) != 0) = true := bne_iff_ne.mpr c58
                    have c58b2 : ¬ (y224 = []) := fun h_ => c58 (by rw [h_]; rfl)
                    obtain ⟨ji59, hji59⟩ : ∃ j_ : Int, (Int.tmod (wrap64 (rd l1 0)) (y224.length : Int)) = j_ := ⟨_, rfl⟩
                    replace H : (if 0 ≤ (ji59) then (if (ji59) < (y224.length : Int) then (if x9_2.size + (rdOf ByteArray.empty y224 (ji59)).size ≤ 9223372036854775807 then (if (x9_2 ++ (rdOf ByteArray.empty y224 (ji59))).size + 9 ≤ 9223372036854775807 then ((lex_Words.f k2 ((x9_2 ++ (rdOf ByteArray.empty y224 (ji59))) ++ (⟨#[59, 32, 116, 104, 101, 32, 101, 110, 100]⟩ : ByteArray))).bind fun bt243 => (if bt243.2.2 = 0 then ((lex_Same.f t219 bt243.1).bind fun t248 => (some t248)) else (none))) else (none)) else (none)) else (none)) else (none)) = some r := by first | (rw [hji59] at H; exact H) | (simp only [hji59] at H ⊢; exact H)
                    by_cases c60 : 0 ≤ (ji59)
                    · rw [if_pos c60] at H
                      have c60b0 : decide (0 ≤ (ji59)) = true := decide_eq_true c60
                      clear c60
                      by_cases c61 : (ji59) < (y224.length : Int)
                      · rw [if_pos c61] at H
                        have c61b0 : decide ((ji59) < (y224.length : Int)) = true := decide_eq_true c61
                        clear c61
                        by_cases c62 : x9_2.size + (rdOf ByteArray.empty y224 (ji59)).size ≤ 9223372036854775807
                        · rw [if_pos c62] at H
                          have c62b0 := eq_true c62
                          have c62b1 : decide (x9_2.size + (rdOf ByteArray.empty y224 (ji59)).size ≤ 9223372036854775807) = true := decide_eq_true c62
                          try have c62b2 : (9223372036854775807 < x9_2.size + (rdOf ByteArray.empty y224 (ji59)).size) = False := eq_false (Nat.not_lt.2 c62)
                          by_cases c63 : (x9_2 ++ (rdOf ByteArray.empty y224 (ji59))).size + 9 ≤ 9223372036854775807
                          · rw [if_pos c63] at H
                            have c63b0 := eq_true c63
                            have c63b1 : decide ((x9_2 ++ (rdOf ByteArray.empty y224 (ji59))).size + 9 ≤ 9223372036854775807) = true := decide_eq_true c63
                            try have c63b2 : (9223372036854775807 < (x9_2 ++ (rdOf ByteArray.empty y224 (ji59))).size + 9) = False := eq_false (Nat.not_lt.2 c63)
                            try (have c63b3 := c63b2; simp only [ByteArray.size_append] at c63b3)
                            replace H := Option.bind_eq_some_iff.mp H
                            obtain ⟨⟨t243, t244, t245⟩, A640, H⟩ := H
                            replace H : (if t245 = 0 then ((lex_Same.f t219 t243).bind fun t248 => (some t248)) else (none)) = some r := H
                            have A64 := Aside0.mk A640
                            clear A640
                            by_cases c65 : t245 = 0
                            · rw [if_pos c65] at H
                              have c65b0 : (t245 == 0) = true := beq_iff_eq.mpr c65
                              have c65b1 : (t245 != 0) = false := bne_eq_false_iff_eq.mpr c65
                              clear c65
                              replace H := Option.bind_eq_some_iff.mp H
                              obtain ⟨t248, A660, H⟩ := H
                              replace H : (some t248) = some r := H
                              have A66 := Aside0.mk A660
                              clear A660
                              obtain rfl := Option.some.inj H
                              obtain ⟨Ao67, co67, eo67⟩ := Kd.R_slice HO_5.out
                              subst eo67
                              have p241 : 0 ≤ (0 : Int) := (by omega)
                              have q241 : 0 < (l1.length : Int) := of_decide_eq_true (by first | (with_reducible assumption) | assumption)
                              obtain ⟨ad241, e241, hx241_0⟩ := Kd.at_int HR1.out 0 p241 q241
                              cases e241
                              have qi241 : (0 < l1.length) = True := eq_true (by omega)
                              (try rw [show ((0 : Int)).toNat = 0 from rfl] at hx241_0)
                              (try rw [Addr.add_zero'] at hx241_0)
                              replace hx241_0 := (HB.out.cell (World.block_lt_of_cell? w _ hx241_0)).trans hx241_0
                              replace p241 := eq_true p241
                              replace q241 := eq_true q241
                              obtain ⟨Ao68, co68, eo68⟩ := Kd.R_slice HO_8.out
                              subst eo68
                              have p242 : 0 ≤ ((ji59) : Int) := of_decide_eq_true (by first | (with_reducible assumption) | assumption)
                              have q242 : (ji59) < (y224.length : Int) := of_decide_eq_true (by first | (with_reducible assumption) | assumption)
                              obtain ⟨ad242, e242, hx242_0⟩ := Kd.at_string (Kd.R_reads' HO_8.out).2.2 (ji59) p242 q242
                              cases e242
                              replace p242 := eq_true p242
                              replace q242 := eq_true q242
                              go_wp2_with (first | (go_at_call 14; (with_reducible refine (lex_Words.calls k2 ((x9_2 ++ (rdOf ByteArray.empty y224 (ji59))) ++ (⟨#[59, 32, 116, 104, 101, 32, 101, 110, 100]⟩ : ByteArray)) t243 t244 t245 _ A64.out).mono ?_); rintro e w69 ⟨v246, rfl, ho0, hb⟩; have n0_ := Aside0.mk (Kd.R_elder' (by (with_reducible repeat (first | apply Kd.R_alloc | apply Kd.R_drewN | apply Kd.R_drew)); exact HO_5.out) (Kd.R_base ho0) hb); have n1_ := Aside0.mk (Kd.R_below (by (with_reducible repeat (first | apply Kd.R_alloc | apply Kd.R_drewN | apply Kd.R_drew)); exact HO_8.out) hb); have n2_ := Aside0.mk (Kd.R_lower (Kd.R_new' ho0 (Kd.R_lt (by (with_reducible repeat (first | apply Kd.R_alloc | apply Kd.R_drewN | apply Kd.R_drew)); exact HO_5.out))) (below_size (by repeat (first | (with_reducible first | exact HB.out | apply below_alloc | apply pw_below_drewN | apply below_drew1) | exact HB.out)))); have n3_ := Aside0.mk (below_step (by repeat (first | (with_reducible first | exact HB.out | apply below_alloc | apply pw_below_drewN | apply below_drew1) | exact HB.out)) hb); clear HO_5; clear HO_8; clear HB; have HO_5 := n0_; have HO_8 := n1_; have HO247 := n2_; have HB := n3_; clear n0_ n1_ n2_ n3_; (try clear hb); (try clear hb2); (try clear hk); (try clear hi); (try clear ho0); clear HO_8; obtain ⟨Ao70, co70, eo70⟩ := Kd.R_slice HO247.out; subst eo70) | (go_at_call 18; (with_reducible refine (lex_Same.calls _ _ t219 _ _ t243 t248 _ ?side1 ?side2 ?side3 ?side4 A66.out).mono ?_); (case side1 => repeat (first | exact (Kd.R_reads' HO_5.out).2.2 | (with_reducible refine Kd.C_alloc ?_ _) | (with_reducible refine Kd.C_drewN ?_ _) | (with_reducible refine Kd.C_drew ?_))); (case side2 => exact (Kd.R_reads' HO_5.out).2.1); (case side3 => repeat (first | exact (Kd.R_reads' HO247.out).2.2 | (with_reducible refine Kd.C_alloc ?_ _) | (with_reducible refine Kd.C_drewN ?_ _) | (with_reducible refine Kd.C_drew ?_))); (case side4 => exact (Kd.R_reads' HO247.out).2.1); rintro e w71 ⟨rfl, hb⟩; have n0_ := Aside0.mk (Kd.R_below (by (with_reducible repeat (first | apply Kd.R_alloc | apply Kd.R_drewN | apply Kd.R_drew)); exact HO_5.out) hb); have n1_ := Aside0.mk (Kd.R_below (by (with_reducible repeat (first | apply Kd.R_alloc | apply Kd.R_drewN | apply Kd.R_drew)); exact HO247.out) hb); have n2_ := Aside0.mk (below_step (by repeat (first | (with_reducible first | exact HB.out | apply below_alloc | apply pw_below_drewN | apply below_drew1) | exact HB.out)) hb); clear HO_5; clear HO247; clear HB; have HO_5 := n0_; have HO247 := n1_; have HB := n2_; clear n0_ n1_ n2_; (try clear hb); (try clear hb2); (try clear hk); (try clear hi)))
                              repeat (go_quiet (first | (go_at_call 14; (fail_if_success (have hx_ := mkt245_)); have mkt245_ := Aside0.mk (Nat.le_refl 0); (with_reducible refine (lex_Words.calls k2 ((x9_2 ++ (rdOf ByteArray.empty y224 (ji59))) ++ (⟨#[59, 32, 116, 104, 101, 32, 101, 110, 100]⟩ : ByteArray)) t243 t244 t245 _ A64.out).mono ?_); rintro e w69 ⟨v246, rfl, ho0, hb⟩; have n0_ := Aside0.mk (Kd.R_elder' (by (with_reducible repeat (first | apply Kd.R_alloc | apply Kd.R_drewN | apply Kd.R_drew)); exact HO_5.out) (Kd.R_base ho0) hb); have n1_ := Aside0.mk (Kd.R_below (by (with_reducible repeat (first | apply Kd.R_alloc | apply Kd.R_drewN | apply Kd.R_drew)); exact HO_8.out) hb); have n2_ := Aside0.mk (Kd.R_lower (Kd.R_new' ho0 (Kd.R_lt (by (with_reducible repeat (first | apply Kd.R_alloc | apply Kd.R_drewN | apply Kd.R_drew)); exact HO_5.out))) (below_size (by repeat (first | (with_reducible first | exact HB.out | apply below_alloc | apply pw_below_drewN | apply below_drew1) | exact HB.out)))); have n3_ := Aside0.mk (below_step (by repeat (first | (with_reducible first | exact HB.out | apply below_alloc | apply pw_below_drewN | apply below_drew1) | exact HB.out)) hb); clear HO_5; clear HO_8; clear HB; have HO_5 := n0_; have HO_8 := n1_; have HO247 := n2_; have HB := n3_; clear n0_ n1_ n2_ n3_; (try clear hb); (try clear hb2); (try clear hk); (try clear hi); (try clear ho0); clear HO_8; obtain ⟨Ao70, co70, eo70⟩ := Kd.R_slice HO247.out; subst eo70) | (go_at_call 18; (fail_if_success (have hx_ := mkt248_)); have mkt248_ := Aside0.mk (Nat.le_refl 0); (with_reducible refine (lex_Same.calls _ _ t219 _ _ t243 t248 _ ?side1 ?side2 ?side3 ?side4 A66.out).mono ?_); (case side1 => repeat (first | exact (Kd.R_reads' HO_5.out).2.2 | (with_reducible refine Kd.C_alloc ?_ _) | (with_reducible refine Kd.C_drewN ?_ _) | (with_reducible refine Kd.C_drew ?_))); (case side2 => exact (Kd.R_reads' HO_5.out).2.1); (case side3 => repeat (first | exact (Kd.R_reads' HO247.out).2.2 | (with_reducible refine Kd.C_alloc ?_ _) | (with_reducible refine Kd.C_drewN ?_ _) | (with_reducible refine Kd.C_drew ?_))); (case side4 => exact (Kd.R_reads' HO247.out).2.1); rintro e w71 ⟨rfl, hb⟩; have n0_ := Aside0.mk (Kd.R_below (by (with_reducible repeat (first | apply Kd.R_alloc | apply Kd.R_drewN | apply Kd.R_drew)); exact HO_5.out) hb); have n1_ := Aside0.mk (Kd.R_below (by (with_reducible repeat (first | apply Kd.R_alloc | apply Kd.R_drewN | apply Kd.R_drew)); exact HO247.out) hb); have n2_ := Aside0.mk (below_step (by repeat (first | (with_reducible first | exact HB.out | apply below_alloc | apply pw_below_drewN | apply below_drew1) | exact HB.out)) hb); clear HO_5; clear HO247; clear HB; have HO_5 := n0_; have HO247 := n1_; have HB := n2_; clear n0_ n1_ n2_; (try clear hb); (try clear hb2); (try clear hk); (try clear hi))); try go_wp2_with (first | (go_at_call 14; (with_reducible refine (lex_Words.calls k2 ((x9_2 ++ (rdOf ByteArray.empty y224 (ji59))) ++ (⟨#[59, 32, 116, 104, 101, 32, 101, 110, 100]⟩ : ByteArray)) t243 t244 t245 _ A64.out).mono ?_); rintro e w69 ⟨v246, rfl, ho0, hb⟩; have n0_ := Aside0.mk (Kd.R_elder' (by (with_reducible repeat (first | apply Kd.R_alloc | apply Kd.R_drewN | apply Kd.R_drew)); exact HO_5.out) (Kd.R_base ho0) hb); have n1_ := Aside0.mk (Kd.R_below (by (with_reducible repeat (first | apply Kd.R_alloc | apply Kd.R_drewN | apply Kd.R_drew)); exact HO_8.out) hb); have n2_ := Aside0.mk (Kd.R_lower (Kd.R_new' ho0 (Kd.R_lt (by (with_reducible repeat (first | apply Kd.R_alloc | apply Kd.R_drewN | apply Kd.R_drew)); exact HO_5.out))) (below_size (by repeat (first | (with_reducible first | exact HB.out | apply below_alloc | apply pw_below_drewN | apply below_drew1) | exact HB.out)))); have n3_ := Aside0.mk (below_step (by repeat (first | (with_reducible first | exact HB.out | apply below_alloc | apply pw_below_drewN | apply below_drew1) | exact HB.out)) hb); clear HO_5; clear HO_8; clear HB; have HO_5 := n0_; have HO_8 := n1_; have HO247 := n2_; have HB := n3_; clear n0_ n1_ n2_ n3_; (try clear hb); (try clear hb2); (try clear hk); (try clear hi); (try clear ho0); clear HO_8; obtain ⟨Ao70, co70, eo70⟩ := Kd.R_slice HO247.out; subst eo70) | (go_at_call 18; (with_reducible refine (lex_Same.calls _ _ t219 _ _ t243 t248 _ ?side1 ?side2 ?side3 ?side4 A66.out).mono ?_); (case side1 => repeat (first | exact (Kd.R_reads' HO_5.out).2.2 | (with_reducible refine Kd.C_alloc ?_ _) | (with_reducible refine Kd.C_drewN ?_ _) | (with_reducible refine Kd.C_drew ?_))); (case side2 => exact (Kd.R_reads' HO_5.out).2.1); (case side3 => repeat (first | exact (Kd.R_reads' HO247.out).2.2 | (with_reducible refine Kd.C_alloc ?_ _) | (with_reducible refine Kd.C_drewN ?_ _) | (with_reducible refine Kd.C_drew ?_))); (case side4 => exact (Kd.R_reads' HO247.out).2.1); rintro e w71 ⟨rfl, hb⟩; have n0_ := Aside0.mk (Kd.R_below (by (with_reducible repeat (first | apply Kd.R_alloc | apply Kd.R_drewN | apply Kd.R_drew)); exact HO_5.out) hb); have n1_ := Aside0.mk (Kd.R_below (by (with_reducible repeat (first | apply Kd.R_alloc | apply Kd.R_drewN | apply Kd.R_drew)); exact HO247.out) hb); have n2_ := Aside0.mk (below_step (by repeat (first | (with_reducible first | exact HB.out | apply below_alloc | apply pw_below_drewN | apply below_drew1) | exact HB.out)) hb); clear HO_5; clear HO247; clear HB; have HO_5 := n0_; have HO247 := n1_; have HB := n2_; clear n0_ n1_ n2_; (try clear hb); (try clear hb2); (try clear hk); (try clear hi))))
                              go_ret
                              exact ⟨by first | rfl | (simp [errW_none, errW_some] <;> rfl) | (simp only [← hji59]; first | rfl | (simp [errW_none, errW_some] <;> rfl)) | (simp [*, errW_none, errW_some] <;> rfl), by repeat (first | (with_reducible first | exact HB.out | apply below_alloc | apply pw_below_drewN | apply below_drew1) | exact HB.out)⟩
                            · rw [if_neg c65] at H
                              exact absurd H (by simp)
                          · rw [if_neg c63] at H
                            exact absurd H (by simp)
                        · rw [if_neg c62] at H
                          exact absurd H (by simp)
                      · rw [if_neg c61] at H
                        exact absurd H (by simp)
                    · rw [if_neg c60] at H
                      exact absurd H (by simp)
                · rw [if_neg c57] at H
                  exact absurd H (by simp)
        · rw [if_neg c16] at H
          have c16b0 : (t221 == 0) = false := beq_eq_false_iff_ne.mpr c16
          have c16b1 : (t221 != 0) = true := bne_iff_ne.mpr c16
          obtain rfl := Option.some.inj H
          go_wp2_with (first | (go_at_call 14; (with_reducible refine (lex_Words.calls kj2 a0 t219 t220 t221 _ A15.out).mono ?_); rintro e w72 ⟨v222, rfl, ho0, hb⟩; have n0_ := Aside0.mk (Kd.R_lower ho0 (below_size (by repeat (first | (with_reducible first | exact HB.out | apply below_alloc | apply pw_below_drewN | apply below_drew1) | exact HB.out)))); have n1_ := Aside0.mk (below_step (by repeat (first | (with_reducible first | exact HB.out | apply below_alloc | apply pw_below_drewN | apply below_drew1) | exact HB.out)) hb); clear HB; have HO223 := n0_; have HB := n1_; clear n0_ n1_; (try clear hb); (try clear hb2); (try clear hk); (try clear hi); (try clear ho0)))
          repeat (go_quiet (first | (go_at_call 14; (fail_if_success (have hx_ := mkt221_)); have mkt221_ := Aside0.mk (Nat.le_refl 0); (with_reducible refine (lex_Words.calls kj2 a0 t219 t220 t221 _ A15.out).mono ?_); rintro e w72 ⟨v222, rfl, ho0, hb⟩; have n0_ := Aside0.mk (Kd.R_lower ho0 (below_size (by repeat (first | (with_reducible first | exact HB.out | apply below_alloc | apply pw_below_drewN | apply below_drew1) | exact HB.out)))); have n1_ := Aside0.mk (below_step (by repeat (first | (with_reducible first | exact HB.out | apply below_alloc | apply pw_below_drewN | apply below_drew1) | exact HB.out)) hb); clear HB; have HO223 := n0_; have HB := n1_; clear n0_ n1_; (try clear hb); (try clear hb2); (try clear hk); (try clear hi); (try clear ho0))); try go_wp2_with (first | (go_at_call 14; (with_reducible refine (lex_Words.calls kj2 a0 t219 t220 t221 _ A15.out).mono ?_); rintro e w72 ⟨v222, rfl, ho0, hb⟩; have n0_ := Aside0.mk (Kd.R_lower ho0 (below_size (by repeat (first | (with_reducible first | exact HB.out | apply below_alloc | apply pw_below_drewN | apply below_drew1) | exact HB.out)))); have n1_ := Aside0.mk (below_step (by repeat (first | (with_reducible first | exact HB.out | apply below_alloc | apply pw_below_drewN | apply below_drew1) | exact HB.out)) hb); clear HB; have HO223 := n0_; have HB := n1_; clear n0_ n1_; (try clear hb); (try clear hb2); (try clear hk); (try clear hi); (try clear ho0))))
          go_ret
          exact ⟨by first | rfl | (simp [errW_none, errW_some] <;> rfl) | (simp [*, errW_none, errW_some] <;> rfl), by repeat (first | (with_reducible first | exact HB.out | apply below_alloc | apply pw_below_drewN | apply below_drew1) | exact HB.out)⟩

/-- THE ONE PURE STATEMENT of alidadelaw12_LexParted: yours. -/
def alidadelaw12_LexParted.Pure : Prop := ∀ (a0 : ByteArray) (l1 : List Int), a0.size ≤ 140737488351232 → l1.length ≤ maxLen → l1.length * 1 ≤ 140737488351232 → (∀ x ∈ l1, (Lit.int .u8 x).wf = true) → ∃ k, alidadelaw12_LexParted.f k a0 l1 = some true
theorem alidadelaw12_LexParted.walk (P : alidadelaw12_LexParted.Pure) (a0 : ByteArray) (a1 : Option Addr) (len1 cap1 : Nat) (z1 : List Int) (w : World) (w0 : a0.size ≤ 140737488351232) (w1 : (a1 = none ∧ len1 = 0 ∧ cap1 = 0 ∧ z1 = []) ∨ ∃ x, a1 = some x ∧ len1 ≤ cap1 ∧ cap1 ≤ maxLen ∧ z1.length = cap1 ∧ (∀ i, i < z1.length → w.cell? (x.add i) = some (.int .u8 (z1.getD i 0))) ∧ ∀ n ∈ z1, (Lit.int .u8 n).wf = true) (y1 : len1 * 1 ≤ 140737488351232) :
    Calls Try.prog 5 #[.string a0, .slice a1 len1 cap1] w fun e w' => e = .returned (.bool true) ∧ Below w.heap.size w w' := by
  obtain ⟨l1, rfl, hr1, hm1, hw1, hc1⟩ := ReadsInt.ofRowC w1
  obtain ⟨k, h⟩ := P a0 l1 w0 hm1 y1 hw1
  refine (alidadelaw12_LexParted.calls k a0 _ _ l1 true w (Kd.C_of_reads (d := (0 : Int)) (h1 := fun _ => rfl) hr1) hc1 h).mono ?_
  rintro e w' ⟨rfl, hd⟩
  exact ⟨rfl, hd⟩

end Go.Proofs.Ytgikmpgpccfiiaa.PLex
