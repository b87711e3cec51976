-- A text of the seat Ytgikmpgpccfiiaa, written by a program of this session (drive.py).
import Derived.Test.YtgikmpgpccfiiaaPLexx0
import Derived.Test.YtgikmpgpccfiiaaGPLexx1toPLexx16
import Derived.Test.YtgikmpgpccfiiaaGPLexx1toPLexx16
import Derived.Test.YtgikmpgpccfiiaaPLexx11
import Derived.Test.YtgikmpgpccfiiaaPLexx13
import Derived.Test.YtgikmpgpccfiiaaPLexx15
import Derived.Test.YtgikmpgpccfiiaaPLexx19
import Derived.Test.YtgikmpgpccfiiaaPLexx21
namespace Go.Proofs.Ytgikmpgpccfiiaa.PLex
open Go.RowKit Go.Proofs.YtgikmpgpccfiiaaW.PrintWords Go.Proofs.YtgikmpgpccfiiaaW.PrintLast Go.Proofs.YtgikmpgpccfiiaaW.PrintMore
attribute [local go_sem] max2_int min2_int max_two min_two max_three min_three max_four min_four   -- for this text's walks alone
set_option linter.unusedVariables false
set_option linter.unusedSimpArgs false

attribute [local go_sem high] eqA31 eqA32
/-! ### alidadelaw12_LexWords: function 3 -/
mutual
def alidadelaw12_LexWords.j0 : Nat → ByteArray → ByteArray → Bool → Option (Bool)
  | 0, _, _, _ => none
  | k + 1, x0, x1, x20 => if x20 = true then ((alidadelaw12_works.f k).bind fun t170 => (some t170)) else ((alidaderef12_Words.f k x0).bind fun bt171 => (alidadelaw12_LexWords.l0 k x0 x1 bt171.1 bt171.2.1 bt171.2.2 0))
def alidadelaw12_LexWords.l0 : Nat → ByteArray → ByteArray → List (S31) → Int → Int → Int → Option (Bool)
  | 0, _, _, _, _, _, _ => none
  | k + 1, x0, x1, x5, x6, x7, x8 => if x8 < 2 then ((lex_Words.f k x0).bind fun bt179 => (if (bt179.1.length : Int) = (x5.length : Int) then (if bt179.2.1 = x6 then (alidadelaw12_LexWords.j2 k x0 x1 x5 x6 x7 x8 bt179.1 (bt179.2.2 != x7)) else (alidadelaw12_LexWords.j2 k x0 x1 x5 x6 x7 x8 bt179.1 true)) else (alidadelaw12_LexWords.j2 k x0 x1 x5 x6 x7 x8 bt179.1 true))) else ((lex_Kind.f k x1).bind fun t176 => ((alidaderef12_Kind.f k x1).bind fun t177 => (if t176 = t177 then ((alidadelaw12_works.f k).bind fun t178 => (some t178)) else (none))))
def alidadelaw12_LexWords.j2 : Nat → ByteArray → ByteArray → List (S31) → Int → Int → Int → List (S32) → Bool → Option (Bool)
  | 0, _, _, _, _, _, _, _, _ => none
  | k + 1, x0, x1, x5, x6, x7, x8, x9, x52 => if x52 = true then (none) else (alidadelaw12_LexWords.l1 k x0 x1 x5 x6 x7 x8 x9 0)
def alidadelaw12_LexWords.l1 : Nat → ByteArray → ByteArray → List (S31) → Int → Int → Int → List (S32) → Int → Option (Bool)
  | 0, _, _, _, _, _, _, _, _ => none
  | k + 1, x0, x1, x5, x6, x7, x8, x9, x12 => if x12 < (x9.length : Int) then (if 0 ≤ x12 then (if x12 < (x5.length : Int) then (if (!(((rd_T32 x9 x12).f0) == ((rd_T31 x5 x12).f0)) || (!(((rd_T32 x9 x12).f1) == ((rd_T31 x5 x12).f1)) || (!(((rd_T32 x9 x12).f2) == ((rd_T31 x5 x12).f2)) || (!((((rd_T32 x9 x12).f3).toList) == (((rd_T31 x5 x12).f3).toList)))))) = true then (none) else ((lex_Kind.f k ((rd_T32 x9 x12).f3)).bind fun t187 => (if t187 = ((rd_T31 x5 x12).f0) then (alidadelaw12_LexWords.l1 k x0 x1 x5 x6 x7 x8 (x9.set (x12 : Int).toNat (⟨(rd_T32 x9 x12).f0, (rd_T32 x9 x12).f1, (rd_T32 x9 x12).f2, (⟨#[115, 112, 111, 105, 108, 116]⟩ : ByteArray)⟩ : S32)) (wrap64 (x12 + 1))) else (none)))) else (none)) else (none)) else (alidadelaw12_LexWords.l0 k x0 x1 x5 x6 x7 (wrap64 (x8 + 1)))
end
def alidadelaw12_LexWords.f (k : Nat) (a0 : ByteArray) (a1 : ByteArray) : Option (Bool) := if (a0.size : Int) > 5000 then (alidadelaw12_LexWords.j0 k a0 a1 true) else (alidadelaw12_LexWords.j0 k a0 a1 (decide ((a1.size : Int) > 5000)))
theorem alidadelaw12_LexWords.mono_l : ∀ k, (∀ y0 y1 y2, LeO (alidadelaw12_LexWords.j0 k y0 y1 y2) (alidadelaw12_LexWords.j0 (k + 1) y0 y1 y2)) ∧ (∀ y0 y1 y2 y3 y4 y5, LeO (alidadelaw12_LexWords.l0 k y0 y1 y2 y3 y4 y5) (alidadelaw12_LexWords.l0 (k + 1) y0 y1 y2 y3 y4 y5)) ∧ (∀ y0 y1 y2 y3 y4 y5 y6 y7, LeO (alidadelaw12_LexWords.j2 k y0 y1 y2 y3 y4 y5 y6 y7) (alidadelaw12_LexWords.j2 (k + 1) y0 y1 y2 y3 y4 y5 y6 y7)) ∧ (∀ y0 y1 y2 y3 y4 y5 y6 y7, LeO (alidadelaw12_LexWords.l1 k y0 y1 y2 y3 y4 y5 y6 y7) (alidadelaw12_LexWords.l1 (k + 1) y0 y1 y2 y3 y4 y5 y6 y7))
  | 0 => ⟨fun _ _ _ r h => by simp [alidadelaw12_LexWords.j0] at h, fun _ _ _ _ _ _ r h => by simp [alidadelaw12_LexWords.l0] at h, fun _ _ _ _ _ _ _ _ r h => by simp [alidadelaw12_LexWords.j2] at h, fun _ _ _ _ _ _ _ _ r h => by simp [alidadelaw12_LexWords.l1] at h⟩
  | k + 1 => by
    obtain ⟨ih0, ih1, ih2, ih3⟩ := alidadelaw12_LexWords.mono_l k
    refine ⟨?_, ?_, ?_, ?_⟩
    · intro y0 y1 y2
      unfold alidadelaw12_LexWords.j0
      repeat' first
      | (with_reducible exact ih0 _ _ _)
      | (with_reducible exact ih1 _ _ _ _ _ _)
      | (with_reducible exact ih2 _ _ _ _ _ _ _ _)
      | (with_reducible exact ih3 _ _ _ _ _ _ _ _)
      | (with_reducible exact alidadelaw12_works.mono _)
      | (with_reducible exact alidaderef12_Kind.mono _ _)
      | (with_reducible exact alidaderef12_Words.mono _ _)
      | (with_reducible exact lex_Kind.mono _ _)
      | (with_reducible exact lex_Words.mono _ _)
      | (with_reducible exact LeO.refl _)
      | (with_reducible exact LeO.none _)
      | (with_reducible refine LeO.ite ?_ ?_)
      | (with_reducible refine LeO.bind ?_ (fun _ => ?_))
      | exact ih0 _ _ _
      | exact ih1 _ _ _ _ _ _
      | exact ih2 _ _ _ _ _ _ _ _
      | exact ih3 _ _ _ _ _ _ _ _
      | exact alidadelaw12_works.mono _
      | exact alidaderef12_Kind.mono _ _
      | exact alidaderef12_Words.mono _ _
      | exact lex_Kind.mono _ _
      | exact lex_Words.mono _ _
      | exact LeO.none _
      | refine LeO.ite ?_ ?_
      | refine LeO.bind ?_ (fun _ => ?_)
    · intro y0 y1 y2 y3 y4 y5
      unfold alidadelaw12_LexWords.l0
      repeat' first
      | (with_reducible exact ih0 _ _ _)
      | (with_reducible exact ih1 _ _ _ _ _ _)
      | (with_reducible exact ih2 _ _ _ _ _ _ _ _)
      | (with_reducible exact ih3 _ _ _ _ _ _ _ _)
      | (with_reducible exact alidadelaw12_works.mono _)
      | (with_reducible exact alidaderef12_Kind.mono _ _)
      | (with_reducible exact alidaderef12_Words.mono _ _)
      | (with_reducible exact lex_Kind.mono _ _)
      | (with_reducible exact lex_Words.mono _ _)
      | (with_reducible exact LeO.refl _)
      | (with_reducible exact LeO.none _)
      | (with_reducible refine LeO.ite ?_ ?_)
      | (with_reducible refine LeO.bind ?_ (fun _ => ?_))
      | exact ih0 _ _ _
      | exact ih1 _ _ _ _ _ _
      | exact ih2 _ _ _ _ _ _ _ _
      | exact ih3 _ _ _ _ _ _ _ _
      | exact alidadelaw12_works.mono _
      | exact alidaderef12_Kind.mono _ _
      | exact alidaderef12_Words.mono _ _
      | exact lex_Kind.mono _ _
      | exact lex_Words.mono _ _
      | exact LeO.none _
      | refine LeO.ite ?_ ?_
      | refine LeO.bind ?_ (fun _ => ?_)
    · intro y0 y1 y2 y3 y4 y5 y6 y7
      unfold alidadelaw12_LexWords.j2
      repeat' first
      | (with_reducible exact ih0 _ _ _)
      | (with_reducible exact ih1 _ _ _ _ _ _)
      | (with_reducible exact ih2 _ _ _ _ _ _ _ _)
      | (with_reducible exact ih3 _ _ _ _ _ _ _ _)
      | (with_reducible exact alidadelaw12_works.mono _)
      | (with_reducible exact alidaderef12_Kind.mono _ _)
      | (with_reducible exact alidaderef12_Words.mono _ _)
      | (with_reducible exact lex_Kind.mono _ _)
      | (with_reducible exact lex_Words.mono _ _)
      | (with_reducible exact LeO.refl _)
      | (with_reducible exact LeO.none _)
      | (with_reducible refine LeO.ite ?_ ?_)
      | (with_reducible refine LeO.bind ?_ (fun _ => ?_))
      | exact ih0 _ _ _
      | exact ih1 _ _ _ _ _ _
      | exact ih2 _ _ _ _ _ _ _ _
      | exact ih3 _ _ _ _ _ _ _ _
      | exact alidadelaw12_works.mono _
      | exact alidaderef12_Kind.mono _ _
      | exact alidaderef12_Words.mono _ _
      | exact lex_Kind.mono _ _
      | exact lex_Words.mono _ _
      | exact LeO.none _
      | refine LeO.ite ?_ ?_
      | refine LeO.bind ?_ (fun _ => ?_)
    · intro y0 y1 y2 y3 y4 y5 y6 y7
      unfold alidadelaw12_LexWords.l1
      repeat' first
      | (with_reducible exact ih0 _ _ _)
      | (with_reducible exact ih1 _ _ _ _ _ _)
      | (with_reducible exact ih2 _ _ _ _ _ _ _ _)
      | (with_reducible exact ih3 _ _ _ _ _ _ _ _)
      | (with_reducible exact alidadelaw12_works.mono _)
      | (with_reducible exact alidaderef12_Kind.mono _ _)
      | (with_reducible exact alidaderef12_Words.mono _ _)
      | (with_reducible exact lex_Kind.mono _ _)
      | (with_reducible exact lex_Words.mono _ _)
      | (with_reducible exact LeO.refl _)
      | (with_reducible exact LeO.none _)
      | (with_reducible refine LeO.ite ?_ ?_)
      | (with_reducible refine LeO.bind ?_ (fun _ => ?_))
      | exact ih0 _ _ _
      | exact ih1 _ _ _ _ _ _
      | exact ih2 _ _ _ _ _ _ _ _
      | exact ih3 _ _ _ _ _ _ _ _
      | exact alidadelaw12_works.mono _
      | exact alidaderef12_Kind.mono _ _
      | exact alidaderef12_Words.mono _ _
      | exact lex_Kind.mono _ _
      | exact lex_Words.mono _ _
      | exact LeO.none _
      | refine LeO.ite ?_ ?_
      | refine LeO.bind ?_ (fun _ => ?_)
theorem alidadelaw12_LexWords.mono : ∀ a0 a1 k, LeO (alidadelaw12_LexWords.f k a0 a1) (alidadelaw12_LexWords.f (k + 1) a0 a1) := by
  intro a0 a1 k
  obtain ⟨ih0, ih1, ih2, ih3⟩ := alidadelaw12_LexWords.mono_l k
  unfold alidadelaw12_LexWords.f
  repeat' first
      | (with_reducible exact ih0 _ _ _)
      | (with_reducible exact ih1 _ _ _ _ _ _)
      | (with_reducible exact ih2 _ _ _ _ _ _ _ _)
      | (with_reducible exact ih3 _ _ _ _ _ _ _ _)
      | (with_reducible exact alidadelaw12_works.mono _)
      | (with_reducible exact alidaderef12_Kind.mono _ _)
      | (with_reducible exact alidaderef12_Words.mono _ _)
      | (with_reducible exact lex_Kind.mono _ _)
      | (with_reducible exact lex_Words.mono _ _)
      | (with_reducible exact LeO.refl _)
      | (with_reducible exact LeO.none _)
      | (with_reducible refine LeO.ite ?_ ?_)
      | (with_reducible refine LeO.bind ?_ (fun _ => ?_))
      | exact ih0 _ _ _
      | exact ih1 _ _ _ _ _ _
      | exact ih2 _ _ _ _ _ _ _ _
      | exact ih3 _ _ _ _ _ _ _ _
      | exact alidadelaw12_works.mono _
      | exact alidaderef12_Kind.mono _ _
      | exact alidaderef12_Words.mono _ _
      | exact lex_Kind.mono _ _
      | exact lex_Words.mono _ _
      | exact LeO.none _
      | refine LeO.ite ?_ ?_
      | refine LeO.bind ?_ (fun _ => ?_)
set_option maxHeartbeats 8000000 in
set_option maxRecDepth 100000 in
theorem alidadelaw12_LexWords.calls (k : Nat) (a0 : ByteArray) (a1 : ByteArray) (r : Bool) (w : World) (h : alidadelaw12_LexWords.f k a0 a1 = some r) :
    Calls Try.prog 3 #[.string a0, .string a1] w fun e w' => e = .returned (.bool r) ∧ Below w.heap.size w w' := by
  have hu32 := Try.underlying32
  have hu31 := Try.underlying31
  have HB := Aside0.mk (Below.refl w.heap.size w)
  have H : (if (a0.size : Int) > 5000 then (alidadelaw12_LexWords.j0 k a0 a1 true) else (alidadelaw12_LexWords.j0 k a0 a1 (decide ((a1.size : Int) > 5000)))) = some r := h
  clear h
  have HC3 := Aside0.mk H
  clear H
  go_enter Try.func3, Try.ntmps3
  go_upto_region 1 with (fail)
  repeat (go_quiet (fail); go_upto_region 1 with (fail))
  go_cut [20] (fun v20 wc => ∃ (kq : Nat) (x20_2 : Bool), v20 = .bool x20_2 ∧ Aside0 (alidadelaw12_LexWords.j0 kq a0 a1 x20_2 = some r) ∧ Aside0 (kq ≤ k) ∧ Aside0 (Below w.heap.size w wc))
  case first =>
    have H := HC3.out
    clear HC3
    by_cases c4 : (a0.size : Int) > 5000
    · rw [if_pos c4] at H
      have c4b0 : decide (5000 < (a0.size : Int)) = true := decide_eq_true c4
      have c4b1 : decide (5000 < a0.size) = true := decide_eq_true (by omega)
      clear c4
      (first | rw [c4b0] | (simp only [i64_w, i32_w]; rw [c4b0]) | skip)
      have H' := Aside0.mk H
      clear H
      go_wp2
      repeat (go_quiet (fail); try go_wp2)
      go_meet
      case rel => exact ⟨_, (true), (by first | rfl | (simp; done) | (simp [*]; done)), H', ⟨by first | omega | exact Nat.le_refl _⟩, ⟨by repeat (first | (with_reducible first | exact HB.out | apply below_alloc | apply pw_below_drewN | apply below_drew1) | exact HB.out)⟩⟩
    · rw [if_neg c4] at H
      have c4b0 : decide (5000 < (a0.size : Int)) = false := decide_eq_false c4
      have c4b1 : decide (5000 < a0.size) = false := decide_eq_false (by omega)
      clear c4
      (first | rw [c4b0] | (simp only [i64_w, i32_w]; rw [c4b0]) | skip)
      have H' := Aside0.mk H
      clear H
      go_wp2
      repeat (go_quiet (fail); try go_wp2)
      go_meet
      case rel => exact ⟨_, (decide ((a1.size : Int) > 5000)), (by first | rfl | (simp; done) | (simp [*]; done)), H', ⟨by first | omega | exact Nat.le_refl _⟩, ⟨by repeat (first | (with_reducible first | exact HB.out | apply below_alloc | apply pw_below_drewN | apply below_drew1) | exact HB.out)⟩⟩
  case rest =>
    clear HC3
    try clear p2
    try clear c3
    try clear c4
    try clear c4b0
    try clear c4b1
    obtain ⟨kq, x20_2, rfl, HA, HJ2, HB⟩ := hcut
    cases kq with
    | zero => exact absurd HA.out (by simp [alidadelaw12_LexWords.j0])
    | succ kj2 =>
      have H := HA.out
      clear HA
      simp only [alidadelaw12_LexWords.j0] at H
      by_cases c5 : x20_2 = true
      · subst c5
        have H1 : ((alidadelaw12_works.f kj2).bind fun t170 => (some t170)) = some r := by rw [if_pos rfl] at H; exact H
        clear H
        have H := H1
        clear H1
        replace H := Option.bind_eq_some_iff.mp H
        obtain ⟨t170, A60, H⟩ := H
        replace H : (some t170) = some r := H
        have A6 := Aside0.mk A60
        clear A60
        obtain rfl := Option.some.inj H
        go_wp2_with (first | (go_at_call 12; (with_reducible refine (alidadelaw12_works.calls kj2  t170 _ A6.out).mono ?_); rintro e w7 ⟨rfl, hb⟩; have n0_ := Aside0.mk (below_step (by repeat (first | (with_reducible first | exact HB.out | apply below_alloc | apply pw_below_drewN | apply below_drew1) | exact HB.out)) hb); clear HB; have HB := n0_; clear n0_; (try clear hb); (try clear hb2); (try clear hk); (try clear hi)))
        repeat (go_quiet (first | (go_at_call 12; (fail_if_success (have hx_ := mkt170_)); have mkt170_ := Aside0.mk (Nat.le_refl 0); (with_reducible refine (alidadelaw12_works.calls kj2  t170 _ A6.out).mono ?_); rintro e w7 ⟨rfl, hb⟩; have n0_ := Aside0.mk (below_step (by repeat (first | (with_reducible first | exact HB.out | apply below_alloc | apply pw_below_drewN | apply below_drew1) | exact HB.out)) hb); clear HB; have HB := n0_; clear n0_; (try clear hb); (try clear hb2); (try clear hk); (try clear hi))); try go_wp2_with (first | (go_at_call 12; (with_reducible refine (alidadelaw12_works.calls kj2  t170 _ A6.out).mono ?_); rintro e w7 ⟨rfl, hb⟩; have n0_ := Aside0.mk (below_step (by repeat (first | (with_reducible first | exact HB.out | apply below_alloc | apply pw_below_drewN | apply below_drew1) | exact HB.out)) hb); clear HB; have HB := n0_; clear n0_; (try clear hb); (try clear hb2); (try clear hk); (try clear hi))))
        go_ret
        exact ⟨by first | rfl | (simp [errW_none, errW_some] <;> rfl) | (simp [*, errW_none, errW_some] <;> rfl), by repeat (first | (with_reducible first | exact HB.out | apply below_alloc | apply pw_below_drewN | apply below_drew1) | exact HB.out)⟩
      · replace c5 := Bool.eq_false_iff.mpr c5
        subst c5
        have H1 : ((alidaderef12_Words.f kj2 a0).bind fun bt171 => (alidadelaw12_LexWords.l0 kj2 a0 a1 bt171.1 bt171.2.1 bt171.2.2 0)) = some r := by rw [if_neg (show ¬ (false = true) by decide)] at H; exact H
        clear H
        have H := H1
        clear H1
        replace H := Option.bind_eq_some_iff.mp H
        obtain ⟨⟨t171, t172, t173⟩, A80, H⟩ := H
        replace H : (alidadelaw12_LexWords.l0 kj2 a0 a1 t171 t172 t173 0) = some r := H
        have A8 := Aside0.mk A80
        clear A80
        have H' := Aside0.mk H
        clear H
        go_wp2_with (first | (go_at_call 13; (with_reducible refine (alidaderef12_Words.calls kj2 a0 t171 t172 t173 _ A8.out).mono ?_); rintro e w9 ⟨v174, rfl, ho0, hb⟩; have n0_ := Aside0.mk (Kd.R_lower ho0 (below_size (by repeat (first | (with_reducible first | exact HB.out | apply below_alloc | apply pw_below_drewN | apply below_drew1) | exact HB.out)))); have n1_ := Aside0.mk (below_step (by repeat (first | (with_reducible first | exact HB.out | apply below_alloc | apply pw_below_drewN | apply below_drew1) | exact HB.out)) hb); clear HB; have HO175 := n0_; have HB := n1_; clear n0_ n1_; (try clear hb); (try clear hb2); (try clear hk); (try clear hi); (try clear ho0)))
        repeat (go_quiet (first | (go_at_call 13; (fail_if_success (have hx_ := mkt173_)); have mkt173_ := Aside0.mk (Nat.le_refl 0); (with_reducible refine (alidaderef12_Words.calls kj2 a0 t171 t172 t173 _ A8.out).mono ?_); rintro e w9 ⟨v174, rfl, ho0, hb⟩; have n0_ := Aside0.mk (Kd.R_lower ho0 (below_size (by repeat (first | (with_reducible first | exact HB.out | apply below_alloc | apply pw_below_drewN | apply below_drew1) | exact HB.out)))); have n1_ := Aside0.mk (below_step (by repeat (first | (with_reducible first | exact HB.out | apply below_alloc | apply pw_below_drewN | apply below_drew1) | exact HB.out)) hb); clear HB; have HO175 := n0_; have HB := n1_; clear n0_ n1_; (try clear hb); (try clear hb2); (try clear hk); (try clear hi); (try clear ho0))); try go_wp2_with (first | (go_at_call 13; (with_reducible refine (alidaderef12_Words.calls kj2 a0 t171 t172 t173 _ A8.out).mono ?_); rintro e w9 ⟨v174, rfl, ho0, hb⟩; have n0_ := Aside0.mk (Kd.R_lower ho0 (below_size (by repeat (first | (with_reducible first | exact HB.out | apply below_alloc | apply pw_below_drewN | apply below_drew1) | exact HB.out)))); have n1_ := Aside0.mk (below_step (by repeat (first | (with_reducible first | exact HB.out | apply below_alloc | apply pw_below_drewN | apply below_drew1) | exact HB.out)) hb); clear HB; have HO175 := n0_; have HB := n1_; clear n0_ n1_; (try clear hb); (try clear hb2); (try clear hk); (try clear hi); (try clear ho0))))
        go_loopg [8] kj2 (fun kq v8 w' => ∃ (x8_2 : Int), v8 = .int .i64 x8_2 ∧ Aside0 (alidadelaw12_LexWords.l0 kq a0 a1 t171 t172 t173 x8_2 = some r) ∧ Aside0 (kq ≤ kj2) ∧ Aside0 (Kd.R k31 31 w' w.heap.size (fun _ => True) v174 t171) ∧ Aside0 (Below w.heap.size w w'))
        case atStart => exact ⟨(0), (by first | rfl | (simp; done) | (simp [*]; done)), H', ⟨Nat.le_refl _⟩, ⟨by (with_reducible repeat (first | apply Kd.R_alloc | apply Kd.R_drewN | apply Kd.R_drew)); exact HO175.out⟩, ⟨by repeat (first | (with_reducible first | exact HB.out | apply below_alloc | apply pw_below_drewN | apply below_drew1) | exact HB.out)⟩⟩
        case round =>
          clear H'
          try clear p2
          try clear c3
          try clear c4
          try clear c4b0
          try clear c4b1
          try clear c5
          try clear p2
          obtain ⟨x8_2, rfl, HA, HK2, HO_5, HB⟩ := hrel
          cases gk with
          | zero => exact absurd HA.out (by simp [alidadelaw12_LexWords.l0])
          | succ k2 =>
            have H := HA.out
            clear HA
            simp only [alidadelaw12_LexWords.l0] at H
            by_cases c10 : x8_2 < 2
            · rw [if_pos c10] at H
              have c10b0 : decide (x8_2 < 2) = true := decide_eq_true c10
              clear c10
              replace H := Option.bind_eq_some_iff.mp H
              obtain ⟨⟨t179, t180, t181⟩, A110, H⟩ := H
              replace H : (if (t179.length : Int) = (t171.length : Int) then (if t180 = t172 then (alidadelaw12_LexWords.j2 k2 a0 a1 t171 t172 t173 x8_2 t179 (t181 != t173)) else (alidadelaw12_LexWords.j2 k2 a0 a1 t171 t172 t173 x8_2 t179 true)) else (alidadelaw12_LexWords.j2 k2 a0 a1 t171 t172 t173 x8_2 t179 true)) = some r := H
              have A11 := Aside0.mk A110
              clear A110
              have HC12 := Aside0.mk H
              clear H
              go_upto_region 8 with (first | (go_at_call 14; (with_reducible refine (lex_Words.calls k2 a0 t179 t180 t181 _ A11.out).mono ?_); rintro e w13 ⟨v182, rfl, ho0, hb⟩; have n0_ := Aside0.mk (Kd.R_below (by (with_reducible repeat (first | apply Kd.R_alloc | apply Kd.R_drewN | apply Kd.R_drew)); exact HO_5.out) hb); have n1_ := Aside0.mk (Kd.R_lower ho0 (below_size (by repeat (first | (with_reducible first | exact HB.out | apply below_alloc | apply pw_below_drewN | apply below_drew1) | exact HB.out)))); have n2_ := Aside0.mk (below_step (by repeat (first | (with_reducible first | exact HB.out | apply below_alloc | apply pw_below_drewN | apply below_drew1) | exact HB.out)) hb); clear HO_5; clear HB; have HO_5 := n0_; have HO183 := n1_; have HB := n2_; clear n0_ n1_ n2_; (try clear hb); (try clear hb2); (try clear hk); (try clear hi); (try clear ho0)))
              repeat (go_quiet (first | (go_at_call 14; (with_reducible refine (lex_Words.calls k2 a0 t179 t180 t181 _ A11.out).mono ?_); rintro e w13 ⟨v182, rfl, ho0, hb⟩; have n0_ := Aside0.mk (Kd.R_below (by (with_reducible repeat (first | apply Kd.R_alloc | apply Kd.R_drewN | apply Kd.R_drew)); exact HO_5.out) hb); have n1_ := Aside0.mk (Kd.R_lower ho0 (below_size (by repeat (first | (with_reducible first | exact HB.out | apply below_alloc | apply pw_below_drewN | apply below_drew1) | exact HB.out)))); have n2_ := Aside0.mk (below_step (by repeat (first | (with_reducible first | exact HB.out | apply below_alloc | apply pw_below_drewN | apply below_drew1) | exact HB.out)) hb); clear HO_5; clear HB; have HO_5 := n0_; have HO183 := n1_; have HB := n2_; clear n0_ n1_ n2_; (try clear hb); (try clear hb2); (try clear hk); (try clear hi); (try clear ho0))); go_upto_region 8 with (first | (go_at_call 14; (with_reducible refine (lex_Words.calls k2 a0 t179 t180 t181 _ A11.out).mono ?_); rintro e w13 ⟨v182, rfl, ho0, hb⟩; have n0_ := Aside0.mk (Kd.R_below (by (with_reducible repeat (first | apply Kd.R_alloc | apply Kd.R_drewN | apply Kd.R_drew)); exact HO_5.out) hb); have n1_ := Aside0.mk (Kd.R_lower ho0 (below_size (by repeat (first | (with_reducible first | exact HB.out | apply below_alloc | apply pw_below_drewN | apply below_drew1) | exact HB.out)))); have n2_ := Aside0.mk (below_step (by repeat (first | (with_reducible first | exact HB.out | apply below_alloc | apply pw_below_drewN | apply below_drew1) | exact HB.out)) hb); clear HO_5; clear HB; have HO_5 := n0_; have HO183 := n1_; have HB := n2_; clear n0_ n1_ n2_; (try clear hb); (try clear hb2); (try clear hk); (try clear hi); (try clear ho0))))
              (try simp only [Act.put, List.setIfInBounds_toArray, List.set_cons_zero, List.set_cons_succ])
              go_cut [52] (fun v52 wc => ∃ (kq : Nat) (x52_11 : Bool), v52 = .bool x52_11 ∧ Aside0 (alidadelaw12_LexWords.j2 kq a0 a1 t171 t172 t173 x8_2 t179 x52_11 = some r) ∧ Aside0 (kq ≤ k2) ∧ Aside0 (Kd.R k31 31 wc w.heap.size (fun _ => True) v174 t171) ∧ Aside0 (Kd.R k32 32 wc w.heap.size (fun _ => True) v182 t179) ∧ Aside0 (Below w.heap.size w wc))
              case first =>
                have H := HC12.out
                clear HC12
                by_cases c14 : (t179.length : Int) = (t171.length : Int)
                · rw [if_pos c14] at H
                  have c14b0 : ((t179.length : Int) == (t171.length : Int)) = true := beq_iff_eq.mpr c14
                  have c14b1 : ((t179.length : Int) != (t171.length : Int)) = false := bne_eq_false_iff_eq.mpr c14
                  have c14b2 : (t179.length == t171.length) = true := by first | simpa using c14 | (simp at c14 ⊢; omega)
                  clear c14
                  (first | rw [c14b0] | (simp only [i64_w, i32_w]; rw [c14b0]) | skip)
                  by_cases c15 : t180 = t172
                  · rw [if_pos c15] at H
                    have c15b0 : (t180 == t172) = true := beq_iff_eq.mpr c15
                    have c15b1 : (t180 != t172) = false := bne_eq_false_iff_eq.mpr c15
                    clear c15
                    have H' := Aside0.mk H
                    clear H
                    obtain ⟨Ao16, co16, eo16⟩ := Kd.R_slice HO183.out
                    subst eo16
                    obtain ⟨Ao17, co17, eo17⟩ := Kd.R_slice HO_5.out
                    subst eo17
                    go_wp2
                    repeat (go_quiet (fail); try go_wp2)
                    go_meet
                    case rel => exact ⟨_, ((t181 != t173)), (by first | rfl | (simp; done) | (simp [*]; done)), H', ⟨by have := HJ2.out; have := HK2.out; first | omega | exact Nat.le_refl _⟩, ⟨by (with_reducible repeat (first | apply Kd.R_alloc | apply Kd.R_drewN | apply Kd.R_drew)); exact HO_5.out⟩, ⟨by (with_reducible repeat (first | apply Kd.R_alloc | apply Kd.R_drewN | apply Kd.R_drew)); exact HO183.out⟩, ⟨by repeat (first | (with_reducible first | exact HB.out | apply below_alloc | apply pw_below_drewN | apply below_drew1) | exact HB.out)⟩⟩
                  · rw [if_neg c15] at H
                    have c15b0 : (t180 == t172) = false := beq_eq_false_iff_ne.mpr c15
                    have c15b1 : (t180 != t172) = true := bne_iff_ne.mpr c15
                    have H' := Aside0.mk H
                    clear H
                    obtain ⟨Ao18, co18, eo18⟩ := Kd.R_slice HO183.out
                    subst eo18
                    obtain ⟨Ao19, co19, eo19⟩ := Kd.R_slice HO_5.out
                    subst eo19
                    go_wp2
                    repeat (go_quiet (fail); try go_wp2)
                    go_meet
                    case rel => exact ⟨_, (true), (by first | rfl | (simp; done) | (simp [*]; done)), H', ⟨by have := HJ2.out; have := HK2.out; first | omega | exact Nat.le_refl _⟩, ⟨by (with_reducible repeat (first | apply Kd.R_alloc | apply Kd.R_drewN | apply Kd.R_drew)); exact HO_5.out⟩, ⟨by (with_reducible repeat (first | apply Kd.R_alloc | apply Kd.R_drewN | apply Kd.R_drew)); exact HO183.out⟩, ⟨by repeat (first | (with_reducible first | exact HB.out | apply below_alloc | apply pw_below_drewN | apply below_drew1) | exact HB.out)⟩⟩
                · rw [if_neg c14] at H
                  have c14b0 : ((t179.length : Int) == (t171.length : Int)) = false := beq_eq_false_iff_ne.mpr c14
                  have c14b1 : ((t179.length : Int) != (t171.length : Int)) = true := bne_iff_ne.mpr c14
                  have c14b2 : (t179.length == t171.length) = false := by first | simpa using c14 | (simp at c14 ⊢; omega)
                  (first | rw [c14b0] | (simp only [i64_w, i32_w]; rw [c14b0]) | skip)
                  have H' := Aside0.mk H
                  clear H
                  obtain ⟨Ao20, co20, eo20⟩ := Kd.R_slice HO183.out
                  subst eo20
                  obtain ⟨Ao21, co21, eo21⟩ := Kd.R_slice HO_5.out
                  subst eo21
                  go_wp2
                  repeat (go_quiet (fail); try go_wp2)
                  go_meet
                  case rel => exact ⟨_, (true), (by first | rfl | (simp; done) | (simp [*]; done)), H', ⟨by have := HJ2.out; have := HK2.out; first | omega | exact Nat.le_refl _⟩, ⟨by (with_reducible repeat (first | apply Kd.R_alloc | apply Kd.R_drewN | apply Kd.R_drew)); exact HO_5.out⟩, ⟨by (with_reducible repeat (first | apply Kd.R_alloc | apply Kd.R_drewN | apply Kd.R_drew)); exact HO183.out⟩, ⟨by repeat (first | (with_reducible first | exact HB.out | apply below_alloc | apply pw_below_drewN | apply below_drew1) | exact HB.out)⟩⟩
              case rest =>
                clear HC12
                try clear c1
                try clear p2
                try clear c3
                try clear c4
                try clear c4b0
                try clear c4b1
                try clear c5
                try clear c10
                try clear c10b0
                try clear c14
                try clear c14b0
                try clear c14b1
                try clear c14b2
                try clear c15
                try clear c15b0
                try clear c15b1
                try clear p2
                obtain ⟨kq, x52_11, rfl, HA, HJ11, HO_5, HO_9, HB⟩ := hcut
                cases kq with
                | zero => exact absurd HA.out (by simp [alidadelaw12_LexWords.j2])
                | succ kj11 =>
                  have H := HA.out
                  clear HA
                  simp only [alidadelaw12_LexWords.j2] at H
                  by_cases c22 : x52_11 = true
                  · subst c22
                    have H1 : (none) = some r := by rw [if_pos rfl] at H; exact H
                    clear H
                    have H := H1
                    clear H1
                    exact absurd H (by simp)
                  · replace c22 := Bool.eq_false_iff.mpr c22
                    subst c22
                    have H1 : (alidadelaw12_LexWords.l1 kj11 a0 a1 t171 t172 t173 x8_2 t179 0) = some r := by rw [if_neg (show ¬ (false = true) by decide)] at H; exact H
                    clear H
                    have H := H1
                    clear H1
                    have H' := Aside0.mk H
                    clear H
                    go_wp2
                    repeat (go_quiet (fail); try go_wp2)
                    go_loopg [12] kj11 (fun kq v12 w' => ∃ (x9_4 : List (S32)) (x12_4 : Int), v12 = .int .i64 x12_4 ∧ Aside0 (alidadelaw12_LexWords.l1 kq a0 a1 t171 t172 t173 x8_2 x9_4 x12_4 = some r) ∧ Aside0 (kq ≤ kj11) ∧ Aside0 (Kd.R k31 31 w' w.heap.size (fun _ => True) v174 t171) ∧ Aside0 (Kd.R k32 32 w' w.heap.size (fun _ => True) v182 x9_4) ∧ Aside0 (Below w.heap.size w w'))
                    case atStart => exact ⟨(t179), (0), (by first | rfl | (simp; done) | (simp [*]; done)), H', ⟨Nat.le_refl _⟩, ⟨by (with_reducible repeat (first | apply Kd.R_alloc | apply Kd.R_drewN | apply Kd.R_drew)); exact HO_5.out⟩, ⟨by (with_reducible repeat (first | apply Kd.R_alloc | apply Kd.R_drewN | apply Kd.R_drew)); exact HO_9.out⟩, ⟨by repeat (first | (with_reducible first | exact HB.out | apply below_alloc | apply pw_below_drewN | apply below_drew1) | exact HB.out)⟩⟩
                    case round =>
                      clear H'
                      try clear c1
                      try clear c2
                      try clear p2
                      try clear c3
                      try clear c4
                      try clear c4b0
                      try clear c4b1
                      try clear c5
                      try clear c10
                      try clear c10b0
                      try clear c14
                      try clear c14b0
                      try clear c14b1
                      try clear c14b2
                      try clear c15
                      try clear c15b0
                      try clear c15b1
                      try clear c22
                      try clear p2
                      obtain ⟨x9_4, x12_4, rfl, HA, HK4, HO_5, HO_9, HB⟩ := hrel
                      cases gk with
                      | zero => exact absurd HA.out (by simp [alidadelaw12_LexWords.l1])
                      | succ k4 =>
                        have H := HA.out
                        clear HA
                        simp only [alidadelaw12_LexWords.l1] at H
                        by_cases c23 : x12_4 < (x9_4.length : Int)
                        · rw [if_pos c23] at H
                          have c23b0 : decide (x12_4 < (x9_4.length : Int)) = true := decide_eq_true c23
                          clear c23
                          by_cases c24 : 0 ≤ x12_4
                          · rw [if_pos c24] at H
                            have c24b0 : decide (0 ≤ x12_4) = true := decide_eq_true c24
                            clear c24
                            by_cases c25 : x12_4 < (t171.length : Int)
                            · rw [if_pos c25] at H
                              have c25b0 : decide (x12_4 < (t171.length : Int)) = true := decide_eq_true c25
                              clear c25
                              by_cases c26 : (!(((rd_T32 x9_4 x12_4).f0) == ((rd_T31 t171 x12_4).f0)) || (!(((rd_T32 x9_4 x12_4).f1) == ((rd_T31 t171 x12_4).f1)) || (!(((rd_T32 x9_4 x12_4).f2) == ((rd_T31 t171 x12_4).f2)) || (!((((rd_T32 x9_4 x12_4).f3).toList) == (((rd_T31 t171 x12_4).f3).toList)))))) = true
                              · rw [if_pos c26] at H
                                exact absurd H (by simp)
                              · rw [if_neg c26] at H
                                have c26b0 : (!(((rd_T32 x9_4 x12_4).f0) == ((rd_T31 t171 x12_4).f0)) || (!(((rd_T32 x9_4 x12_4).f1) == ((rd_T31 t171 x12_4).f1)) || (!(((rd_T32 x9_4 x12_4).f2) == ((rd_T31 t171 x12_4).f2)) || (!((((rd_T32 x9_4 x12_4).f3).toList) == (((rd_T31 t171 x12_4).f3).toList)))))) = false := by simpa using c26
                                clear c26
                                replace H := Option.bind_eq_some_iff.mp H
                                obtain ⟨t187, A270, H⟩ := H
                                replace H : (if t187 = ((rd_T31 t171 x12_4).f0) then (alidadelaw12_LexWords.l1 k4 a0 a1 t171 t172 t173 x8_2 (x9_4.set (x12_4 : Int).toNat (⟨(rd_T32 x9_4 x12_4).f0, (rd_T32 x9_4 x12_4).f1, (rd_T32 x9_4 x12_4).f2, (⟨#[115, 112, 111, 105, 108, 116]⟩ : ByteArray)⟩ : S32)) (wrap64 (x12_4 + 1))) else (none)) = some r := H
                                have A27 := Aside0.mk A270
                                clear A270
                                by_cases c28 : t187 = ((rd_T31 t171 x12_4).f0)
                                · rw [if_pos c28] at H
                                  have c28b0 : (t187 == ((rd_T31 t171 x12_4).f0)) = true := beq_iff_eq.mpr c28
                                  have c28b1 : (t187 != ((rd_T31 t171 x12_4).f0)) = false := bne_eq_false_iff_eq.mpr c28
                                  clear c28
                                  obtain ⟨y189, hy189⟩ : ∃ y_ : List (S32), y_ = (x9_4.set (x12_4 : Int).toNat (⟨(rd_T32 x9_4 x12_4).f0, (rd_T32 x9_4 x12_4).f1, (rd_T32 x9_4 x12_4).f2, (⟨#[115, 112, 111, 105, 108, 116]⟩ : ByteArray)⟩ : S32)) := ⟨_, rfl⟩
                                  replace H : (alidadelaw12_LexWords.l1 k4 a0 a1 t171 t172 t173 x8_2 y189 (wrap64 (x12_4 + 1))) = some r := by first | (rw [hy189]; with_reducible exact H) | (have H2_ := (Option.bind_some _ _).symm.trans H; rw [hy189]; with_reducible exact H2_) | (have H2_ := (Option.bind_some _ _).symm.trans H; with_reducible exact H2_) | with_reducible exact H | (rw [hy189]; exact H) | exact H
                                  have Ny189 := Aside0.mk hy189
                                  clear hy189
                                  have H' := Aside0.mk H
                                  clear H
                                  obtain ⟨Ao30, co30, eo30⟩ := Kd.R_slice HO_9.out
                                  subst eo30
                                  have p184 : 0 ≤ (x12_4 : Int) := of_decide_eq_true (by first | (with_reducible assumption) | assumption)
                                  have q184 : x12_4 < (x9_4.length : Int) := of_decide_eq_true (by first | (with_reducible assumption) | assumption)
                                  obtain ⟨ad184, e184, hx184_0, hx184_1, hx184_2, hx184_3⟩ := at_T32 (Kd.R_reads' HO_9.out).2.2 x12_4 p184 q184
                                  cases e184
                                  replace p184 := eq_true p184
                                  replace q184 := eq_true q184
                                  obtain ⟨Ao31, co31, eo31⟩ := Kd.R_slice HO_5.out
                                  subst eo31
                                  have p185 : 0 ≤ (x12_4 : Int) := of_decide_eq_true (by first | (with_reducible assumption) | assumption)
                                  have q185 : x12_4 < (t171.length : Int) := of_decide_eq_true (by first | (with_reducible assumption) | assumption)
                                  obtain ⟨ad185, e185, hx185_0, hx185_1, hx185_2, hx185_3⟩ := at_T31 (Kd.R_reads' HO_5.out).2.2 x12_4 p185 q185
                                  cases e185
                                  replace p185 := eq_true p185
                                  replace q185 := eq_true q185
                                  have p186 : 0 ≤ (x12_4 : Int) := of_decide_eq_true (by first | (with_reducible assumption) | assumption)
                                  have q186 : x12_4 < (x9_4.length : Int) := of_decide_eq_true (by first | (with_reducible assumption) | assumption)
                                  obtain ⟨ad186, e186, hx186_0, hx186_1, hx186_2, hx186_3⟩ := at_T32 (Kd.R_reads' HO_9.out).2.2 x12_4 p186 q186
                                  obtain rfl : ad184 = ad186 := (by injection e186)
                                  replace p186 := eq_true p186
                                  replace q186 := eq_true q186
                                  go_wp2_with (first | (go_at_call 15; (with_reducible refine (lex_Kind.calls k4 ((rd_T32 x9_4 x12_4).f3) t187 _ A27.out).mono ?_); rintro e w' ⟨rfl, ⟨nd, rfl⟩⟩; (try first | exact ⟨rfl, _, World.drewN_drewN _ _ _⟩ | exact ⟨rfl, _, Eq.trans (World.drewN_drewN _ _ _) (congrArg (World.drewN _) (Nat.add_assoc _ _ _))⟩); have p188 : 0 ≤ (x12_4 : Int) := of_decide_eq_true (by first | (with_reducible assumption) | assumption); have q188 : x12_4 < (t171.length : Int) := of_decide_eq_true (by first | (with_reducible assumption) | assumption); obtain ⟨ad188, e188, hx188_0, hx188_1, hx188_2, hx188_3⟩ := at_T31 (Kd.R_reads' HO_5.out).2.2 x12_4 p188 q188; obtain rfl : ad185 = ad188 := (by injection e188); replace p188 := eq_true p188; replace q188 := eq_true q188; have p29 : 0 ≤ (x12_4 : Int) := of_decide_eq_true (by first | (with_reducible assumption) | assumption); have q29 : (x12_4 : Int) < ((x9_4.length : Int) : Int) := of_decide_eq_true (by first | (with_reducible assumption) | assumption); obtain ⟨go29, co29, eo29, gb29, gl29, cl29, HG29⟩ := Kd.R_form HO_9.out (by omega); (first | cases eo29 | (injection eo29 with ea_ en_ ec_; (first | subst ea_ | (injection ea_ with ea_; subst ea_)); subst ec_; clear en_)); have GB29 := Aside0.mk gb29; have GG29 := Aside0.mk HG29; clear gb29 gl29 HG29; (first | simp only [add_plain] at hx184_0 | skip); (first | simp only [add_plain] at hx184_1 | skip); (first | simp only [add_plain] at hx184_2 | skip); (first | simp only [add_plain] at hx184_3 | skip); (first | simp only [add_plain] at hx186_0 | skip); (first | simp only [add_plain] at hx186_1 | skip); (first | simp only [add_plain] at hx186_2 | skip); (first | simp only [add_plain] at hx186_3 | skip); obtain ⟨ce29, hcl29, hM29, hcc29, hfr29⟩ := Kd.R_elem HO_9.out z32 (x12_4 : Int) p29 q29; obtain rfl := k32_openM hM29; have hx29_0 : wr.cell? ⟨go29, (x12_4 : Int).toNat * 4, none⟩ = some (.int .u8 ((rd_T32 x9_4 x12_4).f0)) := hcc29 0 _ rfl; have hx29_1 : wr.cell? ⟨go29, (x12_4 : Int).toNat * 4 + 1, none⟩ = some (.int .i64 ((rd_T32 x9_4 x12_4).f1)) := hcc29 1 _ rfl; have hx29_2 : wr.cell? ⟨go29, (x12_4 : Int).toNat * 4 + 2, none⟩ = some (.int .i64 ((rd_T32 x9_4 x12_4).f2)) := hcc29 2 _ rfl; have hx29_3 : wr.cell? ⟨go29, (x12_4 : Int).toNat * 4 + 3, none⟩ = some (.string ((rd_T32 x9_4 x12_4).f3)) := hcc29 3 _ rfl; have hf29_0 : wr.frozen? ⟨go29, (x12_4 : Int).toNat * 4, none⟩ = false := hfr29 0; have hf29_1 : wr.frozen? ⟨go29, (x12_4 : Int).toNat * 4 + 1, none⟩ = false := hfr29 1; have hf29_2 : wr.frozen? ⟨go29, (x12_4 : Int).toNat * 4 + 2, none⟩ = false := hfr29 2; have hf29_3 : wr.frozen? ⟨go29, (x12_4 : Int).toNat * 4 + 3, none⟩ = false := hfr29 3; clear hcl29 hcc29 hfr29 hM29; replace p29 := eq_true p29; replace q29 := eq_true q29; have HX32 := Aside0.mk (show Kd.R k32 32 wr w.heap.size (fun _ => True) (.slice (some ⟨go29, 0, none⟩) x9_4.length co30) x9_4 from (by (with_reducible repeat (first | apply Kd.R_alloc | apply Kd.R_drewN | apply Kd.R_drew)); exact HO_9.out)); obtain ⟨ce32, hcl32, hM32, hcc32, hfr32⟩ := Kd.R_elem HX32.out z32 (x12_4 : Int) (of_decide_eq_true (by first | (with_reducible assumption) | assumption)) (by have h_ : (x12_4 : Int) < ((x9_4.length : Int) : Int) := of_decide_eq_true (by first | (with_reducible assumption) | assumption); first | exact h_ | (have e_ := (Kd.R_reads' HO_9.out).1; omega) | simpa using h_); obtain rfl := k32_openM hM32; have HP32 := Kd.R_seg HX32.out (x12_4 : Int) (of_decide_eq_true (by first | (with_reducible assumption) | assumption)) (by have h_ : (x12_4 : Int) < ((x9_4.length : Int) : Int) := of_decide_eq_true (by first | (with_reducible assumption) | assumption); first | exact h_ | (have e_ := (Kd.R_reads' HO_9.out).1; omega) | simpa using h_) (seg := [.string (⟨#[115, 112, 111, 105, 108, 116]⟩ : ByteArray)]) (j := 3) hcl32 hcc32 (show 4 ≤ 4 from by decide) (x' := (⟨(rd_T32 x9_4 x12_4).f0, (rd_T32 x9_4 x12_4).f1, (rd_T32 x9_4 x12_4).f2, (⟨#[115, 112, 111, 105, 108, 116]⟩ : ByteArray)⟩ : S32)) (k32_mkM _ _ _ (⟨(rd_T32 x9_4 x12_4).f0, (rd_T32 x9_4 x12_4).f1, (rd_T32 x9_4 x12_4).f2, (⟨#[115, 112, 111, 105, 108, 116]⟩ : ByteArray)⟩ : S32) ) (fun _ hk => hk); have hx32_3 := hcc32 3 _ rfl; (try simp only [show (k32).sz = 4 from rfl, Nat.mul_one, Nat.add_zero] at hx32_3); have hf32_3 := hfr32 3; (try simp only [show (k32).sz = 4 from rfl, Nat.mul_one, Nat.add_zero] at hf32_3); clear hcl32 hcc32 hfr32 hM32) | ((with_reducible refine gate_store (t := 9) (p := 85) rfl ?_); (try (rw [drewN_self wr]; generalize hq_ : World.drewN wr _ = wr; have n0_ := Aside0.mk (Kd.R_at hq_ HO_5.out); have n1_ := Aside0.mk (Kd.R_at hq_ HO_9.out); have n2_ := Aside0.mk (below_at hq_ HB.out); clear hq_ HO_5 HO_9 HB; have HO_5 := n0_; have HO_9 := n1_; have HB := n2_; clear n0_ n1_ n2_; (try (have HX32 := Aside0.mk (show Kd.R k32 32 wr w.heap.size (fun _ => True) (.slice (some ⟨go29, 0, none⟩) x9_4.length co30) x9_4 from (by (with_reducible repeat (first | apply Kd.R_alloc | apply Kd.R_drewN | apply Kd.R_drew)); exact HO_9.out)))); (try (obtain ⟨ce32, hcl32, hM32, hcc32, hfr32⟩ := Kd.R_elem HX32.out z32 (x12_4 : Int) (of_decide_eq_true (by first | (with_reducible assumption) | assumption)) (by have h_ : (x12_4 : Int) < ((x9_4.length : Int) : Int) := of_decide_eq_true (by first | (with_reducible assumption) | assumption); first | exact h_ | (have e_ := (Kd.R_reads' HO_9.out).1; omega) | simpa using h_))); (try (obtain rfl := k32_openM hM32)); (try (have HP32 := Kd.R_seg HX32.out (x12_4 : Int) (of_decide_eq_true (by first | (with_reducible assumption) | assumption)) (by have h_ : (x12_4 : Int) < ((x9_4.length : Int) : Int) := of_decide_eq_true (by first | (with_reducible assumption) | assumption); first | exact h_ | (have e_ := (Kd.R_reads' HO_9.out).1; omega) | simpa using h_) (seg := [.string (⟨#[115, 112, 111, 105, 108, 116]⟩ : ByteArray)]) (j := 3) hcl32 hcc32 (show 4 ≤ 4 from by decide) (x' := (⟨(rd_T32 x9_4 x12_4).f0, (rd_T32 x9_4 x12_4).f1, (rd_T32 x9_4 x12_4).f2, (⟨#[115, 112, 111, 105, 108, 116]⟩ : ByteArray)⟩ : S32)) (k32_mkM _ _ _ (⟨(rd_T32 x9_4 x12_4).f0, (rd_T32 x9_4 x12_4).f1, (rd_T32 x9_4 x12_4).f2, (⟨#[115, 112, 111, 105, 108, 116]⟩ : ByteArray)⟩ : S32) ) (fun _ hk => hk))); (try (have hx32_3 := hcc32 3 _ rfl)); (try (try simp only [show (k32).sz = 4 from rfl, Nat.mul_one, Nat.add_zero] at hx32_3)); (try (have hf32_3 := hfr32 3)); (try (try simp only [show (k32).sz = 4 from rfl, Nat.mul_one, Nat.add_zero] at hf32_3)); (try (clear hcl32 hcc32 hfr32 hM32)))); refine store_event (t := 9) (p := 85) (v := ?vo_w33) (w1 := (wr.setCell ⟨go29, (x12_4 : Int).toNat * 4 + 3, none⟩ (.string (⟨#[115, 112, 111, 105, 108, 116]⟩ : ByteArray)))) ?hg ?ho ?hn ?hr ?_; (case ho => rfl); (case hg => rfl); (case hn => rfl); (case hr => first | (go_simp; done) | (go_simp; rfl)); intro w33 hw; have hg : wr.grownBy w33 (some go29) := (by rw [hw]; exact HP32.2); have hp_ : Kd.R k32 32 w33 w.heap.size (fun _ => True) (.slice (some ⟨go29, 0, none⟩) x9_4.length co30) y189 := (by rw [hw, Ny189.out]; exact HP32.1); clear HP32; have n0_ := Aside0.mk (Kd.R_over' (v := (.slice (some ⟨go29, 0, none⟩) x9_4.length co30)) (by (with_reducible repeat (first | apply Kd.R_alloc | apply Kd.R_drewN | apply Kd.R_drew)); exact HO_5.out) (Kd.R_typed HO_9.out) (by decide) hg); have n1_ := Aside0.mk (hp_); have n2_ := Aside0.mk ((by rw [hw]; exact below_set (HB.out) GB29.out : Below w.heap.size w w33)); clear HO_5; clear HO_9; clear HB; have HO_5 := n0_; have HO_9 := n1_; have HB := n2_; clear n0_ n1_ n2_; clear hg hw hp_))
                                  repeat (go_quiet (first | (go_at_call 15; (fail_if_success (have hx_ := mkt187_)); have mkt187_ := Aside0.mk (Nat.le_refl 0); (with_reducible refine (lex_Kind.calls k4 ((rd_T32 x9_4 x12_4).f3) t187 _ A27.out).mono ?_); rintro e w' ⟨rfl, ⟨nd, rfl⟩⟩; (try first | exact ⟨rfl, _, World.drewN_drewN _ _ _⟩ | exact ⟨rfl, _, Eq.trans (World.drewN_drewN _ _ _) (congrArg (World.drewN _) (Nat.add_assoc _ _ _))⟩); have p188 : 0 ≤ (x12_4 : Int) := of_decide_eq_true (by first | (with_reducible assumption) | assumption); have q188 : x12_4 < (t171.length : Int) := of_decide_eq_true (by first | (with_reducible assumption) | assumption); obtain ⟨ad188, e188, hx188_0, hx188_1, hx188_2, hx188_3⟩ := at_T31 (Kd.R_reads' HO_5.out).2.2 x12_4 p188 q188; obtain rfl : ad185 = ad188 := (by injection e188); replace p188 := eq_true p188; replace q188 := eq_true q188; have p29 : 0 ≤ (x12_4 : Int) := of_decide_eq_true (by first | (with_reducible assumption) | assumption); have q29 : (x12_4 : Int) < ((x9_4.length : Int) : Int) := of_decide_eq_true (by first | (with_reducible assumption) | assumption); obtain ⟨go29, co29, eo29, gb29, gl29, cl29, HG29⟩ := Kd.R_form HO_9.out (by omega); (first | cases eo29 | (injection eo29 with ea_ en_ ec_; (first | subst ea_ | (injection ea_ with ea_; subst ea_)); subst ec_; clear en_)); have GB29 := Aside0.mk gb29; have GG29 := Aside0.mk HG29; clear gb29 gl29 HG29; (first | simp only [add_plain] at hx184_0 | skip); (first | simp only [add_plain] at hx184_1 | skip); (first | simp only [add_plain] at hx184_2 | skip); (first | simp only [add_plain] at hx184_3 | skip); (first | simp only [add_plain] at hx186_0 | skip); (first | simp only [add_plain] at hx186_1 | skip); (first | simp only [add_plain] at hx186_2 | skip); (first | simp only [add_plain] at hx186_3 | skip); obtain ⟨ce29, hcl29, hM29, hcc29, hfr29⟩ := Kd.R_elem HO_9.out z32 (x12_4 : Int) p29 q29; obtain rfl := k32_openM hM29; have hx29_0 : wr.cell? ⟨go29, (x12_4 : Int).toNat * 4, none⟩ = some (.int .u8 ((rd_T32 x9_4 x12_4).f0)) := hcc29 0 _ rfl; have hx29_1 : wr.cell? ⟨go29, (x12_4 : Int).toNat * 4 + 1, none⟩ = some (.int .i64 ((rd_T32 x9_4 x12_4).f1)) := hcc29 1 _ rfl; have hx29_2 : wr.cell? ⟨go29, (x12_4 : Int).toNat * 4 + 2, none⟩ = some (.int .i64 ((rd_T32 x9_4 x12_4).f2)) := hcc29 2 _ rfl; have hx29_3 : wr.cell? ⟨go29, (x12_4 : Int).toNat * 4 + 3, none⟩ = some (.string ((rd_T32 x9_4 x12_4).f3)) := hcc29 3 _ rfl; have hf29_0 : wr.frozen? ⟨go29, (x12_4 : Int).toNat * 4, none⟩ = false := hfr29 0; have hf29_1 : wr.frozen? ⟨go29, (x12_4 : Int).toNat * 4 + 1, none⟩ = false := hfr29 1; have hf29_2 : wr.frozen? ⟨go29, (x12_4 : Int).toNat * 4 + 2, none⟩ = false := hfr29 2; have hf29_3 : wr.frozen? ⟨go29, (x12_4 : Int).toNat * 4 + 3, none⟩ = false := hfr29 3; clear hcl29 hcc29 hfr29 hM29; replace p29 := eq_true p29; replace q29 := eq_true q29; have HX32 := Aside0.mk (show Kd.R k32 32 wr w.heap.size (fun _ => True) (.slice (some ⟨go29, 0, none⟩) x9_4.length co30) x9_4 from (by (with_reducible repeat (first | apply Kd.R_alloc | apply Kd.R_drewN | apply Kd.R_drew)); exact HO_9.out)); obtain ⟨ce32, hcl32, hM32, hcc32, hfr32⟩ := Kd.R_elem HX32.out z32 (x12_4 : Int) (of_decide_eq_true (by first | (with_reducible assumption) | assumption)) (by have h_ : (x12_4 : Int) < ((x9_4.length : Int) : Int) := of_decide_eq_true (by first | (with_reducible assumption) | assumption); first | exact h_ | (have e_ := (Kd.R_reads' HO_9.out).1; omega) | simpa using h_); obtain rfl := k32_openM hM32; have HP32 := Kd.R_seg HX32.out (x12_4 : Int) (of_decide_eq_true (by first | (with_reducible assumption) | assumption)) (by have h_ : (x12_4 : Int) < ((x9_4.length : Int) : Int) := of_decide_eq_true (by first | (with_reducible assumption) | assumption); first | exact h_ | (have e_ := (Kd.R_reads' HO_9.out).1; omega) | simpa using h_) (seg := [.string (⟨#[115, 112, 111, 105, 108, 116]⟩ : ByteArray)]) (j := 3) hcl32 hcc32 (show 4 ≤ 4 from by decide) (x' := (⟨(rd_T32 x9_4 x12_4).f0, (rd_T32 x9_4 x12_4).f1, (rd_T32 x9_4 x12_4).f2, (⟨#[115, 112, 111, 105, 108, 116]⟩ : ByteArray)⟩ : S32)) (k32_mkM _ _ _ (⟨(rd_T32 x9_4 x12_4).f0, (rd_T32 x9_4 x12_4).f1, (rd_T32 x9_4 x12_4).f2, (⟨#[115, 112, 111, 105, 108, 116]⟩ : ByteArray)⟩ : S32) ) (fun _ hk => hk); have hx32_3 := hcc32 3 _ rfl; (try simp only [show (k32).sz = 4 from rfl, Nat.mul_one, Nat.add_zero] at hx32_3); have hf32_3 := hfr32 3; (try simp only [show (k32).sz = 4 from rfl, Nat.mul_one, Nat.add_zero] at hf32_3); clear hcl32 hcc32 hfr32 hM32) | ((with_reducible refine gate_store (t := 9) (p := 85) rfl ?_); (try (rw [drewN_self wr]; generalize hq_ : World.drewN wr _ = wr; have n0_ := Aside0.mk (Kd.R_at hq_ HO_5.out); have n1_ := Aside0.mk (Kd.R_at hq_ HO_9.out); have n2_ := Aside0.mk (below_at hq_ HB.out); clear hq_ HO_5 HO_9 HB; have HO_5 := n0_; have HO_9 := n1_; have HB := n2_; clear n0_ n1_ n2_; (try (have HX32 := Aside0.mk (show Kd.R k32 32 wr w.heap.size (fun _ => True) (.slice (some ⟨go29, 0, none⟩) x9_4.length co30) x9_4 from (by (with_reducible repeat (first | apply Kd.R_alloc | apply Kd.R_drewN | apply Kd.R_drew)); exact HO_9.out)))); (try (obtain ⟨ce32, hcl32, hM32, hcc32, hfr32⟩ := Kd.R_elem HX32.out z32 (x12_4 : Int) (of_decide_eq_true (by first | (with_reducible assumption) | assumption)) (by have h_ : (x12_4 : Int) < ((x9_4.length : Int) : Int) := of_decide_eq_true (by first | (with_reducible assumption) | assumption); first | exact h_ | (have e_ := (Kd.R_reads' HO_9.out).1; omega) | simpa using h_))); (try (obtain rfl := k32_openM hM32)); (try (have HP32 := Kd.R_seg HX32.out (x12_4 : Int) (of_decide_eq_true (by first | (with_reducible assumption) | assumption)) (by have h_ : (x12_4 : Int) < ((x9_4.length : Int) : Int) := of_decide_eq_true (by first | (with_reducible assumption) | assumption); first | exact h_ | (have e_ := (Kd.R_reads' HO_9.out).1; omega) | simpa using h_) (seg := [.string (⟨#[115, 112, 111, 105, 108, 116]⟩ : ByteArray)]) (j := 3) hcl32 hcc32 (show 4 ≤ 4 from by decide) (x' := (⟨(rd_T32 x9_4 x12_4).f0, (rd_T32 x9_4 x12_4).f1, (rd_T32 x9_4 x12_4).f2, (⟨#[115, 112, 111, 105, 108, 116]⟩ : ByteArray)⟩ : S32)) (k32_mkM _ _ _ (⟨(rd_T32 x9_4 x12_4).f0, (rd_T32 x9_4 x12_4).f1, (rd_T32 x9_4 x12_4).f2, (⟨#[115, 112, 111, 105, 108, 116]⟩ : ByteArray)⟩ : S32) ) (fun _ hk => hk))); (try (have hx32_3 := hcc32 3 _ rfl)); (try (try simp only [show (k32).sz = 4 from rfl, Nat.mul_one, Nat.add_zero] at hx32_3)); (try (have hf32_3 := hfr32 3)); (try (try simp only [show (k32).sz = 4 from rfl, Nat.mul_one, Nat.add_zero] at hf32_3)); (try (clear hcl32 hcc32 hfr32 hM32)))); refine store_event (t := 9) (p := 85) (v := ?vo_w33) (w1 := (wr.setCell ⟨go29, (x12_4 : Int).toNat * 4 + 3, none⟩ (.string (⟨#[115, 112, 111, 105, 108, 116]⟩ : ByteArray)))) ?hg ?ho ?hn ?hr ?_; (case ho => rfl); (case hg => rfl); (case hn => rfl); (case hr => first | (go_simp; done) | (go_simp; rfl)); intro w33 hw; have hg : wr.grownBy w33 (some go29) := (by rw [hw]; exact HP32.2); have hp_ : Kd.R k32 32 w33 w.heap.size (fun _ => True) (.slice (some ⟨go29, 0, none⟩) x9_4.length co30) y189 := (by rw [hw, Ny189.out]; exact HP32.1); clear HP32; have n0_ := Aside0.mk (Kd.R_over' (v := (.slice (some ⟨go29, 0, none⟩) x9_4.length co30)) (by (with_reducible repeat (first | apply Kd.R_alloc | apply Kd.R_drewN | apply Kd.R_drew)); exact HO_5.out) (Kd.R_typed HO_9.out) (by decide) hg); have n1_ := Aside0.mk (hp_); have n2_ := Aside0.mk ((by rw [hw]; exact below_set (HB.out) GB29.out : Below w.heap.size w w33)); clear HO_5; clear HO_9; clear HB; have HO_5 := n0_; have HO_9 := n1_; have HB := n2_; clear n0_ n1_ n2_; clear hg hw hp_)); try go_wp2_with (first | (go_at_call 15; (with_reducible refine (lex_Kind.calls k4 ((rd_T32 x9_4 x12_4).f3) t187 _ A27.out).mono ?_); rintro e w' ⟨rfl, ⟨nd, rfl⟩⟩; (try first | exact ⟨rfl, _, World.drewN_drewN _ _ _⟩ | exact ⟨rfl, _, Eq.trans (World.drewN_drewN _ _ _) (congrArg (World.drewN _) (Nat.add_assoc _ _ _))⟩); have p188 : 0 ≤ (x12_4 : Int) := of_decide_eq_true (by first | (with_reducible assumption) | assumption); have q188 : x12_4 < (t171.length : Int) := of_decide_eq_true (by first | (with_reducible assumption) | assumption); obtain ⟨ad188, e188, hx188_0, hx188_1, hx188_2, hx188_3⟩ := at_T31 (Kd.R_reads' HO_5.out).2.2 x12_4 p188 q188; obtain rfl : ad185 = ad188 := (by injection e188); replace p188 := eq_true p188; replace q188 := eq_true q188; have p29 : 0 ≤ (x12_4 : Int) := of_decide_eq_true (by first | (with_reducible assumption) | assumption); have q29 : (x12_4 : Int) < ((x9_4.length : Int) : Int) := of_decide_eq_true (by first | (with_reducible assumption) | assumption); obtain ⟨go29, co29, eo29, gb29, gl29, cl29, HG29⟩ := Kd.R_form HO_9.out (by omega); (first | cases eo29 | (injection eo29 with ea_ en_ ec_; (first | subst ea_ | (injection ea_ with ea_; subst ea_)); subst ec_; clear en_)); have GB29 := Aside0.mk gb29; have GG29 := Aside0.mk HG29; clear gb29 gl29 HG29; (first | simp only [add_plain] at hx184_0 | skip); (first | simp only [add_plain] at hx184_1 | skip); (first | simp only [add_plain] at hx184_2 | skip); (first | simp only [add_plain] at hx184_3 | skip); (first | simp only [add_plain] at hx186_0 | skip); (first | simp only [add_plain] at hx186_1 | skip); (first | simp only [add_plain] at hx186_2 | skip); (first | simp only [add_plain] at hx186_3 | skip); obtain ⟨ce29, hcl29, hM29, hcc29, hfr29⟩ := Kd.R_elem HO_9.out z32 (x12_4 : Int) p29 q29; obtain rfl := k32_openM hM29; have hx29_0 : wr.cell? ⟨go29, (x12_4 : Int).toNat * 4, none⟩ = some (.int .u8 ((rd_T32 x9_4 x12_4).f0)) := hcc29 0 _ rfl; have hx29_1 : wr.cell? ⟨go29, (x12_4 : Int).toNat * 4 + 1, none⟩ = some (.int .i64 ((rd_T32 x9_4 x12_4).f1)) := hcc29 1 _ rfl; have hx29_2 : wr.cell? ⟨go29, (x12_4 : Int).toNat * 4 + 2, none⟩ = some (.int .i64 ((rd_T32 x9_4 x12_4).f2)) := hcc29 2 _ rfl; have hx29_3 : wr.cell? ⟨go29, (x12_4 : Int).toNat * 4 + 3, none⟩ = some (.string ((rd_T32 x9_4 x12_4).f3)) := hcc29 3 _ rfl; have hf29_0 : wr.frozen? ⟨go29, (x12_4 : Int).toNat * 4, none⟩ = false := hfr29 0; have hf29_1 : wr.frozen? ⟨go29, (x12_4 : Int).toNat * 4 + 1, none⟩ = false := hfr29 1; have hf29_2 : wr.frozen? ⟨go29, (x12_4 : Int).toNat * 4 + 2, none⟩ = false := hfr29 2; have hf29_3 : wr.frozen? ⟨go29, (x12_4 : Int).toNat * 4 + 3, none⟩ = false := hfr29 3; clear hcl29 hcc29 hfr29 hM29; replace p29 := eq_true p29; replace q29 := eq_true q29; have HX32 := Aside0.mk (show Kd.R k32 32 wr w.heap.size (fun _ => True) (.slice (some ⟨go29, 0, none⟩) x9_4.length co30) x9_4 from (by (with_reducible repeat (first | apply Kd.R_alloc | apply Kd.R_drewN | apply Kd.R_drew)); exact HO_9.out)); obtain ⟨ce32, hcl32, hM32, hcc32, hfr32⟩ := Kd.R_elem HX32.out z32 (x12_4 : Int) (of_decide_eq_true (by first | (with_reducible assumption) | assumption)) (by have h_ : (x12_4 : Int) < ((x9_4.length : Int) : Int) := of_decide_eq_true (by first | (with_reducible assumption) | assumption); first | exact h_ | (have e_ := (Kd.R_reads' HO_9.out).1; omega) | simpa using h_); obtain rfl := k32_openM hM32; have HP32 := Kd.R_seg HX32.out (x12_4 : Int) (of_decide_eq_true (by first | (with_reducible assumption) | assumption)) (by have h_ : (x12_4 : Int) < ((x9_4.length : Int) : Int) := of_decide_eq_true (by first | (with_reducible assumption) | assumption); first | exact h_ | (have e_ := (Kd.R_reads' HO_9.out).1; omega) | simpa using h_) (seg := [.string (⟨#[115, 112, 111, 105, 108, 116]⟩ : ByteArray)]) (j := 3) hcl32 hcc32 (show 4 ≤ 4 from by decide) (x' := (⟨(rd_T32 x9_4 x12_4).f0, (rd_T32 x9_4 x12_4).f1, (rd_T32 x9_4 x12_4).f2, (⟨#[115, 112, 111, 105, 108, 116]⟩ : ByteArray)⟩ : S32)) (k32_mkM _ _ _ (⟨(rd_T32 x9_4 x12_4).f0, (rd_T32 x9_4 x12_4).f1, (rd_T32 x9_4 x12_4).f2, (⟨#[115, 112, 111, 105, 108, 116]⟩ : ByteArray)⟩ : S32) ) (fun _ hk => hk); have hx32_3 := hcc32 3 _ rfl; (try simp only [show (k32).sz = 4 from rfl, Nat.mul_one, Nat.add_zero] at hx32_3); have hf32_3 := hfr32 3; (try simp only [show (k32).sz = 4 from rfl, Nat.mul_one, Nat.add_zero] at hf32_3); clear hcl32 hcc32 hfr32 hM32) | ((with_reducible refine gate_store (t := 9) (p := 85) rfl ?_); (try (rw [drewN_self wr]; generalize hq_ : World.drewN wr _ = wr; have n0_ := Aside0.mk (Kd.R_at hq_ HO_5.out); have n1_ := Aside0.mk (Kd.R_at hq_ HO_9.out); have n2_ := Aside0.mk (below_at hq_ HB.out); clear hq_ HO_5 HO_9 HB; have HO_5 := n0_; have HO_9 := n1_; have HB := n2_; clear n0_ n1_ n2_; (try (have HX32 := Aside0.mk (show Kd.R k32 32 wr w.heap.size (fun _ => True) (.slice (some ⟨go29, 0, none⟩) x9_4.length co30) x9_4 from (by (with_reducible repeat (first | apply Kd.R_alloc | apply Kd.R_drewN | apply Kd.R_drew)); exact HO_9.out)))); (try (obtain ⟨ce32, hcl32, hM32, hcc32, hfr32⟩ := Kd.R_elem HX32.out z32 (x12_4 : Int) (of_decide_eq_true (by first | (with_reducible assumption) | assumption)) (by have h_ : (x12_4 : Int) < ((x9_4.length : Int) : Int) := of_decide_eq_true (by first | (with_reducible assumption) | assumption); first | exact h_ | (have e_ := (Kd.R_reads' HO_9.out).1; omega) | simpa using h_))); (try (obtain rfl := k32_openM hM32)); (try (have HP32 := Kd.R_seg HX32.out (x12_4 : Int) (of_decide_eq_true (by first | (with_reducible assumption) | assumption)) (by have h_ : (x12_4 : Int) < ((x9_4.length : Int) : Int) := of_decide_eq_true (by first | (with_reducible assumption) | assumption); first | exact h_ | (have e_ := (Kd.R_reads' HO_9.out).1; omega) | simpa using h_) (seg := [.string (⟨#[115, 112, 111, 105, 108, 116]⟩ : ByteArray)]) (j := 3) hcl32 hcc32 (show 4 ≤ 4 from by decide) (x' := (⟨(rd_T32 x9_4 x12_4).f0, (rd_T32 x9_4 x12_4).f1, (rd_T32 x9_4 x12_4).f2, (⟨#[115, 112, 111, 105, 108, 116]⟩ : ByteArray)⟩ : S32)) (k32_mkM _ _ _ (⟨(rd_T32 x9_4 x12_4).f0, (rd_T32 x9_4 x12_4).f1, (rd_T32 x9_4 x12_4).f2, (⟨#[115, 112, 111, 105, 108, 116]⟩ : ByteArray)⟩ : S32) ) (fun _ hk => hk))); (try (have hx32_3 := hcc32 3 _ rfl)); (try (try simp only [show (k32).sz = 4 from rfl, Nat.mul_one, Nat.add_zero] at hx32_3)); (try (have hf32_3 := hfr32 3)); (try (try simp only [show (k32).sz = 4 from rfl, Nat.mul_one, Nat.add_zero] at hf32_3)); (try (clear hcl32 hcc32 hfr32 hM32)))); refine store_event (t := 9) (p := 85) (v := ?vo_w33) (w1 := (wr.setCell ⟨go29, (x12_4 : Int).toNat * 4 + 3, none⟩ (.string (⟨#[115, 112, 111, 105, 108, 116]⟩ : ByteArray)))) ?hg ?ho ?hn ?hr ?_; (case ho => rfl); (case hg => rfl); (case hn => rfl); (case hr => first | (go_simp; done) | (go_simp; rfl)); intro w33 hw; have hg : wr.grownBy w33 (some go29) := (by rw [hw]; exact HP32.2); have hp_ : Kd.R k32 32 w33 w.heap.size (fun _ => True) (.slice (some ⟨go29, 0, none⟩) x9_4.length co30) y189 := (by rw [hw, Ny189.out]; exact HP32.1); clear HP32; have n0_ := Aside0.mk (Kd.R_over' (v := (.slice (some ⟨go29, 0, none⟩) x9_4.length co30)) (by (with_reducible repeat (first | apply Kd.R_alloc | apply Kd.R_drewN | apply Kd.R_drew)); exact HO_5.out) (Kd.R_typed HO_9.out) (by decide) hg); have n1_ := Aside0.mk (hp_); have n2_ := Aside0.mk ((by rw [hw]; exact below_set (HB.out) GB29.out : Below w.heap.size w w33)); clear HO_5; clear HO_9; clear HB; have HO_5 := n0_; have HO_9 := n1_; have HB := n2_; clear n0_ n1_ n2_; clear hg hw hp_)))
                                  go_roundg k4
                                  case measure => have := HJ2.out; have := HK2.out; have := HJ11.out; have := HK4.out; omega
                                  case rel => exact ⟨(y189), (wrap64 (x12_4 + 1)), (by first | rfl | (simp; done) | (simp [*]; done)), H', ⟨by have := HJ2.out; have := HK2.out; have := HJ11.out; have := HK4.out; omega⟩, ⟨by (with_reducible repeat (first | apply Kd.R_alloc | apply Kd.R_drewN | apply Kd.R_drew)); exact HO_5.out⟩, ⟨by (with_reducible repeat (first | apply Kd.R_alloc | apply Kd.R_drewN | apply Kd.R_drew)); exact HO_9.out⟩, ⟨by repeat (first | (with_reducible first | exact HB.out | apply below_alloc | apply pw_below_drewN | apply below_drew1) | exact HB.out)⟩⟩
                                · rw [if_neg c28] at H
                                  exact absurd H (by simp)
                            · rw [if_neg c25] at H
                              exact absurd H (by simp)
                          · rw [if_neg c24] at H
                            exact absurd H (by simp)
                        · rw [if_neg c23] at H
                          have c23b0 : decide (x12_4 < (x9_4.length : Int)) = false := decide_eq_false c23
                          clear c23
                          have H' := Aside0.mk H
                          clear H
                          obtain ⟨Ao34, co34, eo34⟩ := Kd.R_slice HO_9.out
                          subst eo34
                          go_wp2
                          repeat (go_quiet (fail); try go_wp2)
                          go_roundg k4
                          case measure => have := HJ2.out; have := HK2.out; have := HJ11.out; have := HK4.out; omega
                          case rel => exact ⟨(wrap64 (x8_2 + 1)), (by first | rfl | (simp; done) | (simp [*]; done)), H', ⟨by have := HJ2.out; have := HK2.out; have := HJ11.out; have := HK4.out; omega⟩, ⟨by (with_reducible repeat (first | apply Kd.R_alloc | apply Kd.R_drewN | apply Kd.R_drew)); exact HO_5.out⟩, ⟨by repeat (first | (with_reducible first | exact HB.out | apply below_alloc | apply pw_below_drewN | apply below_drew1) | exact HB.out)⟩⟩
            · rw [if_neg c10] at H
              have c10b0 : decide (x8_2 < 2) = false := decide_eq_false c10
              clear c10
              replace H := Option.bind_eq_some_iff.mp H
              obtain ⟨t176, A350, H⟩ := H
              replace H : ((alidaderef12_Kind.f k2 a1).bind fun t177 => (if t176 = t177 then ((alidadelaw12_works.f k2).bind fun t178 => (some t178)) else (none))) = some r := H
              have A35 := Aside0.mk A350
              clear A350
              replace H := Option.bind_eq_some_iff.mp H
              obtain ⟨t177, A360, H⟩ := H
              replace H : (if t176 = t177 then ((alidadelaw12_works.f k2).bind fun t178 => (some t178)) else (none)) = some r := H
              have A36 := Aside0.mk A360
              clear A360
              by_cases c37 : t176 = t177
              · rw [if_pos c37] at H
                have c37b0 : (t176 == t177) = true := beq_iff_eq.mpr c37
                have c37b1 : (t176 != t177) = false := bne_eq_false_iff_eq.mpr c37
                clear c37
                replace H := Option.bind_eq_some_iff.mp H
                obtain ⟨t178, A380, H⟩ := H
                replace H : (some t178) = some r := H
                have A38 := Aside0.mk A380
                clear A380
                obtain rfl := Option.some.inj H
                go_wp2_with (first | (go_at_call 15; (with_reducible refine (lex_Kind.calls k2 a1 t176 _ A35.out).mono ?_); rintro e w' ⟨rfl, ⟨nd, rfl⟩⟩; (try first | exact ⟨rfl, _, World.drewN_drewN _ _ _⟩ | exact ⟨rfl, _, Eq.trans (World.drewN_drewN _ _ _) (congrArg (World.drewN _) (Nat.add_assoc _ _ _))⟩); clear HO_5) | (go_at_call 16; (with_reducible refine (alidaderef12_Kind.calls k2 a1 t177 _ A36.out).mono ?_); rintro e w' ⟨rfl, ⟨nd, rfl⟩⟩; (try first | exact ⟨rfl, _, World.drewN_drewN _ _ _⟩ | exact ⟨rfl, _, Eq.trans (World.drewN_drewN _ _ _) (congrArg (World.drewN _) (Nat.add_assoc _ _ _))⟩)) | (go_at_call 12; (with_reducible refine (alidadelaw12_works.calls k2  t178 _ A38.out).mono ?_); rintro e w39 ⟨rfl, hb⟩; have n0_ := Aside0.mk (below_step (by repeat (first | (with_reducible first | exact HB.out | apply below_alloc | apply pw_below_drewN | apply below_drew1) | exact HB.out)) hb); clear HB; have HB := n0_; clear n0_; (try clear hb); (try clear hb2); (try clear hk); (try clear hi)))
                repeat (go_quiet (first | (go_at_call 15; (fail_if_success (have hx_ := mkt176_)); have mkt176_ := Aside0.mk (Nat.le_refl 0); (with_reducible refine (lex_Kind.calls k2 a1 t176 _ A35.out).mono ?_); rintro e w' ⟨rfl, ⟨nd, rfl⟩⟩; (try first | exact ⟨rfl, _, World.drewN_drewN _ _ _⟩ | exact ⟨rfl, _, Eq.trans (World.drewN_drewN _ _ _) (congrArg (World.drewN _) (Nat.add_assoc _ _ _))⟩); clear HO_5) | (go_at_call 16; (fail_if_success (have hx_ := mkt177_)); have mkt177_ := Aside0.mk (Nat.le_refl 0); (with_reducible refine (alidaderef12_Kind.calls k2 a1 t177 _ A36.out).mono ?_); rintro e w' ⟨rfl, ⟨nd, rfl⟩⟩; (try first | exact ⟨rfl, _, World.drewN_drewN _ _ _⟩ | exact ⟨rfl, _, Eq.trans (World.drewN_drewN _ _ _) (congrArg (World.drewN _) (Nat.add_assoc _ _ _))⟩)) | (go_at_call 12; (fail_if_success (have hx_ := mkt178_)); have mkt178_ := Aside0.mk (Nat.le_refl 0); (with_reducible refine (alidadelaw12_works.calls k2  t178 _ A38.out).mono ?_); rintro e w39 ⟨rfl, hb⟩; have n0_ := Aside0.mk (below_step (by repeat (first | (with_reducible first | exact HB.out | apply below_alloc | apply pw_below_drewN | apply below_drew1) | exact HB.out)) hb); clear HB; have HB := n0_; clear n0_; (try clear hb); (try clear hb2); (try clear hk); (try clear hi))); try go_wp2_with (first | (go_at_call 15; (with_reducible refine (lex_Kind.calls k2 a1 t176 _ A35.out).mono ?_); rintro e w' ⟨rfl, ⟨nd, rfl⟩⟩; (try first | exact ⟨rfl, _, World.drewN_drewN _ _ _⟩ | exact ⟨rfl, _, Eq.trans (World.drewN_drewN _ _ _) (congrArg (World.drewN _) (Nat.add_assoc _ _ _))⟩); clear HO_5) | (go_at_call 16; (with_reducible refine (alidaderef12_Kind.calls k2 a1 t177 _ A36.out).mono ?_); rintro e w' ⟨rfl, ⟨nd, rfl⟩⟩; (try first | exact ⟨rfl, _, World.drewN_drewN _ _ _⟩ | exact ⟨rfl, _, Eq.trans (World.drewN_drewN _ _ _) (congrArg (World.drewN _) (Nat.add_assoc _ _ _))⟩)) | (go_at_call 12; (with_reducible refine (alidadelaw12_works.calls k2  t178 _ A38.out).mono ?_); rintro e w39 ⟨rfl, hb⟩; have n0_ := Aside0.mk (below_step (by repeat (first | (with_reducible first | exact HB.out | apply below_alloc | apply pw_below_drewN | apply below_drew1) | exact HB.out)) hb); clear HB; have HB := n0_; clear n0_; (try clear hb); (try clear hb2); (try clear hk); (try clear hi))))
                go_ret
                exact ⟨by first | rfl | (simp [errW_none, errW_some] <;> rfl) | (simp [*, errW_none, errW_some] <;> rfl), by repeat (first | (with_reducible first | exact HB.out | apply below_alloc | apply pw_below_drewN | apply below_drew1) | exact HB.out)⟩
              · rw [if_neg c37] at H
                exact absurd H (by simp)

/-- THE ONE PURE STATEMENT of alidadelaw12_LexWords: yours. -/
def alidadelaw12_LexWords.Pure : Prop := ∀ (a0 : ByteArray) (a1 : ByteArray), a0.size ≤ 140737488351232 → a1.size ≤ 140737488351232 → ∃ k, alidadelaw12_LexWords.f k a0 a1 = some true
theorem alidadelaw12_LexWords.walk (P : alidadelaw12_LexWords.Pure) (a0 : ByteArray) (a1 : ByteArray) (w : World) (w0 : a0.size ≤ 140737488351232) (w1 : a1.size ≤ 140737488351232) :
    Calls Try.prog 3 #[.string a0, .string a1] w fun e w' => e = .returned (.bool true) ∧ Below w.heap.size w w' := by
  obtain ⟨k, h⟩ := P a0 a1 w0 w1
  refine (alidadelaw12_LexWords.calls k a0 a1 true w h).mono ?_
  rintro e w' ⟨rfl, hd⟩
  exact ⟨rfl, hd⟩

end Go.Proofs.Ytgikmpgpccfiiaa.PLex
