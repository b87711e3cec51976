-- A text of the seat Ytgikmpgpccfiiaa, written by a program of this session (drive.py).
import Derived.Test.YtgikmpgpccfiiaaPSxpx0
import Derived.Test.YtgikmpgpccfiiaaPSxpx24
import Derived.Test.YtgikmpgpccfiiaaPSxpx25
import Derived.Test.YtgikmpgpccfiiaaPSxpx26
import Derived.Test.YtgikmpgpccfiiaaPSxpx30
import Derived.Test.YtgikmpgpccfiiaaPSxpx31
namespace Go.Proofs.Ytgikmpgpccfiiaa.PSxp
open Go.RowKit Go.Proofs.YtgikmpgpccfiiaaW.PrintWords Go.Proofs.YtgikmpgpccfiiaaW.PrintLast Go.Proofs.YtgikmpgpccfiiaaW.PrintMore
attribute [local go_sem] max2_int min2_int max_two min_two max_three min_three max_four min_four   -- for this text's walks alone
set_option linter.unusedVariables false
set_option linter.unusedSimpArgs false

/-! ### alidadelaw13_SexpPlaces: function 7 -/
mutual
def alidadelaw13_SexpPlaces.j0 : Nat → ByteArray → Int → Bool → Option (Bool)
  | 0, _, _, _ => none
  | k + 1, x0, x1, x17 => if x17 = true then ((alidadelaw13_awake.f k).bind fun t239 => (some t239)) else ((alidadelaw13_read.f k x0 (wrap64 (Int.tmod (IntKind.u64.wrap (x1)) 65537))).bind fun bt240 => (if bt240.2.1 < 0 then (alidadelaw13_SexpPlaces.j1 k x0 (wrap64 (Int.tmod (IntKind.u64.wrap (x1)) 65537)) bt240.1 true) else (if bt240.2.1 > (x0.size : Int) then (alidadelaw13_SexpPlaces.j1 k x0 (wrap64 (Int.tmod (IntKind.u64.wrap (x1)) 65537)) bt240.1 true) else (if bt240.2.2 = 0 then (alidadelaw13_SexpPlaces.j1 k x0 (wrap64 (Int.tmod (IntKind.u64.wrap (x1)) 65537)) bt240.1 (bt240.2.1 != 0)) else (if (bt240.1.length : Int) > 0 then (alidadelaw13_SexpPlaces.j1 k x0 (wrap64 (Int.tmod (IntKind.u64.wrap (x1)) 65537)) bt240.1 true) else (alidadelaw13_SexpPlaces.j1 k x0 (wrap64 (Int.tmod (IntKind.u64.wrap (x1)) 65537)) bt240.1 false))))))
def alidadelaw13_SexpPlaces.j1 : Nat → ByteArray → Int → List (S51) → Bool → Option (Bool)
  | 0, _, _, _, _ => none
  | k + 1, x0, x1, x5, x54 => if x54 = true then (none) else (alidadelaw13_SexpPlaces.l0 k x0 x1 x5 0)
def alidadelaw13_SexpPlaces.l0 : Nat → ByteArray → Int → List (S51) → Int → Option (Bool)
  | 0, _, _, _, _ => none
  | k + 1, x0, x1, x5, x8 => if x8 < (x5.length : Int) then (if 0 ≤ x8 then ((sexp_May.f k ((rd_T51 x5 x8).f0) ((rd_T51 x5 x8).f1) ((rd_T51 x5 x8).f2) ((rd_T51 x5 x8).f3)).bind fun t248 => (if t248 = true then ((sexp_Depth.f k ((rd_T51 x5 x8).f0) ((rd_T51 x5 x8).f1) ((rd_T51 x5 x8).f2) ((rd_T51 x5 x8).f3)).bind fun t250 => (if t250 > x1 then (none) else (alidadelaw13_SexpPlaces.l0 k x0 x1 x5 (wrap64 (x8 + 1))))) else (none))) else (none)) else ((alidadelaw13_stands.f k x0 x5 0).bind fun bt245 => (some bt245.2))
end
def alidadelaw13_SexpPlaces.f (k : Nat) (a0 : ByteArray) (a1 : Int) : Option (Bool) := if (a0.size : Int) > 2000 then (alidadelaw13_SexpPlaces.j0 k a0 a1 true) else ((alidadelaw13_awake.f k).bind fun t238 => (alidadelaw13_SexpPlaces.j0 k a0 a1 (!t238)))
set_option maxHeartbeats 8000000 in
set_option maxRecDepth 100000 in
theorem alidadelaw13_SexpPlaces.calls (k : Nat) (a0 : ByteArray) (a1 : Int) (r : Bool) (w : World) (h : alidadelaw13_SexpPlaces.f k a0 a1 = some r) :
    Calls Try.prog 7 #[.string a0, .int .i64 a1] w fun e w' => e = .returned (.bool r) ∧ Below w.heap.size w w' := by
  have hu51 := Try.underlying51
  have HB := Aside0.mk (Below.refl w.heap.size w)
  have H : (if (a0.size : Int) > 2000 then (alidadelaw13_SexpPlaces.j0 k a0 a1 true) else ((alidadelaw13_awake.f k).bind fun t238 => (alidadelaw13_SexpPlaces.j0 k a0 a1 (!t238)))) = some r := h
  clear h
  have HC3 := Aside0.mk H
  clear H
  go_enter Try.func7, Try.ntmps7
  go_upto_region 1 with (fail)
  go_cut [17] (fun v17 wc => ∃ (kq : Nat) (x17_2 : Bool), v17 = .bool x17_2 ∧ Aside0 (alidadelaw13_SexpPlaces.j0 kq a0 a1 x17_2 = some r) ∧ Aside0 (kq ≤ k) ∧ Aside0 (Below w.heap.size w wc))
  case first =>
    have H := HC3.out
    clear HC3
    by_cases c4 : (a0.size : Int) > 2000
    · rw [if_pos c4] at H
      have c4b0 : decide (2000 < (a0.size : Int)) = true := decide_eq_true c4
      have c4b1 : decide (2000 < a0.size) = true := decide_eq_true (by omega)
      clear c4
      (first | rw [c4b0] | (simp only [i64_w, i32_w]; rw [c4b0]) | skip)
      have H' := Aside0.mk H
      clear H
      go_wp2
      go_meet
      case rel => exact ⟨_, (true), (by first | rfl | (simp; done) | (simp [*]; done)), H', ⟨by first | omega | exact Nat.le_refl _⟩, ⟨by repeat (first | (with_reducible first | exact HB.out | apply below_alloc | apply pw_below_drewN | apply below_drew1) | exact HB.out)⟩⟩
    · rw [if_neg c4] at H
      have c4b0 : decide (2000 < (a0.size : Int)) = false := decide_eq_false c4
      have c4b1 : decide (2000 < a0.size) = false := decide_eq_false (by omega)
      clear c4
      (first | rw [c4b0] | (simp only [i64_w, i32_w]; rw [c4b0]) | skip)
      replace H := Option.bind_eq_some_iff.mp H
      obtain ⟨t238, A50, H⟩ := H
      replace H : (alidadelaw13_SexpPlaces.j0 k a0 a1 (!t238)) = some r := H
      have A5 := Aside0.mk A50
      clear A50
      have H' := Aside0.mk H
      clear H
      go_wp2_with (first | (go_at_call 22; (with_reducible refine (alidadelaw13_awake.calls k  t238 _ A5.out).mono ?_); rintro e w6 ⟨rfl, hb⟩; have n0_ := Aside0.mk (below_step (by repeat (first | (with_reducible first | exact HB.out | apply below_alloc | apply pw_below_drewN | apply below_drew1) | exact HB.out)) hb); clear HB; have HB := n0_; clear n0_; (try clear hb); (try clear hb2); (try clear hk); (try clear hi)))
      go_meet
      case rel => exact ⟨_, (!t238), (by first | rfl | (simp; done) | (simp [*]; done)), H', ⟨by first | omega | exact Nat.le_refl _⟩, ⟨by repeat (first | (with_reducible first | exact HB.out | apply below_alloc | apply pw_below_drewN | apply below_drew1) | exact HB.out)⟩⟩
  case rest =>
    clear HC3
    try clear p2
    try clear c4
    try clear c4b0
    try clear c4b1
    obtain ⟨kq, x17_2, rfl, HA, HJ2, HB⟩ := hcut
    cases kq with
    | zero => exact absurd HA.out (by simp [alidadelaw13_SexpPlaces.j0])
    | succ kj2 =>
      have H := HA.out
      clear HA
      simp only [alidadelaw13_SexpPlaces.j0] at H
      by_cases c7 : x17_2 = true
      · subst c7
        have H1 : ((alidadelaw13_awake.f kj2).bind fun t239 => (some t239)) = some r := by rw [if_pos rfl] at H; exact H
        clear H
        have H := H1
        clear H1
        replace H := Option.bind_eq_some_iff.mp H
        obtain ⟨t239, A80, H⟩ := H
        replace H : (some t239) = some r := H
        have A8 := Aside0.mk A80
        clear A80
        obtain rfl := Option.some.inj H
        go_wp2_with (first | ((with_reducible refine gate_callee (f := 22) rfl ?_); refine goesL_ (some 18) rfl rfl Try.func22 (by kernel_rfl) rfl #[] rfl (by (try simp only [List.map_toArray, List.map_cons, List.map_nil]); first | done | rfl | (simp only [List.length_drop, List.length_take]; rfl)) ?_; (with_reducible refine (alidadelaw13_awake.calls kj2  t239 _ A8.out).mono ?_); rintro e w9 ⟨rfl, hb⟩; refine ⟨_, rfl, ?_⟩; have n0_ := Aside0.mk (below_step (by repeat (first | (with_reducible first | exact HB.out | apply below_alloc | apply pw_below_drewN | apply below_drew1) | exact HB.out)) hb); clear HB; have HB := n0_; clear n0_; (try clear hb); (try clear hb2); (try clear hk); (try clear hi)))
        go_ret
        exact ⟨by first | rfl | (simp [errW_none, errW_some] <;> rfl) | (simp [*, errW_none, errW_some] <;> rfl), by repeat (first | (with_reducible first | exact HB.out | apply below_alloc | apply pw_below_drewN | apply below_drew1) | exact HB.out)⟩
      · replace c7 := Bool.eq_false_iff.mpr c7
        subst c7
        have H1 : ((alidadelaw13_read.f kj2 a0 (wrap64 (Int.tmod (IntKind.u64.wrap (a1)) 65537))).bind fun bt240 => (if bt240.2.1 < 0 then (alidadelaw13_SexpPlaces.j1 kj2 a0 (wrap64 (Int.tmod (IntKind.u64.wrap (a1)) 65537)) bt240.1 true) else (if bt240.2.1 > (a0.size : Int) then (alidadelaw13_SexpPlaces.j1 kj2 a0 (wrap64 (Int.tmod (IntKind.u64.wrap (a1)) 65537)) bt240.1 true) else (if bt240.2.2 = 0 then (alidadelaw13_SexpPlaces.j1 kj2 a0 (wrap64 (Int.tmod (IntKind.u64.wrap (a1)) 65537)) bt240.1 (bt240.2.1 != 0)) else (if (bt240.1.length : Int) > 0 then (alidadelaw13_SexpPlaces.j1 kj2 a0 (wrap64 (Int.tmod (IntKind.u64.wrap (a1)) 65537)) bt240.1 true) else (alidadelaw13_SexpPlaces.j1 kj2 a0 (wrap64 (Int.tmod (IntKind.u64.wrap (a1)) 65537)) bt240.1 false)))))) = some r := by rw [if_neg (show ¬ (false = true) by decide)] at H; exact H
        clear H
        have H := H1
        clear H1
        replace H := Option.bind_eq_some_iff.mp H
        obtain ⟨⟨t240, t241, t242⟩, A100, H⟩ := H
        replace H : (if t241 < 0 then (alidadelaw13_SexpPlaces.j1 kj2 a0 (wrap64 (Int.tmod (IntKind.u64.wrap (a1)) 65537)) t240 true) else (if t241 > (a0.size : Int) then (alidadelaw13_SexpPlaces.j1 kj2 a0 (wrap64 (Int.tmod (IntKind.u64.wrap (a1)) 65537)) t240 true) else (if t242 = 0 then (alidadelaw13_SexpPlaces.j1 kj2 a0 (wrap64 (Int.tmod (IntKind.u64.wrap (a1)) 65537)) t240 (t241 != 0)) else (if (t240.length : Int) > 0 then (alidadelaw13_SexpPlaces.j1 kj2 a0 (wrap64 (Int.tmod (IntKind.u64.wrap (a1)) 65537)) t240 true) else (alidadelaw13_SexpPlaces.j1 kj2 a0 (wrap64 (Int.tmod (IntKind.u64.wrap (a1)) 65537)) t240 false))))) = some r := H
        have A10 := Aside0.mk A100
        clear A100
        have HC11 := Aside0.mk H
        clear H
        go_upto_region 5 with (first | ((with_reducible refine gate_callee (f := 23) rfl ?_); refine goesL_ (some 26) rfl rfl Try.func23 (by kernel_rfl) rfl #[.string a0, .int .i64 (wrap64 (Int.tmod (IntKind.u64.wrap (a1)) 65537))] rfl (by (try simp only [List.map_toArray, List.map_cons, List.map_nil]); first | done | rfl | (simp only [List.length_drop, List.length_take]; rfl)) ?_; (with_reducible refine (alidadelaw13_read.calls kj2 a0 (wrap64 (Int.tmod (IntKind.u64.wrap (a1)) 65537)) t240 t241 t242 _ A10.out).mono ?_); rintro e w12 ⟨v243, rfl, ho0, hb⟩; refine ⟨_, rfl, ?_⟩; have n0_ := Aside0.mk (Kd.R_lower ho0 (below_size (by repeat (first | (with_reducible first | exact HB.out | apply below_alloc | apply pw_below_drewN | apply below_drew1) | exact HB.out)))); have n1_ := Aside0.mk (below_step (by repeat (first | (with_reducible first | exact HB.out | apply below_alloc | apply pw_below_drewN | apply below_drew1) | exact HB.out)) hb); clear HB; have HO244 := n0_; have HB := n1_; clear n0_ n1_; (try clear hb); (try clear hb2); (try clear hk); (try clear hi); (try clear ho0)))
        (try simp only [Act.put, List.setIfInBounds_toArray, List.set_cons_zero, List.set_cons_succ])
        go_cut [54] (fun v54 wc => ∃ (kq : Nat) (x54_10 : Bool), v54 = .bool x54_10 ∧ Aside0 (alidadelaw13_SexpPlaces.j1 kq a0 (wrap64 (Int.tmod (IntKind.u64.wrap (a1)) 65537)) t240 x54_10 = some r) ∧ Aside0 (kq ≤ kj2) ∧ Aside0 (Kd.R k51 51 wc w.heap.size (fun _ => True) v243 t240) ∧ Aside0 (Below w.heap.size w wc))
        case first =>
          have H := HC11.out
          clear HC11
          by_cases c13 : t241 < 0
          · rw [if_pos c13] at H
            have c13b0 : decide (t241 < 0) = true := decide_eq_true c13
            clear c13
            (first | rw [c13b0] | (simp only [i64_w, i32_w]; rw [c13b0]) | skip)
            have H' := Aside0.mk H
            clear H
            go_wp2
            go_meet
            case rel => exact ⟨_, (true), (by first | rfl | (simp; done) | (simp [*]; done)), H', ⟨by have := HJ2.out; first | omega | exact Nat.le_refl _⟩, ⟨by (with_reducible repeat (first | apply Kd.R_alloc | apply Kd.R_drewN | apply Kd.R_drew)); exact HO244.out⟩, ⟨by repeat (first | (with_reducible first | exact HB.out | apply below_alloc | apply pw_below_drewN | apply below_drew1) | exact HB.out)⟩⟩
          · rw [if_neg c13] at H
            have c13b0 : decide (t241 < 0) = false := decide_eq_false c13
            clear c13
            (first | rw [c13b0] | (simp only [i64_w, i32_w]; rw [c13b0]) | skip)
            by_cases c14 : t241 > (a0.size : Int)
            · rw [if_pos c14] at H
              have c14b0 : decide ((a0.size : Int) < t241) = true := decide_eq_true c14
              clear c14
              have H' := Aside0.mk H
              clear H
              go_wp2
              go_meet
              case rel => exact ⟨_, (true), (by first | rfl | (simp; done) | (simp [*]; done)), H', ⟨by have := HJ2.out; first | omega | exact Nat.le_refl _⟩, ⟨by (with_reducible repeat (first | apply Kd.R_alloc | apply Kd.R_drewN | apply Kd.R_drew)); exact HO244.out⟩, ⟨by repeat (first | (with_reducible first | exact HB.out | apply below_alloc | apply pw_below_drewN | apply below_drew1) | exact HB.out)⟩⟩
            · rw [if_neg c14] at H
              have c14b0 : decide ((a0.size : Int) < t241) = false := decide_eq_false c14
              clear c14
              by_cases c15 : t242 = 0
              · rw [if_pos c15] at H
                have c15b0 : (t242 == 0) = true := beq_iff_eq.mpr c15
                have c15b1 : (t242 != 0) = false := bne_eq_false_iff_eq.mpr c15
                clear c15
                have H' := Aside0.mk H
                clear H
                go_wp2
                go_meet
                case rel => exact ⟨_, ((t241 != 0)), (by first | rfl | (simp; done) | (simp [*]; done)), H', ⟨by have := HJ2.out; first | omega | exact Nat.le_refl _⟩, ⟨by (with_reducible repeat (first | apply Kd.R_alloc | apply Kd.R_drewN | apply Kd.R_drew)); exact HO244.out⟩, ⟨by repeat (first | (with_reducible first | exact HB.out | apply below_alloc | apply pw_below_drewN | apply below_drew1) | exact HB.out)⟩⟩
              · rw [if_neg c15] at H
                have c15b0 : (t242 == 0) = false := beq_eq_false_iff_ne.mpr c15
                have c15b1 : (t242 != 0) = true := bne_iff_ne.mpr c15
                by_cases c16 : (t240.length : Int) > 0
                · rw [if_pos c16] at H
                  have c16b0 : decide (0 < (t240.length : Int)) = true := decide_eq_true c16
                  have c16b1 : decide (0 < t240.length) = true := decide_eq_true (by omega)
                  clear c16
                  have H' := Aside0.mk H
                  clear H
                  obtain ⟨Ao17, co17, eo17⟩ := Kd.R_slice HO244.out
                  subst eo17
                  go_wp2
                  go_meet
                  case rel => exact ⟨_, (true), (by first | rfl | (simp; done) | (simp [*]; done)), H', ⟨by have := HJ2.out; first | omega | exact Nat.le_refl _⟩, ⟨by (with_reducible repeat (first | apply Kd.R_alloc | apply Kd.R_drewN | apply Kd.R_drew)); exact HO244.out⟩, ⟨by repeat (first | (with_reducible first | exact HB.out | apply below_alloc | apply pw_below_drewN | apply below_drew1) | exact HB.out)⟩⟩
                · rw [if_neg c16] at H
                  have c16b0 : decide (0 < (t240.length : Int)) = false := decide_eq_false c16
                  have c16b1 : decide (0 < t240.length) = false := decide_eq_false (by omega)
                  clear c16
                  have H' := Aside0.mk H
                  clear H
                  obtain ⟨Ao18, co18, eo18⟩ := Kd.R_slice HO244.out
                  subst eo18
                  go_wp2
                  go_meet
                  case rel => exact ⟨_, (false), (by first | rfl | (simp; done) | (simp [*]; done)), H', ⟨by have := HJ2.out; first | omega | exact Nat.le_refl _⟩, ⟨by (with_reducible repeat (first | apply Kd.R_alloc | apply Kd.R_drewN | apply Kd.R_drew)); exact HO244.out⟩, ⟨by repeat (first | (with_reducible first | exact HB.out | apply below_alloc | apply pw_below_drewN | apply below_drew1) | exact HB.out)⟩⟩
        case rest =>
          clear HC11
          try clear c1
          try clear c2
          try clear p2
          try clear c4
          try clear c4b0
          try clear c4b1
          try clear p6
          try clear c7
          try clear c13
          try clear c13b0
          try clear c14
          try clear c14b0
          try clear c15
          try clear c15b0
          try clear c15b1
          try clear c16
          try clear c16b0
          try clear c16b1
          try clear p2
          obtain ⟨kq, x54_10, rfl, HA, HJ10, HO_5, HB⟩ := hcut
          cases kq with
          | zero => exact absurd HA.out (by simp [alidadelaw13_SexpPlaces.j1])
          | succ kj10 =>
            have H := HA.out
            clear HA
            simp only [alidadelaw13_SexpPlaces.j1] at H
            by_cases c19 : x54_10 = true
            · subst c19
              have H1 : (none) = some r := by rw [if_pos rfl] at H; exact H
              clear H
              have H := H1
              clear H1
              exact absurd H (by simp)
            · replace c19 := Bool.eq_false_iff.mpr c19
              subst c19
              have H1 : (alidadelaw13_SexpPlaces.l0 kj10 a0 (wrap64 (Int.tmod (IntKind.u64.wrap (a1)) 65537)) t240 0) = some r := by rw [if_neg (show ¬ (false = true) by decide)] at H; exact H
              clear H
              have H := H1
              clear H1
              have H' := Aside0.mk H
              clear H
              go_wp2
              go_loopg [8] kj10 (fun kq v8 w' => ∃ (x8_3 : Int), v8 = .int .i64 x8_3 ∧ Aside0 (alidadelaw13_SexpPlaces.l0 kq a0 (wrap64 (Int.tmod (IntKind.u64.wrap (a1)) 65537)) t240 x8_3 = some r) ∧ Aside0 (kq ≤ kj10) ∧ Aside0 (Kd.R k51 51 w' w.heap.size (fun _ => True) v243 t240) ∧ Aside0 (Below w.heap.size w w'))
              case atStart => exact ⟨(0), (by first | rfl | (simp; done) | (simp [*]; done)), H', ⟨Nat.le_refl _⟩, ⟨by (with_reducible repeat (first | apply Kd.R_alloc | apply Kd.R_drewN | apply Kd.R_drew)); exact HO_5.out⟩, ⟨by repeat (first | (with_reducible first | exact HB.out | apply below_alloc | apply pw_below_drewN | apply below_drew1) | exact HB.out)⟩⟩
              case round =>
                clear H'
                try clear c1
                try clear c2
                try clear p2
                try clear c4
                try clear c4b0
                try clear c4b1
                try clear p6
                try clear c7
                try clear c13
                try clear c13b0
                try clear c14
                try clear c14b0
                try clear c15
                try clear c15b0
                try clear c15b1
                try clear c16
                try clear c16b0
                try clear c16b1
                try clear c19
                try clear p2
                try clear p6
                obtain ⟨x8_3, rfl, HA, HK3, HO_5, HB⟩ := hrel
                cases gk with
                | zero => exact absurd HA.out (by simp [alidadelaw13_SexpPlaces.l0])
                | succ k3 =>
                  have H := HA.out
                  clear HA
                  simp only [alidadelaw13_SexpPlaces.l0] at H
                  by_cases c20 : x8_3 < (t240.length : Int)
                  · rw [if_pos c20] at H
                    have c20b0 : decide (x8_3 < (t240.length : Int)) = true := decide_eq_true c20
                    clear c20
                    by_cases c21 : 0 ≤ x8_3
                    · rw [if_pos c21] at H
                      have c21b0 : decide (0 ≤ x8_3) = true := decide_eq_true c21
                      clear c21
                      replace H := Option.bind_eq_some_iff.mp H
                      obtain ⟨t248, A220, H⟩ := H
                      replace H : (if t248 = true then ((sexp_Depth.f k3 ((rd_T51 t240 x8_3).f0) ((rd_T51 t240 x8_3).f1) ((rd_T51 t240 x8_3).f2) ((rd_T51 t240 x8_3).f3)).bind fun t250 => (if t250 > (wrap64 (Int.tmod (IntKind.u64.wrap (a1)) 65537)) then (none) else (alidadelaw13_SexpPlaces.l0 k3 a0 (wrap64 (Int.tmod (IntKind.u64.wrap (a1)) 65537)) t240 (wrap64 (x8_3 + 1))))) else (none)) = some r := H
                      have A22 := Aside0.mk A220
                      clear A220
                      by_cases c23 : t248 = true
                      · subst c23
                        have H1 : ((sexp_Depth.f k3 ((rd_T51 t240 x8_3).f0) ((rd_T51 t240 x8_3).f1) ((rd_T51 t240 x8_3).f2) ((rd_T51 t240 x8_3).f3)).bind fun t250 => (if t250 > (wrap64 (Int.tmod (IntKind.u64.wrap (a1)) 65537)) then (none) else (alidadelaw13_SexpPlaces.l0 k3 a0 (wrap64 (Int.tmod (IntKind.u64.wrap (a1)) 65537)) t240 (wrap64 (x8_3 + 1))))) = some r := by rw [if_pos rfl] at H; exact H
                        clear H
                        have H := H1
                        clear H1
                        replace H := Option.bind_eq_some_iff.mp H
                        obtain ⟨t250, A240, H⟩ := H
                        replace H : (if t250 > (wrap64 (Int.tmod (IntKind.u64.wrap (a1)) 65537)) then (none) else (alidadelaw13_SexpPlaces.l0 k3 a0 (wrap64 (Int.tmod (IntKind.u64.wrap (a1)) 65537)) t240 (wrap64 (x8_3 + 1)))) = some r := H
                        have A24 := Aside0.mk A240
                        clear A240
                        by_cases c25 : t250 > (wrap64 (Int.tmod (IntKind.u64.wrap (a1)) 65537))
                        · rw [if_pos c25] at H
                          exact absurd H (by simp)
                        · rw [if_neg c25] at H
                          have c25b0 : decide ((wrap64 (Int.tmod (IntKind.u64.wrap (a1)) 65537)) < t250) = false := decide_eq_false c25
                          clear c25
                          have H' := Aside0.mk H
                          clear H
                          obtain ⟨Ao26, co26, eo26⟩ := Kd.R_slice HO_5.out
                          subst eo26
                          have p247 : 0 ≤ (x8_3 : Int) := of_decide_eq_true (by first | (with_reducible assumption) | assumption)
                          have q247 : x8_3 < (t240.length : Int) := of_decide_eq_true (by first | (with_reducible assumption) | assumption)
                          obtain ⟨ad247, A247_3, c247_3, e247, hx247_0, hx247_1, hx247_2, hx247_3, hl247_3, hi247_3⟩ := at_T51 (Kd.R_reads' HO_5.out).2.2 x8_3 p247 q247
                          cases e247
                          obtain ⟨ce247, hce247, hMe247, hcc247⟩ := Kd.R_get HO_5.out z51 x8_3 p247 (by first | exact q247 | exact of_decide_eq_true (by first | (with_reducible assumption) | assumption) | (have e_ := (Kd.R_reads' HO_5.out).1; omega))
                          obtain ⟨ve247_3, rfl, ge247_3⟩ := k51_openM hMe247
                          have hv247_3 := hcc247 3 _ rfl
                          rw [add_field _ _ 3 (by omega)] at hv247_3
                          replace hv247_3 := Option.some.inj (hv247_3.symm.trans hx247_3)
                          rw [hv247_3] at ge247_3
                          have HL247_3 := Aside0.mk (show Kd.R k51 51 _ _ _ _ ((rd_T51 t240 x8_3).f3) from ge247_3)
                          clear hv247_3 ge247_3
                          clear hcc247 hce247
                          have HR247_3 := Aside0.mk hi247_3
                          have HC247_3 := Aside0.mk hl247_3
                          clear hi247_3 hl247_3
                          replace p247 := eq_true p247
                          replace q247 := eq_true q247
                          go_wp2_with (first | ((with_reducible refine gate_callee (f := 24) rfl ?_); refine goesL_ (some 65) rfl rfl Try.func24 (by kernel_rfl) rfl #[.agg #[.int .u8 ((rd_T51 t240 x8_3).f0), .int .i64 ((rd_T51 t240 x8_3).f1), .string ((rd_T51 t240 x8_3).f2), .slice A247_3 ((rd_T51 t240 x8_3).f3).length c247_3]] rfl (by (try simp only [List.map_toArray, List.map_cons, List.map_nil]); first | done | rfl | (simp only [List.length_drop, List.length_take]; rfl)) ?_; (with_reducible refine (sexp_May.calls k3 ((rd_T51 t240 x8_3).f0) ((rd_T51 t240 x8_3).f1) ((rd_T51 t240 x8_3).f2) _ _ ((rd_T51 t240 x8_3).f3) true _ ?side1 ?side2 A22.out).mono ?_); (case side1 => repeat (first | exact (by repeat (first | (with_reducible exact HR247_3.out) | (with_reducible refine Kd.C_alloc ?_ _) | (with_reducible refine Kd.C_drewN ?_ _) | (with_reducible refine Kd.C_drew ?_) | exact HR247_3.out)) | (with_reducible refine Kd.C_alloc ?_ _) | (with_reducible refine Kd.C_drewN ?_ _) | (with_reducible refine Kd.C_drew ?_))); (case side2 => exact HC247_3.out); rintro e w27 ⟨rfl, hb⟩; refine ⟨_, rfl, ?_⟩; have n0_ := Aside0.mk (Kd.R_below (by (with_reducible repeat (first | apply Kd.R_alloc | apply Kd.R_drewN | apply Kd.R_drew)); exact HO_5.out) hb); have n1_ := Aside0.mk (Kd.R_below (by (with_reducible repeat (first | apply Kd.R_alloc | apply Kd.R_drewN | apply Kd.R_drew)); exact HL247_3.out) hb); have n2_ := Aside0.mk (Kd.C_below (by repeat (first | (with_reducible exact HR247_3.out) | (with_reducible refine Kd.C_alloc ?_ _) | (with_reducible refine Kd.C_drewN ?_ _) | (with_reducible refine Kd.C_drew ?_) | exact HR247_3.out)) hb); have n3_ := Aside0.mk (below_step (by repeat (first | (with_reducible first | exact HB.out | apply below_alloc | apply pw_below_drewN | apply below_drew1) | exact HB.out)) hb); clear HO_5; clear HL247_3; clear HR247_3; clear HB; have HO_5 := n0_; have HL247_3 := n1_; have HR247_3 := n2_; have HB := n3_; clear n0_ n1_ n2_ n3_; (try clear hb); (try clear hb2); (try clear hk); (try clear hi); have p249 : 0 ≤ (x8_3 : Int) := of_decide_eq_true (by first | (with_reducible assumption) | assumption); have q249 : x8_3 < (t240.length : Int) := of_decide_eq_true (by first | (with_reducible assumption) | assumption); obtain ⟨ad249, A249_3, c249_3, e249, hx249_0, hx249_1, hx249_2, hx249_3, hl249_3, hi249_3⟩ := at_T51 (Kd.R_reads' HO_5.out).2.2 x8_3 p249 q249; obtain rfl : ad247 = ad249 := (by injection e249); obtain ⟨ce249, hce249, hMe249, hcc249⟩ := Kd.R_get HO_5.out z51 x8_3 p249 (by first | exact q249 | exact of_decide_eq_true (by first | (with_reducible assumption) | assumption) | (have e_ := (Kd.R_reads' HO_5.out).1; omega)); obtain ⟨ve249_3, rfl, ge249_3⟩ := k51_openM hMe249; have hv249_3 := hcc249 3 _ rfl; rw [add_field _ _ 3 (by omega)] at hv249_3; replace hv249_3 := Option.some.inj (hv249_3.symm.trans hx249_3); rw [hv249_3] at ge249_3; have HL249_3 := Aside0.mk (show Kd.R k51 51 _ _ _ _ ((rd_T51 t240 x8_3).f3) from ge249_3); clear hv249_3 ge249_3; clear hcc249 hce249; have HR249_3 := Aside0.mk hi249_3; have HC249_3 := Aside0.mk hl249_3; clear hi249_3 hl249_3; replace p249 := eq_true p249; replace q249 := eq_true q249) | (go_at_call 25; (with_reducible refine (sexp_Depth.calls k3 ((rd_T51 t240 x8_3).f0) ((rd_T51 t240 x8_3).f1) ((rd_T51 t240 x8_3).f2) _ _ ((rd_T51 t240 x8_3).f3) t250 _ ?side1 ?side2 A24.out).mono ?_); (case side1 => repeat (first | exact (by repeat (first | (with_reducible exact HR249_3.out) | (with_reducible refine Kd.C_alloc ?_ _) | (with_reducible refine Kd.C_drewN ?_ _) | (with_reducible refine Kd.C_drew ?_) | exact HR249_3.out)) | (with_reducible refine Kd.C_alloc ?_ _) | (with_reducible refine Kd.C_drewN ?_ _) | (with_reducible refine Kd.C_drew ?_))); (case side2 => exact HC249_3.out); rintro e w28 ⟨rfl, hb⟩; have n0_ := Aside0.mk (Kd.R_below (by (with_reducible repeat (first | apply Kd.R_alloc | apply Kd.R_drewN | apply Kd.R_drew)); exact HO_5.out) hb); have n1_ := Aside0.mk (Kd.R_below (by (with_reducible repeat (first | apply Kd.R_alloc | apply Kd.R_drewN | apply Kd.R_drew)); exact HL247_3.out) hb); have n2_ := Aside0.mk (Kd.R_below (by (with_reducible repeat (first | apply Kd.R_alloc | apply Kd.R_drewN | apply Kd.R_drew)); exact HL249_3.out) hb); have n3_ := Aside0.mk (Kd.C_below (by repeat (first | (with_reducible exact HR247_3.out) | (with_reducible refine Kd.C_alloc ?_ _) | (with_reducible refine Kd.C_drewN ?_ _) | (with_reducible refine Kd.C_drew ?_) | exact HR247_3.out)) hb); have n4_ := Aside0.mk (Kd.C_below (by repeat (first | (with_reducible exact HR249_3.out) | (with_reducible refine Kd.C_alloc ?_ _) | (with_reducible refine Kd.C_drewN ?_ _) | (with_reducible refine Kd.C_drew ?_) | exact HR249_3.out)) hb); have n5_ := Aside0.mk (below_step (by repeat (first | (with_reducible first | exact HB.out | apply below_alloc | apply pw_below_drewN | apply below_drew1) | exact HB.out)) hb); clear HO_5; clear HL247_3; clear HL249_3; clear HR247_3; clear HR249_3; clear HB; have HO_5 := n0_; have HL247_3 := n1_; have HL249_3 := n2_; have HR247_3 := n3_; have HR249_3 := n4_; have HB := n5_; clear n0_ n1_ n2_ n3_ n4_ n5_; (try clear hb); (try clear hb2); (try clear hk); (try clear hi)))
                          go_roundg k3
                          case measure => have := HJ2.out; have := HJ10.out; have := HK3.out; omega
                          case rel => exact ⟨(wrap64 (x8_3 + 1)), (by first | rfl | (simp; done) | (simp [*]; done)), H', ⟨by have := HJ2.out; have := HJ10.out; have := HK3.out; omega⟩, ⟨by (with_reducible repeat (first | apply Kd.R_alloc | apply Kd.R_drewN | apply Kd.R_drew)); exact HO_5.out⟩, ⟨by repeat (first | (with_reducible first | exact HB.out | apply below_alloc | apply pw_below_drewN | apply below_drew1) | exact HB.out)⟩⟩
                      · replace c23 := Bool.eq_false_iff.mpr c23
                        subst c23
                        have H1 : (none) = some r := by rw [if_neg (show ¬ (false = true) by decide)] at H; exact H
                        clear H
                        have H := H1
                        clear H1
                        exact absurd H (by simp)
                    · rw [if_neg c21] at H
                      exact absurd H (by simp)
                  · rw [if_neg c20] at H
                    have c20b0 : decide (x8_3 < (t240.length : Int)) = false := decide_eq_false c20
                    clear c20
                    replace H := Option.bind_eq_some_iff.mp H
                    obtain ⟨⟨t245, t246⟩, A290, H⟩ := H
                    replace H : (some t246) = some r := H
                    have A29 := Aside0.mk A290
                    clear A290
                    obtain rfl := Option.some.inj H
                    obtain ⟨Ao30, co30, eo30⟩ := Kd.R_slice HO_5.out
                    subst eo30
                    go_wp2_with (first | ((with_reducible refine gate_callee (f := 26) rfl ?_); refine goesL_ (some 79) rfl rfl Try.func26 (by kernel_rfl) rfl #[.string a0, .slice Ao30 t240.length co30, .int .i64 0] rfl (by (try simp only [List.map_toArray, List.map_cons, List.map_nil]); first | done | rfl | (simp only [List.length_drop, List.length_take]; rfl)) ?_; (with_reducible refine (alidadelaw13_stands.calls k3 a0 _ _ t240 0 t245 t246 _ ?side1 ?side2 A29.out).mono ?_); (case side1 => repeat (first | exact (Kd.R_reads' HO_5.out).2.2 | (with_reducible refine Kd.C_alloc ?_ _) | (with_reducible refine Kd.C_drewN ?_ _) | (with_reducible refine Kd.C_drew ?_))); (case side2 => exact (Kd.R_reads' HO_5.out).2.1); rintro e w31 ⟨rfl, hb⟩; refine ⟨_, rfl, ?_⟩; have n0_ := Aside0.mk (Kd.R_below (by (with_reducible repeat (first | apply Kd.R_alloc | apply Kd.R_drewN | apply Kd.R_drew)); exact HO_5.out) hb); have n1_ := Aside0.mk (below_step (by repeat (first | (with_reducible first | exact HB.out | apply below_alloc | apply pw_below_drewN | apply below_drew1) | exact HB.out)) hb); clear HO_5; clear HB; have HO_5 := n0_; have HB := n1_; clear n0_ n1_; (try clear hb); (try clear hb2); (try clear hk); (try clear hi)))
                    go_ret
                    exact ⟨by first | rfl | (simp [errW_none, errW_some] <;> rfl) | (simp [*, errW_none, errW_some] <;> rfl), by repeat (first | (with_reducible first | exact HB.out | apply below_alloc | apply pw_below_drewN | apply below_drew1) | exact HB.out)⟩

/-- THE ONE PURE STATEMENT of alidadelaw13_SexpPlaces: yours. -/
def alidadelaw13_SexpPlaces.Pure : Prop := ∀ (a0 : ByteArray) (a1 : Int), a0.size ≤ 140737488351232 → (Lit.int .i64 a1).wf = true → ∃ k, alidadelaw13_SexpPlaces.f k a0 a1 = some true
theorem alidadelaw13_SexpPlaces.walk (P : alidadelaw13_SexpPlaces.Pure) (a0 : ByteArray) (a1 : Int) (w : World) (w0 : a0.size ≤ 140737488351232) (w1 : (Lit.int .i64 a1).wf = true) :
    Calls Try.prog 7 #[.string a0, .int .i64 a1] w fun e w' => e = .returned (.bool true) ∧ Below w.heap.size w w' := by
  obtain ⟨k, h⟩ := P a0 a1 w0 w1
  refine (alidadelaw13_SexpPlaces.calls k a0 a1 true w h).mono ?_
  rintro e w' ⟨rfl, hd⟩
  exact ⟨rfl, hd⟩

end Go.Proofs.Ytgikmpgpccfiiaa.PSxp
