-- A text of the seat Ytgikmpgpccfiiaa, written by a program of this session (drive.py).
import Derived.Test.YtgikmpgpccfiiaaPSxpx0
namespace Go.Proofs.Ytgikmpgpccfiiaa.PSxp
open Go.RowKit Go.Proofs.YtgikmpgpccfiiaaW.PrintWords Go.Proofs.YtgikmpgpccfiiaaW.PrintLast Go.Proofs.YtgikmpgpccfiiaaW.PrintMore
attribute [local go_sem] max2_int min2_int max_two min_two max_three min_three max_four min_four   -- for this text's walks alone
set_option linter.unusedVariables false
set_option linter.unusedSimpArgs false

/-! ### alidadelaw13_stands: function 26 -/
mutual
def alidadelaw13_stands.l0 : Nat → ByteArray → List (S51) → Int → Int → Option (Int × Bool)
  | 0, _, _, _, _ => none
  | k + 1, x0, x1, x2, x8 => if x8 < (x1.length : Int) then (if 0 ≤ x8 then (if ((rd_T51 x1 x8).f1) < x2 then (alidadelaw13_stands.j1 k x0 x1 x8 true ((rd_T51 x1 x8).f0) ((rd_T51 x1 x8).f1) ((rd_T51 x1 x8).f2) ((rd_T51 x1 x8).f3)) else (alidadelaw13_stands.j1 k x0 x1 x8 (decide (((rd_T51 x1 x8).f1) ≥ (x0.size : Int))) ((rd_T51 x1 x8).f0) ((rd_T51 x1 x8).f1) ((rd_T51 x1 x8).f2) ((rd_T51 x1 x8).f3))) else (none)) else (some (x2, true))
def alidadelaw13_stands.j1 : Nat → ByteArray → List (S51) → Int → Bool → Int → Int → ByteArray → List (S51) → Option (Int × Bool)
  | 0, _, _, _, _, _, _, _, _ => none
  | k + 1, x0, x1, x8, x32, x236000, x236001, x236002, x236003 => if x32 = true then (some (0, false)) else (if x236000 = 0 then ((alidadelaw13_stands.f k x0 x236003 (wrap64 (x236001 + 1))).bind fun bt236 => (if bt236.2 = true then (if 0 ≤ x236001 then (if x236001 < (x0.size : Int) then (alidadelaw13_stands.j2 k x0 x1 x8 bt236.1 ((bt x0 x236001) != 40)) else (none)) else (none)) else (alidadelaw13_stands.j2 k x0 x1 x8 bt236.1 true))) else (if (wrap64 ((x0.size : Int) - x236001)) < (x236002.size : Int) then (some (0, false)) else (if 0 ≤ x236001 then (if x236001 ≤ (wrap64 (x236001 + (x236002.size : Int))) then (if (wrap64 (x236001 + (x236002.size : Int))) ≤ (x0.size : Int) then (if (x0.extract (x236001 : Int).toNat ((wrap64 (x236001 + (x236002.size : Int))) : Int).toNat).toList = x236002.toList then (if x236002.toList = ([] : List UInt8) then (some (0, false)) else (alidadelaw13_stands.l0 k x0 x1 (wrap64 (x236001 + (x236002.size : Int))) (wrap64 (x8 + 1)))) else (some (0, false))) else (none)) else (none)) else (none))))
def alidadelaw13_stands.j2 : Nat → ByteArray → List (S51) → Int → Int → Bool → Option (Int × Bool)
  | 0, _, _, _, _, _ => none
  | k + 1, x0, x1, x8, x10, x54 => if x54 = true then (some (0, false)) else (alidadelaw13_stands.l0 k x0 x1 x10 (wrap64 (x8 + 1)))
def alidadelaw13_stands.f : Nat → ByteArray → List (S51) → Int → Option (Int × Bool)
  | 0, _, _, _ => none
  | k + 1, a0, l1, a2 => alidadelaw13_stands.l0 k a0 l1 a2 0
end
set_option maxHeartbeats 8000000 in
set_option maxRecDepth 100000 in
theorem alidadelaw13_stands.calls (k : Nat) : ∀ (a0 : ByteArray) (A1 : Option Addr) (c1 : Nat) (l1 : List (S51)) (a2 : Int) (r1 : Int) (r2 : Bool) (w : World) (hr1 : Kd.C k51 w A1 l1.length l1) (hc1 : l1.length ≤ c1) (h : alidadelaw13_stands.f k a0 l1 a2 = some (r1, r2)),
    Calls Try.prog 26 #[.string a0, .slice A1 l1.length c1, .int .i64 a2] w fun e w' => e = .returned (.tuple #[.int .i64 r1, .bool r2]) ∧ Below w.heap.size w w' := by
  induction k using Nat.strongRecOn with
  | _ k ih =>
  intro a0 A1 c1 l1 a2 r1 r2 w hr1 hc1 h
  cases k with
  | zero => exact absurd h (by simp [alidadelaw13_stands.f])
  | succ k =>
  simp only [alidadelaw13_stands.f] at h
  have hu51 := Try.underlying51
  have HR1 := Aside0.mk hr1
  have HC1 := Aside0.mk hc1
  clear hr1 hc1
  have HB := Aside0.mk (Below.refl w.heap.size w)
  have H : (alidadelaw13_stands.l0 k a0 l1 a2 0) = some (r1, r2) := h
  clear h
  have H' := Aside0.mk H
  clear H
  go_enter Try.func26, Try.ntmps26
  go_wp2
  repeat (go_quiet (fail); try go_wp2)
  go_loopg [2, 8] k (fun kq v2 v8 w' => ∃ (x2_1 : Int) (x8_1 : Int), v2 = .int .i64 x2_1 ∧ v8 = .int .i64 x8_1 ∧ Aside0 (alidadelaw13_stands.l0 kq a0 l1 x2_1 x8_1 = some (r1, r2)) ∧ Aside0 (kq ≤ k) ∧ Aside0 (Below w.heap.size w w'))
  case atStart => exact ⟨(a2), (0), (by first | rfl | (simp; done) | (simp [*]; done)), (by first | rfl | (simp; done) | (simp [*]; done)), H', ⟨Nat.le_refl _⟩, ⟨by repeat (first | (with_reducible first | exact HB.out | apply below_alloc | apply pw_below_drewN | apply below_drew1) | exact HB.out)⟩⟩
  case round =>
    clear H'
    try clear c1
    try clear c2
    try clear p2
    obtain ⟨x2_1, x8_1, rfl, rfl, HA, HK1, HB⟩ := hrel
    cases gk with
    | zero => exact absurd HA.out (by simp [alidadelaw13_stands.l0])
    | succ k1 =>
      have H := HA.out
      clear HA
      simp only [alidadelaw13_stands.l0] at H
      by_cases c4 : x8_1 < (l1.length : Int)
      · rw [if_pos c4] at H
        have c4b0 : decide (x8_1 < (l1.length : Int)) = true := decide_eq_true c4
        clear c4
        by_cases c5 : 0 ≤ x8_1
        · rw [if_pos c5] at H
          have c5b0 : decide (0 ≤ x8_1) = true := decide_eq_true c5
          clear c5
          have HC6 := Aside0.mk H
          clear H
          have p234 : 0 ≤ (x8_1 : Int) := of_decide_eq_true (by first | (with_reducible assumption) | assumption)
          have q234 : x8_1 < (l1.length : Int) := of_decide_eq_true (by first | (with_reducible assumption) | assumption)
          obtain ⟨ad234, A234_3, c234_3, e234, hx234_0, hx234_1, hx234_2, hx234_3, hl234_3, hi234_3⟩ := at_T51 HR1.out x8_1 p234 q234
          cases e234
          replace hx234_0 := (HB.out.cell (World.block_lt_of_cell? w _ hx234_0)).trans hx234_0
          replace hx234_1 := (HB.out.cell (World.block_lt_of_cell? w _ hx234_1)).trans hx234_1
          replace hx234_2 := (HB.out.cell (World.block_lt_of_cell? w _ hx234_2)).trans hx234_2
          replace hx234_3 := (HB.out.cell (World.block_lt_of_cell? w _ hx234_3)).trans hx234_3
          have HR234_3 := Aside0.mk hi234_3
          have HC234_3 := Aside0.mk hl234_3
          clear hi234_3 hl234_3
          replace p234 := eq_true p234
          replace q234 := eq_true q234
          go_upto_region 5 with (first | ((with_reducible refine gate_dst (N := 9) rfl ?_); (try (refine gate_guard (by rfl) ?_; dsimp only)); refine box_event ?hg (N := 9) ?hd (cs := #[.int .u8 0, .int .i64 0, .string (⟨#[]⟩ : ByteArray), .slice none 0 0]) (t := 51) ?hr ?_; (case hd => rfl); (case hg => rfl); (case hr => first | (go_simp; done) | (go_simp; rfl)); intro gb235 hg w7 hbox hb; have n0_ := Aside0.mk (below_step (by repeat (first | (with_reducible first | exact HB.out | apply below_alloc | apply pw_below_drewN | apply below_drew1) | exact HB.out)) hb); have n1_ := Aside0.mk (hbox); have n2_ := Aside0.mk ((by rw [hg]; exact (below_size (by repeat (first | (with_reducible first | exact HB.out | apply below_alloc | apply pw_below_drewN | apply below_drew1) | exact HB.out))) : w.heap.size ≤ gb235)); have n3_ := Aside0.mk ((by rw [hg]; exact (below_size (by repeat (first | (with_reducible first | exact HB.out | apply below_alloc | apply pw_below_drewN | apply below_drew1) | exact HB.out))) : w.heap.size ≤ gb235)); clear HB; have HB := n0_; have BK235 := n1_; have GW235 := n2_; have GE235 := n3_; clear n0_ n1_ n2_ n3_; clear hb hbox hg; have hcz8_0 : w7.cell? ⟨gb235, 0, none⟩ = some (.int .u8 0) := (blk_cell BK235.out 0).trans rfl; have hcz8_1 : w7.cell? ⟨gb235, 1, none⟩ = some (.int .i64 0) := (blk_cell BK235.out 1).trans rfl; have hcz8_2 : w7.cell? ⟨gb235, 2, none⟩ = some (.string (⟨#[]⟩ : ByteArray)) := (blk_cell BK235.out 2).trans rfl; have hcz8_3 : w7.cell? ⟨gb235, 3, none⟩ = some (.slice none 0 0) := (blk_cell BK235.out 3).trans rfl; have hfz8_0 := blk_frozen BK235.out 0; have hfz8_1 := blk_frozen BK235.out 1; have hfz8_2 := blk_frozen BK235.out 2; have hfz8_3 := blk_frozen BK235.out 3))
          repeat (go_quiet (first | ((with_reducible refine gate_dst (N := 9) rfl ?_); (try (refine gate_guard (by rfl) ?_; dsimp only)); refine box_event ?hg (N := 9) ?hd (cs := #[.int .u8 0, .int .i64 0, .string (⟨#[]⟩ : ByteArray), .slice none 0 0]) (t := 51) ?hr ?_; (case hd => rfl); (case hg => rfl); (case hr => first | (go_simp; done) | (go_simp; rfl)); intro gb235 hg w7 hbox hb; have n0_ := Aside0.mk (below_step (by repeat (first | (with_reducible first | exact HB.out | apply below_alloc | apply pw_below_drewN | apply below_drew1) | exact HB.out)) hb); have n1_ := Aside0.mk (hbox); have n2_ := Aside0.mk ((by rw [hg]; exact (below_size (by repeat (first | (with_reducible first | exact HB.out | apply below_alloc | apply pw_below_drewN | apply below_drew1) | exact HB.out))) : w.heap.size ≤ gb235)); have n3_ := Aside0.mk ((by rw [hg]; exact (below_size (by repeat (first | (with_reducible first | exact HB.out | apply below_alloc | apply pw_below_drewN | apply below_drew1) | exact HB.out))) : w.heap.size ≤ gb235)); clear HB; have HB := n0_; have BK235 := n1_; have GW235 := n2_; have GE235 := n3_; clear n0_ n1_ n2_ n3_; clear hb hbox hg; have hcz8_0 : w7.cell? ⟨gb235, 0, none⟩ = some (.int .u8 0) := (blk_cell BK235.out 0).trans rfl; have hcz8_1 : w7.cell? ⟨gb235, 1, none⟩ = some (.int .i64 0) := (blk_cell BK235.out 1).trans rfl; have hcz8_2 : w7.cell? ⟨gb235, 2, none⟩ = some (.string (⟨#[]⟩ : ByteArray)) := (blk_cell BK235.out 2).trans rfl; have hcz8_3 : w7.cell? ⟨gb235, 3, none⟩ = some (.slice none 0 0) := (blk_cell BK235.out 3).trans rfl; have hfz8_0 := blk_frozen BK235.out 0; have hfz8_1 := blk_frozen BK235.out 1; have hfz8_2 := blk_frozen BK235.out 2; have hfz8_3 := blk_frozen BK235.out 3)); go_upto_region 5 with (first | ((with_reducible refine gate_dst (N := 9) rfl ?_); (try (refine gate_guard (by rfl) ?_; dsimp only)); refine box_event ?hg (N := 9) ?hd (cs := #[.int .u8 0, .int .i64 0, .string (⟨#[]⟩ : ByteArray), .slice none 0 0]) (t := 51) ?hr ?_; (case hd => rfl); (case hg => rfl); (case hr => first | (go_simp; done) | (go_simp; rfl)); intro gb235 hg w7 hbox hb; have n0_ := Aside0.mk (below_step (by repeat (first | (with_reducible first | exact HB.out | apply below_alloc | apply pw_below_drewN | apply below_drew1) | exact HB.out)) hb); have n1_ := Aside0.mk (hbox); have n2_ := Aside0.mk ((by rw [hg]; exact (below_size (by repeat (first | (with_reducible first | exact HB.out | apply below_alloc | apply pw_below_drewN | apply below_drew1) | exact HB.out))) : w.heap.size ≤ gb235)); have n3_ := Aside0.mk ((by rw [hg]; exact (below_size (by repeat (first | (with_reducible first | exact HB.out | apply below_alloc | apply pw_below_drewN | apply below_drew1) | exact HB.out))) : w.heap.size ≤ gb235)); clear HB; have HB := n0_; have BK235 := n1_; have GW235 := n2_; have GE235 := n3_; clear n0_ n1_ n2_ n3_; clear hb hbox hg; have hcz8_0 : w7.cell? ⟨gb235, 0, none⟩ = some (.int .u8 0) := (blk_cell BK235.out 0).trans rfl; have hcz8_1 : w7.cell? ⟨gb235, 1, none⟩ = some (.int .i64 0) := (blk_cell BK235.out 1).trans rfl; have hcz8_2 : w7.cell? ⟨gb235, 2, none⟩ = some (.string (⟨#[]⟩ : ByteArray)) := (blk_cell BK235.out 2).trans rfl; have hcz8_3 : w7.cell? ⟨gb235, 3, none⟩ = some (.slice none 0 0) := (blk_cell BK235.out 3).trans rfl; have hfz8_0 := blk_frozen BK235.out 0; have hfz8_1 := blk_frozen BK235.out 1; have hfz8_2 := blk_frozen BK235.out 2; have hfz8_3 := blk_frozen BK235.out 3)))
          (try simp only [Act.put, List.setIfInBounds_toArray, List.set_cons_zero, List.set_cons_succ])
          go_cut [32] (fun v32 wc => ∃ (kq : Nat) (x32_5 : Bool), v32 = .bool x32_5 ∧ Aside0 (alidadelaw13_stands.j1 kq a0 l1 x8_1 x32_5 ((rd_T51 l1 x8_1).f0) ((rd_T51 l1 x8_1).f1) ((rd_T51 l1 x8_1).f2) ((rd_T51 l1 x8_1).f3) = some (r1, r2)) ∧ Aside0 (kq ≤ k1) ∧ Aside0 (wc.heap[gb235]? = some (.cells #[.int .u8 ((rd_T51 l1 x8_1).f0), .int .i64 ((rd_T51 l1 x8_1).f1), .string ((rd_T51 l1 x8_1).f2), (.slice A234_3 ((rd_T51 l1 x8_1).f3).length c234_3)] 51 (0, 0))) ∧ Aside0 (Below w.heap.size w wc))
          case first =>
            have H := HC6.out
            clear HC6
            by_cases c9 : ((rd_T51 l1 x8_1).f1) < x2_1
            · rw [if_pos c9] at H
              have c9b0 : decide (((rd_T51 l1 x8_1).f1) < x2_1) = true := decide_eq_true c9
              clear c9
              (first | rw [c9b0] | (simp only [i64_w, i32_w]; rw [c9b0]) | skip)
              have H' := Aside0.mk H
              clear H
              have hcz10_0 : w7.cell? ⟨gb235, 0, none⟩ = some (.int .u8 0) := (blk_cell BK235.out 0).trans rfl
              have hcz10_1 : w7.cell? ⟨gb235, 1, none⟩ = some (.int .i64 0) := (blk_cell BK235.out 1).trans rfl
              have hcz10_2 : w7.cell? ⟨gb235, 2, none⟩ = some (.string (⟨#[]⟩ : ByteArray)) := (blk_cell BK235.out 2).trans rfl
              have hcz10_3 : w7.cell? ⟨gb235, 3, none⟩ = some (.slice none 0 0) := (blk_cell BK235.out 3).trans rfl
              have hfz10_0 := blk_frozen BK235.out 0
              have hfz10_1 := blk_frozen BK235.out 1
              have hfz10_2 := blk_frozen BK235.out 2
              have hfz10_3 := blk_frozen BK235.out 3
              go_wp2
              repeat (go_quiet (fail); try go_wp2)
              go_meet
              case rel => exact ⟨_, (true), (by first | rfl | (simp; done) | (simp [*]; done)), H', ⟨by have := HK1.out; first | omega | exact Nat.le_refl _⟩, ⟨by (with_reducible repeat (first | refine blk_drewN ?_ _ | refine blk_drew ?_ | refine blk_alloc ?_ _)); refine blk_put (cs := #[.int .u8 ((rd_T51 l1 x8_1).f0), .int .i64 ((rd_T51 l1 x8_1).f1), .string ((rd_T51 l1 x8_1).f2), .slice none 0 0]) ?_ 3 _ rfl; (with_reducible repeat (first | refine blk_drewN ?_ _ | refine blk_drew ?_ | refine blk_alloc ?_ _)); refine blk_put (cs := #[.int .u8 ((rd_T51 l1 x8_1).f0), .int .i64 ((rd_T51 l1 x8_1).f1), .string (⟨#[]⟩ : ByteArray), .slice none 0 0]) ?_ 2 _ rfl; (with_reducible repeat (first | refine blk_drewN ?_ _ | refine blk_drew ?_ | refine blk_alloc ?_ _)); refine blk_put (cs := #[.int .u8 ((rd_T51 l1 x8_1).f0), .int .i64 0, .string (⟨#[]⟩ : ByteArray), .slice none 0 0]) ?_ 1 _ rfl; (with_reducible repeat (first | refine blk_drewN ?_ _ | refine blk_drew ?_ | refine blk_alloc ?_ _)); refine blk_put (cs := #[.int .u8 0, .int .i64 0, .string (⟨#[]⟩ : ByteArray), .slice none 0 0]) ?_ 0 _ rfl; (with_reducible repeat (first | refine blk_drewN ?_ _ | refine blk_drew ?_ | refine blk_alloc ?_ _)); exact BK235.out⟩, ⟨by repeat (first | (with_reducible first | exact HB.out | apply below_alloc | apply pw_below_drewN | apply below_drew1 | refine below_set ?_ GE235.out) | exact HB.out)⟩⟩
            · rw [if_neg c9] at H
              have c9b0 : decide (((rd_T51 l1 x8_1).f1) < x2_1) = false := decide_eq_false c9
              clear c9
              (first | rw [c9b0] | (simp only [i64_w, i32_w]; rw [c9b0]) | skip)
              have H' := Aside0.mk H
              clear H
              have hcz11_0 : w7.cell? ⟨gb235, 0, none⟩ = some (.int .u8 0) := (blk_cell BK235.out 0).trans rfl
              have hcz11_1 : w7.cell? ⟨gb235, 1, none⟩ = some (.int .i64 0) := (blk_cell BK235.out 1).trans rfl
              have hcz11_2 : w7.cell? ⟨gb235, 2, none⟩ = some (.string (⟨#[]⟩ : ByteArray)) := (blk_cell BK235.out 2).trans rfl
              have hcz11_3 : w7.cell? ⟨gb235, 3, none⟩ = some (.slice none 0 0) := (blk_cell BK235.out 3).trans rfl
              have hfz11_0 := blk_frozen BK235.out 0
              have hfz11_1 := blk_frozen BK235.out 1
              have hfz11_2 := blk_frozen BK235.out 2
              have hfz11_3 := blk_frozen BK235.out 3
              go_wp2
              repeat (go_quiet (fail); try go_wp2)
              go_meet
              case rel => exact ⟨_, (decide (((rd_T51 l1 x8_1).f1) ≥ (a0.size : Int))), (by first | rfl | (simp; done) | (simp [*]; done)), H', ⟨by have := HK1.out; first | omega | exact Nat.le_refl _⟩, ⟨by (with_reducible repeat (first | refine blk_drewN ?_ _ | refine blk_drew ?_ | refine blk_alloc ?_ _)); refine blk_put (cs := #[.int .u8 ((rd_T51 l1 x8_1).f0), .int .i64 ((rd_T51 l1 x8_1).f1), .string ((rd_T51 l1 x8_1).f2), .slice none 0 0]) ?_ 3 _ rfl; (with_reducible repeat (first | refine blk_drewN ?_ _ | refine blk_drew ?_ | refine blk_alloc ?_ _)); refine blk_put (cs := #[.int .u8 ((rd_T51 l1 x8_1).f0), .int .i64 ((rd_T51 l1 x8_1).f1), .string (⟨#[]⟩ : ByteArray), .slice none 0 0]) ?_ 2 _ rfl; (with_reducible repeat (first | refine blk_drewN ?_ _ | refine blk_drew ?_ | refine blk_alloc ?_ _)); refine blk_put (cs := #[.int .u8 ((rd_T51 l1 x8_1).f0), .int .i64 0, .string (⟨#[]⟩ : ByteArray), .slice none 0 0]) ?_ 1 _ rfl; (with_reducible repeat (first | refine blk_drewN ?_ _ | refine blk_drew ?_ | refine blk_alloc ?_ _)); refine blk_put (cs := #[.int .u8 0, .int .i64 0, .string (⟨#[]⟩ : ByteArray), .slice none 0 0]) ?_ 0 _ rfl; (with_reducible repeat (first | refine blk_drewN ?_ _ | refine blk_drew ?_ | refine blk_alloc ?_ _)); exact BK235.out⟩, ⟨by repeat (first | (with_reducible first | exact HB.out | apply below_alloc | apply pw_below_drewN | apply below_drew1 | refine below_set ?_ GE235.out) | exact HB.out)⟩⟩
          case rest =>
            clear HC6
            try clear c1
            try clear c2
            try clear p2
            try clear q2
            try clear hx2
            try clear c4
            try clear c4b0
            try clear c5
            try clear c5b0
            try clear c9
            try clear c9b0
            try clear hcz10_0
            try clear hcz10_1
            try clear hcz10_2
            try clear hcz10_3
            try clear hcz11_0
            try clear hcz11_1
            try clear hcz11_2
            try clear hcz11_3
            try clear hcz8_0
            try clear hcz8_1
            try clear hcz8_2
            try clear hcz8_3
            try clear hfz10_0
            try clear hfz10_1
            try clear hfz10_2
            try clear hfz10_3
            try clear hfz11_0
            try clear hfz11_1
            try clear hfz11_2
            try clear hfz11_3
            try clear hfz8_0
            try clear hfz8_1
            try clear hfz8_2
            try clear hfz8_3
            try clear hx234_0
            try clear hx234_1
            try clear hx234_2
            try clear hx234_3
            try clear p2
            try clear p234
            try clear q234
            obtain ⟨kq, x32_5, rfl, HA, HJ5, BK235, HB⟩ := hcut
            cases kq with
            | zero => exact absurd HA.out (by simp [alidadelaw13_stands.j1])
            | succ kj5 =>
              have H := HA.out
              clear HA
              simp only [alidadelaw13_stands.j1] at H
              by_cases c12 : x32_5 = true
              · subst c12
                have H1 : (some (0, false)) = some (r1, r2) := by rw [if_pos rfl] at H; exact H
                clear H
                have H := H1
                clear H1
                simp only [Option.some.injEq, Prod.mk.injEq] at H
                obtain ⟨rfl, rfl⟩ := H
                go_wp2
                repeat (go_quiet (fail); try go_wp2)
                go_ret2
                exact ⟨by first | rfl | (simp [errW_none, errW_some] <;> rfl) | (simp [*, errW_none, errW_some] <;> rfl), by repeat (first | (with_reducible first | exact HB.out | apply below_alloc | apply pw_below_drewN | apply below_drew1 | refine below_set ?_ GE235.out) | exact HB.out)⟩
              · replace c12 := Bool.eq_false_iff.mpr c12
                subst c12
                have H1 : (if ((rd_T51 l1 x8_1).f0) = 0 then ((alidadelaw13_stands.f kj5 a0 ((rd_T51 l1 x8_1).f3) (wrap64 (((rd_T51 l1 x8_1).f1) + 1))).bind fun bt236 => (if bt236.2 = true then (if 0 ≤ ((rd_T51 l1 x8_1).f1) then (if ((rd_T51 l1 x8_1).f1) < (a0.size : Int) then (alidadelaw13_stands.j2 kj5 a0 l1 x8_1 bt236.1 ((bt a0 ((rd_T51 l1 x8_1).f1)) != 40)) else (none)) else (none)) else (alidadelaw13_stands.j2 kj5 a0 l1 x8_1 bt236.1 true))) else (if (wrap64 ((a0.size : Int) - ((rd_T51 l1 x8_1).f1))) < (((rd_T51 l1 x8_1).f2).size : Int) then (some (0, false)) else (if 0 ≤ ((rd_T51 l1 x8_1).f1) then (if ((rd_T51 l1 x8_1).f1) ≤ (wrap64 (((rd_T51 l1 x8_1).f1) + (((rd_T51 l1 x8_1).f2).size : Int))) then (if (wrap64 (((rd_T51 l1 x8_1).f1) + (((rd_T51 l1 x8_1).f2).size : Int))) ≤ (a0.size : Int) then (if (a0.extract (((rd_T51 l1 x8_1).f1) : Int).toNat ((wrap64 (((rd_T51 l1 x8_1).f1) + (((rd_T51 l1 x8_1).f2).size : Int))) : Int).toNat).toList = ((rd_T51 l1 x8_1).f2).toList then (if ((rd_T51 l1 x8_1).f2).toList = ([] : List UInt8) then (some (0, false)) else (alidadelaw13_stands.l0 kj5 a0 l1 (wrap64 (((rd_T51 l1 x8_1).f1) + (((rd_T51 l1 x8_1).f2).size : Int))) (wrap64 (x8_1 + 1)))) else (some (0, false))) else (none)) else (none)) else (none)))) = some (r1, r2) := by rw [if_neg (show ¬ (false = true) by decide)] at H; exact H
                clear H
                have H := H1
                clear H1
                by_cases c13 : ((rd_T51 l1 x8_1).f0) = 0
                · rw [if_pos c13] at H
                  have c13b0 : (((rd_T51 l1 x8_1).f0) == 0) = true := beq_iff_eq.mpr c13
                  have c13b1 : (((rd_T51 l1 x8_1).f0) != 0) = false := bne_eq_false_iff_eq.mpr c13
                  clear c13
                  replace H := Option.bind_eq_some_iff.mp H
                  obtain ⟨⟨t236, t237⟩, A140, H⟩ := H
                  replace H : (if t237 = true then (if 0 ≤ ((rd_T51 l1 x8_1).f1) then (if ((rd_T51 l1 x8_1).f1) < (a0.size : Int) then (alidadelaw13_stands.j2 kj5 a0 l1 x8_1 t236 ((bt a0 ((rd_T51 l1 x8_1).f1)) != 40)) else (none)) else (none)) else (alidadelaw13_stands.j2 kj5 a0 l1 x8_1 t236 true)) = some (r1, r2) := H
                  have A14 := Aside0.mk A140
                  clear A140
                  have HC15 := Aside0.mk H
                  clear H
                  have hcz16_0 : wc.cell? ⟨gb235, 0, none⟩ = some (.int .u8 ((rd_T51 l1 x8_1).f0)) := (blk_cell BK235.out 0).trans rfl
                  have hcz16_1 : wc.cell? ⟨gb235, 1, none⟩ = some (.int .i64 ((rd_T51 l1 x8_1).f1)) := (blk_cell BK235.out 1).trans rfl
                  have hcz16_2 : wc.cell? ⟨gb235, 2, none⟩ = some (.string ((rd_T51 l1 x8_1).f2)) := (blk_cell BK235.out 2).trans rfl
                  have hcz16_3 : wc.cell? ⟨gb235, 3, none⟩ = some (.slice A234_3 ((rd_T51 l1 x8_1).f3).length c234_3) := (blk_cell BK235.out 3).trans rfl
                  have hfz16_0 := blk_frozen BK235.out 0
                  have hfz16_1 := blk_frozen BK235.out 1
                  have hfz16_2 := blk_frozen BK235.out 2
                  have hfz16_3 := blk_frozen BK235.out 3
                  go_upto_region 9 with (first | (go_at_call 26; (with_reducible refine (ih kj5 (by have := HK1.out; have := HJ5.out; omega) a0 _ _ ((rd_T51 l1 x8_1).f3) (wrap64 (((rd_T51 l1 x8_1).f1) + 1)) t236 t237 _ ?side1 ?side2 A14.out).mono ?_); (case side1 => repeat (first | exact (Kd.C_below HR234_3.out HB.out) | (with_reducible refine Kd.C_alloc ?_ _) | (with_reducible refine Kd.C_drewN ?_ _) | (with_reducible refine Kd.C_drew ?_))); (case side2 => exact HC234_3.out); rintro e w17 ⟨rfl, hb⟩; have n0_ := Aside0.mk (blk_below (g := gb235) (o := .cells #[.int .u8 ((rd_T51 l1 x8_1).f0), .int .i64 ((rd_T51 l1 x8_1).f1), .string ((rd_T51 l1 x8_1).f2), .slice A234_3 ((rd_T51 l1 x8_1).f3).length c234_3] 51 (0, 0)) (by (with_reducible repeat (first | refine blk_drewN ?_ _ | refine blk_drew ?_ | refine blk_alloc ?_ _)); exact BK235.out) hb); have n1_ := Aside0.mk (below_step (by repeat (first | (with_reducible first | exact HB.out | apply below_alloc | apply pw_below_drewN | apply below_drew1 | refine below_set ?_ GE235.out) | exact HB.out)) hb); clear BK235; clear HB; have BK235 := n0_; have HB := n1_; clear n0_ n1_; (try clear hb); (try clear hb2); (try clear hk); (try clear hi)))
                  repeat (go_quiet (first | (go_at_call 26; (with_reducible refine (ih kj5 (by have := HK1.out; have := HJ5.out; omega) a0 _ _ ((rd_T51 l1 x8_1).f3) (wrap64 (((rd_T51 l1 x8_1).f1) + 1)) t236 t237 _ ?side1 ?side2 A14.out).mono ?_); (case side1 => repeat (first | exact (Kd.C_below HR234_3.out HB.out) | (with_reducible refine Kd.C_alloc ?_ _) | (with_reducible refine Kd.C_drewN ?_ _) | (with_reducible refine Kd.C_drew ?_))); (case side2 => exact HC234_3.out); rintro e w17 ⟨rfl, hb⟩; have n0_ := Aside0.mk (blk_below (g := gb235) (o := .cells #[.int .u8 ((rd_T51 l1 x8_1).f0), .int .i64 ((rd_T51 l1 x8_1).f1), .string ((rd_T51 l1 x8_1).f2), .slice A234_3 ((rd_T51 l1 x8_1).f3).length c234_3] 51 (0, 0)) (by (with_reducible repeat (first | refine blk_drewN ?_ _ | refine blk_drew ?_ | refine blk_alloc ?_ _)); exact BK235.out) hb); have n1_ := Aside0.mk (below_step (by repeat (first | (with_reducible first | exact HB.out | apply below_alloc | apply pw_below_drewN | apply below_drew1 | refine below_set ?_ GE235.out) | exact HB.out)) hb); clear BK235; clear HB; have BK235 := n0_; have HB := n1_; clear n0_ n1_; (try clear hb); (try clear hb2); (try clear hk); (try clear hi))); go_upto_region 9 with (first | (go_at_call 26; (with_reducible refine (ih kj5 (by have := HK1.out; have := HJ5.out; omega) a0 _ _ ((rd_T51 l1 x8_1).f3) (wrap64 (((rd_T51 l1 x8_1).f1) + 1)) t236 t237 _ ?side1 ?side2 A14.out).mono ?_); (case side1 => repeat (first | exact (Kd.C_below HR234_3.out HB.out) | (with_reducible refine Kd.C_alloc ?_ _) | (with_reducible refine Kd.C_drewN ?_ _) | (with_reducible refine Kd.C_drew ?_))); (case side2 => exact HC234_3.out); rintro e w17 ⟨rfl, hb⟩; have n0_ := Aside0.mk (blk_below (g := gb235) (o := .cells #[.int .u8 ((rd_T51 l1 x8_1).f0), .int .i64 ((rd_T51 l1 x8_1).f1), .string ((rd_T51 l1 x8_1).f2), .slice A234_3 ((rd_T51 l1 x8_1).f3).length c234_3] 51 (0, 0)) (by (with_reducible repeat (first | refine blk_drewN ?_ _ | refine blk_drew ?_ | refine blk_alloc ?_ _)); exact BK235.out) hb); have n1_ := Aside0.mk (below_step (by repeat (first | (with_reducible first | exact HB.out | apply below_alloc | apply pw_below_drewN | apply below_drew1 | refine below_set ?_ GE235.out) | exact HB.out)) hb); clear BK235; clear HB; have BK235 := n0_; have HB := n1_; clear n0_ n1_; (try clear hb); (try clear hb2); (try clear hk); (try clear hi))))
                  (try simp only [Act.put, List.setIfInBounds_toArray, List.set_cons_zero, List.set_cons_succ])
                  go_cut [54] (fun v54 wc => ∃ (kq : Nat) (x54_14 : Bool), v54 = .bool x54_14 ∧ Aside0 (alidadelaw13_stands.j2 kq a0 l1 x8_1 t236 x54_14 = some (r1, r2)) ∧ Aside0 (kq ≤ kj5) ∧ Aside0 (wc.heap[gb235]? = some (.cells #[.int .u8 ((rd_T51 l1 x8_1).f0), .int .i64 ((rd_T51 l1 x8_1).f1), .string ((rd_T51 l1 x8_1).f2), (.slice A234_3 ((rd_T51 l1 x8_1).f3).length c234_3)] 51 (0, 0))) ∧ Aside0 (Below w.heap.size w wc))
                  case first =>
                    have H := HC15.out
                    clear HC15
                    by_cases c18 : t237 = true
                    · subst c18
                      have H1 : (if 0 ≤ ((rd_T51 l1 x8_1).f1) then (if ((rd_T51 l1 x8_1).f1) < (a0.size : Int) then (alidadelaw13_stands.j2 kj5 a0 l1 x8_1 t236 ((bt a0 ((rd_T51 l1 x8_1).f1)) != 40)) else (none)) else (none)) = some (r1, r2) := by rw [if_pos rfl] at H; exact H
                      clear H
                      have H := H1
                      clear H1
                      by_cases c19 : 0 ≤ ((rd_T51 l1 x8_1).f1)
                      · rw [if_pos c19] at H
                        have c19b0 : decide (0 ≤ ((rd_T51 l1 x8_1).f1)) = true := decide_eq_true c19
                        clear c19
                        (first | rw [c19b0] | (simp only [i64_w, i32_w]; rw [c19b0]) | skip)
                        by_cases c20 : ((rd_T51 l1 x8_1).f1) < (a0.size : Int)
                        · rw [if_pos c20] at H
                          have c20b0 : decide (((rd_T51 l1 x8_1).f1) < (a0.size : Int)) = true := decide_eq_true c20
                          clear c20
                          have H' := Aside0.mk H
                          clear H
                          have hcz22_0 : w17.cell? ⟨gb235, 0, none⟩ = some (.int .u8 ((rd_T51 l1 x8_1).f0)) := (blk_cell BK235.out 0).trans rfl
                          have hcz22_1 : w17.cell? ⟨gb235, 1, none⟩ = some (.int .i64 ((rd_T51 l1 x8_1).f1)) := (blk_cell BK235.out 1).trans rfl
                          have hcz22_2 : w17.cell? ⟨gb235, 2, none⟩ = some (.string ((rd_T51 l1 x8_1).f2)) := (blk_cell BK235.out 2).trans rfl
                          have hcz22_3 : w17.cell? ⟨gb235, 3, none⟩ = some (.slice A234_3 ((rd_T51 l1 x8_1).f3).length c234_3) := (blk_cell BK235.out 3).trans rfl
                          have hfz22_0 := blk_frozen BK235.out 0
                          have hfz22_1 := blk_frozen BK235.out 1
                          have hfz22_2 := blk_frozen BK235.out 2
                          have hfz22_3 := blk_frozen BK235.out 3
                          have p21 : 0 ≤ (((rd_T51 l1 x8_1).f1) : Int) := of_decide_eq_true (by first | (with_reducible assumption) | assumption)
                          have q21 : ((rd_T51 l1 x8_1).f1) < (a0.size : Int) := of_decide_eq_true (by first | (with_reducible assumption) | assumption)
                          have hx21 := bt_at a0 ((rd_T51 l1 x8_1).f1)
                          replace p21 := eq_true p21
                          replace q21 := eq_true q21
                          go_wp2
                          repeat (go_quiet (fail); try go_wp2)
                          go_meet
                          case rel => exact ⟨_, (((bt a0 ((rd_T51 l1 x8_1).f1)) != 40)), (by first | rfl | (simp; done) | (simp [*]; done)), H', ⟨by have := HK1.out; have := HJ5.out; first | omega | exact Nat.le_refl _⟩, ⟨by (with_reducible repeat (first | refine blk_drewN ?_ _ | refine blk_drew ?_ | refine blk_alloc ?_ _)); exact BK235.out⟩, ⟨by repeat (first | (with_reducible first | exact HB.out | apply below_alloc | apply pw_below_drewN | apply below_drew1 | refine below_set ?_ GE235.out) | exact HB.out)⟩⟩
                        · rw [if_neg c20] at H
                          exact absurd H (by simp)
                      · rw [if_neg c19] at H
                        exact absurd H (by simp)
                    · replace c18 := Bool.eq_false_iff.mpr c18
                      subst c18
                      have H1 : (alidadelaw13_stands.j2 kj5 a0 l1 x8_1 t236 true) = some (r1, r2) := by rw [if_neg (show ¬ (false = true) by decide)] at H; exact H
                      clear H
                      have H := H1
                      clear H1
                      have H' := Aside0.mk H
                      clear H
                      go_wp2
                      repeat (go_quiet (fail); try go_wp2)
                      go_meet
                      case rel => exact ⟨_, (true), (by first | rfl | (simp; done) | (simp [*]; done)), H', ⟨by have := HK1.out; have := HJ5.out; first | omega | exact Nat.le_refl _⟩, ⟨by (with_reducible repeat (first | refine blk_drewN ?_ _ | refine blk_drew ?_ | refine blk_alloc ?_ _)); exact BK235.out⟩, ⟨by repeat (first | (with_reducible first | exact HB.out | apply below_alloc | apply pw_below_drewN | apply below_drew1 | refine below_set ?_ GE235.out) | exact HB.out)⟩⟩
                  case rest =>
                    clear HC15
                    try clear c1
                    try clear c2
                    try clear p2
                    try clear q2
                    try clear hx2
                    try clear c4
                    try clear c4b0
                    try clear c5
                    try clear c5b0
                    try clear p6
                    try clear c9
                    try clear c9b0
                    try clear c12
                    try clear c13
                    try clear c13b0
                    try clear c13b1
                    try clear c18
                    try clear c19
                    try clear c19b0
                    try clear c20
                    try clear c20b0
                    try clear p21
                    try clear q21
                    try clear hx21
                    try clear hcz10_0
                    try clear hcz10_1
                    try clear hcz10_2
                    try clear hcz10_3
                    try clear hcz11_0
                    try clear hcz11_1
                    try clear hcz11_2
                    try clear hcz11_3
                    try clear hcz16_0
                    try clear hcz16_1
                    try clear hcz16_2
                    try clear hcz16_3
                    try clear hcz22_0
                    try clear hcz22_1
                    try clear hcz22_2
                    try clear hcz22_3
                    try clear hcz8_0
                    try clear hcz8_1
                    try clear hcz8_2
                    try clear hcz8_3
                    try clear hfz10_0
                    try clear hfz10_1
                    try clear hfz10_2
                    try clear hfz10_3
                    try clear hfz11_0
                    try clear hfz11_1
                    try clear hfz11_2
                    try clear hfz11_3
                    try clear hfz16_0
                    try clear hfz16_1
                    try clear hfz16_2
                    try clear hfz16_3
                    try clear hfz22_0
                    try clear hfz22_1
                    try clear hfz22_2
                    try clear hfz22_3
                    try clear hfz8_0
                    try clear hfz8_1
                    try clear hfz8_2
                    try clear hfz8_3
                    try clear hx234_0
                    try clear hx234_1
                    try clear hx234_2
                    try clear hx234_3
                    try clear p2
                    try clear p21
                    try clear p234
                    try clear q2
                    try clear q21
                    try clear q234
                    obtain ⟨kq, x54_14, rfl, HA, HJ14, BK235, HB⟩ := hcut
                    cases kq with
                    | zero => exact absurd HA.out (by simp [alidadelaw13_stands.j2])
                    | succ kj14 =>
                      have H := HA.out
                      clear HA
                      simp only [alidadelaw13_stands.j2] at H
                      by_cases c23 : x54_14 = true
                      · subst c23
                        have H1 : (some (0, false)) = some (r1, r2) := by rw [if_pos rfl] at H; exact H
                        clear H
                        have H := H1
                        clear H1
                        simp only [Option.some.injEq, Prod.mk.injEq] at H
                        obtain ⟨rfl, rfl⟩ := H
                        go_wp2
                        repeat (go_quiet (fail); try go_wp2)
                        go_ret2
                        exact ⟨by first | rfl | (simp [errW_none, errW_some] <;> rfl) | (simp [*, errW_none, errW_some] <;> rfl), by repeat (first | (with_reducible first | exact HB.out | apply below_alloc | apply pw_below_drewN | apply below_drew1 | refine below_set ?_ GE235.out) | exact HB.out)⟩
                      · replace c23 := Bool.eq_false_iff.mpr c23
                        subst c23
                        have H1 : (alidadelaw13_stands.l0 kj14 a0 l1 t236 (wrap64 (x8_1 + 1))) = some (r1, r2) := by rw [if_neg (show ¬ (false = true) by decide)] at H; exact H
                        clear H
                        have H := H1
                        clear H1
                        have H' := Aside0.mk H
                        clear H
                        go_wp2
                        repeat (go_quiet (fail); try go_wp2)
                        go_roundg kj14
                        case measure => have := HK1.out; have := HJ5.out; have := HJ14.out; omega
                        case rel => exact ⟨(t236), (wrap64 (x8_1 + 1)), (by first | rfl | (simp; done) | (simp [*]; done)), (by first | rfl | (simp; done) | (simp [*]; done)), H', ⟨by have := HK1.out; have := HJ5.out; have := HJ14.out; omega⟩, ⟨by repeat (first | (with_reducible first | exact HB.out | apply below_alloc | apply pw_below_drewN | apply below_drew1 | refine below_set ?_ GE235.out) | exact HB.out)⟩⟩
                · rw [if_neg c13] at H
                  have c13b0 : (((rd_T51 l1 x8_1).f0) == 0) = false := beq_eq_false_iff_ne.mpr c13
                  have c13b1 : (((rd_T51 l1 x8_1).f0) != 0) = true := bne_iff_ne.mpr c13
                  by_cases c24 : (wrap64 ((a0.size : Int) - ((rd_T51 l1 x8_1).f1))) < (((rd_T51 l1 x8_1).f2).size : Int)
                  · rw [if_pos c24] at H
                    have c24b0 : decide ((wrap64 ((a0.size : Int) - ((rd_T51 l1 x8_1).f1))) < (((rd_T51 l1 x8_1).f2).size : Int)) = true := decide_eq_true c24
                    clear c24
                    simp only [Option.some.injEq, Prod.mk.injEq] at H
                    obtain ⟨rfl, rfl⟩ := H
                    have hcz25_0 : wc.cell? ⟨gb235, 0, none⟩ = some (.int .u8 ((rd_T51 l1 x8_1).f0)) := (blk_cell BK235.out 0).trans rfl
                    have hcz25_1 : wc.cell? ⟨gb235, 1, none⟩ = some (.int .i64 ((rd_T51 l1 x8_1).f1)) := (blk_cell BK235.out 1).trans rfl
                    have hcz25_2 : wc.cell? ⟨gb235, 2, none⟩ = some (.string ((rd_T51 l1 x8_1).f2)) := (blk_cell BK235.out 2).trans rfl
                    have hcz25_3 : wc.cell? ⟨gb235, 3, none⟩ = some (.slice A234_3 ((rd_T51 l1 x8_1).f3).length c234_3) := (blk_cell BK235.out 3).trans rfl
                    have hfz25_0 := blk_frozen BK235.out 0
                    have hfz25_1 := blk_frozen BK235.out 1
                    have hfz25_2 := blk_frozen BK235.out 2
                    have hfz25_3 := blk_frozen BK235.out 3
                    go_wp2
                    repeat (go_quiet (fail); try go_wp2)
                    go_ret2
                    exact ⟨by first | rfl | (simp [errW_none, errW_some] <;> rfl) | (simp [*, errW_none, errW_some] <;> rfl), by repeat (first | (with_reducible first | exact HB.out | apply below_alloc | apply pw_below_drewN | apply below_drew1 | refine below_set ?_ GE235.out) | exact HB.out)⟩
                  · rw [if_neg c24] at H
                    have c24b0 : decide ((wrap64 ((a0.size : Int) - ((rd_T51 l1 x8_1).f1))) < (((rd_T51 l1 x8_1).f2).size : Int)) = false := decide_eq_false c24
                    clear c24
                    by_cases c26 : 0 ≤ ((rd_T51 l1 x8_1).f1)
                    · rw [if_pos c26] at H
                      have c26b0 := eq_true c26
                      have c26b1 : decide (0 ≤ ((rd_T51 l1 x8_1).f1)) = true := decide_eq_true c26
                      clear c26
                      by_cases c27 : ((rd_T51 l1 x8_1).f1) ≤ (wrap64 (((rd_T51 l1 x8_1).f1) + (((rd_T51 l1 x8_1).f2).size : Int)))
                      · rw [if_pos c27] at H
                        have c27b0 := eq_true c27
                        have c27b1 : decide (((rd_T51 l1 x8_1).f1) ≤ (wrap64 (((rd_T51 l1 x8_1).f1) + (((rd_T51 l1 x8_1).f2).size : Int)))) = true := decide_eq_true c27
                        by_cases c28 : (wrap64 (((rd_T51 l1 x8_1).f1) + (((rd_T51 l1 x8_1).f2).size : Int))) ≤ (a0.size : Int)
                        · rw [if_pos c28] at H
                          have c28b0 := eq_true c28
                          have c28b1 : decide ((wrap64 (((rd_T51 l1 x8_1).f1) + (((rd_T51 l1 x8_1).f2).size : Int))) ≤ (a0.size : Int)) = true := decide_eq_true c28
                          by_cases c29 : (a0.extract (((rd_T51 l1 x8_1).f1) : Int).toNat ((wrap64 (((rd_T51 l1 x8_1).f1) + (((rd_T51 l1 x8_1).f2).size : Int))) : Int).toNat).toList = ((rd_T51 l1 x8_1).f2).toList
                          · rw [if_pos c29] at H
                            have c29b0 : ((a0.extract (((rd_T51 l1 x8_1).f1) : Int).toNat ((wrap64 (((rd_T51 l1 x8_1).f1) + (((rd_T51 l1 x8_1).f2).size : Int))) : Int).toNat).toList == ((rd_T51 l1 x8_1).f2).toList) = true := beq_iff_eq.mpr c29
                            have c29b1 : ((a0.extract (((rd_T51 l1 x8_1).f1) : Int).toNat ((wrap64 (((rd_T51 l1 x8_1).f1) + (((rd_T51 l1 x8_1).f2).size : Int))) : Int).toNat).toList != ((rd_T51 l1 x8_1).f2).toList) = false := bne_eq_false_iff_eq.mpr c29
                            clear c29
                            by_cases c30 : ((rd_T51 l1 x8_1).f2).toList = ([] : List UInt8)
                            · rw [if_pos c30] at H
                              have c30b0 : (((rd_T51 l1 x8_1).f2).toList == ([] : List UInt8)) = true := beq_iff_eq.mpr c30
                              have c30b1 : (((rd_T51 l1 x8_1).f2).toList != ([] : List UInt8)) = false := bne_eq_false_iff_eq.mpr c30
                              clear c30
                              simp only [Option.some.injEq, Prod.mk.injEq] at H
                              obtain ⟨rfl, rfl⟩ := H
                              have hcz31_0 : wc.cell? ⟨gb235, 0, none⟩ = some (.int .u8 ((rd_T51 l1 x8_1).f0)) := (blk_cell BK235.out 0).trans rfl
                              have hcz31_1 : wc.cell? ⟨gb235, 1, none⟩ = some (.int .i64 ((rd_T51 l1 x8_1).f1)) := (blk_cell BK235.out 1).trans rfl
                              have hcz31_2 : wc.cell? ⟨gb235, 2, none⟩ = some (.string ((rd_T51 l1 x8_1).f2)) := (blk_cell BK235.out 2).trans rfl
                              have hcz31_3 : wc.cell? ⟨gb235, 3, none⟩ = some (.slice A234_3 ((rd_T51 l1 x8_1).f3).length c234_3) := (blk_cell BK235.out 3).trans rfl
                              have hfz31_0 := blk_frozen BK235.out 0
                              have hfz31_1 := blk_frozen BK235.out 1
                              have hfz31_2 := blk_frozen BK235.out 2
                              have hfz31_3 := blk_frozen BK235.out 3
                              go_wp2
                              repeat (go_quiet (fail); try go_wp2)
                              go_ret2
                              exact ⟨by first | rfl | (simp [errW_none, errW_some] <;> rfl) | (simp [*, errW_none, errW_some] <;> rfl), by repeat (first | (with_reducible first | exact HB.out | apply below_alloc | apply pw_below_drewN | apply below_drew1 | refine below_set ?_ GE235.out) | exact HB.out)⟩
                            · rw [if_neg c30] at H
                              have c30b0 : (((rd_T51 l1 x8_1).f2).toList == ([] : List UInt8)) = false := beq_eq_false_iff_ne.mpr c30
                              have c30b1 : (((rd_T51 l1 x8_1).f2).toList != ([] : List UInt8)) = true := bne_iff_ne.mpr c30
                              have H' := Aside0.mk H
                              clear H
                              have hcz32_0 : wc.cell? ⟨gb235, 0, none⟩ = some (.int .u8 ((rd_T51 l1 x8_1).f0)) := (blk_cell BK235.out 0).trans rfl
                              have hcz32_1 : wc.cell? ⟨gb235, 1, none⟩ = some (.int .i64 ((rd_T51 l1 x8_1).f1)) := (blk_cell BK235.out 1).trans rfl
                              have hcz32_2 : wc.cell? ⟨gb235, 2, none⟩ = some (.string ((rd_T51 l1 x8_1).f2)) := (blk_cell BK235.out 2).trans rfl
                              have hcz32_3 : wc.cell? ⟨gb235, 3, none⟩ = some (.slice A234_3 ((rd_T51 l1 x8_1).f3).length c234_3) := (blk_cell BK235.out 3).trans rfl
                              have hfz32_0 := blk_frozen BK235.out 0
                              have hfz32_1 := blk_frozen BK235.out 1
                              have hfz32_2 := blk_frozen BK235.out 2
                              have hfz32_3 := blk_frozen BK235.out 3
                              go_wp2
                              repeat (go_quiet (fail); try go_wp2)
                              go_roundg kj5
                              case measure => have := HK1.out; have := HJ5.out; omega
                              case rel => exact ⟨(wrap64 (((rd_T51 l1 x8_1).f1) + (((rd_T51 l1 x8_1).f2).size : Int))), (wrap64 (x8_1 + 1)), (by first | rfl | (simp; done) | (simp [*]; done)), (by first | rfl | (simp; done) | (simp [*]; done)), H', ⟨by have := HK1.out; have := HJ5.out; omega⟩, ⟨by repeat (first | (with_reducible first | exact HB.out | apply below_alloc | apply pw_below_drewN | apply below_drew1 | refine below_set ?_ GE235.out) | exact HB.out)⟩⟩
                          · rw [if_neg c29] at H
                            have c29b0 : ((a0.extract (((rd_T51 l1 x8_1).f1) : Int).toNat ((wrap64 (((rd_T51 l1 x8_1).f1) + (((rd_T51 l1 x8_1).f2).size : Int))) : Int).toNat).toList == ((rd_T51 l1 x8_1).f2).toList) = false := beq_eq_false_iff_ne.mpr c29
                            have c29b1 : ((a0.extract (((rd_T51 l1 x8_1).f1) : Int).toNat ((wrap64 (((rd_T51 l1 x8_1).f1) + (((rd_T51 l1 x8_1).f2).size : Int))) : Int).toNat).toList != ((rd_T51 l1 x8_1).f2).toList) = true := bne_iff_ne.mpr c29
                            simp only [Option.some.injEq, Prod.mk.injEq] at H
                            obtain ⟨rfl, rfl⟩ := H
                            have hcz33_0 : wc.cell? ⟨gb235, 0, none⟩ = some (.int .u8 ((rd_T51 l1 x8_1).f0)) := (blk_cell BK235.out 0).trans rfl
                            have hcz33_1 : wc.cell? ⟨gb235, 1, none⟩ = some (.int .i64 ((rd_T51 l1 x8_1).f1)) := (blk_cell BK235.out 1).trans rfl
                            have hcz33_2 : wc.cell? ⟨gb235, 2, none⟩ = some (.string ((rd_T51 l1 x8_1).f2)) := (blk_cell BK235.out 2).trans rfl
                            have hcz33_3 : wc.cell? ⟨gb235, 3, none⟩ = some (.slice A234_3 ((rd_T51 l1 x8_1).f3).length c234_3) := (blk_cell BK235.out 3).trans rfl
                            have hfz33_0 := blk_frozen BK235.out 0
                            have hfz33_1 := blk_frozen BK235.out 1
                            have hfz33_2 := blk_frozen BK235.out 2
                            have hfz33_3 := blk_frozen BK235.out 3
                            go_wp2
                            repeat (go_quiet (fail); try go_wp2)
                            go_ret2
                            exact ⟨by first | rfl | (simp [errW_none, errW_some] <;> rfl) | (simp [*, errW_none, errW_some] <;> rfl), by repeat (first | (with_reducible first | exact HB.out | apply below_alloc | apply pw_below_drewN | apply below_drew1 | refine below_set ?_ GE235.out) | exact HB.out)⟩
                        · rw [if_neg c28] at H
                          exact absurd H (by simp)
                      · rw [if_neg c27] at H
                        exact absurd H (by simp)
                    · rw [if_neg c26] at H
                      exact absurd H (by simp)
        · rw [if_neg c5] at H
          exact absurd H (by simp)
      · rw [if_neg c4] at H
        have c4b0 : decide (x8_1 < (l1.length : Int)) = false := decide_eq_false c4
        clear c4
        simp only [Option.some.injEq, Prod.mk.injEq] at H
        obtain ⟨rfl, rfl⟩ := H
        go_wp2
        repeat (go_quiet (fail); try go_wp2)
        go_ret2
        exact ⟨by first | rfl | (simp [errW_none, errW_some] <;> rfl) | (simp [*, errW_none, errW_some] <;> rfl), by repeat (first | (with_reducible first | exact HB.out | apply below_alloc | apply pw_below_drewN | apply below_drew1) | exact HB.out)⟩

end Go.Proofs.Ytgikmpgpccfiiaa.PSxp
