-- A text of the seat Ytnngdlehakcdlaa, written by a program of this session (drive.py).
import Derived.Test.YtnngdlehakcdlaaPMulx0
import Derived.Test.YtnngdlehakcdlaaVal
import Derived.RangeFuncBox
import Derived.RangeFuncNested
import Derived.RangeFuncLeaves
import Derived.RangeFuncCalls
import Derived.Shelf.Abstract
import Derived.OwnWalkIn
import Derived.TacticsInMore
import Derived.LoopNIn
import Derived.LoopIn
namespace Go.Proofs.Ytnngdlehakcdlaa.PMul
open Go.RowKit Go.Proofs.YtnngdlehakcdlaaW.PrintWords Go.Proofs.YtnngdlehakcdlaaW.PrintLast Go.Proofs.YtnngdlehakcdlaaW.PrintMore
attribute [local go_sem] max2_int min2_int max_two min_two max_three min_three max_four min_four   -- for this text's walks alone
set_option linter.unusedVariables false
set_option linter.unusedSimpArgs false

-- BY HAND: alidade/nat.pairs: function 40
-- IMPORT Derived.Test.YtnngdlehakcdlaaVal
-- IMPORT Derived.RangeFuncBox
-- IMPORT Derived.RangeFuncNested
-- IMPORT Derived.RangeFuncLeaves
-- IMPORT Derived.RangeFuncCalls
-- IMPORT Derived.Shelf.Abstract
-- IMPORT Derived.OwnWalkIn
-- IMPORT Derived.TacticsInMore
-- IMPORT Derived.LoopNIn
-- IMPORT Derived.LoopIn
section
open Go.Shelf
attribute [local go_sem] Oper.semAt_some
def upto_ {α : Type} (f : Nat → α) (k : Nat) : List α := (List.range k).map f
theorem upto_succ {α : Type} (f : Nat → α) (k : Nat) : upto_ f (k + 1) = upto_ f k ++ [f k] := by simp [upto_, List.range_succ]
theorem upto_length {α : Type} (f : Nat → α) (k : Nat) : (upto_ f k).length = k := by simp [upto_]
def pairL (a b : List Int) (i : Nat) : Int × Int := (a.getD i 0, b.getD i 0)
/-- What a round keeps: what lay below n₀, and two variables. -/
structure KpB (n₀ B0 B1 : Nat) (W W' : World) : Prop where
  below : Below n₀ W W'
  box0 : ∀ v, Boxed W B0 22 v → Boxed W' B0 22 v
  box1 : ∀ v, Boxed W B1 22 v → Boxed W' B1 22 v
theorem KpB.trans_ {n₀ B0 B1 : Nat} {A B C : World} (h : KpB n₀ B0 B1 A B) (k : KpB n₀ B0 B1 B C) : KpB n₀ B0 B1 A C := ⟨h.below.trans k.below, fun v hv => k.box0 v (h.box0 v hv), fun v hv => k.box1 v (h.box1 v hv)⟩
theorem boxed_put {W : World} {B l : Nat} {t : TypeId} {v : Value} {o : Obj} (o' : Obj) (h : Boxed W B t v) (hl : W.heap[l]? = some o) (ho : o.isCells = false) : Boxed (W.putObj l o') B t v := by
  refine h.kept (grownBy_putObj' W l o') (fun e => ?_)
  injection e with e
  subst e
  rw [show W.heap[B]? = _ from h] at hl
  cases hl
  cases ho
theorem KpB.put_ {n₀ B0 B1 : Nat} {w : World} (hn : n₀ ≤ w.heap.size) (W : World) (l : Nat) (o o' : Obj) (hl : w.heap.size ≤ l) (h : W.heap[l]? = some o) (hc : o.isCells = false) (hw : o.isWalk = false) : KpB n₀ B0 B1 W (W.putObj l o') :=
  ⟨belowK_b hn W l o o' hl h hc hw, fun _ hv => boxed_put o' hv h hc, fun _ hv => boxed_put o' hv h hc⟩
set_option maxRecDepth 100000 in
set_option maxHeartbeats 4000000 in
theorem nat_pairs1_in (F : Fence) (n : Nat) (hf : F.fn 59) (hro : F.round = none) (hn : 1 ≤ n) (l B0 B1 n₀ : Nat) (A0 : Option Addr) (c0 : Nat) (l0 : List Int) (A1 : Option Addr) (c1 : Nat) (l1 : List Int) (M : Nat) (hM : M = max l0.length l1.length) (J Jx : List (Int × Int) → World → Prop)
    (hY : ∀ pre x W, J pre W → pre.length < M → YieldAt F (n - 1) Try.prog l #[.int .u32 x.1, .int .u32 x.2] W fun e W' =>
      (e = .returned (.bool true) ∧ J (pre ++ [x]) W' ∧ KpB n₀ B0 B1 W W') ∨ (e = .returned (.bool false) ∧ Jx (pre ++ [x]) W'))
    (W : World) (hb0 : Boxed W B0 22 (.slice A0 l0.length c0)) (hb1 : Boxed W B1 22 (.slice A1 l1.length c1))
    (hr0 : ∀ W', Below n₀ W W' → Kd.C (Kd.int .u32) W' A0 l0.length l0) (hr1 : ∀ W', Below n₀ W W' → Kd.C (Kd.int .u32) W' A1 l1.length l1) (h0 : J [] W) :
    CallsIn F n Try.prog 59 #[.func (.yield l) #[] #[], .pointer (some ⟨B0, 0, none⟩), .pointer (some ⟨B1, 0, none⟩)] W fun e W' => (∃ v, e = .returned v) ∧
      ((∃ ys, ys = upto_ (pairL l0 l1) M ∧ J ys W') ∨ (∃ pre : List (Int × Int), (∃ k, k ≤ M ∧ pre = upto_ (pairL l0 l1) k) ∧ Jx pre W')) := by
  have hm0 := (hr0 W (Below.refl _ _)).2.1
  have hm1 := (hr1 W (Below.refl _ _)).2.1
  have hMi : (if (l0.length : Int) < (l1.length : Int) then (l1.length : Int) else (l0.length : Int)) = (M : Int) := by
    rw [hM]
    by_cases h : (l0.length : Int) < (l1.length : Int)
    · rw [if_pos h]; omega
    · rw [if_neg h]; omega
  have hMn : (if l0.length < l1.length then (l1.length : Int) else (l0.length : Int)) = (M : Int) := by
    rw [← hMi]; simp only [Int.ofNat_lt]
  have hMx : M ≤ 9223372036854775807 := by omega
  have HM := Aside0.mk hM
  have K0 := Aside0.mk hr0
  have K1 := Aside0.mk hr1
  have K2 := Aside0.mk hY
  clear hr0 hr1 hM hY
  have hc0 := hb0.cell
  have hc1 := hb1.cell
  have X0 := Aside0.mk hb0
  have X1 := Aside0.mk hb1
  clear hb0 hb1
  refine callsIn_of_wp Try.func59 rfl hf ?_ hro
  simp only [Try.ntmps59, List.size_toArray, List.length_cons, List.length_nil, Nat.reduceAdd, Nat.reduceSub, Array.replicate_succ, Array.replicate_zero, List.push_toArray, List.append_toArray, List.nil_append, List.cons_append]
  gi_wp2
  clear hMi hMn hc0 hc1
  gi_loopw [12] (fun i wr => ∃ k : Nat, k ≤ M ∧ i = .int .i64 k ∧ J (upto_ (pairL l0 l1) k) wr ∧ Aside0 (KpB n₀ B0 B1 W wr))
    (fun i _ => M - (intOf i).toNat)
  case atStart => exact ⟨0, Nat.zero_le _, rfl, h0, ⟨Below.refl _ _, fun _ h => h, fun _ h => h⟩⟩
  case round =>
    obtain ⟨k, hk, rfl, hJs, hnx⟩ := hrel
    have hb0 := (hnx.out.box0 _ X0.out).cell
    have hb1 := (hnx.out.box1 _ X1.out).cell
    by_cases hlt : k < M
    · have hC0 := K0.out _ hnx.out.below
      have hC1 := K1.out _ hnx.out.below
      have q0 : l0.length ≤ k → l0.getD k 0 = 0 := fun h => by rw [List.getD_eq_getElem?_getD, List.getElem?_eq_none h]; rfl
      have q1 : l1.length ≤ k → l1.getD k 0 = 0 := fun h => by rw [List.getD_eq_getElem?_getD, List.getElem?_eq_none h]; rfl
      have p0 : k < l0.length → ∃ ad, A0 = some ad ∧ wr.cell? (ad.add k) = some (.int .u32 (l0.getD k 0)) := fun h => by
        obtain ⟨a0, e0, g0⟩ := Kd.at_int hC0 (k : Int) (by omega) (by omega)
        exact ⟨a0, e0, g0⟩
      have p1 : k < l1.length → ∃ ad, A1 = some ad ∧ wr.cell? (ad.add k) = some (.int .u32 (l1.getD k 0)) := fun h => by
        obtain ⟨a0, e0, g0⟩ := Kd.at_int hC1 (k : Int) (by omega) (by omega)
        exact ⟨a0, e0, g0⟩
      have hx : pairL l0 l1 k = (l0.getD k 0, l1.getD k 0) := rfl
      generalize l0.getD k 0 = x0 at q0 p0 hx
      generalize l1.getD k 0 = x1 at q1 p1 hx
      obtain ⟨fn, tmps, assign, body, hy, hR⟩ := K2.out _ (x0, x1) wr hJs (by rw [upto_length]; exact hlt)
      dsimp only at hy
      have HR := Aside0.mk hR
      have HX := Aside0.mk hx
      clear hR hC0 hC1 hx
      by_cases ha : k < l0.length <;> by_cases hb : k < l1.length
      · obtain ⟨a0, rfl, g0⟩ := p0 ha
        obtain ⟨a1, rfl, g1⟩ := p1 hb
        clear q0 q1 p0 p1
        gi_wp2
        refine HR.out.mono ?_
        rintro e W3 (⟨rfl, hJ3, hk3⟩ | ⟨rfl, hJx3⟩)
        · gi_wp2
          go_roundw
          case rel => exact ⟨k + 1, by omega, by simp, by rw [upto_succ, HX.out]; exact hJ3, ⟨hnx.out.trans_ hk3⟩⟩
          case measure => simp [intOf]; omega
        · gi_wp2
          refine bodyPost_ret (results_none rfl _ _ _) rfl ?_
          exact ⟨⟨_, rfl⟩, .inr ⟨_, ⟨k + 1, by omega, by rw [upto_succ, HX.out]⟩, hJx3⟩⟩
      · obtain ⟨a0, rfl, g0⟩ := p0 ha
        obtain rfl := q1 (by omega)
        clear q0 q1 p0 p1
        gi_wp2
        refine HR.out.mono ?_
        rintro e W3 (⟨rfl, hJ3, hk3⟩ | ⟨rfl, hJx3⟩)
        · gi_wp2
          go_roundw
          case rel => exact ⟨k + 1, by omega, by simp, by rw [upto_succ, HX.out]; exact hJ3, ⟨hnx.out.trans_ hk3⟩⟩
          case measure => simp [intOf]; omega
        · gi_wp2
          refine bodyPost_ret (results_none rfl _ _ _) rfl ?_
          exact ⟨⟨_, rfl⟩, .inr ⟨_, ⟨k + 1, by omega, by rw [upto_succ, HX.out]⟩, hJx3⟩⟩
      · obtain ⟨a1, rfl, g1⟩ := p1 hb
        obtain rfl := q0 (by omega)
        clear q0 q1 p0 p1
        gi_wp2
        refine HR.out.mono ?_
        rintro e W3 (⟨rfl, hJ3, hk3⟩ | ⟨rfl, hJx3⟩)
        · gi_wp2
          go_roundw
          case rel => exact ⟨k + 1, by omega, by simp, by rw [upto_succ, HX.out]; exact hJ3, ⟨hnx.out.trans_ hk3⟩⟩
          case measure => simp [intOf]; omega
        · gi_wp2
          refine bodyPost_ret (results_none rfl _ _ _) rfl ?_
          exact ⟨⟨_, rfl⟩, .inr ⟨_, ⟨k + 1, by omega, by rw [upto_succ, HX.out]⟩, hJx3⟩⟩
      · have := HM.out
        omega
    · obtain rfl : k = M := by omega
      gi_wp2
      go_end0
      exact ⟨⟨_, rfl⟩, .inl ⟨_, rfl, hJs⟩⟩
set_option maxHeartbeats 1000000 in
theorem nat_pairs_in (F : Fence) (n : Nat) (hf : F.fn 40) (hro : F.round = none) (v0 v1 : Value) (h0 : v0.oneCell' = true) (h1 : v1.oneCell' = true) (w : World) :
    CallsIn F n Try.prog 40 #[v0, v1] w fun e w' => e = .returned (.func (.func 59) #[] #[.pointer (some ⟨w.heap.size, 0, none⟩), .pointer (some ⟨w.heap.size + 1, 0, none⟩)]) ∧ w' = (w.alloc (.cells #[v0] 22)).alloc (.cells #[v1] 22) := by
  refine callsIn_of_wp Try.func40 rfl hf ?_ hro
  simp only [Try.ntmps40, List.size_toArray, List.length_cons, List.length_nil, Nat.reduceAdd, Nat.reduceSub, Array.replicate_succ, Array.replicate_zero, List.push_toArray, List.append_toArray, List.nil_append, List.cons_append]
  gi_wp2
  go_ret
  exact ⟨rfl, rfl⟩
end

end Go.Proofs.Ytnngdlehakcdlaa.PMul
