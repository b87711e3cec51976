-- A text of the seat Ytgikmpgpccfiiaa, written by a program of this session (drive.py).
import Derived.Test.YtgikmpgpccfiiaaPLexx0
import Derived.RangeFuncBox
namespace Go.Proofs.Ytgikmpgpccfiiaa.PLex
open Go.RowKit Go.Proofs.YtgikmpgpccfiiaaW.PrintWords Go.Proofs.YtgikmpgpccfiiaaW.PrintLast Go.Proofs.YtgikmpgpccfiiaaW.PrintMore
attribute [local go_sem] max2_int min2_int max_two min_two max_three min_three max_four min_four   -- for this text's walks alone
set_option linter.unusedVariables false
set_option linter.unusedSimpArgs false

-- BY HAND: alidade/lex.Same: function 18
-- IMPORT Derived.RangeFuncBox
def sameW : List S32 → List S32 → Bool
  | a :: x, b :: y => (a.f0 == b.f0 && a.f3.toList == b.f3.toList) && sameW x y
  | [], [] => true
  | _, _ => false
def lex_Same.f (l0 : List S32) (l1 : List S32) : Option Bool := some (sameW l0 l1)
def aggW (x : S32) : Value := .agg #[.int .u8 x.f0, .int .i64 x.f1, .int .i64 x.f2, .string x.f3]
set_option maxHeartbeats 2000000 in
theorem lex_Same_1.calls (x y : S32) (w : World) :
    Calls Try.prog 53 #[aggW x, aggW y] w fun e w' => e = .returned (.bool (x.f0 == y.f0 && x.f3.toList == y.f3.toList)) ∧ Below w.heap.size w w' := by
  unfold aggW
  have HB := Aside0.mk (Below.refl w.heap.size w)
  go_enter Try.func53, Try.ntmps53
  go_wp2
  all_goals
    rename_i hk
    go_ret
    refine ⟨?_, (HB.out.alloc (Nat.le_refl _) _).alloc (by simp) _⟩
  · rw [hk, beq_self_eq_true, Bool.true_and]
    rfl
  · rw [beq_eq_false_iff_ne.mpr hk]; rfl
theorem sameW_len : ∀ {x y : List S32}, x.length ≠ y.length → sameW x y = false
  | [], [], h => absurd rfl h
  | [], b :: y, _ => rfl
  | a :: x, [], _ => rfl
  | a :: x, b :: y, h => by
    rw [sameW, sameW_len (x := x) (y := y) (fun e => h (by rw [List.length_cons, List.length_cons, e])), Bool.and_false]
theorem sameW_step {x y : List S32} {j : Int} (h0 : 0 ≤ j) (h1 : j < (x.length : Int)) (hl : x.length = y.length) :
    sameW (x.drop j.toNat) (y.drop j.toNat) = (((rd_T32 x j).f0 == (rd_T32 y j).f0 && (rd_T32 x j).f3.toList == (rd_T32 y j).f3.toList) && sameW (x.drop (j.toNat + 1)) (y.drop (j.toNat + 1))) := by
  have a1 : j.toNat < x.length := by omega
  have a2 : j.toNat < y.length := by omega
  rw [List.drop_eq_getElem_cons a1, List.drop_eq_getElem_cons a2, sameW]
  unfold rd_T32
  rw [List.getD_eq_getElem?_getD, List.getElem?_eq_getElem a1, List.getD_eq_getElem?_getD, List.getElem?_eq_getElem a2]
  rfl
set_option maxHeartbeats 4000000 in
theorem lex_Same_eq (A0 : Option Addr) (c0 : Nat) (l0 : List S32) (A1 : Option Addr) (c1 : Nat) (l1 : List S32) (w : World) (hr0 : Kd.C k32 w A0 l0.length l0) (hc0 : l0.length ≤ c0) (hr1 : Kd.C k32 w A1 l1.length l1) (hc1 : l1.length ≤ c1) :
    Calls Try.prog 52 #[.slice A0 l0.length c0, .slice A1 l1.length c1, .func (.func 53) #[] #[]] w fun e w' => e = .returned (.bool (sameW l0 l1)) ∧ Below w.heap.size w w' := by
  have HB := Aside0.mk (Below.refl w.heap.size w)
  go_enter Try.func52, Try.ntmps52
  by_cases hl : l0.length = l1.length
  · have hl1 : ((l0.length : Int) != (l1.length : Int)) = false := by rw [hl]; simp
    have HL := Aside0.mk hl
    clear hl
    go_wp2
    go_loopw [17] (fun i wr => ∃ j : Int, i = .int .i64 j ∧ Aside0 (0 ≤ j ∧ j ≤ (l0.length : Int)) ∧ Aside0 (sameW l0 l1 = sameW (l0.drop j.toNat) (l1.drop j.toNat)) ∧ Aside0 (Below w.heap.size w wr)) (fun i _ => l0.length - (intOf i).toNat)
    case atStart => exact ⟨0, rfl, ⟨by omega⟩, ⟨rfl⟩, HB⟩
    case round =>
      obtain ⟨j, rfl, hj, hs, hb⟩ := hrel
      by_cases c : j < (l0.length : Int)
      · have p0 : 0 ≤ j := hj.out.1
        have q1 : j < (l1.length : Int) := by rw [← HL.out]; exact c
        obtain ⟨ad0, e0, h00, h01, h02, h03⟩ := at_T32 (Kd.C_below hr0 hb.out) j p0 c
        obtain ⟨ad1, e1, h10, h11, h12, h13⟩ := at_T32 (Kd.C_below hr1 hb.out) j p0 q1
        subst e0
        subst e1
        have c' : decide (j < (l0.length : Int)) = true := decide_eq_true c
        have HC := Aside0.mk c
        replace c := eq_true c
        replace p0 := eq_true p0
        replace q1 := eq_true q1
        go_upto_region 6 with (fail)
        have hal : Below wr.heap.size wr (wr.alloc (.cells #[.int .u8 (rd_T32 l0 j).f0, .int .i64 (rd_T32 l0 j).f1, .int .i64 (rd_T32 l0 j).f2, .string (rd_T32 l0 j).f3] 32)) := (Below.refl _ _).alloc (Nat.le_refl _) _
        obtain ⟨ad2, e2, g10, g11, g12, g13⟩ := at_T32 (Kd.C_below (Kd.C_below hr1 hb.out) hal) j (of_eq_true p0) (of_eq_true q1)
        cases e2
        clear h10 h11 h12 h13 h00 h01 h02 h03
        go_upto_region 7 with (fail)
        obtain ⟨b, hbv⟩ : ∃ b, b = ((rd_T32 l0 j).f0 == (rd_T32 l1 j).f0 && (rd_T32 l0 j).f3.toList == (rd_T32 l1 j).f3.toList) := ⟨_, rfl⟩
        have K := fun W => lex_Same_1.calls (rd_T32 l0 j) (rd_T32 l1 j) W
        unfold aggW at K
        rw [← hbv] at K
        have KK := Aside0.mk K
        have hst := sameW_step hj.out.1 HC.out HL.out
        rw [← hbv, ← hs.out] at hst
        have HST := Aside0.mk hst
        have hw : wrap64 (j + 1) = j + 1 := by have := hr0.2.1; have := hj.out; have := HC.out; unfold wrap64; omega
        have HW := Aside0.mk hw
        clear hw
        have hal2 := Aside0.mk (below_step hb.out hal)
        clear hbv K hst hal g10 g11 g12 g13 hs
        cases b with
        | false =>
          go_wp2_with (go_at_call 53; refine (KK.out _).mono ?_; rintro e w' ⟨rfl, hb2⟩)
          go_ret
          exact ⟨by rw [HST.out]; rfl, below_step (below_step hal2.out ((Below.refl _ _).alloc (Nat.le_refl _) _)) hb2⟩
        | true =>
          go_wp2_with (go_at_call 53; refine (KK.out _).mono ?_; rintro e w' ⟨rfl, hb2⟩)
          go_roundw
          case rel => exact ⟨_, rfl, ⟨by rw [HW.out]; have := hj.out; have := HC.out; omega⟩, ⟨by rw [HST.out, Bool.true_and, HW.out, show (j + 1).toNat = j.toNat + 1 by have := hj.out; omega]⟩, ⟨below_step (below_step hal2.out ((Below.refl _ _).alloc (Nat.le_refl _) _)) hb2⟩⟩
          case measure =>
            simp [intOf]
            rw [HW.out]
            have := hj.out
            have := HC.out
            omega
      · have c' : decide (j < (l0.length : Int)) = false := decide_eq_false c
        have hs' := hs.out
        have he : j.toNat = l0.length := by have := hj.out; omega
        rw [he, List.drop_length, show l1.drop l0.length = [] from List.drop_eq_nil_of_le (by rw [HL.out]; exact Nat.le_refl _)] at hs'
        have HS := Aside0.mk hs'
        clear hs' he hs
        replace c := eq_false c
        go_wp2
        go_ret
        exact ⟨by rw [HS.out]; rfl, hb.out⟩
  · have hl1 : ((l0.length : Int) != (l1.length : Int)) = true := by simp; omega
    have HL := Aside0.mk hl
    clear hl
    go_wp2
    go_ret
    exact ⟨by rw [sameW_len HL.out]; rfl, HB.out⟩
theorem lex_Same.calls (A0 : Option Addr) (c0 : Nat) (l0 : List S32) (A1 : Option Addr) (c1 : Nat) (l1 : List S32) (r : Bool) (w : World) (hr0 : Kd.C k32 w A0 l0.length l0) (hc0 : l0.length ≤ c0) (hr1 : Kd.C k32 w A1 l1.length l1) (hc1 : l1.length ≤ c1) (h : lex_Same.f l0 l1 = some r) :
    Calls Try.prog 18 #[.slice A0 l0.length c0, .slice A1 l1.length c1] w fun e w' => e = .returned (.bool r) ∧ Below w.heap.size w w' := by
  obtain rfl := Option.some.inj h
  have K := Aside0.mk (fun W (hW : Below w.heap.size w W) => lex_Same_eq A0 c0 l0 A1 c1 l1 W (Kd.C_below hr0 hW) hc0 (Kd.C_below hr1 hW) hc1)
  have HB := Aside0.mk (Below.refl w.heap.size w)
  clear hr0 hc0 hr1 hc1 h
  go_enter Try.func18, Try.ntmps18
  go_wp2_with (go_at_call 52; refine (K.out _ HB.out).mono ?_; rintro e w' ⟨rfl, hb⟩)
  go_ret
  exact ⟨rfl, hb⟩

end Go.Proofs.Ytgikmpgpccfiiaa.PLex
