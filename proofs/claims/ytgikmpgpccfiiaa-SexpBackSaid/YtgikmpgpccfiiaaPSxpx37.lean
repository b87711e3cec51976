-- A text of the seat Ytgikmpgpccfiiaa, written by a program of this session (drive.py).
import Derived.Test.YtgikmpgpccfiiaaPSxpx0
namespace Go.Proofs.Ytgikmpgpccfiiaa.PSxp
open Go.RowKit Go.Proofs.YtgikmpgpccfiiaaW.PrintWords Go.Proofs.YtgikmpgpccfiiaaW.PrintLast Go.Proofs.YtgikmpgpccfiiaaW.PrintMore
attribute [local go_sem] max2_int min2_int max_two min_two max_three min_three max_four min_four   -- for this text's walks alone
set_option linter.unusedVariables false
set_option linter.unusedSimpArgs false

-- BY HAND: alidade/sexp.Same: function 38
mutual
def sexp_Same.f : Nat → Int → Int → ByteArray → List (S51) → Int → Int → ByteArray → List (S51) → Option Bool
  | 0, _, _, _, _, _, _, _, _ => none
  | k + 1, a, _, s, l, b, _, t, m => if a = b then (if s.toList = t.toList then (if l.length = m.length then sexp_Same.g k l m else some false) else some false) else some false
/-- Are two lists of nodes alike, one by one? -/
def sexp_Same.g : Nat → List (S51) → List (S51) → Option Bool
  | 0, _, _ => none
  | k + 1, x :: r, y :: s => (sexp_Same.f k x.f0 x.f1 x.f2 x.f3 y.f0 y.f1 y.f2 y.f3).bind fun b => if b = true then sexp_Same.g k r s else some false
  | _ + 1, [], [] => some true
  | _ + 1, [], _ :: _ => some true
  | _ + 1, _ :: _, [] => some true
end
theorem sexp_Same_rd {l : List S51} {j : Int} (h0 : 0 ≤ j) (h1 : j < (l.length : Int)) : l.drop j.toNat = rd_T51 l j :: l.drop (j.toNat + 1) := by
  have a1 : j.toNat < l.length := by omega
  rw [List.drop_eq_getElem_cons a1]
  unfold rd_T51
  rw [List.getD_eq_getElem?_getD, List.getElem?_eq_getElem a1]; rfl
set_option maxRecDepth 100000 in
set_option maxHeartbeats 8000000 in
theorem sexp_Same_eq (k : Nat)
    (ih : ∀ j, j < k → ∀ (a0_0 : Int) (a0_1 : Int) (a0_2 : ByteArray) (A0_3 : Option Addr) (c0_3 : Nat) (l0_3 : List (S51)) (a1_0 : Int) (a1_1 : Int) (a1_2 : ByteArray) (A1_3 : Option Addr) (c1_3 : Nat) (l1_3 : List (S51)) (r : Bool) (w : World) (hr0_3 : Kd.C k51 w A0_3 l0_3.length l0_3) (hc0_3 : l0_3.length ≤ c0_3) (hr1_3 : Kd.C k51 w A1_3 l1_3.length l1_3) (hc1_3 : l1_3.length ≤ c1_3) (h : sexp_Same.f j a0_0 a0_1 a0_2 l0_3 a1_0 a1_1 a1_2 l1_3 = some r),
      Calls Try.prog 38 #[.agg #[.int .u8 a0_0, .int .i64 a0_1, .string a0_2, .slice A0_3 l0_3.length c0_3], .agg #[.int .u8 a1_0, .int .i64 a1_1, .string a1_2, .slice A1_3 l1_3.length c1_3]] w fun e w' => e = .returned (.bool r) ∧ Below w.heap.size w w')
    (A0 : Option Addr) (c0 : Nat) (l0 : List S51) (A1 : Option Addr) (c1 : Nat) (l1 : List S51) (b : Bool) (w : World) (hr0 : Kd.C k51 w A0 l0.length l0) (hc0 : l0.length ≤ c0) (hr1 : Kd.C k51 w A1 l1.length l1) (hc1 : l1.length ≤ c1) (h : (if l0.length = l1.length then sexp_Same.g k l0 l1 else some false) = some b) :
    Calls Try.prog 62 #[.slice A0 l0.length c0, .slice A1 l1.length c1, .func (.func 38) #[] #[]] w fun e w' => e = .returned (.bool b) ∧ Below w.heap.size w w' := by
  have HB := Aside0.mk (Below.refl w.heap.size w)
  have HI := Aside0.mk ih
  clear ih
  go_enter Try.func62, Try.ntmps62
  by_cases hl : l0.length = l1.length
  · rw [if_pos hl] at h
    have hl1 : ((l0.length : Int) != (l1.length : Int)) = false := by rw [hl]; simp
    have HL := Aside0.mk hl
    have HG := Aside0.mk h
    clear hl h
    go_wp2
    go_loopw [17] (fun i wr => ∃ (j : Int) (kq : Nat), i = .int .i64 j ∧ Aside0 (0 ≤ j ∧ j ≤ (l0.length : Int)) ∧ Aside0 (kq ≤ k) ∧ Aside0 (sexp_Same.g kq (l0.drop j.toNat) (l1.drop j.toNat) = some b) ∧ Aside0 (Below w.heap.size w wr)) (fun i _ => l0.length - (intOf i).toNat)
    case atStart => exact ⟨0, k, rfl, ⟨by omega⟩, ⟨Nat.le_refl _⟩, HG, HB⟩
    case round =>
      obtain ⟨j, kq, rfl, hj, hk, hg, hb⟩ := hrel
      have hG := hg.out
      cases kq with
      | zero => exact absurd hG (by simp [sexp_Same.g])
      | succ kq =>
      by_cases c : j < (l0.length : Int)
      · have p0 : 0 ≤ j := hj.out.1
        have q1 : j < (l1.length : Int) := by rw [← HL.out]; exact c
        rw [sexp_Same_rd p0 c, sexp_Same_rd p0 q1, sexp_Same.g] at hG
        obtain ⟨bb, hf, hG⟩ := Option.bind_eq_some_iff.mp hG
        obtain ⟨ad0, A3, c3, e0, h00, h01, h02, h03, hl3, hg3⟩ := at_T51 (Kd.C_below hr0 hb.out) j p0 c
        obtain ⟨ad1, B3, d3, e1, h10, h11, h12, h13, hm3, hi3⟩ := at_T51 (Kd.C_below hr1 hb.out) j p0 q1
        subst e0
        subst e1
        have H3 := Aside0.mk (And.intro hl3 (And.intro hg3 hf))
        have c' : decide (j < (l0.length : Int)) = true := decide_eq_true c
        have HC := Aside0.mk c
        have HG2 := Aside0.mk hG
        have hw : wrap64 (j + 1) = j + 1 := by have := hr0.2.1; have := hj.out; have := HC.out; unfold wrap64; omega
        have HW := Aside0.mk hw
        have hal : Below wr.heap.size wr (wr.alloc (.cells #[.int .u8 (rd_T51 l0 j).f0, .int .i64 (rd_T51 l0 j).f1, .string (rd_T51 l0 j).f2, .slice A3 (rd_T51 l0 j).f3.length c3] 51)) := (Below.refl _ _).alloc (Nat.le_refl _) _
        replace c := eq_true c
        replace p0 := eq_true p0
        replace q1 := eq_true q1
        clear hw hG hf hg hl3 hg3 hm3 hi3
        go_upto_region 6 with (fail)
        obtain ⟨ad2, B4, d4, e2, g10, g11, g12, g13, hm4, hi4⟩ := at_T51 (Kd.C_below (Kd.C_below hr1 hb.out) hal) j (of_eq_true p0) (of_eq_true q1)
        cases e2
        have HF := Aside0.mk (fun W (hW : Below (wr.alloc (.cells #[.int .u8 (rd_T51 l0 j).f0, .int .i64 (rd_T51 l0 j).f1, .string (rd_T51 l0 j).f2, .slice A3 (rd_T51 l0 j).f3.length c3] 51)).heap.size (wr.alloc (.cells #[.int .u8 (rd_T51 l0 j).f0, .int .i64 (rd_T51 l0 j).f1, .string (rd_T51 l0 j).f2, .slice A3 (rd_T51 l0 j).f3.length c3] 51)) W) => HI.out kq (by have := hk.out; omega) (rd_T51 l0 j).f0 (rd_T51 l0 j).f1 (rd_T51 l0 j).f2 A3 c3 (rd_T51 l0 j).f3 (rd_T51 l1 j).f0 (rd_T51 l1 j).f1 (rd_T51 l1 j).f2 B4 d4 (rd_T51 l1 j).f3 bb W (Kd.C_below (Kd.C_below H3.out.2.1 hal) hW) H3.out.1 (Kd.C_below hi4 hW) hm4 H3.out.2.2)
        have hal2 := Aside0.mk (below_step hb.out hal)
        have hal3 := Aside0.mk hal
        clear h10 h11 h12 h13 h00 h01 h02 h03 hal hm4 hi4 H3
        go_upto_region 7 with (fail)
        clear g10 g11 g12 g13
        cases bb with
        | false =>
          go_wp2_with (go_at_call 38; refine (HF.out _ ((Below.refl _ _).alloc (Nat.le_refl _) _)).mono ?_; rintro e w' ⟨rfl, hb2⟩)
          go_ret
          exact ⟨by have := HG2.out; simp at this; rw [← this]; rfl, below_step (below_step hal2.out ((Below.refl _ _).alloc (Nat.le_refl _) _)) hb2⟩
        | true =>
          go_wp2_with (go_at_call 38; refine (HF.out _ ((Below.refl _ _).alloc (Nat.le_refl _) _)).mono ?_; rintro e w' ⟨rfl, hb2⟩)
          go_roundw
          case rel => exact ⟨_, kq, rfl, ⟨by rw [HW.out]; have := hj.out; have := HC.out; omega⟩, ⟨by have := hk.out; omega⟩, ⟨by rw [HW.out, show (j + 1).toNat = j.toNat + 1 by have := hj.out; omega]; exact HG2.out⟩, ⟨below_step (below_step hal2.out ((Below.refl _ _).alloc (Nat.le_refl _) _)) hb2⟩⟩
          case measure =>
            simp [intOf]
            rw [HW.out]
            have := hj.out
            have := HC.out
            omega
      · have c' : decide (j < (l0.length : Int)) = false := decide_eq_false c
        have he : l0.drop j.toNat = [] := List.drop_eq_nil_of_le (by omega)
        have he1 : l1.drop j.toNat = [] := List.drop_eq_nil_of_le (by have := HL.out; omega)
        rw [he, he1, sexp_Same.g] at hG
        have HG2 := Aside0.mk (Option.some.inj hG)
        replace c := eq_false c
        clear hG he hg he1
        go_wp2
        go_ret
        exact ⟨by rw [← HG2.out]; rfl, hb.out⟩
  · rw [if_neg hl] at h
    have HG2 := Aside0.mk (Option.some.inj h)
    have hl1 : ((l0.length : Int) != (l1.length : Int)) = true := by simp; omega
    clear hl h
    go_wp2
    go_ret
    exact ⟨by rw [← HG2.out]; rfl, HB.out⟩
set_option maxHeartbeats 4000000 in
theorem sexp_Same.calls (k : Nat) : ∀ (a0_0 : Int) (a0_1 : Int) (a0_2 : ByteArray) (A0_3 : Option Addr) (c0_3 : Nat) (l0_3 : List (S51)) (a1_0 : Int) (a1_1 : Int) (a1_2 : ByteArray) (A1_3 : Option Addr) (c1_3 : Nat) (l1_3 : List (S51)) (r : Bool) (w : World) (hr0_3 : Kd.C k51 w A0_3 l0_3.length l0_3) (hc0_3 : l0_3.length ≤ c0_3) (hr1_3 : Kd.C k51 w A1_3 l1_3.length l1_3) (hc1_3 : l1_3.length ≤ c1_3) (h : sexp_Same.f k a0_0 a0_1 a0_2 l0_3 a1_0 a1_1 a1_2 l1_3 = some r),
    Calls Try.prog 38 #[.agg #[.int .u8 a0_0, .int .i64 a0_1, .string a0_2, .slice A0_3 l0_3.length c0_3], .agg #[.int .u8 a1_0, .int .i64 a1_1, .string a1_2, .slice A1_3 l1_3.length c1_3]] w fun e w' => e = .returned (.bool r) ∧ Below w.heap.size w w' := by
  induction k using Nat.strongRecOn with
  | _ k ih =>
  intro a0_0 a0_1 a0_2 A0_3 c0_3 l0_3 a1_0 a1_1 a1_2 A1_3 c1_3 l1_3 r w hr0_3 hc0_3 hr1_3 hc1_3 h
  cases k with
  | zero => exact absurd h (by simp [sexp_Same.f])
  | succ k =>
  rw [sexp_Same.f] at h
  have HA := Aside0.mk (fun (o o' : Obj) => ((Below.refl w.heap.size w).alloc (Nat.le_refl _) o).alloc (by simp) o')
  by_cases c0 : a0_0 = a1_0
  · rw [if_pos c0] at h
    have c0b0 : (a0_0 == a1_0) = true := beq_iff_eq.mpr c0
    by_cases c1 : a0_2.toList = a1_2.toList
    · rw [if_pos c1] at h
      have HX := Aside0.mk (fun W (hW : Below w.heap.size w W) => sexp_Same_eq k (fun j hj => ih j (by omega)) A0_3 c0_3 l0_3 A1_3 c1_3 l1_3 r W (Kd.C_below hr0_3 hW) hc0_3 (Kd.C_below hr1_3 hW) hc1_3 h)
      have c1b0 : (a0_2.toList == a1_2.toList) = true := beq_iff_eq.mpr c1
      clear ih h c0 c1 hr0_3 hr1_3
      go_enter Try.func38, Try.ntmps38
      go_wp2_with (first | (go_at_call 62; refine (HX.out _ (HA.out _ _)).mono ?_; rintro e w' ⟨rfl, hb⟩))
      go_ret
      exact ⟨rfl, below_step (HA.out _ _) hb⟩
    · rw [if_neg c1] at h
      obtain rfl := Option.some.inj h
      have c1b0 : (a0_2.toList == a1_2.toList) = false := beq_eq_false_iff_ne.mpr c1
      clear ih h c0 c1 hr0_3 hr1_3
      go_enter Try.func38, Try.ntmps38
      go_wp2
      go_ret
      exact ⟨rfl, HA.out _ _⟩
  · rw [if_neg c0] at h
    obtain rfl := Option.some.inj h
    have c0b0 : (a0_0 == a1_0) = false := beq_eq_false_iff_ne.mpr c0
    clear ih h c0 hr0_3 hr1_3
    go_enter Try.func38, Try.ntmps38
    go_wp2
    go_ret
    exact ⟨rfl, HA.out _ _⟩

end Go.Proofs.Ytgikmpgpccfiiaa.PSxp
