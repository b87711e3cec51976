/- Plain numbers: how two naturals stand is a row; it is 0 just of the same limbs; a difference is told just if the first one is not less, and added again it is the first one. -/
import Derived.Test.YthdhpihfbggbbaaPNatx17
import Derived.Test.YthdhpihfbggbbaaNatPlain
namespace Go.Proofs.Ythdhpihfbggbbaa.Pure
open Go.RowKit Go.Proofs.Ythdhpihfbggbbaa.PNat Go.Proofs.YthdhpihfbggbbaaW.PrintWords Go.Proofs.YthdhpihfbggbbaaW.PrintLast Go.Proofs.YthdhpihfbggbbaaV

theorem wneg1 : wrap64 (- -1) = 1 := by unfold wrap64; decide
theorem wneg0 : wrap64 (-0) = 0 := by unfold wrap64; decide
theorem wpos1 : wrap64 (-1) = -1 := by unfold wrap64; decide
theorem cmpN_lt {a b : Nat} (h : a < b) : cmpN a b = -1 := by unfold cmpN; rw [if_pos h]
theorem cmpN_self (a : Nat) : cmpN a a = 0 := by unfold cmpN; rw [if_neg (by omega), if_pos rfl]
theorem cmpN_gt {a b : Nat} (h : b < a) : cmpN a b = 1 := by unfold cmpN; rw [if_neg (by omega), if_neg (by omega)]

theorem row_true {m : Nat} {l0 l1 l2 : List Int} (hm : m = 3000) (o0 : ok l0 = true) (o1 : ok l1 = true) (o2 : ok l2 = true) (h0 : l0.length ≤ 2000) (h1 : l1.length ≤ 2000) (h2 : l2.length ≤ 2000) (m0 : may l0 = true) (m1 : may l1 = true) :
    alidadelaw01_NatRow.j1 (m + 1) l0 l1 l2 (cmpS l0 l1) (cmpS l1 l2) (cmpS l0 l2) (subS l0 l1).1 (subS l0 l1).2 false = some true := by
  obtain ⟨q, hq⟩ : ∃ q, q = 2000 := ⟨_, rfl⟩
  have p0 := val_lt_of (m := q) o0 (by omega)
  have p1 := val_lt_of (m := q) o1 (by omega)
  have heq : l0 = l1 ↔ val l0 = val l1 := ⟨fun h => by rw [h], may_inj o0 o1 m0 m1⟩
  have e2 : may l2 = true → cmpS l1 l2 = cmpN (val l1) (val l2) := cmpS_of m1
  have e3 : may l2 = true → cmpS l0 l2 = cmpN (val l0) (val l2) := cmpS_of m0
  rw [cmpS_of m0 m1]
  rcases Nat.lt_trichotomy (val l0) (val l1) with h | h | h
  · -- less
    have es : subS l0 l1 = ([], false) := by unfold subS; rw [m0, m1, if_neg (by simp; omega)]
    rw [cmpN_lt h, es]
    simp only [alidadelaw01_NatRow.j1, Bool.false_eq_true, if_false]
    rw [if_neg (by decide), if_neg (by decide), cmp_f o1 o0, cmpS_of m1 m0, cmpN_gt h]
    simp only [Option.bind_some]
    rw [wneg1, if_pos rfl, same_f (by omega) (by omega)]
    simp only [Option.bind_some]
    rw [if_neg (by decide), if_neg (by rw [decide_eq_true_eq, heq]; omega), if_neg (by decide), may_f (by omega)]
    simp only [Option.bind_some]
    cases m2 : may l2 with
    | false => rfl
    | true =>
      rw [if_pos rfl, if_neg (by decide), e2 m2, e3 m2]
      rcases Nat.lt_trichotomy (val l1) (val l2) with h3 | h3 | h3
      · rw [cmpN_lt h3, cmpN_lt (show val l0 < val l2 by omega)]; rfl
      · rw [h3, cmpN_self, cmpN_lt (show val l0 < val l2 by omega)]; rfl
      · rw [cmpN_gt h3]; rfl
  · -- the same
    obtain rfl := heq.2 h
    have es : subS l0 l0 = ([], true) := by rw [subS_of m0 m0 (Nat.le_refl _), Nat.sub_self, toL_zero]
    have ea : addS [] l0 = l0 := by rw [addS_of (by decide) m0, show val [] = 0 from rfl, Nat.zero_add, fit_of_may o0 m0]
    rw [cmpN_self, es]
    simp only [alidadelaw01_NatRow.j1, Bool.false_eq_true, if_false]
    rw [if_neg (by decide), if_neg (by decide), cmp_f o0 o0, cmpS_of m0 m0, cmpN_self]
    simp only [Option.bind_some]
    rw [wneg0, if_pos rfl, same_f (by omega) (by omega)]
    simp only [Option.bind_some, decide_true, if_true]
    rw [if_pos (by decide), add_f rfl o0, ea]
    simp only [Option.bind_some]
    rw [same_f (by omega) (by omega)]
    simp only [Option.bind_some, decide_true, if_true]
    rw [may_f (by omega)]
    simp only [Option.bind_some]
    cases m2 : may l2 with
    | false => rfl
    | true =>
      rw [if_pos rfl, if_neg (by decide), e2 m2]
      by_cases hc : cmpN (val l0) (val l2) > 0
      · rw [if_pos hc]
      · rw [if_neg hc, if_pos (by omega)]
  · -- greater
    have es : subS l0 l1 = (toL (val l0 - val l1), true) := subS_of m0 m1 (by omega)
    have pd : val l0 - val l1 < B ^ q := by omega
    have ea : addS (toL (val l0 - val l1)) l1 = l0 := by
      rw [addS_of (may_toL pd (by omega)) m1, val_toL, Nat.sub_add_cancel (by omega), fit_of_may o0 m0]
    rw [cmpN_gt h, es]
    simp only [alidadelaw01_NatRow.j1, Bool.false_eq_true, if_false]
    rw [if_neg (by decide), if_neg (by decide), cmp_f o1 o0, cmpS_of m1 m0, cmpN_lt h]
    simp only [Option.bind_some]
    rw [wpos1, if_pos rfl, same_f (by omega) (by omega)]
    simp only [Option.bind_some]
    rw [if_neg (by decide), if_neg (by rw [decide_eq_true_eq, heq]; omega), if_pos trivial, if_pos (by decide), add_f (toL_ok _) o1, ea]
    simp only [Option.bind_some]
    rw [same_f (by omega) (by omega)]
    simp only [Option.bind_some, decide_true, if_true]
    rw [may_f (by omega)]
    simp only [Option.bind_some]
    cases m2 : may l2 with
    | false => rfl
    | true => rfl

theorem NatRow : alidadelaw01_NatRow.Pure := by
  intro l0 l1 l2 _ b0 w0 _ b1 w1 _ b2 w2
  have o0 := ok_of_wf w0
  have o1 := ok_of_wf w1
  have o2 := ok_of_wf w2
  obtain ⟨m, hm⟩ : ∃ m, m = 3000 := ⟨_, rfl⟩
  refine ⟨m + 1 + 1, ?_⟩
  have ht : alidadelaw01_NatRow.j0 (m + 1 + 1) l0 l1 l2 true = some true := by
    simp only [alidadelaw01_NatRow.j0, if_true]; rw [awake_f (by omega)]; rfl
  unfold alidadelaw01_NatRow.f
  by_cases c0 : (l0.length : Int) > 2000
  · rw [if_pos c0]; exact ht
  by_cases c1 : (l1.length : Int) > 2000
  · rw [if_neg c0, if_pos c1]; exact ht
  by_cases c2 : (l2.length : Int) > 2000
  · rw [if_neg c0, if_neg c1, if_pos c2]; exact ht
  rw [if_neg c0, if_neg c1, if_neg c2, awake_f (by omega)]
  simp only [Option.bind_some, Bool.not_true, alidadelaw01_NatRow.j0, Bool.false_eq_true, if_false]
  rw [cmp_f o0 o1, cmp_f o1 o2, cmp_f o0 o2, sub_f o0 o1, may_f (by omega), may_f (by omega)]
  simp only [Option.bind_some]
  have hf : (may l0 && may l1) = false → alidadelaw01_NatRow.j1 (m + 1) l0 l1 l2 (cmpS l0 l1) (cmpS l1 l2) (cmpS l0 l2) (subS l0 l1).1 (subS l0 l1).2 true = some true := fun h => by
    have e1 : cmpS l0 l1 = 0 := by unfold cmpS; rw [h]; rfl
    have e2 : subS l0 l1 = ([], false) := by unfold subS; rw [h]; rfl
    simp only [alidadelaw01_NatRow.j1, if_true]
    rw [e1, e2]; rfl
  cases m0 : may l0 with
  | false => exact hf (by rw [m0]; rfl)
  | true =>
    cases m1 : may l1 with
    | false => exact hf (by rw [m0, m1]; rfl)
    | true => exact row_true hm o0 o1 o2 (by omega) (by omega) (by omega) m0 m1

end Go.Proofs.Ythdhpihfbggbbaa.Pure
