/- Plain numbers: sums of naturals, whatever they are, are the same turned about and wherever they are begun; a sum less one of both is the other one. -/
import Derived.Test.YthdhpihfbggbbaaPNatx16
import Derived.Test.YthdhpihfbggbbaaNatPlain
namespace Go.Proofs.Ythdhpihfbggbbaa.Pure
open Go.RowKit Go.Proofs.Ythdhpihfbggbbaa.PNat Go.Proofs.YthdhpihfbggbbaaW.PrintWords Go.Proofs.YthdhpihfbggbbaaW.PrintLast Go.Proofs.YthdhpihfbggbbaaV

theorem sums_true {m : Nat} {l0 l1 l2 : List Int} (hm : m = 3000) (o0 : ok l0 = true) (o1 : ok l1 = true) (o2 : ok l2 = true) (h0 : l0.length ≤ 2000) (h1 : l1.length ≤ 2000) (h2 : l2.length ≤ 2000) (m0 : may l0 = true) (m1 : may l1 = true) (m2 : may l2 = true) :
    alidadelaw01_NatSums.j1 (m + 1) l0 l1 l2 false = some true := by
  obtain ⟨q, hq⟩ : ∃ q, q = 2000 := ⟨_, rfl⟩
  have p0 := val_lt_of (m := q) o0 (by omega)
  have p1 := val_lt_of (m := q) o1 (by omega)
  have p2 := val_lt_of (m := q) o2 (by omega)
  have p01 := add_lt_pow p0 p1
  have p12 := add_lt_pow p1 p2
  have p012 : val l0 + val l1 + val l2 < B ^ (q + 1 + 1) := add_lt_pow p01 (lt_pow_succ p2)
  have ms := may_toL p01 (by omega)
  have mt := may_toL p12 (by omega)
  have e1 : addS l0 l1 = toL (val l0 + val l1) := by rw [addS_of m0 m1, fit_small p01 (by omega)]
  have e2 : addS l1 l0 = toL (val l0 + val l1) := by rw [addS_of m1 m0, Nat.add_comm, fit_small p01 (by omega)]
  have e3 : addS (toL (val l0 + val l1)) l2 = toL (val l0 + val l1 + val l2) := by rw [addS_of ms m2, val_toL, fit_small p012 (by omega)]
  have e4 : addS l1 l2 = toL (val l1 + val l2) := by rw [addS_of m1 m2, fit_small p12 (by omega)]
  have e5 : addS l0 (toL (val l1 + val l2)) = toL (val l0 + val l1 + val l2) := by rw [addS_of m0 mt, val_toL, ← Nat.add_assoc, fit_small p012 (by omega)]
  have e6 : subS (toL (val l0 + val l1)) l1 = (l0, true) := by
    rw [subS_of ms m1 (by rw [val_toL]; omega), val_toL, Nat.add_sub_cancel, toL_of_may o0 m0]
  have e7 : cmpS (toL (val l0 + val l1)) l0 = cmpN (val l0 + val l1) (val l0) := by rw [cmpS_of ms m0, val_toL]
  have e8 : addS l0 [] = l0 := by rw [addS_of m0 (by decide), show val [] = 0 from rfl, Nat.add_zero, fit_of_may o0 m0]
  have q01 : (toL (val l0 + val l1)).length ≤ q + 1 := toL_length_le.2 p01
  have q012 : (toL (val l0 + val l1 + val l2)).length ≤ q + 1 + 1 := toL_length_le.2 p012
  have k1 := toL_ok (val l0 + val l1)
  have k2 := toL_ok (val l1 + val l2)
  simp only [alidadelaw01_NatSums.j1, Bool.false_eq_true, if_false]
  rw [add_f o0 o1, e1]; simp only [Option.bind_some]
  rw [sub_f k1 o1, e6]; simp only [Option.bind_some]
  rw [may_f (by omega), ms]; simp only [Option.bind_some, if_true]
  rw [add_f o1 o0, e2]; simp only [Option.bind_some]
  rw [same_f (by omega) (by omega)]; simp only [Option.bind_some, decide_true, if_true]
  rw [add_f k1 o2, e3, add_f o1 o2, e4]; simp only [Option.bind_some]
  rw [add_f o0 k2, e5]; simp only [Option.bind_some]
  rw [same_f (by omega) (by omega)]; simp only [Option.bind_some, decide_true, if_true]
  rw [same_f (by omega) (by omega)]; simp only [Option.bind_some, decide_true, if_true]
  rw [cmp_f k1 o0, e7]; simp only [Option.bind_some]
  rw [add_f o0 rfl, e8]; simp only [Option.bind_some]
  rw [same_f (by omega) (by omega)]; simp only [Option.bind_some, decide_true]
  by_cases hz : val l1 = 0
  · have hc : cmpN (val l0 + val l1) (val l0) = 0 := by rw [hz, Nat.add_zero]; unfold cmpN; rw [if_neg (by omega), if_pos rfl]
    have hl : l1.length = 0 := by rw [(val_zero_iff o1 m1).1 hz]; rfl
    rw [hc, if_neg (by decide), if_neg (by omega), if_pos (by decide)]
  · have hc : cmpN (val l0 + val l1) (val l0) = 1 := by unfold cmpN; rw [if_neg (by omega), if_neg (by omega)]
    have hl : 0 < l1.length := List.length_pos_iff.2 fun h => hz (by rw [h]; rfl)
    rw [hc, if_pos (by decide), if_pos (by omega), if_pos (by decide)]

theorem NatSums : alidadelaw01_NatSums.Pure := by
  intro l0 l1 l2 _ b0 w0 _ b1 w1 _ b2 w2
  have o0 := ok_of_wf w0
  have o1 := ok_of_wf w1
  have o2 := ok_of_wf w2
  obtain ⟨m, hm⟩ : ∃ m, m = 3000 := ⟨_, rfl⟩
  refine ⟨m + 1 + 1, ?_⟩
  have ht : alidadelaw01_NatSums.j0 (m + 1 + 1) l0 l1 l2 true = some true := by
    simp only [alidadelaw01_NatSums.j0, if_true]; rw [awake_f (by omega)]; rfl
  have ht1 : alidadelaw01_NatSums.j1 (m + 1) l0 l1 l2 true = some true := by simp only [alidadelaw01_NatSums.j1, if_true]
  unfold alidadelaw01_NatSums.f
  by_cases c0 : (l0.length : Int) > 2000
  · rw [if_pos c0]; exact ht
  by_cases c1 : (l1.length : Int) > 2000
  · rw [if_neg c0, if_pos c1]; exact ht
  by_cases c2 : (l2.length : Int) > 2000
  · rw [if_neg c0, if_neg c1, if_pos c2]; exact ht
  rw [if_neg c0, if_neg c1, if_neg c2, awake_f (by omega)]
  simp only [Option.bind_some, Bool.not_true, alidadelaw01_NatSums.j0, Bool.false_eq_true, if_false]
  rw [may_f (by omega), may_f (by omega), may_f (by omega)]
  simp only [Option.bind_some]
  cases m0 : may l0 with
  | false => exact ht1
  | true =>
    cases m1 : may l1 with
    | false => exact ht1
    | true =>
      cases m2 : may l2 with
      | false => exact ht1
      | true => exact sums_true hm o0 o1 o2 (by omega) (by omega) (by omega) m0 m1 m2

end Go.Proofs.Ythdhpihfbggbbaa.Pure
