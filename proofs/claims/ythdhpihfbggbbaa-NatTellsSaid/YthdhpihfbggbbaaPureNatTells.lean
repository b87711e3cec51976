/- Plain numbers: whether a natural may be, that of a number, the number of one, how two stand, their sum and their difference, are the document's. -/
import Derived.Test.YthdhpihfbggbbaaPNatx30
import Derived.Test.YthdhpihfbggbbaaNatRefC
namespace Go.Proofs.Ythdhpihfbggbbaa.Pure
open Go.RowKit Go.Proofs.Ythdhpihfbggbbaa.PNat Go.Proofs.YthdhpihfbggbbaaW.PrintWords Go.Proofs.YthdhpihfbggbbaaW.PrintLast Go.Proofs.YthdhpihfbggbbaaV

theorem addS_len {a b : List Int} : (addS a b).length ≤ 65536 := by
  unfold addS; split
  · exact may_length (may_fit _)
  · simp
theorem subS_len {a b : List Int} (oa : ok a = true) : (subS a b).1.length ≤ 65536 := by
  unfold subS; split
  · rename_i h
    simp only [Bool.and_eq_true] at h
    exact Nat.le_trans (toL_length_le.2 (Nat.lt_of_le_of_lt (Nat.sub_le _ _) (val_lt oa))) (may_length h.1.1)
  · simp
theorem tells_loop {l0 l1 : List Int} {u : Int} (o0 : ok l0 = true) (o1 : ok l1 = true) (hu0 : 0 ≤ u) (hu1 : u < 18446744073709551616) (d : Nat) : ∀ (i k : Nat), i + d = 2 → l0.length ≤ 60 → l1.length ≤ 60 → 400000 + d ≤ k →
    alidadelaw01_NatTells.l0 k l0 l1 u l0 l1 (i : Int) = some true := by
  induction d with
  | zero =>
    intro i k hi h0 h1 hk
    obtain ⟨k, rfl⟩ : ∃ m, k = m + 1 := ⟨k - 1, by omega⟩
    simp only [alidadelaw01_NatTells.l0]
    rw [if_neg (by omega), Same_f (by omega) (by omega), Option.bind_some, if_pos (by simp), Same_f (by omega) (by omega), Option.bind_some, if_pos (by simp), awake_f (by omega)]; rfl
  | succ d ih =>
    intro i k hi h0 h1 hk
    obtain ⟨k, rfl⟩ : ∃ m, k = m + 1 := ⟨k - 1, by omega⟩
    have hw : wrap64 ((i : Int) + 1) = ((i + 1 : Nat) : Int) := by unfold wrap64; omega
    have n1 := subS_len (b := l1) o0
    have n2 := addS_len (a := l0) (b := l1)
    have n3 : (toL u.toNat).length ≤ 2 := toL_length_le.2 (by show u.toNat < 4294967296 ^ 2; omega)
    obtain ⟨a1, ha1⟩ := is_f (k := k) (a := (subS l0 l1).1) (b := (subS l0 l1).1) (by omega) (by omega)
    obtain ⟨a2, ha2⟩ := is_f (k := k) (a := addS l0 l1) (b := addS l0 l1) (by omega) (by omega)
    obtain ⟨a3, ha3⟩ := is_f (k := k) (a := toL u.toNat) (b := toL u.toNat) (by omega) (by omega)
    have hih := ih (i + 1) k (by omega) h0 h1 (by omega)
    simp only [alidadelaw01_NatTells.l0]
    rw [if_pos (by omega), sub_f o0 o1, Option.bind_some, rsub_f o0 o1 (by omega), Option.bind_some]
    cases hb : (subS l0 l1).2 with
    | true =>
      rw [if_pos rfl, if_pos rfl, ha1, Option.bind_some, if_pos (by simp), add_f o0 o1, Option.bind_some, radd_f o0 o1 (by omega), Option.bind_some, ha2, Option.bind_some, if_pos (by simp), of_f (by omega) hu0 hu1, Option.bind_some, rof_f hu0 hu1 (by omega), Option.bind_some, ha3, Option.bind_some, if_pos (by simp), hw]
      exact hih
    | false =>
      rw [if_neg (by decide), if_neg (by decide), ha1, Option.bind_some, if_pos (by simp), add_f o0 o1, Option.bind_some, radd_f o0 o1 (by omega), Option.bind_some, ha2, Option.bind_some, if_pos (by simp), of_f (by omega) hu0 hu1, Option.bind_some, rof_f hu0 hu1 (by omega), Option.bind_some, ha3, Option.bind_some, if_pos (by simp), hw]
      exact hih
theorem NatTells : alidadelaw01_NatTells.Pure := by
  intro l0 l1 a2 _ b0 w0 _ b1 w1 w2
  have o0 := ok_of_wf w0
  have o1 := ok_of_wf w1
  have i2 := u64_of_wf w2
  obtain ⟨m, hm⟩ : ∃ m, m = 400010 := ⟨_, rfl⟩
  refine ⟨m + 1 + 1, ?_⟩
  have ht : alidadelaw01_NatTells.j0 (m + 1 + 1) l0 l1 a2 true = some true := by
    simp only [alidadelaw01_NatTells.j0, if_true]; rw [awake_f (by omega)]; rfl
  unfold alidadelaw01_NatTells.f
  by_cases c0 : (l0.length : Int) > 60
  · rw [if_pos c0]; exact ht
  rw [if_neg c0]
  by_cases c1 : (l1.length : Int) > 60
  · rw [decide_eq_true c1]; exact ht
  rw [decide_eq_false c1]
  have hj : alidadelaw01_NatTells.j1 (m + 1) l0 l1 a2 l0 l1 false = some true := by
    simp only [alidadelaw01_NatTells.j1, Bool.false_eq_true, if_false]
    exact tells_loop o0 o1 (by omega) (by omega) 2 0 m (by omega) (by omega) (by omega) (by omega)
  have hc : (cmpS l0 l1 != cmpS l0 l1) = false := by simp
  simp only [alidadelaw01_NatTells.j0, Bool.false_eq_true, if_false]
  rw [own_f (by omega), Option.bind_some, own_f (by omega), Option.bind_some, low_f o0 (by omega) (by omega), Option.bind_some, rlow_f o0 (by omega), Option.bind_some, may_f (by omega), Option.bind_some, rmay_f o0, Option.bind_some, cmp_f o0 o1, rcmp_f o0 o1 (by omega)]
  simp only [Option.bind_some]
  rw [hc, hj]
  cases hm : may l0 with
  | true =>
    cases hb : (lowS l0).2 with
    | true => rfl
    | false => rfl
  | false =>
    cases hb : (lowS l0).2 with
    | true => rfl
    | false => rfl
end Go.Proofs.Ythdhpihfbggbbaa.Pure
