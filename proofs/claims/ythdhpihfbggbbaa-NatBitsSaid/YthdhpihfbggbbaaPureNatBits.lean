/- Plain numbers: how many bits a natural has, each of them, and it shifted up and down by any number, are the document's. -/
import Derived.Test.YthdhpihfbggbbaaPNatx24
import Derived.Test.YthdhpihfbggbbaaNatRefB
namespace Go.Proofs.Ythdhpihfbggbbaa.Pure
open Go.RowKit Go.Proofs.Ythdhpihfbggbbaa.PNat Go.Proofs.YthdhpihfbggbbaaW.PrintWords Go.Proofs.YthdhpihfbggbbaaW.PrintLast Go.Proofs.YthdhpihfbggbbaaV

theorem no_may_ref {l : List Int} (h : may l = false) (k : Nat) (x : Int) : shlS l x = [] ∧ shrS l x = [] := by
  unfold shlS shrS; rw [h]; exact ⟨rfl, rfl⟩
theorem rshl_any {a : List Int} {x : Int} {k : Nat} (oa : ok a = true) (hx : -9223372036854775808 ≤ x ∧ x ≤ 3000) (hk : 300000 ≤ k) : alidaderef01_Shl.f k a x = some (shlS a x) := by
  cases ma : may a with
  | true =>
    by_cases h0 : x < 0
    · obtain ⟨k, rfl⟩ : ∃ m, k = m + 1 := ⟨k - 1, by omega⟩
      unfold alidaderef01_Shl.f
      rw [rmay_f oa, ma, Option.bind_some, if_pos rfl, if_pos h0]
      simp only [alidaderef01_Shl.j0, if_true]
      unfold shlS; rw [if_neg (by simp; omega)]
    · obtain ⟨K, rfl⟩ := Int.eq_ofNat_of_zero_le (show 0 ≤ x by omega)
      exact rshl_f oa ma (by omega) hk
  | false =>
    obtain ⟨k, rfl⟩ : ∃ m, k = m + 1 := ⟨k - 1, by omega⟩
    unfold alidaderef01_Shl.f
    rw [rmay_f oa, ma, Option.bind_some, if_neg (by decide)]
    simp only [alidaderef01_Shl.j0, if_true]
    rw [(no_may_ref ma 0 x).1]
theorem rshr_any {a : List Int} {x : Int} {k : Nat} (oa : ok a = true) (hx : -9223372036854775808 ≤ x ∧ x ≤ 3000) (hk : 300000 ≤ k) : alidaderef01_Shr.f k a x = some (shrS a x) := by
  cases ma : may a with
  | true =>
    by_cases h0 : x < 0
    · obtain ⟨k, rfl⟩ : ∃ m, k = m + 1 := ⟨k - 1, by omega⟩
      unfold alidaderef01_Shr.f
      rw [rmay_f oa, ma, Option.bind_some, if_pos rfl, if_pos h0]
      simp only [alidaderef01_Shr.j0, if_true]
      unfold shrS; rw [if_neg (by simp; omega)]
    · obtain ⟨K, rfl⟩ := Int.eq_ofNat_of_zero_le (show 0 ≤ x by omega)
      exact rshr_f oa ma (by omega) hk
  | false =>
    obtain ⟨k, rfl⟩ : ∃ m, k = m + 1 := ⟨k - 1, by omega⟩
    unfold alidaderef01_Shr.f
    rw [rmay_f oa, ma, Option.bind_some, if_neg (by decide)]
    simp only [alidaderef01_Shr.j0, if_true]
    rw [(no_may_ref ma 0 x).2]
theorem bit_any {a : List Int} {x : Int} {k : Nat} (oa : ok a = true) (hla : a.length ≤ 9223372036854775807) (hx : -9223372036854775808 ≤ x ∧ x ≤ 3000) (hk : 100 ≤ k) : ∃ b, nat_Bit.f a x = some b ∧ alidaderef01_Bit.f k a x = some b := by
  cases ma : may a with
  | true =>
    by_cases h0 : x < 0
    · refine ⟨false, ?_, ?_⟩
      · unfold nat_Bit.f; rw [may_f hla, ma, Option.bind_some, if_pos rfl, if_neg (by omega)]
      · unfold alidaderef01_Bit.f; rw [rmay_f oa, ma, Option.bind_some, if_pos rfl, if_pos h0]
    · obtain ⟨K, rfl⟩ := Int.eq_ofNat_of_zero_le (show 0 ≤ x by omega)
      exact ⟨_, bit_f oa ma (by omega), rbit_f oa ma (by omega) hk⟩
  | false =>
    refine ⟨false, ?_, ?_⟩
    · unfold nat_Bit.f; rw [may_f hla, ma]; rfl
    · unfold alidaderef01_Bit.f; rw [rmay_f oa, ma]; rfl
theorem shlS_len {a : List Int} {x : Int} : (shlS a x).length ≤ 65536 := by
  unfold shlS; split
  · exact may_length (may_fit _)
  · simp
theorem shrS_len {a : List Int} {x : Int} (oa : ok a = true) : (shrS a x).length ≤ 65536 := by
  unfold shrS; split
  · rename_i h
    simp only [Bool.and_eq_true] at h
    exact Nat.le_trans (toL_length_le.2 (Nat.lt_of_le_of_lt (Nat.div_le_self _ _) (val_lt oa))) (may_length h.1.1)
  · simp
theorem bits_loop {l0 : List Int} {x : Int} (o0 : ok l0 = true) (hx : -9223372036854775808 ≤ x ∧ x ≤ 3000) (d : Nat) : ∀ (i k : Nat), i + d = 2 → l0.length ≤ 60 → 400000 + d ≤ k →
    alidadelaw01_NatBits.l0 k l0 x l0 (i : Int) = some true := by
  induction d with
  | zero =>
    intro i k hi hl hk
    obtain ⟨k, rfl⟩ : ∃ m, k = m + 1 := ⟨k - 1, by omega⟩
    obtain ⟨b, hb1, hb2⟩ := bit_any (k := k) o0 (by omega) hx (by omega)
    simp only [alidadelaw01_NatBits.l0]
    rw [if_neg (by omega), bits_f o0, rbits_f o0 (by omega), Option.bind_some, Option.bind_some, if_pos rfl, hb1, hb2, Option.bind_some, Option.bind_some, Same_f (by omega) (by omega), awake_f (by omega)]
    cases b <;> simp
  | succ d ih =>
    intro i k hi hl hk
    obtain ⟨k, rfl⟩ : ∃ m, k = m + 1 := ⟨k - 1, by omega⟩
    have hw : wrap64 ((i : Int) + 1) = ((i + 1 : Nat) : Int) := by unfold wrap64; omega
    have s1 := shlS_len (a := l0) (x := x)
    have s2 := shrS_len (x := x) o0
    obtain ⟨a1, ha1⟩ := is_f (k := k) (a := shlS l0 x) (b := shlS l0 x) (by omega) (by omega)
    obtain ⟨a2, ha2⟩ := is_f (k := k) (a := shrS l0 x) (b := shrS l0 x) (by omega) (by omega)
    simp only [alidadelaw01_NatBits.l0]
    rw [if_pos (by omega), shl_f o0 (by omega), Option.bind_some, rshl_any o0 hx (by omega), Option.bind_some, ha1, Option.bind_some, if_pos (by simp), shr_f o0 (by omega), Option.bind_some, rshr_any o0 hx (by omega), Option.bind_some, ha2, Option.bind_some, if_pos (by simp), hw]
    exact ih (i + 1) k (by omega) hl (by omega)
theorem NatBits : alidadelaw01_NatBits.Pure := by
  intro l0 a1 _ b0 w0 w1
  have o0 := ok_of_wf w0
  have i1 := i64_of_wf w1
  obtain ⟨m, hm⟩ : ∃ m, m = 400010 := ⟨_, rfl⟩
  refine ⟨m + 1, ?_⟩
  have ht : alidadelaw01_NatBits.j0 (m + 1) l0 a1 true = some true := by
    simp only [alidadelaw01_NatBits.j0, if_true]; rw [awake_f (by omega)]; rfl
  unfold alidadelaw01_NatBits.f
  by_cases c0 : (l0.length : Int) > 60
  · rw [if_pos c0]; exact ht
  rw [if_neg c0]
  by_cases c1 : a1 > 3000
  · rw [decide_eq_true c1]; exact ht
  rw [decide_eq_false c1]
  simp only [alidadelaw01_NatBits.j0, Bool.false_eq_true, if_false]
  rw [own_f (by omega), Option.bind_some]
  exact bits_loop o0 (by omega) 2 0 m (by omega) (by omega) (by omega)
end Go.Proofs.Ythdhpihfbggbbaa.Pure
