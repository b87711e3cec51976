/- Plain numbers: products, one with a limb, squares, powers are the document's. -/
import Derived.Test.YtnngdlehakcdlaaMulRefP
namespace Go.Proofs.Ytnngdlehakcdlaa.Pure
open Go.RowKit Go.Proofs.Ytnngdlehakcdlaa.PMul Go.Proofs.YtnngdlehakcdlaaW.PrintWords Go.Proofs.YtnngdlehakcdlaaW.PrintLast Go.Proofs.YtnngdlehakcdlaaV

theorem Same_may {k : Nat} {l : List Int} (h : may l = true) (hk : 100000 ≤ k) : alidaderef01_Same.f k l l = some true := by
  have := may_length h
  rw [Same_f (by omega) (by omega)]; simp
theorem pow_fits {a : List Int} {e : Int} (oa : ok a = true) (la : a.length < 700) (he : e ≤ 20) : val a ^ e.toNat < B ^ most := by
  obtain ⟨L, hL⟩ : ∃ L, L = 700 := ⟨_, rfl⟩
  have h1 : val a < B ^ L := val_lt_of oa (by omega)
  refine Nat.lt_of_le_of_lt (Nat.pow_le_pow_left (Nat.le_of_lt h1) _) ?_
  rw [← Nat.pow_mul]
  exact Nat.pow_lt_pow_right (by decide) (by rw [most_eq]; have := Nat.mul_le_mul (show L ≤ 700 by omega) (show e.toNat ≤ 20 by omega); omega)
theorem mulTells_loop {a b : List Int} {w c : Nat} {e : Int} (oa : ok a = true) (ob : ok b = true) (la : a.length < 700) (lb : b.length < 700) (hw : w < 4294967296) (hc : c < 4294967296) (he : e ≤ 6) (d : Nat) : ∀ (i k : Nat), i + d = 2 → 30000000000000 + 2 * d ≤ k →
    alidadelaw02_MulTells.l0 k a b (w : Int) (c : Int) e a b (i : Int) = some true := by
  induction d with
  | zero =>
    intro i k hi hk
    obtain ⟨k, rfl⟩ : ∃ m, k = m + 1 := ⟨k - 1, by omega⟩
    have sa : alidaderef01_Same.f k a a = some true := by rw [Same_f (by omega) (by omega)]; simp
    have sb : alidaderef01_Same.f k b b = some true := by rw [Same_f (by omega) (by omega)]; simp
    simp only [alidadelaw02_MulTells.l0]
    rw [if_neg (by omega), sa, Option.bind_some, if_pos rfl, sb, Option.bind_some, if_pos rfl, works_f (by omega)]; rfl
  | succ d ih =>
    intro i k hi hk
    obtain ⟨k, rfl⟩ : ∃ m, k = m + 2 := ⟨k - 2, by omega⟩
    obtain ⟨r1, s1⟩ := spoil_any (k := k) (mulS_may a b) (by omega)
    obtain ⟨r2, s2⟩ := spoil_any (k := k) (smallS_may a w c) (by omega)
    obtain ⟨r3, s3⟩ := spoil_any (k := k) (mulS_may a a) (by omega)
    obtain ⟨r4, s4⟩ := spoil_any (k := k) (powS_may a e) (by omega)
    have hj : alidadelaw02_MulTells.j2 (k + 1) a b (w : Int) (c : Int) e a b (i : Int) (mulS a b) (smallS a w c) (mulS a a) (powS a e) (!true) = some true := by
      simp only [alidadelaw02_MulTells.j2, Bool.not_true, Bool.false_eq_true, if_false]
      rw [s1, Option.bind_some, s2, Option.bind_some, s3, Option.bind_some, s4, Option.bind_some, w64s (by omega)]
      exact ih (i + 1) k (by omega) (by omega)
    simp only [alidadelaw02_MulTells.l0]
    rw [if_pos (by omega), mul_f oa ob (by omega) (by omega) (by omega), Option.bind_some, small_f oa (by omega) hw hc (by omega), Option.bind_some, square_f oa (by omega) (by omega), Option.bind_some, pow_f oa (by omega) (by omega) (by omega), Option.bind_some,
      rmul_f oa ob (by omega) (by omega) (by omega), Option.bind_some, Same_may (mulS_may _ _) (by omega), Option.bind_some, if_pos rfl,
      rsmall_f oa hw hc (by omega), Option.bind_some, Same_may (smallS_may _ _ _) (by omega), Option.bind_some, if_pos rfl,
      rmul_f oa oa (by omega) (by omega) (by omega), Option.bind_some, Same_may (mulS_may _ _) (by omega), Option.bind_some, if_pos rfl,
      rpow_f oa (by omega) (fun _ => pow_fits oa la (by omega)) (by omega), Option.bind_some, Same_may (powS_may _ _) (by omega), Option.bind_some]
    exact hj
theorem u32_of_wf {x : Int} (h : (Lit.int .u32 x).wf = true) : 0 ≤ x ∧ x < 4294967296 := by
  simp only [Lit.wf, IntKind.min, IntKind.max, IntKind.signed, IntKind.bits, Bool.and_eq_true] at h
  simp at h
  omega
theorem MulTells : alidadelaw02_MulTells.Pure := by
  intro l0 l1 a2 a3 a4 _ b0 w0 _ b1 w1 w2 w3 w4
  have o0 := ok_of_wf w0
  have o1 := ok_of_wf w1
  have i2 := u32_of_wf w2
  have i3 := u32_of_wf w3
  have i4 := i64_of_wf w4
  obtain ⟨w, rfl⟩ := Int.eq_ofNat_of_zero_le i2.1
  obtain ⟨c, rfl⟩ := Int.eq_ofNat_of_zero_le i3.1
  obtain ⟨k, hk⟩ : ∃ k, k = 40000000000000 := ⟨_, rfl⟩
  refine ⟨k + 1, ?_⟩
  obtain ⟨b, g1, g2⟩ := long_f [l0, l1] (by simp) (by intro x hx; simp at hx; rcases hx with rfl | rfl <;> omega) (k := k + 1) (by simp; omega)
  unfold alidadelaw02_MulTells.f alidadelaw02_long_2.f
  rw [g1, Option.bind_some]
  cases b with
  | true => rw [if_pos rfl, works_f (by omega)]; rfl
  | false =>
    have n0 : l0.length < 700 := g2 rfl 0 (by simp)
    have n1 : l1.length < 700 := g2 rfl 1 (by simp)
    rw [if_neg (by decide), copied_f (by omega), Option.bind_some, copied_f (by omega), Option.bind_some]
    have hgo : ∀ e : Int, e ≤ 6 → alidadelaw02_MulTells.j0 (k + 1) l0 l1 (w : Int) (c : Int) e l0 l1 = some true := by
      intro e he
      simp only [alidadelaw02_MulTells.j0]
      exact mulTells_loop o0 o1 n0 n1 (by omega) (by omega) he 2 0 k (by omega) (by omega)
    by_cases h6 : a4 > 6
    · rw [if_pos h6]
      refine hgo _ ?_
      rw [Int.tmod_eq_emod_of_nonneg (by omega)]; omega
    · rw [if_neg h6]
      exact hgo _ (by omega)
end Go.Proofs.Ytnngdlehakcdlaa.Pure
