/- Plain numbers: a natural is the sum of 2^k over its bits that are 1, and Bits is the least k whose 2^k is greater. -/
import Derived.Test.YthdhpihfbggbbaaPNatx25
import Derived.Test.YthdhpihfbggbbaaNatBit
namespace Go.Proofs.Ythdhpihfbggbbaa.Pure
open Go.RowKit Go.Proofs.Ythdhpihfbggbbaa.PNat Go.Proofs.YthdhpihfbggbbaaW.PrintWords Go.Proofs.YthdhpihfbggbbaaW.PrintLast Go.Proofs.YthdhpihfbggbbaaV

theorem one_shl {i p : Nat} (h : Sm (2 ^ i) p) (hi : i ≤ 2097152) (hp : p ≤ 65536) : shlS [1] (i : Int) = toL (2 ^ i) := by
  have := Sm.shl (a := [1]) (K := i) (q := p) (by decide) (by rw [show val [1] = 1 by decide, Nat.one_mul]; exact h) hi hp
  rw [show val [1] = 1 by decide, Nat.one_mul] at this
  exact this
theorem mod_two_pow_succ (v i : Nat) : v % 2 ^ (i + 1) = v % 2 ^ i + 2 ^ i * (v / 2 ^ i % 2) := by
  rw [Nat.pow_succ, Nat.mod_mul]
theorem whole_step {l0 : List Int} (o0 : ok l0 = true) (m0 : may l0 = true) (h0 : l0.length ≤ 40) (d : Nat) : ∀ (i k : Nat), i + d = blen (val l0) → d + 50 ≤ k →
    alidadelaw01_NatWhole.l0 k l0 (toL (val l0 % 2 ^ i)) (blen (val l0) : Int) (i : Int) = some true := by
  have p0 := Sm.of (p := 40) o0 h0
  have hb := p0.blen
  have p1 : ∀ j, j ≤ blen (val l0) → Sm (2 ^ j) 42 := fun j hj => by
    have := Sm.mul (v := 1) (p := 1) (K := j) (by unfold Sm; decide)
    rw [Nat.one_mul] at this
    unfold Sm at *
    exact Nat.lt_of_lt_of_le this (Nat.pow_le_pow_right (by decide) (by omega))
  induction d with
  | zero =>
    intro i k hi hk
    obtain ⟨k, rfl⟩ : ∃ m, k = m + 1 := ⟨k - 1, by omega⟩
    obtain rfl : i = blen (val l0) := by omega
    have hv := lt_blen (val l0)
    simp only [alidadelaw01_NatWhole.l0]
    rw [if_neg (by omega), Nat.mod_eq_of_lt hv, toL_of_may o0 m0, same_f (by omega) (by omega)]
    simp only [Option.bind_some, decide_true, if_true]
    unfold alidadelaw01_of.f
    simp only [Option.bind_some]
    rw [shl_f (by decide) (by omega), one_shl (p1 _ (Nat.le_refl _)) (by omega) (by omega)]
    simp only [Option.bind_some]
    rw [cmp_f (toL_ok _) o0, cmpS_of ((p1 _ (Nat.le_refl _)).may (by omega)) m0, val_toL]
    simp only [Option.bind_some]
    have hc : cmpN (2 ^ blen (val l0)) (val l0) = 1 := by unfold cmpN; rw [if_neg (by omega), if_neg (by omega)]
    have hbit : val l0 / 2 ^ blen (val l0) % 2 = 0 := by rw [Nat.div_eq_of_lt hv]
    rw [hc, if_pos (by decide), bit_f o0 m0 (by omega), hbit]
    simp only [Option.bind_some]
    by_cases hz : blen (val l0) = 0
    · rw [if_pos (by omega)]; rfl
    · rw [if_neg (by omega)]
      have hw : wrap64 ((blen (val l0) : Int) - 1) = ((blen (val l0) - 1 : Nat) : Int) := by unfold wrap64; omega
      rw [hw, shl_f (by decide) (by omega), one_shl (p1 _ (by omega)) (by omega) (by omega)]
      simp only [Option.bind_some]
      rw [cmp_f (toL_ok _) o0, cmpS_of ((p1 _ (by omega)).may (by omega)) m0, val_toL]
      simp only [Option.bind_some]
      have hge : ¬ val l0 < 2 ^ (blen (val l0) - 1) := fun h => by have := blen_le.2 h; omega
      rw [if_pos (by unfold cmpN; split <;> (try split) <;> omega)]
      rfl
  | succ d ih =>
    intro i k hi hk
    obtain ⟨k, rfl⟩ : ∃ m, k = m + 1 := ⟨k - 1, by omega⟩
    have hw : wrap64 ((i : Int) + 1) = ((i + 1 : Nat) : Int) := by unfold wrap64; omega
    have hih := ih (i + 1) k (by omega) (by omega)
    have hs := mod_two_pow_succ (val l0) i
    simp only [alidadelaw01_NatWhole.l0]
    rw [if_pos (by omega), bit_f o0 m0 (by omega)]
    simp only [Option.bind_some]
    by_cases hbit : val l0 / 2 ^ i % 2 = 1
    · rw [hbit, Nat.mul_one] at hs
      rw [hbit, if_pos (by simp)]
      unfold alidadelaw01_of.f
      simp only [Option.bind_some]
      rw [shl_f (by decide) (by omega), one_shl (p1 _ (by omega)) (by omega) (by omega)]
      simp only [Option.bind_some]
      have q1 : Sm (val l0 % 2 ^ i) 40 := p0.le (Nat.mod_le _ _)
      have q2 : Sm (val l0 % 2 ^ (i + 1)) 40 := p0.le (Nat.mod_le _ _)
      rw [add_f (toL_ok _) (toL_ok _), addS_of (q1.may (by omega)) ((p1 _ (by omega)).may (by omega)), val_toL, val_toL, ← hs, q2.fit (by omega)]
      simp only [Option.bind_some]
      rw [hw]
      exact hih
    · have : val l0 / 2 ^ i % 2 = 0 := by omega
      rw [this, Nat.mul_zero] at hs
      have hs2 : val l0 % 2 ^ (i + 1) = val l0 % 2 ^ i := hs
      rw [hs2] at hih
      rw [if_neg (by simp [hbit]), hw]
      exact hih
theorem NatWhole : alidadelaw01_NatWhole.Pure := by
  intro l0 _ b0 w0
  have o0 := ok_of_wf w0
  obtain ⟨m, hm⟩ : ∃ m, m = 3000 := ⟨_, rfl⟩
  refine ⟨m + 1, ?_⟩
  unfold alidadelaw01_NatWhole.f
  by_cases c0 : (l0.length : Int) > 40
  · rw [if_pos c0]; simp only [alidadelaw01_NatWhole.j0, if_true]; rw [awake_f (by omega)]; rfl
  rw [if_neg c0, awake_f (by omega)]
  simp only [Option.bind_some, Bool.not_true, alidadelaw01_NatWhole.j0, Bool.false_eq_true, if_false]
  rw [may_f (by omega), bits_f o0]
  simp only [Option.bind_some]
  cases m0 : may l0 with
  | false => rfl
  | true =>
    rw [if_pos rfl, if_pos rfl]
    have p0 := (Sm.of (p := 40) o0 (by omega)).blen
    have := whole_step o0 m0 (by omega) (blen (val l0)) 0 m (by omega) (by omega)
    rw [Nat.pow_zero, Nat.mod_one, toL_zero] at this
    exact this
end Go.Proofs.Ythdhpihfbggbbaa.Pure
