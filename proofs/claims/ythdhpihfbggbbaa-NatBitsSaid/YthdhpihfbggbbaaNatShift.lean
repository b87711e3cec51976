/- Plain numbers: what the shifts of nat tell, by values. -/
import Derived.Test.YthdhpihfbggbbaaNatPlain
namespace Go.Proofs.Ythdhpihfbggbbaa.Pure
open Go.RowKit Go.Proofs.Ythdhpihfbggbbaa.PNat Go.Proofs.YthdhpihfbggbbaaW.PrintWords Go.Proofs.YthdhpihfbggbbaaW.PrintLast Go.Proofs.YthdhpihfbggbbaaV

theorem pow_B (j : Nat) : B ^ j = 2 ^ (32 * j) := by rw [Nat.pow_mul]
theorem two_pow_le (K : Nat) : 2 ^ K ≤ B ^ (K / 32 + 1) := by
  rw [pow_B]; exact Nat.pow_le_pow_right (by decide) (by omega)
theorem mul_pow_lt {v p K : Nat} (h : v < B ^ p) : v * 2 ^ K < B ^ (p + (K / 32 + 1)) := by
  rw [Nat.pow_add]
  exact Nat.mul_lt_mul_of_lt_of_le h (two_pow_le K) (Nat.pow_pos (by decide))
theorem shlS_val {a : List Int} {K q : Nat} (ma : may a = true) (hK : K ≤ 2097152) (h : val a * 2 ^ K < B ^ q) (hq : q ≤ 65536) : shlS a (K : Int) = toL (val a * 2 ^ K) := by
  by_cases ha : a = []
  · subst ha
    have : shlS [] (K : Int) = [] := by unfold shlS; rw [if_neg (by simp)]
    rw [this, show val [] = 0 from rfl, Nat.zero_mul, toL_zero]
  · unfold shlS
    rw [if_pos (by simp [ma, ha]; omega), Int.toNat_natCast, fit_small h hq]
theorem shrS_val {a : List Int} {K : Nat} (ma : may a = true) (oa : ok a = true) : shrS a (K : Int) = toL (val a / 2 ^ K) := by
  unfold shrS
  by_cases h : (K : Int) / 32 < a.length
  · rw [if_pos (by simp [ma]; omega), Int.toNat_natCast]
  · rw [if_neg (by simp [ma]; omega)]
    have h1 := val_lt oa
    rw [pow_B] at h1
    have h2 : val a < 2 ^ K := Nat.lt_of_lt_of_le h1 (Nat.pow_le_pow_right (by decide) (by omega))
    rw [Nat.div_eq_of_lt h2, toL_zero]
/-- a natural of so many limbs at most (a word of its own: no power in sight) -/
def Sm (v p : Nat) : Prop := v < B ^ p
theorem Sm.of {l : List Int} {p : Nat} (h : ok l = true) (hl : l.length ≤ p) : Sm (val l) p := val_lt_of h hl
theorem Sm.mul {v p K : Nat} (h : Sm v p) : Sm (v * 2 ^ K) (p + (K / 32 + 1)) := mul_pow_lt h
theorem Sm.le {v u p : Nat} (h : Sm v p) (hu : u ≤ v) : Sm u p := Nat.lt_of_le_of_lt hu h
theorem Sm.may {v p : Nat} (h : Sm v p) (hp : p ≤ 65536) : may (toL v) = true := may_toL h hp
theorem Sm.length {v p : Nat} (h : Sm v p) : (toL v).length ≤ p := toL_length_le.2 h
theorem Sm.fit {v p : Nat} (h : Sm v p) (hp : p ≤ 65536) : fit v = toL v := fit_small h hp
theorem Sm.shl {a : List Int} {K q : Nat} (ma : Go.Proofs.YthdhpihfbggbbaaV.may a = true) (h : Sm (val a * 2 ^ K) q) (hK : K ≤ 2097152) (hq : q ≤ 65536) : shlS a (K : Int) = toL (val a * 2 ^ K) := shlS_val ma hK h hq
theorem Sm.blen {v p : Nat} (h : Sm v p) : blen v ≤ 32 * p := blen_le.2 (by rw [← pow_B]; exact h)
theorem blen_mul {v K : Nat} (hv : v ≠ 0) : blen (v * 2 ^ K) = blen v + K := by
  have key : ∀ j, v * 2 ^ K < 2 ^ (j + K) ↔ v < 2 ^ j := fun j => by
    rw [Nat.pow_add]
    exact ⟨fun h => Nat.lt_of_mul_lt_mul_right h, fun h => Nat.mul_lt_mul_of_pos_right h (Nat.two_pow_pos K)⟩
  have hp : 1 ≤ blen v := by
    rcases Nat.eq_zero_or_pos (blen v) with h | h
    · have := blen_le.1 (Nat.le_of_eq h)
      simp at this
      omega
    · exact h
  apply Nat.le_antisymm
  · exact blen_le.2 ((key _).2 (lt_blen v))
  · rcases Nat.lt_or_ge (blen (v * 2 ^ K)) (blen v + K) with h | h
    · have h3 : blen (v * 2 ^ K) ≤ (blen v - 1) + K := by omega
      have h4 := blen_le.2 ((key _).1 (blen_le.1 h3))
      omega
    · exact h
end Go.Proofs.Ythdhpihfbggbbaa.Pure
