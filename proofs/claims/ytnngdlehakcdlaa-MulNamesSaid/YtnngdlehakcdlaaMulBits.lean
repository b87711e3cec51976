/- Plain numbers: how many bits, and how two stand. -/
import Derived.Test.YtnngdlehakcdlaaPMulx39
import Derived.Test.YtnngdlehakcdlaaPMulx41
import Derived.Test.YtnngdlehakcdlaaMulNum
namespace Go.Proofs.Ytnngdlehakcdlaa.Pure
open Go.RowKit Go.Proofs.Ytnngdlehakcdlaa.PMul Go.Proofs.YtnngdlehakcdlaaW.PrintWords Go.Proofs.YtnngdlehakcdlaaW.PrintLast Go.Proofs.YtnngdlehakcdlaaV

theorem blen_le {n k : Nat} : blen n ≤ k ↔ n < 2 ^ k := by
 unfold blen
 by_cases h : n = 0
 ·rw [if_pos h, h]; simp [Nat.two_pow_pos]
 ·rw [if_neg h, ← Nat.log2_lt h]; omega
theorem lt_blen (n : Nat) : n < 2 ^ blen n := blen_le.1 (Nat.le_refl _)
theorem blen_half {n : Nat} (h : n ≠ 0) : blen n = 1 + blen (n / 2) := by
 unfold blen
 rw [if_neg h, Nat.log2_def]
 by_cases h2 : 2 ≤ n
 ·rw [if_pos h2, if_neg (by omega)]; omega
 ·rw [if_neg h2, if_pos (by omega)]
theorem bitLenAux_eq : ∀ (f n : Nat), n < 2 ^ f → Lib.bitLenAux f n = blen n
 | 0, n, h => by
  have : n = 0 := by simpa using h
  subst this; rfl
 | f + 1, n, h => by
  simp only [Lib.bitLenAux]
  by_cases h0 : n = 0
  ·rw [if_pos h0, h0]; rfl
  ·rw [if_neg h0, blen_half h0, bitLenAux_eq f (n / 2) (by rw [Nat.pow_succ] at h; omega)]
theorem bitLen_eq {n : Nat} (h : n < 2 ^ 64) : Lib.bitLen n = blen n := bitLenAux_eq 64 n h
/-- how many bits, by the last limb -/
theorem blen_snoc {l : List Int} {x : Int} (ho : ok (l ++ [x]) = true) (hx : x ≠ 0) : blen (val (l ++ [x])) = 32 * l.length + blen x.toNat := by
 rw [ok_append] at ho
 have h1 := val_lt ho.1
 have h2 := (ok_cons.1 ho.2).1
 rw [val_snoc]
 have hB : B ^ l.length = 2 ^ (32 * l.length) := by rw [Nat.pow_mul]
 rw [hB] at h1 ⊢
 generalize 32 * l.length = L at *
 generalize val l = r at *
 obtain ⟨X, rfl⟩ := Int.eq_ofNat_of_zero_le h2.1
 rw [Int.toNat_natCast]
 have key : ∀ j, r + 2 ^ L * X < 2 ^ (L + j) ↔ X < 2 ^ j := fun j => by
  rw [Nat.pow_add]
  constructor
  ·intro h
   exact Nat.lt_of_mul_lt_mul_left (a := 2 ^ L) (by omega)
  ·intro h
   have := Nat.mul_le_mul_left (2 ^ L) (show X + 1 ≤ 2 ^ j from h)
   rw [Nat.mul_add] at this
   omega
 have hp : 1 ≤ blen X := by
  rcases Nat.eq_zero_or_pos (blen X) with h | h
  ·have := blen_le.1 (Nat.le_of_eq h)
   simp at this
   omega
  ·exact h
 apply Nat.le_antisymm
 ·exact blen_le.2 ((key _).2 (lt_blen X))
 ·rcases Nat.lt_or_ge (blen (r + 2 ^ L * X)) (L + blen X) with h | h
  ·have h3 : blen (r + 2 ^ L * X) ≤ L + (blen X - 1) := by omega
   have h4 := blen_le.2 ((key _).1 (blen_le.1 h3))
   omega
  ·exact h
theorem bits_f {l : List Int} (ho : ok l = true) : nat_Bits.f l = some (if may l = true then (blen (val l) : Int) else 0) := by
 unfold nat_Bits.f
 by_cases hm : may l = true
 ·have hlen := may_length hm
  rw [may_f (by omega), hm]
  simp only [Option.bind_some, if_true]
  rcases snoc_cases l with rfl | ⟨a, x, rfl⟩
  ·rfl
  ·have hx : x ≠ 0 := may_norm hm x (by simp)
   have hxo := (ok_cons.1 (ok_append.1 ho).2).1
   have hb := bitLen_eq (n := x.toNat) (by omega)
   have hle : blen x.toNat ≤ 32 := blen_le.2 (by omega)
   rw [blen_snoc ho hx]
   have hL : ((a ++ [x]).length : Int) = (a.length : Int) + 1 := by simp
   have hal : (a.length : Int) ≤ 65535 := by omega
   have hw : wrap64 ((a.length : Int) + 1 - 1) = (a.length : Int) := by unfold wrap64; omega
   have hrd : rd (a ++ [x]) (a.length : Int) = x := by
    unfold rd
    rw [Int.toNat_natCast, List.getD_eq_getElem?_getD, List.getElem?_append_right (Nat.le_refl _)]
    simp
   rw [hL, hw, hrd, if_neg (by omega), if_pos (by omega), if_pos (by omega)]
   unfold bits_Len32.f
   rw [if_pos (by omega), hb]
   simp only [Option.bind_some]
   have e1 : wrap64 (32 * (a.length : Int)) = 32 * (a.length : Int) := by unfold wrap64; omega
   rw [e1]
   congr 1
   unfold wrap64
   omega
 ·have hm' : may l = false := by simpa using hm
  by_cases hl : l.length ≤ 9223372036854775807
  ·rw [may_f hl, hm']; rfl
  ·have : nat_May.f l = some false := by unfold nat_May.f; rw [if_neg (by omega)]
   rw [this, hm']; rfl
theorem w64z {z : Int} (h : -4611686018427387904 ≤ z ∧ z ≤ 4611686018427387904) : wrap64 z = z := by unfold wrap64; omega
theorem bitsN {x : Nat} (hx : x < B ^ most) : nat_Bits.f (toL x) = some (blen x : Int) := by
 rw [bits_f (toL_ok _), toL_may hx, if_pos rfl, val_toL]
theorem blen_ge {n k : Nat} (h : 2 ^ k ≤ n) : k + 1 ≤ blen n := by
 refine Nat.le_of_not_lt fun h2 => ?_
 have := blen_le.1 (show blen n ≤ k by omega)
 omega
end Go.Proofs.Ytnngdlehakcdlaa.Pure
