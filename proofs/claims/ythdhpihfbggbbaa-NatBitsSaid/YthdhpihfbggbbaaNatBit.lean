/- Plain numbers: what a bit of a natural is. -/
import Derived.Test.YthdhpihfbggbbaaPNatx23
import Derived.Test.YthdhpihfbggbbaaNatShift
import Derived.Laws.BitsLemmas
namespace Go.Proofs.Ythdhpihfbggbbaa.Pure
open Go.RowKit Go.Proofs.Ythdhpihfbggbbaa.PNat Go.Proofs.YthdhpihfbggbbaaW.PrintWords Go.Proofs.YthdhpihfbggbbaaW.PrintLast Go.Proofs.YthdhpihfbggbbaaW.PrintMore Go.Proofs.YthdhpihfbggbbaaV

theorem wraps_u32n (n : Int) (h0 : 0 ≤ n) (h1 : n < 2 ^ 32) : IntKind.u32.wrap n = n := by
  simp only [IntKind.wrap, IntKind.bits, IntKind.signed]; simp; omega
theorem and_one {x : Nat} (h : x < 4294967296) : bits .and .u32 (x : Int) 1 = ((x % 2 : Nat) : Int) := by
  have h1 := (bits_nat .u32 32 (by decide) wraps_u32n x 1 h (by decide)).1
  rw [show ((1 : Nat) : Int) = 1 from rfl] at h1
  rw [h1, Nat.and_one_is_mod]
theorem limb_bit {v : List Int} {q s : Nat} (ho : ok v = true) (hs : s < 32) (hq : q < v.length) : (v.getD q 0).toNat / 2 ^ s % 2 = val v / 2 ^ (32 * q + s) % 2 := by
  rw [Nat.pow_add, ← pow_B, ← Nat.div_div_eq_div_mul, ← val_drop ho q (by omega), List.drop_eq_getElem_cons hq, List.getD_eq_getElem?_getD, List.getElem?_eq_getElem hq]
  simp only [val, Option.getD_some]
  rw [show B = 2 ^ s * (2 * 2 ^ (31 - s)) by rw [← Nat.pow_succ', ← Nat.pow_add, show s + (31 - s).succ = 32 by omega], Nat.mul_assoc, Nat.add_mul_div_left _ _ (Nat.two_pow_pos s), Nat.mul_assoc, Nat.add_mul_mod_self_left]
theorem shr_u32 {x s : Nat} (hs : s ≤ 32) : shr .u32 (x : Int) (s : Int) = ((x / 2 ^ s : Nat) : Int) := by
  unfold shr
  rw [Int.toNat_natCast, Nat.min_eq_left (show s ≤ IntKind.u32.bits from hs), Int.natCast_ediv]
  simp
theorem limb_test {x s : Nat} (hs : s ≤ 32) (hx : x < 4294967296) : (bits .and .u32 (shr .u32 (x : Int) (s : Int)) 1 == 1) = decide (x / 2 ^ s % 2 = 1) := by
  have hlt : x / 2 ^ s < 4294967296 := Nat.lt_of_le_of_lt (Nat.div_le_self _ _) hx
  rw [shr_u32 hs, and_one hlt, Bool.eq_iff_iff]
  simp only [beq_iff_eq, decide_eq_true_eq]
  generalize x / 2 ^ s % 2 = z
  omega
theorem div_big {v n K : Nat} (h : v < 2 ^ (32 * n)) (hn : n ≤ K / 32) : v / 2 ^ K = 0 :=
  Nat.div_eq_of_lt (Nat.lt_of_lt_of_le h (Nat.pow_le_pow_right (by decide) (by omega)))
theorem div_val {l : List Int} {K : Nat} (ho : ok l = true) (hn : l.length ≤ K / 32) : val l / 2 ^ K = 0 := div_big (by rw [← pow_B]; exact val_lt ho) hn
theorem bit_f {l : List Int} {K : Nat} (ho : ok l = true) (hm : may l = true) (hK : K ≤ 4611686018427387904) : nat_Bit.f l (K : Int) = some (decide (val l / 2 ^ K % 2 = 1)) := by
  have hlen := may_length hm
  have hd : wrap64 (Int.tdiv (K : Int) 32) = ((K / 32 : Nat) : Int) := by
    rw [Int.tdiv_eq_ediv_of_nonneg (by omega)]; unfold wrap64; omega
  have hmd : Int.tmod (K : Int) 32 = ((K % 32 : Nat) : Int) := by rw [Int.tmod_eq_emod_of_nonneg (by omega)]; omega
  have hrd : rd l ((K / 32 : Nat) : Int) = l.getD (K / 32) 0 := by unfold rd; rw [Int.toNat_natCast]
  have c1 : (K : Int) ≥ 0 := by omega
  have c2 : 0 ≤ ((K / 32 : Nat) : Int) := by omega
  have c3 : 0 ≤ ((K % 32 : Nat) : Int) := by omega
  have hf : nat_May.f l = some true := by rw [may_f (by omega), hm]
  unfold nat_Bit.f
  rw [hf, Option.bind_some, if_pos rfl, hd, hmd, if_pos c1, hrd, if_pos c2, if_pos c3]
  by_cases hq : K / 32 < l.length
  · have hx := ok_get ho (K / 32)
    have hb := limb_bit (s := K % 32) ho (by omega) hq
    rw [show 32 * (K / 32) + K % 32 = K by omega] at hb
    rw [if_pos (by omega)]
    obtain ⟨x, hxe⟩ := Int.eq_ofNat_of_zero_le hx.1
    rw [hxe] at hb hx ⊢
    rw [Int.toNat_natCast] at hb
    rw [limb_test (by omega) (by omega), hb]
  · rw [if_neg (by omega), div_val ho (by omega)]
    rfl
end Go.Proofs.Ythdhpihfbggbbaa.Pure
