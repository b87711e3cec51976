/- Texts of the seat Ythdhpihfbggbbaa that belong together, joined. -/
import Derived.Test.YthdhpihfbggbbaaNatPlain
import Derived.Test.YthdhpihfbggbbaaPNatx25
import Derived.Laws.BitsLemmas
/- Plain numbers: what the shifts of nat tell, by values. -/
namespace Go.Proofs.Ythdhpihfbggbbaa.Pure
open Go.RowKit Go.Proofs.Ythdhpihfbggbbaa.PNat Go.Proofs.YthdhpihfbggbbaaW.PrintWords Go.Proofs.YthdhpihfbggbbaaW.PrintLast Go.Proofs.YthdhpihfbggbbaaV

theorem pow_B (j : Nat) : B ^ j = 2 ^ (32 * j) := by rw [Nat.pow_mul]
theorem two_pow_le (K : Nat) : 2 ^ K ≤ B ^ (K / 32 + 1) := by
  rw [pow_B]; exact Nat.pow_le_pow_right (by decide) (by omega)
theorem mul_pow_lt {v p K : Nat} (h : v < B ^ p) : v * 2 ^ K < B ^ (p + (K / 32 + 1)) := by
  rw [Nat.pow_add]
  exact Nat.mul_lt_mul_of_lt_of_le h (two_pow_le K) (Nat.pow_pos (by decide))
theorem shlS_val {a : List Int} {K q : Nat} (ma : may a = true) (hK : K ≤ 2097152) (h : val a * 2 ^ K < B ^ q) (hq : q ≤ 65536) : shlS a (K : Int) = toL (val a * 2 ^ K) := by
  by_cases ha : a = []
  · subst ha
    have : shlS [] (K : Int) = [] := by unfold shlS; rw [if_neg (by simp)]
    rw [this, show val [] = 0 from rfl, Nat.zero_mul, toL_zero]
  · unfold shlS
    rw [if_pos (by simp [ma, ha]; omega), Int.toNat_natCast, fit_small h hq]
theorem shrS_val {a : List Int} {K : Nat} (ma : may a = true) (oa : ok a = true) : shrS a (K : Int) = toL (val a / 2 ^ K) := by
  unfold shrS
  by_cases h : (K : Int) / 32 < a.length
  · rw [if_pos (by simp [ma]; omega), Int.toNat_natCast]
  · rw [if_neg (by simp [ma]; omega)]
    have h1 := val_lt oa
    rw [pow_B] at h1
    have h2 : val a < 2 ^ K := Nat.lt_of_lt_of_le h1 (Nat.pow_le_pow_right (by decide) (by omega))
    rw [Nat.div_eq_of_lt h2, toL_zero]
/-- a natural of so many limbs at most (a word of its own: no power in sight) -/
def Sm (v p : Nat) : Prop := v < B ^ p
theorem Sm.of {l : List Int} {p : Nat} (h : ok l = true) (hl : l.length ≤ p) : Sm (val l) p := val_lt_of h hl
theorem Sm.mul {v p K : Nat} (h : Sm v p) : Sm (v * 2 ^ K) (p + (K / 32 + 1)) := mul_pow_lt h
theorem Sm.le {v u p : Nat} (h : Sm v p) (hu : u ≤ v) : Sm u p := Nat.lt_of_le_of_lt hu h
theorem Sm.may {v p : Nat} (h : Sm v p) (hp : p ≤ 65536) : may (toL v) = true := may_toL h hp
theorem Sm.length {v p : Nat} (h : Sm v p) : (toL v).length ≤ p := toL_length_le.2 h
theorem Sm.fit {v p : Nat} (h : Sm v p) (hp : p ≤ 65536) : fit v = toL v := fit_small h hp
theorem Sm.shl {a : List Int} {K q : Nat} (ma : Go.Proofs.YthdhpihfbggbbaaV.may a = true) (h : Sm (val a * 2 ^ K) q) (hK : K ≤ 2097152) (hq : q ≤ 65536) : shlS a (K : Int) = toL (val a * 2 ^ K) := shlS_val ma hK h hq
theorem Sm.blen {v p : Nat} (h : Sm v p) : blen v ≤ 32 * p := blen_le.2 (by rw [← pow_B]; exact h)
theorem blen_mul {v K : Nat} (hv : v ≠ 0) : blen (v * 2 ^ K) = blen v + K := by
  have key : ∀ j, v * 2 ^ K < 2 ^ (j + K) ↔ v < 2 ^ j := fun j => by
    rw [Nat.pow_add]
    exact ⟨fun h => Nat.lt_of_mul_lt_mul_right h, fun h => Nat.mul_lt_mul_of_pos_right h (Nat.two_pow_pos K)⟩
  have hp : 1 ≤ blen v := by
    rcases Nat.eq_zero_or_pos (blen v) with h | h
    · have := blen_le.1 (Nat.le_of_eq h)
      simp at this
      omega
    · exact h
  apply Nat.le_antisymm
  · exact blen_le.2 ((key _).2 (lt_blen v))
  · rcases Nat.lt_or_ge (blen (v * 2 ^ K)) (blen v + K) with h | h
    · have h3 : blen (v * 2 ^ K) ≤ (blen v - 1) + K := by omega
      have h4 := blen_le.2 ((key _).1 (blen_le.1 h3))
      omega
    · exact h
end Go.Proofs.Ythdhpihfbggbbaa.Pure

/- Plain numbers: what a bit of a natural is. -/
namespace Go.Proofs.Ythdhpihfbggbbaa.Pure
open Go.RowKit Go.Proofs.Ythdhpihfbggbbaa.PNat Go.Proofs.YthdhpihfbggbbaaW.PrintWords Go.Proofs.YthdhpihfbggbbaaW.PrintLast Go.Proofs.YthdhpihfbggbbaaW.PrintMore Go.Proofs.YthdhpihfbggbbaaV

theorem wraps_u32n (n : Int) (h0 : 0 ≤ n) (h1 : n < 2 ^ 32) : IntKind.u32.wrap n = n := by
  simp only [IntKind.wrap, IntKind.bits, IntKind.signed]; simp; omega
theorem and_one {x : Nat} (h : x < 4294967296) : bits .and .u32 (x : Int) 1 = ((x % 2 : Nat) : Int) := by
  have h1 := (bits_nat .u32 32 (by decide) wraps_u32n x 1 h (by decide)).1
  rw [show ((1 : Nat) : Int) = 1 from rfl] at h1
  rw [h1, Nat.and_one_is_mod]
theorem limb_bit {v : List Int} {q s : Nat} (ho : ok v = true) (hs : s < 32) (hq : q < v.length) : (v.getD q 0).toNat / 2 ^ s % 2 = val v / 2 ^ (32 * q + s) % 2 := by
  rw [Nat.pow_add, ← pow_B, ← Nat.div_div_eq_div_mul, ← val_drop ho q (by omega), List.drop_eq_getElem_cons hq, List.getD_eq_getElem?_getD, List.getElem?_eq_getElem hq]
  simp only [val, Option.getD_some]
  rw [show B = 2 ^ s * (2 * 2 ^ (31 - s)) by rw [← Nat.pow_succ', ← Nat.pow_add, show s + (31 - s).succ = 32 by omega], Nat.mul_assoc, Nat.add_mul_div_left _ _ (Nat.two_pow_pos s), Nat.mul_assoc, Nat.add_mul_mod_self_left]
theorem shr_u32 {x s : Nat} (hs : s ≤ 32) : shr .u32 (x : Int) (s : Int) = ((x / 2 ^ s : Nat) : Int) := by
  unfold shr
  rw [Int.toNat_natCast, Nat.min_eq_left (show s ≤ IntKind.u32.bits from hs), Int.natCast_ediv]
  simp
theorem limb_test {x s : Nat} (hs : s ≤ 32) (hx : x < 4294967296) : (bits .and .u32 (shr .u32 (x : Int) (s : Int)) 1 == 1) = decide (x / 2 ^ s % 2 = 1) := by
  have hlt : x / 2 ^ s < 4294967296 := Nat.lt_of_le_of_lt (Nat.div_le_self _ _) hx
  rw [shr_u32 hs, and_one hlt, Bool.eq_iff_iff]
  simp only [beq_iff_eq, decide_eq_true_eq]
  generalize x / 2 ^ s % 2 = z
  omega
theorem div_big {v n K : Nat} (h : v < 2 ^ (32 * n)) (hn : n ≤ K / 32) : v / 2 ^ K = 0 :=
  Nat.div_eq_of_lt (Nat.lt_of_lt_of_le h (Nat.pow_le_pow_right (by decide) (by omega)))
theorem div_val {l : List Int} {K : Nat} (ho : ok l = true) (hn : l.length ≤ K / 32) : val l / 2 ^ K = 0 := div_big (by rw [← pow_B]; exact val_lt ho) hn
theorem bit_f {l : List Int} {K : Nat} (ho : ok l = true) (hm : may l = true) (hK : K ≤ 4611686018427387904) : nat_Bit.f l (K : Int) = some (decide (val l / 2 ^ K % 2 = 1)) := by
  have hlen := may_length hm
  have hd : wrap64 (Int.tdiv (K : Int) 32) = ((K / 32 : Nat) : Int) := by
    rw [Int.tdiv_eq_ediv_of_nonneg (by omega)]; unfold wrap64; omega
  have hmd : Int.tmod (K : Int) 32 = ((K % 32 : Nat) : Int) := by rw [Int.tmod_eq_emod_of_nonneg (by omega)]; omega
  have hrd : rd l ((K / 32 : Nat) : Int) = l.getD (K / 32) 0 := by unfold rd; rw [Int.toNat_natCast]
  have c1 : (K : Int) ≥ 0 := by omega
  have c2 : 0 ≤ ((K / 32 : Nat) : Int) := by omega
  have c3 : 0 ≤ ((K % 32 : Nat) : Int) := by omega
  have hf : nat_May.f l = some true := by rw [may_f (by omega), hm]
  unfold nat_Bit.f
  rw [hf, Option.bind_some, if_pos rfl, hd, hmd, if_pos c1, hrd, if_pos c2, if_pos c3]
  by_cases hq : K / 32 < l.length
  · have hx := ok_get ho (K / 32)
    have hb := limb_bit (s := K % 32) ho (by omega) hq
    rw [show 32 * (K / 32) + K % 32 = K by omega] at hb
    rw [if_pos (by omega)]
    obtain ⟨x, hxe⟩ := Int.eq_ofNat_of_zero_le hx.1
    rw [hxe] at hb hx ⊢
    rw [Int.toNat_natCast] at hb
    rw [limb_test (by omega) (by omega), hb]
  · rw [if_neg (by omega), div_val ho (by omega)]
    rfl
end Go.Proofs.Ythdhpihfbggbbaa.Pure
