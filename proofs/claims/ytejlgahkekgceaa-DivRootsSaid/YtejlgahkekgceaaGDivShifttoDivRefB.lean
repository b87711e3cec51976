/- Texts of the seat Ytejlgahkekgceaa that belong together, joined. -/
import Derived.Test.YtejlgahkekgceaaGDivPlaintoDivRef
import Derived.Laws.BitsLemmas
import Derived.Test.YtejlgahkekgceaaPDivx30
import Derived.Test.YtejlgahkekgceaaPDivx27
import Derived.Test.YtejlgahkekgceaaPDivx34
/- Shifts by values. -/
namespace Go.Proofs.Ytejlgahkekgceaa.Pure
open Go.RowKit Go.Proofs.Ytejlgahkekgceaa.PDiv Go.Proofs.YtejlgahkekgceaaW.PrintWords Go.Proofs.YtejlgahkekgceaaW.PrintLast Go.Proofs.YtejlgahkekgceaaW.PrintMore Go.Proofs.YtejlgahkekgceaaV

theorem pow_B (j : Nat) : B ^ j = 2 ^ (32 * j) := by rw [Nat.pow_mul]
theorem shlS_val {a : List Int} {K q : Nat} (ma : may a = true) (hK : K ≤ 2097152) (h : val a * 2 ^ K < B ^ q) (hq : q ≤ 65536) : shlS a (K : Int) = toL (val a * 2 ^ K) := by
  by_cases ha : a = []
  · subst ha
    have : shlS [] (K : Int) = [] := by unfold shlS; rw [if_neg (by simp)]
    rw [this, show val [] = 0 from rfl, Nat.zero_mul, toL_zero]
  · unfold shlS
    rw [if_pos (by simp [ma, ha]; omega), Int.toNat_natCast, fit_small h hq]
/-- a natural of so many limbs at most (a word of its own: no power in sight) -/
def Sm (v p : Nat) : Prop := v < B ^ p
theorem Sm.le {v u p : Nat} (h : Sm v p) (hu : u ≤ v) : Sm u p := Nat.lt_of_le_of_lt hu h
theorem Sm.may {v p : Nat} (h : Sm v p) (hp : p ≤ 65536) : may (toL v) = true := may_toL h hp
theorem Sm.length {v p : Nat} (h : Sm v p) : (toL v).length ≤ p := toL_length_le.2 h
theorem Sm.fit {v p : Nat} (h : Sm v p) (hp : p ≤ 65536) : fit v = toL v := fit_small h hp
theorem Sm.shl {a : List Int} {K q : Nat} (ma : Go.Proofs.YtejlgahkekgceaaV.may a = true) (h : Sm (val a * 2 ^ K) q) (hK : K ≤ 2097152) (hq : q ≤ 65536) : shlS a (K : Int) = toL (val a * 2 ^ K) := shlS_val ma hK h hq
theorem Sm.blen {v p : Nat} (h : Sm v p) : blen v ≤ 32 * p := blen_le.2 (by rw [← pow_B]; exact h)
end Go.Proofs.Ytejlgahkekgceaa.Pure

/- Bits of limbs. -/
namespace Go.Proofs.Ytejlgahkekgceaa.Pure
open Go.RowKit Go.Proofs.Ytejlgahkekgceaa.PDiv Go.Proofs.YtejlgahkekgceaaW.PrintWords Go.Proofs.YtejlgahkekgceaaW.PrintLast Go.Proofs.YtejlgahkekgceaaW.PrintMore Go.Proofs.YtejlgahkekgceaaV

theorem limb_bit {v : List Int} {q s : Nat} (ho : ok v = true) (hs : s < 32) (hq : q < v.length) : (v.getD q 0).toNat / 2 ^ s % 2 = val v / 2 ^ (32 * q + s) % 2 := by
  rw [Nat.pow_add, ← pow_B, ← Nat.div_div_eq_div_mul, ← val_drop ho q (by omega), List.drop_eq_getElem_cons hq, List.getD_eq_getElem?_getD, List.getElem?_eq_getElem hq]
  simp only [val, Option.getD_some]
  rw [show B = 2 ^ s * (2 * 2 ^ (31 - s)) by rw [← Nat.pow_succ', ← Nat.pow_add, show s + (31 - s).succ = 32 by omega], Nat.mul_assoc, Nat.add_mul_div_left _ _ (Nat.two_pow_pos s), Nat.mul_assoc, Nat.add_mul_mod_self_left]
theorem div_big {v n K : Nat} (h : v < 2 ^ (32 * n)) (hn : n ≤ K / 32) : v / 2 ^ K = 0 :=
  Nat.div_eq_of_lt (Nat.lt_of_lt_of_le h (Nat.pow_le_pow_right (by decide) (by omega)))
theorem div_val {l : List Int} {K : Nat} (ho : ok l = true) (hn : l.length ≤ K / 32) : val l / 2 ^ K = 0 := div_big (by rw [← pow_B]; exact val_lt ho) hn

end Go.Proofs.Ytejlgahkekgceaa.Pure

/- The reference's Shl. -/
namespace Go.Proofs.Ytejlgahkekgceaa.Pure
open Go.RowKit Go.Proofs.Ytejlgahkekgceaa.PDiv Go.Proofs.YtejlgahkekgceaaW.PrintWords Go.Proofs.YtejlgahkekgceaaW.PrintLast Go.Proofs.YtejlgahkekgceaaW.PrintMore Go.Proofs.YtejlgahkekgceaaV

theorem rshl_go {a : List Int} {q s : Nat} (oa : ok a = true) (hs : s < 32) (hla : a.length ≤ 65536) (hq : q ≤ 65536) (d : Nat) : ∀ (i k : Nat) (out : List Int) (c : Nat), i + d = a.length + 1 → 200000 + d < k → ok out = true → out.length = q + i → c < 2 ^ s → (i = a.length + 1 → c = 0) →
    val out + B ^ (q + i) * c = B ^ q * (val (a.take i) * 2 ^ s) →
    alidaderef01_Shl.l0 k a out ((2 ^ s : Nat) : Int) (c : Int) (i : Int) = some (fit (B ^ q * (val a * 2 ^ s))) := by
  induction d with
  | zero =>
    intro i k out c hi hk oo hl hc hcz hv
    obtain ⟨k, rfl⟩ : ∃ m, k = m + 1 := ⟨k - 1, by omega⟩
    obtain rfl := hcz (by omega)
    rw [Nat.mul_zero, Nat.add_zero, List.take_of_length_le (by omega)] at hv
    simp only [alidaderef01_Shl.l0]
    rw [if_neg (by omega), rcut_f (by omega) (by omega), cut_fit oo, hv]; rfl
  | succ d ih =>
    intro i k out c hi hk oo hl hc hcz hv
    obtain ⟨k, rfl⟩ : ∃ m, k = m + 1 := ⟨k - 1, by omega⟩
    have c0 : (i : Int) ≤ (a.length : Int) := by clear hv; omega
    have c1 : out.length < 35184372088832 := by clear hv; omega
    have hx := ok_get oa i
    obtain ⟨x, hxe⟩ := Int.eq_ofNat_of_zero_le hx.1
    have hp : 2 ^ s ≤ 2 ^ 31 := Nat.pow_le_pow_right (by decide) (by omega)
    have hpos := Nat.two_pow_pos s
    have hvt := val_take_succ a i
    rw [hxe, Int.toNat_natCast] at hvt
    rw [hxe] at hx
    have hw : wrap64 ((i : Int) + 1) = ((i + 1 : Nat) : Int) := by unfold wrap64; omega
    generalize hP : 2 ^ s = P at *
    have h1 : (x + 1) * P ≤ 4294967296 * P := Nat.mul_le_mul_right _ (by omega)
    rw [Nat.add_mul, Nat.one_mul] at h1
    have e1 : IntKind.u64.wrap (IntKind.u64.wrap ((x : Int) * (P : Int)) + (c : Int)) = ((x * P + c : Nat) : Int) := by
      rw [wraps_u64 ((x : Int) * (P : Int)) (by rw [← Int.natCast_mul]; omega) (by rw [← Int.natCast_mul]; omega), ← Int.natCast_mul, wraps_u64 _ (by omega) (by omega)]; rfl
    have e2 : Int.tmod ((x * P + c : Nat) : Int) 4294967296 % 4294967296 = (((x * P + c) % 4294967296 : Nat) : Int) := by
      rw [Int.tmod_eq_emod_of_nonneg (by omega)]; omega
    have e3 : IntKind.u64.wrap (Int.tdiv ((x * P + c : Nat) : Int) 4294967296) = (((x * P + c) / 4294967296 : Nat) : Int) := by
      rw [Int.tdiv_eq_ediv_of_nonneg (by omega), wraps_u64 _ (by omega) (by omega)]; omega
    simp only [alidaderef01_Shl.l0]
    rw [if_pos c0, at_f oa, Option.bind_some, if_pos c1, hxe, e1, e2, e3, hw]
    refine ih (i + 1) k _ _ (by omega) (by omega) ?_ (by simp; omega) ?_ ?_ ?_
    · rw [ok_append]; exact ⟨oo, by rw [ok_cons]; exact ⟨by omega, rfl⟩⟩
    · rw [Nat.div_lt_iff_lt_mul (by decide)]; omega
    · intro hi2
      have : x = 0 := by
        have hn : a.getD i 0 = 0 := by rw [List.getD_eq_getElem?_getD, List.getElem?_eq_none (by omega)]; rfl
        omega
      subst this
      rw [Nat.zero_mul, Nat.zero_add]
      exact Nat.div_eq_of_lt (by omega)
    · rw [val_snoc, hl, Int.toNat_natCast, hvt, show q + (i + 1) = (q + i) + 1 by omega, Nat.pow_succ, Nat.mul_assoc, Nat.add_assoc, ← Nat.mul_add]
      rw [show (x * P + c) % 4294967296 + B * ((x * P + c) / 4294967296) = x * P + c by simp only [B]; omega]
      rw [Nat.mul_add, Nat.add_mul, Nat.mul_add (B ^ q), ← hv, Nat.pow_add]
      simp only [Nat.mul_assoc]
      omega
theorem rshl_f {a : List Int} {K k : Nat} (oa : ok a = true) (ma : may a = true) (hK : K ≤ 2097152) (hk : 300000 ≤ k) : alidaderef01_Shl.f k a (K : Int) = some (shlS a (K : Int)) := by
  have hla := may_length ma
  obtain ⟨k, rfl⟩ : ∃ m, k = m + 1 := ⟨k - 1, by omega⟩
  unfold alidaderef01_Shl.f
  rw [rmay_f oa, ma, Option.bind_some, if_pos rfl, if_neg (by omega)]
  by_cases ha : (a.length : Int) = 0
  · have : a = [] := List.length_eq_zero_iff.1 (by omega)
    subst this
    rw [if_pos ha]
    simp only [alidaderef01_Shl.j0, if_true]
    unfold shlS; rw [if_neg (by simp)]
  · have hd : wrap64 (Int.tdiv (K : Int) 32) = ((K / 32 : Nat) : Int) := by rw [Int.tdiv_eq_ediv_of_nonneg (by omega)]; unfold wrap64; omega
    have hmd : Int.tmod (K : Int) 32 = ((K % 32 : Nat) : Int) := by rw [Int.tmod_eq_emod_of_nonneg (by omega)]; omega
    rw [if_neg ha, decide_eq_false (by omega)]
    simp only [alidaderef01_Shl.j0, Bool.false_eq_true, if_false]
    rw [hd, hmd, if_pos (by omega), Int.toNat_natCast, if_pos (by omega), power_f (by omega) (by omega), Option.bind_some]
    have := rshl_go (q := K / 32) (s := K % 32) oa (by omega) hla (by omega) (a.length + 1) 0 k (List.replicate (K / 32) 0) 0 (by omega) (by omega) (ok_zeros _) (by simp) (Nat.two_pow_pos _) (by omega) (by rw [val_zeros]; simp [val])
    rw [show ((0 : Nat) : Int) = 0 from rfl] at this
    rw [this]
    unfold shlS
    rw [if_pos (by simp [ma]; refine ⟨fun h => ha (by rw [h]; rfl), by omega⟩), Int.toNat_natCast]
    congr 2
    rw [pow_B, ← Nat.mul_assoc, Nat.mul_comm (2 ^ (32 * (K / 32))), Nat.mul_assoc, ← Nat.pow_add, show 32 * (K / 32) + K % 32 = K by omega]

end Go.Proofs.Ytejlgahkekgceaa.Pure

/- The reference's Bits and Bit. -/
namespace Go.Proofs.Ytejlgahkekgceaa.Pure
open Go.RowKit Go.Proofs.Ytejlgahkekgceaa.PDiv Go.Proofs.YtejlgahkekgceaaW.PrintWords Go.Proofs.YtejlgahkekgceaaW.PrintLast Go.Proofs.YtejlgahkekgceaaW.PrintMore Go.Proofs.YtejlgahkekgceaaV

theorem rbits_go : ∀ (d : Nat) (x k : Nat) (c : Int), blen x = d → x < 4294967296 → 0 ≤ c → c + (d : Int) ≤ 4000000000 → d < k → alidaderef01_Bits.l0 k c (x : Int) = some (c + (d : Int)) := by
  intro d
  induction d with
  | zero =>
    intro x k c hx hlt h0 hc hk
    obtain ⟨k, rfl⟩ : ∃ m, k = m + 1 := ⟨k - 1, by omega⟩
    have : x = 0 := by have := blen_le.1 (Nat.le_of_eq hx); simpa using this
    subst this
    simp only [alidaderef01_Bits.l0]
    rw [if_neg (by decide)]; simp
  | succ d ih =>
    intro x k c hx hlt h0 hc hk
    obtain ⟨k, rfl⟩ : ∃ m, k = m + 1 := ⟨k - 1, by omega⟩
    have hx0 : x ≠ 0 := fun h => by rw [h] at hx; simp [blen] at hx
    have hh := blen_half hx0
    have hd32 : d + 1 ≤ 32 := by rw [← hx]; exact blen_le.2 hlt
    have hw : wrap64 (c + 1) = c + 1 := by unfold wrap64; omega
    have e1 : Int.tdiv (x : Int) 2 % 4294967296 = ((x / 2 : Nat) : Int) := by rw [Int.tdiv_eq_ediv_of_nonneg (by omega)]; omega
    simp only [alidaderef01_Bits.l0]
    rw [if_pos (by omega), hw, e1, ih (x / 2) k (c + 1) (by omega) (by omega) (by omega) (by omega) (by omega)]
    congr 1; omega
theorem rbits_f {l : List Int} {k : Nat} (ol : ok l = true) (hk : 100 ≤ k) : alidaderef01_Bits.f k l = some (if may l = true then (blen (val l) : Int) else 0) := by
  obtain ⟨k, rfl⟩ : ∃ m, k = m + 1 := ⟨k - 1, by omega⟩
  unfold alidaderef01_Bits.f
  rw [rmay_f ol, Option.bind_some]
  cases hm : may l with
  | false => rfl
  | true =>
    have hlen := may_length hm
    rw [if_pos rfl, if_pos rfl]
    rcases snoc_cases l with rfl | ⟨a, x, rfl⟩
    · rfl
    · have hx : x ≠ 0 := may_norm hm x (by simp)
      have hxo := (ok_cons.1 (ok_append.1 ol).2).1
      rw [blen_snoc ol hx]
      obtain ⟨X, rfl⟩ := Int.eq_ofNat_of_zero_le hxo.1
      have hle : blen X ≤ 32 := blen_le.2 (by omega)
      have hL : ((a ++ [(X : Int)]).length : Int) = (a.length : Int) + 1 := by simp
      have hal : (a.length : Int) ≤ 65535 := by omega
      have hw : wrap64 ((a.length : Int) + 1 - 1) = (a.length : Int) := by unfold wrap64; omega
      have hw2 : wrap64 (32 * (a.length : Int)) = 32 * (a.length : Int) := by unfold wrap64; omega
      have hrd : rd (a ++ [(X : Int)]) (a.length : Int) = (X : Int) := by
        unfold rd
        rw [Int.toNat_natCast, List.getD_eq_getElem?_getD, List.getElem?_append_right (Nat.le_refl _)]
        simp
      have hb : (((a ++ [(X : Int)]).length : Int) == 0) = false := by rw [hL]; exact beq_eq_false_iff_ne.2 (by omega)
      rw [hb]
      simp only [alidaderef01_Bits.j0, Bool.false_eq_true, if_false]
      rw [hL, hw, hrd, hw2, if_pos (by omega), if_pos (by omega), rbits_go (blen X) X k (32 * (a.length : Int)) rfl (by omega) (by omega) (by omega) (by omega), Int.toNat_natCast]
      congr 1
theorem rbit_f {l : List Int} {K k : Nat} (ol : ok l = true) (ml : may l = true) (hK : K ≤ 4611686018427387904) (hk : 100 ≤ k) : alidaderef01_Bit.f k l (K : Int) = some (decide (val l / 2 ^ K % 2 = 1)) := by
  have hlen := may_length ml
  have hd : wrap64 (Int.tdiv (K : Int) 32) = ((K / 32 : Nat) : Int) := by
    rw [Int.tdiv_eq_ediv_of_nonneg (by omega)]; unfold wrap64; omega
  have hmd : Int.tmod (K : Int) 32 = ((K % 32 : Nat) : Int) := by rw [Int.tmod_eq_emod_of_nonneg (by omega)]; omega
  have hrd : rd l ((K / 32 : Nat) : Int) = l.getD (K / 32) 0 := by unfold rd; rw [Int.toNat_natCast]
  have c1 : ¬ (K : Int) < 0 := by omega
  have c2 : 0 ≤ ((K / 32 : Nat) : Int) := by omega
  unfold alidaderef01_Bit.f
  rw [rmay_f ol, ml, Option.bind_some, if_pos rfl, if_neg c1, hd, hmd, hrd, if_pos c2]
  by_cases hq : K / 32 < l.length
  · have hx := ok_get ol (K / 32)
    have hb := limb_bit (s := K % 32) ol (by omega) hq
    rw [show 32 * (K / 32) + K % 32 = K by omega] at hb
    rw [if_neg (by omega), if_pos (by omega), power_f (by omega) (by omega), Option.bind_some]
    obtain ⟨x, hxe⟩ := Int.eq_ofNat_of_zero_le hx.1
    rw [hxe] at hb hx ⊢
    rw [Int.toNat_natCast] at hb
    have hpos := Nat.two_pow_pos (K % 32)
    rw [if_neg (by omega), wraps_u64 (x : Int) (by omega) (by omega), Int.tdiv_eq_ediv_of_nonneg (by omega), ← Int.natCast_ediv]
    have hlt : x / 2 ^ (K % 32) < 4294967296 := Nat.lt_of_le_of_lt (Nat.div_le_self _ _) (by omega)
    rw [← hb]
    generalize x / 2 ^ (K % 32) = z at *
    rw [wraps_u64 (z : Int) (by omega) (by omega), Int.tmod_eq_emod_of_nonneg (by omega)]
    congr 1
    rw [Bool.eq_iff_iff]
    simp only [beq_iff_eq, decide_eq_true_eq]
    omega
  · rw [if_pos (by omega), div_val ol (by omega)]
    rfl

end Go.Proofs.Ytejlgahkekgceaa.Pure
