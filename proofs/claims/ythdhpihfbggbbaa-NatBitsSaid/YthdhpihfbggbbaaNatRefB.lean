/- Plain numbers: what the document's functions (part 1) tell, by values: shifts down, how many bits, a bit. -/
import Derived.Test.YthdhpihfbggbbaaNatRef
namespace Go.Proofs.Ythdhpihfbggbbaa.Pure
open Go.RowKit Go.Proofs.Ythdhpihfbggbbaa.PNat Go.Proofs.YthdhpihfbggbbaaW.PrintWords Go.Proofs.YthdhpihfbggbbaaW.PrintLast Go.Proofs.YthdhpihfbggbbaaW.PrintMore Go.Proofs.YthdhpihfbggbbaaV

/-! ### Shr -/
theorem shr_arith2 {x H P b : Nat} (hP : 0 < P) : (x + b * H) / P = (x + b * (H % P)) / P + b * (H / P) ∧ (x + b * H) % P = (x + b * (H % P)) % P := by
  have hH := Nat.div_add_mod H P
  have e : x + b * H = (x + b * (H % P)) + P * (b * (H / P)) := by
    have : b * H = b * (P * (H / P) + H % P) := by rw [hH]
    rw [this, Nat.mul_add, ← Nat.mul_assoc, Nat.mul_comm b P, Nat.mul_assoc]; omega
  constructor
  · rw [e, Nat.add_mul_div_left _ _ hP]
  · rw [e, Nat.add_mul_mod_self_left]
theorem rshr_go {L : List Int} {s : Nat} (oL : ok L = true) (hs : s < 32) (hla : L.length ≤ 65536) : ∀ (n k : Nat) (R : List Int) (r : Nat), n + R.length = L.length → 200000 + n < k → ok R = true → r = val (L.drop n) % 2 ^ s → val R = val (L.drop n) / 2 ^ s →
    alidaderef01_Shr.l0 k (L.take n ++ R) ((2 ^ s : Nat) : Int) (r : Int) ((n : Int) - 1) = some (fit (val L / 2 ^ s)) := by
  intro n
  induction n with
  | zero =>
    intro k R r hn hk oR hr hv
    obtain ⟨k, rfl⟩ : ∃ m, k = m + 1 := ⟨k - 1, by omega⟩
    rw [List.drop_zero] at hv
    simp only [alidaderef01_Shr.l0]
    rw [if_neg (by omega), List.take_zero, List.nil_append, rcut_f (by omega) (by omega), cut_fit oR, hv]; rfl
  | succ n ih =>
    intro k R r hn hk oR hr hv
    obtain ⟨k, rfl⟩ : ∃ m, k = m + 1 := ⟨k - 1, by omega⟩
    have hlt : n < L.length := by omega
    have hx := ok_get oL n
    have hpos := Nat.two_pow_pos s
    have hp : 2 ^ s ≤ 2 ^ 31 := Nat.pow_le_pow_right (by decide) (by omega)
    have hd : L.drop n = L.getD n 0 :: L.drop (n + 1) := by
      rw [List.drop_eq_getElem_cons hlt, List.getD_eq_getElem?_getD, List.getElem?_eq_getElem hlt]; rfl
    have htk : L.take (n + 1) = L.take n ++ [L.getD n 0] := by
      rw [List.take_succ_eq_append_getElem hlt, List.getD_eq_getElem?_getD, List.getElem?_eq_getElem hlt]; rfl
    obtain ⟨x, hxe⟩ := Int.eq_ofNat_of_zero_le hx.1
    rw [hxe] at hd htk hx
    have hvd : val (L.drop n) = x + 4294967296 * val (L.drop (n + 1)) := by rw [hd]; rfl
    have ha := shr_arith2 (x := x) (H := val (L.drop (n + 1))) (b := 4294967296) hpos
    rw [← hvd, ← hr, ← hv] at ha
    have hrlt : r < 2 ^ s := by rw [hr]; exact Nat.mod_lt _ hpos
    have e0 : ((n + 1 : Nat) : Int) - 1 = (n : Int) := by omega
    have hlen : ((L.take (n + 1) ++ R).length : Int) = (L.length : Int) := by simp; omega
    have hln : (L.take n).length = n := by simp; omega
    have hrd : rd (L.take (n + 1) ++ R) (n : Int) = (x : Int) := by
      unfold rd
      rw [Int.toNat_natCast, htk, List.append_assoc, List.getD_eq_getElem?_getD, List.getElem?_append_right (by omega), hln, Nat.sub_self]; rfl
    have hset : ∀ v : Int, (L.take (n + 1) ++ R).set n v = L.take n ++ ([v] ++ R) := fun v => by
      rw [htk, List.append_assoc, List.set_append_right _ _ (by omega), hln, Nat.sub_self]; rfl
    have hw : wrap64 ((n : Int) - 1) = (n : Int) - 1 := by unfold wrap64; omega
    have hz : ¬ ((2 ^ s : Nat) : Int) = 0 := by omega
    have c0 : (n : Int) < (L.length : Int) := by omega
    have hdig : (x + 4294967296 * r) / 2 ^ s < 4294967296 := by
      rw [Nat.div_lt_iff_lt_mul hpos]
      generalize 2 ^ s = P at *
      omega
    have e1 : IntKind.u64.wrap (IntKind.u64.wrap ((r : Int) * 4294967296) + IntKind.u64.wrap (x : Int)) = ((x + 4294967296 * r : Nat) : Int) := by
      generalize 2 ^ s = P at *
      rw [wraps_u64 ((r : Int) * 4294967296) (by omega) (by omega), wraps_u64 (x : Int) (by omega) (by omega), wraps_u64 _ (by omega) (by omega)]; omega
    have e2 : IntKind.u64.wrap (Int.tdiv ((x + 4294967296 * r : Nat) : Int) ((2 ^ s : Nat) : Int)) % 4294967296 = (((x + 4294967296 * r) / 2 ^ s : Nat) : Int) := by
      rw [Int.tdiv_eq_ediv_of_nonneg (by omega), ← Int.natCast_ediv]
      generalize (x + 4294967296 * r) / 2 ^ s = z at *
      rw [wraps_u64 _ (by omega) (by omega)]; omega
    have e3 : Int.tmod ((x + 4294967296 * r : Nat) : Int) ((2 ^ s : Nat) : Int) = (((x + 4294967296 * r) % 2 ^ s : Nat) : Int) := by
      rw [Int.tmod_eq_emod_of_nonneg (by omega), ← Int.natCast_emod]
    simp only [alidaderef01_Shr.l0]
    rw [e0, if_pos (by omega), if_pos (by omega), hlen, if_pos c0, if_neg hz, hrd, e1, e2, e3, hw, Int.toNat_natCast, hset]
    refine ih k _ _ (by simp; omega) (by omega) ?_ ha.2.symm ?_
    · rw [ok_append]; exact ⟨by rw [ok_cons]; exact ⟨by omega, rfl⟩, oR⟩
    · rw [ha.1, List.singleton_append]
      show Int.toNat _ + B * val R = _
      rw [Int.toNat_natCast]
theorem rshr_f {a : List Int} {K k : Nat} (oa : ok a = true) (ma : may a = true) (hK : K ≤ 2097152) (hk : 300000 ≤ k) : alidaderef01_Shr.f k a (K : Int) = some (shrS a (K : Int)) := by
  have hla := may_length ma
  obtain ⟨k, rfl⟩ : ∃ m, k = m + 1 := ⟨k - 1, by omega⟩
  have hd : wrap64 (Int.tdiv (K : Int) 32) = ((K / 32 : Nat) : Int) := by rw [Int.tdiv_eq_ediv_of_nonneg (by omega)]; unfold wrap64; omega
  have hmd : Int.tmod (K : Int) 32 = ((K % 32 : Nat) : Int) := by rw [Int.tmod_eq_emod_of_nonneg (by omega)]; omega
  unfold alidaderef01_Shr.f
  rw [rmay_f oa, ma, Option.bind_some, if_pos rfl, if_neg (by omega), hd]
  by_cases hq : a.length ≤ K / 32
  · rw [decide_eq_true (by omega)]
    simp only [alidaderef01_Shr.j0, if_true]
    unfold shrS; rw [if_neg (by simp [ma]; omega)]
  · have hl : (a.drop (K / 32)).length = a.length - K / 32 := List.length_drop
    have hw : wrap64 (((a.length - K / 32 : Nat) : Int) - 1) = ((a.length - K / 32 : Nat) : Int) - 1 := by unfold wrap64; omega
    rw [decide_eq_false (by omega)]
    simp only [alidaderef01_Shr.j0, Bool.false_eq_true, if_false]
    rw [Option.bind_some, hd, hmd, if_pos (by omega), if_pos (by omega), Int.toNat_natCast, if_pos (by rw [hl]; simp; omega), Option.bind_some, power_f (by omega) (by omega), Option.bind_some, List.nil_append, hl, hw]
    have := rshr_go (s := K % 32) (ok_drop oa (K / 32)) (by omega) (by omega) (a.length - K / 32) k [] 0 (by rw [hl]; rfl) (by omega) rfl (by rw [List.drop_of_length_le (by omega)]; simp [val]) (by rw [List.drop_of_length_le (by omega)]; simp [val])
    rw [List.append_nil, List.take_of_length_le (by omega), show ((0 : Nat) : Int) = 0 from rfl] at this
    rw [this, shrS_val ma oa, val_drop oa _ (by omega), Nat.div_div_eq_div_mul, pow_B, ← Nat.pow_add, show 32 * (K / 32) + K % 32 = K by omega]
    congr 1
    exact fit_small (m := a.length) (Nat.lt_of_le_of_lt (Nat.div_le_self _ _) (val_lt oa)) hla

/-! ### Bits -/
theorem rbits_go : ∀ (d : Nat) (x k : Nat) (c : Int), blen x = d → x < 4294967296 → 0 ≤ c → c + (d : Int) ≤ 4000000000 → d < k → alidaderef01_Bits.l0 k c (x : Int) = some (c + (d : Int)) := by
  intro d
  induction d with
  | zero =>
    intro x k c hx hlt h0 hc hk
    obtain ⟨k, rfl⟩ : ∃ m, k = m + 1 := ⟨k - 1, by omega⟩
    have : x = 0 := by have := blen_le.1 (Nat.le_of_eq hx); simpa using this
    subst this
    simp only [alidaderef01_Bits.l0]
    rw [if_neg (by decide)]; simp
  | succ d ih =>
    intro x k c hx hlt h0 hc hk
    obtain ⟨k, rfl⟩ : ∃ m, k = m + 1 := ⟨k - 1, by omega⟩
    have hx0 : x ≠ 0 := fun h => by rw [h] at hx; simp [blen] at hx
    have hh := blen_half hx0
    have hd32 : d + 1 ≤ 32 := by rw [← hx]; exact blen_le.2 hlt
    have hw : wrap64 (c + 1) = c + 1 := by unfold wrap64; omega
    have e1 : Int.tdiv (x : Int) 2 % 4294967296 = ((x / 2 : Nat) : Int) := by rw [Int.tdiv_eq_ediv_of_nonneg (by omega)]; omega
    simp only [alidaderef01_Bits.l0]
    rw [if_pos (by omega), hw, e1, ih (x / 2) k (c + 1) (by omega) (by omega) (by omega) (by omega) (by omega)]
    congr 1; omega
theorem rbits_f {l : List Int} {k : Nat} (ol : ok l = true) (hk : 100 ≤ k) : alidaderef01_Bits.f k l = some (if may l = true then (blen (val l) : Int) else 0) := by
  obtain ⟨k, rfl⟩ : ∃ m, k = m + 1 := ⟨k - 1, by omega⟩
  unfold alidaderef01_Bits.f
  rw [rmay_f ol, Option.bind_some]
  cases hm : may l with
  | false => rfl
  | true =>
    have hlen := may_length hm
    rw [if_pos rfl, if_pos rfl]
    rcases snoc_cases l with rfl | ⟨a, x, rfl⟩
    · rfl
    · have hx : x ≠ 0 := may_norm hm x (by simp)
      have hxo := (ok_cons.1 (ok_append.1 ol).2).1
      rw [blen_snoc ol hx]
      obtain ⟨X, rfl⟩ := Int.eq_ofNat_of_zero_le hxo.1
      have hle : blen X ≤ 32 := blen_le.2 (by omega)
      have hL : ((a ++ [(X : Int)]).length : Int) = (a.length : Int) + 1 := by simp
      have hal : (a.length : Int) ≤ 65535 := by omega
      have hw : wrap64 ((a.length : Int) + 1 - 1) = (a.length : Int) := by unfold wrap64; omega
      have hw2 : wrap64 (32 * (a.length : Int)) = 32 * (a.length : Int) := by unfold wrap64; omega
      have hrd : rd (a ++ [(X : Int)]) (a.length : Int) = (X : Int) := by
        unfold rd
        rw [Int.toNat_natCast, List.getD_eq_getElem?_getD, List.getElem?_append_right (Nat.le_refl _)]
        simp
      have hb : (((a ++ [(X : Int)]).length : Int) == 0) = false := by rw [hL]; exact beq_eq_false_iff_ne.2 (by omega)
      rw [hb]
      simp only [alidaderef01_Bits.j0, Bool.false_eq_true, if_false]
      rw [hL, hw, hrd, hw2, if_pos (by omega), if_pos (by omega), rbits_go (blen X) X k (32 * (a.length : Int)) rfl (by omega) (by omega) (by omega) (by omega), Int.toNat_natCast]
      congr 1
theorem rbit_f {l : List Int} {K k : Nat} (ol : ok l = true) (ml : may l = true) (hK : K ≤ 4611686018427387904) (hk : 100 ≤ k) : alidaderef01_Bit.f k l (K : Int) = some (decide (val l / 2 ^ K % 2 = 1)) := by
  have hlen := may_length ml
  have hd : wrap64 (Int.tdiv (K : Int) 32) = ((K / 32 : Nat) : Int) := by
    rw [Int.tdiv_eq_ediv_of_nonneg (by omega)]; unfold wrap64; omega
  have hmd : Int.tmod (K : Int) 32 = ((K % 32 : Nat) : Int) := by rw [Int.tmod_eq_emod_of_nonneg (by omega)]; omega
  have hrd : rd l ((K / 32 : Nat) : Int) = l.getD (K / 32) 0 := by unfold rd; rw [Int.toNat_natCast]
  have c1 : ¬ (K : Int) < 0 := by omega
  have c2 : 0 ≤ ((K / 32 : Nat) : Int) := by omega
  unfold alidaderef01_Bit.f
  rw [rmay_f ol, ml, Option.bind_some, if_pos rfl, if_neg c1, hd, hmd, hrd, if_pos c2]
  by_cases hq : K / 32 < l.length
  · have hx := ok_get ol (K / 32)
    have hb := limb_bit (s := K % 32) ol (by omega) hq
    rw [show 32 * (K / 32) + K % 32 = K by omega] at hb
    rw [if_neg (by omega), if_pos (by omega), power_f (by omega) (by omega), Option.bind_some]
    obtain ⟨x, hxe⟩ := Int.eq_ofNat_of_zero_le hx.1
    rw [hxe] at hb hx ⊢
    rw [Int.toNat_natCast] at hb
    have hpos := Nat.two_pow_pos (K % 32)
    rw [if_neg (by omega), wraps_u64 (x : Int) (by omega) (by omega), Int.tdiv_eq_ediv_of_nonneg (by omega), ← Int.natCast_ediv]
    have hlt : x / 2 ^ (K % 32) < 4294967296 := Nat.lt_of_le_of_lt (Nat.div_le_self _ _) (by omega)
    rw [← hb]
    generalize x / 2 ^ (K % 32) = z at *
    rw [wraps_u64 (z : Int) (by omega) (by omega), Int.tmod_eq_emod_of_nonneg (by omega)]
    congr 1
    rw [Bool.eq_iff_iff]
    simp only [beq_iff_eq, decide_eq_true_eq]
    omega
  · rw [if_pos (by omega), div_val ol (by omega)]
    rfl
end Go.Proofs.Ythdhpihfbggbbaa.Pure
