/- Plain numbers: what the printed functions of nat tell, by values. -/
import Derived.Test.YthdhpihfbggbbaaPNatx17
import Derived.Test.YthdhpihfbggbbaaVal
namespace Go.Proofs.Ythdhpihfbggbbaa.Pure
open Go.RowKit Go.Proofs.Ythdhpihfbggbbaa.PNat Go.Proofs.YthdhpihfbggbbaaW.PrintWords Go.Proofs.YthdhpihfbggbbaaW.PrintLast Go.Proofs.YthdhpihfbggbbaaV

theorem ok_of_wf {l : List Int} (h : ∀ x ∈ l, (Lit.int .u32 x).wf = true) : ok l = true := by
  simp only [ok, List.all_eq_true]
  intro x hx
  have := h x hx
  simp only [Lit.wf, IntKind.min, IntKind.max, IntKind.signed, IntKind.bits, Bool.and_eq_true] at this
  simp at this
  simp only [Bool.and_eq_true, decide_eq_true_eq]
  omega
theorem i64_of_wf {x : Int} (h : (Lit.int .i64 x).wf = true) : -9223372036854775808 ≤ x ∧ x ≤ 9223372036854775807 := by
  simp only [Lit.wf, IntKind.min, IntKind.max, IntKind.signed, IntKind.bits, Bool.and_eq_true] at h
  simp at h
  omega
theorem u64_of_wf {x : Int} (h : (Lit.int .u64 x).wf = true) : 0 ≤ x ∧ x ≤ 18446744073709551615 := by
  simp only [Lit.wf, IntKind.min, IntKind.max, IntKind.signed, IntKind.bits, Bool.and_eq_true] at h
  simp at h
  omega
theorem val_lt_of {l : List Int} {m : Nat} (h : ok l = true) (hl : l.length ≤ m) : val l < B ^ m :=
  Nat.lt_of_lt_of_le (val_lt h) (Nat.pow_le_pow_right (by decide) hl)
theorem add_lt_pow {x y m : Nat} (hx : x < B ^ m) (hy : y < B ^ m) : x + y < B ^ (m + 1) := by
  rw [Nat.pow_succ]
  generalize B ^ m = P at *
  simp only [B]
  omega
theorem lt_pow_succ {x m : Nat} (hx : x < B ^ m) : x < B ^ (m + 1) := Nat.lt_of_lt_of_le hx (Nat.pow_le_pow_right (by decide) (by omega))
theorem fit_small {n m : Nat} (h : n < B ^ m) (hm : m ≤ 65536) : fit n = toL n := by unfold fit; rw [if_pos (Nat.le_trans (toL_length_le.2 h) hm)]
theorem may_toL {n m : Nat} (h : n < B ^ m) (hm : m ≤ 65536) : may (toL n) = true := may_iff.2 ⟨Nat.le_trans (toL_length_le.2 h) hm, toL_norm n⟩
theorem toL_eq {n : Nat} {l : List Int} (ho : ok l = true) (hm : may l = true) (h : val l = n) : toL n = l := by rw [← h]; exact toL_of_may ho hm
theorem fit_eq {n : Nat} {l : List Int} (ho : ok l = true) (hm : may l = true) (h : val l = n) : fit n = l := by rw [← h]; exact fit_of_may ho hm

theorem same_go (a b : List Int) (hl : a.length = b.length) (hm : a.length ≤ 4611686018427387904) (d : Nat) :
    ∀ (i : Nat) (k : Nat), i + d = a.length → d < k → alidaderef01_Same.l0 k a b (i : Int) = some (decide (a.drop i = b.drop i)) := by
  induction d with
  | zero =>
    intro i k hi hk
    obtain ⟨k, rfl⟩ : ∃ m, k = m + 1 := ⟨k - 1, by omega⟩
    simp only [alidaderef01_Same.l0]
    rw [if_neg (by omega), List.drop_of_length_le (by omega), List.drop_of_length_le (by omega)]
    rfl
  | succ d ih =>
    intro i k hi hk
    obtain ⟨k, rfl⟩ : ∃ m, k = m + 1 := ⟨k - 1, by omega⟩
    have h1 : i < a.length := by omega
    have h2 : i < b.length := by omega
    have hw : wrap64 ((i : Int) + 1) = ((i + 1 : Nat) : Int) := by unfold wrap64; omega
    simp only [alidaderef01_Same.l0]
    have hd : (a.drop i = b.drop i) ↔ (a[i] = b[i] ∧ a.drop (i + 1) = b.drop (i + 1)) := by
      rw [List.drop_eq_getElem_cons h1, List.drop_eq_getElem_cons h2, List.cons.injEq]
    have hd2 : decide (a.drop i = b.drop i) = (decide (a[i] = b[i]) && decide (a.drop (i + 1) = b.drop (i + 1))) := by rw [Bool.eq_iff_iff]; simp [hd]
    rw [if_pos (by omega), if_pos (by omega), if_pos (by omega), hw, ih (i + 1) k (by omega) (by omega), hd2]
    have r1 : rd a (i : Int) = a[i] := by unfold rd; rw [Int.toNat_natCast, List.getD_eq_getElem?_getD, List.getElem?_eq_getElem h1]; rfl
    have r2 : rd b (i : Int) = b[i] := by unfold rd; rw [Int.toNat_natCast, List.getD_eq_getElem?_getD, List.getElem?_eq_getElem h2]; rfl
    rw [r1, r2]
    by_cases h : a[i] = b[i]
    · rw [if_pos h]; simp [h]
    · rw [if_neg h]; simp [h]
theorem Same_f {k : Nat} {a b : List Int} (hk : a.length < k) (hm : a.length ≤ 4611686018427387904) : alidaderef01_Same.f k a b = some (decide (a = b)) := by
  unfold alidaderef01_Same.f
  by_cases hl : a.length = b.length
  · rw [if_pos (by omega)]
    have := same_go a b hl hm a.length 0 k (by omega) hk
    rw [show ((0 : Nat) : Int) = 0 from rfl] at this
    rw [this, List.drop_zero, List.drop_zero]
  · rw [if_neg (by omega)]
    have : a ≠ b := fun h => hl (by rw [h])
    simp [this]
theorem same_f {k : Nat} {a b : List Int} (hk : a.length < k) (hm : a.length ≤ 4611686018427387904) : alidadelaw01_same.f k a b = some (decide (a = b)) := by
  unfold alidadelaw01_same.f
  rw [Same_f hk hm]; rfl
theorem may_f {l : List Int} (h : l.length ≤ 9223372036854775807) : nat_May.f l = some (may l) := nat_May_val l h
theorem add_f {a b : List Int} (ha : ok a = true) (hb : ok b = true) : nat_Add.f a b = some (addS a b) := by unfold nat_Add.f; rw [if_pos ⟨ha, hb⟩]
theorem sub_f {a b : List Int} (ha : ok a = true) (hb : ok b = true) : nat_Sub.f a b = some (subS a b) := by unfold nat_Sub.f; rw [if_pos ⟨ha, hb⟩]
theorem cmp_f {a b : List Int} (ha : ok a = true) (hb : ok b = true) : nat_Cmp.f a b = some (cmpS a b) := by unfold nat_Cmp.f; rw [if_pos ⟨ha, hb⟩]
theorem shl_f {a : List Int} {k : Int} (ha : ok a = true) (hk : -9223372036854775808 ≤ k ∧ k ≤ 9223372036854775807) : nat_Shl.f a k = some (shlS a k) := by unfold nat_Shl.f; rw [if_pos ⟨ha, hk⟩]
theorem shr_f {a : List Int} {k : Int} (ha : ok a = true) (hk : -9223372036854775808 ≤ k ∧ k ≤ 9223372036854775807) : nat_Shr.f a k = some (shrS a k) := by unfold nat_Shr.f; rw [if_pos ⟨ha, hk⟩]
theorem addS_of {a b : List Int} (ma : may a = true) (mb : may b = true) : addS a b = fit (val a + val b) := by unfold addS; rw [ma, mb]; rfl
theorem cmpS_of {a b : List Int} (ma : may a = true) (mb : may b = true) : cmpS a b = cmpN (val a) (val b) := by unfold cmpS; rw [ma, mb]; rfl
theorem subS_of {a b : List Int} (ma : may a = true) (mb : may b = true) (h : val b ≤ val a) : subS a b = (toL (val a - val b), true) := by unfold subS; rw [ma, mb, if_pos (by simp [h])]
theorem of_f {k : Nat} {u : Int} (hk : 3 ≤ k) (h0 : 0 ≤ u) (h1 : u < 18446744073709551616) : nat_Of.f k u = some (toL u.toNat) := by
  obtain ⟨n, rfl⟩ := Int.eq_ofNat_of_zero_le h0
  unfold nat_Of.f
  have ho : ok [(n : Int) % 4294967296, ((n : Int) / 4294967296) % 4294967296] = true := by
    rw [ok_cons]; refine ⟨by omega, ?_⟩; rw [ok_cons]; exact ⟨by omega, rfl⟩
  have hv : val [(n : Int) % 4294967296, ((n : Int) / 4294967296) % 4294967296] = n := by simp only [val, B]; omega
  have hc : nat_cut.f k [(n : Int) % 4294967296, ((n : Int) / 4294967296) % 4294967296] = some (toL n) := by
    have h := nat_cut_l0_val [(n : Int) % 4294967296, ((n : Int) / 4294967296) % 4294967296] k (by simp; omega) (by simp)
    unfold nat_cut.f
    rw [h, cut_fit ho, hv, fit_small (m := 2) (by simp only [B]; omega) (by omega)]
  rw [hc]; rfl
theorem val_zero_iff {l : List Int} (ho : ok l = true) (hm : may l = true) : val l = 0 ↔ l = [] := ⟨norm_zero ho (may_norm hm), fun h => by rw [h]; rfl⟩

theorem blen_le {n k : Nat} : blen n ≤ k ↔ n < 2 ^ k := by
  unfold blen
  by_cases h : n = 0
  · rw [if_pos h, h]; simp [Nat.two_pow_pos]
  · rw [if_neg h, ← Nat.log2_lt h]; omega
theorem lt_blen (n : Nat) : n < 2 ^ blen n := blen_le.1 (Nat.le_refl _)
theorem blen_half {n : Nat} (h : n ≠ 0) : blen n = 1 + blen (n / 2) := by
  unfold blen
  rw [if_neg h, Nat.log2_def]
  by_cases h2 : 2 ≤ n
  · rw [if_pos h2, if_neg (by omega)]; omega
  · rw [if_neg h2, if_pos (by omega)]
theorem bitLenAux_eq : ∀ (f n : Nat), n < 2 ^ f → Lib.bitLenAux f n = blen n
  | 0, n, h => by
    have : n = 0 := by simpa using h
    subst this; rfl
  | f + 1, n, h => by
    simp only [Lib.bitLenAux]
    by_cases h0 : n = 0
    · rw [if_pos h0, h0]; rfl
    · rw [if_neg h0, blen_half h0, bitLenAux_eq f (n / 2) (by rw [Nat.pow_succ] at h; omega)]
theorem bitLen_eq {n : Nat} (h : n < 2 ^ 64) : Lib.bitLen n = blen n := bitLenAux_eq 64 n h
/-- how many bits, by the last limb -/
theorem blen_snoc {l : List Int} {x : Int} (ho : ok (l ++ [x]) = true) (hx : x ≠ 0) : blen (val (l ++ [x])) = 32 * l.length + blen x.toNat := by
  rw [ok_append] at ho
  have h1 := val_lt ho.1
  have h2 := (ok_cons.1 ho.2).1
  rw [val_snoc]
  have hB : B ^ l.length = 2 ^ (32 * l.length) := by rw [Nat.pow_mul]
  rw [hB] at h1 ⊢
  generalize 32 * l.length = L at *
  generalize val l = r at *
  obtain ⟨X, rfl⟩ := Int.eq_ofNat_of_zero_le h2.1
  rw [Int.toNat_natCast]
  have key : ∀ j, r + 2 ^ L * X < 2 ^ (L + j) ↔ X < 2 ^ j := fun j => by
    rw [Nat.pow_add]
    constructor
    · intro h
      exact Nat.lt_of_mul_lt_mul_left (a := 2 ^ L) (by omega)
    · intro h
      have := Nat.mul_le_mul_left (2 ^ L) (show X + 1 ≤ 2 ^ j from h)
      rw [Nat.mul_add] at this
      omega
  have hp : 1 ≤ blen X := by
    rcases Nat.eq_zero_or_pos (blen X) with h | h
    · have := blen_le.1 (Nat.le_of_eq h)
      simp at this
      omega
    · exact h
  apply Nat.le_antisymm
  · exact blen_le.2 ((key _).2 (lt_blen X))
  · rcases Nat.lt_or_ge (blen (r + 2 ^ L * X)) (L + blen X) with h | h
    · have h3 : blen (r + 2 ^ L * X) ≤ L + (blen X - 1) := by omega
      have h4 := blen_le.2 ((key _).1 (blen_le.1 h3))
      omega
    · exact h
theorem bits_f {l : List Int} (ho : ok l = true) : nat_Bits.f l = some (if may l = true then (blen (val l) : Int) else 0) := by
  unfold nat_Bits.f
  by_cases hm : may l = true
  · have hlen := may_length hm
    rw [may_f (by omega), hm]
    simp only [Option.bind_some, if_true]
    rcases snoc_cases l with rfl | ⟨a, x, rfl⟩
    · rfl
    · have hx : x ≠ 0 := may_norm hm x (by simp)
      have hxo := (ok_cons.1 (ok_append.1 ho).2).1
      have hb := bitLen_eq (n := x.toNat) (by omega)
      have hle : blen x.toNat ≤ 32 := blen_le.2 (by omega)
      rw [blen_snoc ho hx]
      have hL : ((a ++ [x]).length : Int) = (a.length : Int) + 1 := by simp
      have hal : (a.length : Int) ≤ 65535 := by omega
      have hw : wrap64 ((a.length : Int) + 1 - 1) = (a.length : Int) := by unfold wrap64; omega
      have hrd : rd (a ++ [x]) (a.length : Int) = x := by
        unfold rd
        rw [Int.toNat_natCast, List.getD_eq_getElem?_getD, List.getElem?_append_right (Nat.le_refl _)]
        simp
      rw [hL, hw, hrd, if_neg (by omega), if_pos (by omega), if_pos (by omega)]
      unfold bits_Len32.f
      rw [if_pos (by omega), hb]
      simp only [Option.bind_some]
      have e1 : wrap64 (32 * (a.length : Int)) = 32 * (a.length : Int) := by unfold wrap64; omega
      rw [e1]
      congr 1
      unfold wrap64
      omega
  · have hm' : may l = false := by simpa using hm
    by_cases hl : l.length ≤ 9223372036854775807
    · rw [may_f hl, hm']; rfl
    · have : nat_May.f l = some false := by unfold nat_May.f; rw [if_neg (by omega)]
      rw [this, hm']; rfl
theorem awake_f {k : Nat} (hk : 4 ≤ k) : alidadelaw01_awake.f k = some true := by
  have e0 : toL (0 : Int).toNat = [] := toL_zero
  have e1 : toL (4294967296 : Int).toNat = [0, 1] := toL_eq (by decide) (by decide) (by decide)
  have e2 : addS [4294967295] [1] = [0, 1] := by rw [addS_of (by decide) (by decide)]; exact fit_eq (by decide) (by decide) (by decide)
  have e3 : subS [0, 1] [1] = ([4294967295], true) := by rw [subS_of (by decide) (by decide) (by decide)]; rw [toL_eq (l := [4294967295]) (by decide) (by decide) (by decide)]
  have e4 : shlS [1] 33 = [0, 2] := by unfold shlS; rw [if_pos (by decide)]; exact fit_eq (by decide) (by decide) (by decide)
  have e5 : shrS [0, 2] 33 = [1] := by unfold shrS; rw [if_pos (by decide)]; exact toL_eq (by decide) (by decide) (by decide)
  have e6 : blen (val [5]) = 3 := by decide
  unfold alidadelaw01_awake.f alidadelaw01_of_1.f alidadelaw01_of_2.f
  simp only [Option.bind_some]
  rw [sub_f (by decide) (by decide), e3]
  simp only [Option.bind_some]
  rw [of_f (by omega) (by decide) (by decide), e0]
  simp only [Option.bind_some]
  rw [if_pos (by decide), of_f (by omega) (by decide) (by decide), e1]
  simp only [Option.bind_some]
  rw [same_f (by simp; omega) (by simp), add_f (by decide) (by decide), e2]
  simp only [Option.bind_some, decide_true, if_true]
  rw [same_f (by simp; omega) (by simp), same_f (by simp; omega) (by simp), bits_f (by decide), shl_f (by decide) (by decide), e4, shr_f (by decide) (by decide), e5]
  rw [if_pos (by decide), e6]
  simp only [Option.bind_some, decide_true, if_true]
  rw [if_pos (by decide)]
  rw [same_f (by simp; omega) (by simp), same_f (by simp; omega) (by simp), may_f (by simp), may_f (by simp)]
  simp only [Option.bind_some, decide_true, if_true]
  rw [show may [1, 0] = false by decide]
  rfl
end Go.Proofs.Ythdhpihfbggbbaa.Pure
