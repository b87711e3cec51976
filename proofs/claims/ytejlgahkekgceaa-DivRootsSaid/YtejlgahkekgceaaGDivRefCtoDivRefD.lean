/- Texts of the seat Ytejlgahkekgceaa that belong together, joined. -/
import Derived.Test.YtejlgahkekgceaaGDivPlaintoDivRef
import Derived.Test.YtejlgahkekgceaaGPDivx0toPDivx1
import Derived.Test.YtejlgahkekgceaaPDivx24
import Derived.Test.YtejlgahkekgceaaPDivx26
import Derived.Test.YtejlgahkekgceaaPDivx28
import Derived.Test.YtejlgahkekgceaaPDivx29
import Derived.Test.YtejlgahkekgceaaPDivx34
import Derived.Test.YtejlgahkekgceaaGDivShifttoDivRefB
import Derived.Test.YtejlgahkekgceaaPDivx27
import Derived.Test.YtejlgahkekgceaaPDivx30
import Derived.Test.YtejlgahkekgceaaPDivx32
/- The reference's Low, Cmp, Sub, Add, Of. -/
namespace Go.Proofs.Ytejlgahkekgceaa.Pure
open Go.RowKit Go.Proofs.Ytejlgahkekgceaa.PDiv Go.Proofs.YtejlgahkekgceaaW.PrintWords Go.Proofs.YtejlgahkekgceaaW.PrintLast Go.Proofs.YtejlgahkekgceaaW.PrintMore Go.Proofs.YtejlgahkekgceaaV

theorem length_le_of_val {l0 l1 : List Int} (h0 : ok l0 = true) (h1 : ok l1 = true) (n1 : norm l1) (hle : val l1 ≤ val l0) : l1.length ≤ l0.length := by
  rcases Nat.lt_or_ge l0.length l1.length with h | h
  · have := val_lt_of_length h0 h1 n1 h; omega
  · exact h
theorem cmpN_add (u v c : Nat) : cmpN (u + c) (v + c) = cmpN u v := by
  unfold cmpN
  by_cases h : u < v
  · rw [if_pos h, if_pos (by omega)]
  · rw [if_neg h, if_neg (by omega)]
    by_cases h2 : u = v
    · rw [if_pos h2, if_pos (by omega)]
    · rw [if_neg h2, if_neg (by omega)]
theorem rcmp_go {a b : List Int} (oa : ok a = true) (ob : ok b = true) (hl : a.length = b.length) (hm : a.length ≤ 65536) : ∀ (n k : Nat), n ≤ a.length → n < k → alidaderef01_Cmp.l0 k a b ((n : Int) - 1) = some (cmpN (val (a.take n)) (val (b.take n))) := by
  intro n
  induction n with
  | zero =>
    intro k hn hk
    obtain ⟨k, rfl⟩ : ∃ m, k = m + 1 := ⟨k - 1, by omega⟩
    simp only [alidaderef01_Cmp.l0]
    rw [if_neg (by omega)]; rfl
  | succ n ih =>
    intro k hn hk
    obtain ⟨k, rfl⟩ : ∃ m, k = m + 1 := ⟨k - 1, by omega⟩
    have hx := ok_get oa n
    have hy := ok_get ob n
    have hva := val_take_succ a n
    have hvb := val_take_succ b n
    have la := val_lt (ok_take oa n)
    have lb := val_lt (ok_take ob n)
    rw [List.length_take, Nat.min_eq_left (by omega)] at la lb
    obtain ⟨x, hxe⟩ := Int.eq_ofNat_of_zero_le hx.1
    obtain ⟨y, hye⟩ := Int.eq_ofNat_of_zero_le hy.1
    rw [hxe, Int.toNat_natCast] at hva
    rw [hye, Int.toNat_natCast] at hvb
    have e0 : ((n + 1 : Nat) : Int) - 1 = (n : Int) := by omega
    have hw : wrap64 ((n : Int) - 1) = (n : Int) - 1 := by unfold wrap64; omega
    have hra : rd a (n : Int) = (x : Int) := by unfold rd; rw [Int.toNat_natCast, hxe]
    have hrb : rd b (n : Int) = (y : Int) := by unfold rd; rw [Int.toNat_natCast, hye]
    have c1 : (n : Int) < (a.length : Int) := by omega
    have c2 : (n : Int) < (b.length : Int) := by omega
    have hih := ih k (by omega) (by omega)
    rw [hva, hvb]
    generalize B ^ n = P at *
    generalize val (a.take n) = u at *
    generalize val (b.take n) = v at *
    simp only [alidaderef01_Cmp.l0]
    rw [e0, if_pos (by omega), if_pos (by omega), if_pos c1, if_pos c2, hra, hrb, hw, hih]
    by_cases h1 : x < y
    · have := Nat.mul_le_mul_left P (show x + 1 ≤ y from h1)
      rw [Nat.mul_add] at this
      rw [if_pos (by omega)]
      unfold cmpN
      rw [if_pos (by omega)]
    · rw [if_neg (by omega)]
      by_cases h2 : y < x
      · have := Nat.mul_le_mul_left P (show y + 1 ≤ x from h2)
        rw [Nat.mul_add] at this
        rw [if_pos (by omega)]
        unfold cmpN
        rw [if_neg (by omega), if_neg (by omega)]
      · obtain rfl : x = y := by omega
        rw [if_neg (by omega), cmpN_add]
theorem len_val {a b : List Int} (oa : ok a = true) (ob : ok b = true) (mb : may b = true) (h : a.length < b.length) : val a < val b := by
  rcases Nat.lt_or_ge (val a) (val b) with h1 | h1
  · exact h1
  · have := length_le_of_val oa ob (may_norm mb) h1; omega
theorem rcmp_f {a b : List Int} {k : Nat} (oa : ok a = true) (ob : ok b = true) (hk : 100000 ≤ k) : alidaderef01_Cmp.f k a b = some (cmpS a b) := by
  obtain ⟨k, rfl⟩ : ∃ m, k = m + 1 := ⟨k - 1, by omega⟩
  unfold alidaderef01_Cmp.f cmpS
  rw [rmay_f oa, rmay_f ob, Option.bind_some]
  have ht : alidaderef01_Cmp.j0 (k + 1) a b true = some 0 := by simp only [alidaderef01_Cmp.j0, if_true]
  cases ma : may a with
  | false => exact ht
  | true =>
    rw [if_pos rfl, Option.bind_some]
    cases mb : may b with
    | false => exact ht
    | true =>
      have la := may_length ma
      have lb := may_length mb
      rw [if_pos rfl]
      have hf : alidaderef01_Cmp.j0 (k + 1) a b false = some (cmpN (val a) (val b)) := by
        simp only [alidaderef01_Cmp.j0, Bool.false_eq_true, if_false]
        by_cases h1 : a.length < b.length
        · have := len_val oa ob mb h1
          rw [if_pos (by omega)]; unfold cmpN; rw [if_pos this]
        · rw [if_neg (by omega)]
          by_cases h2 : b.length < a.length
          · have := len_val ob oa ma h2
            rw [if_pos (by omega)]; unfold cmpN; rw [if_neg (by omega), if_neg (by omega)]
          · have hw : wrap64 ((a.length : Int) - 1) = (a.length : Int) - 1 := by unfold wrap64; omega
            rw [if_neg (by omega), hw, rcmp_go oa ob (by omega) la a.length k (Nat.le_refl _) (by omega), List.take_of_length_le (Nat.le_refl _), List.take_of_length_le (by omega)]
      by_cases h0 : (a.length : Int) = 0
      · rw [if_pos h0]
        by_cases h1 : (b.length : Int) = 0
        · have ea : a = [] := List.length_eq_zero_iff.1 (by omega)
          have eb : b = [] := List.length_eq_zero_iff.1 (by omega)
          subst ea; subst eb
          rw [show ((([] : List Int).length : Int) == 0) = true from rfl, ht]; rfl
        · rw [beq_eq_false_iff_ne.2 h1, hf]; rfl
      · rw [if_neg h0, hf]; rfl
theorem radd_go {a b : List Int} {M : Nat} (oa : ok a = true) (ob : ok b = true) (hM : mx (a.length : Int) (b.length : Int) = (M : Int)) (ha : a.length ≤ M) (hb : b.length ≤ M) (hm : M ≤ 65536) (d : Nat) : ∀ (i k : Nat) (out : List Int) (c : Nat), i + d = M + 1 → 100000 + d < k → ok out = true → out.length = i → c ≤ 1 → (i = M + 1 → c = 0) →
    val out + B ^ i * c = val (a.take i) + val (b.take i) → alidaderef01_Add.l0 k a b out (c : Int) (i : Int) = some (fit (val a + val b)) := by
  induction d with
  | zero =>
    intro i k out c hi hk oo ho hc hcz hv
    obtain ⟨k, rfl⟩ : ∃ m, k = m + 1 := ⟨k - 1, by omega⟩
    obtain rfl := hcz (by omega)
    have h1 : ¬ (i : Int) ≤ (M : Int) := by omega
    have h2 : alidaderef01_cut.f k out = some (cut out) := rcut_f (by clear hv; omega) (by clear hv; omega)
    rw [List.take_of_length_le (by omega), List.take_of_length_le (by omega), Nat.mul_zero, Nat.add_zero] at hv
    simp only [alidaderef01_Add.l0]
    rw [hM, if_neg h1, h2, Option.bind_some, cut_fit oo, hv]
  | succ d ih =>
    intro i k out c hi hk oo ho hc hcz hv
    obtain ⟨k, rfl⟩ : ∃ m, k = m + 1 := ⟨k - 1, by omega⟩
    have c0 : (i : Int) ≤ (M : Int) := by clear hv; omega
    have c1 : out.length < 35184372088832 := by clear hv; omega
    have hx := ok_get oa i
    have hy := ok_get ob i
    have hva := val_take_succ a i
    have hvb := val_take_succ b i
    have zx : i + 1 = M + 1 → a.getD i 0 = 0 := fun h => by rw [List.getD_eq_getElem?_getD, List.getElem?_eq_none (by omega)]; rfl
    have zy : i + 1 = M + 1 → b.getD i 0 = 0 := fun h => by rw [List.getD_eq_getElem?_getD, List.getElem?_eq_none (by omega)]; rfl
    obtain ⟨x, hxe⟩ := Int.eq_ofNat_of_zero_le hx.1
    obtain ⟨y, hye⟩ := Int.eq_ofNat_of_zero_le hy.1
    rw [hxe, Int.toNat_natCast] at hva
    rw [hye, Int.toNat_natCast] at hvb
    rw [hxe] at hx zx
    rw [hye] at hy zy
    have hw : wrap64 ((i : Int) + 1) = ((i + 1 : Nat) : Int) := by unfold wrap64; omega
    have e1 : IntKind.u64.wrap (IntKind.u64.wrap ((x : Int) + (y : Int)) + (c : Int)) = ((x + y + c : Nat) : Int) := by
      rw [wraps_u64 ((x : Int) + (y : Int)) (by omega) (by omega), wraps_u64 _ (by omega) (by omega)]; omega
    have hD : x + y + c < 8589934592 := by omega
    have hz : i + 1 = M + 1 → (x + y + c) / 4294967296 = 0 := fun h => by have := zx h; have := zy h; omega
    have hDe : x + y + c = x + y + c := rfl
    generalize hDD : x + y + c = D at *
    have e2 : Int.tmod (D : Int) 4294967296 % 4294967296 = ((D % 4294967296 : Nat) : Int) := by rw [Int.tmod_eq_emod_of_nonneg (by omega)]; omega
    have e3 : IntKind.u64.wrap (Int.tdiv (D : Int) 4294967296) = ((D / 4294967296 : Nat) : Int) := by
      rw [Int.tdiv_eq_ediv_of_nonneg (by omega), wraps_u64 ((D : Int) / 4294967296) (by omega) (by omega)]; omega
    simp only [alidaderef01_Add.l0]
    rw [hM, if_pos c0, at_f oa, Option.bind_some, at_f ob, Option.bind_some, if_pos c1, hxe, hye, e1, e2, e3, hw]
    refine ih (i + 1) k _ _ (by clear hv hva hvb; omega) (by clear hv hva hvb; omega) ?_ (by simp; omega) (by omega) hz ?_
    · rw [ok_append]; exact ⟨oo, by rw [ok_cons]; exact ⟨by omega, rfl⟩⟩
    · rw [val_snoc, ho, Int.toNat_natCast, hva, hvb, Nat.pow_succ]
      have k1 : D % 4294967296 + B * (D / 4294967296) = x + y + c := by simp only [B]; omega
      have k2 := congrArg (fun z => B ^ i * z + val out) k1
      simp only [Nat.mul_add] at k2
      rw [Nat.mul_assoc]
      omega
theorem radd_f {a b : List Int} {k : Nat} (oa : ok a = true) (ob : ok b = true) (hk : 300000 ≤ k) : alidaderef01_Add.f k a b = some (addS a b) := by
  obtain ⟨k, rfl⟩ : ∃ m, k = m + 1 := ⟨k - 1, by omega⟩
  unfold alidaderef01_Add.f addS
  rw [rmay_f oa, rmay_f ob, Option.bind_some]
  have ht : alidaderef01_Add.j0 (k + 1) a b true = some [] := by simp only [alidaderef01_Add.j0, if_true]
  cases ma : may a with
  | false => exact ht
  | true =>
    rw [if_pos rfl, Option.bind_some]
    cases mb : may b with
    | false => exact ht
    | true =>
      have la := may_length ma
      have lb := may_length mb
      simp only [alidaderef01_Add.j0, Bool.not_true, Bool.false_eq_true, if_false]
      have hM : mx (a.length : Int) (b.length : Int) = ((max a.length b.length : Nat) : Int) := by unfold mx; split <;> omega
      exact radd_go oa ob hM (by omega) (by omega) (by omega) (max a.length b.length + 1) 0 k [] 0 (by omega) (by omega) rfl rfl (by omega) (by omega) (by simp [val])
end Go.Proofs.Ytejlgahkekgceaa.Pure

/- Plain numbers: the functions of div at the limbs of naturals. -/
namespace Go.Proofs.Ytejlgahkekgceaa.Pure
open Go.RowKit Go.Proofs.Ytejlgahkekgceaa.PDiv Go.Proofs.YtejlgahkekgceaaW.PrintWords Go.Proofs.YtejlgahkekgceaaW.PrintLast Go.Proofs.YtejlgahkekgceaaV

theorem lt_most {x m : Nat} (h : x < B ^ m) (hm : m ≤ 65536) : x < B ^ most := Nat.lt_of_lt_of_le h (Nat.pow_le_pow_right (by decide) (by rw [most_eq]; exact hm))
theorem toL_may {x : Nat} (h : x < B ^ most) : may (toL x) = true := may_toL h (by rw [most_eq]; omega)
theorem toL_len {x : Nat} (h : x < B ^ most) : (toL x).length ≤ 65536 := may_length (toL_may h)
theorem toN {l : List Int} {m : Nat} (ho : ok l = true) (hm : may l = true) (hl : l.length ≤ m) : ∃ x, x < B ^ m ∧ l = toL x := ⟨val l, val_lt_of ho hl, (toL_of_may ho hm).symm⟩
theorem toL_inj {x y : Nat} : toL x = toL y ↔ x = y := ⟨fun h => by rw [← val_toL x, h, val_toL], fun h => by rw [h]⟩
theorem toL_nil {x : Nat} : toL x = [] ↔ x = 0 := ⟨fun h => by rw [← val_toL x, h]; rfl, fun h => by rw [h, toL_zero]⟩
theorem toL_len0 {x : Nat} : ((toL x).length : Int) = 0 ↔ x = 0 := by
  rw [← toL_nil]
  constructor
  · intro h; exact List.length_eq_zero_iff.1 (by omega)
  · intro h; rw [h]; rfl
theorem addN {x y : Nat} (hx : x < B ^ most) (hy : y < B ^ most) (h : x + y < B ^ most) : nat_Add.f (toL x) (toL y) = some (toL (x + y)) := by
  rw [add_f (toL_ok _) (toL_ok _), addS_of (toL_may hx) (toL_may hy), val_toL, val_toL, fit_lt h]
theorem sameN {k x y : Nat} (hx : x < B ^ most) (hk : 1000000 ≤ k) : alidadelaw03_same.f k (toL x) (toL y) = some (decide (x = y)) := by
  have lx := toL_len hx
  rw [same_f (by omega) (by omega)]
  by_cases h : x = y
  · subst h; simp
  · rw [decide_eq_false h, decide_eq_false (fun e => h (toL_inj.1 e))]
theorem sameT {k x y : Nat} (e : x = y) (hx : x < B ^ most) (hk : 1000000 ≤ k) : alidadelaw03_same.f k (toL x) (toL y) = some true := by
  rw [sameN hx hk, decide_eq_true e]
theorem ofN {k u : Nat} (hk : 3 ≤ k) (h : u < 18446744073709551616) : nat_Of.f k (u : Int) = some (toL u) := by
  rw [of_f hk (by omega) (by omega), Int.toNat_natCast]
theorem bitsN {x : Nat} (hx : x < B ^ most) : nat_Bits.f (toL x) = some (blen x : Int) := by
  rw [bits_f (toL_ok _), toL_may hx, if_pos rfl, val_toL]
theorem cmpT {x y : Nat} (hx : x < B ^ most) (hy : y < B ^ most) : nat_Cmp.f (toL x) (toL y) = some (cmpN x y) := by
  rw [cmp_f (toL_ok _) (toL_ok _), cmpS_of (toL_may hx) (toL_may hy), val_toL, val_toL]
theorem cmpN_ge {x y : Nat} : cmpN x y ≥ 0 ↔ y ≤ x := by
  unfold cmpN; by_cases h1 : x < y
  · rw [if_pos h1]; omega
  · rw [if_neg h1]; split <;> omega
theorem cmpN_le {x y : Nat} : cmpN x y ≤ 0 ↔ x ≤ y := by
  unfold cmpN; by_cases h1 : x < y
  · rw [if_pos h1]; omega
  · rw [if_neg h1]; split <;> omega
theorem shlN {x K : Nat} (hx : x < B ^ most) (h0 : x ≠ 0) (hK : K ≤ 2097152) (h : x * 2 ^ K < B ^ most) : nat_Shl.f (toL x) (K : Int) = some (toL (x * 2 ^ K)) := by
  rw [shl_f (toL_ok _) (by omega)]
  unfold shlS
  rw [toL_may hx, decide_eq_true (show toL x ≠ [] from fun e => h0 (toL_nil.1 e)), decide_eq_true (show (0 : Int) ≤ (K : Int) by omega), decide_eq_true (show (K : Int) ≤ 2097152 by omega)]
  simp only [Bool.and_self, if_true]
  rw [val_toL, Int.toNat_natCast, fit_lt h]
theorem pow_32 (j : Nat) : B ^ j = 2 ^ (32 * j) := by rw [Nat.pow_mul]
theorem shrN {x K : Nat} (hx : x < B ^ most) (hK : K ≤ 4611686018427387904) : nat_Shr.f (toL x) (K : Int) = some (toL (x / 2 ^ K)) := by
  rw [shr_f (toL_ok _) (by omega)]
  unfold shrS
  rw [toL_may hx, decide_eq_true (show (0 : Int) ≤ (K : Int) by omega), val_toL, Int.toNat_natCast]
  by_cases h : (K : Int) / 32 < ((toL x).length : Int)
  · rw [decide_eq_true h]; rfl
  · rw [decide_eq_false h]
    have h2 : x < 2 ^ K := by
      have h3 : x < B ^ (toL x).length := by have := val_lt (toL_ok x); rw [val_toL] at this; exact this
      rw [pow_32] at h3
      exact Nat.lt_of_lt_of_le h3 (Nat.pow_le_pow_right (by decide) (by omega))
    rw [Nat.div_eq_of_lt h2, toL_zero]; rfl
theorem div_f {a b : List Int} (ha : ok a = true) (hb : ok b = true) : div_DivMod.f a b = some (divS a b) := by unfold div_DivMod.f; rw [if_pos ⟨ha, hb⟩]
theorem divN {x y : Nat} (hx : x < B ^ most) (hy : y < B ^ most) (h0 : y ≠ 0) : div_DivMod.f (toL x) (toL y) = some (toL (x / y), toL (x % y), 0) := by
  rw [div_f (toL_ok _) (toL_ok _)]
  unfold divS
  rw [toL_may hx, toL_may hy, if_pos (by rfl), if_neg (fun e => h0 (toL_nil.1 e)), val_toL, val_toL]
theorem divZ {x : Nat} (hx : x < B ^ most) : div_DivMod.f (toL x) [] = some ([], [], 41) := by
  rw [div_f (toL_ok _) rfl]
  unfold divS
  rw [toL_may hx, if_pos (by rfl), if_pos rfl]
theorem smallN {k x y : Nat} (hx : x < B ^ most) (h0 : 0 < y) (hy : y < 4294967296) (hk : 1000000 ≤ k) : div_Small.f k (toL x) (y : Int) = some (toL (x / y), ((x % y : Nat) : Int), 0) := by
  rw [small_val (toL_ok _) (toL_may hx) h0 hy hk, val_toL]
end Go.Proofs.Ytejlgahkekgceaa.Pure

/- Plain numbers: the reference's DivMod and Small. -/
namespace Go.Proofs.Ytejlgahkekgceaa.Pure
open Go.RowKit Go.Proofs.Ytejlgahkekgceaa.PDiv Go.Proofs.YtejlgahkekgceaaW.PrintWords Go.Proofs.YtejlgahkekgceaaW.PrintLast Go.Proofs.YtejlgahkekgceaaW.PrintMore Go.Proofs.YtejlgahkekgceaaV

theorem w64d {z : Int} (h : -4611686018427387904 ≤ z ∧ z ≤ 4611686018427387904) : wrap64 z = z := by unfold wrap64; omega
end Go.Proofs.Ytejlgahkekgceaa.Pure
