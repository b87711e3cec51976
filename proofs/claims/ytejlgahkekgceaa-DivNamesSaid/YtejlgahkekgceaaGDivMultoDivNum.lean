/- Texts of the seat Ytejlgahkekgceaa that belong together, joined. -/
import Derived.Test.YtejlgahkekgceaaDivPlain
import Derived.Test.YtejlgahkekgceaaPDivx41
/- Products by values. -/
namespace Go.Proofs.Ytejlgahkekgceaa.Pure
open Go.RowKit Go.Proofs.Ytejlgahkekgceaa.PDiv Go.Proofs.YtejlgahkekgceaaW.PrintWords Go.Proofs.YtejlgahkekgceaaW.PrintLast Go.Proofs.YtejlgahkekgceaaW.PrintMore Go.Proofs.YtejlgahkekgceaaV

def mulS (a b : List Int) : List Int := if may a && may b then fit (val a * val b) else []
theorem mulS_of {a b : List Int} (ma : may a = true) (mb : may b = true) : mulS a b = fit (val a * val b) := by unfold mulS; rw [ma, mb]; rfl
theorem fits_f {l : List Int} {k : Nat} (hk : l.length < k) (hm : l.length ≤ 4611686018427387904) : mul_fits.f k l = some (cut l) := by
  unfold mul_fits.f cut
  rw [trim_f hk hm, Option.bind_some]
  by_cases h : (strip l).length ≤ 65536
  · rw [if_neg (by omega), if_pos h]
  · rw [if_pos (by omega), if_neg h]
theorem norm_ge {l : List Int} (ho : ok l = true) (hn : norm l) (h : l ≠ []) : B ^ (l.length - 1) ≤ val l := by
  refine Nat.le_of_not_lt fun h2 => ?_
  have h3 := toL_length_le.2 h2
  rw [toL_val ho hn] at h3
  have : l.length ≠ 0 := fun e => h (List.length_eq_zero_iff.1 e)
  omega
theorem mul_long {a b : List Int} (oa : ok a = true) (ob : ok b = true) (ma : may a = true) (mb : may b = true) (h : a.length + b.length > 65537) : fit (val a * val b) = [] := by
  have la := may_length ma
  have lb := may_length mb
  have ga := norm_ge oa (may_norm ma) (by intro e; rw [e, List.length_nil] at h; omega)
  have gb := norm_ge ob (may_norm mb) (by intro e; rw [e, List.length_nil] at h; omega)
  refine fit_ge (Nat.not_lt.2 (Nat.le_trans ?_ (Nat.mul_le_mul ga gb)))
  rw [← Nat.pow_add]
  exact Nat.pow_le_pow_right (by decide) (by rw [most_eq]; omega)
theorem mul_f {k : Nat} {a b : List Int} (oa : ok a = true) (ob : ok b = true) (ha : a.length ≤ 4611686018427387904) (hb : b.length ≤ 4611686018427387904) (hk : 1000000 ≤ k) : mul_Mul.f k a b = some (mulS a b) := by
  obtain ⟨k, rfl⟩ : ∃ m, k = m + 1 := ⟨k - 1, by omega⟩
  have ht : mul_Mul.j0 (k + 1) a b true = some [] := by simp only [mul_Mul.j0, if_true]
  unfold mul_Mul.f
  rw [may_f (by omega), Option.bind_some]
  cases ma : may a with
  | false => rw [if_neg (by decide), ht]; simp [mulS, ma]
  | true =>
    rw [if_pos rfl, may_f (by omega), Option.bind_some]
    cases mb : may b with
    | false => rw [if_neg (by decide), ht]; simp [mulS, ma, mb]
    | true =>
      have la := may_length ma
      have lb := may_length mb
      rw [if_pos rfl, w64n (by omega), mulS_of ma mb]
      by_cases hl : a.length + b.length > 65537
      · rw [decide_eq_true (by omega), ht, mul_long oa ob ma mb hl]
      · rw [decide_eq_false (by omega)]
        simp only [mul_Mul.j0, Bool.false_eq_true, if_false]
        have hp : mul_product.f a b = some (toL (val a * val b)) := by unfold mul_product.f; rw [if_pos ⟨oa, ob, by omega, by omega⟩]
        have hlen : (toL (val a * val b)).length ≤ a.length + b.length := toL_length_le.2 (mul_lt_pow (val_lt oa) (val_lt ob))
        rw [hp, Option.bind_some, fits_f (by omega) (by omega), Option.bind_some, cut_fit (toL_ok _), val_toL]

end Go.Proofs.Ytejlgahkekgceaa.Pure

/- Plain numbers: the functions of div at the limbs of naturals. -/
namespace Go.Proofs.Ytejlgahkekgceaa.Pure
open Go.RowKit Go.Proofs.Ytejlgahkekgceaa.PDiv Go.Proofs.YtejlgahkekgceaaW.PrintWords Go.Proofs.YtejlgahkekgceaaW.PrintLast Go.Proofs.YtejlgahkekgceaaV

theorem lt_most {x m : Nat} (h : x < B ^ m) (hm : m ≤ 65536) : x < B ^ most := Nat.lt_of_lt_of_le h (Nat.pow_le_pow_right (by decide) (by rw [most_eq]; exact hm))
theorem toL_may {x : Nat} (h : x < B ^ most) : may (toL x) = true := may_toL h (by rw [most_eq]; omega)
theorem toL_len {x : Nat} (h : x < B ^ most) : (toL x).length ≤ 65536 := may_length (toL_may h)
theorem toL_inj {x y : Nat} : toL x = toL y ↔ x = y := ⟨fun h => by rw [← val_toL x, h, val_toL], fun h => by rw [h]⟩
theorem toL_nil {x : Nat} : toL x = [] ↔ x = 0 := ⟨fun h => by rw [← val_toL x, h]; rfl, fun h => by rw [h, toL_zero]⟩
theorem toL_len0 {x : Nat} : ((toL x).length : Int) = 0 ↔ x = 0 := by
  rw [← toL_nil]
  constructor
  · intro h; exact List.length_eq_zero_iff.1 (by omega)
  · intro h; rw [h]; rfl
theorem addN {x y : Nat} (hx : x < B ^ most) (hy : y < B ^ most) (h : x + y < B ^ most) : nat_Add.f (toL x) (toL y) = some (toL (x + y)) := by
  rw [add_f (toL_ok _) (toL_ok _), addS_of (toL_may hx) (toL_may hy), val_toL, val_toL, fit_lt h]
theorem sameN {k x y : Nat} (hx : x < B ^ most) (hk : 1000000 ≤ k) : alidadelaw03_same.f k (toL x) (toL y) = some (decide (x = y)) := by
  have lx := toL_len hx
  rw [same_f (by omega) (by omega)]
  by_cases h : x = y
  · subst h; simp
  · rw [decide_eq_false h, decide_eq_false (fun e => h (toL_inj.1 e))]
theorem sameT {k x y : Nat} (e : x = y) (hx : x < B ^ most) (hk : 1000000 ≤ k) : alidadelaw03_same.f k (toL x) (toL y) = some true := by
  rw [sameN hx hk, decide_eq_true e]
theorem ofN {k u : Nat} (hk : 3 ≤ k) (h : u < 18446744073709551616) : nat_Of.f k (u : Int) = some (toL u) := by
  rw [of_f hk (by omega) (by omega), Int.toNat_natCast]
theorem bitsN {x : Nat} (hx : x < B ^ most) : nat_Bits.f (toL x) = some (blen x : Int) := by
  rw [bits_f (toL_ok _), toL_may hx, if_pos rfl, val_toL]
theorem cmpT {x y : Nat} (hx : x < B ^ most) (hy : y < B ^ most) : nat_Cmp.f (toL x) (toL y) = some (cmpN x y) := by
  rw [cmp_f (toL_ok _) (toL_ok _), cmpS_of (toL_may hx) (toL_may hy), val_toL, val_toL]
theorem cmpN_ge {x y : Nat} : cmpN x y ≥ 0 ↔ y ≤ x := by
  unfold cmpN; by_cases h1 : x < y
  · rw [if_pos h1]; omega
  · rw [if_neg h1]; split <;> omega
theorem shlN {x K : Nat} (hx : x < B ^ most) (h0 : x ≠ 0) (hK : K ≤ 2097152) (h : x * 2 ^ K < B ^ most) : nat_Shl.f (toL x) (K : Int) = some (toL (x * 2 ^ K)) := by
  rw [shl_f (toL_ok _) (by omega)]
  unfold shlS
  rw [toL_may hx, decide_eq_true (show toL x ≠ [] from fun e => h0 (toL_nil.1 e)), decide_eq_true (show (0 : Int) ≤ (K : Int) by omega), decide_eq_true (show (K : Int) ≤ 2097152 by omega)]
  simp only [Bool.and_self, if_true]
  rw [val_toL, Int.toNat_natCast, fit_lt h]
theorem pow_32 (j : Nat) : B ^ j = 2 ^ (32 * j) := by rw [Nat.pow_mul]
theorem shrN {x K : Nat} (hx : x < B ^ most) (hK : K ≤ 4611686018427387904) : nat_Shr.f (toL x) (K : Int) = some (toL (x / 2 ^ K)) := by
  rw [shr_f (toL_ok _) (by omega)]
  unfold shrS
  rw [toL_may hx, decide_eq_true (show (0 : Int) ≤ (K : Int) by omega), val_toL, Int.toNat_natCast]
  by_cases h : (K : Int) / 32 < ((toL x).length : Int)
  · rw [decide_eq_true h]; rfl
  · rw [decide_eq_false h]
    have h2 : x < 2 ^ K := by
      have h3 : x < B ^ (toL x).length := by have := val_lt (toL_ok x); rw [val_toL] at this; exact this
      rw [pow_32] at h3
      exact Nat.lt_of_lt_of_le h3 (Nat.pow_le_pow_right (by decide) (by omega))
    rw [Nat.div_eq_of_lt h2, toL_zero]; rfl
theorem div_f {a b : List Int} (ha : ok a = true) (hb : ok b = true) : div_DivMod.f a b = some (divS a b) := by unfold div_DivMod.f; rw [if_pos ⟨ha, hb⟩]
theorem divN {x y : Nat} (hx : x < B ^ most) (hy : y < B ^ most) (h0 : y ≠ 0) : div_DivMod.f (toL x) (toL y) = some (toL (x / y), toL (x % y), 0) := by
  rw [div_f (toL_ok _) (toL_ok _)]
  unfold divS
  rw [toL_may hx, toL_may hy, if_pos (by rfl), if_neg (fun e => h0 (toL_nil.1 e)), val_toL, val_toL]
theorem divZ {x : Nat} (hx : x < B ^ most) : div_DivMod.f (toL x) [] = some ([], [], 41) := by
  rw [div_f (toL_ok _) rfl]
  unfold divS
  rw [toL_may hx, if_pos (by rfl), if_pos rfl]
theorem smallN {k x y : Nat} (hx : x < B ^ most) (h0 : 0 < y) (hy : y < 4294967296) (hk : 1000000 ≤ k) : div_Small.f k (toL x) (y : Int) = some (toL (x / y), ((x % y : Nat) : Int), 0) := by
  rw [small_val (toL_ok _) (toL_may hx) h0 hy hk, val_toL]
def smS (a : List Int) (x : Nat) : List Int × Int × Int := if may a = true then if x = 0 then ([], 0, 41) else (toL (val a / x), ((val a % x : Nat) : Int), 0) else ([], 0, 4)
theorem sm_f {k x : Nat} {a : List Int} (oa : ok a = true) (la : a.length ≤ 9223372036854775807) (hx : x < 4294967296) (hk : 1000000 ≤ k) : div_Small.f k a (x : Int) = some (smS a x) := by
  unfold smS
  cases ma : may a with
  | false => unfold div_Small.f; rw [may_f la, ma, Option.bind_some, if_neg (by decide), if_neg (by decide)]
  | true =>
    rw [if_pos rfl]
    by_cases h : x = 0
    · rw [if_pos h]
      unfold div_Small.f; rw [may_f la, ma, Option.bind_some, if_pos rfl, if_pos (by omega)]
    · rw [if_neg h, small_val oa ma (by omega) hx hk]

end Go.Proofs.Ytejlgahkekgceaa.Pure
