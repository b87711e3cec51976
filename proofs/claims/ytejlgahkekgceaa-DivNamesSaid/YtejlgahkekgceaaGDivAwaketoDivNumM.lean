/- Texts of the seat Ytejlgahkekgceaa that belong together, joined. -/
import Derived.Test.YtejlgahkekgceaaDivRoot
import Derived.Test.YtejlgahkekgceaaPDivx24
import Derived.Test.YtejlgahkekgceaaGDivMultoDivNum
/- Plain numbers: the named answers that every law of div asks for first. -/
namespace Go.Proofs.Ytejlgahkekgceaa.Pure
open Go.RowKit Go.Proofs.Ytejlgahkekgceaa.PDiv Go.Proofs.YtejlgahkekgceaaW.PrintWords Go.Proofs.YtejlgahkekgceaaW.PrintLast Go.Proofs.YtejlgahkekgceaaV

theorem start_le {a : Nat} : 2 ^ ((blen a + 1) / 2) ≤ 2 * a + 1 := by
  by_cases h0 : blen a = 0
  · rw [h0]; simp
  · have h1 : 2 ^ (blen a - 1) ≤ a := by
      refine Nat.le_of_not_lt fun h => ?_
      have := blen_le.2 h
      omega
    have h2 : 2 ^ ((blen a + 1) / 2) ≤ 2 ^ (blen a - 1 + 1) := Nat.pow_le_pow_right (by decide) (by omega)
    rw [Nat.pow_succ] at h2
    omega
theorem rootS {a k : Nat} (ha : a < B ^ most) (hk : 2 * a + 101 ≤ k) : div_Root.f k (toL a) = some (toL (rt a)) := root_f ha (by have := start_le (a := a); omega)
theorem lit {l : List Int} {n : Nat} (ho : ok l = true) (hm : may l = true) (h : val l = n) : l = toL n := (toL_eq ho hm h).symm
theorem big_most {x : Nat} (h : x < B ^ 8) : x < B ^ most := lt_most h (by omega)
theorem B8 : B ^ 8 = 115792089237316195423570985008687907853269984665640564039457584007913129639936 := by unfold B; rfl
theorem lt_big {x : Nat} (h : x < 115792089237316195423570985008687907853269984665640564039457584007913129639936) : x < B ^ most := big_most (by rw [B8]; exact h)
theorem partsT {k a b c d : Nat} (ha : a < B ^ most) (hb : b < B ^ most) (h0 : b ≠ 0) (h1 : a / b = c) (h2 : a % b = d) (hk : 1000000 ≤ k) : alidadelaw03_parts.f k (toL a) (toL b) (toL c) (toL d) = some true := by
  have m1 := Nat.lt_of_le_of_lt (Nat.div_le_self a b) ha
  have m2 := Nat.lt_of_le_of_lt (Nat.mod_le a b) ha
  unfold alidadelaw03_parts.f
  rw [divN ha hb h0, Option.bind_some]
  simp only [if_true]
  rw [sameT h1 m1 hk, Option.bind_some, if_pos rfl, sameT h2 m2 hk]; rfl
theorem awake_f {k : Nat} (hk : 2000000 ≤ k) : alidadelaw03_awake.f k = some true := by
  have L1 : ([1] : List Int) = toL 1 := lit rfl rfl rfl
  have L2 : ([2] : List Int) = toL 2 := lit rfl rfl rfl
  have L5 : ([5] : List Int) = toL 5 := lit rfl rfl rfl
  have L7 : ([7] : List Int) = toL 7 := lit rfl rfl rfl
  have L9 : ([9] : List Int) = toL 9 := lit rfl rfl rfl
  have L10 : ([10] : List Int) = toL 10 := lit rfl rfl rfl
  have L14 : ([14] : List Int) = toL 14 := lit rfl rfl rfl
  have L99 : ([99] : List Int) = toL 99 := lit rfl rfl rfl
  have L100 : ([100] : List Int) = toL 100 := lit rfl rfl rfl
  have LM : ([4294967295] : List Int) = toL 4294967295 := lit rfl rfl rfl
  have LT : ([429496729] : List Int) = toL 429496729 := lit rfl rfl rfl
  have L01 : ([0, 1] : List Int) = toL 4294967296 := lit rfl rfl rfl
  have L11 : ([1, 1] : List Int) = toL 4294967297 := lit rfl rfl rfl
  have L001 : ([0, 0, 1] : List Int) = toL 18446744073709551616 := lit rfl rfl rfl
  have D0 := divZ (x := 1) (lt_big (by omega))
  have S0 : div_Small.f k (toL 4294967296) 10 = some (toL 429496729, 6, 0) := smallN (x := 4294967296) (y := 10) (lt_big (by omega)) (by omega) (by omega) (by omega)
  have P1 := partsT (k := k) (a := 100) (b := 7) (c := 14) (d := 2) (lt_big (by omega)) (lt_big (by omega)) (by omega) (by omega) (by omega) (by omega)
  have P2 := partsT (k := k) (a := 18446744073709551616) (b := 4294967297) (c := 4294967295) (d := 1) (lt_big (by omega)) (lt_big (by omega)) (by omega) (by omega) (by omega) (by omega)
  have P3 := partsT (k := k) (a := 5) (b := 9) (c := 0) (d := 5) (lt_big (by omega)) (lt_big (by omega)) (by omega) (by omega) (by omega) (by omega)
  have R1 := rootS (k := k) (a := 99) (lt_big (by omega)) (by omega)
  have R2 := rootS (k := k) (a := 100) (lt_big (by omega)) (by omega)
  have R0 := rootS (k := k) (a := 0) (lt_big (by omega)) (by omega)
  rw [rt_eq (n := 99) (r := 9) (by omega) (by omega)] at R1
  rw [rt_eq (n := 100) (r := 10) (by omega) (by omega)] at R2
  rw [rt_eq (n := 0) (r := 0) (by omega) (by omega)] at R0
  rw [toL_zero] at P3 R0
  have E1 := sameT (k := k) (x := 9) (y := 9) rfl (lt_big (by omega)) (by omega)
  have E2 := sameT (k := k) (x := 10) (y := 10) rfl (lt_big (by omega)) (by omega)
  have E3 := sameT (k := k) (x := 429496729) (y := 429496729) rfl (lt_big (by omega)) (by omega)
  unfold alidadelaw03_awake.f alidadelaw03_of_1.f alidadelaw03_of_2.f alidadelaw03_of_3.f
  simp only [Option.bind_some]
  rw [L001, L01, L11, L1, L2, L5, L7, L9, L10, L14, L99, L100, LM, LT, D0, Option.bind_some, S0, Option.bind_some, P1, Option.bind_some, if_pos rfl, P2, Option.bind_some, if_pos rfl, P3, Option.bind_some, if_pos rfl]
  simp only [if_true]
  rw [R1, Option.bind_some, E1, Option.bind_some, if_pos rfl, R2, Option.bind_some, E2, Option.bind_some, if_pos rfl, R0, Option.bind_some, if_pos (show ((([] : List Int).length : Int) = 0) from rfl), E3, Option.bind_some, if_pos rfl]
  rfl

end Go.Proofs.Ytejlgahkekgceaa.Pure

/- Products of naturals. -/
namespace Go.Proofs.Ytejlgahkekgceaa.Pure
open Go.RowKit Go.Proofs.Ytejlgahkekgceaa.PDiv Go.Proofs.YtejlgahkekgceaaW.PrintWords Go.Proofs.YtejlgahkekgceaaW.PrintLast Go.Proofs.YtejlgahkekgceaaW.PrintMore Go.Proofs.YtejlgahkekgceaaV

theorem mulN {k x y : Nat} (hx : x < B ^ most) (hy : y < B ^ most) (h : x * y < B ^ most) (hk : 1000000 ≤ k) : mul_Mul.f k (toL x) (toL y) = some (toL (x * y)) := by
  have lx := toL_len hx
  have ly := toL_len hy
  rw [mul_f (toL_ok _) (toL_ok _) (by omega) (by omega) hk, mulS_of (toL_may hx) (toL_may hy), val_toL, val_toL, fit_lt h]

end Go.Proofs.Ytejlgahkekgceaa.Pure
