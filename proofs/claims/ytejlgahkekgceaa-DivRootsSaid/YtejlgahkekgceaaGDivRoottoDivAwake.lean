/- Texts of the seat Ytejlgahkekgceaa that belong together, joined. -/
import Derived.Test.YtejlgahkekgceaaGDivRefCtoDivRefD
import Derived.Test.YtejlgahkekgceaaPDivx24
/- Plain numbers: the whole root, and div's Root at it. -/
namespace Go.Proofs.Ytejlgahkekgceaa.Pure
open Go.RowKit Go.Proofs.Ytejlgahkekgceaa.PDiv Go.Proofs.YtejlgahkekgceaaW.PrintWords Go.Proofs.YtejlgahkekgceaaW.PrintLast Go.Proofs.YtejlgahkekgceaaV

/-- the whole root of n -/
def rt : Nat → Nat
  | 0 => 0
  | n + 1 => if (rt n + 1) * (rt n + 1) ≤ n + 1 then rt n + 1 else rt n
theorem sq_succ (r : Nat) : (r + 1) * (r + 1) = r * r + 2 * r + 1 := by rw [Nat.add_mul, Nat.mul_add]; omega
theorem rt_spec (n : Nat) : rt n * rt n ≤ n ∧ n < (rt n + 1) * (rt n + 1) := by
  induction n with
  | zero => simp [rt]
  | succ n ih =>
    simp only [rt]
    have s1 := sq_succ (rt n)
    have s2 := sq_succ (rt n + 1)
    split <;> omega
theorem sq_lt {x y : Nat} (h : x * x < y * y) : x < y := by
  refine Nat.lt_of_not_le fun h2 => ?_
  have := Nat.mul_le_mul h2 h2
  omega
theorem rt_eq {n r : Nat} (h1 : r * r ≤ n) (h2 : n < (r + 1) * (r + 1)) : rt n = r := by
  obtain ⟨g1, g2⟩ := rt_spec n
  have a1 := sq_lt (Nat.lt_of_le_of_lt h1 g2)
  have a2 := sq_lt (Nat.lt_of_le_of_lt g1 h2)
  omega
theorem le_rt {n x : Nat} (h : x * x ≤ n) : x ≤ rt n := by
  have := sq_lt (Nat.lt_of_le_of_lt h (rt_spec n).2)
  omega
theorem rt_lt {n x : Nat} (h : n < x * x) : rt n < x := sq_lt (Nat.lt_of_le_of_lt (rt_spec n).1 h)
theorem rt_pos {n : Nat} (h : 0 < n) : 0 < rt n := le_rt (n := n) (x := 1) (by omega)
theorem rt_le (n : Nat) : rt n ≤ n := by
  have h := (rt_spec n).1
  cases h2 : rt n with
  | zero => omega
  | succ m => rw [h2, sq_succ] at h; omega
theorem newton_up {a x : Nat} (hx : 0 < x) (h : rt a ≤ x) : rt a ≤ (x + a / x) / 2 := by
  obtain ⟨g1, _⟩ := rt_spec a
  obtain ⟨r, hr⟩ : ∃ r, rt a = r := ⟨_, rfl⟩
  rw [hr] at g1 h ⊢
  refine Nat.le_of_not_lt fun hlt => ?_
  obtain ⟨d, rfl⟩ : ∃ d, x = r + d := ⟨x - r, by omega⟩
  obtain ⟨q, hq⟩ : ∃ q, a / (r + d) = q := ⟨_, rfl⟩
  have h1 : a < (r + d) * (q + 1) := by rw [← hq]; exact Nat.lt_mul_div_succ a hx
  rw [hq] at hlt
  obtain ⟨e, rfl⟩ : ∃ e, r = d + e := ⟨r - d, by omega⟩
  have h2 : (d + e + d) * (q + 1) ≤ (d + e + d) * e := Nat.mul_le_mul_left _ (by omega)
  have h3 : (d + e + d) * e ≤ (d + e) * (d + e) := by
    rw [Nat.add_mul, Nat.mul_add (d + e) d e]
    have : d * e ≤ (d + e) * d := by rw [Nat.add_mul, Nat.mul_comm e d]; omega
    omega
  omega
theorem newton_end {a x : Nat} (hx : 0 < x) (h : rt a ≤ x) (ht : x ≤ (x + a / x) / 2) : x = rt a := by
  have h1 : x ≤ a / x := by omega
  have h2 : x * x ≤ a := (Nat.le_div_iff_mul_le hx).1 h1
  have := le_rt h2
  omega
theorem newton_small {a x : Nat} (hx : 0 < x) (h : rt a ≤ x) : a / x ≤ x + 2 := by
  have h1 := (rt_spec a).2
  have h2 := Nat.mul_le_mul (show rt a + 1 ≤ x + 1 by omega) (show rt a + 1 ≤ x + 1 by omega)
  have h3 := sq_succ x
  have h4 : a < x * (x + 3) := by rw [Nat.mul_add]; omega
  have := (Nat.div_lt_iff_lt_mul hx).2 (by rw [Nat.mul_comm]; exact h4)
  omega
theorem root_go {a X : Nat} (ha : a < B ^ most) (h0 : 0 < a) (hX : 4 * X < B ^ most) : ∀ (n x k : Nat), x ≤ n → rt a ≤ x → x ≤ X → x < k → div_Root.l0 k (toL a) (toL x) = some (toL (rt a)) := by
  intro n
  induction n with
  | zero => intro x k hn hr _ _; have := rt_pos h0; omega
  | succ n ih =>
    intro x k hn hr hx hk
    obtain ⟨k, rfl⟩ : ∃ m, k = m + 1 := ⟨k - 1, by omega⟩
    have hp := rt_pos h0
    have hs := newton_small (by omega) hr
    have hu := newton_up (by omega) hr
    have he := newton_end (a := a) (x := x) (by omega) hr
    have d1 := divN (x := a) (y := x) ha (by omega) (by omega)
    have d2 := addN (x := x) (y := a / x) (by omega) (by omega) (by omega)
    have d3 := shrN (x := x + a / x) (K := 1) (by omega) (by omega)
    rw [show ((1 : Nat) : Int) = 1 from rfl, Nat.pow_one] at d3
    have d4 := cmpT (x := (x + a / x) / 2) (y := x) (by omega) (by omega)
    simp only [div_Root.l0]
    rw [d1, Option.bind_some, d2, Option.bind_some, d3, Option.bind_some, d4, Option.bind_some]
    by_cases h : x ≤ (x + a / x) / 2
    · rw [if_pos (cmpN_ge.2 h), ← he h]
    · rw [if_neg (fun e => h (cmpN_ge.1 e))]
      exact ih _ _ (by omega) hu (by omega) (by omega)
theorem w64r {z : Int} (h : -4611686018427387904 ≤ z ∧ z ≤ 4611686018427387904) : wrap64 z = z := by unfold wrap64; omega
theorem start_big {a : Nat} : a < 2 ^ ((blen a + 1) / 2) * 2 ^ ((blen a + 1) / 2) := by
  rw [← Nat.pow_add]
  exact Nat.lt_of_lt_of_le (lt_blen a) (Nat.pow_le_pow_right (by decide) (by omega))
theorem start_small {b K m : Nat} (hb : b ≤ K + K) (hK : K + 3 ≤ m) : 4 * 2 ^ ((b + 1) / 2) < 2 ^ m := by
  rw [show 4 = 2 ^ 2 from rfl, ← Nat.pow_add]
  exact Nat.pow_lt_pow_right (by decide) (by omega)
theorem root_f {a k : Nat} (ha : a < B ^ most) (hk : 2 ^ ((blen a + 1) / 2) + 100 ≤ k) : div_Root.f k (toL a) = some (toL (rt a)) := by
  have la := toL_len ha
  have hpos := Nat.two_pow_pos ((blen a + 1) / 2)
  obtain ⟨k, rfl⟩ : ∃ m, k = m + 1 := ⟨k - 1, by omega⟩
  unfold div_Root.f
  rw [may_f (by omega), toL_may ha, Option.bind_some, if_pos rfl]
  simp only [div_Root.j0]
  by_cases h0 : a = 0
  · subst h0
    rw [toL_zero, show ((([] : List Int).length : Int) == 0) = true from rfl, if_pos rfl]
    rw [show rt 0 = 0 from rfl, toL_zero]
  · have e1 : (((toL a).length : Int) == 0) = false := by
      rw [beq_eq_false_iff_ne]; exact fun e => h0 (toL_len0.1 e)
    have hb : blen a ≤ 32 * most := blen_le.2 (by rw [← pow_32]; exact ha)
    have hmo := most_eq
    have hone : nat_Of.f k 1 = some (toL 1) := by have := ofN (k := k) (u := 1) (by omega) (by omega); exact this
    have e2 : wrap64 (Int.tdiv (wrap64 ((blen a : Int) + 1)) 2) = (((blen a + 1) / 2 : Nat) : Int) := by
      rw [w64r (z := (blen a : Int) + 1) (by omega), show ((blen a : Int) + 1) = ((blen a + 1 : Nat) : Int) by omega, Int.tdiv_eq_ediv_of_nonneg (by omega), w64r (by omega)]
      omega
    have hX : 4 * 2 ^ ((blen a + 1) / 2) < B ^ most := by
      rw [pow_32]
      exact start_small (K := 1048576) (by omega) (by omega)
    have hs := shlN (x := 1) (K := (blen a + 1) / 2) (by omega) (by omega) (by omega) (by omega)
    rw [Nat.one_mul] at hs
    rw [e1, if_neg (by decide), hone, Option.bind_some, bitsN ha, Option.bind_some, e2, hs, Option.bind_some]
    exact root_go ha (by omega) hX _ _ _ (Nat.le_refl _) (Nat.le_of_lt (rt_lt start_big)) (Nat.le_refl _) (by omega)

end Go.Proofs.Ytejlgahkekgceaa.Pure

/- Plain numbers: the named answers that every law of div asks for first. -/
namespace Go.Proofs.Ytejlgahkekgceaa.Pure
open Go.RowKit Go.Proofs.Ytejlgahkekgceaa.PDiv Go.Proofs.YtejlgahkekgceaaW.PrintWords Go.Proofs.YtejlgahkekgceaaW.PrintLast Go.Proofs.YtejlgahkekgceaaV

theorem start_le {a : Nat} : 2 ^ ((blen a + 1) / 2) ≤ 2 * a + 1 := by
  by_cases h0 : blen a = 0
  · rw [h0]; simp
  · have h1 : 2 ^ (blen a - 1) ≤ a := by
      refine Nat.le_of_not_lt fun h => ?_
      have := blen_le.2 h
      omega
    have h2 : 2 ^ ((blen a + 1) / 2) ≤ 2 ^ (blen a - 1 + 1) := Nat.pow_le_pow_right (by decide) (by omega)
    rw [Nat.pow_succ] at h2
    omega
theorem rootS {a k : Nat} (ha : a < B ^ most) (hk : 2 * a + 101 ≤ k) : div_Root.f k (toL a) = some (toL (rt a)) := root_f ha (by have := start_le (a := a); omega)
theorem lit {l : List Int} {n : Nat} (ho : ok l = true) (hm : may l = true) (h : val l = n) : l = toL n := (toL_eq ho hm h).symm
theorem big_most {x : Nat} (h : x < B ^ 8) : x < B ^ most := lt_most h (by omega)
theorem B8 : B ^ 8 = 115792089237316195423570985008687907853269984665640564039457584007913129639936 := by unfold B; rfl
theorem lt_big {x : Nat} (h : x < 115792089237316195423570985008687907853269984665640564039457584007913129639936) : x < B ^ most := big_most (by rw [B8]; exact h)
theorem partsT {k a b c d : Nat} (ha : a < B ^ most) (hb : b < B ^ most) (h0 : b ≠ 0) (h1 : a / b = c) (h2 : a % b = d) (hk : 1000000 ≤ k) : alidadelaw03_parts.f k (toL a) (toL b) (toL c) (toL d) = some true := by
  have m1 := Nat.lt_of_le_of_lt (Nat.div_le_self a b) ha
  have m2 := Nat.lt_of_le_of_lt (Nat.mod_le a b) ha
  unfold alidadelaw03_parts.f
  rw [divN ha hb h0, Option.bind_some]
  simp only [if_true]
  rw [sameT h1 m1 hk, Option.bind_some, if_pos rfl, sameT h2 m2 hk]; rfl
theorem awake_f {k : Nat} (hk : 2000000 ≤ k) : alidadelaw03_awake.f k = some true := by
  have L1 : ([1] : List Int) = toL 1 := lit rfl rfl rfl
  have L2 : ([2] : List Int) = toL 2 := lit rfl rfl rfl
  have L5 : ([5] : List Int) = toL 5 := lit rfl rfl rfl
  have L7 : ([7] : List Int) = toL 7 := lit rfl rfl rfl
  have L9 : ([9] : List Int) = toL 9 := lit rfl rfl rfl
  have L10 : ([10] : List Int) = toL 10 := lit rfl rfl rfl
  have L14 : ([14] : List Int) = toL 14 := lit rfl rfl rfl
  have L99 : ([99] : List Int) = toL 99 := lit rfl rfl rfl
  have L100 : ([100] : List Int) = toL 100 := lit rfl rfl rfl
  have LM : ([4294967295] : List Int) = toL 4294967295 := lit rfl rfl rfl
  have LT : ([429496729] : List Int) = toL 429496729 := lit rfl rfl rfl
  have L01 : ([0, 1] : List Int) = toL 4294967296 := lit rfl rfl rfl
  have L11 : ([1, 1] : List Int) = toL 4294967297 := lit rfl rfl rfl
  have L001 : ([0, 0, 1] : List Int) = toL 18446744073709551616 := lit rfl rfl rfl
  have D0 := divZ (x := 1) (lt_big (by omega))
  have S0 : div_Small.f k (toL 4294967296) 10 = some (toL 429496729, 6, 0) := smallN (x := 4294967296) (y := 10) (lt_big (by omega)) (by omega) (by omega) (by omega)
  have P1 := partsT (k := k) (a := 100) (b := 7) (c := 14) (d := 2) (lt_big (by omega)) (lt_big (by omega)) (by omega) (by omega) (by omega) (by omega)
  have P2 := partsT (k := k) (a := 18446744073709551616) (b := 4294967297) (c := 4294967295) (d := 1) (lt_big (by omega)) (lt_big (by omega)) (by omega) (by omega) (by omega) (by omega)
  have P3 := partsT (k := k) (a := 5) (b := 9) (c := 0) (d := 5) (lt_big (by omega)) (lt_big (by omega)) (by omega) (by omega) (by omega) (by omega)
  have R1 := rootS (k := k) (a := 99) (lt_big (by omega)) (by omega)
  have R2 := rootS (k := k) (a := 100) (lt_big (by omega)) (by omega)
  have R0 := rootS (k := k) (a := 0) (lt_big (by omega)) (by omega)
  rw [rt_eq (n := 99) (r := 9) (by omega) (by omega)] at R1
  rw [rt_eq (n := 100) (r := 10) (by omega) (by omega)] at R2
  rw [rt_eq (n := 0) (r := 0) (by omega) (by omega)] at R0
  rw [toL_zero] at P3 R0
  have E1 := sameT (k := k) (x := 9) (y := 9) rfl (lt_big (by omega)) (by omega)
  have E2 := sameT (k := k) (x := 10) (y := 10) rfl (lt_big (by omega)) (by omega)
  have E3 := sameT (k := k) (x := 429496729) (y := 429496729) rfl (lt_big (by omega)) (by omega)
  unfold alidadelaw03_awake.f alidadelaw03_of_1.f alidadelaw03_of_2.f alidadelaw03_of_3.f
  simp only [Option.bind_some]
  rw [L001, L01, L11, L1, L2, L5, L7, L9, L10, L14, L99, L100, LM, LT, D0, Option.bind_some, S0, Option.bind_some, P1, Option.bind_some, if_pos rfl, P2, Option.bind_some, if_pos rfl, P3, Option.bind_some, if_pos rfl]
  simp only [if_true]
  rw [R1, Option.bind_some, E1, Option.bind_some, if_pos rfl, R2, Option.bind_some, E2, Option.bind_some, if_pos rfl, R0, Option.bind_some, if_pos (show ((([] : List Int).length : Int) = 0) from rfl), E3, Option.bind_some, if_pos rfl]
  rfl

end Go.Proofs.Ytejlgahkekgceaa.Pure
