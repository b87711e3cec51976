/- Plain numbers: the whole root, and div's Root at it. -/
import Derived.Test.YtejlgahkekgceaaGDivMultoDivNum
namespace Go.Proofs.Ytejlgahkekgceaa.Pure
open Go.RowKit Go.Proofs.Ytejlgahkekgceaa.PDiv Go.Proofs.YtejlgahkekgceaaW.PrintWords Go.Proofs.YtejlgahkekgceaaW.PrintLast Go.Proofs.YtejlgahkekgceaaV

/-- the whole root of n -/
def rt : Nat → Nat
  | 0 => 0
  | n + 1 => if (rt n + 1) * (rt n + 1) ≤ n + 1 then rt n + 1 else rt n
theorem sq_succ (r : Nat) : (r + 1) * (r + 1) = r * r + 2 * r + 1 := by rw [Nat.add_mul, Nat.mul_add]; omega
theorem rt_spec (n : Nat) : rt n * rt n ≤ n ∧ n < (rt n + 1) * (rt n + 1) := by
  induction n with
  | zero => simp [rt]
  | succ n ih =>
    simp only [rt]
    have s1 := sq_succ (rt n)
    have s2 := sq_succ (rt n + 1)
    split <;> omega
theorem sq_lt {x y : Nat} (h : x * x < y * y) : x < y := by
  refine Nat.lt_of_not_le fun h2 => ?_
  have := Nat.mul_le_mul h2 h2
  omega
theorem rt_eq {n r : Nat} (h1 : r * r ≤ n) (h2 : n < (r + 1) * (r + 1)) : rt n = r := by
  obtain ⟨g1, g2⟩ := rt_spec n
  have a1 := sq_lt (Nat.lt_of_le_of_lt h1 g2)
  have a2 := sq_lt (Nat.lt_of_le_of_lt g1 h2)
  omega
theorem le_rt {n x : Nat} (h : x * x ≤ n) : x ≤ rt n := by
  have := sq_lt (Nat.lt_of_le_of_lt h (rt_spec n).2)
  omega
theorem rt_lt {n x : Nat} (h : n < x * x) : rt n < x := sq_lt (Nat.lt_of_le_of_lt (rt_spec n).1 h)
theorem rt_pos {n : Nat} (h : 0 < n) : 0 < rt n := le_rt (n := n) (x := 1) (by omega)
theorem newton_up {a x : Nat} (hx : 0 < x) (h : rt a ≤ x) : rt a ≤ (x + a / x) / 2 := by
  obtain ⟨g1, _⟩ := rt_spec a
  obtain ⟨r, hr⟩ : ∃ r, rt a = r := ⟨_, rfl⟩
  rw [hr] at g1 h ⊢
  refine Nat.le_of_not_lt fun hlt => ?_
  obtain ⟨d, rfl⟩ : ∃ d, x = r + d := ⟨x - r, by omega⟩
  obtain ⟨q, hq⟩ : ∃ q, a / (r + d) = q := ⟨_, rfl⟩
  have h1 : a < (r + d) * (q + 1) := by rw [← hq]; exact Nat.lt_mul_div_succ a hx
  rw [hq] at hlt
  obtain ⟨e, rfl⟩ : ∃ e, r = d + e := ⟨r - d, by omega⟩
  have h2 : (d + e + d) * (q + 1) ≤ (d + e + d) * e := Nat.mul_le_mul_left _ (by omega)
  have h3 : (d + e + d) * e ≤ (d + e) * (d + e) := by
    rw [Nat.add_mul, Nat.mul_add (d + e) d e]
    have : d * e ≤ (d + e) * d := by rw [Nat.add_mul, Nat.mul_comm e d]; omega
    omega
  omega
theorem newton_end {a x : Nat} (hx : 0 < x) (h : rt a ≤ x) (ht : x ≤ (x + a / x) / 2) : x = rt a := by
  have h1 : x ≤ a / x := by omega
  have h2 : x * x ≤ a := (Nat.le_div_iff_mul_le hx).1 h1
  have := le_rt h2
  omega
theorem newton_small {a x : Nat} (hx : 0 < x) (h : rt a ≤ x) : a / x ≤ x + 2 := by
  have h1 := (rt_spec a).2
  have h2 := Nat.mul_le_mul (show rt a + 1 ≤ x + 1 by omega) (show rt a + 1 ≤ x + 1 by omega)
  have h3 := sq_succ x
  have h4 : a < x * (x + 3) := by rw [Nat.mul_add]; omega
  have := (Nat.div_lt_iff_lt_mul hx).2 (by rw [Nat.mul_comm]; exact h4)
  omega
theorem root_go {a X : Nat} (ha : a < B ^ most) (h0 : 0 < a) (hX : 4 * X < B ^ most) : ∀ (n x k : Nat), x ≤ n → rt a ≤ x → x ≤ X → x < k → div_Root.l0 k (toL a) (toL x) = some (toL (rt a)) := by
  intro n
  induction n with
  | zero => intro x k hn hr _ _; have := rt_pos h0; omega
  | succ n ih =>
    intro x k hn hr hx hk
    obtain ⟨k, rfl⟩ : ∃ m, k = m + 1 := ⟨k - 1, by omega⟩
    have hp := rt_pos h0
    have hs := newton_small (by omega) hr
    have hu := newton_up (by omega) hr
    have he := newton_end (a := a) (x := x) (by omega) hr
    have d1 := divN (x := a) (y := x) ha (by omega) (by omega)
    have d2 := addN (x := x) (y := a / x) (by omega) (by omega) (by omega)
    have d3 := shrN (x := x + a / x) (K := 1) (by omega) (by omega)
    rw [show ((1 : Nat) : Int) = 1 from rfl, Nat.pow_one] at d3
    have d4 := cmpT (x := (x + a / x) / 2) (y := x) (by omega) (by omega)
    simp only [div_Root.l0]
    rw [d1, Option.bind_some, d2, Option.bind_some, d3, Option.bind_some, d4, Option.bind_some]
    by_cases h : x ≤ (x + a / x) / 2
    · rw [if_pos (cmpN_ge.2 h), ← he h]
    · rw [if_neg (fun e => h (cmpN_ge.1 e))]
      exact ih _ _ (by omega) hu (by omega) (by omega)
theorem w64r {z : Int} (h : -4611686018427387904 ≤ z ∧ z ≤ 4611686018427387904) : wrap64 z = z := by unfold wrap64; omega
theorem start_big {a : Nat} : a < 2 ^ ((blen a + 1) / 2) * 2 ^ ((blen a + 1) / 2) := by
  rw [← Nat.pow_add]
  exact Nat.lt_of_lt_of_le (lt_blen a) (Nat.pow_le_pow_right (by decide) (by omega))
theorem start_small {b K m : Nat} (hb : b ≤ K + K) (hK : K + 3 ≤ m) : 4 * 2 ^ ((b + 1) / 2) < 2 ^ m := by
  rw [show 4 = 2 ^ 2 from rfl, ← Nat.pow_add]
  exact Nat.pow_lt_pow_right (by decide) (by omega)
theorem root_f {a k : Nat} (ha : a < B ^ most) (hk : 2 ^ ((blen a + 1) / 2) + 100 ≤ k) : div_Root.f k (toL a) = some (toL (rt a)) := by
  have la := toL_len ha
  have hpos := Nat.two_pow_pos ((blen a + 1) / 2)
  obtain ⟨k, rfl⟩ : ∃ m, k = m + 1 := ⟨k - 1, by omega⟩
  unfold div_Root.f
  rw [may_f (by omega), toL_may ha, Option.bind_some, if_pos rfl]
  simp only [div_Root.j0]
  by_cases h0 : a = 0
  · subst h0
    rw [toL_zero, show ((([] : List Int).length : Int) == 0) = true from rfl, if_pos rfl]
    rw [show rt 0 = 0 from rfl, toL_zero]
  · have e1 : (((toL a).length : Int) == 0) = false := by
      rw [beq_eq_false_iff_ne]; exact fun e => h0 (toL_len0.1 e)
    have hb : blen a ≤ 32 * most := blen_le.2 (by rw [← pow_32]; exact ha)
    have hmo := most_eq
    have hone : nat_Of.f k 1 = some (toL 1) := by have := ofN (k := k) (u := 1) (by omega) (by omega); exact this
    have e2 : wrap64 (Int.tdiv (wrap64 ((blen a : Int) + 1)) 2) = (((blen a + 1) / 2 : Nat) : Int) := by
      rw [w64r (z := (blen a : Int) + 1) (by omega), show ((blen a : Int) + 1) = ((blen a + 1 : Nat) : Int) by omega, Int.tdiv_eq_ediv_of_nonneg (by omega), w64r (by omega)]
      omega
    have hX : 4 * 2 ^ ((blen a + 1) / 2) < B ^ most := by
      rw [pow_32]
      exact start_small (K := 1048576) (by omega) (by omega)
    have hs := shlN (x := 1) (K := (blen a + 1) / 2) (by omega) (by omega) (by omega) (by omega)
    rw [Nat.one_mul] at hs
    rw [e1, if_neg (by decide), hone, Option.bind_some, bitsN ha, Option.bind_some, e2, hs, Option.bind_some]
    exact root_go ha (by omega) hX _ _ _ (Nat.le_refl _) (Nat.le_of_lt (rt_lt start_big)) (Nat.le_refl _) (by omega)

end Go.Proofs.Ytejlgahkekgceaa.Pure
