/- The closed statement of mul: its examples, numbers of ones, products as long as may be, powers that are too long. -/
import Derived.Test.YtnngdlehakcdlaaPMulx44
import Derived.Test.YtnngdlehakcdlaaMulBits
namespace Go.Proofs.Ytnngdlehakcdlaa.Pure
open Go.RowKit Go.Proofs.Ytnngdlehakcdlaa.PMul Go.Proofs.YtnngdlehakcdlaaW.PrintWords Go.Proofs.YtnngdlehakcdlaaW.PrintLast Go.Proofs.YtnngdlehakcdlaaV

theorem shlN {x e : Nat} (hx : x < B ^ most) (he : e ≤ 2097152) (h : x * 2 ^ e < B ^ most) : nat_Shl.f (toL x) (e : Int) = some (toL (x * 2 ^ e)) := by
 unfold nat_Shl.f
 rw [if_pos ⟨toL_ok _, by omega⟩]
 unfold shlS
 rw [toL_may hx, decide_eq_true (show (0 : Int) ≤ (e : Int) by omega), decide_eq_true (show (e : Int) ≤ 2097152 by omega)]
 by_cases h0 : x = 0
 ·subst h0; rw [toL_zero, Nat.zero_mul, toL_zero]; rfl
 ·have : toL x ≠ [] := fun e => h0 (by rw [← val_toL x, e]; rfl)
  rw [decide_eq_true this, Int.toNat_natCast, val_toL, fit_lt h]; rfl
theorem B_pow (m : Nat) : B ^ m = 2 ^ (32 * m) := by rw [Nat.pow_mul]
theorem two_most {e : Nat} (h : e < 2097152) : 2 ^ e < B ^ most := by rw [B_pow]; exact Nat.pow_lt_pow_right (by decide) (by rw [most_eq]; omega)
theorem two_not {e : Nat} (h : 2097152 ≤ e) : ¬ 2 ^ e < B ^ most := by rw [B_pow]; exact Nat.not_lt.2 (Nat.pow_le_pow_right (by decide) (by rw [most_eq]; omega))
theorem subN {x y : Nat} (hx : x < B ^ most) (h : y ≤ x) : nat_Sub.f (toL x) (toL y) = some (toL (x - y), true) := by
 unfold nat_Sub.f subS
 rw [if_pos ⟨toL_ok _, toL_ok _⟩, toL_may hx, toL_may (Nat.lt_of_le_of_lt h hx), val_toL, val_toL, decide_eq_true h]; rfl
theorem val_ones (n : Nat) : val (List.replicate n 4294967295) + 1 = B ^ n := by
 induction n with
 | zero => rfl
 | succ n ih =>
  rw [List.replicate_succ, val, Nat.pow_succ, ← ih]
  generalize val (List.replicate n 4294967295) = v
  simp only [B]; omega
theorem ok_ones (n : Nat) : ok (List.replicate n 4294967295) = true := by
 induction n with
 | zero => rfl
 | succ n ih => rw [List.replicate_succ, ok_cons]; exact ⟨by omega, ih⟩
theorem norm_ones (n : Nat) : norm (List.replicate n 4294967295) := by
 intro x hx
 have := List.eq_of_mem_replicate (List.mem_of_getLast? hx)
 omega
theorem ones_toL (n : Nat) : List.replicate n (4294967295 : Int) = toL (B ^ n - 1) := by
 rw [← val_ones n, Nat.add_sub_cancel, toL_val (ok_ones n) (norm_ones n)]
theorem onesN {n k : Nat} (hn : n ≤ 1000) (hk : n < k) : alidadelaw02_ones.f k (n : Int) = some (toL (B ^ n - 1)) := by
 rw [ones_f (by omega) hk, ones_toL]
theorem shlB {e : Nat} (he : e ≤ 1000) : nat_Shl.f (toL 1) (wrap64 (32 * (e : Int))) = some (toL (B ^ e)) := by
 have h := two_most (e := 32 * e) (by omega)
 rw [w64z (by omega), show 32 * (e : Int) = ((32 * e : Nat) : Int) by omega, shlN one_lt (by omega) (by rw [Nat.one_mul]; exact h), Nat.one_mul, B_pow]
theorem shl1 {e : Nat} (he : e < 2097152) : nat_Shl.f (toL 1) (e : Int) = some (toL (2 ^ e)) := by
 have h := two_most he
 rw [shlN one_lt (by omega) (by rw [Nat.one_mul]; exact h), Nat.one_mul]
theorem sq2 {k e : Nat} (hk : 1000000 ≤ k) (he : 2 * e < 2097152) : mul_Square.f k (toL (2 ^ e)) = some (toL (2 ^ (2 * e))) := by
 have e1 : 2 ^ e * 2 ^ e = 2 ^ (2 * e) := by rw [← Nat.pow_add]; congr 1; omega
 rw [squareN (two_most (by omega)) (by rw [e1]; exact two_most he) hk, e1]
theorem mul2 {k a b : Nat} (hk : 1000000 ≤ k) (h : a + b < 2097152) : mul_Mul.f k (toL (2 ^ a)) (toL (2 ^ b)) = some (toL (2 ^ (a + b))) := by
 have e1 : 2 ^ a * 2 ^ b = 2 ^ (a + b) := by rw [← Nat.pow_add]
 rw [mulN (two_most (by omega)) (two_most (by omega)) (by rw [e1]; exact two_most h) hk, e1]
theorem blen_two (e : Nat) : blen (2 ^ e) = e + 1 := by
 have h1 := blen_ge (n := 2 ^ e) (k := e) (Nat.le_refl _)
 have h2 := blen_le.2 (Nat.pow_lt_pow_right (by decide : 1 < 2) (Nat.lt_succ_self e))
 omega
theorem bits2 {e : Nat} (he : e < 2097152) : nat_Bits.f (toL (2 ^ e)) = some ((e + 1 : Nat) : Int) := by
 rw [bitsN (two_most he), blen_two]
theorem long_len {x e : Nat} (he : e = 2097151) (h0 : 2 ^ e ≤ x) (h1 : x < B ^ most) : (toL x).length = 65536 := by
 have l1 := toL_len h1
 obtain ⟨q, hq⟩ : ∃ q, q = 65535 := ⟨_, rfl⟩
 have l2 : ¬ (toL x).length ≤ q := fun h => by
  have h3 := toL_length_le.1 h
  rw [B_pow] at h3
  exact absurd (Nat.lt_of_le_of_lt h0 h3) (Nat.not_lt.2 (Nat.pow_le_pow_right (by decide) (by omega)))
 omega
theorem names_step {k n m j : Nat} {L y b : List Int} {i c : Int} (hk : 2000000 ≤ k) (hn : 1 ≤ n ∧ n ≤ 400) (hm : 1 ≤ m ∧ m ≤ 400) (hj : j < y.length) (hy : y.length ≤ 3) (hr : rd y (j : Int) = (m : Int)) :
  alidadelaw02_MulNames.l1 (k + 1) (toL 1) b (n : Int) L c i y (y.length : Int) (j : Int) = alidadelaw02_MulNames.l1 k (toL 1) b (n : Int) L c i y (y.length : Int) ((j + 1 : Nat) : Int) := by
 have p1 : B ^ (n + m) = B ^ n * B ^ m := Nat.pow_add _ _ _
 have g1 : 4294967296 ≤ B ^ n := Nat.le_trans (show _ ≤ B ^ 1 from Nat.le_refl _) (Nat.pow_le_pow_right (by decide) hn.1)
 have g2 : 4294967296 ≤ B ^ m := Nat.le_trans (show _ ≤ B ^ 1 from Nat.le_refl _) (Nat.pow_le_pow_right (by decide) hm.1)
 have b1 : B ^ n < B ^ most := Nat.pow_lt_pow_right (by decide) (by rw [most_eq]; omega)
 have b2 : B ^ m < B ^ most := Nat.pow_lt_pow_right (by decide) (by rw [most_eq]; omega)
 have b3 : B ^ (n + m) < B ^ most := Nat.pow_lt_pow_right (by decide) (by rw [most_eq]; omega)
 have o1 := onesN (n := n) (k := k) (by omega) (by omega)
 have o2 := onesN (n := m) (k := k) (by omega) (by omega)
 have s1 := shlB (e := n + m) (by omega)
 have s2 := shlB (e := n) (by omega)
 have s3 := shlB (e := m) (by omega)
 rw [p1] at b3 s1
 generalize B ^ n = X at *
 generalize B ^ m = Y at *
 have q1 : X + Y ≤ X * Y := by
  have h1 := Nat.mul_le_mul_right Y (show 2 ≤ X by omega)
  have h2 := Nat.mul_le_mul_left X (show 2 ≤ Y by omega)
  omega
 have q2 : (X - 1) * (Y - 1) = X * Y - (X + Y) + 1 := by
  obtain ⟨x, rfl⟩ : ∃ x, X = x + 1 := ⟨X - 1, by omega⟩
  obtain ⟨z, rfl⟩ : ∃ z, Y = z + 1 := ⟨Y - 1, by omega⟩
  simp only [Nat.add_sub_cancel, Nat.add_mul, Nat.mul_add, Nat.one_mul, Nat.mul_one] at q1 ⊢
  omega
 have b4 : (X - 1) * (Y - 1) < B ^ most := by rw [q2]; omega
 have b5 : (Y - 1) * (X - 1) < B ^ most := by rw [Nat.mul_comm]; exact b4
 simp only [alidadelaw02_MulNames.l1]
 rw [if_pos (by omega), if_pos (by omega), if_pos (by omega), hr, o1, Option.bind_some, o2, Option.bind_some, w64n (by omega), s1, Option.bind_some, s2, Option.bind_some, s3, Option.bind_some]
 rw [addN b1 b2 (by omega), Option.bind_some, subN b3 q1, Option.bind_some, if_pos rfl, mulN (by omega) (by omega) b4 (by omega), Option.bind_some, addN (by omega) one_lt (by omega), Option.bind_some, sameT q2 b4 (by omega), Option.bind_some, if_pos rfl]
 rw [mulN (by omega) (by omega) b5 (by omega), Option.bind_some, Option.bind_some, sameT (Nat.mul_comm _ _) b5 (by omega), Option.bind_some, if_pos rfl, w64s (by omega)]
theorem names_end {k : Nat} {L y b : List Int} {n i c : Int} : alidadelaw02_MulNames.l1 (k + 1) (toL 1) b n L c i y (y.length : Int) (y.length : Int) = alidadelaw02_MulNames.l0 k (toL 1) b L c (wrap64 (i + 1)) := by
 simp only [alidadelaw02_MulNames.l1]
 rw [if_neg (by omega)]
theorem rd3_0 (a b c : Int) : rd [a, b, c] ((0 : Nat) : Int) = a := rfl
theorem rd3_1 (a b c : Int) : rd [a, b, c] ((1 : Nat) : Int) = b := rfl
theorem rd3_2 (a b c : Int) : rd [a, b, c] ((2 : Nat) : Int) = c := rfl
theorem len3 (a b c : Int) : [a, b, c].length = 3 := rfl
theorem names_row {k n i : Nat} {L b : List Int} (hk : 2000000 ≤ k) (hn : 1 ≤ n ∧ n ≤ 190) (hi : i < L.length) (hL : L.length ≤ 1000) (hr : rd L (i : Int) = (n : Int)) :
  alidadelaw02_MulNames.l0 (k + 5) (toL 1) b L (L.length : Int) (i : Int) = alidadelaw02_MulNames.l0 k (toL 1) b L (L.length : Int) ((i + 1 : Nat) : Int) := by
 simp only [alidadelaw02_MulNames.l0]
 rw [if_pos (by omega), if_pos (by omega), if_pos (by omega), hr, Option.bind_some]
 have e3 : Aside0 (rd [(n : Int), wrap64 ((n : Int) + 1), wrap64 (wrap64 (2 * (n : Int)) + 3)] ((2 : Nat) : Int) = ((2 * n + 3 : Nat) : Int)) := ⟨by
  rw [rd3_2, w64z (z := 2 * (n : Int)) (by omega), w64z (by omega)]; omega⟩
 have e2 : Aside0 (rd [(n : Int), wrap64 ((n : Int) + 1), wrap64 (wrap64 (2 * (n : Int)) + 3)] ((1 : Nat) : Int) = ((n + 1 : Nat) : Int)) := ⟨by rw [rd3_1, w64s (by omega)]⟩
 have e1 : Aside0 (rd [(n : Int), wrap64 ((n : Int) + 1), wrap64 (wrap64 (2 * (n : Int)) + 3)] ((0 : Nat) : Int) = (n : Int)) := ⟨rd3_0 _ _ _⟩
 have hl : [(n : Int), wrap64 ((n : Int) + 1), wrap64 (wrap64 (2 * (n : Int)) + 3)].length = 3 := len3 _ _ _
 generalize [(n : Int), wrap64 ((n : Int) + 1), wrap64 (wrap64 (2 * (n : Int)) + 3)] = y at *
 rw [show (0 : Int) = ((0 : Nat) : Int) from rfl, names_step (k := k + 3) (by omega) (by omega) (by omega) (by omega) (by omega) e1.out]
 rw [names_step (k := k + 2) (by omega) (by omega) (by omega) (by omega) (by omega) e2.out]
 rw [names_step (k := k + 1) (by omega) (by omega) (by omega) (by omega) (by omega) e3.out]
 rw [show ((2 + 1 : Nat) : Int) = (y.length : Int) by rw [hl], names_end, w64s (by omega)]
theorem names_rows {L b : List Int} (hL : L.length ≤ 1000) (h : ∀ j : Nat, j < L.length → ∃ n : Nat, rd L (j : Int) = (n : Int) ∧ 1 ≤ n ∧ n ≤ 190) (d : Nat) : ∀ (i k : Nat), i + d = L.length → 2000000 ≤ k →
  alidadelaw02_MulNames.l0 (k + 5 * d) (toL 1) b L (L.length : Int) (i : Int) = alidadelaw02_MulNames.l0 k (toL 1) b L (L.length : Int) (L.length : Int) := by
 induction d with
 | zero => intro i k hi _; rw [show i = L.length by omega, Nat.mul_zero, Nat.add_zero]
 | succ d ih =>
  intro i k hi hk
  obtain ⟨n, h1, h2, h3⟩ := h i (by omega)
  rw [show k + 5 * (d + 1) = (k + 5 * d) + 5 by omega, names_row (by omega) ⟨h2, h3⟩ (by omega) hL h1, ih (i + 1) k (by omega) hk]
theorem names_list (j : Nat) (hj : j < ([1, 2, 39, 40, 41, 42, 80, 81, 82, 83, 160, 161, 165] : List Int).length) : ∃ n : Nat, rd [1, 2, 39, 40, 41, 42, 80, 81, 82, 83, 160, 161, 165] (j : Int) = (n : Int) ∧ 1 ≤ n ∧ n ≤ 190 := by
 match j, hj with
 | 0, _ => exact ⟨1, rfl, by omega, by omega⟩
 | 1, _ => exact ⟨2, rfl, by omega, by omega⟩
 | 2, _ => exact ⟨39, rfl, by omega, by omega⟩
 | 3, _ => exact ⟨40, rfl, by omega, by omega⟩
 | 4, _ => exact ⟨41, rfl, by omega, by omega⟩
 | 5, _ => exact ⟨42, rfl, by omega, by omega⟩
 | 6, _ => exact ⟨80, rfl, by omega, by omega⟩
 | 7, _ => exact ⟨81, rfl, by omega, by omega⟩
 | 8, _ => exact ⟨82, rfl, by omega, by omega⟩
 | 9, _ => exact ⟨83, rfl, by omega, by omega⟩
 | 10, _ => exact ⟨160, rfl, by omega, by omega⟩
 | 11, _ => exact ⟨161, rfl, by omega, by omega⟩
 | 12, _ => exact ⟨165, rfl, by omega, by omega⟩
 | j + 13, hj => exact absurd hj (by simp only [List.length_cons, List.length_nil]; omega)
theorem small_nil {k w c : Nat} {b : List Int} (ob : ok b = true) (hb : b.length ≤ 10) (mb : may b = false) (hw : w < 4294967296) (hc : c < 4294967296) (hk : 1000000 ≤ k) : mul_Small.f k b (w : Int) (c : Int) = some [] := by
 rw [small_f ob (by omega) hw hc hk]; unfold smallS; rw [mb]; rfl
theorem pow2_nil {k e : Nat} (h : 2097152 ≤ e) (h2 : e ≤ 9223372036854775807) (hk : 20000000000000000000 ≤ k) : mul_Pow.f k (toL 2) (e : Int) = some [] := by
 have b2 : (2 : Nat) < B ^ most := lt_most (m := 1) (by decide) (by omega)
 have l2 := toL_len b2
 rw [pow_f (toL_ok _) (by omega) (by omega) (by omega)]
 unfold powS
 rw [toL_may b2, decide_eq_true (show (0 : Int) ≤ (e : Int) by omega), val_toL, Int.toNat_natCast, fit_ge (two_not h)]; rfl
theorem pow1_one {k e : Nat} (h2 : e ≤ 9223372036854775807) (hk : 20000000000000000000 ≤ k) : mul_Pow.f k (toL 1) (e : Int) = some (toL 1) := by
 have l2 := toL_len one_lt
 rw [pow_f (toL_ok _) (by omega) (by omega) (by omega)]
 unfold powS
 rw [toL_may one_lt, decide_eq_true (show (0 : Int) ≤ (e : Int) by omega), val_toL, Int.toNat_natCast, Nat.one_pow, fit_lt one_lt]; rfl
theorem pow0_nil {k e : Nat} (h1 : 0 < e) (h2 : e ≤ 9223372036854775807) (hk : 20000000000000000000 ≤ k) : mul_Pow.f k [] (e : Int) = some [] := by
 rw [pow_f rfl (by simp) (by omega) (by omega)]
 unfold powS
 rw [show may [] = true from rfl, decide_eq_true (show (0 : Int) ≤ (e : Int) by omega), Int.toNat_natCast, show val [] = 0 from rfl, Nat.zero_pow h1, fit_lt zero_lt, toL_zero]; rfl
theorem names_pow {k e j : Nat} {x11 x12 b L : List Int} (h1 : 2097152 ≤ e) (h2 : e ≤ 9223372036854775807) (hk : 20000000000000000000 ≤ k) (hj : j < L.length) (hL : L.length ≤ 1000) (hr : rd L (j : Int) = (e : Int)) :
  alidadelaw02_MulNames.l2 (k + 1) (toL 1) b x11 x12 L (L.length : Int) (j : Int) = alidadelaw02_MulNames.l2 k (toL 1) b x11 x12 L (L.length : Int) ((j + 1 : Nat) : Int) := by
 simp only [alidadelaw02_MulNames.l2]
 rw [if_pos (by omega), if_pos (by omega), if_pos (by omega), hr, show (2 : Int) = ((2 : Nat) : Int) from rfl, ofN (by omega) (by omega), Option.bind_some, pow2_nil h1 h2 hk, Option.bind_some, if_pos (by rfl), if_pos (by omega), pow1_one h2 hk, Option.bind_some, sameT rfl one_lt (by omega), Option.bind_some, if_pos rfl, pow0_nil (by omega) h2 hk, Option.bind_some, if_pos (by rfl), w64s (by omega)]
theorem mul_bad {k : Nat} {a b : List Int} (oa : ok a = true) (ob : ok b = true) (la : a.length ≤ 65536) (lb : b.length ≤ 65536) (h : (may a && may b) = false) (hk : 1000000 ≤ k) : mul_Mul.f k a b = some [] := by
 rw [mul_f oa ob (by omega) (by omega) hk]; unfold mulS; rw [h]; rfl
theorem names_last {k : Nat} {L : List Int} {e : Nat} (he : e = 1048575) (hk : 20000000000000000000 ≤ k) :
  alidadelaw02_MulNames.l2 (k + 1) (toL 1) [1, 0] (toL (2 ^ e)) (toL (2 ^ (e + 1))) L (L.length : Int) (L.length : Int) = some true := by
 have t1 := toL_one
 have b2 : (2 : Nat) < B ^ most := lt_most (m := 1) (by decide) (by omega)
 have l1 := toL_len one_lt
 have l2 := toL_len b2
 have ht := two_most (e := 2 * e + 1) (by omega)
 have p1 : mul_Pow.f k (toL 2) 2097151 = some (toL (2 ^ (2 * e + 1))) := by
  rw [show (2097151 : Int) = ((2 * e + 1 : Nat) : Int) by omega, pow_f (toL_ok _) (by omega) (by omega) (by omega)]
  unfold powS
  rw [toL_may b2, decide_eq_true (show (0 : Int) ≤ ((2 * e + 1 : Nat) : Int) by omega), val_toL, Int.toNat_natCast, fit_lt ht]; rfl
 have m1 := mul_bad (k := k) (a := [1, 0]) (b := toL 1) rfl (toL_ok _) (by simp) l1 rfl (by omega)
 have m2 := mul_bad (k := k) (a := toL 1) (b := [1, 0]) (toL_ok _) rfl l1 (by simp) (by rw [show may [1, 0] = false from rfl, Bool.and_false]) (by omega)
 have s1 : mul_Small.f k [1, 0] 1 1 = some [] := small_nil (w := 1) (c := 1) rfl (by simp) rfl (by omega) (by omega) (by omega)
 have p2 : mul_Pow.f k [1, 0] 0 = some [] := by rw [pow_f rfl (by simp) (by omega) (by omega)]; rfl
 have q1 : mul_Square.f k [1, 0] = some [] := by rw [square_f rfl (by simp) (by omega)]; rfl
 have u1 : mul_Sum_2_2.f k (toL 1) [1, 0] (toL 1) (toL 1) = some [] := by
  obtain ⟨k, rfl⟩ : ∃ m, k = m + 4 := ⟨k - 4, by omega⟩
  unfold mul_Sum_2_2.f mul_Sum.f
  have hmn : mn (([toL 1, [1, 0]] : List (List Int)).length : Int) (([toL 1, toL 1] : List (List Int)).length : Int) = ((2 : Nat) : Int) := rfl
  rw [hmn]
  show mul_Sum.l0 (k + 4) [toL 1, [1, 0]] [toL 1, toL 1] [] ((2 : Nat) : Int) ((0 : Nat) : Int) = some []
  have hf : val ([] : List Int) + val (toL 1) * val (toL 1) < B ^ most := by rw [val_toL]; exact one_lt
  rw [sum_step (k := k + 2) (i := 0) (n := 2) (acc := []) (a := toL 1) (b := toL 1) (by omega) (by simp) (by simp) rfl rfl (toL_ok _) (toL_ok _) (toL_may one_lt) (toL_may one_lt) rfl rfl hf (by omega) (by omega), val_toL]
  simp only [mul_Sum.l0]
  have g1 : rd_L1 [toL 1, [1, 0]] ((0 + 1 : Nat) : Int) = [1, 0] := rfl
  have g2 : rd_L1 [toL 1, toL 1] ((0 + 1 : Nat) : Int) = toL 1 := rfl
  rw [if_pos (by omega), if_pos (by omega), if_pos (by simp), if_pos (by simp), g1, g2, mul_bad (a := [1, 0]) (b := toL 1) rfl (toL_ok _) (by simp) l1 rfl (by omega), Option.bind_some, may_f (by simp), Option.bind_some, if_neg (by decide)]
  simp only [mul_Sum.j1, if_true]
 have u2 : mul_Sum_2_3.f k (toL 1) (toL (2 ^ e)) (toL 1) (toL (2 ^ (e + 1))) [1, 0] = some (toL (1 + 2 ^ (2 * e + 1))) := by
  have c1 := two_most (e := e) (by omega)
  have c2 := two_most (e := e + 1) (by omega)
  have e1 : 2 ^ e * 2 ^ (e + 1) = 2 ^ (2 * e + 1) := by rw [← Nat.pow_add]; congr 1; omega
  have e2 : 1 + 2 ^ (2 * e + 1) < B ^ most := by
   have h1 := two_most (e := 2 * e + 1) (by omega)
   have h2 : B ^ most = 2 ^ (2 * e + 1) + 2 ^ (2 * e + 1) := by rw [B_pow, show 32 * most = (2 * e + 1) + 1 by rw [most_eq]; omega, Nat.pow_succ]; omega
   have h3 : 1 < 2 ^ (2 * e + 1) := Nat.one_lt_two_pow (by omega)
   omega
  unfold mul_Sum_2_3.f
  rw [sum_two (a := toL 1) (b := toL (2 ^ e)) (c := toL 1) (d := toL (2 ^ (e + 1))) rfl rfl rfl rfl rfl (toL_ok _) (toL_ok _) (toL_ok _) (toL_ok _) (toL_may one_lt) (toL_may c1) (toL_may one_lt) (toL_may c2) (by rw [val_toL, val_toL, val_toL, e1]; exact e2) (by omega)]
  rw [val_toL, val_toL, val_toL, e1]
 have e2 : 1 + 2 ^ (2 * e + 1) < B ^ most := by
  have h2 : B ^ most = 2 ^ (2 * e + 1) + 2 ^ (2 * e + 1) := by rw [B_pow, show 32 * most = (2 * e + 1) + 1 by rw [most_eq]; omega, Nat.pow_succ]; omega
  have h3 : 1 < 2 ^ (2 * e + 1) := Nat.one_lt_two_pow (by omega)
  omega
 have ll := long_len (x := 1 + 2 ^ (2 * e + 1)) (e := 2 * e + 1) (by omega) (by omega) e2
 have u3 : mul_Sum.f k [] [] = some [] := by
  obtain ⟨k, rfl⟩ : ∃ m, k = m + 1 := ⟨k - 1, by omega⟩
  unfold mul_Sum.f
  exact sum_end (n := 0) (i := 0) (by omega)
 have s2 : mul_Small.f k [] 5 9 = some (toL 9) := by
  have h := small_f (k := k) (w := 5) (c := 9) (a := []) rfl (by simp) (by omega) (by omega) (by omega)
  rw [show smallS [] 5 9 = toL 9 from fit_small (m := 1) (by decide) (by omega)] at h
  exact h
 have s3 : mul_Small.f k (toL 1) 0 0 = some [] := by
  have h := small_f (k := k) (w := 0) (c := 0) (a := toL 1) (toL_ok _) (by omega) (by omega) (by omega) (by omega)
  unfold smallS at h
  rw [toL_may one_lt, if_pos rfl, Nat.mul_zero, Nat.add_zero, fit_lt zero_lt, toL_zero] at h
  exact h
 have m3 : mul_Mul.f k [] (toL 1) = some [] := by
  have h := mulN (k := k) zero_lt one_lt (by rw [Nat.zero_mul]; exact zero_lt) (by omega)
  rw [Nat.zero_mul, toL_zero] at h
  exact h
 have b9 : (9 : Nat) < B ^ most := lt_most (m := 1) (by decide) (by omega)
 have o2 : nat_Of.f k 2 = some (toL 2) := ofN (u := 2) (by omega) (by omega)
 have o9 : nat_Of.f k 9 = some (toL 9) := ofN (u := 9) (by omega) (by omega)
 simp only [alidadelaw02_MulNames.l2]
 rw [if_neg (by omega), o2, Option.bind_some, p1, Option.bind_some, bits2 (by omega), Option.bind_some, if_pos (by omega), m1, Option.bind_some, if_pos (by rfl), m2, Option.bind_some, if_pos (by rfl), s1, Option.bind_some, if_pos (by rfl), p2, Option.bind_some, if_pos (by rfl), q1, Option.bind_some, if_pos (by rfl)]
 rw [u1, Option.bind_some, if_pos (by rfl), u2, Option.bind_some, if_pos (by omega), u3, Option.bind_some, if_pos (by rfl), s2, Option.bind_some, o9, Option.bind_some, sameT rfl b9 (by omega), Option.bind_some, if_pos rfl, s3, Option.bind_some, if_pos (by rfl), m3]
 rfl
theorem names_mid {k e : Nat} (he : e = 1048575) (hk : 20000000000000000010 ≤ k) : alidadelaw02_MulNames.j2 k (toL 1) [1, 0] (toL (2 ^ e)) (toL (2 ^ (e + 1))) false = some true := by
 obtain ⟨k, rfl⟩ : ∃ m, k = m + 6 := ⟨k - 6, by omega⟩
 simp only [alidadelaw02_MulNames.j2, Bool.false_eq_true, if_false]
 rw [Option.bind_some]
 have e0 : rd [9223372036854775807, 1099511627776, 2097152, -1] ((0 : Nat) : Int) = ((9223372036854775807 : Nat) : Int) := rfl
 have e1 : rd [9223372036854775807, 1099511627776, 2097152, -1] ((1 : Nat) : Int) = ((1099511627776 : Nat) : Int) := rfl
 have e2 : rd [9223372036854775807, 1099511627776, 2097152, -1] ((2 : Nat) : Int) = ((2097152 : Nat) : Int) := rfl
 have e3 : rd [9223372036854775807, 1099511627776, 2097152, -1] ((3 : Nat) : Int) = -1 := rfl
 have hl : ([9223372036854775807, 1099511627776, 2097152, -1] : List Int).length = 4 := rfl
 generalize ([9223372036854775807, 1099511627776, 2097152, -1] : List Int) = L at *
 have s0 := names_pow (k := k + 4) (j := 0) (x11 := toL (2 ^ e)) (x12 := toL (2 ^ (e + 1))) (b := [1, 0]) (by omega) (by omega) (by omega) (by omega) (by omega) e0
 rw [show ((0 : Nat) : Int) = 0 from rfl] at s0
 rw [s0]
 rw [names_pow (k := k + 3) (j := 1) (by omega) (by omega) (by omega) (by omega) (by omega) e1]
 rw [names_pow (k := k + 2) (j := 2) (by omega) (by omega) (by omega) (by omega) (by omega) e2]
 have b2 : (2 : Nat) < B ^ most := lt_most (m := 1) (by decide) (by omega)
 have l2 := toL_len b2
 have hn : mul_Pow.f (k + 1) (toL 2) (-1) = some [] := by
  rw [pow_f (toL_ok _) (by omega) (by omega) (by omega)]
  unfold powS
  rw [show decide ((0 : Int) ≤ -1) = false from rfl, Bool.and_false]; rfl
 have hs : alidadelaw02_MulNames.l2 (k + 2) (toL 1) [1, 0] (toL (2 ^ e)) (toL (2 ^ (e + 1))) L (L.length : Int) ((2 + 1 : Nat) : Int) = alidadelaw02_MulNames.l2 (k + 1) (toL 1) [1, 0] (toL (2 ^ e)) (toL (2 ^ (e + 1))) L (L.length : Int) (L.length : Int) := by
  have o2 : nat_Of.f (k + 1) 2 = some (toL 2) := ofN (u := 2) (by omega) (by omega)
  rw [show ((2 + 1 : Nat) : Int) = ((3 : Nat) : Int) from rfl]
  simp only [alidadelaw02_MulNames.l2]
  rw [if_pos (by omega), if_pos (by omega), if_pos (by omega), e3, o2, Option.bind_some, hn, Option.bind_some, if_pos (by rfl), if_neg (by decide), w64s (by omega), show ((3 + 1 : Nat) : Int) = (L.length : Int) by rw [hl]]
 rw [hs]
 exact names_last he (by omega)
theorem names_tail {k : Nat} {L : List Int} (hk : 20000000000000000020 ≤ k) : alidadelaw02_MulNames.l0 (k + 1) (toL 1) [1, 0] L (L.length : Int) (L.length : Int) = some true := by
 obtain ⟨e, he⟩ : ∃ e : Nat, e = 1048575 := ⟨_, rfl⟩
 have ht := two_most (e := 2 * e + 1) (by omega)
 have c2 := two_most (e := e + 1) (by omega)
 have hsq : mul_Square.f k (toL (2 ^ (e + 1))) = some [] := by
  have l2 := toL_len c2
  rw [square_f (toL_ok _) (by omega) (by omega), mulS_of (toL_may c2) (toL_may c2), val_toL, ← Nat.pow_add, fit_ge (two_not (by omega))]
 have lt := toL_len ht
 have h2 : B ^ most = 2 ^ (2 * e + 1) + 2 ^ (2 * e + 1) := by rw [B_pow, show 32 * most = (2 * e + 1) + 1 by rw [most_eq]; omega, Nat.pow_succ]; omega
 have h3 : 1 < 2 ^ (2 * e + 1) := Nat.one_lt_two_pow (by omega)
 have s1 : mul_Small.f k (toL (2 ^ (2 * e + 1))) 2 0 = some [] := by
  have h := small_f (k := k) (w := 2) (c := 0) (a := toL (2 ^ (2 * e + 1))) (toL_ok _) (by omega) (by omega) (by omega) (by omega)
  unfold smallS at h
  rw [toL_may ht, if_pos rfl, val_toL, fit_ge (by omega)] at h
  exact h
 have e2 : 2 ^ (2 * e + 1) + 1 < B ^ most := by omega
 have s2 : mul_Small.f k (toL (2 ^ (2 * e + 1))) 1 1 = some (toL (2 ^ (2 * e + 1) + 1)) := by
  have h := smallN (k := k) (w := 1) (c := 1) ht (by omega) (by omega) (by rw [Nat.mul_one]; exact e2) (by omega)
  rw [Nat.mul_one] at h
  exact h
 have ll := long_len (x := 2 ^ (2 * e + 1) + 1) (e := 2 * e + 1) (by omega) (by omega) e2
 have sh := shl1 (e := 2 * e + 1) (by omega)
 rw [show ((2 * e + 1 : Nat) : Int) = 2097151 by omega] at sh
 have s3 := shl1 (e := e) (by omega)
 rw [show (e : Int) = 1048575 by omega] at s3
 have s4 := shl1 (e := e + 1) (by omega)
 rw [show ((e + 1 : Nat) : Int) = 1048576 by omega] at s4
 simp only [alidadelaw02_MulNames.l0]
 rw [if_neg (by omega), s3, Option.bind_some, s4, Option.bind_some, sq2 (by omega) (by omega), Option.bind_some, bits2 (by omega), Option.bind_some, if_pos (by omega), mul2 (by omega) (by omega), Option.bind_some, bits2 (by omega), Option.bind_some, if_pos (by omega), hsq, Option.bind_some, if_pos (by rfl), sh, Option.bind_some, s1, Option.bind_some, if_pos (by rfl), Option.bind_some, s2, Option.bind_some, ll]
 exact names_mid he (by omega)
theorem MulNames : alidadelaw02_MulNames.Pure := by
 obtain ⟨k, hk⟩ : ∃ k : Nat, k = 20000000000000000100 := ⟨_, rfl⟩
 refine ⟨k + 1 + 5 * 13, ?_⟩
 have o1 : nat_Of.f (k + 1 + 5 * 13) 1 = some (toL 1) := ofN (u := 1) (by omega) (by omega)
 unfold alidadelaw02_MulNames.f
 rw [works_f (by omega), Option.bind_some, if_pos rfl, o1, Option.bind_some, Option.bind_some]
 have h := names_list
 have hl : ([1, 2, 39, 40, 41, 42, 80, 81, 82, 83, 160, 161, 165] : List Int).length = 13 := rfl
 generalize ([1, 2, 39, 40, 41, 42, 80, 81, 82, 83, 160, 161, 165] : List Int) = L at *
 have s0 := names_rows (b := [1, 0]) (by omega) h 13 0 (k + 1) (by omega) (by omega)
 rw [show ((0 : Nat) : Int) = 0 from rfl] at s0
 rw [s0]
 exact names_tail (by omega)
end Go.Proofs.Ytnngdlehakcdlaa.Pure
