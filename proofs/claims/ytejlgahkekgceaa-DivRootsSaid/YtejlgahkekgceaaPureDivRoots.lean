import Derived.Test.YtejlgahkekgceaaGDivRefCtoDivRefD
import Derived.Test.YtejlgahkekgceaaGDivRoottoDivAwake
import Derived.Test.YtejlgahkekgceaaPDivx36
namespace Go.Proofs.Ytejlgahkekgceaa.Pure
open Go.RowKit Go.Proofs.Ytejlgahkekgceaa.PDiv Go.Proofs.YtejlgahkekgceaaW.PrintWords Go.Proofs.YtejlgahkekgceaaW.PrintLast Go.Proofs.YtejlgahkekgceaaV

theorem rshlN {k x K : Nat} (hx : x < B ^ most) (hK : K ≤ 2097152) (h : x * 2 ^ K < B ^ most) (hk : 300000 ≤ k) : alidaderef01_Shl.f k (toL x) (K : Int) = some (toL (x * 2 ^ K)) := by
  rw [rshl_f (toL_ok _) (toL_may hx) (by omega) (by omega), shlS_val (q := most) (toL_may hx) (by omega) (by rw [val_toL]; omega) (by rw [most_eq]; omega), val_toL]
theorem raddN {k x y : Nat} (hx : x < B ^ most) (hy : y < B ^ most) (h : x + y < B ^ most) (hk : 300000 ≤ k) : alidaderef01_Add.f k (toL x) (toL y) = some (toL (x + y)) := by
  rw [radd_f (toL_ok _) (toL_ok _) hk, addS_of (toL_may hx) (toL_may hy), val_toL, val_toL, fit_lt h]
theorem rcmpN {k x y : Nat} (hx : x < B ^ most) (hy : y < B ^ most) (hk : 100000 ≤ k) : alidaderef01_Cmp.f k (toL x) (toL y) = some (cmpN x y) := by
  rw [rcmp_f (toL_ok _) (toL_ok _) hk, cmpS_of (toL_may hx) (toL_may hy), val_toL, val_toL]
theorem rbitsN {k x : Nat} (hx : x < B ^ most) (hk : 100 ≤ k) : alidaderef01_Bits.f k (toL x) = some (blen x : Int) := by
  rw [rbits_f (toL_ok _) hk, toL_may hx, if_pos rfl, val_toL]
theorem blen_most {x : Nat} (hx : x < B ^ most) : blen x ≤ 2097152 := by
  have hmo := most_eq
  have : blen x ≤ 32 * most := blen_le.2 (by rw [← pow_B]; exact hx)
  omega
theorem square_go {x : Nat} (xm : x < B ^ most) (hf : x * x < B ^ most) (d : Nat) : ∀ (i k : Nat), i + d = blen x → 1000000 + d < k → alidaderef03_square.l0 k (toL x) (toL (x * (x % 2 ^ i))) (i : Int) = some (toL (x * x)) := by
  have hb := blen_most xm
  induction d with
  | zero =>
    intro i k hi hk
    obtain ⟨k, rfl⟩ : ∃ m, k = m + 1 := ⟨k - 1, by omega⟩
    simp only [alidaderef03_square.l0]
    rw [rbitsN xm (by omega), Option.bind_some, if_neg (by omega), show i = blen x by omega, Nat.mod_eq_of_lt (lt_blen x)]
  | succ d ih =>
    intro i k hi hk
    obtain ⟨k, rfl⟩ : ∃ m, k = m + 1 := ⟨k - 1, by omega⟩
    have hn := ih (i + 1) k (by omega) (by omega)
    have hm : x % 2 ^ (i + 1) = x % 2 ^ i + 2 ^ i * (x / 2 ^ i % 2) := Nat.mod_pow_succ
    have hp : 2 ^ i ≤ x := by
      refine Nat.le_of_not_lt fun h => ?_
      have := blen_le.2 h
      omega
    have hle : x * (x % 2 ^ i) + x * 2 ^ i * (x / 2 ^ i % 2) = x * (x % 2 ^ (i + 1)) := by rw [hm, Nat.mul_add, Nat.mul_assoc]
    have hle2 : x * (x % 2 ^ (i + 1)) ≤ x * x := Nat.mul_le_mul_left _ (Nat.mod_le _ _)
    have hle3 : x * 2 ^ i ≤ x * x := Nat.mul_le_mul_left _ hp
    simp only [alidaderef03_square.l0]
    rw [rbitsN xm (by omega), Option.bind_some, if_pos (by omega), rbit_f (toL_ok _) (toL_may xm) (by omega) (by omega), Option.bind_some, val_toL, show wrap64 ((i : Int) + 1) = ((i + 1 : Nat) : Int) by rw [w64d (by omega)]; omega]
    by_cases h : x / 2 ^ i % 2 = 1
    · rw [h, Nat.mul_one] at hle
      rw [decide_eq_true h, if_pos rfl, rshlN xm (by omega) (by omega) (by omega), Option.bind_some, raddN (by omega) (by omega) (by omega) (by omega), Option.bind_some, hle]
      exact hn
    · have h0 : x / 2 ^ i % 2 = 0 := by omega
      rw [h0, Nat.mul_zero, Nat.add_zero] at hle
      rw [decide_eq_false h, if_neg (by decide), hle]
      exact hn
theorem square_f {k x : Nat} (xm : x < B ^ most) (hf : x * x < B ^ most) (hk : 4000000 ≤ k) : alidaderef03_square.f k (toL x) = some (toL (x * x)) := by
  have hb := blen_most xm
  have := square_go xm hf (blen x) 0 k (by omega) (by omega)
  rw [Nat.pow_zero, Nat.mod_one, Nat.mul_zero, toL_zero] at this
  exact this
theorem rroot_go {a p : Nat} (hp : p ≤ 1000) (ha : a < B ^ p) : ∀ (n k r : Nat), n ≤ 32 * p + 1 → 5000000 + n < k → r * r ≤ a → a < (r + 2 ^ n) * (r + 2 ^ n) → alidaderef03_Root.l0 k (toL a) (toL r) ((n : Int) - 1) = some (toL (rt a)) := by
  have am := lt_most ha (by omega)
  intro n
  induction n with
  | zero =>
    intro k r hn hk h1 h2
    obtain ⟨k, rfl⟩ : ∃ m, k = m + 1 := ⟨k - 1, by omega⟩
    simp only [alidaderef03_Root.l0]
    rw [if_neg (by omega), rt_eq h1 h2]
  | succ n ih =>
    intro k r hn hk h1 h2
    obtain ⟨k, rfl⟩ : ∃ m, k = m + 1 := ⟨k - 1, by omega⟩
    have L1 : ([1] : List Int) = toL 1 := lit rfl rfl rfl
    have rl : r ≤ a := Nat.le_trans (le_rt h1) (rt_le a)
    have e2 : 1 * 2 ^ n = 2 ^ n := Nat.one_mul _
    have hb : 2 ^ n ≤ B ^ p := by rw [pow_B]; exact Nat.pow_le_pow_right (by decide) (by omega)
    have hb1 : 2 ^ n < B ^ (p + 1) := by
      have h3 : B ^ p * B = B ^ (p + 1) := (Nat.pow_succ ..).symm
      have h4 : B ^ p * 2 ≤ B ^ p * B := Nat.mul_le_mul_left _ (by decide)
      have h5 : 0 < B ^ p := Nat.pow_pos (by decide)
      omega
    have hr1 : r < B ^ (p + 1) := lt_pow_succ (Nat.lt_of_le_of_lt rl ha)
    have hs : r + 2 ^ n < B ^ (p + 2) := add_lt_pow hr1 hb1
    have hss : (r + 2 ^ n) * (r + 2 ^ n) < B ^ (p + 2 + (p + 2)) := by
      have g : 0 < B ^ (p + 2) := Nat.pow_pos (by decide)
      rw [Nat.pow_add]
      exact Nat.mul_lt_mul_of_lt_of_le hs (Nat.le_of_lt hs) g
    have m1 : (1 : Nat) < B ^ most := lt_big (by omega)
    have mn := lt_most hb1 (by omega)
    have mr := lt_most hr1 (by omega)
    have ms := lt_most hs (by omega)
    have mss := lt_most hss (by omega)
    have hsh := rshlN (k := k) (x := 1) (K := n) m1 (by omega) (by omega) (by omega)
    rw [e2] at hsh
    simp only [alidaderef03_Root.l0]
    rw [show ((n + 1 : Nat) : Int) - 1 = (n : Int) by omega, if_pos (by omega), L1, hsh, Option.bind_some, raddN mr mn ms (by omega), Option.bind_some, square_f ms mss (by omega), Option.bind_some, rcmpN mss am (by omega), Option.bind_some, show wrap64 ((n : Int) - 1) = (n : Int) - 1 by rw [w64d (by omega)]]
    by_cases h : (r + 2 ^ n) * (r + 2 ^ n) ≤ a
    · rw [if_pos (cmpN_le.2 h)]
      refine ih k _ (by omega) (by omega) h ?_
      rw [Nat.pow_succ] at h2
      rw [show r + 2 ^ n + 2 ^ n = r + 2 ^ n * 2 by omega]; exact h2
    · rw [if_neg (fun e => h (cmpN_le.1 e))]
      exact ih k r (by omega) (by omega) h1 (by omega)
theorem rroot_f {k : Nat} {l : List Int} (ol : ok l = true) {p : Nat} (hp : p ≤ 1000) (hl : l.length ≤ p) (hk : 6000000 ≤ k) : alidaderef03_Root.f k l = some (if may l = true then toL (rt (val l)) else []) := by
  unfold alidaderef03_Root.f
  rw [rmay_f ol, Option.bind_some]
  by_cases ml : may l = true
  · obtain ⟨a, ha, rfl⟩ := toN ol ml hl
    have am := lt_most ha (by omega)
    have hb : blen a ≤ 32 * p := blen_le.2 (by rw [← pow_B]; exact ha)
    rw [if_pos ml, if_pos ml, rbitsN am (by omega), Option.bind_some, val_toL]
    have e : wrap64 (Int.tdiv (blen a : Int) 2) = ((blen a / 2 + 1 : Nat) : Int) - 1 := by
      rw [Int.tdiv_eq_ediv_of_nonneg (by omega), w64d (by omega)]; omega
    have := rroot_go hp ha (blen a / 2 + 1) k 0 (by omega) (by omega) (by omega) (by
      rw [Nat.zero_add, ← Nat.pow_add]
      exact Nat.lt_of_lt_of_le (lt_blen a) (Nat.pow_le_pow_right (by decide) (by omega)))
    rw [toL_zero] at this
    rw [e, this]
  · rw [if_neg ml, if_neg ml]
theorem root_any {k : Nat} {l : List Int} (ol : ok l = true) (hl : l.length ≤ 1000) (hk : 2 * val l + 200 ≤ k) : div_Root.f k l = some (if may l = true then toL (rt (val l)) else []) := by
  by_cases ml : may l = true
  · obtain ⟨a, ha, rfl⟩ := toN ol ml hl
    rw [val_toL] at hk
    rw [if_pos ml, val_toL, rootS (lt_most ha (by omega)) (by omega)]
  · unfold div_Root.f
    obtain ⟨k, rfl⟩ : ∃ m, k = m + 1 := ⟨k - 1, by omega⟩
    rw [may_f (by omega), Option.bind_some, if_neg ml, if_neg ml]
    simp only [div_Root.j0, if_true]
theorem divRoots_loop {l : List Int} (ol : ok l = true) (hl : l.length ≤ 6) (d : Nat) : ∀ (i k : Nat), i + d = 2 → 2 * val l + 9000000 + d < k → alidadelaw03_DivRoots.l0 k l l (i : Int) = some true := by
  induction d with
  | zero =>
    intro i k hi hk
    obtain ⟨k, rfl⟩ : ∃ m, k = m + 1 := ⟨k - 1, by omega⟩
    simp only [alidadelaw03_DivRoots.l0]
    rw [if_neg (by omega), Same_f (by omega) (by omega), Option.bind_some, decide_eq_true rfl, if_pos rfl, awake_f (by omega)]; rfl
  | succ d ih =>
    intro i k hi hk
    obtain ⟨k, rfl⟩ : ∃ m, k = m + 1 := ⟨k - 1, by omega⟩
    have hlen : (if may l = true then toL (rt (val l)) else []).length ≤ 65536 := by
      by_cases ml : may l = true
      · rw [if_pos ml]
        refine Nat.le_trans (toL_length_le.2 (Nat.lt_of_le_of_lt (rt_le _) (val_lt ol))) (by omega)
      · rw [if_neg ml]; simp
    obtain ⟨r, h⟩ := is_f (k := k) (a := if may l = true then toL (rt (val l)) else []) (b := if may l = true then toL (rt (val l)) else []) (by omega) (by omega)
    rw [decide_eq_true rfl] at h
    simp only [alidadelaw03_DivRoots.l0]
    rw [if_pos (by omega), root_any ol (by omega) (by omega), Option.bind_some, rroot_f ol (p := 6) (by omega) hl (by omega), Option.bind_some, h, Option.bind_some]
    simp only [if_true]
    rw [show wrap64 ((i : Int) + 1) = ((i + 1 : Nat) : Int) by rw [w64d (by omega)]; omega]
    exact ih (i + 1) k (by omega) (by omega)
theorem DivRoots : alidadelaw03_DivRoots.Pure := by
  intro l0 _ _ w0
  have o0 := ok_of_wf w0
  obtain ⟨k, hk⟩ : ∃ k, k = 2 * val l0 + 10000000 := ⟨_, rfl⟩
  refine ⟨k, ?_⟩
  unfold alidadelaw03_DivRoots.f
  by_cases h0 : (l0.length : Int) > 6
  · rw [if_pos h0, awake_f (by omega)]; rfl
  rw [if_neg h0, own_f (by omega), Option.bind_some]
  exact divRoots_loop o0 (by omega) 2 0 k (by omega) (by omega)

end Go.Proofs.Ytejlgahkekgceaa.Pure
