/- Texts of the seat Ytnngdlehakcdlaa that belong together, joined. -/
import Derived.Test.YtnngdlehakcdlaaPMulx39
import Derived.Test.YtnngdlehakcdlaaGPMulx40toPMulx41
import Derived.Test.YtnngdlehakcdlaaMulNum
import Derived.Test.YtnngdlehakcdlaaPMulx42
/- Plain numbers: how many bits, and how two stand. -/
namespace Go.Proofs.Ytnngdlehakcdlaa.Pure
open Go.RowKit Go.Proofs.Ytnngdlehakcdlaa.PMul Go.Proofs.YtnngdlehakcdlaaW.PrintWords Go.Proofs.YtnngdlehakcdlaaW.PrintLast Go.Proofs.YtnngdlehakcdlaaV

theorem blen_le {n k : Nat} : blen n ≤ k ↔ n < 2 ^ k := by
  unfold blen
  by_cases h : n = 0
  · rw [if_pos h, h]; simp [Nat.two_pow_pos]
  · rw [if_neg h, ← Nat.log2_lt h]; omega
theorem lt_blen (n : Nat) : n < 2 ^ blen n := blen_le.1 (Nat.le_refl _)
theorem blen_half {n : Nat} (h : n ≠ 0) : blen n = 1 + blen (n / 2) := by
  unfold blen
  rw [if_neg h, Nat.log2_def]
  by_cases h2 : 2 ≤ n
  · rw [if_pos h2, if_neg (by omega)]; omega
  · rw [if_neg h2, if_pos (by omega)]
theorem bitLenAux_eq : ∀ (f n : Nat), n < 2 ^ f → Lib.bitLenAux f n = blen n
  | 0, n, h => by
    have : n = 0 := by simpa using h
    subst this; rfl
  | f + 1, n, h => by
    simp only [Lib.bitLenAux]
    by_cases h0 : n = 0
    · rw [if_pos h0, h0]; rfl
    · rw [if_neg h0, blen_half h0, bitLenAux_eq f (n / 2) (by rw [Nat.pow_succ] at h; omega)]
theorem bitLen_eq {n : Nat} (h : n < 2 ^ 64) : Lib.bitLen n = blen n := bitLenAux_eq 64 n h
/-- how many bits, by the last limb -/
theorem blen_snoc {l : List Int} {x : Int} (ho : ok (l ++ [x]) = true) (hx : x ≠ 0) : blen (val (l ++ [x])) = 32 * l.length + blen x.toNat := by
  rw [ok_append] at ho
  have h1 := val_lt ho.1
  have h2 := (ok_cons.1 ho.2).1
  rw [val_snoc]
  have hB : B ^ l.length = 2 ^ (32 * l.length) := by rw [Nat.pow_mul]
  rw [hB] at h1 ⊢
  generalize 32 * l.length = L at *
  generalize val l = r at *
  obtain ⟨X, rfl⟩ := Int.eq_ofNat_of_zero_le h2.1
  rw [Int.toNat_natCast]
  have key : ∀ j, r + 2 ^ L * X < 2 ^ (L + j) ↔ X < 2 ^ j := fun j => by
    rw [Nat.pow_add]
    constructor
    · intro h
      exact Nat.lt_of_mul_lt_mul_left (a := 2 ^ L) (by omega)
    · intro h
      have := Nat.mul_le_mul_left (2 ^ L) (show X + 1 ≤ 2 ^ j from h)
      rw [Nat.mul_add] at this
      omega
  have hp : 1 ≤ blen X := by
    rcases Nat.eq_zero_or_pos (blen X) with h | h
    · have := blen_le.1 (Nat.le_of_eq h)
      simp at this
      omega
    · exact h
  apply Nat.le_antisymm
  · exact blen_le.2 ((key _).2 (lt_blen X))
  · rcases Nat.lt_or_ge (blen (r + 2 ^ L * X)) (L + blen X) with h | h
    · have h3 : blen (r + 2 ^ L * X) ≤ L + (blen X - 1) := by omega
      have h4 := blen_le.2 ((key _).1 (blen_le.1 h3))
      omega
    · exact h
theorem bits_f {l : List Int} (ho : ok l = true) : nat_Bits.f l = some (if may l = true then (blen (val l) : Int) else 0) := by
  unfold nat_Bits.f
  by_cases hm : may l = true
  · have hlen := may_length hm
    rw [may_f (by omega), hm]
    simp only [Option.bind_some, if_true]
    rcases snoc_cases l with rfl | ⟨a, x, rfl⟩
    · rfl
    · have hx : x ≠ 0 := may_norm hm x (by simp)
      have hxo := (ok_cons.1 (ok_append.1 ho).2).1
      have hb := bitLen_eq (n := x.toNat) (by omega)
      have hle : blen x.toNat ≤ 32 := blen_le.2 (by omega)
      rw [blen_snoc ho hx]
      have hL : ((a ++ [x]).length : Int) = (a.length : Int) + 1 := by simp
      have hal : (a.length : Int) ≤ 65535 := by omega
      have hw : wrap64 ((a.length : Int) + 1 - 1) = (a.length : Int) := by unfold wrap64; omega
      have hrd : rd (a ++ [x]) (a.length : Int) = x := by
        unfold rd
        rw [Int.toNat_natCast, List.getD_eq_getElem?_getD, List.getElem?_append_right (Nat.le_refl _)]
        simp
      rw [hL, hw, hrd, if_neg (by omega), if_pos (by omega), if_pos (by omega)]
      unfold bits_Len32.f
      rw [if_pos (by omega), hb]
      simp only [Option.bind_some]
      have e1 : wrap64 (32 * (a.length : Int)) = 32 * (a.length : Int) := by unfold wrap64; omega
      rw [e1]
      congr 1
      unfold wrap64
      omega
  · have hm' : may l = false := by simpa using hm
    by_cases hl : l.length ≤ 9223372036854775807
    · rw [may_f hl, hm']; rfl
    · have : nat_May.f l = some false := by unfold nat_May.f; rw [if_neg (by omega)]
      rw [this, hm']; rfl
theorem w64z {z : Int} (h : -4611686018427387904 ≤ z ∧ z ≤ 4611686018427387904) : wrap64 z = z := by unfold wrap64; omega
theorem bitsN {x : Nat} (hx : x < B ^ most) : nat_Bits.f (toL x) = some (blen x : Int) := by
  rw [bits_f (toL_ok _), toL_may hx, if_pos rfl, val_toL]
theorem cmpT {x y : Nat} (hx : x < B ^ most) (hy : y < B ^ most) : nat_Cmp.f (toL x) (toL y) = some (cmpN x y) := by
  unfold nat_Cmp.f cmpS
  rw [if_pos ⟨toL_ok _, toL_ok _⟩, toL_may hx, toL_may hy, val_toL, val_toL]; rfl
theorem blen_ge {n k : Nat} (h : 2 ^ k ≤ n) : k + 1 ≤ blen n := by
  refine Nat.le_of_not_lt fun h2 => ?_
  have := blen_le.1 (show blen n ≤ k by omega)
  omega
theorem blen_pow_le {n : Nat} (h : n ≠ 0) : 2 ^ (blen n - 1) ≤ n := by
  refine Nat.le_of_not_lt fun h2 => ?_
  have h3 := blen_le.2 h2
  have h4 : blen n ≠ 0 := by unfold blen; rw [if_neg h]; omega
  omega
theorem blen_mul {x y : Nat} (hx : x ≠ 0) (hy : y ≠ 0) : blen (x * y) = blen x + blen y ∨ blen (x * y) + 1 = blen x + blen y := by
  have h1 := blen_pow_le hx
  have h2 := blen_pow_le hy
  have h3 := lt_blen x
  have h4 := lt_blen y
  have p1 : blen x ≠ 0 := by unfold blen; rw [if_neg hx]; omega
  have p2 : blen y ≠ 0 := by unfold blen; rw [if_neg hy]; omega
  have h5 : blen (x * y) ≤ blen x + blen y := blen_le.2 (by rw [Nat.pow_add]; exact Nat.mul_lt_mul'' h3 h4)
  have h6 := blen_ge (n := x * y) (k := blen x - 1 + (blen y - 1)) (by rw [Nat.pow_add]; exact Nat.mul_le_mul h1 h2)
  omega
theorem blen_small {n m : Nat} (h : n < B ^ m) : blen n ≤ 32 * m := blen_le.2 (by rw [Nat.pow_mul]; exact h)
end Go.Proofs.Ytnngdlehakcdlaa.Pure

/- A product is not less than each; how many bits it has. -/
namespace Go.Proofs.Ytnngdlehakcdlaa.Pure
open Go.RowKit Go.Proofs.Ytnngdlehakcdlaa.PMul Go.Proofs.YtnngdlehakcdlaaW.PrintWords Go.Proofs.YtnngdlehakcdlaaW.PrintLast Go.Proofs.YtnngdlehakcdlaaV

theorem cmp_sq (x y : Nat) : cmpN (x * x) (y * y) = cmpN x y := by
  unfold cmpN
  rcases Nat.lt_trichotomy x y with h | h | h
  · rw [if_pos (Nat.mul_self_lt_mul_self h), if_pos h]
  · subst h; rw [if_neg (by omega), if_pos rfl, if_neg (by omega), if_pos rfl]
  · have := Nat.mul_self_lt_mul_self h
    rw [if_neg (by omega), if_neg (by omega), if_neg (by omega), if_neg (by omega)]
theorem cmpN_ge {x y : Nat} (h : y ≤ x) : cmpN x y ≥ 0 := by
  unfold cmpN; rw [if_neg (by omega)]; split <;> decide
theorem mulOrder_nums {L k x y : Nat} (hk : 3000000 ≤ k) (hL : L ≤ 700) (hx : x < B ^ L) (hy : y < B ^ L) : alidadelaw02_MulOrder.j0 k (toL x) (toL y) false = some true := by
  obtain ⟨k, rfl⟩ : ∃ m, k = m + 2 := ⟨k - 2, by omega⟩
  have hxy := mul_lt_pow hx hy
  have bx := lt_most hx (by omega)
  have b_y := lt_most hy (by omega)
  have bxy := lt_most hxy (by omega)
  have bxx := lt_most (mul_lt_pow hx hx) (by omega)
  have byy := lt_most (mul_lt_pow hy hy) (by omega)
  have lx := toL_len bx
  have ly := toL_len b_y
  have lxy := toL_len bxy
  simp only [alidadelaw02_MulOrder.j0, Bool.false_eq_true, if_false]
  rw [squareN bx bxx (by omega), Option.bind_some, squareN b_y byy (by omega), Option.bind_some, cmpT bxx byy, Option.bind_some, cmpT bx b_y, Option.bind_some, if_pos (cmp_sq x y), mulN bx b_y bxy (by omega), Option.bind_some]
  have hz : x * y = 0 → alidadelaw02_MulOrder.j1 (k + 1) (toL x) (toL y) (toL (x * y)) true = some true := by
    intro h
    simp only [alidadelaw02_MulOrder.j1, if_true]
    rw [h, toL_zero]; rfl
  by_cases h0 : x = 0
  · rw [if_pos (toL_len0.2 h0)]
    exact hz (by rw [h0, Nat.zero_mul])
  · rw [if_neg (fun h => h0 (toL_len0.1 h))]
    by_cases h1 : y = 0
    · rw [show (((toL y).length : Int) == 0) = true from beq_iff_eq.2 (toL_len0.2 h1)]
      exact hz (by rw [h1, Nat.mul_zero])
    · rw [show (((toL y).length : Int) == 0) = false from beq_eq_false_iff_ne.2 (fun h => h1 (toL_len0.1 h))]
      have b1 := blen_small hx
      have b2 := blen_small hy
      have b3 := blen_mul h0 h1
      have p1 : x ≤ x * y := Nat.le_mul_of_pos_right _ (by omega)
      have p2 : y ≤ x * y := Nat.le_mul_of_pos_left _ (by omega)
      have p3 : blen x ≠ 0 := by unfold blen; rw [if_neg h0]; omega
      simp only [alidadelaw02_MulOrder.j1, Bool.false_eq_true, if_false]
      rw [bitsN bxy, Option.bind_some, bitsN bx, Option.bind_some, bitsN b_y, Option.bind_some, may_f (by omega), toL_may bxy, Option.bind_some, if_pos rfl, cmpT bxy bx, Option.bind_some, if_pos (cmpN_ge p1), cmpT bxy b_y, Option.bind_some, if_pos (cmpN_ge p2), w64z (z := (blen x : Int) + (blen y : Int)) (by omega), w64z (z := (blen x : Int) + (blen y : Int) - 1) (by omega)]
      by_cases h3 : (blen (x * y) : Int) = (blen x : Int) + (blen y : Int)
      · rw [if_pos h3]
      · rw [if_neg h3, beq_iff_eq.2 (by omega)]
theorem MulOrder : alidadelaw02_MulOrder.Pure := by
  intro l0 l1 _ b0 w0 _ b1 w1
  have o0 := ok_of_wf w0
  have o1 := ok_of_wf w1
  obtain ⟨k, hk⟩ : ∃ k, k = 4000000 := ⟨_, rfl⟩
  refine ⟨k + 1, ?_⟩
  have ht : alidadelaw02_MulOrder.j0 (k + 1) l0 l1 true = some true := by
    simp only [alidadelaw02_MulOrder.j0, if_true]
    rw [works_f (by omega)]; rfl
  obtain ⟨b, g1, g2⟩ := long_f [l0, l1] (by simp) (by intro x hx; simp at hx; rcases hx with rfl | rfl <;> omega) (k := k + 1) (by simp; omega)
  unfold alidadelaw02_MulOrder.f alidadelaw02_long_2.f alidadelaw02_may_2.f
  rw [works_f (by omega), Option.bind_some, if_pos rfl, g1, Option.bind_some]
  cases b with
  | true => rw [if_pos rfl, ht]
  | false =>
    have n0 : l0.length < 700 := g2 rfl 0 (by simp)
    have n1 : l1.length < 700 := g2 rfl 1 (by simp)
    rw [if_neg (by decide), lmay_f _ (by simp) (by intro x hx; simp at hx; rcases hx with rfl | rfl <;> omega) (by simp; omega), Option.bind_some]
    cases hm : [l0, l1].all may with
    | false => exact ht
    | true =>
      simp only [List.all_cons, List.all_nil, Bool.and_eq_true, Bool.and_true] at hm
      obtain ⟨L, hL⟩ : ∃ L, L = 700 := ⟨_, rfl⟩
      obtain ⟨x, hx, rfl⟩ := toN o0 hm.1 (show l0.length ≤ L by omega)
      obtain ⟨y, hy, rfl⟩ := toN o1 hm.2 (show l1.length ≤ L by omega)
      exact mulOrder_nums (by omega) (by omega) hx hy
end Go.Proofs.Ytnngdlehakcdlaa.Pure
