-- A text of the seat Ytnngdlehakcdlaa, written by a program of this session (drive.py).
import Derived.Test.YtnngdlehakcdlaaPMulx0
import Derived.Test.YtnngdlehakcdlaaPMulx1
import Derived.Test.YtnngdlehakcdlaaPMulx2
import Derived.Test.YtnngdlehakcdlaaPMulx3
import Derived.Test.YtnngdlehakcdlaaPMulx4
import Derived.Test.YtnngdlehakcdlaaPMulx5
import Derived.Test.YtnngdlehakcdlaaVal
import Derived.Laws.BitsLemmas
import Derived.WalkSpells
import Derived.Deep.QuietTactic
import Derived.BigQuiet
import Derived.RangeFuncBox
namespace Go.Proofs.Ytnngdlehakcdlaa.PMul
open Go.RowKit Go.Proofs.YtnngdlehakcdlaaW.PrintWords Go.Proofs.YtnngdlehakcdlaaW.PrintLast Go.Proofs.YtnngdlehakcdlaaW.PrintMore
attribute [local go_sem] max2_int min2_int max_two min_two max_three min_three max_four min_four   -- for this text's walks alone
set_option linter.unusedVariables false
set_option linter.unusedSimpArgs false

-- BY HAND: alidade/mul.product: function 35
-- IMPORT Derived.Test.YtnngdlehakcdlaaVal
-- IMPORT Derived.Laws.BitsLemmas
-- IMPORT Derived.WalkSpells
-- IMPORT Derived.Deep.QuietTactic
-- IMPORT Derived.BigQuiet
-- IMPORT Derived.RangeFuncBox
theorem wrU (n : Int) (h0 : 0 ≤ n) (h1 : n < 2 ^ 64) : IntKind.u64.wrap n = n := by
  simp only [IntKind.wrap, IntKind.bits, IntKind.signed]; simp; omega
theorem w64n {x y : Nat} (h : x + y ≤ 4611686018427387904) : wrap64 ((x : Int) + (y : Int)) = ((x + y : Nat) : Int) := by unfold wrap64; omega
theorem w64s {x : Nat} (h : x ≤ 4611686018427387904) : wrap64 ((x : Int) + 1) = ((x + 1 : Nat) : Int) := by unfold wrap64; omega
theorem rd_nat (l : List Int) (i : Nat) : rd l (i : Int) = l.getD i 0 := by unfold rd; rw [Int.toNat_natCast]
theorem val_set : ∀ (l : List Int) (p : Nat) (v : Int), p < l.length → YtnngdlehakcdlaaV.val (l.set p v) + YtnngdlehakcdlaaV.B ^ p * (l.getD p 0).toNat = YtnngdlehakcdlaaV.val l + YtnngdlehakcdlaaV.B ^ p * v.toNat
  | [], p, v, h => by simp at h
  | x :: l, 0, v, h => by
    simp only [List.set_cons_zero, YtnngdlehakcdlaaV.val, Nat.pow_zero, Nat.one_mul, List.getD_cons_zero]; omega
  | x :: l, p + 1, v, h => by
    have ih := val_set l p v (by simpa using h)
    simp only [List.set_cons_succ, YtnngdlehakcdlaaV.val, List.getD_cons_succ, Nat.pow_succ]
    have := congrArg (fun z => YtnngdlehakcdlaaV.B * z) ih
    simp only [Nat.mul_add] at this
    rw [Nat.mul_comm (YtnngdlehakcdlaaV.B ^ p) YtnngdlehakcdlaaV.B, Nat.mul_assoc, Nat.mul_assoc]
    omega
theorem ok_set {l : List Int} (h : YtnngdlehakcdlaaV.ok l = true) (p : Nat) {v : Int} (h0 : 0 ≤ v) (h1 : v < 4294967296) : YtnngdlehakcdlaaV.ok (l.set p v) = true := by
  simp only [YtnngdlehakcdlaaV.ok, List.all_eq_true] at h ⊢
  intro x hx
  rcases List.mem_or_eq_of_mem_set hx with hx | hx
  · exact h x hx
  · subst hx; simp; omega
theorem getD_set_ne {l : List Int} {p j : Nat} (v : Int) (h : p ≠ j) : (l.set p v).getD j 0 = l.getD j 0 := by
  rw [List.getD_eq_getElem?_getD, List.getElem?_set_ne h, ← List.getD_eq_getElem?_getD]
theorem val_drop_step {l : List Int} (i : Nat) : YtnngdlehakcdlaaV.val (l.drop i) = (l.getD i 0).toNat + YtnngdlehakcdlaaV.B * YtnngdlehakcdlaaV.val (l.drop (i + 1)) := by
  by_cases h : i < l.length
  · rw [List.drop_eq_getElem_cons h, YtnngdlehakcdlaaV.val, List.getD_eq_getElem?_getD, List.getElem?_eq_getElem h]; rfl
  · rw [List.drop_of_length_le (by omega), List.drop_of_length_le (by omega), List.getD_eq_getElem?_getD, List.getElem?_eq_none (by omega)]; rfl
theorem zeros_val (q : Nat) : YtnngdlehakcdlaaV.val (List.replicate q 0) = 0 := by
  induction q with
  | zero => rfl
  | succ q ih => rw [List.replicate_succ, YtnngdlehakcdlaaV.val, ih]; rfl
theorem zeros_ok (q : Nat) : YtnngdlehakcdlaaV.ok (List.replicate q 0) = true := by
  simp only [YtnngdlehakcdlaaV.ok, List.all_eq_true]
  intro x hx
  rw [List.eq_of_mem_replicate hx]; rfl
theorem zeros_getD (q j : Nat) : (List.replicate q (0 : Int)).getD j 0 = 0 := by
  rw [List.getD_eq_getElem?_getD]
  rcases Nat.lt_or_ge j q with h | h
  · rw [List.getElem?_replicate, if_pos h]; rfl
  · rw [List.getElem?_replicate, if_neg (by omega)]; rfl

theorem trim_go : ∀ (n : Nat) (l : List Int) (k : Nat), l.length = n → n < k → n ≤ 4611686018427387904 → mul_trim.l0 k l = some (YtnngdlehakcdlaaV.strip l) := by
  intro n
  induction n with
  | zero =>
    intro l k hn hk hm
    obtain ⟨k, rfl⟩ : ∃ m, k = m + 1 := ⟨k - 1, by omega⟩
    have : l = [] := List.length_eq_zero_iff.1 hn
    subst this
    rfl
  | succ n ih =>
    intro l k hn hk hm
    obtain ⟨k, rfl⟩ : ∃ m, k = m + 1 := ⟨k - 1, by omega⟩
    rcases YtnngdlehakcdlaaV.snoc_cases l with rfl | ⟨a, x, rfl⟩
    · simp at hn
    · have hla : a.length = n := by simpa using hn
      have hL : ((a ++ [x]).length : Int) = (n : Int) + 1 := by rw [hn]; rfl
      have hw : wrap64 ((n : Int) + 1 - 1) = (n : Int) := by unfold wrap64; omega
      have hrd : rd (a ++ [x]) (n : Int) = x := by
        rw [rd_nat, ← hla, List.getD_eq_getElem?_getD, List.getElem?_append_right (Nat.le_refl _)]
        simp
      have htk : (a ++ [x]).take ((n : Int)).toNat = a := by
        rw [Int.toNat_natCast, ← hla]; simp
      simp only [mul_trim.l0]
      rw [hL, hw, if_pos (by omega), if_pos (by omega), if_pos (by omega), hrd]
      by_cases hx : x = 0
      · rw [if_pos hx, if_pos (by omega), htk, ih a k hla (by omega) (by omega), hx, YtnngdlehakcdlaaV.strip_snoc_zero]
      · rw [if_neg hx, YtnngdlehakcdlaaV.strip_snoc hx]
theorem trim_f {l : List Int} {k : Nat} (hk : l.length < k) (hm : l.length ≤ 4611686018427387904) : mul_trim.f k l = some (YtnngdlehakcdlaaV.strip l) := trim_go l.length l k rfl hk hm

theorem add32_n {x y c : Nat} (hx : x < 4294967296) (hy : y < 4294967296) (hc : c ≤ 1) : bits_Add32.f (x : Int) (y : Int) (c : Int) = some ((((x + y + c) % 4294967296 : Nat) : Int), (((x + y + c) / 4294967296 : Nat) : Int)) := by
  unfold bits_Add32.f
  rw [wrU (x : Int) (by omega) (by omega), wrU (y : Int) (by omega) (by omega), wrU (c : Int) (by omega) (by omega), wrU ((x : Int) + (y : Int)) (by omega) (by omega), wrU _ (by omega) (by omega)]
  congr 2
  omega
theorem addAt_stop {n out : List Int} {at_ i k : Nat} (hi : n.length ≤ i) (hk : 2 ≤ k) : mul_addAt.l0 k out n (at_ : Int) ((0 : Nat) : Int) (i : Int) = some out := by
  obtain ⟨k, rfl⟩ : ∃ m, k = m + 1 + 1 := ⟨k - 2, by omega⟩
  simp only [mul_addAt.l0]
  rw [if_neg (by omega)]
  simp only [mul_addAt.j1]
  rw [if_neg (by decide)]
theorem addAt_more {n out : List Int} {at_ i k c x y : Nat} (hx : out.getD (at_ + i) 0 = (x : Int)) (hy : n.getD i 0 = (y : Int)) (hx2 : x < 4294967296) (hy2 : y < 4294967296) (hc : c ≤ 1) (hm : at_ + i ≤ 281474976710656) (hp : at_ + i < out.length) (hgo : i < n.length ∨ c = 1) :
    mul_addAt.l0 (k + 1 + 1) out n (at_ : Int) (c : Int) (i : Int) = mul_addAt.l0 k (out.set (at_ + i) (((x + y + c) % 4294967296 : Nat) : Int)) n (at_ : Int) (((x + y + c) / 4294967296 : Nat) : Int) ((i + 1 : Nat) : Int) := by
  simp only [mul_addAt.l0]
  have e1 : wrap64 ((at_ : Int) + (i : Int)) = ((at_ + i : Nat) : Int) := w64n (by omega)
  have e2 : wrap64 ((i : Int) + 1) = ((i + 1 : Nat) : Int) := w64s (by omega)
  by_cases h : i < n.length
  · rw [if_pos (by omega)]
    simp only [mul_addAt.j1]
    rw [if_pos trivial, if_pos (by omega), if_pos (by omega), e1, e2, if_pos (by omega), if_pos (by omega), rd_nat, rd_nat, hx, hy, add32_n hx2 hy2 hc, Option.bind_some, Int.toNat_natCast]
  · have hy0 : y = 0 := by
      have : n.getD i 0 = 0 := by rw [List.getD_eq_getElem?_getD, List.getElem?_eq_none (by omega)]; rfl
      omega
    subst hy0
    obtain rfl : c = 1 := by omega
    rw [if_neg (by omega)]
    simp only [mul_addAt.j1]
    rw [if_pos (by decide), if_neg (by omega), e1, e2, if_pos (by omega), if_pos (by omega), rd_nat, hx]
    have := add32_n (x := x) (y := 0) (c := 1) hx2 (by omega) (by omega)
    rw [show ((0 : Nat) : Int) = 0 from rfl] at this
    rw [this, Option.bind_some, Int.toNat_natCast]
theorem addAt_go (n : List Int) (at_ : Nat) (on : YtnngdlehakcdlaaV.ok n = true) (d : Nat) : ∀ (out : List Int) (c i k : Nat), YtnngdlehakcdlaaV.ok out = true → at_ + n.length ≤ out.length → out.length ≤ 281474976710656 → c ≤ 1 → i + d = out.length + 1 → 2 * d + 2 ≤ k →
    YtnngdlehakcdlaaV.val out + YtnngdlehakcdlaaV.B ^ (at_ + i) * (YtnngdlehakcdlaaV.val (n.drop i) + c) < YtnngdlehakcdlaaV.B ^ out.length →
    ∃ r, mul_addAt.l0 k out n (at_ : Int) (c : Int) (i : Int) = some r ∧ YtnngdlehakcdlaaV.ok r = true ∧ r.length = out.length ∧ YtnngdlehakcdlaaV.val r = YtnngdlehakcdlaaV.val out + YtnngdlehakcdlaaV.B ^ (at_ + i) * (YtnngdlehakcdlaaV.val (n.drop i) + c) := by
  induction d with
  | zero =>
    intro out c i k oo hl hm hc hi hk hv
    have hc0 : c = 0 := by
      rcases Nat.eq_zero_or_pos c with h | h
      · exact h
      · exfalso
        have h1 : YtnngdlehakcdlaaV.B ^ out.length ≤ YtnngdlehakcdlaaV.B ^ (at_ + i) := Nat.pow_le_pow_right (by decide) (by omega)
        have h2 : YtnngdlehakcdlaaV.B ^ (at_ + i) * 1 ≤ YtnngdlehakcdlaaV.B ^ (at_ + i) * (YtnngdlehakcdlaaV.val (n.drop i) + c) := Nat.mul_le_mul_left _ (by omega)
        omega
    subst hc0
    refine ⟨out, addAt_stop (by omega) (by omega), oo, rfl, ?_⟩
    rw [List.drop_of_length_le (by omega)]; simp [YtnngdlehakcdlaaV.val]
  | succ d ih =>
    intro out c i k oo hl hm hc hi hk hv
    by_cases hstop : n.length ≤ i ∧ c = 0
    · obtain ⟨h1, rfl⟩ := hstop
      refine ⟨out, addAt_stop h1 (by omega), oo, rfl, ?_⟩
      rw [List.drop_of_length_le h1]; simp [YtnngdlehakcdlaaV.val]
    · have hgo : i < n.length ∨ c = 1 := by omega
      have hp : at_ + i < out.length := by
        rcases hgo with h | h
        · omega
        · subst h
          have h2 : YtnngdlehakcdlaaV.B ^ (at_ + i) * 1 ≤ YtnngdlehakcdlaaV.B ^ (at_ + i) * (YtnngdlehakcdlaaV.val (n.drop i) + 1) := Nat.mul_le_mul_left _ (by omega)
          have h3 : YtnngdlehakcdlaaV.B ^ (at_ + i) < YtnngdlehakcdlaaV.B ^ out.length := by omega
          exact (Nat.pow_lt_pow_iff_right (by decide)).1 h3
      obtain ⟨k, rfl⟩ : ∃ m, k = m + 1 + 1 := ⟨k - 2, by omega⟩
      have hxo := YtnngdlehakcdlaaV.ok_get oo (at_ + i)
      have hyo := YtnngdlehakcdlaaV.ok_get on i
      obtain ⟨x, hx⟩ := Int.eq_ofNat_of_zero_le hxo.1
      obtain ⟨y, hy⟩ := Int.eq_ofNat_of_zero_le hyo.1
      rw [addAt_more hx hy (by omega) (by omega) hc (by omega) hp hgo]
      have hds := val_drop_step (l := n) i
      have hvs := val_set out (at_ + i) (((x + y + c) % 4294967296 : Nat) : Int) hp
      rw [hy, Int.toNat_natCast] at hds
      rw [hx, Int.toNat_natCast, Int.toNat_natCast] at hvs
      have e : (x + y + c) % 4294967296 + YtnngdlehakcdlaaV.B * ((x + y + c) / 4294967296) = x + y + c := by simp only [YtnngdlehakcdlaaV.B]; omega
      have hc2 : (x + y + c) / 4294967296 ≤ 1 := by omega
      have hd2 : (x + y + c) % 4294967296 < 4294967296 := by omega
      generalize (x + y + c) / 4294967296 = c2 at *
      generalize (x + y + c) % 4294967296 = d2 at *
      have key : YtnngdlehakcdlaaV.val (out.set (at_ + i) (d2 : Int)) + YtnngdlehakcdlaaV.B ^ (at_ + (i + 1)) * (YtnngdlehakcdlaaV.val (n.drop (i + 1)) + c2) = YtnngdlehakcdlaaV.val out + YtnngdlehakcdlaaV.B ^ (at_ + i) * (YtnngdlehakcdlaaV.val (n.drop i) + c) := by
        rw [hds, show at_ + (i + 1) = (at_ + i) + 1 by omega, Nat.pow_succ, Nat.mul_assoc]
        generalize YtnngdlehakcdlaaV.B ^ (at_ + i) = P at *
        have e2 := congrArg (fun z => P * z) e
        simp only [Nat.mul_add] at e2 ⊢
        omega
      obtain ⟨r, h1, h2, h3, h4⟩ := ih (out.set (at_ + i) (d2 : Int)) c2 (i + 1) k (ok_set oo _ (by omega) (by omega)) (by simpa using hl) (by simpa using hm) hc2 (by simp; omega) (by omega) (by rw [key]; simpa using hv)
      exact ⟨r, h1, h2, by simpa using h3, by rw [h4, key]⟩
theorem addAt_f {out n : List Int} {at_ k : Nat} (oo : YtnngdlehakcdlaaV.ok out = true) (on : YtnngdlehakcdlaaV.ok n = true) (hl : at_ + n.length ≤ out.length) (hm : out.length ≤ 281474976710656) (hv : YtnngdlehakcdlaaV.val out + YtnngdlehakcdlaaV.B ^ at_ * YtnngdlehakcdlaaV.val n < YtnngdlehakcdlaaV.B ^ out.length) (hk : 2 * out.length + 4 ≤ k) :
    ∃ r, mul_addAt.f k out n (at_ : Int) = some r ∧ YtnngdlehakcdlaaV.ok r = true ∧ r.length = out.length ∧ YtnngdlehakcdlaaV.val r = YtnngdlehakcdlaaV.val out + YtnngdlehakcdlaaV.B ^ at_ * YtnngdlehakcdlaaV.val n := by
  have := addAt_go n at_ on (out.length + 1) out 0 0 k oo hl hm (by omega) (by omega) (by omega) (by simpa using hv)
  simpa [mul_addAt.f] using this

theorem sub32_n {x y c : Nat} (hx : x < 4294967296) (hy : y < 4294967296) (hc : c ≤ 1) : ∃ d2 c2 : Nat, bits_Sub32.f (x : Int) (y : Int) (c : Int) = some ((d2 : Int), (c2 : Int)) ∧ d2 < 4294967296 ∧ c2 ≤ 1 ∧ d2 + y + c = x + 4294967296 * c2 := by
  unfold bits_Sub32.f
  rw [if_pos (by omega)]
  by_cases h : (x : Int) < (y : Int) + (c : Int)
  · rw [if_pos h]
    exact ⟨x + 4294967296 - y - c, 1, by congr 2; omega, by omega, by omega, by omega⟩
  · rw [if_neg h]
    exact ⟨x - y - c, 0, by congr 2; omega, by omega, by omega, by omega⟩
theorem less_stop {n out : List Int} {i k : Nat} (hi : n.length ≤ i) (hk : 2 ≤ k) : mul_less.l0 k out n ((0 : Nat) : Int) (i : Int) = some out := by
  obtain ⟨k, rfl⟩ : ∃ m, k = m + 1 + 1 := ⟨k - 2, by omega⟩
  simp only [mul_less.l0]
  rw [if_neg (by omega)]
  simp only [mul_less.j1]
  rw [if_neg (by decide)]
theorem less_more {n out : List Int} {i k c x y d2 c2 : Nat} (hx : out.getD i 0 = (x : Int)) (hy : n.getD i 0 = (y : Int)) (hs : bits_Sub32.f (x : Int) (y : Int) (c : Int) = some ((d2 : Int), (c2 : Int))) (hc : c ≤ 1) (hm : i ≤ 281474976710656) (hp : i < out.length) (hgo : i < n.length ∨ c = 1) :
    mul_less.l0 (k + 1 + 1) out n (c : Int) (i : Int) = mul_less.l0 k (out.set i (d2 : Int)) n (c2 : Int) ((i + 1 : Nat) : Int) := by
  simp only [mul_less.l0]
  have e2 : wrap64 ((i : Int) + 1) = ((i + 1 : Nat) : Int) := w64s (by omega)
  by_cases h : i < n.length
  · rw [if_pos (by omega)]
    simp only [mul_less.j1]
    rw [if_pos trivial, if_pos (by omega), if_pos (by omega), e2, if_pos (by omega), rd_nat, rd_nat, hx, hy, hs, Option.bind_some, Int.toNat_natCast]
  · have hy0 : y = 0 := by
      have : n.getD i 0 = 0 := by rw [List.getD_eq_getElem?_getD, List.getElem?_eq_none (by omega)]; rfl
      omega
    subst hy0
    obtain rfl : c = 1 := by omega
    rw [if_neg (by omega)]
    simp only [mul_less.j1]
    rw [show ((0 : Nat) : Int) = 0 from rfl] at hs
    rw [if_pos (by decide), if_neg (by omega), e2, if_pos (by omega), if_pos (by omega), rd_nat, hx, hs, Option.bind_some, Int.toNat_natCast]
theorem less_go (n : List Int) (on : YtnngdlehakcdlaaV.ok n = true) (d : Nat) : ∀ (out : List Int) (c i k : Nat), YtnngdlehakcdlaaV.ok out = true → n.length ≤ out.length → out.length ≤ 281474976710656 → c ≤ 1 → i + d = out.length + 1 → 2 * d + 2 ≤ k →
    YtnngdlehakcdlaaV.B ^ i * (YtnngdlehakcdlaaV.val (n.drop i) + c) ≤ YtnngdlehakcdlaaV.val out →
    ∃ r, mul_less.l0 k out n (c : Int) (i : Int) = some r ∧ YtnngdlehakcdlaaV.ok r = true ∧ r.length = out.length ∧ YtnngdlehakcdlaaV.val r + YtnngdlehakcdlaaV.B ^ i * (YtnngdlehakcdlaaV.val (n.drop i) + c) = YtnngdlehakcdlaaV.val out := by
  induction d with
  | zero =>
    intro out c i k oo hl hm hc hi hk hv
    have hc0 : c = 0 := by
      rcases Nat.eq_zero_or_pos c with h | h
      · exact h
      · exfalso
        have h0 := YtnngdlehakcdlaaV.val_lt oo
        have h1 : YtnngdlehakcdlaaV.B ^ out.length ≤ YtnngdlehakcdlaaV.B ^ i := Nat.pow_le_pow_right (by decide) (by omega)
        have h2 : YtnngdlehakcdlaaV.B ^ i * 1 ≤ YtnngdlehakcdlaaV.B ^ i * (YtnngdlehakcdlaaV.val (n.drop i) + c) := Nat.mul_le_mul_left _ (by omega)
        omega
    subst hc0
    refine ⟨out, less_stop (by omega) (by omega), oo, rfl, ?_⟩
    rw [List.drop_of_length_le (by omega)]; simp [YtnngdlehakcdlaaV.val]
  | succ d ih =>
    intro out c i k oo hl hm hc hi hk hv
    by_cases hstop : n.length ≤ i ∧ c = 0
    · obtain ⟨h1, rfl⟩ := hstop
      refine ⟨out, less_stop h1 (by omega), oo, rfl, ?_⟩
      rw [List.drop_of_length_le h1]; simp [YtnngdlehakcdlaaV.val]
    · have hgo : i < n.length ∨ c = 1 := by omega
      have hp : i < out.length := by
        rcases hgo with h | h
        · omega
        · subst h
          have h0 := YtnngdlehakcdlaaV.val_lt oo
          have h2 : YtnngdlehakcdlaaV.B ^ i * 1 ≤ YtnngdlehakcdlaaV.B ^ i * (YtnngdlehakcdlaaV.val (n.drop i) + 1) := Nat.mul_le_mul_left _ (by omega)
          have h3 : YtnngdlehakcdlaaV.B ^ i < YtnngdlehakcdlaaV.B ^ out.length := by omega
          exact (Nat.pow_lt_pow_iff_right (by decide)).1 h3
      obtain ⟨k, rfl⟩ : ∃ m, k = m + 1 + 1 := ⟨k - 2, by omega⟩
      have hxo := YtnngdlehakcdlaaV.ok_get oo i
      have hyo := YtnngdlehakcdlaaV.ok_get on i
      obtain ⟨x, hx⟩ := Int.eq_ofNat_of_zero_le hxo.1
      obtain ⟨y, hy⟩ := Int.eq_ofNat_of_zero_le hyo.1
      obtain ⟨d2, c2, hs, hd2, hc2, he⟩ := sub32_n (x := x) (y := y) (c := c) (by omega) (by omega) hc
      rw [less_more hx hy hs hc (by omega) hp hgo]
      have hds := val_drop_step (l := n) i
      have hvs := val_set out i (d2 : Int) hp
      rw [hy, Int.toNat_natCast] at hds
      rw [hx, Int.toNat_natCast, Int.toNat_natCast] at hvs
      have key : YtnngdlehakcdlaaV.val (out.set i (d2 : Int)) + YtnngdlehakcdlaaV.B ^ i * (YtnngdlehakcdlaaV.val (n.drop i) + c) = YtnngdlehakcdlaaV.val out + YtnngdlehakcdlaaV.B ^ (i + 1) * (YtnngdlehakcdlaaV.val (n.drop (i + 1)) + c2) := by
        rw [hds, Nat.pow_succ, Nat.mul_assoc]
        generalize YtnngdlehakcdlaaV.B ^ i = P at *
        have e2 := congrArg (fun z => P * z) he
        simp only [Nat.mul_add, YtnngdlehakcdlaaV.B] at e2 ⊢
        omega
      have hv2 : YtnngdlehakcdlaaV.B ^ (i + 1) * (YtnngdlehakcdlaaV.val (n.drop (i + 1)) + c2) ≤ YtnngdlehakcdlaaV.val (out.set i (d2 : Int)) := by omega
      obtain ⟨r, h1, h2, h3, h4⟩ := ih (out.set i (d2 : Int)) c2 (i + 1) k (ok_set oo _ (by omega) (by omega)) (by simpa using hl) (by simpa using hm) hc2 (by simp; omega) (by omega) hv2
      exact ⟨r, h1, h2, by simpa using h3, by omega⟩
theorem less_f {out n : List Int} {k : Nat} (oo : YtnngdlehakcdlaaV.ok out = true) (on : YtnngdlehakcdlaaV.ok n = true) (hl : n.length ≤ out.length) (hm : out.length ≤ 281474976710656) (hv : YtnngdlehakcdlaaV.val n ≤ YtnngdlehakcdlaaV.val out) (hk : 2 * out.length + 4 ≤ k) :
    ∃ r, mul_less.f k out n = some r ∧ YtnngdlehakcdlaaV.ok r = true ∧ r.length = out.length ∧ YtnngdlehakcdlaaV.val r + YtnngdlehakcdlaaV.val n = YtnngdlehakcdlaaV.val out := by
  have := less_go n on (out.length + 1) out 0 0 k oo hl hm (by omega) (by omega) (by omega) (by simpa using hv)
  simpa [mul_less.f] using this

/-! ### sum -/
theorem sum_f {a b : List Int} {k : Nat} (oa : YtnngdlehakcdlaaV.ok a = true) (ob : YtnngdlehakcdlaaV.ok b = true) (ha : a.length ≤ 1099511627776) (hb : b.length ≤ 1099511627776) (hk : 3000000000000 ≤ k) : mul_sum.f k a b = some (YtnngdlehakcdlaaV.toL (YtnngdlehakcdlaaV.val a + YtnngdlehakcdlaaV.val b)) := by
  obtain ⟨M, hM⟩ : ∃ M, M = max a.length b.length := ⟨_, rfl⟩
  have hmx : mx (a.length : Int) (b.length : Int) = (M : Int) := by unfold mx; split <;> omega
  have hw : wrap64 ((M : Int) + 1) = ((M + 1 : Nat) : Int) := w64s (by omega)
  unfold mul_sum.f
  rw [hmx, hw, if_pos (by omega), Int.toNat_natCast, if_pos (by omega)]
  have la : YtnngdlehakcdlaaV.val a < YtnngdlehakcdlaaV.B ^ M := Nat.lt_of_lt_of_le (YtnngdlehakcdlaaV.val_lt oa) (Nat.pow_le_pow_right (by decide) (by omega))
  have lb : YtnngdlehakcdlaaV.val b < YtnngdlehakcdlaaV.B ^ M := Nat.lt_of_lt_of_le (YtnngdlehakcdlaaV.val_lt ob) (Nat.pow_le_pow_right (by decide) (by omega))
  have hP : YtnngdlehakcdlaaV.val a + YtnngdlehakcdlaaV.val b < YtnngdlehakcdlaaV.B ^ (M + 1) := by
    rw [Nat.pow_succ]
    generalize YtnngdlehakcdlaaV.B ^ M = P at *
    simp only [YtnngdlehakcdlaaV.B]; omega
  have hlz : (List.replicate (M + 1) (0 : Int)).length = M + 1 := by simp
  obtain ⟨r1, e1, o1, l1, v1⟩ := addAt_f (out := List.replicate (M + 1) 0) (n := a) (at_ := 0) (k := k) (zeros_ok _) oa (by rw [hlz]; omega) (by rw [hlz]; omega) (by rw [hlz, zeros_val]; simp; omega) (by rw [hlz]; omega)
  rw [hlz] at l1
  rw [zeros_val] at v1
  simp only [Nat.pow_zero, Nat.one_mul, Nat.zero_add] at v1
  obtain ⟨r2, e2, o2, l2, v2⟩ := addAt_f (out := r1) (n := b) (at_ := 0) (k := k) o1 ob (by omega) (by omega) (by rw [l1, v1]; simpa using hP) (by omega)
  simp only [Nat.pow_zero, Nat.one_mul] at v2
  rw [show ((0 : Nat) : Int) = 0 from rfl] at e1 e2
  rw [e1, Option.bind_some, e2, Option.bind_some, trim_f (by omega) (by omega), Option.bind_some, YtnngdlehakcdlaaV.strip_toL o2, v2, v1]

/-! ### byLimbs -/
theorem limb_word {x y o c : Nat} (hx : x < 4294967296) (hy : y < 4294967296) (ho : o < 4294967296) (hc : c < 4294967296) : x * y + o + c < 18446744073709551616 ∧ x * y + o < 18446744073709551616 ∧ x * y < 18446744073709551616 := by
  have h : x * y ≤ 4294967295 * 4294967295 := Nat.mul_le_mul (by omega) (by omega)
  omega
/-- One limb of a row: what is laid down, and what is carried on. -/
theorem row_step {out b : List Int} {i k x y o c V0 : Nat} (hp : i + k < out.length) (ho : out.getD (i + k) 0 = (o : Int)) (hy : b.getD k 0 = (y : Int))
    (hv : YtnngdlehakcdlaaV.val out + YtnngdlehakcdlaaV.B ^ (i + k) * c = V0 + YtnngdlehakcdlaaV.B ^ i * (x * YtnngdlehakcdlaaV.val (b.take k))) :
    YtnngdlehakcdlaaV.val (out.set (i + k) (((x * y + o + c) % 4294967296 : Nat) : Int)) + YtnngdlehakcdlaaV.B ^ (i + (k + 1)) * ((x * y + o + c) / 4294967296) = V0 + YtnngdlehakcdlaaV.B ^ i * (x * YtnngdlehakcdlaaV.val (b.take (k + 1))) := by
  have hvs := val_set out (i + k) (((x * y + o + c) % 4294967296 : Nat) : Int) hp
  have hvt := YtnngdlehakcdlaaV.val_take_succ b k
  rw [hy, Int.toNat_natCast] at hvt
  rw [ho, Int.toNat_natCast, Int.toNat_natCast] at hvs
  have e : (x * y + o + c) % 4294967296 + YtnngdlehakcdlaaV.B * ((x * y + o + c) / 4294967296) = x * y + o + c := by simp only [YtnngdlehakcdlaaV.B]; omega
  generalize (x * y + o + c) / 4294967296 = c2 at *
  generalize (x * y + o + c) % 4294967296 = d2 at *
  rw [hvt, show i + (k + 1) = (i + k) + 1 by omega, Nat.pow_succ, Nat.mul_assoc]
  have e2 := congrArg (fun z => YtnngdlehakcdlaaV.B ^ (i + k) * z) e
  have e3 : YtnngdlehakcdlaaV.B ^ i * (x * (YtnngdlehakcdlaaV.val (b.take k) + YtnngdlehakcdlaaV.B ^ k * y)) = YtnngdlehakcdlaaV.B ^ i * (x * YtnngdlehakcdlaaV.val (b.take k)) + YtnngdlehakcdlaaV.B ^ (i + k) * (x * y) := by
    rw [Nat.mul_add, Nat.mul_add, Nat.pow_add]
    congr 1
    rw [Nat.mul_left_comm x, ← Nat.mul_assoc (YtnngdlehakcdlaaV.B ^ i)]
  rw [e3]
  simp only [Nat.mul_add] at e2
  generalize YtnngdlehakcdlaaV.B ^ (i + k) = P at *
  omega
theorem row_go {a b : List Int} (oa : YtnngdlehakcdlaaV.ok a = true) (ob : YtnngdlehakcdlaaV.ok b = true) (la : a.length ≤ 1099511627776) (lb : b.length ≤ 1099511627776) (i x V0 : Nat) (hi : i < a.length) (hx : a.getD i 0 = (x : Int)) (d : Nat) : ∀ (j c k : Nat) (out : List Int), j + d = b.length → d < k → YtnngdlehakcdlaaV.ok out = true → out.length = a.length + b.length → c < 4294967296 → (∀ q, i + b.length ≤ q → out.getD q 0 = 0) →
    YtnngdlehakcdlaaV.val out + YtnngdlehakcdlaaV.B ^ (i + j) * c = V0 + YtnngdlehakcdlaaV.B ^ i * (x * YtnngdlehakcdlaaV.val (b.take j)) →
    ∃ out2 k2, k ≤ k2 + d + 1 ∧ mul_byLimbs.l1 k b out (i : Int) (x : Int) (c : Int) a (a.length : Int) (i : Int) b (b.length : Int) (j : Int) = mul_byLimbs.l0 k2 b out2 a (a.length : Int) ((i + 1 : Nat) : Int) ∧ YtnngdlehakcdlaaV.ok out2 = true ∧ out2.length = a.length + b.length ∧ (∀ q, i + 1 + b.length ≤ q → out2.getD q 0 = 0) ∧ YtnngdlehakcdlaaV.val out2 = V0 + YtnngdlehakcdlaaV.B ^ i * (x * YtnngdlehakcdlaaV.val b) := by
  have hxo := YtnngdlehakcdlaaV.ok_get oa i
  induction d with
  | zero =>
    intro j c k out hj hk oo ol hc hz hv
    obtain ⟨k, rfl⟩ : ∃ m, k = m + 1 := ⟨k - 1, by omega⟩
    obtain rfl : j = b.length := by omega
    rw [List.take_of_length_le (Nat.le_refl _)] at hv
    have hp : i + b.length < out.length := by omega
    have hvs := val_set out (i + b.length) ((c : Nat) : Int) hp
    rw [hz _ (Nat.le_refl _)] at hvs
    simp only [Int.toNat_zero, Nat.mul_zero, Nat.add_zero, Int.toNat_natCast] at hvs
    refine ⟨out.set (i + b.length) (c : Int), k, by omega, ?_, ok_set oo _ (by omega) (by omega), by simpa using ol, ?_, by rw [hvs, hv]⟩
    · simp only [mul_byLimbs.l1]
      rw [if_neg (by omega), w64n (by omega), w64s (by omega), if_pos (by omega), if_pos (by omega), Int.toNat_natCast, show (c : Int) % 4294967296 = (c : Int) by omega]
    · intro q hq
      rw [getD_set_ne _ (by omega)]
      exact hz q (by omega)
  | succ d ih =>
    intro j c k out hj hk oo ol hc hz hv
    obtain ⟨k, rfl⟩ : ∃ m, k = m + 1 := ⟨k - 1, by omega⟩
    have hp : i + j < out.length := by omega
    have hoo := YtnngdlehakcdlaaV.ok_get oo (i + j)
    have hyo := YtnngdlehakcdlaaV.ok_get ob j
    obtain ⟨o, ho⟩ := Int.eq_ofNat_of_zero_le hoo.1
    obtain ⟨y, hy⟩ := Int.eq_ofNat_of_zero_le hyo.1
    rw [hx] at hxo
    rw [ho] at hoo
    rw [hy] at hyo
    obtain ⟨w1, w2, w3⟩ := limb_word (x := x) (y := y) (o := o) (c := c) (by omega) (by omega) (by omega) hc
    have hst := row_step (V0 := V0) hp ho hy hv
    have e1 : IntKind.u64.wrap ((c : Int) + IntKind.u64.wrap (IntKind.u64.wrap (IntKind.u64.wrap (x : Int) * IntKind.u64.wrap (y : Int)) + IntKind.u64.wrap (o : Int))) = ((x * y + o + c : Nat) : Int) := by
      rw [wrU (x : Int) (by omega) (by omega), wrU (y : Int) (by omega) (by omega), wrU (o : Int) (by omega) (by omega), ← Int.natCast_mul]
      generalize x * y = xy at *
      rw [wrU (xy : Int) (by omega) (by omega), wrU ((xy : Int) + (o : Int)) (by omega) (by omega), wrU _ (by omega) (by omega)]; omega
    have e2 : ((x * y + o + c : Nat) : Int) % 4294967296 = (((x * y + o + c) % 4294967296 : Nat) : Int) := by omega
    have e3 : ((x * y + o + c : Nat) : Int) / 4294967296 = (((x * y + o + c) / 4294967296 : Nat) : Int) := by omega
    have hd2 : (x * y + o + c) % 4294967296 < 4294967296 := Nat.mod_lt _ (by decide)
    have hc2 : (x * y + o + c) / 4294967296 < 4294967296 := by omega
    obtain ⟨out2, k2, h1, h2, h3⟩ := ih (j + 1) ((x * y + o + c) / 4294967296) k (out.set (i + j) (((x * y + o + c) % 4294967296 : Nat) : Int)) (by omega) (by omega) (ok_set oo _ (by omega) (by omega)) (by simpa using ol) hc2 (fun q hq => by rw [getD_set_ne _ (by omega)]; exact hz q hq) hst
    refine ⟨out2, k2, by omega, ?_, h3⟩
    rw [← h2]
    simp only [mul_byLimbs.l1]
    rw [if_pos (by omega), if_pos (by omega), if_pos (by omega), w64n (by omega), w64s (by omega), if_pos (by omega), if_pos (by omega), rd_nat, rd_nat, hy, ho, e1, e2, e3, Int.toNat_natCast]
theorem rows_go {a b : List Int} (oa : YtnngdlehakcdlaaV.ok a = true) (ob : YtnngdlehakcdlaaV.ok b = true) (la : a.length ≤ 1099511627776) (lb : b.length ≤ 1099511627776) (d : Nat) : ∀ (i k : Nat) (out : List Int), i + d = a.length → 3000000000000 + d * (b.length + 3) ≤ k → YtnngdlehakcdlaaV.ok out = true → out.length = a.length + b.length → (∀ q, i + b.length ≤ q → out.getD q 0 = 0) →
    YtnngdlehakcdlaaV.val out = YtnngdlehakcdlaaV.val (a.take i) * YtnngdlehakcdlaaV.val b → mul_byLimbs.l0 k b out a (a.length : Int) (i : Int) = some (YtnngdlehakcdlaaV.toL (YtnngdlehakcdlaaV.val a * YtnngdlehakcdlaaV.val b)) := by
  induction d with
  | zero =>
    intro i k out hi hk oo ol hz hv
    obtain ⟨k, rfl⟩ : ∃ m, k = m + 1 := ⟨k - 1, by omega⟩
    rw [List.take_of_length_le (by omega)] at hv
    simp only [mul_byLimbs.l0]
    rw [if_neg (by omega), trim_f (by omega) (by omega), Option.bind_some, YtnngdlehakcdlaaV.strip_toL oo, hv]
  | succ d ih =>
    intro i k out hi hk oo ol hz hv
    rw [Nat.add_mul, Nat.one_mul] at hk
    obtain ⟨k, rfl⟩ : ∃ m, k = m + 1 := ⟨k - 1, by omega⟩
    have hxo := YtnngdlehakcdlaaV.ok_get oa i
    obtain ⟨x, hx⟩ := Int.eq_ofNat_of_zero_le hxo.1
    have hva := YtnngdlehakcdlaaV.val_take_succ a i
    rw [hx, Int.toNat_natCast] at hva
    obtain ⟨out2, k2, h1, h2, h3, h4, h5, h6⟩ := row_go oa ob la lb i x (YtnngdlehakcdlaaV.val (a.take i) * YtnngdlehakcdlaaV.val b) (by omega) hx b.length 0 0 k out (by omega) (by omega) oo ol (by omega) hz (by simp [YtnngdlehakcdlaaV.val]; exact hv)
    simp only [mul_byLimbs.l0]
    rw [if_pos (by omega), if_pos (by omega), if_pos (by omega), rd_nat, hx]
    rw [show ((0 : Nat) : Int) = 0 from rfl] at h2
    rw [h2]
    exact ih (i + 1) k2 out2 (by omega) (by omega) h3 h4 h5 (by rw [h6, hva, Nat.add_mul, Nat.mul_assoc])
theorem byLimbs_f {a b : List Int} {k : Nat} (oa : YtnngdlehakcdlaaV.ok a = true) (ob : YtnngdlehakcdlaaV.ok b = true) (la : a.length ≤ 1099511627776) (lb : b.length ≤ 1099511627776) (hk : 3000000000000 + a.length * (b.length + 3) ≤ k) : mul_byLimbs.f k a b = some (YtnngdlehakcdlaaV.toL (YtnngdlehakcdlaaV.val a * YtnngdlehakcdlaaV.val b)) := by
  unfold mul_byLimbs.f
  rw [w64n (by omega), if_pos (by omega), Int.toNat_natCast, if_pos (by omega)]
  exact rows_go oa ob la lb a.length 0 k (List.replicate (a.length + b.length) 0) (by omega) hk (zeros_ok _) (by simp) (fun q _ => zeros_getD _ _) (by rw [zeros_val]; simp [YtnngdlehakcdlaaV.val])

/-! ### trim of what is read, parted -/
theorem strip_take {l : List Int} {m : Nat} (hm : m + 1 ≤ l.length) (h0 : l.getD m 0 = 0) (hs : YtnngdlehakcdlaaV.strip (l.take (m + 1)) = YtnngdlehakcdlaaV.strip l) : YtnngdlehakcdlaaV.strip (l.take m) = YtnngdlehakcdlaaV.strip l := by
  rw [List.take_succ_eq_append_getElem (by omega)] at hs
  rw [List.getD_eq_getElem?_getD, List.getElem?_eq_getElem (by omega)] at h0
  have h1 : l[m] = 0 := h0
  rw [h1, YtnngdlehakcdlaaV.strip_snoc_zero] at hs
  exact hs
theorem strip_stop {l : List Int} {m : Nat} (hm : m + 1 ≤ l.length) (h0 : l.getD m 0 ≠ 0) (hs : YtnngdlehakcdlaaV.strip (l.take (m + 1)) = YtnngdlehakcdlaaV.strip l) : YtnngdlehakcdlaaV.strip l = l.take (m + 1) := by
  rw [← hs, List.take_succ_eq_append_getElem (by omega), YtnngdlehakcdlaaV.strip_snoc]
  rw [List.getD_eq_getElem?_getD, List.getElem?_eq_getElem (by omega)] at h0
  exact h0
def lenOf_ : Value → Nat
  | .slice _ n _ => n
  | _ => 0
section
set_option maxRecDepth 100000 in
set_option maxHeartbeats 4000000 in
theorem trim_read (A : Option Addr) (c : Nat) (l : List Int) (w : World) (hr : Kd.C (Kd.int .u32) w A l.length l) (hc : l.length ≤ c) :
    Calls Try.prog 48 #[.slice A l.length c] w fun e w' => e = .returned (.slice A (YtnngdlehakcdlaaV.strip l).length c) ∧ w' = w := by
  have hm := hr.2.1
  obtain ⟨i0, hi, hz0, hz1, hz2⟩ := info_parts info23
  have HR := Aside0.mk hr
  have hrun : ∀ (W : World) (n : Nat) (j : Int), n ≤ c → 0 ≤ j → j ≤ n → (Instr.slice 22 (.slice A n c) none (some (.int .i64 j)) none).run Try.prog W = .ok (.slice A j.toNat c) W := fun W n j hn h0 h1 => by
    have hel : Try.prog.elem 22 = 23 := by simp [Program.elem, Try.underlying22]
    have hu : Try.prog.underlying 22 = some (.slice (Try.prog.elem 22)) := by rw [hel]; exact Try.underlying22
    have ha : (A.map fun x => x.add 0) = A := by cases A <;> simp [Addr.add]
    rw [run_slice_h W 22 A n c hu .i64 j h0 (by omega), hel]
    simp [sizeOf, typeInfo, hi, hz1, sliced, Result.andThen, ha]
  clear hr
  go_enter Try.func48, Try.ntmps48
  go_wp2
  go_loop [0] (fun v => ∃ m : Nat, m ≤ l.length ∧ v = .slice A m c ∧ Aside0 (YtnngdlehakcdlaaV.strip (l.take m) = YtnngdlehakcdlaaV.strip l)) (fun v => lenOf_ v)
  case atStart => exact ⟨l.length, Nat.le_refl _, rfl, ⟨by rw [List.take_length]⟩⟩
  case round =>
    obtain ⟨m, hml, rfl, HS⟩ := hrel
    by_cases h0 : m = 0
    · subst h0
      have hfin := Aside0.mk (show 0 = (YtnngdlehakcdlaaV.strip l).length by rw [← HS.out]; rfl)
      clear hrun HS
      go_wp2
      go_ret
      exact ⟨by rw [← hfin.out]; rfl, rfl⟩
    · obtain ⟨q, rfl⟩ : ∃ q, m = q + 1 := ⟨m - 1, by omega⟩
      obtain ⟨ad, rfl, g0⟩ := Kd.at_int HR.out (q : Int) (by omega) (by omega)
      rw [Int.toNat_natCast, rd_nat] at g0
      have d1 : decide (0 < q + 1) = true := decide_eq_true (by omega)
      have d2 : decide (0 < (q : Int) + 1) = true := decide_eq_true (by omega)
      have hw : IntKind.i64.wrap (((q + 1 : Nat) : Int) - 1) = (q : Int) := by simp only [IntKind.wrap, IntKind.bits, IntKind.signed]; simp; omega
      have hr1 : ∀ W : World, (Instr.slice 22 (.slice (some ad) (q + 1) c) none (some (.int .i64 (q : Int))) none).run Try.prog W = .ok (.slice (some ad) q c) W := fun W => by
        have := hrun W (q + 1) (q : Int) (by omega) (by omega) (by omega)
        rw [Int.toNat_natCast] at this
        exact this
      clear hrun
      by_cases hx : l.getD q 0 = 0
      · rw [hx] at g0
        have hst := Aside0.mk (strip_take hml hx HS.out)
        have hq2 : q ≤ l.length := by omega
        clear hx HS
        go_wp2
        go_round
        case rel => exact ⟨q, hq2, rfl, hst⟩
        case measure => simp [lenOf_]
      · have hst := Aside0.mk (strip_stop hml hx HS.out)
        have hl : (YtnngdlehakcdlaaV.strip l).length = q + 1 := by rw [hst.out, List.length_take]; omega
        have HL := Aside0.mk hl
        obtain ⟨x, hxe⟩ : ∃ x, l.getD q 0 = x := ⟨_, rfl⟩
        rw [hxe] at g0 hx
        have hb : (x == 0) = false := beq_eq_false_iff_ne.2 hx
        clear hl HS hst hxe hx
        go_wp2
        go_ret
        exact ⟨by rw [HL.out]; rfl, rfl⟩
set_option maxRecDepth 100000 in
set_option maxHeartbeats 4000000 in
theorem parted_of (A : Option Addr) (c : Nat) (l : List Int) (h : Nat) (w : World) (hr : Kd.C (Kd.int .u32) w A l.length l) (hc : l.length ≤ c) (hh : h ≤ 1099511627776) :
    Calls Try.prog 50 #[.slice A l.length c, .int .i64 (h : Int)] w fun e w' => ∃ (A2 : Option Addr) (c2 : Nat), e = .returned (.tuple #[.slice A (YtnngdlehakcdlaaV.strip (l.take h)).length (l.take h).length, .slice A2 (l.drop h).length c2]) ∧
      (∀ W, Kd.C (Kd.int .u32) W A l.length l → Kd.C (Kd.int .u32) W A2 (l.drop h).length (l.drop h)) ∧ (l.drop h).length ≤ c2 ∧ ∃ nd, w' = w.drewN nd := by
  have hm := hr.2.1
  obtain ⟨i0, hi, hz0, hz1, hz2⟩ := info_parts info23
  obtain ⟨g, hg⟩ : ∃ g, g = min h l.length := ⟨_, rfl⟩
  have hgl : g ≤ l.length := by omega
  have etk : l.take h = l.take g := by
    by_cases hx : h ≤ l.length
    · rw [show g = h by omega]
    · rw [List.take_of_length_le (by omega), List.take_of_length_le (by omega)]
  have edr : l.drop h = l.drop g := by
    by_cases hx : h ≤ l.length
    · rw [show g = h by omega]
    · rw [List.drop_of_length_le (by omega), List.drop_of_length_le (by omega)]
  rw [etk, edr]
  have hmin : (if (l.length : Int) < (h : Int) then (l.length : Int) else (h : Int)) = (g : Int) := by split <;> omega
  have hminn : (if l.length < h then (l.length : Int) else (h : Int)) = (g : Int) := by split <;> omega
  have lt1 : (l.take g).length = g := by rw [List.length_take]; omega
  have ld1 : (l.drop g).length = l.length - g := List.length_drop
  have hC1 : ∀ W, Kd.C (Kd.int .u32) W A l.length l → Kd.C (Kd.int .u32) W A (l.take g).length (l.take g) := fun W h => by
    have := Kd.C_of_reads (h1 := fun _ => rfl) ((Kd.reads_of_C (d := (0 : Int)) h).take_ g hgl)
    rw [lt1]; exact this
  obtain ⟨A2, hcut2, hread2⟩ := print_cut_of (P := Try.prog) (Value.int .u32) (0 : Int) 22 23 .i64 Try.underlying22 hi hz1 A l.length c g hgl
  have hC2 : ∀ W, Kd.C (Kd.int .u32) W A l.length l → Kd.C (Kd.int .u32) W A2 (l.drop g).length (l.drop g) := fun W h => by
    have := Kd.C_of_reads (h1 := fun _ => rfl) (hread2 W l hc (Kd.reads_of_C (d := (0 : Int)) h))
    rw [ld1]; exact this
  have hcut1 : ∀ W : World, (Instr.slice 22 (.slice A l.length c) none (some (.int .i64 (g : Int))) (some (.int .i64 (g : Int)))).run Try.prog W = .ok (.slice A g g) W := fun W => by
    have hel : Try.prog.elem 22 = 23 := by simp [Program.elem, Try.underlying22]
    have hu : Try.prog.underlying 22 = some (.slice (Try.prog.elem 22)) := by rw [hel]; exact Try.underlying22
    have ha : (A.map fun x => x.add 0) = A := by cases A <;> simp [Addr.add]
    rw [run_slice_hm W 22 A l.length c hu .i64 .i64 (g : Int) (g : Int) (by omega) (by omega) (by omega), hel]
    simp [sizeOf, typeInfo, hi, hz1, sliced, Result.andThen, ha]
  have HT := Aside0.mk (fun W : World => fun hW : Kd.C (Kd.int .u32) W A l.length l => by
    have := trim_read A g (l.take g) W (hC1 W hW) (by omega)
    rw [lt1] at this
    exact this)
  have HR := Aside0.mk hr
  have H1 := Aside0.mk hC2
  have H2 := Aside0.mk (show (l.drop g).length ≤ c - g by omega)
  have H3 := Aside0.mk lt1
  have H4 := Aside0.mk ld1
  rw [← ld1] at hcut2
  clear hr hC1 hC2 hread2 etk edr hg lt1 ld1
  obtain ⟨n2, hn2⟩ : ∃ n2, n2 = (l.drop g).length := ⟨_, rfl⟩
  rw [← hn2] at hcut2
  have H5 := Aside0.mk hn2
  clear hn2
  go_enter Try.func50, Try.ntmps50
  go_wp2
  go_quiet ((go_at_call 48; refine Calls.quiet_of_same (HT.out _ ?_); exact Kd.C_drewN HR.out _))
  go_wp2
  go_ret2
  refine ⟨A2, c - g, ?_, H1.out, H2.out, _, rfl⟩
  rw [H3.out, ← H5.out]
  rfl
theorem tight_g {W : World} {base g L cap : Nat} {ok : Nat → Prop} {l : List Int} (h : Kd.R (Kd.int .u32) 23 W base ok (.slice (some ⟨g, 0, none⟩) L cap) l) : Kd.R (Kd.int .u32) 23 W base (fun k => k = g) (.slice (some ⟨g, 0, none⟩) L cap) l :=
  Kd.R_mono (Kd.R_tight rfl h) (fun k hk => by simpa [Value.ownBlock] using hk)
set_option maxRecDepth 100000 in
set_option maxHeartbeats 4000000 in
theorem put_of (k g cap B : Nat) (out n r : List Int) (A : Option Addr) (c at_ : Nat) (w0 w : World) (hB0 : Below w0.heap.size w0 w) (hbox : Boxed w B 22 (.slice (some ⟨g, 0, none⟩) out.length cap)) (hne : B ≠ g)
    (hown : Kd.R (Kd.int .u32) 23 w w0.heap.size (fun k => k = g) (.slice (some ⟨g, 0, none⟩) out.length cap) out) (hn : ∀ W_, Kept w W_ (fun k => k = g) → Kd.C (Kd.int .u32) W_ A n.length n) (hc : n.length ≤ c) (h : mul_addAt.f k out n (at_ : Int) = some r) :
    Calls Try.prog 51 #[.slice A n.length c, .int .i64 (at_ : Int), .pointer (some ⟨B, 0, none⟩)] w fun e w' => e = .returned (.tuple #[]) ∧ Boxed w' B 22 (.slice (some ⟨g, 0, none⟩) out.length cap) ∧ Kd.R (Kd.int .u32) 23 w' w0.heap.size (fun k => k = g) (.slice (some ⟨g, 0, none⟩) out.length cap) r ∧ Below w0.heap.size w0 w' ∧ Kept w w' (fun k => k = g) := by
  have hcell := hbox.cell
  have hlt := hbox.lt
  have HC := Aside0.mk (mul_addAt.calls k (fun k => k = g) (.slice (some ⟨g, 0, none⟩) out.length cap) out A c n (at_ : Int) r w0 w hB0 hown hn hc h)
  have HX := Aside0.mk hbox
  clear hbox hown hn hc h hB0
  go_enter Try.func51, Try.ntmps51
  go_wp2_with fail
  refine HC.out.mono ?_
  rintro e w1 ⟨rfl, hR, hB, hK⟩
  have H1 := Aside0.mk (And.intro hR (And.intro hB hK))
  clear hR hB hK hcell
  go_wp2
  go_end0
  obtain ⟨hR, hB, hK⟩ := H1.out
  exact ⟨rfl, (hK.2 B hlt hne).trans HX.out, tight_g hR, hB, hK⟩

/-! ### product: the plain part -/
theorem pr_split (l : List Int) (h : Nat) : YtnngdlehakcdlaaV.val l = YtnngdlehakcdlaaV.val (l.take h) + YtnngdlehakcdlaaV.B ^ h * YtnngdlehakcdlaaV.val (l.drop h) := by
  have h1 := YtnngdlehakcdlaaV.val_append (l.take h) (l.drop h)
  rw [List.take_append_drop, List.length_take] at h1
  by_cases hl : h ≤ l.length
  · rw [Nat.min_eq_left hl] at h1; exact h1
  · rw [List.drop_of_length_le (by omega)] at h1 ⊢
    rw [h1]; simp [YtnngdlehakcdlaaV.val]
theorem toL_len_mono {x y : Nat} (h : x ≤ y) : (YtnngdlehakcdlaaV.toL x).length ≤ (YtnngdlehakcdlaaV.toL y).length := by
  rw [YtnngdlehakcdlaaV.toL_length_le]
  exact Nat.lt_of_le_of_lt h (YtnngdlehakcdlaaV.toL_length_le.1 (Nat.le_refl _))
theorem toL_len_shift {v h n : Nat} (hv : YtnngdlehakcdlaaV.B ^ h * v < YtnngdlehakcdlaaV.B ^ n) (hn : h ≤ n) : h + (YtnngdlehakcdlaaV.toL v).length ≤ n := by
  have : (YtnngdlehakcdlaaV.toL v).length ≤ n - h := by
    rw [YtnngdlehakcdlaaV.toL_length_le]
    have e : YtnngdlehakcdlaaV.B ^ n = YtnngdlehakcdlaaV.B ^ h * YtnngdlehakcdlaaV.B ^ (n - h) := by rw [← Nat.pow_add]; congr 1; omega
    rw [e] at hv
    exact Nat.lt_of_mul_lt_mul_left hv
  omega
theorem mul_lt_pow {x y m n : Nat} (hx : x < YtnngdlehakcdlaaV.B ^ m) (hy : y < YtnngdlehakcdlaaV.B ^ n) : x * y < YtnngdlehakcdlaaV.B ^ (m + n) := by
  rw [Nat.pow_add]
  exact Nat.mul_lt_mul'' hx hy
/-- What is put into the product, piece by piece: each piece has room. -/
structure Pieces (a0 a1 b0 b1 h L : Nat) : Prop where
  all : a0 * b0 + YtnngdlehakcdlaaV.B ^ (2 * h) * (a1 * b1) + YtnngdlehakcdlaaV.B ^ h * (a0 * b1) + YtnngdlehakcdlaaV.B ^ h * (a1 * b0) < YtnngdlehakcdlaaV.B ^ L
  h1 : h ≤ L
  h2 : 2 * h ≤ L
theorem Pieces.one {a0 a1 b0 b1 h L : Nat} (p : Pieces a0 a1 b0 b1 h L) {out : List Int} {k : Nat} (oo : YtnngdlehakcdlaaV.ok out = true) (hl : out.length = L) (hL : L ≤ 1000000) (hk : 3000000 ≤ k) (hv : YtnngdlehakcdlaaV.val out = 0) :
    ∃ r, mul_addAt.f k out (YtnngdlehakcdlaaV.toL (a0 * b0)) ((0 : Nat) : Int) = some r ∧ YtnngdlehakcdlaaV.ok r = true ∧ r.length = L ∧ YtnngdlehakcdlaaV.val r = a0 * b0 := by
  have hp := p.all
  have hb : a0 * b0 < YtnngdlehakcdlaaV.B ^ L := by omega
  have := toL_len_shift (h := 0) (v := a0 * b0) (n := L) (by simpa using hb) (by omega)
  obtain ⟨r, e1, e2, e3, e4⟩ := addAt_f (out := out) (n := YtnngdlehakcdlaaV.toL (a0 * b0)) (at_ := 0) (k := k) oo (YtnngdlehakcdlaaV.toL_ok _) (by omega) (by omega) (by rw [hv, YtnngdlehakcdlaaV.val_toL, hl]; simpa using hb) (by omega)
  exact ⟨r, e1, e2, by omega, by rw [e4, hv, YtnngdlehakcdlaaV.val_toL]; simp⟩
theorem piece {out : List Int} {h v L k : Nat} (oo : YtnngdlehakcdlaaV.ok out = true) (hl : out.length = L) (hL : L ≤ 1000000) (hk : 3000000 ≤ k) (hh : h ≤ L) (hv : YtnngdlehakcdlaaV.val out + YtnngdlehakcdlaaV.B ^ h * v < YtnngdlehakcdlaaV.B ^ L) :
    ∃ r, mul_addAt.f k out (YtnngdlehakcdlaaV.toL v) (h : Int) = some r ∧ YtnngdlehakcdlaaV.ok r = true ∧ r.length = L ∧ YtnngdlehakcdlaaV.val r = YtnngdlehakcdlaaV.val out + YtnngdlehakcdlaaV.B ^ h * v := by
  have := toL_len_shift (h := h) (v := v) (n := L) (by omega) hh
  obtain ⟨r, e1, e2, e3, e4⟩ := addAt_f (out := out) (n := YtnngdlehakcdlaaV.toL v) (at_ := h) (k := k) oo (YtnngdlehakcdlaaV.toL_ok _) (by omega) (by omega) (by rw [YtnngdlehakcdlaaV.val_toL, hl]; exact hv) (by omega)
  exact ⟨r, e1, e2, by omega, by rw [e4, YtnngdlehakcdlaaV.val_toL]⟩
theorem mid_mul (a0 a1 b0 b1 : Nat) : (a0 + a1) * (b0 + b1) = a0 * b0 + a0 * b1 + (a1 * b0 + a1 * b1) := by
  rw [Nat.add_mul, Nat.mul_add, Nat.mul_add]
theorem split_mul (a0 a1 b0 b1 h : Nat) : (a0 + YtnngdlehakcdlaaV.B ^ h * a1) * (b0 + YtnngdlehakcdlaaV.B ^ h * b1) = a0 * b0 + YtnngdlehakcdlaaV.B ^ (2 * h) * (a1 * b1) + YtnngdlehakcdlaaV.B ^ h * (a0 * b1) + YtnngdlehakcdlaaV.B ^ h * (a1 * b0) := by
  rw [show 2 * h = h + h by omega, Nat.pow_add]
  generalize YtnngdlehakcdlaaV.B ^ h = P
  rw [mid_mul]
  have e1 : a0 * (P * b1) = P * (a0 * b1) := Nat.mul_left_comm _ _ _
  have e2 : P * a1 * b0 = P * (a1 * b0) := Nat.mul_assoc _ _ _
  have e3 : P * a1 * (P * b1) = P * P * (a1 * b1) := by rw [Nat.mul_assoc, Nat.mul_left_comm a1, ← Nat.mul_assoc]
  rw [e1, e2, e3]
  omega
/-- The middle piece, out of the product of the sums. -/
theorem mid_f {a0 a1 b0 b1 k L : Nat} (hk : 3000000 ≤ k) (hL : L ≤ 1000000) (hl : (YtnngdlehakcdlaaV.toL ((a0 + a1) * (b0 + b1))).length ≤ L) :
    ∃ r1 r2, mul_less.f k (YtnngdlehakcdlaaV.toL ((a0 + a1) * (b0 + b1))) (YtnngdlehakcdlaaV.toL (a0 * b0)) = some r1 ∧ mul_less.f k r1 (YtnngdlehakcdlaaV.toL (a1 * b1)) = some r2 ∧ r1.length = (YtnngdlehakcdlaaV.toL ((a0 + a1) * (b0 + b1))).length ∧ r2.length = r1.length ∧ YtnngdlehakcdlaaV.ok r2 = true ∧ YtnngdlehakcdlaaV.val r2 = a0 * b1 + a1 * b0 := by
  have hm := mid_mul a0 a1 b0 b1
  have v0 := YtnngdlehakcdlaaV.val_toL ((a0 + a1) * (b0 + b1))
  generalize (a0 + a1) * (b0 + b1) = m at *
  obtain ⟨r1, e1, o1, l1, v1⟩ := less_f (k := k) (out := YtnngdlehakcdlaaV.toL m) (n := YtnngdlehakcdlaaV.toL (a0 * b0)) (YtnngdlehakcdlaaV.toL_ok _) (YtnngdlehakcdlaaV.toL_ok _) (toL_len_mono (by omega)) (by omega) (by rw [YtnngdlehakcdlaaV.val_toL, YtnngdlehakcdlaaV.val_toL]; omega) (by omega)
  rw [YtnngdlehakcdlaaV.val_toL] at v1
  have l2' : (YtnngdlehakcdlaaV.toL (a1 * b1)).length ≤ (YtnngdlehakcdlaaV.toL m).length := toL_len_mono (by omega)
  obtain ⟨r2, e2, o2, l2, v2⟩ := less_f (k := k) (out := r1) (n := YtnngdlehakcdlaaV.toL (a1 * b1)) o1 (YtnngdlehakcdlaaV.toL_ok _) (by omega) (by omega) (by rw [YtnngdlehakcdlaaV.val_toL]; omega) (by omega)
  rw [YtnngdlehakcdlaaV.val_toL] at v2
  exact ⟨r1, r2, e1, e2, l1, l2, o2, by omega⟩

/-! ### product: the walk -/
theorem pr_make (W : World) (c : Nat) (hc : c ≤ 16777216) :
    (Instr.makeSlice 22 (.int .i64 (c : Int)) (.int .i64 (c : Int))).run Try.prog W = .ok (.slice (some ⟨W.heap.size, 0, none⟩) c c) (W.alloc (.cells (madeCells #[.int .u32 0] c) 23)) := by
  obtain ⟨i0, hi, hz0, hz1, hz2⟩ := info_parts info23
  have h := run_make (P := Try.prog) W 22 23 i0 (.int .u32 0) Try.underlying22 hi hz0 .i64 .i64 (c : Int) (c : Int) (by omega) (by omega) (by rw [hz2]; omega) (by omega)
  simp only [Int.toNat_natCast] at h
  rw [hz1, Nat.mul_one] at h
  exact h
theorem pr_made (W : World) (base : Nat) (c : Nat) (hc : c ≤ 16777216) (hb : base ≤ W.heap.size) :
    Kd.R (Kd.int .u32) 23 (W.alloc (.cells (madeCells #[.int .u32 0] c) 23)) base (fun _ => True) (.slice (some ⟨W.heap.size, 0, none⟩) c c) (List.replicate c 0) := by
  have h2 := World.ownsRow_lit (base := base) (e := 23) (size := 1) W (madeCells #[.int .u32 0] c) c hb (by unfold maxLen; omega) (by simp [size_madeCells])
  refine Kd.R_of_own ?_ (fun _ _ => trivial)
  have e : (madeCells #[Value.int .u32 0] c).toList = encs (Value.int .u32) (List.replicate c 0) := by
    apply List.ext_getElem
    · simp [size_madeCells, encs]
    · intro i h1 h2
      simp [madeCells, encs, Nat.mod_one]
  rw [← e, List.length_replicate]
  exact h2
/-- A row that lies at or beyond a block is kept by what keeps all up to there, but for one below. -/
theorem row_kept {W W' : World} {b g : Nat} {ok : Nat → Prop} {v : Value} {l : List Int} (h : Kd.R (Kd.int .u32) 23 W b ok v l) (hk : Kept W W' (fun k => k = g)) (hg : g < b) : Kd.R (Kd.int .u32) 23 W' b ok v l :=
  Kd.R_mono (Kd.R_step (Kd.R_bound h) (fun k ho hlt => hk.2 k hlt (by have := ho.2.1; omega))) (fun _ hk => hk.1)
theorem row_kept2 {W W' : World} {b g : Nat} {ok : Nat → Prop} {v : Value} {l : List Int} (h : Kd.R (Kd.int .u32) 23 W b ok v l) (hk : Kept W W' (fun k => g ≤ k)) (hg : W.heap.size ≤ g ∨ ∀ k, v.ownBlock = some k → k < g) : Kd.R (Kd.int .u32) 23 W' b (fun _ => True) v l :=
  Kd.R_mono (Kd.R_step (Kd.R_tight rfl h) (fun k ho hlt => hk.2 k hlt (by
    rcases hg with hg | hg
    · omega
    · have := hg k ho.symm; omega))) (fun _ _ => trivial)
theorem boxed_kept2 {W W' : World} {B g : Nat} {t : TypeId} {v : Value} (h : Boxed W B t v) (hk : Kept W W' (fun k => g ≤ k)) (hne : B < g) : Boxed W' B t v := (hk.2 B h.lt (by omega)).trans h
theorem boxed_below {W W' : World} {B : Nat} {t : TypeId} {v : Value} (h : Boxed W B t v) (hb : Below W.heap.size W W') : Boxed W' B t v := (hb.block B h.lt).trans h
def ProdAt (M : Nat) : Prop := ∀ (A0 : Option Addr) (c0 : Nat) (l0 : List Int) (A1 : Option Addr) (c1 : Nat) (l1 : List Int) (w : World), l0.length ≤ M → l1.length ≤ M → YtnngdlehakcdlaaV.ok l0 = true → YtnngdlehakcdlaaV.ok l1 = true → Kd.C (Kd.int .u32) w A0 l0.length l0 → l0.length ≤ c0 → Kd.C (Kd.int .u32) w A1 l1.length l1 → l1.length ≤ c1 →
    Calls Try.prog 35 #[.slice A0 l0.length c0, .slice A1 l1.length c1] w fun e w' => ∃ v0_ : Value, e = .returned (v0_) ∧ Kd.R (Kd.int .u32) 23 w' w.heap.size (fun _ => True) v0_ (YtnngdlehakcdlaaV.toL (YtnngdlehakcdlaaV.val l0 * YtnngdlehakcdlaaV.val l1)) ∧ Below w.heap.size w w'
set_option maxRecDepth 100000 in
set_option maxHeartbeats 4000000 in
theorem product_small (A0 : Option Addr) (c0 : Nat) (l0 : List Int) (A1 : Option Addr) (c1 : Nat) (l1 : List Int) (w : World) (hs : l0.length ≤ 40 ∨ l1.length ≤ 40) (h0 : l0.length ≤ 200000) (h1 : l1.length ≤ 200000) (o0 : YtnngdlehakcdlaaV.ok l0 = true) (o1 : YtnngdlehakcdlaaV.ok l1 = true) (hr0 : Kd.C (Kd.int .u32) w A0 l0.length l0) (hc0 : l0.length ≤ c0) (hr1 : Kd.C (Kd.int .u32) w A1 l1.length l1) (hc1 : l1.length ≤ c1) :
    Calls Try.prog 35 #[.slice A0 l0.length c0, .slice A1 l1.length c1] w fun e w' => ∃ v0_ : Value, e = .returned (v0_) ∧ Kd.R (Kd.int .u32) 23 w' w.heap.size (fun _ => True) v0_ (YtnngdlehakcdlaaV.toL (YtnngdlehakcdlaaV.val l0 * YtnngdlehakcdlaaV.val l1)) ∧ Below w.heap.size w w' := by
  obtain ⟨m, hm⟩ : ∃ m, m = min l0.length l1.length := ⟨_, rfl⟩
  have hmin : (if (l1.length : Int) < (l0.length : Int) then (l1.length : Int) else (l0.length : Int)) = (m : Int) := by split <;> omega
  have hminN : (if l1.length < l0.length then (l1.length : Int) else (l0.length : Int)) = (m : Int) := by split <;> omega
  have d1 : decide ((m : Int) ≤ 40) = true := decide_eq_true (by omega)
  have d2 : decide (m ≤ 40) = true := decide_eq_true (by omega)
  have hf := byLimbs_f (k := 3000000000000 + l0.length * (l1.length + 3)) o0 o1 (by omega) (by omega) (Nat.le_refl _)
  have HC := Aside0.mk (mul_byLimbs.calls _ A0 c0 l0 A1 c1 l1 _ w hr0 hc0 hr1 hc1 hf)
  clear hf hr0 hc0 hr1 hc1 hm hs h0 h1
  go_enter Try.func35, Try.ntmps35
  go_wp2_with fail
  refine HC.out.mono ?_
  rintro e w1 ⟨v, rfl, hR, hB⟩
  have H1 := Aside0.mk (And.intro hR hB)
  clear hR hB
  go_wp2
  go_ret
  exact ⟨v, rfl, H1.out⟩
theorem strip_prefix (n : Nat) : ∀ l : List Int, l.length = n → ∃ m, m ≤ l.length ∧ YtnngdlehakcdlaaV.strip l = l.take m := by
  induction n with
  | zero =>
    intro l hn
    have : l = [] := List.length_eq_zero_iff.1 hn
    subst this
    exact ⟨0, Nat.le_refl _, rfl⟩
  | succ n ih =>
    intro l hn
    rcases YtnngdlehakcdlaaV.strip_cases l with h | ⟨a, rfl, h⟩
    · exact ⟨l.length, Nat.le_refl _, by rw [h, List.take_length]⟩
    · obtain ⟨m, h1, h2⟩ := ih a (by simpa using hn)
      refine ⟨m, by simp; omega, ?_⟩
      rw [h, h2, List.take_append_of_le_length h1]
theorem strip_C {W : World} {A : Option Addr} {l : List Int} (h : Kd.C (Kd.int .u32) W A l.length l) : Kd.C (Kd.int .u32) W A (YtnngdlehakcdlaaV.strip l).length (YtnngdlehakcdlaaV.strip l) := by
  obtain ⟨m, h1, h2⟩ := strip_prefix l.length l rfl
  rw [h2]
  exact Kd.C_take h h1
/-- Where the product is being laid out: its block is the one behind all that stood, the variable's is the next. -/
structure St (w W : World) (L : Nat) (out : List Int) : Prop where
  below : Below w.heap.size w W
  box : Boxed W (w.heap.size + 1) 22 (.slice (some ⟨w.heap.size, 0, none⟩) L L)
  row : Kd.R (Kd.int .u32) 23 W w.heap.size (fun k => k = w.heap.size) (.slice (some ⟨w.heap.size, 0, none⟩) L L) out
  len : out.length = L
  size : w.heap.size + 2 ≤ W.heap.size
theorem St.call {w W W' : World} {L : Nat} {out : List Int} (s : St w W L out) (hb : Below W.heap.size W W') : St w W' L out :=
  ⟨s.below.trans (hb.mono s.below.size), boxed_below s.box hb, Kd.R_below s.row hb, s.len, Nat.le_trans s.size hb.size⟩
theorem St.kept {w W W' : World} {L G : Nat} {out : List Int} (s : St w W L out) (hb : Below w.heap.size w W') (hk : Kept W W' (fun k => G ≤ k)) (hG : w.heap.size + 2 ≤ G) : St w W' L out :=
  ⟨hb, boxed_kept2 s.box hk (by omega), Kd.R_step s.row (fun k ho hlt => hk.2 k hlt (by omega)), s.len, Nat.le_trans s.size hk.1⟩
theorem row_C' {W : World} {b g : Nat} {ok : Nat → Prop} {A : Option Addr} {n c : Nat} {l : List Int} (h : Kd.R (Kd.int .u32) 23 W b ok (.slice A n c) l) (hok : ∀ k, ok k → k ≠ g) : ∀ W', Kept W W' (fun k => k = g) → Kd.C (Kd.int .u32) W' A l.length l := fun W' hk =>
  (Kd.R_reads' (Kd.R_step h (fun k ho hlt => hk.2 k hlt (hok k ho)))).2.2
theorem St.put {w W : World} {L k : Nat} {out n r : List Int} {A : Option Addr} {c at_ : Nat} (s : St w W L out) (hn : ∀ W_, Kept W W_ (fun k => k = w.heap.size) → Kd.C (Kd.int .u32) W_ A n.length n) (hc : n.length ≤ c) (h : mul_addAt.f k out n (at_ : Int) = some r) (hr : r.length = L) :
    Calls Try.prog 51 #[.slice A n.length c, .int .i64 (at_ : Int), .pointer (some ⟨w.heap.size + 1, 0, none⟩)] W fun e W' => e = .returned (.tuple #[]) ∧ St w W' L r ∧ Kept W W' (fun k => k = w.heap.size) := by
  have hb := s.box
  have hw := s.row
  rw [← s.len] at hb hw
  refine (put_of k w.heap.size out.length (w.heap.size + 1) out n r A c at_ w W s.below hb (by omega) hw hn hc h).mono ?_
  rintro e W' ⟨h1, h2, h3, h4, h5⟩
  rw [s.len] at h2 h3
  exact ⟨h1, ⟨h4, h2, h3, hr, Nat.le_trans s.size h5.1⟩, h5⟩
set_option maxRecDepth 100000 in
set_option maxHeartbeats 8000000 in
theorem product_big (h : Nat) (ih : ProdAt (h + 1)) (A0 : Option Addr) (c0 : Nat) (l0 : List Int) (A1 : Option Addr) (c1 : Nat) (l1 : List Int) (w : World) (hs : 40 < l0.length ∧ 40 < l1.length) (hh : h = (max l0.length l1.length + 1) / 2) (b0 : l0.length ≤ 200000) (b1 : l1.length ≤ 200000) (o0 : YtnngdlehakcdlaaV.ok l0 = true) (o1 : YtnngdlehakcdlaaV.ok l1 = true) (hr0 : Kd.C (Kd.int .u32) w A0 l0.length l0) (hc0 : l0.length ≤ c0) (hr1 : Kd.C (Kd.int .u32) w A1 l1.length l1) (hc1 : l1.length ≤ c1) :
    Calls Try.prog 35 #[.slice A0 l0.length c0, .slice A1 l1.length c1] w fun e w' => ∃ v0_ : Value, e = .returned (v0_) ∧ Kd.R (Kd.int .u32) 23 w' w.heap.size (fun _ => True) v0_ (YtnngdlehakcdlaaV.toL (YtnngdlehakcdlaaV.val l0 * YtnngdlehakcdlaaV.val l1)) ∧ Below w.heap.size w w' := by
  obtain ⟨m, hm⟩ : ∃ m, m = min l0.length l1.length := ⟨_, rfl⟩
  have hmin : (if (l1.length : Int) < (l0.length : Int) then (l1.length : Int) else (l0.length : Int)) = (m : Int) := by split <;> omega
  have hminN : (if l1.length < l0.length then (l1.length : Int) else (l0.length : Int)) = (m : Int) := by split <;> omega
  have d1 : decide ((m : Int) ≤ 40) = false := decide_eq_false (by omega)
  have d2 : decide (m ≤ 40) = false := decide_eq_false (by omega)
  obtain ⟨M, hM⟩ : ∃ M, M = max l0.length l1.length := ⟨_, rfl⟩
  have hmax : (if (l0.length : Int) < (l1.length : Int) then (l1.length : Int) else (l0.length : Int)) = (M : Int) := by split <;> omega
  have hmaxN : (if l0.length < l1.length then (l1.length : Int) else (l0.length : Int)) = (M : Int) := by split <;> omega
  have hMb : M ≤ 200000 := by omega
  rw [← hM] at hh
  have eh : ((M : Int) + 1) / 2 = (h : Int) := by omega
  have hhb : h ≤ 100001 := by omega
  obtain ⟨L, hL⟩ : ∃ L, L = l0.length + l1.length + 1 := ⟨_, rfl⟩
  obtain ⟨cs, hcs⟩ : ∃ cs, cs = madeCells #[Value.int .u32 0] L := ⟨_, rfl⟩
  have hmk : ∀ W : World, (Instr.makeSlice 22 (.int .i64 ((l0.length : Int) + (l1.length : Int) + 1)) (.int .i64 ((l0.length : Int) + (l1.length : Int) + 1))).run Try.prog W = .ok (.slice (some ⟨W.heap.size, 0, none⟩) L L) (W.alloc (.cells cs 23)) := fun W => by
    have := pr_make W L (by omega)
    rw [show ((L : Nat) : Int) = (l0.length : Int) + (l1.length : Int) + 1 by omega, ← hcs] at this
    exact this
  obtain ⟨x0, hx0⟩ : ∃ x, x = YtnngdlehakcdlaaV.strip (l0.take h) := ⟨_, rfl⟩
  obtain ⟨x1, hx1⟩ : ∃ x, x = l0.drop h := ⟨_, rfl⟩
  obtain ⟨y0, hy0⟩ : ∃ x, x = YtnngdlehakcdlaaV.strip (l1.take h) := ⟨_, rfl⟩
  obtain ⟨y1, hy1⟩ : ∃ x, x = l1.drop h := ⟨_, rfl⟩
  obtain ⟨p0, hp0⟩ : ∃ x, x = (l0.take h).length := ⟨_, rfl⟩
  obtain ⟨q0, hq0⟩ : ∃ x, x = (l1.take h).length := ⟨_, rfl⟩
  have HP0 := parted_of A0 c0 l0 h w hr0 hc0 (by omega)
  rw [← hx0, ← hx1, ← hp0] at HP0
  have HP1 := fun n => parted_of A1 c1 l1 h (w.drewN n) (Kd.C_drewN hr1 n) hc1 (by omega)
  rw [← hy0, ← hy1, ← hq0] at HP1
  have KP0 := Aside0.mk HP0
  have KP1 := Aside0.mk HP1
  have KM := Aside0.mk (And.intro hm (And.intro hM (And.intro hh (And.intro hL hcs))))
  have KX := Aside0.mk (And.intro hx0 (And.intro hx1 (And.intro hy0 (And.intro hy1 (And.intro hp0 hq0)))))
  have KR := Aside0.mk (And.intro hr0 (And.intro hc0 (And.intro hr1 hc1)))
  have KI := Aside0.mk ih
  have Kok := Aside0.mk (And.intro o0 o1)
  clear HP0 HP1 hm hM hh hL hcs hx0 hx1 hy0 hy1 hp0 hq0 hr0 hc0 hr1 hc1 ih o0 o1
  go_enter Try.func35, Try.ntmps35
  go_wp2_with fail
  refine KP0.out.mono ?_
  rintro e w1 ⟨A2, c2, rfl, hC2, hl2, nd, rfl⟩
  have K2 := Aside0.mk (And.intro hC2 hl2)
  clear hC2 hl2
  go_wp2_with fail
  refine (KP1.out _).mono ?_
  rintro e w2 ⟨A3, c3, rfl, hC3, hl3, nd2, rfl⟩
  have K3 := Aside0.mk (And.intro hC3 hl3)
  clear hC3 hl3
  go_wp2_with fail
  obtain ⟨W0, hW0⟩ : ∃ W0, W0 = (((w.drewN (nd + nd2)).alloc (Obj.cells cs 23)).alloc (Obj.cells #[Value.slice (some { block := w.heap.size, off := 0 }) L L] 22)) := ⟨_, rfl⟩
  obtain ⟨out0, ho0⟩ : ∃ out0, out0 = List.replicate L (0 : Int) := ⟨_, rfl⟩
  have S0 : Aside0 (St w W0 L out0) := by
    refine ⟨⟨?_, ?_, ?_, by rw [ho0]; simp, by rw [hW0]; simp⟩⟩
    · rw [hW0]; exact below_alloc (below_alloc (pw_below_drewN (Below.refl _ _) _) _) _
    · rw [hW0]
      have := Boxed.new ((w.drewN (nd + nd2)).alloc (Obj.cells cs 23)) 22 (Value.slice (some { block := w.heap.size, off := 0 }) L L)
      simpa using this
    · rw [hW0, ho0, KM.out.2.2.2.2]
      refine Kd.R_alloc (tight_g (ok := fun _ => True) ?_) _
      exact pr_made (w.drewN (nd + nd2)) w.heap.size L (by have := KM.out.2.2.2.1; omega) (by simp)
  rw [← hW0]
  obtain ⟨hx0, hx1, hy0, hy1, hp0, hq0⟩ := KX.out
  have lx0 : x0.length ≤ p0 := by rw [hx0, hp0]; exact YtnngdlehakcdlaaV.strip_length_le _
  have ly0 : y0.length ≤ q0 := by rw [hy0, hq0]; exact YtnngdlehakcdlaaV.strip_length_le _
  have hpl : p0 ≤ h := by rw [hp0, List.length_take]; omega
  have hql : q0 ≤ h := by rw [hq0, List.length_take]; omega
  have hMM := KM.out.2.1
  have hhh := KM.out.2.2.1
  have lx1 : x1.length ≤ h := by rw [hx1, List.length_drop]; omega
  have ly1 : y1.length ≤ h := by rw [hy1, List.length_drop]; omega
  have KL := Aside0.mk (And.intro (show x0.length ≤ h + 1 by omega) (And.intro (show x1.length ≤ h + 1 by omega) (And.intro (show y0.length ≤ h + 1 by omega) (show y1.length ≤ h + 1 by omega))))
  have KP := Aside0.mk (And.intro lx0 ly0)
  have ox0 : YtnngdlehakcdlaaV.ok x0 = true := by rw [hx0]; exact YtnngdlehakcdlaaV.strip_ok (YtnngdlehakcdlaaV.ok_take Kok.out.1 h)
  have ox1 : YtnngdlehakcdlaaV.ok x1 = true := by rw [hx1]; exact YtnngdlehakcdlaaV.ok_drop Kok.out.1 h
  have oy0 : YtnngdlehakcdlaaV.ok y0 = true := by rw [hy0]; exact YtnngdlehakcdlaaV.strip_ok (YtnngdlehakcdlaaV.ok_take Kok.out.2 h)
  have oy1 : YtnngdlehakcdlaaV.ok y1 = true := by rw [hy1]; exact YtnngdlehakcdlaaV.ok_drop Kok.out.2 h
  have KO := Aside0.mk (And.intro ox0 (And.intro ox1 (And.intro oy0 oy1)))
  have KC : Aside0 ((∀ W, Below w.heap.size w W → Kd.C (Kd.int .u32) W A0 x0.length x0) ∧ (∀ W, Below w.heap.size w W → Kd.C (Kd.int .u32) W A2 x1.length x1) ∧ (∀ W, Below w.heap.size w W → Kd.C (Kd.int .u32) W A1 y0.length y0) ∧ (∀ W, Below w.heap.size w W → Kd.C (Kd.int .u32) W A3 y1.length y1)) := by
    refine ⟨⟨fun W hW => ?_, fun W hW => K2.out.1 W (Kd.C_below KR.out.1 hW), fun W hW => ?_, fun W hW => K3.out.1 W (Kd.C_below KR.out.2.2.1 hW)⟩⟩
    · rw [hx0]
      refine strip_C ?_
      have h1 := Kd.C_below KR.out.1 hW
      by_cases hl : h ≤ l0.length
      · exact Kd.C_take h1 hl
      · rw [List.take_of_length_le (by omega)]; exact h1
    · rw [hy0]
      refine strip_C ?_
      have h1 := Kd.C_below KR.out.2.2.1 hW
      by_cases hl : h ≤ l1.length
      · exact Kd.C_take h1 hl
      · rw [List.take_of_length_le (by omega)]; exact h1
  -- the values
  have e0 : YtnngdlehakcdlaaV.val l0 = YtnngdlehakcdlaaV.val x0 + YtnngdlehakcdlaaV.B ^ h * YtnngdlehakcdlaaV.val x1 := by rw [hx0, hx1, YtnngdlehakcdlaaV.strip_val]; exact pr_split l0 h
  have e1 : YtnngdlehakcdlaaV.val l1 = YtnngdlehakcdlaaV.val y0 + YtnngdlehakcdlaaV.B ^ h * YtnngdlehakcdlaaV.val y1 := by rw [hy0, hy1, YtnngdlehakcdlaaV.strip_val]; exact pr_split l1 h
  have etot : YtnngdlehakcdlaaV.val l0 * YtnngdlehakcdlaaV.val l1 = YtnngdlehakcdlaaV.val x0 * YtnngdlehakcdlaaV.val y0 + YtnngdlehakcdlaaV.B ^ (2 * h) * (YtnngdlehakcdlaaV.val x1 * YtnngdlehakcdlaaV.val y1) + YtnngdlehakcdlaaV.B ^ h * (YtnngdlehakcdlaaV.val x0 * YtnngdlehakcdlaaV.val y1) + YtnngdlehakcdlaaV.B ^ h * (YtnngdlehakcdlaaV.val x1 * YtnngdlehakcdlaaV.val y0) := by rw [e0, e1, split_mul]
  have hLL := KM.out.2.2.2.1
  have hlt : YtnngdlehakcdlaaV.val l0 * YtnngdlehakcdlaaV.val l1 < YtnngdlehakcdlaaV.B ^ L := by
    rw [hLL, Nat.pow_succ]
    have := mul_lt_pow (YtnngdlehakcdlaaV.val_lt Kok.out.1) (YtnngdlehakcdlaaV.val_lt Kok.out.2)
    generalize YtnngdlehakcdlaaV.B ^ (l0.length + l1.length) = P at *
    simp only [YtnngdlehakcdlaaV.B]
    omega
  have hLh : h ≤ L ∧ 2 * h ≤ L ∧ L ≤ 1000000 := by omega
  have KT := Aside0.mk (And.intro etot (And.intro hlt hLh))
  have hxb : YtnngdlehakcdlaaV.val x0 < YtnngdlehakcdlaaV.B ^ h ∧ YtnngdlehakcdlaaV.val x1 < YtnngdlehakcdlaaV.B ^ h ∧ YtnngdlehakcdlaaV.val y0 < YtnngdlehakcdlaaV.B ^ h ∧ YtnngdlehakcdlaaV.val y1 < YtnngdlehakcdlaaV.B ^ h := ⟨Nat.lt_of_lt_of_le (YtnngdlehakcdlaaV.val_lt ox0) (Nat.pow_le_pow_right (by decide) (by omega)), Nat.lt_of_lt_of_le (YtnngdlehakcdlaaV.val_lt ox1) (Nat.pow_le_pow_right (by decide) lx1), Nat.lt_of_lt_of_le (YtnngdlehakcdlaaV.val_lt oy0) (Nat.pow_le_pow_right (by decide) (by omega)), Nat.lt_of_lt_of_le (YtnngdlehakcdlaaV.val_lt oy1) (Nat.pow_le_pow_right (by decide) ly1)⟩
  have KB := Aside0.mk hxb
  have Ko0 := Aside0.mk ho0
  clear hW0 hx0 hx1 hy0 hy1 hp0 hq0 hMM hhh ox0 ox1 oy0 oy1 e0 e1 etot hLL hlt hxb ho0 lx0 lx1 ly0 ly1 hpl hql hmk hmax hmaxN hmin hminN d1 d2 eh
  obtain ⟨K, hK⟩ : ∃ K, K = 3000000000000 + 1000000 := ⟨_, rfl⟩
  obtain ⟨zl, hzl⟩ : ∃ z, z = YtnngdlehakcdlaaV.toL (YtnngdlehakcdlaaV.val x0 * YtnngdlehakcdlaaV.val y0) := ⟨_, rfl⟩
  obtain ⟨zh, hzh⟩ : ∃ z, z = YtnngdlehakcdlaaV.toL (YtnngdlehakcdlaaV.val x1 * YtnngdlehakcdlaaV.val y1) := ⟨_, rfl⟩
  obtain ⟨zm, hzm⟩ : ∃ z, z = YtnngdlehakcdlaaV.toL (YtnngdlehakcdlaaV.val x0 * YtnngdlehakcdlaaV.val y1) := ⟨_, rfl⟩
  obtain ⟨zn, hzn⟩ : ∃ z, z = YtnngdlehakcdlaaV.toL (YtnngdlehakcdlaaV.val x1 * YtnngdlehakcdlaaV.val y0) := ⟨_, rfl⟩
  have Kzl := Aside0.mk hzl
  have Kzh := Aside0.mk hzh
  have Kzm := Aside0.mk hzm
  have Kzn := Aside0.mk hzn
  have KK := Aside0.mk hK
  clear hzl hzh hzm hzn hK
  have hzl := KI.out A0 p0 x0 A1 q0 y0 W0 KL.out.1 KL.out.2.2.1 KO.out.1 KO.out.2.2.1 (KC.out.1 W0 S0.out.below) KP.out.1 (KC.out.2.2.1 W0 S0.out.below) KP.out.2
  rw [← Kzl.out] at hzl
  refine hzl.mono ?_
  clear hzl
  rintro e W1 ⟨vzl, rfl, hRzl, hBzl⟩
  obtain ⟨Azl, czl, rfl⟩ := Kd.R_slice hRzl
  have Szl := Aside0.mk (S0.out.call hBzl)
  have Bzl := Aside0.mk hBzl
  have Rzl := Aside0.mk (Kd.R_mono (Kd.R_bound (Kd.R_lower hRzl S0.out.size)) (ok' := fun k => w.heap.size + 2 ≤ k) (fun k hk => hk.2.1))
  clear hRzl hBzl
  go_wp2_with fail
  have hzh := KI.out A2 c2 x1 A3 c3 y1 W1 KL.out.2.1 KL.out.2.2.2 KO.out.2.1 KO.out.2.2.2 (KC.out.2.1 W1 Szl.out.below) K2.out.2 (KC.out.2.2.2 W1 Szl.out.below) K3.out.2
  rw [← Kzh.out] at hzh
  refine hzh.mono ?_
  clear hzh
  rintro e W2 ⟨vzh, rfl, hRzh, hBzh⟩
  obtain ⟨Azh, czh, rfl⟩ := Kd.R_slice hRzh
  have Szh := Aside0.mk (Szl.out.call hBzh)
  have Bzh := Aside0.mk hBzh
  have Rzh := Aside0.mk (Kd.R_mono (Kd.R_bound (Kd.R_lower hRzh Szl.out.size)) (ok' := fun k => w.heap.size + 2 ≤ k) (fun k hk => hk.2.1))
  have Rzl2 := Aside0.mk (Kd.R_below Rzl.out hBzh)
  clear hRzh hBzh
  go_wp2_with fail
  have hbd : YtnngdlehakcdlaaV.val x0 * YtnngdlehakcdlaaV.val y0 + YtnngdlehakcdlaaV.B ^ (2 * h) * (YtnngdlehakcdlaaV.val x1 * YtnngdlehakcdlaaV.val y1) + YtnngdlehakcdlaaV.B ^ h * (YtnngdlehakcdlaaV.val x0 * YtnngdlehakcdlaaV.val y1) + YtnngdlehakcdlaaV.B ^ h * (YtnngdlehakcdlaaV.val x1 * YtnngdlehakcdlaaV.val y0) < YtnngdlehakcdlaaV.B ^ L := by rw [← KT.out.1]; exact KT.out.2.1
  have Kbd := Aside0.mk hbd
  clear hbd
  have Fr0 : Aside0 (YtnngdlehakcdlaaV.ok out0 = true ∧ out0.length = L ∧ YtnngdlehakcdlaaV.val out0 = 0) := by rw [Ko0.out]; exact ⟨⟨zeros_ok _, by simp, zeros_val _⟩⟩
  obtain ⟨r1, r1e, r1o, r1l, r1v⟩ := piece (out := out0) (h := 0) (v := YtnngdlehakcdlaaV.val x0 * YtnngdlehakcdlaaV.val y0) (L := L) (k := K) Fr0.out.1 Fr0.out.2.1 KT.out.2.2.2.2 (by have := KK.out; omega) (by omega) (by rw [Fr0.out.2.2, Nat.pow_zero, Nat.one_mul, Nat.zero_add]; have := Kbd.out; omega)
  rw [← Kzl.out] at r1e
  have hp := Szh.out.put (k := K) (at_ := 0) (row_C' Rzl2.out (fun k hk => by have h_ : w.heap.size + 2 ≤ k := hk; omega)) (Kd.R_reads' Rzl2.out).2.1 r1e r1l
  rw [show ((0 : Nat) : Int) = 0 from by first | rfl | omega] at hp
  clear r1e
  refine hp.mono ?_
  clear hp
  rintro e W3 ⟨rfl, hS_, hk_⟩
  have SW3 := Aside0.mk hS_
  have Rzl2_13 := Aside0.mk (row_kept Rzl2.out hk_ (by omega))
  have Rzh_14 := Aside0.mk (row_kept Rzh.out hk_ (by omega))
  have Fr1 := Aside0.mk (And.intro r1o (And.intro r1l r1v))
  clear r1o r1l r1v hS_ hk_
  have v1 : Aside0 (YtnngdlehakcdlaaV.val r1 = YtnngdlehakcdlaaV.val x0 * YtnngdlehakcdlaaV.val y0) := ⟨by rw [Fr1.out.2.2, Fr0.out.2.2]; simp⟩
  go_wp2_with fail
  obtain ⟨r2, r2e, r2o, r2l, r2v⟩ := piece (out := r1) (h := (2 * h)) (v := YtnngdlehakcdlaaV.val x1 * YtnngdlehakcdlaaV.val y1) (L := L) (k := K) Fr1.out.1 Fr1.out.2.1 KT.out.2.2.2.2 (by have := KK.out; omega) KT.out.2.2.2.1 (by rw [v1.out]; have := Kbd.out; omega)
  rw [← Kzh.out] at r2e
  have hp := SW3.out.put (k := K) (at_ := (2 * h)) (row_C' Rzh_14.out (fun k hk => by have h_ : w.heap.size + 2 ≤ k := hk; omega)) (Kd.R_reads' Rzh_14.out).2.1 r2e r2l
  rw [show (((2 * h) : Nat) : Int) = 2 * (h : Int) from by first | rfl | omega] at hp
  clear r2e
  refine hp.mono ?_
  clear hp
  rintro e W4 ⟨rfl, hS_, hk_⟩
  have SW4 := Aside0.mk hS_
  have Rzl2_28 := Aside0.mk (row_kept Rzl2_13.out hk_ (by omega))
  have Rzh_29 := Aside0.mk (row_kept Rzh_14.out hk_ (by omega))
  have Fr2 := Aside0.mk (And.intro r2o (And.intro r2l r2v))
  clear r2o r2l r2v hS_ hk_
  have v2 : Aside0 (YtnngdlehakcdlaaV.val r2 = YtnngdlehakcdlaaV.val x0 * YtnngdlehakcdlaaV.val y0 + YtnngdlehakcdlaaV.B ^ (2 * h) * (YtnngdlehakcdlaaV.val x1 * YtnngdlehakcdlaaV.val y1)) := ⟨by rw [Fr2.out.2.2, v1.out]⟩
  by_cases e1 : x1.length = 0
  · have d1 : ((x1.length : Int) == 0) = true := beq_iff_eq.2 (by omega)
    have d2 : (x1.length == 0) = true := beq_iff_eq.2 e1
    have Ke1 := Aside0.mk e1
    clear e1
    go_wp2_with fail
    clear d1 d2
    have hzm := KI.out A0 p0 x0 A3 c3 y1 W4 KL.out.1 KL.out.2.2.2 KO.out.1 KO.out.2.2.2 (KC.out.1 W4 SW4.out.below) KP.out.1 (KC.out.2.2.2 W4 SW4.out.below) K3.out.2
    rw [← Kzm.out] at hzm
    refine hzm.mono ?_
    clear hzm
    rintro e W5 ⟨vzm, rfl, hRzm, hBzm⟩
    obtain ⟨Azm, czm, rfl⟩ := Kd.R_slice hRzm
    have Szm := Aside0.mk (SW4.out.call hBzm)
    have Rzm := Aside0.mk (Kd.R_mono (Kd.R_bound (Kd.R_lower hRzm SW4.out.size)) (ok' := fun k => w.heap.size + 2 ≤ k) (fun k hk => hk.2.1))
    have Rzl2_14 := Aside0.mk (Kd.R_below Rzl2_28.out hBzm)
    have Rzh_15 := Aside0.mk (Kd.R_below Rzh_29.out hBzm)
    have Bzm := Aside0.mk hBzm
    have Qzm := Aside0.mk hRzm
    clear hRzm hBzm
    go_wp2_with fail
    obtain ⟨r3, r3e, r3o, r3l, r3v⟩ := piece (out := r2) (h := h) (v := YtnngdlehakcdlaaV.val x0 * YtnngdlehakcdlaaV.val y1) (L := L) (k := K) Fr2.out.1 Fr2.out.2.1 KT.out.2.2.2.2 (by have := KK.out; omega) KT.out.2.2.1 (by rw [v2.out]; have := Kbd.out; omega)
    rw [← Kzm.out] at r3e
    have hp := Szm.out.put (k := K) (at_ := h) (row_C' Rzm.out (fun k hk => by have h_ : w.heap.size + 2 ≤ k := hk; omega)) (Kd.R_reads' Rzm.out).2.1 r3e r3l
    rw [show ((h : Nat) : Int) = (h : Int) from by first | rfl | omega] at hp
    clear r3e
    refine hp.mono ?_
    clear hp
    rintro e W6 ⟨rfl, hS_, hk_⟩
    have SW6 := Aside0.mk hS_
    have Rzl2_29 := Aside0.mk (row_kept Rzl2_14.out hk_ (by omega))
    have Rzh_30 := Aside0.mk (row_kept Rzh_15.out hk_ (by omega))
    have Rzm_31 := Aside0.mk (row_kept Rzm.out hk_ (by omega))
    have Fr3 := Aside0.mk (And.intro r3o (And.intro r3l r3v))
    clear r3o r3l r3v hS_ hk_
    have v3 : Aside0 (YtnngdlehakcdlaaV.val r3 = YtnngdlehakcdlaaV.val x0 * YtnngdlehakcdlaaV.val y0 + YtnngdlehakcdlaaV.B ^ (2 * h) * (YtnngdlehakcdlaaV.val x1 * YtnngdlehakcdlaaV.val y1) + YtnngdlehakcdlaaV.B ^ h * (YtnngdlehakcdlaaV.val x0 * YtnngdlehakcdlaaV.val y1)) := ⟨by rw [Fr3.out.2.2, v2.out]⟩
    go_wp2_with fail
    have hzn := KI.out A2 c2 x1 A1 q0 y0 W6 KL.out.2.1 KL.out.2.2.1 KO.out.2.1 KO.out.2.2.1 (KC.out.2.1 W6 SW6.out.below) K2.out.2 (KC.out.2.2.1 W6 SW6.out.below) KP.out.2
    rw [← Kzn.out] at hzn
    refine hzn.mono ?_
    clear hzn
    rintro e W7 ⟨vzn, rfl, hRzn, hBzn⟩
    obtain ⟨Azn, czn, rfl⟩ := Kd.R_slice hRzn
    have Szn := Aside0.mk (SW6.out.call hBzn)
    have Rzn := Aside0.mk (Kd.R_mono (Kd.R_bound (Kd.R_lower hRzn SW6.out.size)) (ok' := fun k => w.heap.size + 2 ≤ k) (fun k hk => hk.2.1))
    have Rzl2_44 := Aside0.mk (Kd.R_below Rzl2_29.out hBzn)
    have Rzh_45 := Aside0.mk (Kd.R_below Rzh_30.out hBzn)
    have Rzm_46 := Aside0.mk (Kd.R_below Rzm_31.out hBzn)
    have Bzn := Aside0.mk hBzn
    have Qzn := Aside0.mk hRzn
    clear hRzn hBzn
    go_wp2_with fail
    obtain ⟨r4, r4e, r4o, r4l, r4v⟩ := piece (out := r3) (h := h) (v := YtnngdlehakcdlaaV.val x1 * YtnngdlehakcdlaaV.val y0) (L := L) (k := K) Fr3.out.1 Fr3.out.2.1 KT.out.2.2.2.2 (by have := KK.out; omega) KT.out.2.2.1 (by rw [v3.out]; exact Kbd.out)
    rw [← Kzn.out] at r4e
    have hp := Szn.out.put (k := K) (at_ := h) (row_C' Rzn.out (fun k hk => by have h_ : w.heap.size + 2 ≤ k := hk; omega)) (Kd.R_reads' Rzn.out).2.1 r4e r4l
    rw [show ((h : Nat) : Int) = (h : Int) from by first | rfl | omega] at hp
    clear r4e
    refine hp.mono ?_
    clear hp
    rintro e W8 ⟨rfl, hS_, hk_⟩
    have SW8 := Aside0.mk hS_
    have Rzl2_60 := Aside0.mk (row_kept Rzl2_44.out hk_ (by omega))
    have Rzh_61 := Aside0.mk (row_kept Rzh_45.out hk_ (by omega))
    have Rzm_62 := Aside0.mk (row_kept Rzm_46.out hk_ (by omega))
    have Rzn_63 := Aside0.mk (row_kept Rzn.out hk_ (by omega))
    have Fr4 := Aside0.mk (And.intro r4o (And.intro r4l r4v))
    clear r4o r4l r4v hS_ hk_
    have vT : Aside0 (YtnngdlehakcdlaaV.val r4 = YtnngdlehakcdlaaV.val x0 * YtnngdlehakcdlaaV.val y0 + YtnngdlehakcdlaaV.B ^ (2 * h) * (YtnngdlehakcdlaaV.val x1 * YtnngdlehakcdlaaV.val y1) + YtnngdlehakcdlaaV.B ^ h * (YtnngdlehakcdlaaV.val x0 * YtnngdlehakcdlaaV.val y1) + YtnngdlehakcdlaaV.B ^ h * (YtnngdlehakcdlaaV.val x1 * YtnngdlehakcdlaaV.val y0)) := ⟨by rw [Fr4.out.2.2, v3.out]⟩
    have hc_ := SW8.out.box.cell
    go_wp2_with fail
    refine (mul_trim.calls K (fun k => k = w.heap.size) (.slice (some ⟨w.heap.size, 0, none⟩) L L) r4 (YtnngdlehakcdlaaV.strip r4) w W8 SW8.out.below SW8.out.row (trim_f (by have := KK.out; have := Fr4.out.2.1; have := KT.out.2.2.2.2; omega) (by have := Fr4.out.2.1; have := KT.out.2.2.2.2; omega))).mono ?_
    clear hc_
    rintro e Wf ⟨vf, rfl, hRf, hBf, -⟩
    have Kf := Aside0.mk (And.intro hRf hBf)
    clear hRf hBf
    go_wp2
    go_ret
    refine ⟨vf, rfl, ?_, Kf.out.2⟩
    rw [show YtnngdlehakcdlaaV.toL (YtnngdlehakcdlaaV.val l0 * YtnngdlehakcdlaaV.val l1) = YtnngdlehakcdlaaV.strip r4 by rw [YtnngdlehakcdlaaV.strip_toL Fr4.out.1, KT.out.1, vT.out]]
    exact Kd.R_mono Kf.out.1 (fun _ _ => trivial)
  · have d1 : ((x1.length : Int) == 0) = false := beq_eq_false_iff_ne.2 (by omega)
    have d2 : (x1.length == 0) = false := beq_eq_false_iff_ne.2 e1
    by_cases e2 : y1.length = 0
    · have d3 : ((y1.length : Int) == 0) = true := beq_iff_eq.2 (by omega)
      have d4 : (y1.length == 0) = true := beq_iff_eq.2 e2
      have Ke1 := Aside0.mk (And.intro e1 e2)
      clear e1 e2
      go_wp2_with fail
      clear d1 d2 d3 d4
      have hzm := KI.out A0 p0 x0 A3 c3 y1 W4 KL.out.1 KL.out.2.2.2 KO.out.1 KO.out.2.2.2 (KC.out.1 W4 SW4.out.below) KP.out.1 (KC.out.2.2.2 W4 SW4.out.below) K3.out.2
      rw [← Kzm.out] at hzm
      refine hzm.mono ?_
      clear hzm
      rintro e W5 ⟨vzm, rfl, hRzm, hBzm⟩
      obtain ⟨Azm, czm, rfl⟩ := Kd.R_slice hRzm
      have Szm := Aside0.mk (SW4.out.call hBzm)
      have Rzm := Aside0.mk (Kd.R_mono (Kd.R_bound (Kd.R_lower hRzm SW4.out.size)) (ok' := fun k => w.heap.size + 2 ≤ k) (fun k hk => hk.2.1))
      have Rzl2_14 := Aside0.mk (Kd.R_below Rzl2_28.out hBzm)
      have Rzh_15 := Aside0.mk (Kd.R_below Rzh_29.out hBzm)
      have Bzm := Aside0.mk hBzm
      have Qzm := Aside0.mk hRzm
      clear hRzm hBzm
      go_wp2_with fail
      obtain ⟨r3, r3e, r3o, r3l, r3v⟩ := piece (out := r2) (h := h) (v := YtnngdlehakcdlaaV.val x0 * YtnngdlehakcdlaaV.val y1) (L := L) (k := K) Fr2.out.1 Fr2.out.2.1 KT.out.2.2.2.2 (by have := KK.out; omega) KT.out.2.2.1 (by rw [v2.out]; have := Kbd.out; omega)
      rw [← Kzm.out] at r3e
      have hp := Szm.out.put (k := K) (at_ := h) (row_C' Rzm.out (fun k hk => by have h_ : w.heap.size + 2 ≤ k := hk; omega)) (Kd.R_reads' Rzm.out).2.1 r3e r3l
      rw [show ((h : Nat) : Int) = (h : Int) from by first | rfl | omega] at hp
      clear r3e
      refine hp.mono ?_
      clear hp
      rintro e W6 ⟨rfl, hS_, hk_⟩
      have SW6 := Aside0.mk hS_
      have Rzl2_29 := Aside0.mk (row_kept Rzl2_14.out hk_ (by omega))
      have Rzh_30 := Aside0.mk (row_kept Rzh_15.out hk_ (by omega))
      have Rzm_31 := Aside0.mk (row_kept Rzm.out hk_ (by omega))
      have Fr3 := Aside0.mk (And.intro r3o (And.intro r3l r3v))
      clear r3o r3l r3v hS_ hk_
      have v3 : Aside0 (YtnngdlehakcdlaaV.val r3 = YtnngdlehakcdlaaV.val x0 * YtnngdlehakcdlaaV.val y0 + YtnngdlehakcdlaaV.B ^ (2 * h) * (YtnngdlehakcdlaaV.val x1 * YtnngdlehakcdlaaV.val y1) + YtnngdlehakcdlaaV.B ^ h * (YtnngdlehakcdlaaV.val x0 * YtnngdlehakcdlaaV.val y1)) := ⟨by rw [Fr3.out.2.2, v2.out]⟩
      go_wp2_with fail
      have hzn := KI.out A2 c2 x1 A1 q0 y0 W6 KL.out.2.1 KL.out.2.2.1 KO.out.2.1 KO.out.2.2.1 (KC.out.2.1 W6 SW6.out.below) K2.out.2 (KC.out.2.2.1 W6 SW6.out.below) KP.out.2
      rw [← Kzn.out] at hzn
      refine hzn.mono ?_
      clear hzn
      rintro e W7 ⟨vzn, rfl, hRzn, hBzn⟩
      obtain ⟨Azn, czn, rfl⟩ := Kd.R_slice hRzn
      have Szn := Aside0.mk (SW6.out.call hBzn)
      have Rzn := Aside0.mk (Kd.R_mono (Kd.R_bound (Kd.R_lower hRzn SW6.out.size)) (ok' := fun k => w.heap.size + 2 ≤ k) (fun k hk => hk.2.1))
      have Rzl2_44 := Aside0.mk (Kd.R_below Rzl2_29.out hBzn)
      have Rzh_45 := Aside0.mk (Kd.R_below Rzh_30.out hBzn)
      have Rzm_46 := Aside0.mk (Kd.R_below Rzm_31.out hBzn)
      have Bzn := Aside0.mk hBzn
      have Qzn := Aside0.mk hRzn
      clear hRzn hBzn
      go_wp2_with fail
      obtain ⟨r4, r4e, r4o, r4l, r4v⟩ := piece (out := r3) (h := h) (v := YtnngdlehakcdlaaV.val x1 * YtnngdlehakcdlaaV.val y0) (L := L) (k := K) Fr3.out.1 Fr3.out.2.1 KT.out.2.2.2.2 (by have := KK.out; omega) KT.out.2.2.1 (by rw [v3.out]; exact Kbd.out)
      rw [← Kzn.out] at r4e
      have hp := Szn.out.put (k := K) (at_ := h) (row_C' Rzn.out (fun k hk => by have h_ : w.heap.size + 2 ≤ k := hk; omega)) (Kd.R_reads' Rzn.out).2.1 r4e r4l
      rw [show ((h : Nat) : Int) = (h : Int) from by first | rfl | omega] at hp
      clear r4e
      refine hp.mono ?_
      clear hp
      rintro e W8 ⟨rfl, hS_, hk_⟩
      have SW8 := Aside0.mk hS_
      have Rzl2_60 := Aside0.mk (row_kept Rzl2_44.out hk_ (by omega))
      have Rzh_61 := Aside0.mk (row_kept Rzh_45.out hk_ (by omega))
      have Rzm_62 := Aside0.mk (row_kept Rzm_46.out hk_ (by omega))
      have Rzn_63 := Aside0.mk (row_kept Rzn.out hk_ (by omega))
      have Fr4 := Aside0.mk (And.intro r4o (And.intro r4l r4v))
      clear r4o r4l r4v hS_ hk_
      have vT : Aside0 (YtnngdlehakcdlaaV.val r4 = YtnngdlehakcdlaaV.val x0 * YtnngdlehakcdlaaV.val y0 + YtnngdlehakcdlaaV.B ^ (2 * h) * (YtnngdlehakcdlaaV.val x1 * YtnngdlehakcdlaaV.val y1) + YtnngdlehakcdlaaV.B ^ h * (YtnngdlehakcdlaaV.val x0 * YtnngdlehakcdlaaV.val y1) + YtnngdlehakcdlaaV.B ^ h * (YtnngdlehakcdlaaV.val x1 * YtnngdlehakcdlaaV.val y0)) := ⟨by rw [Fr4.out.2.2, v3.out]⟩
      have hc_ := SW8.out.box.cell
      go_wp2_with fail
      refine (mul_trim.calls K (fun k => k = w.heap.size) (.slice (some ⟨w.heap.size, 0, none⟩) L L) r4 (YtnngdlehakcdlaaV.strip r4) w W8 SW8.out.below SW8.out.row (trim_f (by have := KK.out; have := Fr4.out.2.1; have := KT.out.2.2.2.2; omega) (by have := Fr4.out.2.1; have := KT.out.2.2.2.2; omega))).mono ?_
      clear hc_
      rintro e Wf ⟨vf, rfl, hRf, hBf, -⟩
      have Kf := Aside0.mk (And.intro hRf hBf)
      clear hRf hBf
      go_wp2
      go_ret
      refine ⟨vf, rfl, ?_, Kf.out.2⟩
      rw [show YtnngdlehakcdlaaV.toL (YtnngdlehakcdlaaV.val l0 * YtnngdlehakcdlaaV.val l1) = YtnngdlehakcdlaaV.strip r4 by rw [YtnngdlehakcdlaaV.strip_toL Fr4.out.1, KT.out.1, vT.out]]
      exact Kd.R_mono Kf.out.1 (fun _ _ => trivial)
    · have d3 : ((y1.length : Int) == 0) = false := beq_eq_false_iff_ne.2 (by omega)
      have d4 : (y1.length == 0) = false := beq_eq_false_iff_ne.2 e2
      have Ke1 := Aside0.mk (And.intro e1 e2)
      clear e1 e2
      go_wp2_with fail
      clear d1 d2 d3 d4
      obtain ⟨zs, hzs⟩ : ∃ z, z = YtnngdlehakcdlaaV.toL (YtnngdlehakcdlaaV.val x0 + YtnngdlehakcdlaaV.val x1) := ⟨_, rfl⟩
      obtain ⟨zt, hzt⟩ : ∃ z, z = YtnngdlehakcdlaaV.toL (YtnngdlehakcdlaaV.val y0 + YtnngdlehakcdlaaV.val y1) := ⟨_, rfl⟩
      have ls : zs.length ≤ h + 1 := by rw [hzs, YtnngdlehakcdlaaV.toL_length_le, Nat.pow_succ]; have := KB.out; generalize YtnngdlehakcdlaaV.B ^ h = P at *; simp only [YtnngdlehakcdlaaV.B]; omega
      have lt : zt.length ≤ h + 1 := by rw [hzt, YtnngdlehakcdlaaV.toL_length_le, Nat.pow_succ]; have := KB.out; generalize YtnngdlehakcdlaaV.B ^ h = P at *; simp only [YtnngdlehakcdlaaV.B]; omega
      have Kzs := Aside0.mk (And.intro hzs ls)
      have Kzt := Aside0.mk (And.intro hzt lt)
      clear hzs hzt ls lt
      have hszs := mul_sum.calls K A0 p0 x0 A2 c2 x1 _ W4 (KC.out.1 W4 SW4.out.below) KP.out.1 (KC.out.2.1 W4 SW4.out.below) K2.out.2 (sum_f KO.out.1 KO.out.2.1 (by have := KL.out.1; omega) (by have := KL.out.2.1; omega) (by have := KK.out; omega))
      rw [← Kzs.out.1] at hszs
      refine hszs.mono ?_
      clear hszs
      rintro e W5 ⟨vzs, rfl, hRzs, hBzs⟩
      obtain ⟨Azs, czs, rfl⟩ := Kd.R_slice hRzs
      have Szs := Aside0.mk (SW4.out.call hBzs)
      have Rzs := Aside0.mk (Kd.R_mono (Kd.R_bound (Kd.R_lower hRzs SW4.out.size)) (ok' := fun k => w.heap.size + 2 ≤ k) (fun k hk => hk.2.1))
      have Rzl2_21 := Aside0.mk (Kd.R_below Rzl2_28.out hBzs)
      have Rzh_22 := Aside0.mk (Kd.R_below Rzh_29.out hBzs)
      have Bzs := Aside0.mk hBzs
      have Qzs := Aside0.mk hRzs
      clear hRzs hBzs
      go_wp2_with fail
      have hszt := mul_sum.calls K A1 q0 y0 A3 c3 y1 _ W5 (KC.out.2.2.1 W5 Szs.out.below) KP.out.2 (KC.out.2.2.2 W5 Szs.out.below) K3.out.2 (sum_f KO.out.2.2.1 KO.out.2.2.2 (by have := KL.out.2.2.1; omega) (by have := KL.out.2.2.2; omega) (by have := KK.out; omega))
      rw [← Kzt.out.1] at hszt
      refine hszt.mono ?_
      clear hszt
      rintro e W6 ⟨vzt, rfl, hRzt, hBzt⟩
      obtain ⟨Azt, czt, rfl⟩ := Kd.R_slice hRzt
      have Szt := Aside0.mk (Szs.out.call hBzt)
      have Rzt := Aside0.mk (Kd.R_mono (Kd.R_bound (Kd.R_lower hRzt Szs.out.size)) (ok' := fun k => w.heap.size + 2 ≤ k) (fun k hk => hk.2.1))
      have Rzl2_35 := Aside0.mk (Kd.R_below Rzl2_21.out hBzt)
      have Rzh_36 := Aside0.mk (Kd.R_below Rzh_22.out hBzt)
      have Rzs_37 := Aside0.mk (Kd.R_below Rzs.out hBzt)
      have Bzt := Aside0.mk hBzt
      have Qzt := Aside0.mk hRzt
      clear hRzt hBzt
      go_wp2_with fail
      obtain ⟨zq, hzq⟩ : ∃ z, z = YtnngdlehakcdlaaV.toL ((YtnngdlehakcdlaaV.val x0 + YtnngdlehakcdlaaV.val x1) * (YtnngdlehakcdlaaV.val y0 + YtnngdlehakcdlaaV.val y1)) := ⟨_, rfl⟩
      have Kzq := Aside0.mk hzq
      clear hzq
      have ezq : YtnngdlehakcdlaaV.toL (YtnngdlehakcdlaaV.val zs * YtnngdlehakcdlaaV.val zt) = zq := by rw [Kzs.out.1, Kzt.out.1, YtnngdlehakcdlaaV.val_toL, YtnngdlehakcdlaaV.val_toL, ← Kzq.out]
      have LTzl := Aside0.mk (Kd.R_lt Rzl2_35.out)
      have LTzh := Aside0.mk (Kd.R_lt Rzh_36.out)
      have GS := Aside0.mk Szt.out.size
      have hzq := KI.out Azs czs zs Azt czt zt W6 Kzs.out.2 Kzt.out.2 (by rw [Kzs.out.1]; exact YtnngdlehakcdlaaV.toL_ok _) (by rw [Kzt.out.1]; exact YtnngdlehakcdlaaV.toL_ok _) (Kd.R_reads' Rzs_37.out).2.2 (Kd.R_reads' Rzs_37.out).2.1 (Kd.R_reads' Rzt.out).2.2 (Kd.R_reads' Rzt.out).2.1
      rw [ezq] at hzq
      refine hzq.mono ?_
      clear hzq
      rintro e W7 ⟨vzq, rfl, hRzq, hBzq⟩
      obtain ⟨Azq, czq, rfl⟩ := Kd.R_slice hRzq
      have Szq := Aside0.mk (Szt.out.call hBzq)
      have Rzq := Aside0.mk (Kd.R_mono (Kd.R_bound (Kd.R_lower hRzq Szt.out.size)) (ok' := fun k => w.heap.size + 2 ≤ k) (fun k hk => hk.2.1))
      have Rzl2_57 := Aside0.mk (Kd.R_below Rzl2_35.out hBzq)
      have Rzh_58 := Aside0.mk (Kd.R_below Rzh_36.out hBzq)
      have Rzs_59 := Aside0.mk (Kd.R_below Rzs_37.out hBzq)
      have Rzt_60 := Aside0.mk (Kd.R_below Rzt.out hBzq)
      have Bzq := Aside0.mk hBzq
      have Qzq := Aside0.mk hRzq
      clear hRzq hBzq
      clear ezq
      have lzq : zq.length ≤ 2 * h + 2 := by rw [Kzq.out, YtnngdlehakcdlaaV.toL_length_le, show 2 * h + 2 = (h + 1) + (h + 1) by omega]; refine mul_lt_pow ?_ ?_ <;> (rw [Nat.pow_succ]; have := KB.out; generalize YtnngdlehakcdlaaV.B ^ h = P at *; simp only [YtnngdlehakcdlaaV.B]; omega)
      obtain ⟨s1, s2, s1e, s2e, s1l, s2l, s2o, s2v⟩ := mid_f (a0 := YtnngdlehakcdlaaV.val x0) (a1 := YtnngdlehakcdlaaV.val x1) (b0 := YtnngdlehakcdlaaV.val y0) (b1 := YtnngdlehakcdlaaV.val y1) (k := K) (L := 1000000) (by have := KK.out; omega) (by omega) (by rw [← Kzq.out]; omega)
      rw [← Kzq.out, ← Kzl.out] at s1e
      rw [← Kzh.out] at s2e
      rw [← Kzq.out] at s1l
      have Qm := Aside0.mk (Kd.R_mono (Kd.R_bound Qzq.out) (ok' := fun k => W6.heap.size ≤ k) (fun k hk => hk.2.1))
      have Kl1 := Aside0.mk (mul_less.calls K (fun k => W6.heap.size ≤ k) (.slice Azq zq.length czq) zq Azl czl zl s1 w W7 Szq.out.below (Kd.R_lower Qm.out (by have := GS.out; omega)) (fun W_ hk_ => (Kd.R_reads' (row_kept2 Rzl2_57.out hk_ (.inr LTzl.out))).2.2) (Kd.R_reads' Rzl2_57.out).2.1 s1e)
      have KS := Aside0.mk (And.intro s1l (And.intro s2l (And.intro s2o s2v)))
      clear s1e s1l s2l s2o s2v lzq
      have Ks2e := Aside0.mk s2e
      clear s2e
      go_wp2_with fail
      refine Kl1.out.mono ?_
      rintro e W8 ⟨rfl, hR_, hB_, hk_⟩
      have Q8 := Aside0.mk (Kd.R_mono hR_ (ok' := fun k => W6.heap.size ≤ k) (fun k hk => hk.elim id (fun h_ => Nat.le_trans Bzq.out.size h_)))
      have S8 := Aside0.mk (Szq.out.kept hB_ hk_ GS.out)
      have R8 := Aside0.mk (row_kept2 Rzh_58.out hk_ (.inr LTzh.out))
      have L8 := Aside0.mk (Nat.le_trans Bzq.out.size hk_.1)
      clear hR_ hB_ hk_ Kl1
      have e8 := KS.out.1
      rw [← e8] at Q8
      have Kl2 := Aside0.mk (mul_less.calls K (fun k => W6.heap.size ≤ k) (.slice Azq s1.length czq) s1 Azh czh zh s2 w W8 S8.out.below Q8.out (fun W_ hk_ => (Kd.R_reads' (row_kept2 R8.out hk_ (.inr LTzh.out))).2.2) (Kd.R_reads' R8.out).2.1 Ks2e.out)
      rw [e8] at Kl2
      clear e8
      go_wp2_with fail
      refine Kl2.out.mono ?_
      rintro e W9 ⟨rfl, hR_, hB_, hk_⟩
      have Q9 := Aside0.mk (Kd.R_mono hR_ (ok' := fun k => W6.heap.size ≤ k) (fun k hk => hk.elim id (fun h_ => Nat.le_trans L8.out h_)))
      have S9 := Aside0.mk (S8.out.kept hB_ hk_ GS.out)
      have L9 := Aside0.mk (Nat.le_trans L8.out hk_.1)
      clear hR_ hB_ hk_ Kl2
      have Kl3 := Aside0.mk (mul_trim.calls K (fun k => W6.heap.size ≤ k) (.slice Azq zq.length czq) s2 (YtnngdlehakcdlaaV.strip s2) w W9 S9.out.below Q9.out (trim_f (by have := KK.out; have := KS.out.1; have := KS.out.2.1; have := (Kd.R_reads' Qzq.out).2.2.2.1; have h9 : zq.length ≤ 2 * h + 2 := (by rw [Kzq.out, YtnngdlehakcdlaaV.toL_length_le, show 2 * h + 2 = (h + 1) + (h + 1) by omega]; refine mul_lt_pow ?_ ?_ <;> (rw [Nat.pow_succ]; have := KB.out; generalize YtnngdlehakcdlaaV.B ^ h = P at *; simp only [YtnngdlehakcdlaaV.B]; omega)); omega) (by have := KS.out.1; have := KS.out.2.1; have h9 : zq.length ≤ 2 * h + 2 := (by rw [Kzq.out, YtnngdlehakcdlaaV.toL_length_le, show 2 * h + 2 = (h + 1) + (h + 1) by omega]; refine mul_lt_pow ?_ ?_ <;> (rw [Nat.pow_succ]; have := KB.out; generalize YtnngdlehakcdlaaV.B ^ h = P at *; simp only [YtnngdlehakcdlaaV.B]; omega)); omega)))
      have e9 : Aside0 (YtnngdlehakcdlaaV.strip s2 = YtnngdlehakcdlaaV.toL (YtnngdlehakcdlaaV.val x0 * YtnngdlehakcdlaaV.val y1 + YtnngdlehakcdlaaV.val x1 * YtnngdlehakcdlaaV.val y0)) := ⟨by rw [YtnngdlehakcdlaaV.strip_toL KS.out.2.2.1, KS.out.2.2.2]⟩
      obtain ⟨zr, hzr⟩ : ∃ z, z = YtnngdlehakcdlaaV.strip s2 := ⟨_, rfl⟩
      rw [← hzr] at Kl3 e9
      clear hzr
      go_wp2_with fail
      refine Kl3.out.mono ?_
      rintro e W10 ⟨vr, rfl, hR_, hB_, hk_⟩
      have Q10 := Aside0.mk (Kd.R_mono hR_ (ok' := fun k => W6.heap.size ≤ k) (fun k hk => hk.elim id (fun h_ => Nat.le_trans L9.out h_)))
      have S10 := Aside0.mk (S9.out.kept hB_ hk_ GS.out)
      obtain ⟨Azr, czr, rfl⟩ := Kd.R_slice hR_
      clear hR_ hB_ hk_ Kl3
      have Rzr := Aside0.mk (Kd.R_mono Q10.out (ok' := fun k => w.heap.size + 2 ≤ k) (fun k hk => Nat.le_trans GS.out hk))
      go_wp2_with fail
      obtain ⟨r3, r3e, r3o, r3l, r3v⟩ := piece (out := r2) (h := h) (v := YtnngdlehakcdlaaV.val x0 * YtnngdlehakcdlaaV.val y1 + YtnngdlehakcdlaaV.val x1 * YtnngdlehakcdlaaV.val y0) (L := L) (k := K) Fr2.out.1 Fr2.out.2.1 KT.out.2.2.2.2 (by have := KK.out; omega) KT.out.2.2.1 (by rw [v2.out, Nat.mul_add, ← Nat.add_assoc]; exact Kbd.out)
      rw [← e9.out] at r3e
      have hp := S10.out.put (k := K) (at_ := h) (row_C' Rzr.out (fun k hk => by have h_ : w.heap.size + 2 ≤ k := hk; omega)) (Kd.R_reads' Rzr.out).2.1 r3e r3l
      clear r3e
      refine hp.mono ?_
      clear hp
      rintro e W11 ⟨rfl, hS_, -⟩
      have SW11 := Aside0.mk hS_
      have Fr3 := Aside0.mk (And.intro r3o (And.intro r3l r3v))
      clear r3o r3l r3v hS_
      have vT : Aside0 (YtnngdlehakcdlaaV.val r3 = YtnngdlehakcdlaaV.val x0 * YtnngdlehakcdlaaV.val y0 + YtnngdlehakcdlaaV.B ^ (2 * h) * (YtnngdlehakcdlaaV.val x1 * YtnngdlehakcdlaaV.val y1) + YtnngdlehakcdlaaV.B ^ h * (YtnngdlehakcdlaaV.val x0 * YtnngdlehakcdlaaV.val y1) + YtnngdlehakcdlaaV.B ^ h * (YtnngdlehakcdlaaV.val x1 * YtnngdlehakcdlaaV.val y0)) := ⟨by rw [Fr3.out.2.2, v2.out, Nat.mul_add, ← Nat.add_assoc]⟩
      have hc_ := SW11.out.box.cell
      go_wp2_with fail
      refine (mul_trim.calls K (fun k => k = w.heap.size) (.slice (some ⟨w.heap.size, 0, none⟩) L L) r3 (YtnngdlehakcdlaaV.strip r3) w W11 SW11.out.below SW11.out.row (trim_f (by have := KK.out; have := Fr3.out.2.1; have := KT.out.2.2.2.2; omega) (by have := Fr3.out.2.1; have := KT.out.2.2.2.2; omega))).mono ?_
      clear hc_
      rintro e Wf ⟨vf, rfl, hRf, hBf, -⟩
      have Kf := Aside0.mk (And.intro hRf hBf)
      clear hRf hBf
      go_wp2
      go_ret
      refine ⟨vf, rfl, ?_, Kf.out.2⟩
      rw [show YtnngdlehakcdlaaV.toL (YtnngdlehakcdlaaV.val l0 * YtnngdlehakcdlaaV.val l1) = YtnngdlehakcdlaaV.strip r3 by rw [YtnngdlehakcdlaaV.strip_toL Fr3.out.1, KT.out.1, vT.out]]
      exact Kd.R_mono Kf.out.1 (fun _ _ => trivial)
theorem prod_all (M : Nat) : M ≤ 200000 → ProdAt M := by
  induction M using Nat.strongRecOn with
  | _ M ih =>
    intro hM A0 c0 l0 A1 c1 l1 w b0 b1 o0 o1 hr0 hc0 hr1 hc1
    by_cases hs : l0.length ≤ 40 ∨ l1.length ≤ 40
    · exact product_small A0 c0 l0 A1 c1 l1 w hs (by omega) (by omega) o0 o1 hr0 hc0 hr1 hc1
    · exact product_big _ (ih _ (by omega) (by omega)) A0 c0 l0 A1 c1 l1 w (by omega) rfl (by omega) (by omega) o0 o1 hr0 hc0 hr1 hc1
end
def mul_product.f (l0 : List Int) (l1 : List Int) : Option (List Int) := if YtnngdlehakcdlaaV.ok l0 = true ∧ YtnngdlehakcdlaaV.ok l1 = true ∧ l0.length ≤ 200000 ∧ l1.length ≤ 200000 then some (YtnngdlehakcdlaaV.toL (YtnngdlehakcdlaaV.val l0 * YtnngdlehakcdlaaV.val l1)) else none
theorem mul_product.calls (A0 : Option Addr) (c0 : Nat) (l0 : List Int) (A1 : Option Addr) (c1 : Nat) (l1 : List Int) (r : List Int) (w : World) (hr0 : Kd.C (Kd.int .u32) w A0 l0.length l0) (hc0 : l0.length ≤ c0) (hr1 : Kd.C (Kd.int .u32) w A1 l1.length l1) (hc1 : l1.length ≤ c1) (h : mul_product.f l0 l1 = some r) :
    Calls Try.prog 35 #[.slice A0 l0.length c0, .slice A1 l1.length c1] w fun e w' => ∃ v0_ : Value, e = .returned (v0_) ∧ Kd.R (Kd.int .u32) 23 w' w.heap.size (fun _ => True) v0_ r ∧ Below w.heap.size w w' := by
  unfold mul_product.f at h
  by_cases hk : YtnngdlehakcdlaaV.ok l0 = true ∧ YtnngdlehakcdlaaV.ok l1 = true ∧ l0.length ≤ 200000 ∧ l1.length ≤ 200000
  · rw [if_pos hk] at h
    obtain rfl := Option.some.inj h
    exact prod_all 200000 (Nat.le_refl _) A0 c0 l0 A1 c1 l1 w hk.2.2.1 hk.2.2.2 hk.1 hk.2.1 hr0 hc0 hr1 hc1
  · rw [if_neg hk] at h
    cases h

end Go.Proofs.Ytnngdlehakcdlaa.PMul
