/- Plain numbers: the functions of mul at the limbs of naturals. -/
import Derived.Test.YtnngdlehakcdlaaMulPlain
import Derived.Test.YtnngdlehakcdlaaGPMulx28toPMulx35
namespace Go.Proofs.Ytnngdlehakcdlaa.Pure
open Go.RowKit Go.Proofs.Ytnngdlehakcdlaa.PMul Go.Proofs.YtnngdlehakcdlaaW.PrintWords Go.Proofs.YtnngdlehakcdlaaW.PrintLast Go.Proofs.YtnngdlehakcdlaaV

theorem lt_most {x m : Nat} (h : x < B ^ m) (hm : m ≤ 65536) : x < B ^ most := Nat.lt_of_lt_of_le h (Nat.pow_le_pow_right (by decide) (by rw [most_eq]; exact hm))
theorem toL_may {x : Nat} (h : x < B ^ most) : may (toL x) = true := may_toL h (by rw [most_eq]; omega)
theorem toL_len {x : Nat} (h : x < B ^ most) : (toL x).length ≤ 65536 := may_length (toL_may h)
theorem toN {l : List Int} {m : Nat} (ho : ok l = true) (hm : may l = true) (hl : l.length ≤ m) : ∃ x, x < B ^ m ∧ l = toL x := ⟨val l, val_lt_of ho hl, (toL_of_may ho hm).symm⟩
theorem toL_inj {x y : Nat} : toL x = toL y ↔ x = y := ⟨fun h => by rw [← val_toL x, h, val_toL], fun h => by rw [h]⟩
theorem mulN {k x y : Nat} (hx : x < B ^ most) (hy : y < B ^ most) (h : x * y < B ^ most) (hk : 1000000 ≤ k) : mul_Mul.f k (toL x) (toL y) = some (toL (x * y)) := by
  have lx := toL_len hx
  have ly := toL_len hy
  rw [mul_f (toL_ok _) (toL_ok _) (by omega) (by omega) hk, mulS_of (toL_may hx) (toL_may hy), val_toL, val_toL, fit_lt h]
theorem squareN {k x : Nat} (hx : x < B ^ most) (h : x * x < B ^ most) (hk : 1000000 ≤ k) : mul_Square.f k (toL x) = some (toL (x * x)) := by
  have lx := toL_len hx
  rw [square_f (toL_ok _) (by omega) hk, mulS_of (toL_may hx) (toL_may hx), val_toL, fit_lt h]
theorem addN {x y : Nat} (hx : x < B ^ most) (hy : y < B ^ most) (h : x + y < B ^ most) : nat_Add.f (toL x) (toL y) = some (toL (x + y)) := by
  rw [add_f (toL_ok _) (toL_ok _), addS_of (toL_may hx) (toL_may hy), val_toL, val_toL, fit_lt h]
theorem smallN {k w c x : Nat} (hx : x < B ^ most) (hw : w < 4294967296) (hc : c < 4294967296) (h : x * w + c < B ^ most) (hk : 1000000 ≤ k) : mul_Small.f k (toL x) (w : Int) (c : Int) = some (toL (x * w + c)) := by
  have lx := toL_len hx
  rw [small_f (toL_ok _) (by omega) hw hc hk]; unfold smallS; rw [toL_may hx, if_pos rfl, val_toL, fit_lt h]
theorem powN {k x : Nat} {e : Nat} (hx : x < B ^ most) (he : e ≤ 1000) (h : x ^ e < B ^ most) (hk : 2000000 ≤ k) : mul_Pow.f k (toL x) (e : Int) = some (toL (x ^ e)) := by
  have lx := toL_len hx
  rw [pow_f (toL_ok _) (by omega) (by omega) (by omega)]
  unfold powS; rw [toL_may hx, decide_eq_true (show (0 : Int) ≤ (e : Int) by omega)]
  simp only [Bool.and_self, if_true]
  rw [val_toL, Int.toNat_natCast, fit_lt h]
theorem sameN {k x y : Nat} (hx : x < B ^ most) (hk : 1000000 ≤ k) : alidadelaw02_same.f k (toL x) (toL y) = some (decide (x = y)) := by
  have lx := toL_len hx
  rw [same_f (by omega) (by omega)]
  by_cases h : x = y
  · subst h; simp
  · rw [decide_eq_false h, decide_eq_false (fun e => h (toL_inj.1 e))]
theorem sameT {k x y : Nat} (e : x = y) (hx : x < B ^ most) (hk : 1000000 ≤ k) : alidadelaw02_same.f k (toL x) (toL y) = some true := by
  rw [sameN hx hk, decide_eq_true e]
theorem ofN {k u : Nat} (hk : 3 ≤ k) (h : u < 18446744073709551616) : nat_Of.f k (u : Int) = some (toL u) := by
  rw [of_f hk (by omega) (by omega), Int.toNat_natCast]
theorem toL_len0 {x : Nat} : ((toL x).length : Int) = 0 ↔ x = 0 := by
  constructor
  · intro h
    have h1 : toL x = [] := List.length_eq_zero_iff.1 (by omega)
    rw [← val_toL x, h1]; rfl
  · rintro rfl; rw [toL_zero]; rfl
theorem rdL {xs : List (List Int)} {i : Nat} (h : i < xs.length) : rd_L1 xs (i : Int) = xs[i] := by
  unfold rd_L1
  rw [Int.toNat_natCast, List.getD_eq_getElem?_getD, List.getElem?_eq_getElem h]; rfl
theorem lmay_go (xs : List (List Int)) (hx : xs.length ≤ 1000) (hm : ∀ x ∈ xs, x.length ≤ 9223372036854775807) (d : Nat) : ∀ (i k : Nat), i + d = xs.length → d < k → alidadelaw02_may.l0 k xs (i : Int) = some ((xs.drop i).all may) := by
  induction d with
  | zero =>
    intro i k hi hk
    obtain ⟨k, rfl⟩ : ∃ m, k = m + 1 := ⟨k - 1, by omega⟩
    simp only [alidadelaw02_may.l0]
    rw [if_neg (by omega), List.drop_of_length_le (by omega)]; rfl
  | succ d ih =>
    intro i k hi hk
    obtain ⟨k, rfl⟩ : ∃ m, k = m + 1 := ⟨k - 1, by omega⟩
    have h1 : i < xs.length := by omega
    simp only [alidadelaw02_may.l0]
    rw [if_pos (by omega), if_pos (by omega), rdL h1, may_f (hm _ (List.getElem_mem h1)), Option.bind_some, w64s (by omega), ih (i + 1) k (by omega) (by omega), List.drop_eq_getElem_cons h1, List.all_cons]
    cases may xs[i] <;> simp
theorem lmay_f {k : Nat} (xs : List (List Int)) (hx : xs.length ≤ 1000) (hm : ∀ x ∈ xs, x.length ≤ 9223372036854775807) (hk : xs.length < k) : alidadelaw02_may.f k xs = some (xs.all may) := lmay_go xs hx hm xs.length 0 k (by omega) hk
theorem one_lt : (1 : Nat) < B ^ most := lt_most (m := 1) (by decide) (by omega)
theorem zero_lt : (0 : Nat) < B ^ most := Nat.lt_trans (by decide) one_lt
theorem toL_one : toL 1 = [1] := toL_eq (by decide) (by decide) (by decide)
theorem pow_lt_pow {x m : Nat} (hx : x < B ^ m) (e : Nat) : x ^ e < B ^ (m * e) ∨ e = 0 := by
  by_cases h : e = 0
  · exact .inr h
  · exact .inl (by rw [Nat.pow_mul]; exact Nat.pow_lt_pow_left hx h)
theorem u32_of_wf' {x : Int} (h : (Lit.int .u32 x).wf = true) : 0 ≤ x ∧ x < 4294967296 := by
  simp only [Lit.wf, IntKind.min, IntKind.max, IntKind.signed, IntKind.bits, Bool.and_eq_true] at h
  simp at h
  omega
end Go.Proofs.Ytnngdlehakcdlaa.Pure
