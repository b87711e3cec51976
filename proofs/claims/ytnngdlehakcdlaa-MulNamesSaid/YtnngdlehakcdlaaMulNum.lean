/- Plain numbers: the functions of mul at the limbs of naturals. -/
import Derived.Test.YtnngdlehakcdlaaMulPlain
import Derived.Test.YtnngdlehakcdlaaPMulx0
import Derived.Test.YtnngdlehakcdlaaPMulx1
namespace Go.Proofs.Ytnngdlehakcdlaa.Pure
open Go.RowKit Go.Proofs.Ytnngdlehakcdlaa.PMul Go.Proofs.YtnngdlehakcdlaaW.PrintWords Go.Proofs.YtnngdlehakcdlaaW.PrintLast Go.Proofs.YtnngdlehakcdlaaV

theorem lt_most {x m : Nat} (h : x < B ^ m) (hm : m ≤ 65536) : x < B ^ most := Nat.lt_of_lt_of_le h (Nat.pow_le_pow_right (by decide) (by rw [most_eq]; exact hm))
theorem toL_may {x : Nat} (h : x < B ^ most) : may (toL x) = true := may_toL h (by rw [most_eq]; omega)
theorem toL_len {x : Nat} (h : x < B ^ most) : (toL x).length ≤ 65536 := may_length (toL_may h)
theorem toL_inj {x y : Nat} : toL x = toL y ↔ x = y := ⟨fun h => by rw [← val_toL x, h, val_toL], fun h => by rw [h]⟩
theorem mulN {k x y : Nat} (hx : x < B ^ most) (hy : y < B ^ most) (h : x * y < B ^ most) (hk : 1000000 ≤ k) : mul_Mul.f k (toL x) (toL y) = some (toL (x * y)) := by
 have lx := toL_len hx
 have ly := toL_len hy
 rw [mul_f (toL_ok _) (toL_ok _) (by omega) (by omega) hk, mulS_of (toL_may hx) (toL_may hy), val_toL, val_toL, fit_lt h]
theorem squareN {k x : Nat} (hx : x < B ^ most) (h : x * x < B ^ most) (hk : 1000000 ≤ k) : mul_Square.f k (toL x) = some (toL (x * x)) := by
 have lx := toL_len hx
 rw [square_f (toL_ok _) (by omega) hk, mulS_of (toL_may hx) (toL_may hx), val_toL, fit_lt h]
theorem addN {x y : Nat} (hx : x < B ^ most) (hy : y < B ^ most) (h : x + y < B ^ most) : nat_Add.f (toL x) (toL y) = some (toL (x + y)) := by
 rw [add_f (toL_ok _) (toL_ok _), addS_of (toL_may hx) (toL_may hy), val_toL, val_toL, fit_lt h]
theorem smallN {k w c x : Nat} (hx : x < B ^ most) (hw : w < 4294967296) (hc : c < 4294967296) (h : x * w + c < B ^ most) (hk : 1000000 ≤ k) : mul_Small.f k (toL x) (w : Int) (c : Int) = some (toL (x * w + c)) := by
 have lx := toL_len hx
 rw [small_f (toL_ok _) (by omega) hw hc hk]; unfold smallS; rw [toL_may hx, if_pos rfl, val_toL, fit_lt h]
theorem sameN {k x y : Nat} (hx : x < B ^ most) (hk : 1000000 ≤ k) : alidadelaw02_same.f k (toL x) (toL y) = some (decide (x = y)) := by
 have lx := toL_len hx
 rw [same_f (by omega) (by omega)]
 by_cases h : x = y
 ·subst h; simp
 ·rw [decide_eq_false h, decide_eq_false (fun e => h (toL_inj.1 e))]
theorem sameT {k x y : Nat} (e : x = y) (hx : x < B ^ most) (hk : 1000000 ≤ k) : alidadelaw02_same.f k (toL x) (toL y) = some true := by
 rw [sameN hx hk, decide_eq_true e]
theorem ofN {k u : Nat} (hk : 3 ≤ k) (h : u < 18446744073709551616) : nat_Of.f k (u : Int) = some (toL u) := by
 rw [of_f hk (by omega) (by omega), Int.toNat_natCast]
theorem one_lt : (1 : Nat) < B ^ most := lt_most (m := 1) (by decide) (by omega)
theorem zero_lt : (0 : Nat) < B ^ most := Nat.lt_trans (by decide) one_lt
theorem toL_one : toL 1 = [1] := toL_eq (by decide) (by decide) (by decide)
end Go.Proofs.Ytnngdlehakcdlaa.Pure
