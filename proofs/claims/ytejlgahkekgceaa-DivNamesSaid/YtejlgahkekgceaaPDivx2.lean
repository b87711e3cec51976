-- A text of the seat Ytejlgahkekgceaa, written by a program of this session (drive.py).
import Derived.Test.YtejlgahkekgceaaPDivx0
import Derived.Test.YtejlgahkekgceaaVal
import Derived.Laws.BitsLemmas
import Derived.WalkSpells
namespace Go.Proofs.Ytejlgahkekgceaa.PDiv
open Go.RowKit Go.Proofs.YtejlgahkekgceaaW.PrintWords Go.Proofs.YtejlgahkekgceaaW.PrintLast Go.Proofs.YtejlgahkekgceaaW.PrintMore
attribute [local go_sem] max2_int min2_int max_two min_two max_three min_three max_four min_four   -- for this text's walks alone
set_option linter.unusedVariables false
set_option linter.unusedSimpArgs false

-- BY HAND: math/bits.Div32: function 41
-- IMPORT Derived.Test.YtejlgahkekgceaaVal
-- IMPORT Derived.Laws.BitsLemmas
-- IMPORT Derived.WalkSpells
theorem d_wraps (n : Int) (h0 : 0 ≤ n) (h1 : n < 2 ^ 64) : IntKind.u64.wrap n = n := by
  simp only [IntKind.wrap, IntKind.bits, IntKind.signed]; simp; omega
theorem or32 {x y : Nat} (hx : x < 4294967296) (hy : y < 4294967296) : bits .or .u64 ((x * 4294967296 : Nat) : Int) (y : Int) = ((x * 4294967296 + y : Nat) : Int) := by
  have h2 := (bits_nat .u64 64 (by decide) d_wraps (x * 4294967296) y (by omega) (by omega)).2
  rw [h2]
  have h3 := Nat.two_pow_add_eq_or_of_lt (i := 32) hy x
  rw [show 4294967296 = 2 ^ 32 from rfl, Nat.mul_comm, ← h3]
theorem or32i {x y : Nat} (hx : x < 4294967296) (hy : y < 4294967296) : bits .or .u64 ((x : Int) * 4294967296) (y : Int) = ((x * 4294967296 + y : Nat) : Int) := by
  rw [← or32 hx hy]; simp
set_option maxHeartbeats 8000000 in
set_option maxRecDepth 100000 in
theorem div32_of (a b c Q M : Nat) (ha : a < 4294967296) (hb : b < 4294967296) (hc : c < 4294967296) (h : a < c) (HQ : Aside0 ((a * 4294967296 + b) / c = Q)) (HM : Aside0 ((a * 4294967296 + b) % c = M)) (w : World) :
    Calls Try.prog 41 #[.int .u32 a, .int .u32 b, .int .u32 c] w fun e w' => e = .returned (.tuple #[.int .u32 (Q : Int), .int .u32 (M : Int)]) ∧ Drawn0 w w' := by
  have c2 : ((c : Int) != 0) = true := bne_iff_ne.2 (by omega)
  have c4 : decide (c ≤ a) = false := decide_eq_false (by omega)
  have c5 : ((c : Int) == 0) = false := beq_eq_false_iff_ne.2 (by omega)
  go_enter Try.func41, Try.ntmps41
  go_wp2
  rw [or32i ha hb]
  have hz : a * 4294967296 + b < 18446744073709551616 := by omega
  have hq : (a * 4294967296 + b) / c < 4294967296 := Nat.div_lt_of_lt_mul (by have := Nat.mul_le_mul_right 4294967296 (show a + 1 ≤ c from h); omega)
  have hm : (a * 4294967296 + b) % c < 4294967296 := Nat.lt_of_lt_of_le (Nat.mod_lt _ (by omega)) (by omega)
  rw [HQ.out] at hq
  rw [HM.out] at hm
  have q1 : ((a * 4294967296 + b : Nat) : Int) / (c : Int) = (Q : Int) := by rw [← HQ.out]; simp
  have q2 : ((a * 4294967296 + b : Nat) : Int) % (c : Int) = (M : Int) := by rw [← HM.out]; simp
  clear HQ HM
  generalize a * 4294967296 + b = Z at *
  go_quiet (fail)
  go_wp2
  go_ret2
  exact ⟨rfl, ⟨_, rfl⟩⟩
def bits_Div32.f (a0 : Int) (a1 : Int) (a2 : Int) : Option (Int × Int) := if (0 ≤ a0 ∧ a0 < a2) ∧ (0 ≤ a1 ∧ a1 < 4294967296) ∧ a2 < 4294967296 then some ((a0 * 4294967296 + a1) / a2, (a0 * 4294967296 + a1) % a2) else none
theorem bits_Div32.calls (a0 : Int) (a1 : Int) (a2 : Int) (r1 : Int) (r2 : Int) (w : World) (h : bits_Div32.f a0 a1 a2 = some (r1, r2)) :
    Calls Try.prog 41 #[.int .u32 a0, .int .u32 a1, .int .u32 a2] w fun e w' => e = .returned (.tuple #[.int .u32 r1, .int .u32 r2]) ∧ Drawn0 w w' := by
  unfold bits_Div32.f at h
  by_cases c : (0 ≤ a0 ∧ a0 < a2) ∧ (0 ≤ a1 ∧ a1 < 4294967296) ∧ a2 < 4294967296
  · rw [if_pos c] at h
    obtain ⟨x, rfl⟩ := Int.eq_ofNat_of_zero_le c.1.1
    obtain ⟨y, rfl⟩ := Int.eq_ofNat_of_zero_le c.2.1.1
    obtain ⟨z, rfl⟩ := Int.eq_ofNat_of_zero_le (show 0 ≤ a2 by omega)
    have h2 := Option.some.inj h
    injection h2 with h3 h4
    have e1 : r1 = (((x * 4294967296 + y) / z : Nat) : Int) := by rw [← h3]; simp
    have e2 : r2 = (((x * 4294967296 + y) % z : Nat) : Int) := by rw [← h4]; simp
    subst e1; subst e2
    exact div32_of x y z _ _ (by omega) (by omega) (by omega) (by omega) ⟨rfl⟩ ⟨rfl⟩ w
  · rw [if_neg c] at h; cases h

end Go.Proofs.Ytejlgahkekgceaa.PDiv
