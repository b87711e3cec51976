/- Texts of the seat Ytejlgahkekgceaa that belong together, joined. -/
import Derived.Laws.BitsLemmas
import Derived.WalkKit
import Derived.Test.YtejlgahkekgceaaPDivx0
import Derived.Test.YtejlgahkekgceaaVal
/- Plain numbers: the borrow of a difference of 32 bits, told by bits. -/
namespace Go.Proofs.YtejlgahkekgceaaV
theorem bv_top (z : BitVec 32) : z.toNat / 2147483648 = if z.msb then 1 else 0 := by
  rw [BitVec.msb_eq_decide]
  have := z.isLt
  by_cases h : 2 ^ (32 - 1) ≤ z.toNat
  · simp only [h, decide_true, if_true]; omega
  · simp only [h, decide_false]; simp; omega
theorem bv_ones (z : BitVec 32) : (4294967295#32 ^^^ z).msb = !z.msb := by
  rw [BitVec.msb_xor]
  have : (4294967295#32).msb = true := by decide
  rw [this]; simp
theorem borrow_bv (x y d : BitVec 32) (b : Nat) (hb : b ≤ 1) (hd : d.toNat = (x.toNat + 4294967296 - y.toNat + (4294967296 - b)) % 4294967296) :
    ((((4294967295#32 ^^^ x) &&& y) ||| ((4294967295#32 ^^^ (x ^^^ y)) &&& d)).toNat / 2147483648 : Nat) = if x.toNat < y.toNat + b then 1 else 0 := by
  rw [bv_top, BitVec.msb_or, BitVec.msb_and, BitVec.msb_and, bv_ones, bv_ones, BitVec.msb_xor]
  simp only [BitVec.msb_eq_decide]
  have h1 := x.isLt
  have h2 := y.isLt
  have h3 := d.isLt
  by_cases c1 : 2 ^ (32 - 1) ≤ x.toNat <;> by_cases c2 : 2 ^ (32 - 1) ≤ y.toNat <;> by_cases c3 : 2 ^ (32 - 1) ≤ d.toNat <;> simp only [c1, c2, c3, decide_true, decide_false, Bool.not_true, Bool.not_false, Bool.and_true, Bool.and_false, Bool.or_true, Bool.or_false, Bool.xor_true, Bool.xor_false, Bool.or_self, if_true] <;> by_cases c4 : x.toNat < y.toNat + b <;> simp only [c4, if_true, if_false] <;> first | rfl | omega
theorem u32_wrap_nat (n : Nat) (h : n < 4294967296) : IntKind.u32.wrap (n : Int) = n := by rw [IntKind.wrap_u32]; omega
theorem bits_u32 (op : BinOp) (a b : BitVec 32) : bits op .u32 (a.toNat : Int) (b.toNat : Int) = (((match op with | BinOp.and => a &&& b | BinOp.or => a ||| b | BinOp.xor => a ^^^ b | _ => a &&& ~~~b).toNat : Nat) : Int) := by
  unfold bits
  have e : ∀ z : BitVec 32, BitVec.ofInt IntKind.u32.bits (z.toNat : Int) = z := by
    intro z
    rw [BitVec.ofInt_natCast]
    exact BitVec.eq_of_toNat_eq (by rw [BitVec.toNat_ofNat]; exact Nat.mod_eq_of_lt z.isLt)
  simp only [e]
  exact u32_wrap_nat _ (BitVec.isLt _)
theorem borrow_int (x y b : Int) (hx : 0 ≤ x ∧ x < 4294967296) (hy : 0 ≤ y ∧ y < 4294967296) (hb : 0 ≤ b ∧ b ≤ 1) :
    bits .or .u32 (bits .and .u32 (bits .xor .u32 IntKind.u32.max x) y) (bits .and .u32 (bits .xor .u32 IntKind.u32.max (bits .xor .u32 x y)) ((x - y - b) % 4294967296)) / 2147483648 = if x < y + b then 1 else 0 := by
  obtain ⟨X, rfl⟩ : ∃ X : BitVec 32, x = (X.toNat : Int) := ⟨BitVec.ofNat 32 x.toNat, by rw [BitVec.toNat_ofNat]; omega⟩
  obtain ⟨Y, rfl⟩ : ∃ X : BitVec 32, y = (X.toNat : Int) := ⟨BitVec.ofNat 32 y.toNat, by rw [BitVec.toNat_ofNat]; omega⟩
  obtain ⟨D, hD⟩ : ∃ D : BitVec 32, ((X.toNat : Int) - Y.toNat - b) % 4294967296 = (D.toNat : Int) := ⟨BitVec.ofNat 32 (((X.toNat : Int) - Y.toNat - b) % 4294967296).toNat, by rw [BitVec.toNat_ofNat]; omega⟩
  obtain ⟨n, rfl⟩ := Int.eq_ofNat_of_zero_le hb.1
  have hM : IntKind.u32.max = ((4294967295#32).toNat : Int) := by decide
  rw [hD, hM]
  simp only [bits_u32]
  have h := borrow_bv X Y D n (by omega) (by omega)
  have h2 := congrArg (fun z : Nat => (z : Int)) h
  simp only [Int.natCast_ediv] at h2
  refine (show _ = _ from h2).trans ?_
  by_cases c : X.toNat < Y.toNat + n
  · rw [if_pos c, if_pos (by omega)]; rfl
  · rw [if_neg c, if_neg (by omega)]; rfl
end Go.Proofs.YtejlgahkekgceaaV

-- A text of the seat Ytejlgahkekgceaa, written by a program of this session (drive.py).
namespace Go.Proofs.Ytejlgahkekgceaa.PDiv
open Go.RowKit Go.Proofs.YtejlgahkekgceaaW.PrintWords Go.Proofs.YtejlgahkekgceaaW.PrintLast Go.Proofs.YtejlgahkekgceaaW.PrintMore
attribute [local go_sem] max2_int min2_int max_two min_two max_three min_three max_four min_four   -- for this text's walks alone
set_option linter.unusedVariables false
set_option linter.unusedSimpArgs false

-- BY HAND: math/bits.Sub32: function 56
-- IMPORT Derived.Test.YtejlgahkekgceaaVal
-- IMPORT Derived.Test.YtejlgahkekgceaaBits
def bits_Sub32.f (a0 : Int) (a1 : Int) (a2 : Int) : Option (Int × Int) := if (0 ≤ a0 ∧ a0 < 4294967296) ∧ (0 ≤ a1 ∧ a1 < 4294967296) ∧ (0 ≤ a2 ∧ a2 ≤ 1) then some (if a0 < a1 + a2 then (a0 - a1 - a2 + 4294967296, 1) else (a0 - a1 - a2, 0)) else none
theorem sub32_end {a0 a1 a2 r1 r2 : Int} (h : bits_Sub32.f a0 a1 a2 = some (r1, r2)) :
    (a0 - a1 - a2) % 4294967296 = r1 ∧ bits .or .u32 (bits .and .u32 (bits .xor .u32 IntKind.u32.max a0) a1) (bits .and .u32 (bits .xor .u32 IntKind.u32.max (bits .xor .u32 a0 a1)) ((a0 - a1 - a2) % 4294967296)) / 2147483648 = r2 := by
  unfold bits_Sub32.f at h
  by_cases c : (0 ≤ a0 ∧ a0 < 4294967296) ∧ (0 ≤ a1 ∧ a1 < 4294967296) ∧ (0 ≤ a2 ∧ a2 ≤ 1)
  · rw [if_pos c] at h
    rw [YtejlgahkekgceaaV.borrow_int a0 a1 a2 c.1 c.2.1 c.2.2]
    by_cases d : a0 < a1 + a2
    · rw [if_pos d] at h ⊢
      have h2 := Option.some.inj h
      injection h2 with h3 h4
      omega
    · rw [if_neg d] at h ⊢
      have h2 := Option.some.inj h
      injection h2 with h3 h4
      omega
  · rw [if_neg c] at h
    cases h
theorem bits_Sub32.calls (a0 : Int) (a1 : Int) (a2 : Int) (r1 : Int) (r2 : Int) (w : World) (h : bits_Sub32.f a0 a1 a2 = some (r1, r2)) :
    Calls Try.prog 56 #[.int .u32 a0, .int .u32 a1, .int .u32 a2] w fun e w' => e = .returned (.tuple #[.int .u32 r1, .int .u32 r2]) ∧ Drawn0 w w' := by
  have H := Aside0.mk (sub32_end h)
  clear h
  go_enter Try.func56, Try.ntmps56
  go_wp2
  go_ret2
  refine ⟨?_, Drawn0.refl _⟩
  rw [← H.out.1, ← H.out.2]
  rfl

end Go.Proofs.Ytejlgahkekgceaa.PDiv

-- A text of the seat Ytejlgahkekgceaa, written by a program of this session (drive.py).
namespace Go.Proofs.Ytejlgahkekgceaa.PDiv
open Go.RowKit Go.Proofs.YtejlgahkekgceaaW.PrintWords Go.Proofs.YtejlgahkekgceaaW.PrintLast Go.Proofs.YtejlgahkekgceaaW.PrintMore
attribute [local go_sem] max2_int min2_int max_two min_two max_three min_three max_four min_four   -- for this text's walks alone
set_option linter.unusedVariables false
set_option linter.unusedSimpArgs false

/-! ### div_take: function 32 -/
/-! ### bits_Add32: function 48 -/
def bits_Add32.f (a0 : Int) (a1 : Int) (a2 : Int) : Option (Int × Int) := some ((IntKind.u64.wrap ((IntKind.u64.wrap ((IntKind.u64.wrap (a0)) + (IntKind.u64.wrap (a1)))) + (IntKind.u64.wrap (a2)))) % 4294967296, ((IntKind.u64.wrap ((IntKind.u64.wrap ((IntKind.u64.wrap (a0)) + (IntKind.u64.wrap (a1)))) + (IntKind.u64.wrap (a2)))) / 4294967296) % 4294967296)
set_option maxHeartbeats 8000000 in
set_option maxRecDepth 100000 in
theorem bits_Add32.calls (a0 : Int) (a1 : Int) (a2 : Int) (r1 : Int) (r2 : Int) (w : World) (h : bits_Add32.f a0 a1 a2 = some (r1, r2)) :
    Calls Try.prog 48 #[.int .u32 a0, .int .u32 a1, .int .u32 a2] w fun e w' => e = .returned (.tuple #[.int .u32 r1, .int .u32 r2]) ∧ Drawn0 w w' := by
  have H : (some ((IntKind.u64.wrap ((IntKind.u64.wrap ((IntKind.u64.wrap (a0)) + (IntKind.u64.wrap (a1)))) + (IntKind.u64.wrap (a2)))) % 4294967296, ((IntKind.u64.wrap ((IntKind.u64.wrap ((IntKind.u64.wrap (a0)) + (IntKind.u64.wrap (a1)))) + (IntKind.u64.wrap (a2)))) / 4294967296) % 4294967296)) = some (r1, r2) := h
  clear h
  simp only [Option.some.injEq, Prod.mk.injEq] at H
  obtain ⟨rfl, rfl⟩ := H
  go_enter Try.func48, Try.ntmps48
  go_wp2
  go_ret2
  exact ⟨by first | rfl | (simp; done) | (simp [*]; done), by repeat (first | exact Drawn0.refl _ | apply Drawn0.step)⟩

/-! ### div_back: function 33 -/
end Go.Proofs.Ytejlgahkekgceaa.PDiv
