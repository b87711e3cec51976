/- Plain numbers: the borrow of a difference of 32 bits, told by bits. -/
import Derived.Laws.BitsLemmas
import Derived.WalkKit
namespace Go.Proofs.YthdhpihfbggbbaaV
theorem bv_top (z : BitVec 32) : z.toNat / 2147483648 = if z.msb then 1 else 0 := by
  rw [BitVec.msb_eq_decide]
  have := z.isLt
  by_cases h : 2 ^ (32 - 1) ≤ z.toNat
  · simp only [h, decide_true, if_true]; omega
  · simp only [h, decide_false]; simp; omega
theorem bv_ones (z : BitVec 32) : (4294967295#32 ^^^ z).msb = !z.msb := by
  rw [BitVec.msb_xor]
  have : (4294967295#32).msb = true := by decide
  rw [this]; simp
theorem borrow_bv (x y d : BitVec 32) (b : Nat) (hb : b ≤ 1) (hd : d.toNat = (x.toNat + 4294967296 - y.toNat + (4294967296 - b)) % 4294967296) :
    ((((4294967295#32 ^^^ x) &&& y) ||| ((4294967295#32 ^^^ (x ^^^ y)) &&& d)).toNat / 2147483648 : Nat) = if x.toNat < y.toNat + b then 1 else 0 := by
  rw [bv_top, BitVec.msb_or, BitVec.msb_and, BitVec.msb_and, bv_ones, bv_ones, BitVec.msb_xor]
  simp only [BitVec.msb_eq_decide]
  have h1 := x.isLt
  have h2 := y.isLt
  have h3 := d.isLt
  by_cases c1 : 2 ^ (32 - 1) ≤ x.toNat <;> by_cases c2 : 2 ^ (32 - 1) ≤ y.toNat <;> by_cases c3 : 2 ^ (32 - 1) ≤ d.toNat <;> simp only [c1, c2, c3, decide_true, decide_false, Bool.not_true, Bool.not_false, Bool.and_true, Bool.and_false, Bool.or_true, Bool.or_false, Bool.xor_true, Bool.xor_false, Bool.or_self, if_true] <;> by_cases c4 : x.toNat < y.toNat + b <;> simp only [c4, if_true, if_false] <;> first | rfl | omega
theorem u32_wrap_nat (n : Nat) (h : n < 4294967296) : IntKind.u32.wrap (n : Int) = n := by rw [IntKind.wrap_u32]; omega
theorem bits_u32 (op : BinOp) (a b : BitVec 32) : bits op .u32 (a.toNat : Int) (b.toNat : Int) = (((match op with | BinOp.and => a &&& b | BinOp.or => a ||| b | BinOp.xor => a ^^^ b | _ => a &&& ~~~b).toNat : Nat) : Int) := by
  unfold bits
  have e : ∀ z : BitVec 32, BitVec.ofInt IntKind.u32.bits (z.toNat : Int) = z := by
    intro z
    rw [BitVec.ofInt_natCast]
    exact BitVec.eq_of_toNat_eq (by rw [BitVec.toNat_ofNat]; exact Nat.mod_eq_of_lt z.isLt)
  simp only [e]
  exact u32_wrap_nat _ (BitVec.isLt _)
theorem borrow_int (x y b : Int) (hx : 0 ≤ x ∧ x < 4294967296) (hy : 0 ≤ y ∧ y < 4294967296) (hb : 0 ≤ b ∧ b ≤ 1) :
    bits .or .u32 (bits .and .u32 (bits .xor .u32 IntKind.u32.max x) y) (bits .and .u32 (bits .xor .u32 IntKind.u32.max (bits .xor .u32 x y)) ((x - y - b) % 4294967296)) / 2147483648 = if x < y + b then 1 else 0 := by
  obtain ⟨X, rfl⟩ : ∃ X : BitVec 32, x = (X.toNat : Int) := ⟨BitVec.ofNat 32 x.toNat, by rw [BitVec.toNat_ofNat]; omega⟩
  obtain ⟨Y, rfl⟩ : ∃ X : BitVec 32, y = (X.toNat : Int) := ⟨BitVec.ofNat 32 y.toNat, by rw [BitVec.toNat_ofNat]; omega⟩
  obtain ⟨D, hD⟩ : ∃ D : BitVec 32, ((X.toNat : Int) - Y.toNat - b) % 4294967296 = (D.toNat : Int) := ⟨BitVec.ofNat 32 (((X.toNat : Int) - Y.toNat - b) % 4294967296).toNat, by rw [BitVec.toNat_ofNat]; omega⟩
  obtain ⟨n, rfl⟩ := Int.eq_ofNat_of_zero_le hb.1
  have hM : IntKind.u32.max = ((4294967295#32).toNat : Int) := by decide
  rw [hD, hM]
  simp only [bits_u32]
  have h := borrow_bv X Y D n (by omega) (by omega)
  have h2 := congrArg (fun z : Nat => (z : Int)) h
  simp only [Int.natCast_ediv] at h2
  refine (show _ = _ from h2).trans ?_
  by_cases c : X.toNat < Y.toNat + n
  · rw [if_pos c, if_pos (by omega)]; rfl
  · rw [if_neg c, if_neg (by omega)]; rfl
end Go.Proofs.YthdhpihfbggbbaaV
