/- Texts of the seat Ytejlgahkekgceaa that belong together, joined. -/
import Derived.Test.YtejlgahkekgceaaGPDivx0toPDivx1
import Derived.Test.YtejlgahkekgceaaGValtoPDivx2
import Derived.Laws.BitsLemmas
import Derived.WalkSpells
import Derived.WalkMore
import Derived.ScopeJumps
import Derived.WalkKit
-- A text of the seat Ytejlgahkekgceaa, written by a program of this session (drive.py).
namespace Go.Proofs.Ytejlgahkekgceaa.PDiv
open Go.RowKit Go.Proofs.YtejlgahkekgceaaW.PrintWords Go.Proofs.YtejlgahkekgceaaW.PrintLast Go.Proofs.YtejlgahkekgceaaW.PrintMore
attribute [local go_sem] max2_int min2_int max_two min_two max_three min_three max_four min_four   -- for this text's walks alone
set_option linter.unusedVariables false
set_option linter.unusedSimpArgs false

-- BY HAND: alidade/div.guess: function 31
-- IMPORT Derived.Test.YtejlgahkekgceaaVal
-- IMPORT Derived.Laws.BitsLemmas
-- IMPORT Derived.WalkSpells
-- IMPORT Derived.WalkMore
-- IMPORT Derived.ScopeJumps
/-- the rounds of a guess: so many at most, the quotient, what is left -/
def gloop (v1 v0 u0 : Nat) : Nat → Nat → Nat → Nat
  | 0, q, _ => q
  | n + 1, q, r => if q / 4294967296 = 0 ∧ q * v0 ≤ r * 4294967296 + u0 then q else if (r + v1) / 4294967296 = 0 then gloop v1 v0 u0 n (q - 1) (r + v1) else q - 1
theorem gl_ret {v1 v0 u0 q r R : Nat} (h : ∃ n, 4294967296 ≤ r + n * v1 ∧ gloop v1 v0 u0 n q r = R) (hr : r < 4294967296) (hA : q < 4294967296) (hB : q * v0 ≤ r * 4294967296 + u0) : q = R := by
  obtain ⟨n, h1, h2⟩ := h
  rcases n with _ | n
  · omega
  · rw [← h2, gloop, if_pos ⟨by omega, hB⟩]
theorem gl_next {v1 v0 u0 q r R : Nat} (h : ∃ n, 4294967296 ≤ r + n * v1 ∧ gloop v1 v0 u0 n q r = R) (hr : r < 4294967296) (hno : ¬ (q / 4294967296 = 0 ∧ q * v0 ≤ r * 4294967296 + u0)) (hC : r + v1 < 4294967296) : ∃ n, 4294967296 ≤ r + v1 + n * v1 ∧ gloop v1 v0 u0 n (q - 1) (r + v1) = R := by
  obtain ⟨n, h1, h2⟩ := h
  rcases n with _ | n
  · omega
  · rw [gloop, if_neg hno, if_pos (by omega)] at h2
    exact ⟨n, by rw [Nat.add_mul] at h1; omega, h2⟩
theorem gl_stop {v1 v0 u0 q r R : Nat} (h : ∃ n, 4294967296 ≤ r + n * v1 ∧ gloop v1 v0 u0 n q r = R) (hr : r < 4294967296) (hno : ¬ (q / 4294967296 = 0 ∧ q * v0 ≤ r * 4294967296 + u0)) (hC : ¬ r + v1 < 4294967296) : q - 1 = R := by
  obtain ⟨n, h1, h2⟩ := h
  rcases n with _ | n
  · omega
  · rw [gloop, if_neg hno, if_neg (by omega)] at h2
    exact h2
set_option maxHeartbeats 8000000 in
set_option maxRecDepth 100000 in
theorem guess_of (u2 u1 u0 v1 v0 Q0 M0 R : Nat) (h2 : u2 < 4294967296) (h1 : u1 < 4294967296) (h0 : u0 < 4294967296) (hv1 : v1 < 4294967296) (hv0 : v0 < 4294967296) (hp : 0 < v1)
    (HQ : Aside0 ((u2 * 4294967296 + u1) / v1 = Q0)) (HM : Aside0 ((u2 * 4294967296 + u1) % v1 = M0)) (HR : Aside0 (gloop v1 v0 u0 4294967296 Q0 M0 = R)) (w : World) :
    Calls Try.prog 31 #[.int .u32 u2, .int .u32 u1, .int .u32 u0, .int .u32 v1, .int .u32 v0] w fun e w' => e = .returned (.int .u64 (R : Int)) ∧ Drawn0 w w' := by
  have c5 : ((v1 : Int) == 0) = false := beq_eq_false_iff_ne.2 (by omega)
  go_enter Try.func31, Try.ntmps31
  go_wp2
  refine wp_scope_jumps 0 (fun a' w' => Aside0 (Drawn0 w w') ∧ ∃ (q r : Nat) (u11 u14 u15 u16 u17 u18 u19 u20 u21 u22 u23 u24 u25 u26 u27 u28 u29 u30 u31 u32 u33 u34 u35 u36 u37 u38 u39 u40 u41 u42 u43 u44 u45 u46 u47 u48 u49 u50 u51 u52 u53 : Value), a' = { tmps := #[.int .u32 u2, .int .u32 u1, .int .u32 u0, .int .u32 v1, .int .u32 v0, undef, undef, undef, undef, undef, .int .u64 0, u11, .int .u64 q, .int .u64 r, u14, u15, u16, u17, u18, u19, u20, u21, u22, u23, u24, u25, u26, u27, u28, u29, u30, u31, u32, u33, u34, u35, u36, u37, u38, u39, u40, u41, u42, u43, u44, u45, u46, u47, u48, u49, u50, u51, u52, u53], defers := [] } ∧ r < 4294967296 ∧ q < 18446744073709551616 ∧ Aside0 (∃ n, 4294967296 ≤ r + n * v1 ∧ gloop v1 v0 u0 n q r = R)) (fun a' _ => 4294967296 - (intOf (a'.tmps.getD 13 undef)).toNat) (by rfl) ?_ ?_
  · go_wp2
    rw [or32i h2 h1]
    have hz : u2 * 4294967296 + u1 < 18446744073709551616 := by omega
    have q1 : ((u2 * 4294967296 + u1 : Nat) : Int) / (v1 : Int) = (Q0 : Int) := by rw [← HQ.out]; simp
    have q2 : ((u2 * 4294967296 + u1 : Nat) : Int) % (v1 : Int) = (M0 : Int) := by rw [← HM.out]; simp
    have hq : Q0 < 18446744073709551616 := by rw [← HQ.out]; exact Nat.lt_of_le_of_lt (Nat.div_le_self _ _) hz
    have hr : M0 < 4294967296 := by rw [← HM.out]; exact Nat.lt_trans (Nat.mod_lt _ hp) hv1
    have HN : Aside0 (∃ n, 4294967296 ≤ M0 + n * v1 ∧ gloop v1 v0 u0 n Q0 M0 = R) := ⟨4294967296, by have := Nat.mul_le_mul_left 4294967296 (show 1 ≤ v1 from hp); omega, HR.out⟩
    clear HQ HM HR
    generalize u2 * 4294967296 + u1 = Z at *
    go_quiet (fail)
    go_wp2
    go_step3
    simp only [q1, q2]
    have HD : Aside0 (Drawn0 w (w.drewN nq)) := ⟨⟨_, rfl⟩⟩
    clear q1 q2 c5
    generalize w.drewN nq = W at *
    generalize Q0 = q at *
    generalize M0 = r at *
    have eo := or32i hr h0
    by_cases hA : q < 4294967296
    · have e1 : (q : Int) / 4294967296 = 0 := by omega
      have ew : IntKind.u64.wrap ((q : Int) * (v0 : Int)) = ((q * v0 : Nat) : Int) := by
        have hm1 : q * v0 ≤ 4294967295 * 4294967295 := Nat.mul_le_mul (by omega) (by omega)
        rw [d_wraps _ (by rw [← Int.natCast_mul]; omega) (by rw [← Int.natCast_mul]; omega), ← Int.natCast_mul]
      by_cases hB : q * v0 ≤ r * 4294967296 + u0
      · have hle : (q : Int) * (v0 : Int) ≤ (r : Int) * 4294967296 + (u0 : Int) := by rw [← Int.natCast_mul]; omega
        have KN := Aside0.mk (gl_ret HN.out hr hA hB)
        clear HN hB
        go_wp2
        simp only [Exit.jump]
        go_ret
        exact ⟨by rw [KN.out]; rfl, HD.out⟩
      · have hle : decide ((q : Int) * (v0 : Int) ≤ (r : Int) * 4294967296 + (u0 : Int)) = false := decide_eq_false (by rw [← Int.natCast_mul]; omega)
        have hle2 : (r : Int) * 4294967296 + (u0 : Int) < (q : Int) * (v0 : Int) := by rw [← Int.natCast_mul]; omega
        have hq1 : 1 ≤ q := by
          refine Nat.one_le_iff_ne_zero.2 fun e => hB ?_
          rw [e, Nat.zero_mul]; omega
        have hno : ¬ (q / 4294967296 = 0 ∧ q * v0 ≤ r * 4294967296 + u0) := fun h => hB h.2
        have em : (q : Int) - 1 = ((q - 1 : Nat) : Int) := by omega
        by_cases hC : r + v1 < 4294967296
        · have e3 : (((r : Int) + (v1 : Int)) / 4294967296 == 0) = true := beq_iff_eq.2 (by omega)
          have KN := Aside0.mk (gl_next HN.out hr hno hC)
          clear HN hno
          go_wp2
          go_step3
          refine ⟨rfl, HD, q - 1, r + v1, _, _, _, _, _, _, _, _, _, _, _, _, _, _, _, _, _, _, _, _, _, _, _, _, _, _, _, _, _, _, _, _, _, _, _, _, _, _, _, _, _, rfl, hC, by omega, KN⟩
        · have e3 : (((r : Int) + (v1 : Int)) / 4294967296 == 0) = false := beq_eq_false_iff_ne.2 (by omega)
          have KN := Aside0.mk (gl_stop HN.out hr hno hC)
          clear HN hno
          go_wp2
          simp only [Exit.jump]
          go_ret
          exact ⟨by rw [KN.out]; rfl, HD.out⟩
    · have e1 : ((q : Int) / 4294967296 == 0) = false := beq_eq_false_iff_ne.2 (by omega)
      have hq1 : 1 ≤ q := by omega
      have hno : ¬ (q / 4294967296 = 0 ∧ q * v0 ≤ r * 4294967296 + u0) := fun h => by omega
      have em : (q : Int) - 1 = ((q - 1 : Nat) : Int) := by omega
      by_cases hC : r + v1 < 4294967296
      · have e3 : (((r : Int) + (v1 : Int)) / 4294967296 == 0) = true := beq_iff_eq.2 (by omega)
        have KN := Aside0.mk (gl_next HN.out hr hno hC)
        clear HN hno
        go_wp2
        go_step3
        refine ⟨rfl, HD, q - 1, r + v1, _, _, _, _, _, _, _, _, _, _, _, _, _, _, _, _, _, _, _, _, _, _, _, _, _, _, _, _, _, _, _, _, _, _, _, _, _, _, _, _, _, rfl, hC, by omega, KN⟩
      · have e3 : (((r : Int) + (v1 : Int)) / 4294967296 == 0) = false := beq_eq_false_iff_ne.2 (by omega)
        have KN := Aside0.mk (gl_stop HN.out hr hno hC)
        clear HN hno
        go_wp2
        simp only [Exit.jump]
        go_ret
        exact ⟨by rw [KN.out]; rfl, HD.out⟩
  · rintro a' W ⟨HD, q, r, u11, u14, u15, u16, u17, u18, u19, u20, u21, u22, u23, u24, u25, u26, u27, u28, u29, u30, u31, u32, u33, u34, u35, u36, u37, u38, u39, u40, u41, u42, u43, u44, u45, u46, u47, u48, u49, u50, u51, u52, u53, rfl, hr, hq, HN⟩
    clear HQ HM HR c5
    have eo := or32i hr h0
    by_cases hA : q < 4294967296
    · have e1 : (q : Int) / 4294967296 = 0 := by omega
      have ew : IntKind.u64.wrap ((q : Int) * (v0 : Int)) = ((q * v0 : Nat) : Int) := by
        have hm1 : q * v0 ≤ 4294967295 * 4294967295 := Nat.mul_le_mul (by omega) (by omega)
        rw [d_wraps _ (by rw [← Int.natCast_mul]; omega) (by rw [← Int.natCast_mul]; omega), ← Int.natCast_mul]
      by_cases hB : q * v0 ≤ r * 4294967296 + u0
      · have hle : (q : Int) * (v0 : Int) ≤ (r : Int) * 4294967296 + (u0 : Int) := by rw [← Int.natCast_mul]; omega
        have KN := Aside0.mk (gl_ret HN.out hr hA hB)
        clear HN hB
        go_wp2
        simp only [Exit.jump]
        go_ret
        exact ⟨by rw [KN.out]; rfl, HD.out⟩
      · have hle : decide ((q : Int) * (v0 : Int) ≤ (r : Int) * 4294967296 + (u0 : Int)) = false := decide_eq_false (by rw [← Int.natCast_mul]; omega)
        have hle2 : (r : Int) * 4294967296 + (u0 : Int) < (q : Int) * (v0 : Int) := by rw [← Int.natCast_mul]; omega
        have hq1 : 1 ≤ q := by
          refine Nat.one_le_iff_ne_zero.2 fun e => hB ?_
          rw [e, Nat.zero_mul]; omega
        have hno : ¬ (q / 4294967296 = 0 ∧ q * v0 ≤ r * 4294967296 + u0) := fun h => hB h.2
        have em : (q : Int) - 1 = ((q - 1 : Nat) : Int) := by omega
        by_cases hC : r + v1 < 4294967296
        · have e3 : (((r : Int) + (v1 : Int)) / 4294967296 == 0) = true := beq_iff_eq.2 (by omega)
          have KN := Aside0.mk (gl_next HN.out hr hno hC)
          clear HN hno
          go_wp2
          go_step3
          refine ⟨rfl, ⟨HD, q - 1, r + v1, _, _, _, _, _, _, _, _, _, _, _, _, _, _, _, _, _, _, _, _, _, _, _, _, _, _, _, _, _, _, _, _, _, _, _, _, _, _, _, _, _, rfl, hC, by omega, KN⟩, ?_⟩
          simp [intOf]; omega
        · have e3 : (((r : Int) + (v1 : Int)) / 4294967296 == 0) = false := beq_eq_false_iff_ne.2 (by omega)
          have KN := Aside0.mk (gl_stop HN.out hr hno hC)
          clear HN hno
          go_wp2
          simp only [Exit.jump]
          go_ret
          exact ⟨by rw [KN.out]; rfl, HD.out⟩
    · have e1 : ((q : Int) / 4294967296 == 0) = false := beq_eq_false_iff_ne.2 (by omega)
      have hq1 : 1 ≤ q := by omega
      have hno : ¬ (q / 4294967296 = 0 ∧ q * v0 ≤ r * 4294967296 + u0) := fun h => by omega
      have em : (q : Int) - 1 = ((q - 1 : Nat) : Int) := by omega
      by_cases hC : r + v1 < 4294967296
      · have e3 : (((r : Int) + (v1 : Int)) / 4294967296 == 0) = true := beq_iff_eq.2 (by omega)
        have KN := Aside0.mk (gl_next HN.out hr hno hC)
        clear HN hno
        go_wp2
        go_step3
        refine ⟨rfl, ⟨HD, q - 1, r + v1, _, _, _, _, _, _, _, _, _, _, _, _, _, _, _, _, _, _, _, _, _, _, _, _, _, _, _, _, _, _, _, _, _, _, _, _, _, _, _, _, _, rfl, hC, by omega, KN⟩, ?_⟩
        simp [intOf]; omega
      · have e3 : (((r : Int) + (v1 : Int)) / 4294967296 == 0) = false := beq_eq_false_iff_ne.2 (by omega)
        have KN := Aside0.mk (gl_stop HN.out hr hno hC)
        clear HN hno
        go_wp2
        simp only [Exit.jump]
        go_ret
        exact ⟨by rw [KN.out]; rfl, HD.out⟩
end Go.Proofs.Ytejlgahkekgceaa.PDiv

/- Plain numbers: the borrow of a difference of 32 bits, told by bits. -/
namespace Go.Proofs.YtejlgahkekgceaaV
theorem bv_top (z : BitVec 32) : z.toNat / 2147483648 = if z.msb then 1 else 0 := by
  rw [BitVec.msb_eq_decide]
  have := z.isLt
  by_cases h : 2 ^ (32 - 1) ≤ z.toNat
  · simp only [h, decide_true, if_true]; omega
  · simp only [h, decide_false]; simp; omega
theorem bv_ones (z : BitVec 32) : (4294967295#32 ^^^ z).msb = !z.msb := by
  rw [BitVec.msb_xor]
  have : (4294967295#32).msb = true := by decide
  rw [this]; simp
theorem borrow_bv (x y d : BitVec 32) (b : Nat) (hb : b ≤ 1) (hd : d.toNat = (x.toNat + 4294967296 - y.toNat + (4294967296 - b)) % 4294967296) :
    ((((4294967295#32 ^^^ x) &&& y) ||| ((4294967295#32 ^^^ (x ^^^ y)) &&& d)).toNat / 2147483648 : Nat) = if x.toNat < y.toNat + b then 1 else 0 := by
  rw [bv_top, BitVec.msb_or, BitVec.msb_and, BitVec.msb_and, bv_ones, bv_ones, BitVec.msb_xor]
  simp only [BitVec.msb_eq_decide]
  have h1 := x.isLt
  have h2 := y.isLt
  have h3 := d.isLt
  by_cases c1 : 2 ^ (32 - 1) ≤ x.toNat <;> by_cases c2 : 2 ^ (32 - 1) ≤ y.toNat <;> by_cases c3 : 2 ^ (32 - 1) ≤ d.toNat <;> simp only [c1, c2, c3, decide_true, decide_false, Bool.not_true, Bool.not_false, Bool.and_true, Bool.and_false, Bool.or_true, Bool.or_false, Bool.xor_true, Bool.xor_false, Bool.or_self, if_true] <;> by_cases c4 : x.toNat < y.toNat + b <;> simp only [c4, if_true, if_false] <;> first | rfl | omega
theorem u32_wrap_nat (n : Nat) (h : n < 4294967296) : IntKind.u32.wrap (n : Int) = n := by rw [IntKind.wrap_u32]; omega
theorem bits_u32 (op : BinOp) (a b : BitVec 32) : bits op .u32 (a.toNat : Int) (b.toNat : Int) = (((match op with | BinOp.and => a &&& b | BinOp.or => a ||| b | BinOp.xor => a ^^^ b | _ => a &&& ~~~b).toNat : Nat) : Int) := by
  unfold bits
  have e : ∀ z : BitVec 32, BitVec.ofInt IntKind.u32.bits (z.toNat : Int) = z := by
    intro z
    rw [BitVec.ofInt_natCast]
    exact BitVec.eq_of_toNat_eq (by rw [BitVec.toNat_ofNat]; exact Nat.mod_eq_of_lt z.isLt)
  simp only [e]
  exact u32_wrap_nat _ (BitVec.isLt _)
theorem borrow_int (x y b : Int) (hx : 0 ≤ x ∧ x < 4294967296) (hy : 0 ≤ y ∧ y < 4294967296) (hb : 0 ≤ b ∧ b ≤ 1) :
    bits .or .u32 (bits .and .u32 (bits .xor .u32 IntKind.u32.max x) y) (bits .and .u32 (bits .xor .u32 IntKind.u32.max (bits .xor .u32 x y)) ((x - y - b) % 4294967296)) / 2147483648 = if x < y + b then 1 else 0 := by
  obtain ⟨X, rfl⟩ : ∃ X : BitVec 32, x = (X.toNat : Int) := ⟨BitVec.ofNat 32 x.toNat, by rw [BitVec.toNat_ofNat]; omega⟩
  obtain ⟨Y, rfl⟩ : ∃ X : BitVec 32, y = (X.toNat : Int) := ⟨BitVec.ofNat 32 y.toNat, by rw [BitVec.toNat_ofNat]; omega⟩
  obtain ⟨D, hD⟩ : ∃ D : BitVec 32, ((X.toNat : Int) - Y.toNat - b) % 4294967296 = (D.toNat : Int) := ⟨BitVec.ofNat 32 (((X.toNat : Int) - Y.toNat - b) % 4294967296).toNat, by rw [BitVec.toNat_ofNat]; omega⟩
  obtain ⟨n, rfl⟩ := Int.eq_ofNat_of_zero_le hb.1
  have hM : IntKind.u32.max = ((4294967295#32).toNat : Int) := by decide
  rw [hD, hM]
  simp only [bits_u32]
  have h := borrow_bv X Y D n (by omega) (by omega)
  have h2 := congrArg (fun z : Nat => (z : Int)) h
  simp only [Int.natCast_ediv] at h2
  refine (show _ = _ from h2).trans ?_
  by_cases c : X.toNat < Y.toNat + n
  · rw [if_pos c, if_pos (by omega)]; rfl
  · rw [if_neg c, if_neg (by omega)]; rfl
end Go.Proofs.YtejlgahkekgceaaV

-- A text of the seat Ytejlgahkekgceaa, written by a program of this session (drive.py).
namespace Go.Proofs.Ytejlgahkekgceaa.PDiv
open Go.RowKit Go.Proofs.YtejlgahkekgceaaW.PrintWords Go.Proofs.YtejlgahkekgceaaW.PrintLast Go.Proofs.YtejlgahkekgceaaW.PrintMore
attribute [local go_sem] max2_int min2_int max_two min_two max_three min_three max_four min_four   -- for this text's walks alone
set_option linter.unusedVariables false
set_option linter.unusedSimpArgs false

-- BY HAND: math/bits.Sub32: function 56
-- IMPORT Derived.Test.YtejlgahkekgceaaVal
-- IMPORT Derived.Test.YtejlgahkekgceaaBits
def bits_Sub32.f (a0 : Int) (a1 : Int) (a2 : Int) : Option (Int × Int) := if (0 ≤ a0 ∧ a0 < 4294967296) ∧ (0 ≤ a1 ∧ a1 < 4294967296) ∧ (0 ≤ a2 ∧ a2 ≤ 1) then some (if a0 < a1 + a2 then (a0 - a1 - a2 + 4294967296, 1) else (a0 - a1 - a2, 0)) else none
theorem sub32_end {a0 a1 a2 r1 r2 : Int} (h : bits_Sub32.f a0 a1 a2 = some (r1, r2)) :
    (a0 - a1 - a2) % 4294967296 = r1 ∧ bits .or .u32 (bits .and .u32 (bits .xor .u32 IntKind.u32.max a0) a1) (bits .and .u32 (bits .xor .u32 IntKind.u32.max (bits .xor .u32 a0 a1)) ((a0 - a1 - a2) % 4294967296)) / 2147483648 = r2 := by
  unfold bits_Sub32.f at h
  by_cases c : (0 ≤ a0 ∧ a0 < 4294967296) ∧ (0 ≤ a1 ∧ a1 < 4294967296) ∧ (0 ≤ a2 ∧ a2 ≤ 1)
  · rw [if_pos c] at h
    rw [YtejlgahkekgceaaV.borrow_int a0 a1 a2 c.1 c.2.1 c.2.2]
    by_cases d : a0 < a1 + a2
    · rw [if_pos d] at h ⊢
      have h2 := Option.some.inj h
      injection h2 with h3 h4
      omega
    · rw [if_neg d] at h ⊢
      have h2 := Option.some.inj h
      injection h2 with h3 h4
      omega
  · rw [if_neg c] at h
    cases h
theorem bits_Sub32.calls (a0 : Int) (a1 : Int) (a2 : Int) (r1 : Int) (r2 : Int) (w : World) (h : bits_Sub32.f a0 a1 a2 = some (r1, r2)) :
    Calls Try.prog 56 #[.int .u32 a0, .int .u32 a1, .int .u32 a2] w fun e w' => e = .returned (.tuple #[.int .u32 r1, .int .u32 r2]) ∧ Drawn0 w w' := by
  have H := Aside0.mk (sub32_end h)
  clear h
  go_enter Try.func56, Try.ntmps56
  go_wp2
  go_ret2
  refine ⟨?_, Drawn0.refl _⟩
  rw [← H.out.1, ← H.out.2]
  rfl

end Go.Proofs.Ytejlgahkekgceaa.PDiv

-- A text of the seat Ytejlgahkekgceaa, written by a program of this session (drive.py).
namespace Go.Proofs.Ytejlgahkekgceaa.PDiv
open Go.RowKit Go.Proofs.YtejlgahkekgceaaW.PrintWords Go.Proofs.YtejlgahkekgceaaW.PrintLast Go.Proofs.YtejlgahkekgceaaW.PrintMore
attribute [local go_sem] max2_int min2_int max_two min_two max_three min_three max_four min_four   -- for this text's walks alone
set_option linter.unusedVariables false
set_option linter.unusedSimpArgs false

/-! ### div_take: function 32 -/
/-! ### bits_Add32: function 48 -/
def bits_Add32.f (a0 : Int) (a1 : Int) (a2 : Int) : Option (Int × Int) := some ((IntKind.u64.wrap ((IntKind.u64.wrap ((IntKind.u64.wrap (a0)) + (IntKind.u64.wrap (a1)))) + (IntKind.u64.wrap (a2)))) % 4294967296, ((IntKind.u64.wrap ((IntKind.u64.wrap ((IntKind.u64.wrap (a0)) + (IntKind.u64.wrap (a1)))) + (IntKind.u64.wrap (a2)))) / 4294967296) % 4294967296)
set_option maxHeartbeats 8000000 in
set_option maxRecDepth 100000 in
theorem bits_Add32.calls (a0 : Int) (a1 : Int) (a2 : Int) (r1 : Int) (r2 : Int) (w : World) (h : bits_Add32.f a0 a1 a2 = some (r1, r2)) :
    Calls Try.prog 48 #[.int .u32 a0, .int .u32 a1, .int .u32 a2] w fun e w' => e = .returned (.tuple #[.int .u32 r1, .int .u32 r2]) ∧ Drawn0 w w' := by
  have H : (some ((IntKind.u64.wrap ((IntKind.u64.wrap ((IntKind.u64.wrap (a0)) + (IntKind.u64.wrap (a1)))) + (IntKind.u64.wrap (a2)))) % 4294967296, ((IntKind.u64.wrap ((IntKind.u64.wrap ((IntKind.u64.wrap (a0)) + (IntKind.u64.wrap (a1)))) + (IntKind.u64.wrap (a2)))) / 4294967296) % 4294967296)) = some (r1, r2) := h
  clear h
  simp only [Option.some.injEq, Prod.mk.injEq] at H
  obtain ⟨rfl, rfl⟩ := H
  go_enter Try.func48, Try.ntmps48
  go_wp2
  go_ret2
  exact ⟨by first | rfl | (simp; done) | (simp [*]; done), by repeat (first | exact Drawn0.refl _ | apply Drawn0.step)⟩

/-! ### div_back: function 33 -/
end Go.Proofs.Ytejlgahkekgceaa.PDiv
