-- A text of the seat Ytejlgahkekgceaa, written by a program of this session (drive.py).
import Derived.Test.YtejlgahkekgceaaPDivx0
import Derived.Test.YtejlgahkekgceaaPDivx2
import Derived.Test.YtejlgahkekgceaaVal
import Derived.Laws.BitsLemmas
import Derived.WalkSpells
import Derived.WalkMore
import Derived.ScopeJumps
namespace Go.Proofs.Ytejlgahkekgceaa.PDiv
open Go.RowKit Go.Proofs.YtejlgahkekgceaaW.PrintWords Go.Proofs.YtejlgahkekgceaaW.PrintLast Go.Proofs.YtejlgahkekgceaaW.PrintMore
attribute [local go_sem] max2_int min2_int max_two min_two max_three min_three max_four min_four   -- for this text's walks alone
set_option linter.unusedVariables false
set_option linter.unusedSimpArgs false

-- BY HAND: alidade/div.guess: function 31
-- IMPORT Derived.Test.YtejlgahkekgceaaVal
-- IMPORT Derived.Laws.BitsLemmas
-- IMPORT Derived.WalkSpells
-- IMPORT Derived.WalkMore
-- IMPORT Derived.ScopeJumps
/-- the rounds of a guess: so many at most, the quotient, what is left -/
def gloop (v1 v0 u0 : Nat) : Nat → Nat → Nat → Nat
  | 0, q, _ => q
  | n + 1, q, r => if q / 4294967296 = 0 ∧ q * v0 ≤ r * 4294967296 + u0 then q else if (r + v1) / 4294967296 = 0 then gloop v1 v0 u0 n (q - 1) (r + v1) else q - 1
theorem gl_ret {v1 v0 u0 q r R : Nat} (h : ∃ n, 4294967296 ≤ r + n * v1 ∧ gloop v1 v0 u0 n q r = R) (hr : r < 4294967296) (hA : q < 4294967296) (hB : q * v0 ≤ r * 4294967296 + u0) : q = R := by
  obtain ⟨n, h1, h2⟩ := h
  rcases n with _ | n
  · omega
  · rw [← h2, gloop, if_pos ⟨by omega, hB⟩]
theorem gl_next {v1 v0 u0 q r R : Nat} (h : ∃ n, 4294967296 ≤ r + n * v1 ∧ gloop v1 v0 u0 n q r = R) (hr : r < 4294967296) (hno : ¬ (q / 4294967296 = 0 ∧ q * v0 ≤ r * 4294967296 + u0)) (hC : r + v1 < 4294967296) : ∃ n, 4294967296 ≤ r + v1 + n * v1 ∧ gloop v1 v0 u0 n (q - 1) (r + v1) = R := by
  obtain ⟨n, h1, h2⟩ := h
  rcases n with _ | n
  · omega
  · rw [gloop, if_neg hno, if_pos (by omega)] at h2
    exact ⟨n, by rw [Nat.add_mul] at h1; omega, h2⟩
theorem gl_stop {v1 v0 u0 q r R : Nat} (h : ∃ n, 4294967296 ≤ r + n * v1 ∧ gloop v1 v0 u0 n q r = R) (hr : r < 4294967296) (hno : ¬ (q / 4294967296 = 0 ∧ q * v0 ≤ r * 4294967296 + u0)) (hC : ¬ r + v1 < 4294967296) : q - 1 = R := by
  obtain ⟨n, h1, h2⟩ := h
  rcases n with _ | n
  · omega
  · rw [gloop, if_neg hno, if_neg (by omega)] at h2
    exact h2
set_option maxHeartbeats 8000000 in
set_option maxRecDepth 100000 in
theorem guess_of (u2 u1 u0 v1 v0 Q0 M0 R : Nat) (h2 : u2 < 4294967296) (h1 : u1 < 4294967296) (h0 : u0 < 4294967296) (hv1 : v1 < 4294967296) (hv0 : v0 < 4294967296) (hp : 0 < v1)
    (HQ : Aside0 ((u2 * 4294967296 + u1) / v1 = Q0)) (HM : Aside0 ((u2 * 4294967296 + u1) % v1 = M0)) (HR : Aside0 (gloop v1 v0 u0 4294967296 Q0 M0 = R)) (w : World) :
    Calls Try.prog 31 #[.int .u32 u2, .int .u32 u1, .int .u32 u0, .int .u32 v1, .int .u32 v0] w fun e w' => e = .returned (.int .u64 (R : Int)) ∧ Drawn0 w w' := by
  have c5 : ((v1 : Int) == 0) = false := beq_eq_false_iff_ne.2 (by omega)
  go_enter Try.func31, Try.ntmps31
  go_wp2
  refine wp_scope_jumps 0 (fun a' w' => Aside0 (Drawn0 w w') ∧ ∃ (q r : Nat) (u11 u14 u15 u16 u17 u18 u19 u20 u21 u22 u23 u24 u25 u26 u27 u28 u29 u30 u31 u32 u33 u34 u35 u36 u37 u38 u39 u40 u41 u42 u43 u44 u45 u46 u47 u48 u49 u50 u51 u52 u53 : Value), a' = { tmps := #[.int .u32 u2, .int .u32 u1, .int .u32 u0, .int .u32 v1, .int .u32 v0, undef, undef, undef, undef, undef, .int .u64 0, u11, .int .u64 q, .int .u64 r, u14, u15, u16, u17, u18, u19, u20, u21, u22, u23, u24, u25, u26, u27, u28, u29, u30, u31, u32, u33, u34, u35, u36, u37, u38, u39, u40, u41, u42, u43, u44, u45, u46, u47, u48, u49, u50, u51, u52, u53], defers := [] } ∧ r < 4294967296 ∧ q < 18446744073709551616 ∧ Aside0 (∃ n, 4294967296 ≤ r + n * v1 ∧ gloop v1 v0 u0 n q r = R)) (fun a' _ => 4294967296 - (intOf (a'.tmps.getD 13 undef)).toNat) (by rfl) ?_ ?_
  · go_wp2
    rw [or32i h2 h1]
    have hz : u2 * 4294967296 + u1 < 18446744073709551616 := by omega
    have q1 : ((u2 * 4294967296 + u1 : Nat) : Int) / (v1 : Int) = (Q0 : Int) := by rw [← HQ.out]; simp
    have q2 : ((u2 * 4294967296 + u1 : Nat) : Int) % (v1 : Int) = (M0 : Int) := by rw [← HM.out]; simp
    have hq : Q0 < 18446744073709551616 := by rw [← HQ.out]; exact Nat.lt_of_le_of_lt (Nat.div_le_self _ _) hz
    have hr : M0 < 4294967296 := by rw [← HM.out]; exact Nat.lt_trans (Nat.mod_lt _ hp) hv1
    have HN : Aside0 (∃ n, 4294967296 ≤ M0 + n * v1 ∧ gloop v1 v0 u0 n Q0 M0 = R) := ⟨4294967296, by have := Nat.mul_le_mul_left 4294967296 (show 1 ≤ v1 from hp); omega, HR.out⟩
    clear HQ HM HR
    generalize u2 * 4294967296 + u1 = Z at *
    go_quiet (fail)
    go_wp2
    go_step3
    simp only [q1, q2]
    have HD : Aside0 (Drawn0 w (w.drewN nq)) := ⟨⟨_, rfl⟩⟩
    clear q1 q2 c5
    generalize w.drewN nq = W at *
    generalize Q0 = q at *
    generalize M0 = r at *
    have eo := or32i hr h0
    by_cases hA : q < 4294967296
    · have e1 : (q : Int) / 4294967296 = 0 := by omega
      have ew : IntKind.u64.wrap ((q : Int) * (v0 : Int)) = ((q * v0 : Nat) : Int) := by
        have hm1 : q * v0 ≤ 4294967295 * 4294967295 := Nat.mul_le_mul (by omega) (by omega)
        rw [d_wraps _ (by rw [← Int.natCast_mul]; omega) (by rw [← Int.natCast_mul]; omega), ← Int.natCast_mul]
      by_cases hB : q * v0 ≤ r * 4294967296 + u0
      · have hle : (q : Int) * (v0 : Int) ≤ (r : Int) * 4294967296 + (u0 : Int) := by rw [← Int.natCast_mul]; omega
        have KN := Aside0.mk (gl_ret HN.out hr hA hB)
        clear HN hB
        go_wp2
        simp only [Exit.jump]
        go_ret
        exact ⟨by rw [KN.out]; rfl, HD.out⟩
      · have hle : decide ((q : Int) * (v0 : Int) ≤ (r : Int) * 4294967296 + (u0 : Int)) = false := decide_eq_false (by rw [← Int.natCast_mul]; omega)
        have hle2 : (r : Int) * 4294967296 + (u0 : Int) < (q : Int) * (v0 : Int) := by rw [← Int.natCast_mul]; omega
        have hq1 : 1 ≤ q := by
          refine Nat.one_le_iff_ne_zero.2 fun e => hB ?_
          rw [e, Nat.zero_mul]; omega
        have hno : ¬ (q / 4294967296 = 0 ∧ q * v0 ≤ r * 4294967296 + u0) := fun h => hB h.2
        have em : (q : Int) - 1 = ((q - 1 : Nat) : Int) := by omega
        by_cases hC : r + v1 < 4294967296
        · have e3 : (((r : Int) + (v1 : Int)) / 4294967296 == 0) = true := beq_iff_eq.2 (by omega)
          have KN := Aside0.mk (gl_next HN.out hr hno hC)
          clear HN hno
          go_wp2
          go_step3
          refine ⟨rfl, HD, q - 1, r + v1, _, _, _, _, _, _, _, _, _, _, _, _, _, _, _, _, _, _, _, _, _, _, _, _, _, _, _, _, _, _, _, _, _, _, _, _, _, _, _, _, _, rfl, hC, by omega, KN⟩
        · have e3 : (((r : Int) + (v1 : Int)) / 4294967296 == 0) = false := beq_eq_false_iff_ne.2 (by omega)
          have KN := Aside0.mk (gl_stop HN.out hr hno hC)
          clear HN hno
          go_wp2
          simp only [Exit.jump]
          go_ret
          exact ⟨by rw [KN.out]; rfl, HD.out⟩
    · have e1 : ((q : Int) / 4294967296 == 0) = false := beq_eq_false_iff_ne.2 (by omega)
      have hq1 : 1 ≤ q := by omega
      have hno : ¬ (q / 4294967296 = 0 ∧ q * v0 ≤ r * 4294967296 + u0) := fun h => by omega
      have em : (q : Int) - 1 = ((q - 1 : Nat) : Int) := by omega
      by_cases hC : r + v1 < 4294967296
      · have e3 : (((r : Int) + (v1 : Int)) / 4294967296 == 0) = true := beq_iff_eq.2 (by omega)
        have KN := Aside0.mk (gl_next HN.out hr hno hC)
        clear HN hno
        go_wp2
        go_step3
        refine ⟨rfl, HD, q - 1, r + v1, _, _, _, _, _, _, _, _, _, _, _, _, _, _, _, _, _, _, _, _, _, _, _, _, _, _, _, _, _, _, _, _, _, _, _, _, _, _, _, _, _, rfl, hC, by omega, KN⟩
      · have e3 : (((r : Int) + (v1 : Int)) / 4294967296 == 0) = false := beq_eq_false_iff_ne.2 (by omega)
        have KN := Aside0.mk (gl_stop HN.out hr hno hC)
        clear HN hno
        go_wp2
        simp only [Exit.jump]
        go_ret
        exact ⟨by rw [KN.out]; rfl, HD.out⟩
  · rintro a' W ⟨HD, q, r, u11, u14, u15, u16, u17, u18, u19, u20, u21, u22, u23, u24, u25, u26, u27, u28, u29, u30, u31, u32, u33, u34, u35, u36, u37, u38, u39, u40, u41, u42, u43, u44, u45, u46, u47, u48, u49, u50, u51, u52, u53, rfl, hr, hq, HN⟩
    clear HQ HM HR c5
    have eo := or32i hr h0
    by_cases hA : q < 4294967296
    · have e1 : (q : Int) / 4294967296 = 0 := by omega
      have ew : IntKind.u64.wrap ((q : Int) * (v0 : Int)) = ((q * v0 : Nat) : Int) := by
        have hm1 : q * v0 ≤ 4294967295 * 4294967295 := Nat.mul_le_mul (by omega) (by omega)
        rw [d_wraps _ (by rw [← Int.natCast_mul]; omega) (by rw [← Int.natCast_mul]; omega), ← Int.natCast_mul]
      by_cases hB : q * v0 ≤ r * 4294967296 + u0
      · have hle : (q : Int) * (v0 : Int) ≤ (r : Int) * 4294967296 + (u0 : Int) := by rw [← Int.natCast_mul]; omega
        have KN := Aside0.mk (gl_ret HN.out hr hA hB)
        clear HN hB
        go_wp2
        simp only [Exit.jump]
        go_ret
        exact ⟨by rw [KN.out]; rfl, HD.out⟩
      · have hle : decide ((q : Int) * (v0 : Int) ≤ (r : Int) * 4294967296 + (u0 : Int)) = false := decide_eq_false (by rw [← Int.natCast_mul]; omega)
        have hle2 : (r : Int) * 4294967296 + (u0 : Int) < (q : Int) * (v0 : Int) := by rw [← Int.natCast_mul]; omega
        have hq1 : 1 ≤ q := by
          refine Nat.one_le_iff_ne_zero.2 fun e => hB ?_
          rw [e, Nat.zero_mul]; omega
        have hno : ¬ (q / 4294967296 = 0 ∧ q * v0 ≤ r * 4294967296 + u0) := fun h => hB h.2
        have em : (q : Int) - 1 = ((q - 1 : Nat) : Int) := by omega
        by_cases hC : r + v1 < 4294967296
        · have e3 : (((r : Int) + (v1 : Int)) / 4294967296 == 0) = true := beq_iff_eq.2 (by omega)
          have KN := Aside0.mk (gl_next HN.out hr hno hC)
          clear HN hno
          go_wp2
          go_step3
          refine ⟨rfl, ⟨HD, q - 1, r + v1, _, _, _, _, _, _, _, _, _, _, _, _, _, _, _, _, _, _, _, _, _, _, _, _, _, _, _, _, _, _, _, _, _, _, _, _, _, _, _, _, _, rfl, hC, by omega, KN⟩, ?_⟩
          simp [intOf]; omega
        · have e3 : (((r : Int) + (v1 : Int)) / 4294967296 == 0) = false := beq_eq_false_iff_ne.2 (by omega)
          have KN := Aside0.mk (gl_stop HN.out hr hno hC)
          clear HN hno
          go_wp2
          simp only [Exit.jump]
          go_ret
          exact ⟨by rw [KN.out]; rfl, HD.out⟩
    · have e1 : ((q : Int) / 4294967296 == 0) = false := beq_eq_false_iff_ne.2 (by omega)
      have hq1 : 1 ≤ q := by omega
      have hno : ¬ (q / 4294967296 = 0 ∧ q * v0 ≤ r * 4294967296 + u0) := fun h => by omega
      have em : (q : Int) - 1 = ((q - 1 : Nat) : Int) := by omega
      by_cases hC : r + v1 < 4294967296
      · have e3 : (((r : Int) + (v1 : Int)) / 4294967296 == 0) = true := beq_iff_eq.2 (by omega)
        have KN := Aside0.mk (gl_next HN.out hr hno hC)
        clear HN hno
        go_wp2
        go_step3
        refine ⟨rfl, ⟨HD, q - 1, r + v1, _, _, _, _, _, _, _, _, _, _, _, _, _, _, _, _, _, _, _, _, _, _, _, _, _, _, _, _, _, _, _, _, _, _, _, _, _, _, _, _, _, rfl, hC, by omega, KN⟩, ?_⟩
        simp [intOf]; omega
      · have e3 : (((r : Int) + (v1 : Int)) / 4294967296 == 0) = false := beq_eq_false_iff_ne.2 (by omega)
        have KN := Aside0.mk (gl_stop HN.out hr hno hC)
        clear HN hno
        go_wp2
        simp only [Exit.jump]
        go_ret
        exact ⟨by rw [KN.out]; rfl, HD.out⟩
end Go.Proofs.Ytejlgahkekgceaa.PDiv
