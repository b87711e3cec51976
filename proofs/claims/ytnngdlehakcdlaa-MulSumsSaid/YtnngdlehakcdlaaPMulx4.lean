-- A text of the seat Ytnngdlehakcdlaa, written by a program of this session (drive.py).
import Derived.Test.YtnngdlehakcdlaaPMulx0
import Derived.Test.YtnngdlehakcdlaaVal
import Derived.Test.YtnngdlehakcdlaaBits
namespace Go.Proofs.Ytnngdlehakcdlaa.PMul
open Go.RowKit Go.Proofs.YtnngdlehakcdlaaW.PrintWords Go.Proofs.YtnngdlehakcdlaaW.PrintLast Go.Proofs.YtnngdlehakcdlaaW.PrintMore
attribute [local go_sem] max2_int min2_int max_two min_two max_three min_three max_four min_four   -- for this text's walks alone
set_option linter.unusedVariables false
set_option linter.unusedSimpArgs false

-- BY HAND: math/bits.Sub32: function 47
-- IMPORT Derived.Test.YtnngdlehakcdlaaVal
-- IMPORT Derived.Test.YtnngdlehakcdlaaBits
def bits_Sub32.f (a0 : Int) (a1 : Int) (a2 : Int) : Option (Int × Int) := if (0 ≤ a0 ∧ a0 < 4294967296) ∧ (0 ≤ a1 ∧ a1 < 4294967296) ∧ (0 ≤ a2 ∧ a2 ≤ 1) then some (if a0 < a1 + a2 then (a0 - a1 - a2 + 4294967296, 1) else (a0 - a1 - a2, 0)) else none
theorem sub32_end {a0 a1 a2 r1 r2 : Int} (h : bits_Sub32.f a0 a1 a2 = some (r1, r2)) :
    (a0 - a1 - a2) % 4294967296 = r1 ∧ bits .or .u32 (bits .and .u32 (bits .xor .u32 IntKind.u32.max a0) a1) (bits .and .u32 (bits .xor .u32 IntKind.u32.max (bits .xor .u32 a0 a1)) ((a0 - a1 - a2) % 4294967296)) / 2147483648 = r2 := by
  unfold bits_Sub32.f at h
  by_cases c : (0 ≤ a0 ∧ a0 < 4294967296) ∧ (0 ≤ a1 ∧ a1 < 4294967296) ∧ (0 ≤ a2 ∧ a2 ≤ 1)
  · rw [if_pos c] at h
    rw [YtnngdlehakcdlaaV.borrow_int a0 a1 a2 c.1 c.2.1 c.2.2]
    by_cases d : a0 < a1 + a2
    · rw [if_pos d] at h ⊢
      have h2 := Option.some.inj h
      injection h2 with h3 h4
      omega
    · rw [if_neg d] at h ⊢
      have h2 := Option.some.inj h
      injection h2 with h3 h4
      omega
  · rw [if_neg c] at h
    cases h
theorem bits_Sub32.calls (a0 : Int) (a1 : Int) (a2 : Int) (r1 : Int) (r2 : Int) (w : World) (h : bits_Sub32.f a0 a1 a2 = some (r1, r2)) :
    Calls Try.prog 47 #[.int .u32 a0, .int .u32 a1, .int .u32 a2] w fun e w' => e = .returned (.tuple #[.int .u32 r1, .int .u32 r2]) ∧ Drawn0 w w' := by
  have H := Aside0.mk (sub32_end h)
  clear h
  go_enter Try.func47, Try.ntmps47
  go_wp2
  go_ret2
  refine ⟨?_, Drawn0.refl _⟩
  rw [← H.out.1, ← H.out.2]
  rfl

end Go.Proofs.Ytnngdlehakcdlaa.PMul
