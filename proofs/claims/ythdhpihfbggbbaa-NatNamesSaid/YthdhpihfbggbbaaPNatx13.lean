-- A text of the seat Ythdhpihfbggbbaa, written by a program of this session (drive.py).
import Derived.Test.YthdhpihfbggbbaaGNatFulltoPNatx1
import Derived.Test.YthdhpihfbggbbaaVal
import Derived.Lib.BitFns
namespace Go.Proofs.Ythdhpihfbggbbaa.PNat
open Go.RowKit Go.Proofs.YthdhpihfbggbbaaW.PrintWords Go.Proofs.YthdhpihfbggbbaaW.PrintLast Go.Proofs.YthdhpihfbggbbaaW.PrintMore
attribute [local go_sem] max2_int min2_int max_two min_two max_three min_three max_four min_four   -- for this text's walks alone
set_option linter.unusedVariables false
set_option linter.unusedSimpArgs false

-- BY HAND: math/bits.Len32: function 44
-- IMPORT Derived.Test.YthdhpihfbggbbaaVal
-- IMPORT Derived.Lib.BitFns
def bits_Len32.f (a0 : Int) : Option Int := if 0 ≤ a0 ∧ a0 < 4294967296 then some (Lib.bitLen a0.toNat : Int) else none
set_option maxHeartbeats 4000000 in
set_option maxRecDepth 100000 in
theorem bits_Len32.of (x : Int) (w : World) (h0 : 0 ≤ x) (h1 : x ≤ 4294967295) :
    Calls Try.prog 44 #[.int .u32 x] w fun e w' => e = .returned (.int .i64 (Lib.bitLen x.toNat)) ∧ w' = w := by
  have t9 := Try.underlying9
  have u9 := run_underlying t9
  by_cases c1 : 65536 ≤ x
  · by_cases c2 : 256 ≤ x / 65536
    · have b1 : 0 ≤ x / 65536 / 256 := by omega
      have b2 : x / 65536 / 256 ≤ 255 := by omega
      go_enter Try.func44, Try.ntmps44
      go_wp2
      go_ret
      refine ⟨congrArg Ending.returned (congrArg (Value.int IntKind.i64) ?_), rfl⟩
      rw [Lib.len8_of (x / 65536 / 256) (by omega) (by omega)]
      have e : (x / 65536 / 256).toNat = x.toNat / 16777216 := by omega
      have l := Lib.bitLen_le8' (x / 65536 / 256) (by omega) (by omega)
      have s := Lib.bitLen_shift24 x.toNat (by omega) (by omega)
      rw [e] at l ⊢
      unfold wrap64
      omega
    · have b1 : 0 ≤ x / 65536 := by omega
      have b2 : x / 65536 ≤ 255 := by omega
      go_enter Try.func44, Try.ntmps44
      go_wp2
      go_ret
      refine ⟨congrArg Ending.returned (congrArg (Value.int IntKind.i64) ?_), rfl⟩
      rw [Lib.len8_of (x / 65536) (by omega) (by omega)]
      have e : (x / 65536).toNat = x.toNat / 65536 := by omega
      have l := Lib.bitLen_le8' (x / 65536) (by omega) (by omega)
      have s := Lib.bitLen_shift16 x.toNat (by omega) (by omega)
      rw [e] at l ⊢
      unfold wrap64
      omega
  · by_cases c2 : 256 ≤ x
    · have b1 : 0 ≤ x / 256 := by omega
      have b2 : x / 256 ≤ 255 := by omega
      go_enter Try.func44, Try.ntmps44
      go_wp2
      go_ret
      refine ⟨congrArg Ending.returned (congrArg (Value.int IntKind.i64) ?_), rfl⟩
      rw [Lib.len8_of (x / 256) (by omega) (by omega)]
      have e : (x / 256).toNat = x.toNat / 256 := by omega
      have l := Lib.bitLen_le8' (x / 256) (by omega) (by omega)
      have s := Lib.bitLen_shift8 x.toNat (by omega) (by omega)
      rw [e] at l ⊢
      unfold wrap64
      omega
    · have b2 : x ≤ 255 := by omega
      go_enter Try.func44, Try.ntmps44
      go_wp2
      go_ret
      refine ⟨congrArg Ending.returned (congrArg (Value.int IntKind.i64) ?_), rfl⟩
      rw [Lib.len8_of x (by omega) (by omega)]
      have l := Lib.bitLen_le8' x (by omega) (by omega)
      unfold wrap64
      omega
theorem bits_Len32.calls (a0 : Int) (r : Int) (w : World) (h : bits_Len32.f a0 = some r) :
    Calls Try.prog 44 #[.int .u32 a0] w fun e w' => e = .returned (.int .i64 r) ∧ Drawn0 w w' := by
  unfold bits_Len32.f at h
  by_cases c : 0 ≤ a0 ∧ a0 < 4294967296
  · rw [if_pos c] at h
    obtain rfl := Option.some.inj h
    exact (bits_Len32.of a0 w c.1 (by omega)).mono fun e w' ⟨h1, h2⟩ => ⟨h1, h2 ▸ Drawn0.refl _⟩
  · rw [if_neg c] at h; cases h

end Go.Proofs.Ythdhpihfbggbbaa.PNat
