-- A text of the seat Ytnngdlehakcdlaa, written by a program of this session (drive.py).
import Derived.Test.YtnngdlehakcdlaaPMulx0
import Derived.Test.YtnngdlehakcdlaaPMulx1
import Derived.Test.YtnngdlehakcdlaaGPacktoPMulx15
namespace Go.Proofs.Ytnngdlehakcdlaa.PMul
open Go.RowKit Go.Proofs.YtnngdlehakcdlaaW.PrintWords Go.Proofs.YtnngdlehakcdlaaW.PrintLast Go.Proofs.YtnngdlehakcdlaaW.PrintMore
attribute [local go_sem] max2_int min2_int max_two min_two max_three min_three max_four min_four   -- for this text's walks alone
set_option linter.unusedVariables false
set_option linter.unusedSimpArgs false

-- BY HAND: a pack of alidadelaw02_long
-- IMPORT Derived.Test.YtnngdlehakcdlaaPack
def alidadelaw02_long_2.f (k : Nat) (l0_0 l0_1 : List Int) : Option (Bool) := alidadelaw02_long.f k [l0_0, l0_1]
theorem alidadelaw02_long_2.mono (l0_0 l0_1 : List Int) : ∀ k, LeO (alidadelaw02_long_2.f k l0_0 l0_1) (alidadelaw02_long_2.f (k + 1) l0_0 l0_1) := alidadelaw02_long.mono [l0_0, l0_1]
theorem alidadelaw02_long_2.calls (k : Nat) (A0_0 : Option Addr) (c0_0 : Nat) (l0_0 : List Int) (A0_1 : Option Addr) (c0_1 : Nat) (l0_1 : List Int) (r : Bool) (w : World) (hr0_0 : Kd.C (Kd.int .u32) w A0_0 l0_0.length l0_0) (hc0_0 : l0_0.length ≤ c0_0) (hr0_1 : Kd.C (Kd.int .u32) w A0_1 l0_1.length l0_1) (hc0_1 : l0_1.length ≤ c0_1) (h : alidadelaw02_long_2.f k l0_0 l0_1 = some r) :
    Calls Try.prog 10 #[.slice (some ⟨w.heap.size, 0, none⟩) 2 2] (w.alloc (.cells #[.slice A0_0 l0_0.length c0_0, .slice A0_1 l0_1.length c0_1] 22)) fun e w' => e = .returned (.bool r) ∧ Below (w.alloc (.cells #[.slice A0_0 l0_0.length c0_0, .slice A0_1 l0_1.length c0_1] 22)).heap.size (w.alloc (.cells #[.slice A0_0 l0_0.length c0_0, .slice A0_1 l0_1.length c0_1] 22)) w' := by
  have P0 := Go.Proofs.YtnngdlehakcdlaaV.pack_C (e := 23) (E := 22) (W := w) (b := w.heap.size) [(A0_0, c0_0, l0_0), (A0_1, c0_1, l0_1)] (by first | rfl | simp) (List.forall_mem_cons.2 ⟨⟨hc0_0, hr0_0⟩, List.forall_mem_cons.2 ⟨⟨hc0_1, hr0_1⟩, List.forall_mem_nil _⟩⟩) (by simp)
  exact alidadelaw02_long.calls k _ 2 [l0_0, l0_1] _ _ P0 (Nat.le_refl _) h

end Go.Proofs.Ytnngdlehakcdlaa.PMul
