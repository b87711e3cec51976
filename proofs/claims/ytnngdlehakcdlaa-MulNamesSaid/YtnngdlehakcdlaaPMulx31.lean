-- A text of the seat Ytnngdlehakcdlaa, written by a program of this session (drive.py).
import Derived.Test.YtnngdlehakcdlaaPMulx0
import Derived.Test.YtnngdlehakcdlaaPMulx13
import Derived.Test.YtnngdlehakcdlaaPack
namespace Go.Proofs.Ytnngdlehakcdlaa.PMul
open Go.RowKit Go.Proofs.YtnngdlehakcdlaaW.PrintWords Go.Proofs.YtnngdlehakcdlaaW.PrintLast Go.Proofs.YtnngdlehakcdlaaW.PrintMore
attribute [local go_sem] max2_int min2_int max_two min_two max_three min_three max_four min_four   -- for this text's walks alone
set_option linter.unusedVariables false
set_option linter.unusedSimpArgs false

-- BY HAND: a pack of mul_Sum
-- IMPORT Derived.Test.YtnngdlehakcdlaaPack
def mul_Sum_2_2.f (k : Nat) (l0_0 l0_1 l1_0 l1_1 : List Int) : Option (List Int) := mul_Sum.f k [l0_0, l0_1] [l1_0, l1_1]
theorem mul_Sum_2_2.calls (k : Nat) (A0_0 : Option Addr) (c0_0 : Nat) (l0_0 : List Int) (A0_1 : Option Addr) (c0_1 : Nat) (l0_1 : List Int) (A1_0 : Option Addr) (c1_0 : Nat) (l1_0 : List Int) (A1_1 : Option Addr) (c1_1 : Nat) (l1_1 : List Int) (r : List Int) (w : World) (hr0_0 : Kd.C (Kd.int .u32) w A0_0 l0_0.length l0_0) (hc0_0 : l0_0.length ≤ c0_0) (hr0_1 : Kd.C (Kd.int .u32) w A0_1 l0_1.length l0_1) (hc0_1 : l0_1.length ≤ c0_1) (hr1_0 : Kd.C (Kd.int .u32) w A1_0 l1_0.length l1_0) (hc1_0 : l1_0.length ≤ c1_0) (hr1_1 : Kd.C (Kd.int .u32) w A1_1 l1_1.length l1_1) (hc1_1 : l1_1.length ≤ c1_1) (h : mul_Sum_2_2.f k l0_0 l0_1 l1_0 l1_1 = some r) :
  Calls Try.prog 22 #[.slice (some ⟨w.heap.size, 0, none⟩) 2 2, .slice (some ⟨w.heap.size + 1, 0, none⟩) 2 2] ((w.alloc (.cells #[.slice A0_0 l0_0.length c0_0, .slice A0_1 l0_1.length c0_1] 22)).alloc (.cells #[.slice A1_0 l1_0.length c1_0, .slice A1_1 l1_1.length c1_1] 22)) fun e w' => ∃ v0_ : Value, e = .returned (v0_) ∧ Kd.R (Kd.int .u32) 23 w' ((w.alloc (.cells #[.slice A0_0 l0_0.length c0_0, .slice A0_1 l0_1.length c0_1] 22)).alloc (.cells #[.slice A1_0 l1_0.length c1_0, .slice A1_1 l1_1.length c1_1] 22)).heap.size (fun _ => True) v0_ r ∧ Below ((w.alloc (.cells #[.slice A0_0 l0_0.length c0_0, .slice A0_1 l0_1.length c0_1] 22)).alloc (.cells #[.slice A1_0 l1_0.length c1_0, .slice A1_1 l1_1.length c1_1] 22)).heap.size ((w.alloc (.cells #[.slice A0_0 l0_0.length c0_0, .slice A0_1 l0_1.length c0_1] 22)).alloc (.cells #[.slice A1_0 l1_0.length c1_0, .slice A1_1 l1_1.length c1_1] 22)) w' := by
 have P0 := Go.Proofs.YtnngdlehakcdlaaV.pack_C (e := 23) (E := 22) (W := w) (b := w.heap.size) [(A0_0, c0_0, l0_0), (A0_1, c0_1, l0_1)] (by first | rfl | simp) (List.forall_mem_cons.2 ⟨⟨hc0_0, hr0_0⟩, List.forall_mem_cons.2 ⟨⟨hc0_1, hr0_1⟩, List.forall_mem_nil _⟩⟩) (by simp)
 have P1 := Go.Proofs.YtnngdlehakcdlaaV.pack_C (e := 23) (E := 22) (W := (w.alloc (.cells #[.slice A0_0 l0_0.length c0_0, .slice A0_1 l0_1.length c0_1] 22))) (b := w.heap.size + 1) [(A1_0, c1_0, l1_0), (A1_1, c1_1, l1_1)] (by first | rfl | simp) (List.forall_mem_cons.2 ⟨⟨hc1_0, (Kd.C_alloc hr1_0 _)⟩, List.forall_mem_cons.2 ⟨⟨hc1_1, (Kd.C_alloc hr1_1 _)⟩, List.forall_mem_nil _⟩⟩) (by simp)
 exact mul_Sum.calls k _ 2 [l0_0, l0_1] _ 2 [l1_0, l1_1] _ _ (Kd.C_alloc P0 _) (Nat.le_refl _) P1 (Nat.le_refl _) h

end Go.Proofs.Ytnngdlehakcdlaa.PMul
