/- Texts of the seat Ytejlgahkekgceaa that belong together, joined. -/
import Derived.Test.YtejlgahkekgceaaPDivx0
-- A text of the seat Ytejlgahkekgceaa, written by a program of this session (drive.py).
namespace Go.Proofs.Ytejlgahkekgceaa.PDiv
open Go.RowKit Go.Proofs.YtejlgahkekgceaaW.PrintWords Go.Proofs.YtejlgahkekgceaaW.PrintLast Go.Proofs.YtejlgahkekgceaaW.PrintMore
attribute [local go_sem] max2_int min2_int max_two min_two max_three min_three max_four min_four   -- for this text's walks alone
set_option linter.unusedVariables false
set_option linter.unusedSimpArgs false

-- BY HAND: a pack of alidadelaw03_of
def alidadelaw03_of_4.f (a0 a1 a2 a3 : Int) : Option (List Int) := some [a0, a1, a2, a3]
theorem alidadelaw03_of_4.calls (a0 a1 a2 a3 : Int) (r : List Int) (w : World) (h : alidadelaw03_of_4.f a0 a1 a2 a3 = some r) {b_ : Nat} (hb_ : b_ = w.heap.size := by first | rfl | simp) :
    Calls Try.prog 21 #[.slice (some ⟨b_, 0, none⟩) 4 4] (w.alloc (.cells #[.int .u32 a0, .int .u32 a1, .int .u32 a2, .int .u32 a3] 23)) fun e w' => ∃ v0_ : Value, e = .returned (v0_) ∧ Kd.R (Kd.int .u32) 23 w' w.heap.size (fun _ => True) v0_ r ∧ Below w.heap.size w w' := by
  subst hb_
  obtain rfl := Option.some.inj h
  have ho : Kd.R (Kd.int .u32) 23 (w.alloc (.cells #[.int .u32 a0, .int .u32 a1, .int .u32 a2, .int .u32 a3] 23)) w.heap.size (fun _ => True) (.slice (some ⟨w.heap.size, 0, none⟩) 4 4) [a0, a1, a2, a3] := Kd.R_of_own (World.ownsRow_lit (base := w.heap.size) (e := 23) (size := 1) w #[.int .u32 a0, .int .u32 a1, .int .u32 a2, .int .u32 a3] 4 (Nat.le_refl _) (by unfold maxLen; omega) (by simp)) (fun _ _ => trivial)
  have HO := Aside0.mk ho
  have HB := Aside0.mk (below_alloc (Below.refl w.heap.size w) (.cells #[.int .u32 a0, .int .u32 a1, .int .u32 a2, .int .u32 a3] 23))
  clear ho
  go_enter Try.func21, Try.ntmps21
  go_wp2
  go_ret
  exact ⟨_, rfl, HO.out, HB.out⟩

end Go.Proofs.Ytejlgahkekgceaa.PDiv

-- A text of the seat Ytejlgahkekgceaa, written by a program of this session (drive.py).
namespace Go.Proofs.Ytejlgahkekgceaa.PDiv
open Go.RowKit Go.Proofs.YtejlgahkekgceaaW.PrintWords Go.Proofs.YtejlgahkekgceaaW.PrintLast Go.Proofs.YtejlgahkekgceaaW.PrintMore
attribute [local go_sem] max2_int min2_int max_two min_two max_three min_three max_four min_four   -- for this text's walks alone
set_option linter.unusedVariables false
set_option linter.unusedSimpArgs false

-- BY HAND: a pack of alidadelaw03_of
def alidadelaw03_of_5.f (a0 a1 a2 a3 a4 : Int) : Option (List Int) := some [a0, a1, a2, a3, a4]
theorem alidadelaw03_of_5.calls (a0 a1 a2 a3 a4 : Int) (r : List Int) (w : World) (h : alidadelaw03_of_5.f a0 a1 a2 a3 a4 = some r) {b_ : Nat} (hb_ : b_ = w.heap.size := by first | rfl | simp) :
    Calls Try.prog 21 #[.slice (some ⟨b_, 0, none⟩) 5 5] (w.alloc (.cells #[.int .u32 a0, .int .u32 a1, .int .u32 a2, .int .u32 a3, .int .u32 a4] 23)) fun e w' => ∃ v0_ : Value, e = .returned (v0_) ∧ Kd.R (Kd.int .u32) 23 w' w.heap.size (fun _ => True) v0_ r ∧ Below w.heap.size w w' := by
  subst hb_
  obtain rfl := Option.some.inj h
  have ho : Kd.R (Kd.int .u32) 23 (w.alloc (.cells #[.int .u32 a0, .int .u32 a1, .int .u32 a2, .int .u32 a3, .int .u32 a4] 23)) w.heap.size (fun _ => True) (.slice (some ⟨w.heap.size, 0, none⟩) 5 5) [a0, a1, a2, a3, a4] := Kd.R_of_own (World.ownsRow_lit (base := w.heap.size) (e := 23) (size := 1) w #[.int .u32 a0, .int .u32 a1, .int .u32 a2, .int .u32 a3, .int .u32 a4] 5 (Nat.le_refl _) (by unfold maxLen; omega) (by simp)) (fun _ _ => trivial)
  have HO := Aside0.mk ho
  have HB := Aside0.mk (below_alloc (Below.refl w.heap.size w) (.cells #[.int .u32 a0, .int .u32 a1, .int .u32 a2, .int .u32 a3, .int .u32 a4] 23))
  clear ho
  go_enter Try.func21, Try.ntmps21
  go_wp2
  go_ret
  exact ⟨_, rfl, HO.out, HB.out⟩

end Go.Proofs.Ytejlgahkekgceaa.PDiv
