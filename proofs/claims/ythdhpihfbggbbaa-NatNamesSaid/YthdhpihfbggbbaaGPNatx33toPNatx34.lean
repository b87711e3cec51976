/- Texts of the seat Ythdhpihfbggbbaa that belong together, joined. -/
import Derived.Test.YthdhpihfbggbbaaGNatFulltoPNatx1
-- A text of the seat Ythdhpihfbggbbaa, written by a program of this session (drive.py).
namespace Go.Proofs.Ythdhpihfbggbbaa.PNat
open Go.RowKit Go.Proofs.YthdhpihfbggbbaaW.PrintWords Go.Proofs.YthdhpihfbggbbaaW.PrintLast Go.Proofs.YthdhpihfbggbbaaW.PrintMore
attribute [local go_sem] max2_int min2_int max_two min_two max_three min_three max_four min_four   -- for this text's walks alone
set_option linter.unusedVariables false
set_option linter.unusedSimpArgs false

-- BY HAND: a pack of alidadelaw01_of
def alidadelaw01_of_3.f (a0 a1 a2 : Int) : Option (List Int) := some [a0, a1, a2]
theorem alidadelaw01_of_3.calls (a0 a1 a2 : Int) (r : List Int) (w : World) (h : alidadelaw01_of_3.f a0 a1 a2 = some r) {b_ : Nat} (hb_ : b_ = w.heap.size := by first | rfl | simp) :
    Calls Try.prog 27 #[.slice (some ⟨b_, 0, none⟩) 3 3] (w.alloc (.cells #[.int .u32 a0, .int .u32 a1, .int .u32 a2] 37)) fun e w' => ∃ v0_ : Value, e = .returned (v0_) ∧ Kd.R (Kd.int .u32) 37 w' w.heap.size (fun _ => True) v0_ r ∧ Below w.heap.size w w' := by
  subst hb_
  obtain rfl := Option.some.inj h
  have ho : Kd.R (Kd.int .u32) 37 (w.alloc (.cells #[.int .u32 a0, .int .u32 a1, .int .u32 a2] 37)) w.heap.size (fun _ => True) (.slice (some ⟨w.heap.size, 0, none⟩) 3 3) [a0, a1, a2] := Kd.R_of_own (World.ownsRow_lit (base := w.heap.size) (e := 37) (size := 1) w #[.int .u32 a0, .int .u32 a1, .int .u32 a2] 3 (Nat.le_refl _) (by unfold maxLen; omega) (by simp)) (fun _ _ => trivial)
  have HO := Aside0.mk ho
  have HB := Aside0.mk (below_alloc (Below.refl w.heap.size w) (.cells #[.int .u32 a0, .int .u32 a1, .int .u32 a2] 37))
  clear ho
  go_enter Try.func27, Try.ntmps27
  go_wp2
  go_ret
  exact ⟨_, rfl, HO.out, HB.out⟩

end Go.Proofs.Ythdhpihfbggbbaa.PNat

-- A text of the seat Ythdhpihfbggbbaa, written by a program of this session (drive.py).
namespace Go.Proofs.Ythdhpihfbggbbaa.PNat
open Go.RowKit Go.Proofs.YthdhpihfbggbbaaW.PrintWords Go.Proofs.YthdhpihfbggbbaaW.PrintLast Go.Proofs.YthdhpihfbggbbaaW.PrintMore
attribute [local go_sem] max2_int min2_int max_two min_two max_three min_three max_four min_four   -- for this text's walks alone
set_option linter.unusedVariables false
set_option linter.unusedSimpArgs false

-- BY HAND: a pack of alidadelaw01_of
def alidadelaw01_of_4.f (a0 a1 a2 a3 : Int) : Option (List Int) := some [a0, a1, a2, a3]
theorem alidadelaw01_of_4.calls (a0 a1 a2 a3 : Int) (r : List Int) (w : World) (h : alidadelaw01_of_4.f a0 a1 a2 a3 = some r) {b_ : Nat} (hb_ : b_ = w.heap.size := by first | rfl | simp) :
    Calls Try.prog 27 #[.slice (some ⟨b_, 0, none⟩) 4 4] (w.alloc (.cells #[.int .u32 a0, .int .u32 a1, .int .u32 a2, .int .u32 a3] 37)) fun e w' => ∃ v0_ : Value, e = .returned (v0_) ∧ Kd.R (Kd.int .u32) 37 w' w.heap.size (fun _ => True) v0_ r ∧ Below w.heap.size w w' := by
  subst hb_
  obtain rfl := Option.some.inj h
  have ho : Kd.R (Kd.int .u32) 37 (w.alloc (.cells #[.int .u32 a0, .int .u32 a1, .int .u32 a2, .int .u32 a3] 37)) w.heap.size (fun _ => True) (.slice (some ⟨w.heap.size, 0, none⟩) 4 4) [a0, a1, a2, a3] := Kd.R_of_own (World.ownsRow_lit (base := w.heap.size) (e := 37) (size := 1) w #[.int .u32 a0, .int .u32 a1, .int .u32 a2, .int .u32 a3] 4 (Nat.le_refl _) (by unfold maxLen; omega) (by simp)) (fun _ _ => trivial)
  have HO := Aside0.mk ho
  have HB := Aside0.mk (below_alloc (Below.refl w.heap.size w) (.cells #[.int .u32 a0, .int .u32 a1, .int .u32 a2, .int .u32 a3] 37))
  clear ho
  go_enter Try.func27, Try.ntmps27
  go_wp2
  go_ret
  exact ⟨_, rfl, HO.out, HB.out⟩

end Go.Proofs.Ythdhpihfbggbbaa.PNat
