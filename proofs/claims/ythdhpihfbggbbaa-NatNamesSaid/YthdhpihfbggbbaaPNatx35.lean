-- A text of the seat Ythdhpihfbggbbaa, written by a program of this session (drive.py).
import Derived.Test.YthdhpihfbggbbaaGNatFulltoPNatx1
import Derived.Test.YthdhpihfbggbbaaGNatFulltoPNatx1
import Derived.Test.YthdhpihfbggbbaaPNatx5
import Derived.Test.YthdhpihfbggbbaaPNatx7
import Derived.Test.YthdhpihfbggbbaaPNatx9
import Derived.Test.YthdhpihfbggbbaaPNatx10
import Derived.Test.YthdhpihfbggbbaaPNatx11
import Derived.Test.YthdhpihfbggbbaaPNatx12
import Derived.Test.YthdhpihfbggbbaaGPNatx14toPNatx16
import Derived.Test.YthdhpihfbggbbaaGPNatx14toPNatx16
import Derived.Test.YthdhpihfbggbbaaGPNatx14toPNatx16
import Derived.Test.YthdhpihfbggbbaaPNatx17
import Derived.Test.YthdhpihfbggbbaaPNatx25
import Derived.Test.YthdhpihfbggbbaaPNatx28
import Derived.Test.YthdhpihfbggbbaaGPNatx33toPNatx34
import Derived.Test.YthdhpihfbggbbaaGPNatx33toPNatx34
namespace Go.Proofs.Ythdhpihfbggbbaa.PNat
open Go.RowKit Go.Proofs.YthdhpihfbggbbaaW.PrintWords Go.Proofs.YthdhpihfbggbbaaW.PrintLast Go.Proofs.YthdhpihfbggbbaaW.PrintMore
attribute [local go_sem] max2_int min2_int max_two min_two max_three min_three max_four min_four   -- for this text's walks alone
set_option linter.unusedVariables false
set_option linter.unusedSimpArgs false

/-! ### alidadelaw01_NatNames: function 9 -/
mutual
def alidadelaw01_NatNames.j0 : Nat → Bool → Option (Bool)
  | 0, _ => none
  | k + 1, x149 => if x149 = true then (none) else ((alidadelaw01_of_2.f 5 0).bind fun t590 => ((nat_Low.f k t590).bind fun bt593 => ((nat_Sub.f t590 ([] : List Int)).bind fun bt595 => ((alidadelaw01_of_1.f 9).bind fun t599 => ((nat_Sub.f t599 t590).bind fun bt602 => (if bt593.2 = true then (alidadelaw01_NatNames.j1 k true) else (if bt595.2 = true then (alidadelaw01_NatNames.j1 k true) else (if bt602.2 = true then (alidadelaw01_NatNames.j1 k true) else ((alidadelaw01_of_1.f 1).bind fun t606 => ((nat_Add.f t590 t606).bind fun t609 => ((alidadelaw01_of_1.f 1).bind fun t612 => ((nat_Add.f t612 t590).bind fun t615 => ((nat_Shl.f t590 1).bind fun t618 => ((nat_Shr.f t590 1).bind fun t621 => (if (wrap64 ((wrap64 ((wrap64 ((t609.length : Int) + (t615.length : Int))) + (t618.length : Int))) + (t621.length : Int))) = 0 then ((nat_Bits.f t590).bind fun t624 => (if t624 = 0 then ((nat_Bit.f t590 0).bind fun t625 => (if t625 = true then (alidadelaw01_NatNames.j1 k true) else ((nat_Cmp.f t590 ([] : List Int)).bind fun t626 => (if t626 = 0 then ((alidadelaw01_of_1.f 0).bind fun t627 => ((nat_May.f t627).bind fun t630 => (alidadelaw01_NatNames.j1 k t630))) else (alidadelaw01_NatNames.j1 k true))))) else (alidadelaw01_NatNames.j1 k true))) else (alidadelaw01_NatNames.j1 k true))))))))))))))))
def alidadelaw01_NatNames.j1 : Nat → Bool → Option (Bool)
  | 0, _ => none
  | k + 1, x216 => if x216 = true then (none) else ((nat_Bits.f ([] : List Int)).bind fun t631 => (if t631 = 0 then ((alidadelaw01_of_2.f 0 1).bind fun t632 => ((nat_Bits.f t632).bind fun t635 => (if t635 = 33 then ((alidadelaw01_of_1.f 4294967295).bind fun t636 => ((nat_Bits.f t636).bind fun t639 => (if t639 = 32 then ((alidadelaw01_of_2.f 0 1).bind fun t640 => ((nat_Bit.f t640 32).bind fun t643 => (if t643 = true then ((alidadelaw01_of_2.f 0 1).bind fun t644 => ((nat_Bit.f t644 31).bind fun t647 => (if t647 = true then (alidadelaw01_NatNames.j2 k true) else ((alidadelaw01_of_1.f 1).bind fun t648 => ((nat_Bit.f t648 (-1)).bind fun t651 => (if t651 = true then (alidadelaw01_NatNames.j2 k true) else ((alidadelaw01_of_1.f 1).bind fun t652 => ((nat_Bit.f t652 32).bind fun t655 => (if t655 = true then (alidadelaw01_NatNames.j2 k true) else ((alidadelaw01_of_1.f 1).bind fun t656 => ((nat_Shl.f t656 (-1)).bind fun t659 => ((alidadelaw01_of_1.f 1).bind fun t662 => ((nat_Shr.f t662 (-1)).bind fun t665 => ((alidadelaw01_of_1.f 1).bind fun t668 => ((nat_Shr.f t668 1).bind fun t671 => ((alidadelaw01_of_1.f 1).bind fun t674 => ((nat_Shr.f t674 99).bind fun t677 => ((nat_Shl.f ([] : List Int) 9).bind fun t680 => (if (wrap64 ((wrap64 ((wrap64 ((wrap64 ((t659.length : Int) + (t665.length : Int))) + (t671.length : Int))) + (t677.length : Int))) + (t680.length : Int))) = 0 then ((alidadelaw01_of_1.f 4294967295).bind fun t683 => ((nat_Shl.f t683 4).bind fun t686 => ((alidadelaw01_of_2.f 4294967280 15).bind fun t689 => ((alidadelaw01_same.f k t686 t689).bind fun t692 => (if t692 = true then ((alidadelaw01_of_2.f 4294967295 4294967295).bind fun t693 => ((nat_Shr.f t693 4).bind fun t696 => ((alidadelaw01_of_2.f 4294967295 268435455).bind fun t699 => ((alidadelaw01_same.f k t696 t699).bind fun t702 => (if t702 = true then ((alidadelaw01_of_1.f 3).bind fun t703 => ((nat_Shl.f t703 64).bind fun t706 => ((alidadelaw01_of_3.f 0 0 3).bind fun t709 => ((alidadelaw01_same.f k t706 t709).bind fun t712 => (if t712 = true then ((alidadelaw01_of_3.f 1 2 3).bind fun t713 => ((nat_Shr.f t713 32).bind fun t716 => ((alidadelaw01_of_2.f 2 3).bind fun t719 => ((alidadelaw01_same.f k t716 t719).bind fun t722 => (alidadelaw01_NatNames.j2 k (!t722)))))) else (alidadelaw01_NatNames.j2 k true)))))) else (alidadelaw01_NatNames.j2 k true)))))) else (alidadelaw01_NatNames.j2 k true)))))) else (alidadelaw01_NatNames.j2 k true)))))))))))))))))))) else (alidadelaw01_NatNames.j2 k true)))) else (alidadelaw01_NatNames.j2 k true)))) else (alidadelaw01_NatNames.j2 k true)))) else (alidadelaw01_NatNames.j2 k true)))
def alidadelaw01_NatNames.j2 : Nat → Bool → Option (Bool)
  | 0, _ => none
  | k + 1, x312 => if x312 = true then (none) else (if 65536 ≤ 70368744177664 then (alidadelaw01_NatNames.l0 k (List.replicate 65536 0) 0) else (none))
def alidadelaw01_NatNames.l0 : Nat → List Int → Int → Option (Bool)
  | 0, _, _ => none
  | k + 1, x20, x21 => if x21 < 65536 then (if 0 ≤ x21 then (if x21 < (x20.length : Int) then (alidadelaw01_NatNames.l0 k (x20.set (x21 : Int).toNat 4294967295) (wrap64 (x21 + 1))) else (none)) else (none)) else ((nat_May.f x20).bind fun t727 => (if t727 = true then (if 65536 ≤ (x20.length : Int) then ((some (x20.take 65536 : List Int)).bind fun y728 => (if y728.length < 35184372088832 then ((nat_May.f (y728 ++ [1])).bind fun t735 => (if t735 = true then (none) else ((alidadelaw01_of_1.f 1).bind fun t736 => ((nat_Add.f x20 t736).bind fun t739 => (if (t739.length : Int) = 0 then (if 65535 ≤ (x20.length : Int) then ((alidadelaw01_of_1.f 1).bind fun t746 => ((nat_Add.f (x20.take 65535) t746).bind fun t749 => (if (t749.length : Int) = 65536 then ((nat_Shl.f x20 1).bind fun t752 => (if (t752.length : Int) = 0 then ((alidadelaw01_of_1.f 1).bind fun t755 => ((nat_Shl.f t755 2097151).bind fun t758 => (if (t758.length : Int) = 65536 then ((alidadelaw01_of_1.f 1).bind fun t761 => ((nat_Shl.f t761 2097152).bind fun t764 => (some ((t764.length : Int) == 0)))) else (none)))) else (none))) else (none)))) else (none)) else (none)))))) else (none))) else (none)) else (none)))
end
def alidadelaw01_NatNames.f (k : Nat)  : Option (Bool) := (alidadelaw01_awake.f k).bind fun t504 => (if t504 = true then ((alidadelaw01_of_2.f 4294967295 4294967295).bind fun t505 => ((nat_Low.f k t505).bind fun bt508 => ((alidadelaw01_of_3.f 0 0 1).bind fun t510 => ((nat_Low.f k t510).bind fun bt513 => ((nat_Low.f k ([] : List Int)).bind fun bt515 => ((alidadelaw01_of_3.f 0 0 1).bind fun t517 => ((alidadelaw01_of_1.f 1).bind fun t520 => ((nat_Sub.f t517 t520).bind fun bt523 => ((alidadelaw01_of_1.f 1).bind fun t527 => ((alidadelaw01_of_2.f 0 1).bind fun t530 => ((nat_Sub.f t527 t530).bind fun bt533 => ((alidadelaw01_of_2.f 7 7).bind fun t537 => ((alidadelaw01_of_2.f 7 7).bind fun t540 => ((nat_Sub.f t537 t540).bind fun bt543 => (if bt508.1 = 18446744073709551615 then (if bt508.2 = true then (if bt513.2 = true then (alidadelaw01_NatNames.j0 k true) else (if bt515.1 = 0 then (if bt515.2 = true then (if bt523.2 = true then ((alidadelaw01_of_2.f 4294967295 4294967295).bind fun t547 => ((alidadelaw01_same.f k bt523.1 t547).bind fun t550 => (if t550 = true then (if bt533.2 = true then (alidadelaw01_NatNames.j0 k true) else (if bt543.2 = true then (if (bt543.1.length : Int) = 0 then ((alidadelaw01_of_3.f 4294967295 4294967295 4294967295).bind fun t551 => ((alidadelaw01_of_1.f 1).bind fun t554 => ((nat_Add.f t551 t554).bind fun t557 => ((alidadelaw01_of_4.f 0 0 0 1).bind fun t560 => ((alidadelaw01_same.f k t557 t560).bind fun t563 => (if t563 = true then ((nat_Of.f k 18446744073709551615).bind fun t564 => ((alidadelaw01_of_2.f 4294967295 4294967295).bind fun t567 => ((alidadelaw01_same.f k t564 t567).bind fun t570 => (if t570 = true then ((alidadelaw01_of_2.f 0 1).bind fun t571 => ((alidadelaw01_of_1.f 4294967295).bind fun t574 => ((nat_Cmp.f t571 t574).bind fun t577 => (if t577 = 1 then ((alidadelaw01_of_2.f 1 2).bind fun t578 => ((alidadelaw01_of_2.f 2 1).bind fun t581 => ((nat_Cmp.f t578 t581).bind fun t584 => (if t584 = 1 then ((alidadelaw01_of_1.f 1).bind fun t585 => ((nat_Cmp.f ([] : List Int) t585).bind fun t588 => (if t588 = (-1) then ((nat_Cmp.f ([] : List Int) ([] : List Int)).bind fun t589 => (alidadelaw01_NatNames.j0 k (t589 != 0))) else (alidadelaw01_NatNames.j0 k true)))) else (alidadelaw01_NatNames.j0 k true))))) else (alidadelaw01_NatNames.j0 k true))))) else (alidadelaw01_NatNames.j0 k true))))) else (alidadelaw01_NatNames.j0 k true))))))) else (alidadelaw01_NatNames.j0 k true)) else (alidadelaw01_NatNames.j0 k true))) else (alidadelaw01_NatNames.j0 k true)))) else (alidadelaw01_NatNames.j0 k true)) else (alidadelaw01_NatNames.j0 k true)) else (alidadelaw01_NatNames.j0 k true))) else (alidadelaw01_NatNames.j0 k true)) else (alidadelaw01_NatNames.j0 k true)))))))))))))))) else (none))
theorem alidadelaw01_NatNames.mono_l : ∀ k, (∀ y0, LeO (alidadelaw01_NatNames.j0 k y0) (alidadelaw01_NatNames.j0 (k + 1) y0)) ∧ (∀ y0, LeO (alidadelaw01_NatNames.j1 k y0) (alidadelaw01_NatNames.j1 (k + 1) y0)) ∧ (∀ y0, LeO (alidadelaw01_NatNames.j2 k y0) (alidadelaw01_NatNames.j2 (k + 1) y0)) ∧ (∀ y0 y1, LeO (alidadelaw01_NatNames.l0 k y0 y1) (alidadelaw01_NatNames.l0 (k + 1) y0 y1))
  | 0 => ⟨fun _ r h => by simp [alidadelaw01_NatNames.j0] at h, fun _ r h => by simp [alidadelaw01_NatNames.j1] at h, fun _ r h => by simp [alidadelaw01_NatNames.j2] at h, fun _ _ r h => by simp [alidadelaw01_NatNames.l0] at h⟩
  | k + 1 => by
    obtain ⟨ih0, ih1, ih2, ih3⟩ := alidadelaw01_NatNames.mono_l k
    refine ⟨?_, ?_, ?_, ?_⟩
    · intro y0
      unfold alidadelaw01_NatNames.j0
      repeat' first
      | (with_reducible exact ih0 _)
      | (with_reducible exact ih1 _)
      | (with_reducible exact ih2 _)
      | (with_reducible exact ih3 _ _)
      | (with_reducible exact alidadelaw01_awake.mono _)
      | (with_reducible exact alidadelaw01_same.mono _ _ _)
      | (with_reducible exact nat_Low.mono _ _)
      | (with_reducible exact nat_Of.mono _ _)
      | (with_reducible exact LeO.refl _)
      | (with_reducible exact LeO.none _)
      | (with_reducible refine LeO.ite ?_ ?_)
      | (with_reducible refine LeO.bind ?_ (fun _ => ?_))
      | exact ih0 _
      | exact ih1 _
      | exact ih2 _
      | exact ih3 _ _
      | exact alidadelaw01_awake.mono _
      | exact alidadelaw01_same.mono _ _ _
      | exact nat_Low.mono _ _
      | exact nat_Of.mono _ _
      | exact LeO.none _
      | refine LeO.ite ?_ ?_
      | refine LeO.bind ?_ (fun _ => ?_)
    · intro y0
      unfold alidadelaw01_NatNames.j1
      repeat' first
      | (with_reducible exact ih0 _)
      | (with_reducible exact ih1 _)
      | (with_reducible exact ih2 _)
      | (with_reducible exact ih3 _ _)
      | (with_reducible exact alidadelaw01_awake.mono _)
      | (with_reducible exact alidadelaw01_same.mono _ _ _)
      | (with_reducible exact nat_Low.mono _ _)
      | (with_reducible exact nat_Of.mono _ _)
      | (with_reducible exact LeO.refl _)
      | (with_reducible exact LeO.none _)
      | (with_reducible refine LeO.ite ?_ ?_)
      | (with_reducible refine LeO.bind ?_ (fun _ => ?_))
      | exact ih0 _
      | exact ih1 _
      | exact ih2 _
      | exact ih3 _ _
      | exact alidadelaw01_awake.mono _
      | exact alidadelaw01_same.mono _ _ _
      | exact nat_Low.mono _ _
      | exact nat_Of.mono _ _
      | exact LeO.none _
      | refine LeO.ite ?_ ?_
      | refine LeO.bind ?_ (fun _ => ?_)
    · intro y0
      unfold alidadelaw01_NatNames.j2
      repeat' first
      | (with_reducible exact ih0 _)
      | (with_reducible exact ih1 _)
      | (with_reducible exact ih2 _)
      | (with_reducible exact ih3 _ _)
      | (with_reducible exact alidadelaw01_awake.mono _)
      | (with_reducible exact alidadelaw01_same.mono _ _ _)
      | (with_reducible exact nat_Low.mono _ _)
      | (with_reducible exact nat_Of.mono _ _)
      | (with_reducible exact LeO.refl _)
      | (with_reducible exact LeO.none _)
      | (with_reducible refine LeO.ite ?_ ?_)
      | (with_reducible refine LeO.bind ?_ (fun _ => ?_))
      | exact ih0 _
      | exact ih1 _
      | exact ih2 _
      | exact ih3 _ _
      | exact alidadelaw01_awake.mono _
      | exact alidadelaw01_same.mono _ _ _
      | exact nat_Low.mono _ _
      | exact nat_Of.mono _ _
      | exact LeO.none _
      | refine LeO.ite ?_ ?_
      | refine LeO.bind ?_ (fun _ => ?_)
    · intro y0 y1
      unfold alidadelaw01_NatNames.l0
      repeat' first
      | (with_reducible exact ih0 _)
      | (with_reducible exact ih1 _)
      | (with_reducible exact ih2 _)
      | (with_reducible exact ih3 _ _)
      | (with_reducible exact alidadelaw01_awake.mono _)
      | (with_reducible exact alidadelaw01_same.mono _ _ _)
      | (with_reducible exact nat_Low.mono _ _)
      | (with_reducible exact nat_Of.mono _ _)
      | (with_reducible exact LeO.refl _)
      | (with_reducible exact LeO.none _)
      | (with_reducible refine LeO.ite ?_ ?_)
      | (with_reducible refine LeO.bind ?_ (fun _ => ?_))
      | exact ih0 _
      | exact ih1 _
      | exact ih2 _
      | exact ih3 _ _
      | exact alidadelaw01_awake.mono _
      | exact alidadelaw01_same.mono _ _ _
      | exact nat_Low.mono _ _
      | exact nat_Of.mono _ _
      | exact LeO.none _
      | refine LeO.ite ?_ ?_
      | refine LeO.bind ?_ (fun _ => ?_)
theorem alidadelaw01_NatNames.mono : ∀ k, LeO (alidadelaw01_NatNames.f k ) (alidadelaw01_NatNames.f (k + 1) ) := by
  intro  k
  obtain ⟨ih0, ih1, ih2, ih3⟩ := alidadelaw01_NatNames.mono_l k
  unfold alidadelaw01_NatNames.f
  repeat' first
      | (with_reducible exact ih0 _)
      | (with_reducible exact ih1 _)
      | (with_reducible exact ih2 _)
      | (with_reducible exact ih3 _ _)
      | (with_reducible exact alidadelaw01_awake.mono _)
      | (with_reducible exact alidadelaw01_same.mono _ _ _)
      | (with_reducible exact nat_Low.mono _ _)
      | (with_reducible exact nat_Of.mono _ _)
      | (with_reducible exact LeO.refl _)
      | (with_reducible exact LeO.none _)
      | (with_reducible refine LeO.ite ?_ ?_)
      | (with_reducible refine LeO.bind ?_ (fun _ => ?_))
      | exact ih0 _
      | exact ih1 _
      | exact ih2 _
      | exact ih3 _ _
      | exact alidadelaw01_awake.mono _
      | exact alidadelaw01_same.mono _ _ _
      | exact nat_Low.mono _ _
      | exact nat_Of.mono _ _
      | exact LeO.none _
      | refine LeO.ite ?_ ?_
      | refine LeO.bind ?_ (fun _ => ?_)
def alidadelaw01_NatNames.T24 : Bool × List (List Nat × List Nat) := (true, [([], []), ([0], [0]), ([1, 1], [1]), ([2], [2]), ([3, 2], [2, 3]), ([2], [2]), ([4, 5, 2, 2], [2, 4, 5]), ([6, 6, 2], [2, 6]), ([7, 2], [2, 7]), ([2, 8], [2, 8]), ([9, 7], [9]), ([10], [10]), ([10], [10]), ([12, 10, 10], [10, 12]), ([11, 13, 13, 10], [10, 11, 13]), ([14, 10], [10, 14]), ([15, 10], [10, 15]), ([10, 16], [10, 16]), ([17, 14], [17]), ([18], [18]), ([19, 18], [18, 19]), ([18], [18]), ([21, 18, 18], [18, 21]), ([20, 22, 22, 18], [18, 20, 22]), ([23, 18], [18, 23]), ([24, 18], [18, 24]), ([18, 25], [18, 25]), ([26, 23], [26]), ([27], [27]), ([28, 27, 27], [27, 28]), ([29, 27], [27, 29]), ([30, 27], [27, 30]), ([27, 31], [27, 31]), ([32, 29], [32]), ([33], [33]), ([34, 33, 33], [33, 34]), ([35, 35, 33], [33, 35]), ([36, 33], [33, 36]), ([37, 33], [33, 37]), ([33, 38], [33, 38]), ([39, 36], [39]), ([40], [40]), ([41, 40, 40], [40, 41]), ([42, 42, 40], [40, 42]), ([43, 40], [40, 43]), ([44, 40], [40, 44]), ([40, 45], [40, 45]), ([46, 43, 0, 1, 2, 3, 4, 5, 6, 7, 8, 9, 10, 11, 12, 13, 14, 15, 16, 17, 18, 19, 20, 21, 22, 23, 24, 25, 26, 27, 28, 29, 30, 31, 32, 33, 34, 35, 36, 37, 38, 39, 40, 41, 42, 43, 44, 45, 46], [46])])
def alidadelaw01_NatNames.B24 : List Nat := [0, 1, 3, 7, 15, 7, 63, 127, 255, 511, 1023, 2047, 2047, 6143, 16383, 32767, 65535, 131071, 262143, 524287, 1048575, 524287, 2621439, 8388607, 16777215, 33554431, 67108863, 134217727, 268435455, 536870911, 1073741823, 2147483647, 4294967295, 8589934591, 17179869183, 34359738367, 68719476735, 137438953471, 274877906943, 549755813887, 1099511627775, 2199023255551, 4398046511103, 8796093022207, 17592186044415, 35184372088831, 70368744177663, 140737488355327]
theorem alidadelaw01_NatNames.tab24 : rtab .any (opsOf Try.f9 24) = alidadelaw01_NatNames.T24 := by kernel_rfl
theorem alidadelaw01_NatNames.bits24 : waitsOk alidadelaw01_NatNames.T24.2 alidadelaw01_NatNames.B24 = true := by kernel_rfl
theorem alidadelaw01_NatNames.j0_true : ∀ (k : Nat) (r : Bool), ¬ (alidadelaw01_NatNames.j0 k true = some r)
  | 0, _ => fun h => by simp [alidadelaw01_NatNames.j0] at h
  | k + 1, _ => fun h => by
    rw [alidadelaw01_NatNames.j0, if_pos rfl] at h
    cases h
theorem alidadelaw01_NatNames.j1_true : ∀ (k : Nat) (r : Bool), ¬ (alidadelaw01_NatNames.j1 k true = some r)
  | 0, _ => fun h => by simp [alidadelaw01_NatNames.j1] at h
  | k + 1, _ => fun h => by
    rw [alidadelaw01_NatNames.j1, if_pos rfl] at h
    cases h
theorem alidadelaw01_NatNames.j2_true : ∀ (k : Nat) (r : Bool), ¬ (alidadelaw01_NatNames.j2 k true = some r)
  | 0, _ => fun h => by simp [alidadelaw01_NatNames.j2] at h
  | k + 1, _ => fun h => by
    rw [alidadelaw01_NatNames.j2, if_pos rfl] at h
    cases h
set_option maxHeartbeats 40000000 in
set_option maxRecDepth 100000 in
theorem alidadelaw01_NatNames.calls (k : Nat)  (r : Bool) (w : World) (h : alidadelaw01_NatNames.f k  = some r) :
    Calls Try.prog 9 #[] w fun e w' => e = .returned (.bool r) ∧ Below w.heap.size w w' := by
  have HB := Aside0.mk (Below.refl w.heap.size w)
  have H : ((alidadelaw01_awake.f k).bind fun t504 => (if t504 = true then ((alidadelaw01_of_2.f 4294967295 4294967295).bind fun t505 => ((nat_Low.f k t505).bind fun bt508 => ((alidadelaw01_of_3.f 0 0 1).bind fun t510 => ((nat_Low.f k t510).bind fun bt513 => ((nat_Low.f k ([] : List Int)).bind fun bt515 => ((alidadelaw01_of_3.f 0 0 1).bind fun t517 => ((alidadelaw01_of_1.f 1).bind fun t520 => ((nat_Sub.f t517 t520).bind fun bt523 => ((alidadelaw01_of_1.f 1).bind fun t527 => ((alidadelaw01_of_2.f 0 1).bind fun t530 => ((nat_Sub.f t527 t530).bind fun bt533 => ((alidadelaw01_of_2.f 7 7).bind fun t537 => ((alidadelaw01_of_2.f 7 7).bind fun t540 => ((nat_Sub.f t537 t540).bind fun bt543 => (if bt508.1 = 18446744073709551615 then (if bt508.2 = true then (if bt513.2 = true then (alidadelaw01_NatNames.j0 k true) else (if bt515.1 = 0 then (if bt515.2 = true then (if bt523.2 = true then ((alidadelaw01_of_2.f 4294967295 4294967295).bind fun t547 => ((alidadelaw01_same.f k bt523.1 t547).bind fun t550 => (if t550 = true then (if bt533.2 = true then (alidadelaw01_NatNames.j0 k true) else (if bt543.2 = true then (if (bt543.1.length : Int) = 0 then ((alidadelaw01_of_3.f 4294967295 4294967295 4294967295).bind fun t551 => ((alidadelaw01_of_1.f 1).bind fun t554 => ((nat_Add.f t551 t554).bind fun t557 => ((alidadelaw01_of_4.f 0 0 0 1).bind fun t560 => ((alidadelaw01_same.f k t557 t560).bind fun t563 => (if t563 = true then ((nat_Of.f k 18446744073709551615).bind fun t564 => ((alidadelaw01_of_2.f 4294967295 4294967295).bind fun t567 => ((alidadelaw01_same.f k t564 t567).bind fun t570 => (if t570 = true then ((alidadelaw01_of_2.f 0 1).bind fun t571 => ((alidadelaw01_of_1.f 4294967295).bind fun t574 => ((nat_Cmp.f t571 t574).bind fun t577 => (if t577 = 1 then ((alidadelaw01_of_2.f 1 2).bind fun t578 => ((alidadelaw01_of_2.f 2 1).bind fun t581 => ((nat_Cmp.f t578 t581).bind fun t584 => (if t584 = 1 then ((alidadelaw01_of_1.f 1).bind fun t585 => ((nat_Cmp.f ([] : List Int) t585).bind fun t588 => (if t588 = (-1) then ((nat_Cmp.f ([] : List Int) ([] : List Int)).bind fun t589 => (alidadelaw01_NatNames.j0 k (t589 != 0))) else (alidadelaw01_NatNames.j0 k true)))) else (alidadelaw01_NatNames.j0 k true))))) else (alidadelaw01_NatNames.j0 k true))))) else (alidadelaw01_NatNames.j0 k true))))) else (alidadelaw01_NatNames.j0 k true))))))) else (alidadelaw01_NatNames.j0 k true)) else (alidadelaw01_NatNames.j0 k true))) else (alidadelaw01_NatNames.j0 k true)))) else (alidadelaw01_NatNames.j0 k true)) else (alidadelaw01_NatNames.j0 k true)) else (alidadelaw01_NatNames.j0 k true))) else (alidadelaw01_NatNames.j0 k true)) else (alidadelaw01_NatNames.j0 k true)))))))))))))))) else (none))) = some r := h
  clear h
  replace H := Option.bind_eq_some_iff.mp H
  obtain ⟨t504, A10, H⟩ := H
  have A1 := Aside0.mk A10
  clear A10
  by_cases c2 : t504 = true
  · subst c2
    rw [if_pos rfl] at H
    replace H := Option.bind_eq_some_iff.mp H
    obtain ⟨t505, A30, H⟩ := H
    have A3 := Aside0.mk A30
    clear A30
    replace H := Option.bind_eq_some_iff.mp H
    obtain ⟨⟨t508, t509⟩, A40, H⟩ := H
    have A4 := Aside0.mk A40
    clear A40
    replace H := Option.bind_eq_some_iff.mp H
    obtain ⟨t510, A50, H⟩ := H
    have A5 := Aside0.mk A50
    clear A50
    replace H := Option.bind_eq_some_iff.mp H
    obtain ⟨⟨t513, t514⟩, A60, H⟩ := H
    have A6 := Aside0.mk A60
    clear A60
    replace H := Option.bind_eq_some_iff.mp H
    obtain ⟨⟨t515, t516⟩, A70, H⟩ := H
    have A7 := Aside0.mk A70
    clear A70
    replace H := Option.bind_eq_some_iff.mp H
    obtain ⟨t517, A80, H⟩ := H
    have A8 := Aside0.mk A80
    clear A80
    replace H := Option.bind_eq_some_iff.mp H
    obtain ⟨t520, A90, H⟩ := H
    have A9 := Aside0.mk A90
    clear A90
    replace H := Option.bind_eq_some_iff.mp H
    obtain ⟨⟨t523, t524⟩, A100, H⟩ := H
    have A10 := Aside0.mk A100
    clear A100
    replace H := Option.bind_eq_some_iff.mp H
    obtain ⟨t527, A110, H⟩ := H
    have A11 := Aside0.mk A110
    clear A110
    replace H := Option.bind_eq_some_iff.mp H
    obtain ⟨t530, A120, H⟩ := H
    have A12 := Aside0.mk A120
    clear A120
    replace H := Option.bind_eq_some_iff.mp H
    obtain ⟨⟨t533, t534⟩, A130, H⟩ := H
    have A13 := Aside0.mk A130
    clear A130
    replace H := Option.bind_eq_some_iff.mp H
    obtain ⟨t537, A140, H⟩ := H
    have A14 := Aside0.mk A140
    clear A140
    replace H := Option.bind_eq_some_iff.mp H
    obtain ⟨t540, A150, H⟩ := H
    have A15 := Aside0.mk A150
    clear A150
    replace H := Option.bind_eq_some_iff.mp H
    obtain ⟨⟨t543, t544⟩, A160, H⟩ := H
    have A16 := Aside0.mk A160
    clear A160
    have HC17 := Aside0.mk H
    clear H
    go_enter Try.func9, Try.ntmps9
    go_upto_region 9 with (first | (go_at_call 10; (fail_if_success (have hx_ := mk1_)); have mk1_ := Aside0.mk (Nat.le_refl 0); (with_reducible refine (alidadelaw01_awake.calls k  true _ A1.out).mono ?_); rintro e w18 ⟨rfl, hb⟩; have n0_ := Aside0.mk (below_step (by repeat (first | (with_reducible first | exact HB.out | apply below_alloc | apply pw_below_drewN | apply below_drew1) | exact HB.out)) hb); clear HB; have HB := n0_; clear n0_; (try clear hb); (try clear hb2); (try clear hk); (try clear hi)) | (go_at_call 27; (fail_if_success (have hx_ := mk3_)); have mk3_ := Aside0.mk (Nat.le_refl 0); (with_reducible refine (alidadelaw01_of_2.calls 4294967295 4294967295 t505 _ A3.out).mono ?_); rintro e w19 ⟨v506, rfl, ho0, hb⟩; have q_ := Kd.arm_new ho0 hb (by repeat (first | (with_reducible first | exact HB.out | apply below_alloc | apply pw_below_drewN | apply below_drew1) | exact HB.out)); clear HB; obtain ⟨HO507, HB⟩ := q_; (try clear hb); (try clear ho0); obtain ⟨Ao20, co20, eo20⟩ := Kd.R_slice HO507.out; subst eo20) | (go_at_call 28; (fail_if_success (have hx_ := mk4_)); have mk4_ := Aside0.mk (Nat.le_refl 0); (with_reducible refine (nat_Low.calls k _ _ t505 t508 t509 _ ?side1 ?side2 A4.out).mono ?_); (case side1 => repeat (first | exact (Kd.R_reads' HO507.out).2.2 | (with_reducible apply Kd.C_alloc) | (with_reducible apply Kd.C_drewN) | (with_reducible apply Kd.C_drew))); (case side2 => exact (Kd.R_reads' HO507.out).2.1); rintro e w' ⟨rfl, ⟨nd, rfl⟩⟩) | (go_at_call 27; (fail_if_success (have hx_ := mk5_)); have mk5_ := Aside0.mk (Nat.le_refl 0); (with_reducible refine (alidadelaw01_of_3.calls 0 0 1 t510 _ A5.out).mono ?_); rintro e w21 ⟨v511, rfl, ho0, hb⟩; have q_ := Kd.arm_new ho0 hb (by repeat (first | (with_reducible first | exact HB.out | apply below_alloc | apply pw_below_drewN | apply below_drew1) | exact HB.out)); clear HB; obtain ⟨HO512, HB⟩ := q_; (try clear hb); (try clear ho0); obtain ⟨Ao22, co22, eo22⟩ := Kd.R_slice HO512.out; subst eo22) | (go_at_call 28; (fail_if_success (have hx_ := mk6_)); have mk6_ := Aside0.mk (Nat.le_refl 0); (with_reducible refine (nat_Low.calls k _ _ t510 t513 t514 _ ?side1 ?side2 A6.out).mono ?_); (case side1 => repeat (first | exact (Kd.R_reads' HO512.out).2.2 | (with_reducible apply Kd.C_alloc) | (with_reducible apply Kd.C_drewN) | (with_reducible apply Kd.C_drew))); (case side2 => exact (Kd.R_reads' HO512.out).2.1); rintro e w' ⟨rfl, ⟨nd, rfl⟩⟩) | (go_at_call 28; (fail_if_success (have hx_ := mk7_)); have mk7_ := Aside0.mk (Nat.le_refl 0); (refine (nat_Low.calls k _ _ ([] : List Int) t515 t516 _ ?side1 ?side2 A7.out).mono ?_); (case side1 => exact Kd.C_nil _ _); (case side2 => exact Nat.le_refl _); rintro e w' ⟨rfl, ⟨nd, rfl⟩⟩) | (go_at_call 27; (fail_if_success (have hx_ := mk8_)); have mk8_ := Aside0.mk (Nat.le_refl 0); (with_reducible refine (alidadelaw01_of_3.calls 0 0 1 t517 _ A8.out).mono ?_); rintro e w23 ⟨v518, rfl, ho0, hb⟩; have q_ := Kd.arm_new ho0 hb (by repeat (first | (with_reducible first | exact HB.out | apply below_alloc | apply pw_below_drewN | apply below_drew1) | exact HB.out)); clear HB; obtain ⟨HO519, HB⟩ := q_; (try clear hb); (try clear ho0)) | (go_at_call 27; (fail_if_success (have hx_ := mk9_)); have mk9_ := Aside0.mk (Nat.le_refl 0); (with_reducible refine (alidadelaw01_of_1.calls 1 t520 _ A9.out).mono ?_); rintro e w24 ⟨v521, rfl, ho0, hb⟩; have n2_ := Aside0.mk (Kd.R_elder' (by (with_reducible repeat (first | apply Kd.R_alloc | apply Kd.R_drewN | apply Kd.R_drew)); exact HO519.out) (Kd.R_base ho0) hb); have n3_ := Aside0.mk (Kd.R_lower ho0 (below_size (by repeat (first | (with_reducible first | exact HB.out | apply below_alloc | apply pw_below_drewN | apply below_drew1) | exact HB.out)))); have n4_ := Aside0.mk (below_step (by repeat (first | (with_reducible first | exact HB.out | apply below_alloc | apply pw_below_drewN | apply below_drew1) | exact HB.out)) hb); clear HO519; clear HB; have HO519 := n2_; have HO522 := n3_; have HB := n4_; clear n2_ n3_ n4_; (try clear hb); (try clear hb2); (try clear hk); (try clear hi); (try clear ho0); obtain ⟨Ao25, co25, eo25⟩ := Kd.R_slice HO519.out; subst eo25; obtain ⟨Ao26, co26, eo26⟩ := Kd.R_slice HO522.out; subst eo26) | (go_at_call 13; (fail_if_success (have hx_ := mk10_)); have mk10_ := Aside0.mk (Nat.le_refl 0); (with_reducible refine (nat_Sub.calls _ _ t517 _ _ t520 t523 t524 _ ?side1 ?side2 ?side3 ?side4 A10.out).mono ?_); (case side1 => repeat (first | exact (Kd.R_reads' HO519.out).2.2 | (with_reducible apply Kd.C_alloc) | (with_reducible apply Kd.C_drewN) | (with_reducible apply Kd.C_drew))); (case side2 => exact (Kd.R_reads' HO519.out).2.1); (case side3 => repeat (first | exact (Kd.R_reads' HO522.out).2.2 | (with_reducible apply Kd.C_alloc) | (with_reducible apply Kd.C_drewN) | (with_reducible apply Kd.C_drew))); (case side4 => exact (Kd.R_reads' HO522.out).2.1); rintro e w27 ⟨v525, rfl, ho0, hb⟩; have q_ := Kd.arm_new ho0 hb (by repeat (first | (with_reducible first | exact HB.out | apply below_alloc | apply pw_below_drewN | apply below_drew1) | exact HB.out)); clear HB; obtain ⟨HO526, HB⟩ := q_; (try clear hb); (try clear ho0)) | (go_at_call 27; (fail_if_success (have hx_ := mk11_)); have mk11_ := Aside0.mk (Nat.le_refl 0); (with_reducible refine (alidadelaw01_of_1.calls 1 t527 _ A11.out).mono ?_); rintro e w28 ⟨v528, rfl, ho0, hb⟩; have n4_ := Aside0.mk (Kd.R_elder' (by (with_reducible repeat (first | apply Kd.R_alloc | apply Kd.R_drewN | apply Kd.R_drew)); exact HO526.out) (Kd.R_base ho0) hb); have n5_ := Aside0.mk (Kd.R_lower ho0 (below_size (by repeat (first | (with_reducible first | exact HB.out | apply below_alloc | apply pw_below_drewN | apply below_drew1) | exact HB.out)))); have n6_ := Aside0.mk (below_step (by repeat (first | (with_reducible first | exact HB.out | apply below_alloc | apply pw_below_drewN | apply below_drew1) | exact HB.out)) hb); clear HO526; clear HB; have HO526 := n4_; have HO529 := n5_; have HB := n6_; clear n4_ n5_ n6_; (try clear hb); (try clear hb2); (try clear hk); (try clear hi); (try clear ho0)) | (go_at_call 27; (fail_if_success (have hx_ := mk12_)); have mk12_ := Aside0.mk (Nat.le_refl 0); (with_reducible refine (alidadelaw01_of_2.calls 0 1 t530 _ A12.out).mono ?_); rintro e w29 ⟨v531, rfl, ho0, hb⟩; have n4_ := Aside0.mk (Kd.R_elder' (by (with_reducible repeat (first | apply Kd.R_alloc | apply Kd.R_drewN | apply Kd.R_drew)); exact HO526.out) (Kd.R_base ho0) hb); have n5_ := Aside0.mk (Kd.R_elder' (by (with_reducible repeat (first | apply Kd.R_alloc | apply Kd.R_drewN | apply Kd.R_drew)); exact HO529.out) (Kd.R_base ho0) hb); have n6_ := Aside0.mk (Kd.R_lower ho0 (below_size (by repeat (first | (with_reducible first | exact HB.out | apply below_alloc | apply pw_below_drewN | apply below_drew1) | exact HB.out)))); have n7_ := Aside0.mk (below_step (by repeat (first | (with_reducible first | exact HB.out | apply below_alloc | apply pw_below_drewN | apply below_drew1) | exact HB.out)) hb); clear HO526; clear HO529; clear HB; have HO526 := n4_; have HO529 := n5_; have HO532 := n6_; have HB := n7_; clear n4_ n5_ n6_ n7_; (try clear hb); (try clear hb2); (try clear hk); (try clear hi); (try clear ho0); obtain ⟨Ao30, co30, eo30⟩ := Kd.R_slice HO529.out; subst eo30; obtain ⟨Ao31, co31, eo31⟩ := Kd.R_slice HO532.out; subst eo31) | (go_at_call 13; (fail_if_success (have hx_ := mk13_)); have mk13_ := Aside0.mk (Nat.le_refl 0); (with_reducible refine (nat_Sub.calls _ _ t527 _ _ t530 t533 t534 _ ?side1 ?side2 ?side3 ?side4 A13.out).mono ?_); (case side1 => repeat (first | exact (Kd.R_reads' HO529.out).2.2 | (with_reducible apply Kd.C_alloc) | (with_reducible apply Kd.C_drewN) | (with_reducible apply Kd.C_drew))); (case side2 => exact (Kd.R_reads' HO529.out).2.1); (case side3 => repeat (first | exact (Kd.R_reads' HO532.out).2.2 | (with_reducible apply Kd.C_alloc) | (with_reducible apply Kd.C_drewN) | (with_reducible apply Kd.C_drew))); (case side4 => exact (Kd.R_reads' HO532.out).2.1); rintro e w32 ⟨v535, rfl, ho0, hb⟩; have n4_ := Aside0.mk (Kd.R_elder' (by (with_reducible repeat (first | apply Kd.R_alloc | apply Kd.R_drewN | apply Kd.R_drew)); exact HO526.out) (Kd.R_base ho0) hb); have n8_ := Aside0.mk (below_step (by repeat (first | (with_reducible first | exact HB.out | apply below_alloc | apply pw_below_drewN | apply below_drew1) | exact HB.out)) hb); clear HO526; clear HB; have HO526 := n4_; have HB := n8_; clear n4_ n8_; (try clear hb); (try clear hb2); (try clear hk); (try clear hi); (try clear ho0)) | (go_at_call 27; (fail_if_success (have hx_ := mk14_)); have mk14_ := Aside0.mk (Nat.le_refl 0); (with_reducible refine (alidadelaw01_of_2.calls 7 7 t537 _ A14.out).mono ?_); rintro e w33 ⟨v538, rfl, ho0, hb⟩; have n4_ := Aside0.mk (Kd.R_elder' (by (with_reducible repeat (first | apply Kd.R_alloc | apply Kd.R_drewN | apply Kd.R_drew)); exact HO526.out) (Kd.R_base ho0) hb); have n8_ := Aside0.mk (Kd.R_lower ho0 (below_size (by repeat (first | (with_reducible first | exact HB.out | apply below_alloc | apply pw_below_drewN | apply below_drew1) | exact HB.out)))); have n9_ := Aside0.mk (below_step (by repeat (first | (with_reducible first | exact HB.out | apply below_alloc | apply pw_below_drewN | apply below_drew1) | exact HB.out)) hb); clear HO526; clear HB; have HO526 := n4_; have HO539 := n8_; have HB := n9_; clear n4_ n8_ n9_; (try clear hb); (try clear hb2); (try clear hk); (try clear hi); (try clear ho0)) | (go_at_call 27; (fail_if_success (have hx_ := mk15_)); have mk15_ := Aside0.mk (Nat.le_refl 0); (with_reducible refine (alidadelaw01_of_2.calls 7 7 t540 _ A15.out).mono ?_); rintro e w34 ⟨v541, rfl, ho0, hb⟩; have n4_ := Aside0.mk (Kd.R_elder' (by (with_reducible repeat (first | apply Kd.R_alloc | apply Kd.R_drewN | apply Kd.R_drew)); exact HO526.out) (Kd.R_base ho0) hb); have n8_ := Aside0.mk (Kd.R_elder' (by (with_reducible repeat (first | apply Kd.R_alloc | apply Kd.R_drewN | apply Kd.R_drew)); exact HO539.out) (Kd.R_base ho0) hb); have n9_ := Aside0.mk (Kd.R_lower ho0 (below_size (by repeat (first | (with_reducible first | exact HB.out | apply below_alloc | apply pw_below_drewN | apply below_drew1) | exact HB.out)))); have n10_ := Aside0.mk (below_step (by repeat (first | (with_reducible first | exact HB.out | apply below_alloc | apply pw_below_drewN | apply below_drew1) | exact HB.out)) hb); clear HO526; clear HO539; clear HB; have HO526 := n4_; have HO539 := n8_; have HO542 := n9_; have HB := n10_; clear n4_ n8_ n9_ n10_; (try clear hb); (try clear hb2); (try clear hk); (try clear hi); (try clear ho0); obtain ⟨Ao35, co35, eo35⟩ := Kd.R_slice HO539.out; subst eo35; obtain ⟨Ao36, co36, eo36⟩ := Kd.R_slice HO542.out; subst eo36) | (go_at_call 13; (fail_if_success (have hx_ := mk16_)); have mk16_ := Aside0.mk (Nat.le_refl 0); (with_reducible refine (nat_Sub.calls _ _ t537 _ _ t540 t543 t544 _ ?side1 ?side2 ?side3 ?side4 A16.out).mono ?_); (case side1 => repeat (first | exact (Kd.R_reads' HO539.out).2.2 | (with_reducible apply Kd.C_alloc) | (with_reducible apply Kd.C_drewN) | (with_reducible apply Kd.C_drew))); (case side2 => exact (Kd.R_reads' HO539.out).2.1); (case side3 => repeat (first | exact (Kd.R_reads' HO542.out).2.2 | (with_reducible apply Kd.C_alloc) | (with_reducible apply Kd.C_drewN) | (with_reducible apply Kd.C_drew))); (case side4 => exact (Kd.R_reads' HO542.out).2.1); rintro e w37 ⟨v545, rfl, ho0, hb⟩; have n4_ := Aside0.mk (Kd.R_elder' (by (with_reducible repeat (first | apply Kd.R_alloc | apply Kd.R_drewN | apply Kd.R_drew)); exact HO526.out) (Kd.R_base ho0) hb); have n10_ := Aside0.mk (Kd.R_lower ho0 (below_size (by repeat (first | (with_reducible first | exact HB.out | apply below_alloc | apply pw_below_drewN | apply below_drew1) | exact HB.out)))); have n11_ := Aside0.mk (below_step (by repeat (first | (with_reducible first | exact HB.out | apply below_alloc | apply pw_below_drewN | apply below_drew1) | exact HB.out)) hb); clear HO526; clear HB; have HO526 := n4_; have HO546 := n10_; have HB := n11_; clear n4_ n10_ n11_; (try clear hb); (try clear hb2); (try clear hk); (try clear hi); (try clear ho0)))
    (try simp only [Act.put, List.setIfInBounds_toArray, List.set_cons_zero, List.set_cons_succ])
    go_cut [149] (fun v149 wc => ∃ (kq : Nat) (x149_16 : Bool), v149 = .bool x149_16 ∧ Aside0 (alidadelaw01_NatNames.j0 kq x149_16 = some r) ∧ Aside0 (kq ≤ k) ∧ Aside0 (Below w.heap.size w wc))
    case first => as_aux_lemma =>
      have H := HC17.out
      clear HC17
      by_cases c38 : t508 = 18446744073709551615
      · rw [if_pos c38] at H
        have c38b0 : (t508 == 18446744073709551615) = true := beq_iff_eq.mpr c38
        have c38b1 : (t508 != 18446744073709551615) = false := bne_eq_false_iff_eq.mpr c38
        clear c38
        (first | rw [c38b0] | (simp only [i64_w, i32_w]; rw [c38b0]) | skip)
        by_cases c39 : t509 = true
        · subst c39
          rw [if_pos rfl] at H
          by_cases c40 : t514 = true
          · subst c40
            rw [if_pos rfl] at H
            exact absurd H (alidadelaw01_NatNames.j0_true _ _)
          · replace c40 := Bool.eq_false_iff.mpr c40
            subst c40
            rw [if_neg (show ¬ (false = true) by decide)] at H
            by_cases c41 : t515 = 0
            · rw [if_pos c41] at H
              have c41b0 : (t515 == 0) = true := beq_iff_eq.mpr c41
              have c41b1 : (t515 != 0) = false := bne_eq_false_iff_eq.mpr c41
              clear c41
              by_cases c42 : t516 = true
              · subst c42
                rw [if_pos rfl] at H
                by_cases c43 : t524 = true
                · subst c43
                  rw [if_pos rfl] at H
                  replace H := Option.bind_eq_some_iff.mp H
                  obtain ⟨t547, A440, H⟩ := H
                  have A44 := Aside0.mk A440
                  clear A440
                  replace H := Option.bind_eq_some_iff.mp H
                  obtain ⟨t550, A450, H⟩ := H
                  have A45 := Aside0.mk A450
                  clear A450
                  by_cases c46 : t550 = true
                  · subst c46
                    rw [if_pos rfl] at H
                    by_cases c47 : t534 = true
                    · subst c47
                      rw [if_pos rfl] at H
                      exact absurd H (alidadelaw01_NatNames.j0_true _ _)
                    · replace c47 := Bool.eq_false_iff.mpr c47
                      subst c47
                      rw [if_neg (show ¬ (false = true) by decide)] at H
                      by_cases c51 : t544 = true
                      · subst c51
                        rw [if_pos rfl] at H
                        by_cases c52 : (t543.length : Int) = 0
                        · rw [if_pos c52] at H
                          have c52b0 : ((t543.length : Int) == 0) = true := beq_iff_eq.mpr c52
                          have c52b1 : ((t543.length : Int) != 0) = false := bne_eq_false_iff_eq.mpr c52
                          clear c52
                          replace H := Option.bind_eq_some_iff.mp H
                          obtain ⟨t551, A530, H⟩ := H
                          have A53 := Aside0.mk A530
                          clear A530
                          replace H := Option.bind_eq_some_iff.mp H
                          obtain ⟨t554, A540, H⟩ := H
                          have A54 := Aside0.mk A540
                          clear A540
                          replace H := Option.bind_eq_some_iff.mp H
                          obtain ⟨t557, A550, H⟩ := H
                          have A55 := Aside0.mk A550
                          clear A550
                          replace H := Option.bind_eq_some_iff.mp H
                          obtain ⟨t560, A560, H⟩ := H
                          have A56 := Aside0.mk A560
                          clear A560
                          replace H := Option.bind_eq_some_iff.mp H
                          obtain ⟨t563, A570, H⟩ := H
                          have A57 := Aside0.mk A570
                          clear A570
                          by_cases c58 : t563 = true
                          · subst c58
                            rw [if_pos rfl] at H
                            replace H := Option.bind_eq_some_iff.mp H
                            obtain ⟨t564, A590, H⟩ := H
                            have A59 := Aside0.mk A590
                            clear A590
                            replace H := Option.bind_eq_some_iff.mp H
                            obtain ⟨t567, A600, H⟩ := H
                            have A60 := Aside0.mk A600
                            clear A600
                            replace H := Option.bind_eq_some_iff.mp H
                            obtain ⟨t570, A610, H⟩ := H
                            have A61 := Aside0.mk A610
                            clear A610
                            by_cases c62 : t570 = true
                            · subst c62
                              rw [if_pos rfl] at H
                              replace H := Option.bind_eq_some_iff.mp H
                              obtain ⟨t571, A630, H⟩ := H
                              have A63 := Aside0.mk A630
                              clear A630
                              replace H := Option.bind_eq_some_iff.mp H
                              obtain ⟨t574, A640, H⟩ := H
                              have A64 := Aside0.mk A640
                              clear A640
                              replace H := Option.bind_eq_some_iff.mp H
                              obtain ⟨t577, A650, H⟩ := H
                              have A65 := Aside0.mk A650
                              clear A650
                              by_cases c66 : t577 = 1
                              · rw [if_pos c66] at H
                                have c66b0 : (t577 == 1) = true := beq_iff_eq.mpr c66
                                have c66b1 : (t577 != 1) = false := bne_eq_false_iff_eq.mpr c66
                                clear c66
                                replace H := Option.bind_eq_some_iff.mp H
                                obtain ⟨t578, A670, H⟩ := H
                                have A67 := Aside0.mk A670
                                clear A670
                                replace H := Option.bind_eq_some_iff.mp H
                                obtain ⟨t581, A680, H⟩ := H
                                have A68 := Aside0.mk A680
                                clear A680
                                replace H := Option.bind_eq_some_iff.mp H
                                obtain ⟨t584, A690, H⟩ := H
                                have A69 := Aside0.mk A690
                                clear A690
                                by_cases c70 : t584 = 1
                                · rw [if_pos c70] at H
                                  have c70b0 : (t584 == 1) = true := beq_iff_eq.mpr c70
                                  have c70b1 : (t584 != 1) = false := bne_eq_false_iff_eq.mpr c70
                                  clear c70
                                  replace H := Option.bind_eq_some_iff.mp H
                                  obtain ⟨t585, A710, H⟩ := H
                                  have A71 := Aside0.mk A710
                                  clear A710
                                  replace H := Option.bind_eq_some_iff.mp H
                                  obtain ⟨t588, A720, H⟩ := H
                                  have A72 := Aside0.mk A720
                                  clear A720
                                  by_cases c73 : t588 = (-1)
                                  · rw [if_pos c73] at H
                                    have c73b0 : (t588 == (-1)) = true := beq_iff_eq.mpr c73
                                    have c73b1 : (t588 != (-1)) = false := bne_eq_false_iff_eq.mpr c73
                                    clear c73
                                    replace H := Option.bind_eq_some_iff.mp H
                                    obtain ⟨t589, A740, H⟩ := H
                                    replace H : (alidadelaw01_NatNames.j0 k (t589 != 0)) = some r := H
                                    have A74 := Aside0.mk A740
                                    clear A740
                                    have H' := Aside0.mk H
                                    clear H
                                    go_wp2_with (first | (go_at_call 27; (fail_if_success (have hx_ := mk44_)); have mk44_ := Aside0.mk (Nat.le_refl 0); (with_reducible refine (alidadelaw01_of_2.calls 4294967295 4294967295 t547 _ A44.out).mono ?_); rintro e w75 ⟨v548, rfl, ho0, hb⟩; have n4_ := Aside0.mk (Kd.R_elder' (by (with_reducible repeat (first | apply Kd.R_alloc | apply Kd.R_drewN | apply Kd.R_drew)); exact HO526.out) (Kd.R_base ho0) hb); have n10_ := Aside0.mk (Kd.R_elder' (by (with_reducible repeat (first | apply Kd.R_alloc | apply Kd.R_drewN | apply Kd.R_drew)); exact HO546.out) (Kd.R_base ho0) hb); have n11_ := Aside0.mk (Kd.R_lower ho0 (below_size (by repeat (first | (with_reducible first | exact HB.out | apply below_alloc | apply pw_below_drewN | apply below_drew1) | exact HB.out)))); have n12_ := Aside0.mk (below_step (by repeat (first | (with_reducible first | exact HB.out | apply below_alloc | apply pw_below_drewN | apply below_drew1) | exact HB.out)) hb); clear HO526; clear HO546; clear HB; have HO526 := n4_; have HO546 := n10_; have HO549 := n11_; have HB := n12_; clear n4_ n10_ n11_ n12_; (try clear hb); (try clear hb2); (try clear hk); (try clear hi); (try clear ho0); obtain ⟨Ao76, co76, eo76⟩ := Kd.R_slice HO526.out; subst eo76; obtain ⟨Ao77, co77, eo77⟩ := Kd.R_slice HO549.out; subst eo77) | (go_at_call 14; (fail_if_success (have hx_ := mk45_)); have mk45_ := Aside0.mk (Nat.le_refl 0); (with_reducible refine (alidadelaw01_same.calls k _ _ t523 _ _ t547 true _ ?side1 ?side2 ?side3 ?side4 A45.out).mono ?_); (case side1 => repeat (first | exact (Kd.R_reads' HO526.out).2.2 | (with_reducible apply Kd.C_alloc) | (with_reducible apply Kd.C_drewN) | (with_reducible apply Kd.C_drew))); (case side2 => exact (Kd.R_reads' HO526.out).2.1); (case side3 => repeat (first | exact (Kd.R_reads' HO549.out).2.2 | (with_reducible apply Kd.C_alloc) | (with_reducible apply Kd.C_drewN) | (with_reducible apply Kd.C_drew))); (case side4 => exact (Kd.R_reads' HO549.out).2.1); rintro e w' ⟨rfl, ⟨nd, rfl⟩⟩; obtain ⟨Ao78, co78, eo78⟩ := Kd.R_slice HO546.out; subst eo78) | (go_at_call 27; (fail_if_success (have hx_ := mk53_)); have mk53_ := Aside0.mk (Nat.le_refl 0); (with_reducible refine (alidadelaw01_of_3.calls 4294967295 4294967295 4294967295 t551 _ A53.out).mono ?_); rintro e w79 ⟨v552, rfl, ho0, hb⟩; have q_ := Kd.arm_new ho0 hb (by repeat (first | (with_reducible first | exact HB.out | apply below_alloc | apply pw_below_drewN | apply below_drew1) | exact HB.out)); clear HB; obtain ⟨HO553, HB⟩ := q_; (try clear hb); (try clear ho0)) | (go_at_call 27; (fail_if_success (have hx_ := mk54_)); have mk54_ := Aside0.mk (Nat.le_refl 0); (with_reducible refine (alidadelaw01_of_1.calls 1 t554 _ A54.out).mono ?_); rintro e w80 ⟨v555, rfl, ho0, hb⟩; have n12_ := Aside0.mk (Kd.R_elder' (by (with_reducible repeat (first | apply Kd.R_alloc | apply Kd.R_drewN | apply Kd.R_drew)); exact HO553.out) (Kd.R_base ho0) hb); have n13_ := Aside0.mk (Kd.R_lower ho0 (below_size (by repeat (first | (with_reducible first | exact HB.out | apply below_alloc | apply pw_below_drewN | apply below_drew1) | exact HB.out)))); have n14_ := Aside0.mk (below_step (by repeat (first | (with_reducible first | exact HB.out | apply below_alloc | apply pw_below_drewN | apply below_drew1) | exact HB.out)) hb); clear HO553; clear HB; have HO553 := n12_; have HO556 := n13_; have HB := n14_; clear n12_ n13_ n14_; (try clear hb); (try clear hb2); (try clear hk); (try clear hi); (try clear ho0); obtain ⟨Ao81, co81, eo81⟩ := Kd.R_slice HO553.out; subst eo81; obtain ⟨Ao82, co82, eo82⟩ := Kd.R_slice HO556.out; subst eo82) | (go_at_call 12; (fail_if_success (have hx_ := mk55_)); have mk55_ := Aside0.mk (Nat.le_refl 0); (with_reducible refine (nat_Add.calls _ _ t551 _ _ t554 t557 _ ?side1 ?side2 ?side3 ?side4 A55.out).mono ?_); (case side1 => repeat (first | exact (Kd.R_reads' HO553.out).2.2 | (with_reducible apply Kd.C_alloc) | (with_reducible apply Kd.C_drewN) | (with_reducible apply Kd.C_drew))); (case side2 => exact (Kd.R_reads' HO553.out).2.1); (case side3 => repeat (first | exact (Kd.R_reads' HO556.out).2.2 | (with_reducible apply Kd.C_alloc) | (with_reducible apply Kd.C_drewN) | (with_reducible apply Kd.C_drew))); (case side4 => exact (Kd.R_reads' HO556.out).2.1); rintro e w83 ⟨v558, rfl, ho0, hb⟩; have q_ := Kd.arm_new ho0 hb (by repeat (first | (with_reducible first | exact HB.out | apply below_alloc | apply pw_below_drewN | apply below_drew1) | exact HB.out)); clear HB; obtain ⟨HO559, HB⟩ := q_; (try clear hb); (try clear ho0)) | (go_at_call 27; (fail_if_success (have hx_ := mk56_)); have mk56_ := Aside0.mk (Nat.le_refl 0); (with_reducible refine (alidadelaw01_of_4.calls 0 0 0 1 t560 _ A56.out).mono ?_); rintro e w84 ⟨v561, rfl, ho0, hb⟩; have n14_ := Aside0.mk (Kd.R_elder' (by (with_reducible repeat (first | apply Kd.R_alloc | apply Kd.R_drewN | apply Kd.R_drew)); exact HO559.out) (Kd.R_base ho0) hb); have n15_ := Aside0.mk (Kd.R_lower ho0 (below_size (by repeat (first | (with_reducible first | exact HB.out | apply below_alloc | apply pw_below_drewN | apply below_drew1) | exact HB.out)))); have n16_ := Aside0.mk (below_step (by repeat (first | (with_reducible first | exact HB.out | apply below_alloc | apply pw_below_drewN | apply below_drew1) | exact HB.out)) hb); clear HO559; clear HB; have HO559 := n14_; have HO562 := n15_; have HB := n16_; clear n14_ n15_ n16_; (try clear hb); (try clear hb2); (try clear hk); (try clear hi); (try clear ho0); obtain ⟨Ao85, co85, eo85⟩ := Kd.R_slice HO559.out; subst eo85; obtain ⟨Ao86, co86, eo86⟩ := Kd.R_slice HO562.out; subst eo86) | (go_at_call 14; (fail_if_success (have hx_ := mk57_)); have mk57_ := Aside0.mk (Nat.le_refl 0); (with_reducible refine (alidadelaw01_same.calls k _ _ t557 _ _ t560 true _ ?side1 ?side2 ?side3 ?side4 A57.out).mono ?_); (case side1 => repeat (first | exact (Kd.R_reads' HO559.out).2.2 | (with_reducible apply Kd.C_alloc) | (with_reducible apply Kd.C_drewN) | (with_reducible apply Kd.C_drew))); (case side2 => exact (Kd.R_reads' HO559.out).2.1); (case side3 => repeat (first | exact (Kd.R_reads' HO562.out).2.2 | (with_reducible apply Kd.C_alloc) | (with_reducible apply Kd.C_drewN) | (with_reducible apply Kd.C_drew))); (case side4 => exact (Kd.R_reads' HO562.out).2.1); rintro e w' ⟨rfl, ⟨nd, rfl⟩⟩) | (go_at_call 34; (fail_if_success (have hx_ := mk59_)); have mk59_ := Aside0.mk (Nat.le_refl 0); (with_reducible refine (nat_Of.calls k 18446744073709551615 t564 _ A59.out).mono ?_); rintro e w87 ⟨v565, rfl, ho0, hb⟩; have q_ := Kd.arm_new ho0 hb (by repeat (first | (with_reducible first | exact HB.out | apply below_alloc | apply pw_below_drewN | apply below_drew1) | exact HB.out)); clear HB; obtain ⟨HO566, HB⟩ := q_; (try clear hb); (try clear ho0)) | (go_at_call 27; (fail_if_success (have hx_ := mk60_)); have mk60_ := Aside0.mk (Nat.le_refl 0); (with_reducible refine (alidadelaw01_of_2.calls 4294967295 4294967295 t567 _ A60.out).mono ?_); rintro e w88 ⟨v568, rfl, ho0, hb⟩; have n16_ := Aside0.mk (Kd.R_elder' (by (with_reducible repeat (first | apply Kd.R_alloc | apply Kd.R_drewN | apply Kd.R_drew)); exact HO566.out) (Kd.R_base ho0) hb); have n17_ := Aside0.mk (Kd.R_lower ho0 (below_size (by repeat (first | (with_reducible first | exact HB.out | apply below_alloc | apply pw_below_drewN | apply below_drew1) | exact HB.out)))); have n18_ := Aside0.mk (below_step (by repeat (first | (with_reducible first | exact HB.out | apply below_alloc | apply pw_below_drewN | apply below_drew1) | exact HB.out)) hb); clear HO566; clear HB; have HO566 := n16_; have HO569 := n17_; have HB := n18_; clear n16_ n17_ n18_; (try clear hb); (try clear hb2); (try clear hk); (try clear hi); (try clear ho0); obtain ⟨Ao89, co89, eo89⟩ := Kd.R_slice HO566.out; subst eo89; obtain ⟨Ao90, co90, eo90⟩ := Kd.R_slice HO569.out; subst eo90) | (go_at_call 14; (fail_if_success (have hx_ := mk61_)); have mk61_ := Aside0.mk (Nat.le_refl 0); (with_reducible refine (alidadelaw01_same.calls k _ _ t564 _ _ t567 true _ ?side1 ?side2 ?side3 ?side4 A61.out).mono ?_); (case side1 => repeat (first | exact (Kd.R_reads' HO566.out).2.2 | (with_reducible apply Kd.C_alloc) | (with_reducible apply Kd.C_drewN) | (with_reducible apply Kd.C_drew))); (case side2 => exact (Kd.R_reads' HO566.out).2.1); (case side3 => repeat (first | exact (Kd.R_reads' HO569.out).2.2 | (with_reducible apply Kd.C_alloc) | (with_reducible apply Kd.C_drewN) | (with_reducible apply Kd.C_drew))); (case side4 => exact (Kd.R_reads' HO569.out).2.1); rintro e w' ⟨rfl, ⟨nd, rfl⟩⟩) | (go_at_call 27; (fail_if_success (have hx_ := mk63_)); have mk63_ := Aside0.mk (Nat.le_refl 0); (with_reducible refine (alidadelaw01_of_2.calls 0 1 t571 _ A63.out).mono ?_); rintro e w91 ⟨v572, rfl, ho0, hb⟩; have q_ := Kd.arm_new ho0 hb (by repeat (first | (with_reducible first | exact HB.out | apply below_alloc | apply pw_below_drewN | apply below_drew1) | exact HB.out)); clear HB; obtain ⟨HO573, HB⟩ := q_; (try clear hb); (try clear ho0)) | (go_at_call 27; (fail_if_success (have hx_ := mk64_)); have mk64_ := Aside0.mk (Nat.le_refl 0); (with_reducible refine (alidadelaw01_of_1.calls 4294967295 t574 _ A64.out).mono ?_); rintro e w92 ⟨v575, rfl, ho0, hb⟩; have n18_ := Aside0.mk (Kd.R_elder' (by (with_reducible repeat (first | apply Kd.R_alloc | apply Kd.R_drewN | apply Kd.R_drew)); exact HO573.out) (Kd.R_base ho0) hb); have n19_ := Aside0.mk (Kd.R_lower ho0 (below_size (by repeat (first | (with_reducible first | exact HB.out | apply below_alloc | apply pw_below_drewN | apply below_drew1) | exact HB.out)))); have n20_ := Aside0.mk (below_step (by repeat (first | (with_reducible first | exact HB.out | apply below_alloc | apply pw_below_drewN | apply below_drew1) | exact HB.out)) hb); clear HO573; clear HB; have HO573 := n18_; have HO576 := n19_; have HB := n20_; clear n18_ n19_ n20_; (try clear hb); (try clear hb2); (try clear hk); (try clear hi); (try clear ho0); obtain ⟨Ao93, co93, eo93⟩ := Kd.R_slice HO573.out; subst eo93; obtain ⟨Ao94, co94, eo94⟩ := Kd.R_slice HO576.out; subst eo94) | (go_at_call 15; (fail_if_success (have hx_ := mk65_)); have mk65_ := Aside0.mk (Nat.le_refl 0); (with_reducible refine (nat_Cmp.calls _ _ t571 _ _ t574 t577 _ ?side1 ?side2 ?side3 ?side4 A65.out).mono ?_); (case side1 => repeat (first | exact (Kd.R_reads' HO573.out).2.2 | (with_reducible apply Kd.C_alloc) | (with_reducible apply Kd.C_drewN) | (with_reducible apply Kd.C_drew))); (case side2 => exact (Kd.R_reads' HO573.out).2.1); (case side3 => repeat (first | exact (Kd.R_reads' HO576.out).2.2 | (with_reducible apply Kd.C_alloc) | (with_reducible apply Kd.C_drewN) | (with_reducible apply Kd.C_drew))); (case side4 => exact (Kd.R_reads' HO576.out).2.1); rintro e w95 ⟨rfl, hb⟩; have n20_ := Aside0.mk (below_step (by repeat (first | (with_reducible first | exact HB.out | apply below_alloc | apply pw_below_drewN | apply below_drew1) | exact HB.out)) hb); clear HB; have HB := n20_; clear n20_; (try clear hb); (try clear hb2); (try clear hk); (try clear hi)) | (go_at_call 27; (fail_if_success (have hx_ := mk67_)); have mk67_ := Aside0.mk (Nat.le_refl 0); (with_reducible refine (alidadelaw01_of_2.calls 1 2 t578 _ A67.out).mono ?_); rintro e w96 ⟨v579, rfl, ho0, hb⟩; have q_ := Kd.arm_new ho0 hb (by repeat (first | (with_reducible first | exact HB.out | apply below_alloc | apply pw_below_drewN | apply below_drew1) | exact HB.out)); clear HB; obtain ⟨HO580, HB⟩ := q_; (try clear hb); (try clear ho0)) | (go_at_call 27; (fail_if_success (have hx_ := mk68_)); have mk68_ := Aside0.mk (Nat.le_refl 0); (with_reducible refine (alidadelaw01_of_2.calls 2 1 t581 _ A68.out).mono ?_); rintro e w97 ⟨v582, rfl, ho0, hb⟩; have n20_ := Aside0.mk (Kd.R_elder' (by (with_reducible repeat (first | apply Kd.R_alloc | apply Kd.R_drewN | apply Kd.R_drew)); exact HO580.out) (Kd.R_base ho0) hb); have n21_ := Aside0.mk (Kd.R_lower ho0 (below_size (by repeat (first | (with_reducible first | exact HB.out | apply below_alloc | apply pw_below_drewN | apply below_drew1) | exact HB.out)))); have n22_ := Aside0.mk (below_step (by repeat (first | (with_reducible first | exact HB.out | apply below_alloc | apply pw_below_drewN | apply below_drew1) | exact HB.out)) hb); clear HO580; clear HB; have HO580 := n20_; have HO583 := n21_; have HB := n22_; clear n20_ n21_ n22_; (try clear hb); (try clear hb2); (try clear hk); (try clear hi); (try clear ho0); obtain ⟨Ao98, co98, eo98⟩ := Kd.R_slice HO580.out; subst eo98; obtain ⟨Ao99, co99, eo99⟩ := Kd.R_slice HO583.out; subst eo99) | (go_at_call 15; (fail_if_success (have hx_ := mk69_)); have mk69_ := Aside0.mk (Nat.le_refl 0); (with_reducible refine (nat_Cmp.calls _ _ t578 _ _ t581 t584 _ ?side1 ?side2 ?side3 ?side4 A69.out).mono ?_); (case side1 => repeat (first | exact (Kd.R_reads' HO580.out).2.2 | (with_reducible apply Kd.C_alloc) | (with_reducible apply Kd.C_drewN) | (with_reducible apply Kd.C_drew))); (case side2 => exact (Kd.R_reads' HO580.out).2.1); (case side3 => repeat (first | exact (Kd.R_reads' HO583.out).2.2 | (with_reducible apply Kd.C_alloc) | (with_reducible apply Kd.C_drewN) | (with_reducible apply Kd.C_drew))); (case side4 => exact (Kd.R_reads' HO583.out).2.1); rintro e w100 ⟨rfl, hb⟩; have n22_ := Aside0.mk (below_step (by repeat (first | (with_reducible first | exact HB.out | apply below_alloc | apply pw_below_drewN | apply below_drew1) | exact HB.out)) hb); clear HB; have HB := n22_; clear n22_; (try clear hb); (try clear hb2); (try clear hk); (try clear hi)) | (go_at_call 27; (fail_if_success (have hx_ := mk71_)); have mk71_ := Aside0.mk (Nat.le_refl 0); (with_reducible refine (alidadelaw01_of_1.calls 1 t585 _ A71.out).mono ?_); rintro e w101 ⟨v586, rfl, ho0, hb⟩; have q_ := Kd.arm_new ho0 hb (by repeat (first | (with_reducible first | exact HB.out | apply below_alloc | apply pw_below_drewN | apply below_drew1) | exact HB.out)); clear HB; obtain ⟨HO587, HB⟩ := q_; (try clear hb); (try clear ho0); obtain ⟨Ao102, co102, eo102⟩ := Kd.R_slice HO587.out; subst eo102) | (go_at_call 15; (fail_if_success (have hx_ := mk72_)); have mk72_ := Aside0.mk (Nat.le_refl 0); (refine (nat_Cmp.calls _ _ ([] : List Int) _ _ t585 t588 _ ?side1 ?side2 ?side3 ?side4 A72.out).mono ?_); (case side1 => exact Kd.C_nil _ _); (case side2 => exact Nat.le_refl _); (case side3 => repeat (first | exact (Kd.R_reads' HO587.out).2.2 | (with_reducible apply Kd.C_alloc) | (with_reducible apply Kd.C_drewN) | (with_reducible apply Kd.C_drew))); (case side4 => exact (Kd.R_reads' HO587.out).2.1); rintro e w103 ⟨rfl, hb⟩; have n23_ := Aside0.mk (below_step (by repeat (first | (with_reducible first | exact HB.out | apply below_alloc | apply pw_below_drewN | apply below_drew1) | exact HB.out)) hb); clear HB; have HB := n23_; clear n23_; (try clear hb); (try clear hb2); (try clear hk); (try clear hi)) | (go_at_call 15; (fail_if_success (have hx_ := mk74_)); have mk74_ := Aside0.mk (Nat.le_refl 0); (refine (nat_Cmp.calls _ _ ([] : List Int) _ _ ([] : List Int) t589 _ ?side1 ?side2 ?side3 ?side4 A74.out).mono ?_); (case side1 => exact Kd.C_nil _ _); (case side2 => exact Nat.le_refl _); (case side3 => exact Kd.C_nil _ _); (case side4 => exact Nat.le_refl _); rintro e w104 ⟨rfl, hb⟩; have n23_ := Aside0.mk (below_step (by repeat (first | (with_reducible first | exact HB.out | apply below_alloc | apply pw_below_drewN | apply below_drew1) | exact HB.out)) hb); clear HB; have HB := n23_; clear n23_; (try clear hb); (try clear hb2); (try clear hk); (try clear hi)))
                                    go_meet
                                    case rel => exact ⟨_, ((t589 != 0)), (by first | rfl | (simp; done) | (simp [*]; done)), H', ⟨by first | omega | exact Nat.le_refl _⟩, ⟨by repeat (first | (with_reducible first | exact HB.out | apply below_alloc | apply pw_below_drewN | apply below_drew1) | exact HB.out)⟩⟩
                                  · rw [if_neg c73] at H
                                    have c73b0 : (t588 == (-1)) = false := beq_eq_false_iff_ne.mpr c73
                                    have c73b1 : (t588 != (-1)) = true := bne_iff_ne.mpr c73
                                    exact absurd H (alidadelaw01_NatNames.j0_true _ _)
                                · rw [if_neg c70] at H
                                  have c70b0 : (t584 == 1) = false := beq_eq_false_iff_ne.mpr c70
                                  have c70b1 : (t584 != 1) = true := bne_iff_ne.mpr c70
                                  exact absurd H (alidadelaw01_NatNames.j0_true _ _)
                              · rw [if_neg c66] at H
                                have c66b0 : (t577 == 1) = false := beq_eq_false_iff_ne.mpr c66
                                have c66b1 : (t577 != 1) = true := bne_iff_ne.mpr c66
                                exact absurd H (alidadelaw01_NatNames.j0_true _ _)
                            · replace c62 := Bool.eq_false_iff.mpr c62
                              subst c62
                              rw [if_neg (show ¬ (false = true) by decide)] at H
                              exact absurd H (alidadelaw01_NatNames.j0_true _ _)
                          · replace c58 := Bool.eq_false_iff.mpr c58
                            subst c58
                            rw [if_neg (show ¬ (false = true) by decide)] at H
                            exact absurd H (alidadelaw01_NatNames.j0_true _ _)
                        · rw [if_neg c52] at H
                          have c52b0 : ((t543.length : Int) == 0) = false := beq_eq_false_iff_ne.mpr c52
                          have c52b1 : ((t543.length : Int) != 0) = true := bne_iff_ne.mpr c52
                          have c52b2 : ¬ (t543 = []) := fun h_ => c52 (by rw [h_]; rfl)
                          exact absurd H (alidadelaw01_NatNames.j0_true _ _)
                      · replace c51 := Bool.eq_false_iff.mpr c51
                        subst c51
                        rw [if_neg (show ¬ (false = true) by decide)] at H
                        exact absurd H (alidadelaw01_NatNames.j0_true _ _)
                  · replace c46 := Bool.eq_false_iff.mpr c46
                    subst c46
                    rw [if_neg (show ¬ (false = true) by decide)] at H
                    exact absurd H (alidadelaw01_NatNames.j0_true _ _)
                · replace c43 := Bool.eq_false_iff.mpr c43
                  subst c43
                  rw [if_neg (show ¬ (false = true) by decide)] at H
                  exact absurd H (alidadelaw01_NatNames.j0_true _ _)
              · replace c42 := Bool.eq_false_iff.mpr c42
                subst c42
                rw [if_neg (show ¬ (false = true) by decide)] at H
                exact absurd H (alidadelaw01_NatNames.j0_true _ _)
            · rw [if_neg c41] at H
              have c41b0 : (t515 == 0) = false := beq_eq_false_iff_ne.mpr c41
              have c41b1 : (t515 != 0) = true := bne_iff_ne.mpr c41
              exact absurd H (alidadelaw01_NatNames.j0_true _ _)
        · replace c39 := Bool.eq_false_iff.mpr c39
          subst c39
          rw [if_neg (show ¬ (false = true) by decide)] at H
          exact absurd H (alidadelaw01_NatNames.j0_true _ _)
      · rw [if_neg c38] at H
        have c38b0 : (t508 == 18446744073709551615) = false := beq_eq_false_iff_ne.mpr c38
        have c38b1 : (t508 != 18446744073709551615) = true := bne_iff_ne.mpr c38
        (first | rw [c38b0] | (simp only [i64_w, i32_w]; rw [c38b0]) | skip)
        exact absurd H (alidadelaw01_NatNames.j0_true _ _)
    case rest => as_aux_lemma =>
      clear HC17
      try clear c2
      try clear c38
      try clear c38b0
      try clear c38b1
      try clear c39
      try clear c40
      try clear c41
      try clear c41b0
      try clear c41b1
      try clear c42
      try clear c43
      try clear c46
      try clear c47
      try clear c51
      try clear c52
      try clear c52b0
      try clear c52b1
      try clear c52b2
      try clear c58
      try clear c62
      try clear c66
      try clear c66b0
      try clear c66b1
      try clear c70
      try clear c70b0
      try clear c70b1
      try clear c73
      try clear c73b0
      try clear c73b1
      obtain ⟨kq, x149_16, rfl, HA, HJ16, HB⟩ := hcut
      cases kq with
      | zero => exact absurd HA.out (by simp [alidadelaw01_NatNames.j0])
      | succ kj16 =>
        have H := HA.out
        clear HA
        simp only [alidadelaw01_NatNames.j0] at H
        by_cases c219 : x149_16 = true
        · subst c219
          rw [if_pos rfl] at H
          exact absurd H (by simp)
        · replace c219 := Bool.eq_false_iff.mpr c219
          subst c219
          rw [if_neg (show ¬ (false = true) by decide)] at H
          replace H := Option.bind_eq_some_iff.mp H
          obtain ⟨t590, A2200, H⟩ := H
          have A220 := Aside0.mk A2200
          clear A2200
          replace H := Option.bind_eq_some_iff.mp H
          obtain ⟨⟨t593, t594⟩, A2210, H⟩ := H
          have A221 := Aside0.mk A2210
          clear A2210
          replace H := Option.bind_eq_some_iff.mp H
          obtain ⟨⟨t595, t596⟩, A2220, H⟩ := H
          have A222 := Aside0.mk A2220
          clear A2220
          replace H := Option.bind_eq_some_iff.mp H
          obtain ⟨t599, A2230, H⟩ := H
          have A223 := Aside0.mk A2230
          clear A2230
          replace H := Option.bind_eq_some_iff.mp H
          obtain ⟨⟨t602, t603⟩, A2240, H⟩ := H
          have A224 := Aside0.mk A2240
          clear A2240
          have HC225 := Aside0.mk H
          clear H
          go_upto_region 15 with (first | (go_at_call 27; (fail_if_success (have hx_ := mk220_)); have mk220_ := Aside0.mk (Nat.le_refl 0); (with_reducible refine (alidadelaw01_of_2.calls 5 0 t590 _ A220.out).mono ?_); rintro e w226 ⟨v591, rfl, ho0, hb⟩; have q_ := Kd.arm_new ho0 hb (by repeat (first | (with_reducible first | exact HB.out | apply below_alloc | apply pw_below_drewN | apply below_drew1) | exact HB.out)); clear HB; obtain ⟨HO592, HB⟩ := q_; (try clear hb); (try clear ho0); obtain ⟨Ao227, co227, eo227⟩ := Kd.R_slice HO592.out; subst eo227) | ((with_reducible refine gate_callee (f := 28) rfl ?_); (fail_if_success (have hx_ := mk221_)); have mk221_ := Aside0.mk (Nat.le_refl 0); refine goesL_ (some 154) rfl rfl Try.func28 (by kernel_rfl) rfl #[.slice Ao227 t590.length co227] rfl (by (try simp only [List.map_toArray, List.map_cons, List.map_nil]); first | done | rfl | (simp only [List.length_drop, List.length_take]; rfl)) ?_; (with_reducible refine (nat_Low.calls kj16 _ _ t590 t593 t594 _ ?side1 ?side2 A221.out).mono ?_); (case side1 => repeat (first | exact (Kd.R_reads' HO592.out).2.2 | (with_reducible apply Kd.C_alloc) | (with_reducible apply Kd.C_drewN) | (with_reducible apply Kd.C_drew))); (case side2 => exact (Kd.R_reads' HO592.out).2.1); rintro e w' ⟨rfl, ⟨nd, rfl⟩⟩; refine ⟨_, rfl, ?_⟩) | ((with_reducible refine gate_callee (f := 13) rfl ?_); (fail_if_success (have hx_ := mk222_)); have mk222_ := Aside0.mk (Nat.le_refl 0); refine goesL_ (some 159) rfl rfl Try.func13 (by kernel_rfl) rfl #[.slice Ao227 t590.length co227, .slice none 0 0] rfl (by (try simp only [List.map_toArray, List.map_cons, List.map_nil]); first | done | rfl | (simp only [List.length_drop, List.length_take]; rfl)) ?_; (refine (nat_Sub.calls _ _ t590 _ _ ([] : List Int) t595 t596 _ ?side1 ?side2 ?side3 ?side4 A222.out).mono ?_); (case side1 => repeat (first | exact (Kd.R_reads' HO592.out).2.2 | (with_reducible apply Kd.C_alloc) | (with_reducible apply Kd.C_drewN) | (with_reducible apply Kd.C_drew))); (case side2 => exact (Kd.R_reads' HO592.out).2.1); (case side3 => exact Kd.C_nil _ _); (case side4 => exact Nat.le_refl _); rintro e w228 ⟨v597, rfl, ho0, hb⟩; refine ⟨_, rfl, ?_⟩; have n0_ := Aside0.mk (Kd.R_elder' (by (with_reducible repeat (first | apply Kd.R_alloc | apply Kd.R_drewN | apply Kd.R_drew)); exact HO592.out) (Kd.R_base ho0) hb); have n2_ := Aside0.mk (below_step (by repeat (first | (with_reducible first | exact HB.out | apply below_alloc | apply pw_below_drewN | apply below_drew1) | exact HB.out)) hb); clear HO592; clear HB; have HO592 := n0_; have HB := n2_; clear n0_ n2_; (try clear hb); (try clear hb2); (try clear hk); (try clear hi); (try clear ho0)) | (go_at_call 27; (fail_if_success (have hx_ := mk223_)); have mk223_ := Aside0.mk (Nat.le_refl 0); (with_reducible refine (alidadelaw01_of_1.calls 9 t599 _ A223.out).mono ?_); rintro e w229 ⟨v600, rfl, ho0, hb⟩; have n0_ := Aside0.mk (Kd.R_elder' (by (with_reducible repeat (first | apply Kd.R_alloc | apply Kd.R_drewN | apply Kd.R_drew)); exact HO592.out) (Kd.R_base ho0) hb); have n2_ := Aside0.mk (Kd.R_lower ho0 (below_size (by repeat (first | (with_reducible first | exact HB.out | apply below_alloc | apply pw_below_drewN | apply below_drew1) | exact HB.out)))); have n3_ := Aside0.mk (below_step (by repeat (first | (with_reducible first | exact HB.out | apply below_alloc | apply pw_below_drewN | apply below_drew1) | exact HB.out)) hb); clear HO592; clear HB; have HO592 := n0_; have HO601 := n2_; have HB := n3_; clear n0_ n2_ n3_; (try clear hb); (try clear hb2); (try clear hk); (try clear hi); (try clear ho0); obtain ⟨Ao230, co230, eo230⟩ := Kd.R_slice HO601.out; subst eo230) | ((with_reducible refine gate_callee (f := 13) rfl ?_); (fail_if_success (have hx_ := mk224_)); have mk224_ := Aside0.mk (Nat.le_refl 0); refine goesL_ (some 166) rfl rfl Try.func13 (by kernel_rfl) rfl #[.slice Ao230 t599.length co230, .slice Ao227 t590.length co227] rfl (by (try simp only [List.map_toArray, List.map_cons, List.map_nil]); first | done | rfl | (simp only [List.length_drop, List.length_take]; rfl)) ?_; (with_reducible refine (nat_Sub.calls _ _ t599 _ _ t590 t602 t603 _ ?side1 ?side2 ?side3 ?side4 A224.out).mono ?_); (case side1 => repeat (first | exact (Kd.R_reads' HO601.out).2.2 | (with_reducible apply Kd.C_alloc) | (with_reducible apply Kd.C_drewN) | (with_reducible apply Kd.C_drew))); (case side2 => exact (Kd.R_reads' HO601.out).2.1); (case side3 => repeat (first | exact (Kd.R_reads' HO592.out).2.2 | (with_reducible apply Kd.C_alloc) | (with_reducible apply Kd.C_drewN) | (with_reducible apply Kd.C_drew))); (case side4 => exact (Kd.R_reads' HO592.out).2.1); rintro e w231 ⟨v604, rfl, ho0, hb⟩; refine ⟨_, rfl, ?_⟩; have n0_ := Aside0.mk (Kd.R_elder' (by (with_reducible repeat (first | apply Kd.R_alloc | apply Kd.R_drewN | apply Kd.R_drew)); exact HO592.out) (Kd.R_base ho0) hb); have n4_ := Aside0.mk (below_step (by repeat (first | (with_reducible first | exact HB.out | apply below_alloc | apply pw_below_drewN | apply below_drew1) | exact HB.out)) hb); clear HO592; clear HB; have HO592 := n0_; have HB := n4_; clear n0_ n4_; (try clear hb); (try clear hb2); (try clear hk); (try clear hi); (try clear ho0)))
          (try simp only [Act.put, List.setIfInBounds_toArray, List.set_cons_zero, List.set_cons_succ])
          go_cut [216] (fun v216 wc => ∃ (kq : Nat) (x216_224 : Bool), v216 = .bool x216_224 ∧ Aside0 (alidadelaw01_NatNames.j1 kq x216_224 = some r) ∧ Aside0 (kq ≤ kj16) ∧ Aside0 (Below w.heap.size w wc))
          case first => as_aux_lemma =>
            have H := HC225.out
            clear HC225
            by_cases c232 : t594 = true
            · subst c232
              rw [if_pos rfl] at H
              exact absurd H (alidadelaw01_NatNames.j1_true _ _)
            · replace c232 := Bool.eq_false_iff.mpr c232
              subst c232
              rw [if_neg (show ¬ (false = true) by decide)] at H
              by_cases c233 : t596 = true
              · subst c233
                rw [if_pos rfl] at H
                exact absurd H (alidadelaw01_NatNames.j1_true _ _)
              · replace c233 := Bool.eq_false_iff.mpr c233
                subst c233
                rw [if_neg (show ¬ (false = true) by decide)] at H
                by_cases c234 : t603 = true
                · subst c234
                  rw [if_pos rfl] at H
                  exact absurd H (alidadelaw01_NatNames.j1_true _ _)
                · replace c234 := Bool.eq_false_iff.mpr c234
                  subst c234
                  rw [if_neg (show ¬ (false = true) by decide)] at H
                  replace H := Option.bind_eq_some_iff.mp H
                  obtain ⟨t606, A2350, H⟩ := H
                  have A235 := Aside0.mk A2350
                  clear A2350
                  replace H := Option.bind_eq_some_iff.mp H
                  obtain ⟨t609, A2360, H⟩ := H
                  have A236 := Aside0.mk A2360
                  clear A2360
                  replace H := Option.bind_eq_some_iff.mp H
                  obtain ⟨t612, A2370, H⟩ := H
                  have A237 := Aside0.mk A2370
                  clear A2370
                  replace H := Option.bind_eq_some_iff.mp H
                  obtain ⟨t615, A2380, H⟩ := H
                  have A238 := Aside0.mk A2380
                  clear A2380
                  replace H := Option.bind_eq_some_iff.mp H
                  obtain ⟨t618, A2390, H⟩ := H
                  have A239 := Aside0.mk A2390
                  clear A2390
                  replace H := Option.bind_eq_some_iff.mp H
                  obtain ⟨t621, A2400, H⟩ := H
                  have A240 := Aside0.mk A2400
                  clear A2400
                  by_cases c241 : (wrap64 ((wrap64 ((wrap64 ((t609.length : Int) + (t615.length : Int))) + (t618.length : Int))) + (t621.length : Int))) = 0
                  · rw [if_pos c241] at H
                    have c241b0 : ((wrap64 ((wrap64 ((wrap64 ((t609.length : Int) + (t615.length : Int))) + (t618.length : Int))) + (t621.length : Int))) == 0) = true := beq_iff_eq.mpr c241
                    have c241b1 : ((wrap64 ((wrap64 ((wrap64 ((t609.length : Int) + (t615.length : Int))) + (t618.length : Int))) + (t621.length : Int))) != 0) = false := bne_eq_false_iff_eq.mpr c241
                    clear c241
                    (first | rw [c241b0] | (simp only [i64_w, i32_w]; rw [c241b0]) | skip)
                    replace H := Option.bind_eq_some_iff.mp H
                    obtain ⟨t624, A2420, H⟩ := H
                    have A242 := Aside0.mk A2420
                    clear A2420
                    by_cases c243 : t624 = 0
                    · rw [if_pos c243] at H
                      have c243b0 : (t624 == 0) = true := beq_iff_eq.mpr c243
                      have c243b1 : (t624 != 0) = false := bne_eq_false_iff_eq.mpr c243
                      clear c243
                      replace H := Option.bind_eq_some_iff.mp H
                      obtain ⟨t625, A2440, H⟩ := H
                      have A244 := Aside0.mk A2440
                      clear A2440
                      by_cases c245 : t625 = true
                      · subst c245
                        rw [if_pos rfl] at H
                        exact absurd H (alidadelaw01_NatNames.j1_true _ _)
                      · replace c245 := Bool.eq_false_iff.mpr c245
                        subst c245
                        rw [if_neg (show ¬ (false = true) by decide)] at H
                        replace H := Option.bind_eq_some_iff.mp H
                        obtain ⟨t626, A2580, H⟩ := H
                        have A258 := Aside0.mk A2580
                        clear A2580
                        by_cases c259 : t626 = 0
                        · rw [if_pos c259] at H
                          have c259b0 : (t626 == 0) = true := beq_iff_eq.mpr c259
                          have c259b1 : (t626 != 0) = false := bne_eq_false_iff_eq.mpr c259
                          clear c259
                          replace H := Option.bind_eq_some_iff.mp H
                          obtain ⟨t627, A2600, H⟩ := H
                          have A260 := Aside0.mk A2600
                          clear A2600
                          replace H := Option.bind_eq_some_iff.mp H
                          obtain ⟨t630, A2610, H⟩ := H
                          replace H : (alidadelaw01_NatNames.j1 kj16 t630) = some r := H
                          have A261 := Aside0.mk A2610
                          clear A2610
                          have H' := Aside0.mk H
                          clear H
                          go_wp2_with (first | (go_at_call 27; (fail_if_success (have hx_ := mk235_)); have mk235_ := Aside0.mk (Nat.le_refl 0); (with_reducible refine (alidadelaw01_of_1.calls 1 t606 _ A235.out).mono ?_); rintro e w262 ⟨v607, rfl, ho0, hb⟩; have n0_ := Aside0.mk (Kd.R_elder' (by (with_reducible repeat (first | apply Kd.R_alloc | apply Kd.R_drewN | apply Kd.R_drew)); exact HO592.out) (Kd.R_base ho0) hb); have n4_ := Aside0.mk (Kd.R_lower ho0 (below_size (by repeat (first | (with_reducible first | exact HB.out | apply below_alloc | apply pw_below_drewN | apply below_drew1) | exact HB.out)))); have n5_ := Aside0.mk (below_step (by repeat (first | (with_reducible first | exact HB.out | apply below_alloc | apply pw_below_drewN | apply below_drew1) | exact HB.out)) hb); clear HO592; clear HB; have HO592 := n0_; have HO608 := n4_; have HB := n5_; clear n0_ n4_ n5_; (try clear hb); (try clear hb2); (try clear hk); (try clear hi); (try clear ho0); obtain ⟨Ao263, co263, eo263⟩ := Kd.R_slice HO608.out; subst eo263) | (go_at_call 12; (fail_if_success (have hx_ := mk236_)); have mk236_ := Aside0.mk (Nat.le_refl 0); (with_reducible refine (nat_Add.calls _ _ t590 _ _ t606 t609 _ ?side1 ?side2 ?side3 ?side4 A236.out).mono ?_); (case side1 => repeat (first | exact (Kd.R_reads' HO592.out).2.2 | (with_reducible apply Kd.C_alloc) | (with_reducible apply Kd.C_drewN) | (with_reducible apply Kd.C_drew))); (case side2 => exact (Kd.R_reads' HO592.out).2.1); (case side3 => repeat (first | exact (Kd.R_reads' HO608.out).2.2 | (with_reducible apply Kd.C_alloc) | (with_reducible apply Kd.C_drewN) | (with_reducible apply Kd.C_drew))); (case side4 => exact (Kd.R_reads' HO608.out).2.1); rintro e w264 ⟨v610, rfl, ho0, hb⟩; have n0_ := Aside0.mk (Kd.R_elder' (by (with_reducible repeat (first | apply Kd.R_alloc | apply Kd.R_drewN | apply Kd.R_drew)); exact HO592.out) (Kd.R_base ho0) hb); have n5_ := Aside0.mk (Kd.R_lower ho0 (below_size (by repeat (first | (with_reducible first | exact HB.out | apply below_alloc | apply pw_below_drewN | apply below_drew1) | exact HB.out)))); have n6_ := Aside0.mk (below_step (by repeat (first | (with_reducible first | exact HB.out | apply below_alloc | apply pw_below_drewN | apply below_drew1) | exact HB.out)) hb); clear HO592; clear HB; have HO592 := n0_; have HO611 := n5_; have HB := n6_; clear n0_ n5_ n6_; (try clear hb); (try clear hb2); (try clear hk); (try clear hi); (try clear ho0); obtain ⟨Ao265, co265, eo265⟩ := Kd.R_slice HO611.out; subst eo265) | (go_at_call 27; (fail_if_success (have hx_ := mk237_)); have mk237_ := Aside0.mk (Nat.le_refl 0); (with_reducible refine (alidadelaw01_of_1.calls 1 t612 _ A237.out).mono ?_); rintro e w266 ⟨v613, rfl, ho0, hb⟩; have n0_ := Aside0.mk (Kd.R_elder' (by (with_reducible repeat (first | apply Kd.R_alloc | apply Kd.R_drewN | apply Kd.R_drew)); exact HO592.out) (Kd.R_base ho0) hb); have n6_ := Aside0.mk (Kd.R_lower ho0 (below_size (by repeat (first | (with_reducible first | exact HB.out | apply below_alloc | apply pw_below_drewN | apply below_drew1) | exact HB.out)))); have n7_ := Aside0.mk (below_step (by repeat (first | (with_reducible first | exact HB.out | apply below_alloc | apply pw_below_drewN | apply below_drew1) | exact HB.out)) hb); clear HO592; clear HB; have HO592 := n0_; have HO614 := n6_; have HB := n7_; clear n0_ n6_ n7_; (try clear hb); (try clear hb2); (try clear hk); (try clear hi); (try clear ho0); obtain ⟨Ao267, co267, eo267⟩ := Kd.R_slice HO614.out; subst eo267) | (go_at_call 12; (fail_if_success (have hx_ := mk238_)); have mk238_ := Aside0.mk (Nat.le_refl 0); (with_reducible refine (nat_Add.calls _ _ t612 _ _ t590 t615 _ ?side1 ?side2 ?side3 ?side4 A238.out).mono ?_); (case side1 => repeat (first | exact (Kd.R_reads' HO614.out).2.2 | (with_reducible apply Kd.C_alloc) | (with_reducible apply Kd.C_drewN) | (with_reducible apply Kd.C_drew))); (case side2 => exact (Kd.R_reads' HO614.out).2.1); (case side3 => repeat (first | exact (Kd.R_reads' HO592.out).2.2 | (with_reducible apply Kd.C_alloc) | (with_reducible apply Kd.C_drewN) | (with_reducible apply Kd.C_drew))); (case side4 => exact (Kd.R_reads' HO592.out).2.1); rintro e w268 ⟨v616, rfl, ho0, hb⟩; have n0_ := Aside0.mk (Kd.R_elder' (by (with_reducible repeat (first | apply Kd.R_alloc | apply Kd.R_drewN | apply Kd.R_drew)); exact HO592.out) (Kd.R_base ho0) hb); have n7_ := Aside0.mk (Kd.R_lower ho0 (below_size (by repeat (first | (with_reducible first | exact HB.out | apply below_alloc | apply pw_below_drewN | apply below_drew1) | exact HB.out)))); have n8_ := Aside0.mk (below_step (by repeat (first | (with_reducible first | exact HB.out | apply below_alloc | apply pw_below_drewN | apply below_drew1) | exact HB.out)) hb); clear HO592; clear HB; have HO592 := n0_; have HO617 := n7_; have HB := n8_; clear n0_ n7_ n8_; (try clear hb); (try clear hb2); (try clear hk); (try clear hi); (try clear ho0); obtain ⟨Ao269, co269, eo269⟩ := Kd.R_slice HO617.out; subst eo269) | (go_at_call 16; (fail_if_success (have hx_ := mk239_)); have mk239_ := Aside0.mk (Nat.le_refl 0); (with_reducible refine (nat_Shl.calls _ _ t590 1 t618 _ ?side1 ?side2 A239.out).mono ?_); (case side1 => repeat (first | exact (Kd.R_reads' HO592.out).2.2 | (with_reducible apply Kd.C_alloc) | (with_reducible apply Kd.C_drewN) | (with_reducible apply Kd.C_drew))); (case side2 => exact (Kd.R_reads' HO592.out).2.1); rintro e w270 ⟨v619, rfl, ho0, hb⟩; have n0_ := Aside0.mk (Kd.R_elder' (by (with_reducible repeat (first | apply Kd.R_alloc | apply Kd.R_drewN | apply Kd.R_drew)); exact HO592.out) (Kd.R_base ho0) hb); have n8_ := Aside0.mk (Kd.R_lower ho0 (below_size (by repeat (first | (with_reducible first | exact HB.out | apply below_alloc | apply pw_below_drewN | apply below_drew1) | exact HB.out)))); have n9_ := Aside0.mk (below_step (by repeat (first | (with_reducible first | exact HB.out | apply below_alloc | apply pw_below_drewN | apply below_drew1) | exact HB.out)) hb); clear HO592; clear HB; have HO592 := n0_; have HO620 := n8_; have HB := n9_; clear n0_ n8_ n9_; (try clear hb); (try clear hb2); (try clear hk); (try clear hi); (try clear ho0); obtain ⟨Ao271, co271, eo271⟩ := Kd.R_slice HO620.out; subst eo271) | (go_at_call 17; (fail_if_success (have hx_ := mk240_)); have mk240_ := Aside0.mk (Nat.le_refl 0); (with_reducible refine (nat_Shr.calls _ _ t590 1 t621 _ ?side1 ?side2 A240.out).mono ?_); (case side1 => repeat (first | exact (Kd.R_reads' HO592.out).2.2 | (with_reducible apply Kd.C_alloc) | (with_reducible apply Kd.C_drewN) | (with_reducible apply Kd.C_drew))); (case side2 => exact (Kd.R_reads' HO592.out).2.1); rintro e w272 ⟨v622, rfl, ho0, hb⟩; have n0_ := Aside0.mk (Kd.R_elder' (by (with_reducible repeat (first | apply Kd.R_alloc | apply Kd.R_drewN | apply Kd.R_drew)); exact HO592.out) (Kd.R_base ho0) hb); have n9_ := Aside0.mk (Kd.R_lower ho0 (below_size (by repeat (first | (with_reducible first | exact HB.out | apply below_alloc | apply pw_below_drewN | apply below_drew1) | exact HB.out)))); have n10_ := Aside0.mk (below_step (by repeat (first | (with_reducible first | exact HB.out | apply below_alloc | apply pw_below_drewN | apply below_drew1) | exact HB.out)) hb); clear HO592; clear HB; have HO592 := n0_; have HO623 := n9_; have HB := n10_; clear n0_ n9_ n10_; (try clear hb); (try clear hb2); (try clear hk); (try clear hi); (try clear ho0); obtain ⟨Ao273, co273, eo273⟩ := Kd.R_slice HO623.out; subst eo273) | (go_at_call 18; (fail_if_success (have hx_ := mk242_)); have mk242_ := Aside0.mk (Nat.le_refl 0); (with_reducible refine (nat_Bits.calls _ _ t590 t624 _ ?side1 ?side2 A242.out).mono ?_); (case side1 => repeat (first | exact (Kd.R_reads' HO592.out).2.2 | (with_reducible apply Kd.C_alloc) | (with_reducible apply Kd.C_drewN) | (with_reducible apply Kd.C_drew))); (case side2 => exact (Kd.R_reads' HO592.out).2.1); rintro e w' ⟨rfl, ⟨nd, rfl⟩⟩) | (go_at_call 24; (fail_if_success (have hx_ := mk244_)); have mk244_ := Aside0.mk (Nat.le_refl 0); (with_reducible refine (nat_Bit.calls _ _ t590 0 false _ ?side1 ?side2 A244.out).mono ?_); (case side1 => repeat (first | exact (Kd.R_reads' HO592.out).2.2 | (with_reducible apply Kd.C_alloc) | (with_reducible apply Kd.C_drewN) | (with_reducible apply Kd.C_drew))); (case side2 => exact (Kd.R_reads' HO592.out).2.1); rintro e w' ⟨rfl, ⟨nd, rfl⟩⟩) | (go_at_call 15; (fail_if_success (have hx_ := mk258_)); have mk258_ := Aside0.mk (Nat.le_refl 0); (refine (nat_Cmp.calls _ _ t590 _ _ ([] : List Int) t626 _ ?side1 ?side2 ?side3 ?side4 A258.out).mono ?_); (case side1 => repeat (first | exact (Kd.R_reads' HO592.out).2.2 | (with_reducible apply Kd.C_alloc) | (with_reducible apply Kd.C_drewN) | (with_reducible apply Kd.C_drew))); (case side2 => exact (Kd.R_reads' HO592.out).2.1); (case side3 => exact Kd.C_nil _ _); (case side4 => exact Nat.le_refl _); rintro e w274 ⟨rfl, hb⟩; have n10_ := Aside0.mk (below_step (by repeat (first | (with_reducible first | exact HB.out | apply below_alloc | apply pw_below_drewN | apply below_drew1) | exact HB.out)) hb); clear HB; have HB := n10_; clear n10_; (try clear hb); (try clear hb2); (try clear hk); (try clear hi)) | (go_at_call 27; (fail_if_success (have hx_ := mk260_)); have mk260_ := Aside0.mk (Nat.le_refl 0); (with_reducible refine (alidadelaw01_of_1.calls 0 t627 _ A260.out).mono ?_); rintro e w275 ⟨v628, rfl, ho0, hb⟩; have q_ := Kd.arm_new ho0 hb (by repeat (first | (with_reducible first | exact HB.out | apply below_alloc | apply pw_below_drewN | apply below_drew1) | exact HB.out)); clear HB; obtain ⟨HO629, HB⟩ := q_; (try clear hb); (try clear ho0); obtain ⟨Ao276, co276, eo276⟩ := Kd.R_slice HO629.out; subst eo276) | (go_at_call 11; (fail_if_success (have hx_ := mk261_)); have mk261_ := Aside0.mk (Nat.le_refl 0); (with_reducible refine (nat_May.calls _ _ t627 t630 _ ?side1 ?side2 A261.out).mono ?_); (case side1 => repeat (first | exact (Kd.R_reads' HO629.out).2.2 | (with_reducible apply Kd.C_alloc) | (with_reducible apply Kd.C_drewN) | (with_reducible apply Kd.C_drew))); (case side2 => exact (Kd.R_reads' HO629.out).2.1); rintro e w' ⟨rfl, ⟨nd, rfl⟩⟩))
                          go_meet
                          case rel => exact ⟨_, (t630), (by first | rfl | (simp; done) | (simp [*]; done)), H', ⟨by have := HJ16.out; first | omega | exact Nat.le_refl _⟩, ⟨by repeat (first | (with_reducible first | exact HB.out | apply below_alloc | apply pw_below_drewN | apply below_drew1) | exact HB.out)⟩⟩
                        · rw [if_neg c259] at H
                          have c259b0 : (t626 == 0) = false := beq_eq_false_iff_ne.mpr c259
                          have c259b1 : (t626 != 0) = true := bne_iff_ne.mpr c259
                          exact absurd H (alidadelaw01_NatNames.j1_true _ _)
                    · rw [if_neg c243] at H
                      have c243b0 : (t624 == 0) = false := beq_eq_false_iff_ne.mpr c243
                      have c243b1 : (t624 != 0) = true := bne_iff_ne.mpr c243
                      exact absurd H (alidadelaw01_NatNames.j1_true _ _)
                  · rw [if_neg c241] at H
                    have c241b0 : ((wrap64 ((wrap64 ((wrap64 ((t609.length : Int) + (t615.length : Int))) + (t618.length : Int))) + (t621.length : Int))) == 0) = false := beq_eq_false_iff_ne.mpr c241
                    have c241b1 : ((wrap64 ((wrap64 ((wrap64 ((t609.length : Int) + (t615.length : Int))) + (t618.length : Int))) + (t621.length : Int))) != 0) = true := bne_iff_ne.mpr c241
                    (first | rw [c241b0] | (simp only [i64_w, i32_w]; rw [c241b0]) | skip)
                    exact absurd H (alidadelaw01_NatNames.j1_true _ _)
          case rest => as_aux_lemma =>
            clear HC225
            try clear c2
            try clear c38
            try clear c38b0
            try clear c38b1
            try clear c39
            try clear c40
            try clear c41
            try clear c41b0
            try clear c41b1
            try clear c42
            try clear c43
            try clear c46
            try clear c47
            try clear c51
            try clear c52
            try clear c52b0
            try clear c52b1
            try clear c52b2
            try clear c58
            try clear c62
            try clear c66
            try clear c66b0
            try clear c66b1
            try clear c70
            try clear c70b0
            try clear c70b1
            try clear c73
            try clear c73b0
            try clear c73b1
            try clear c219
            try clear c232
            try clear c233
            try clear c234
            try clear c241
            try clear c241b0
            try clear c241b1
            try clear c243
            try clear c243b0
            try clear c243b1
            try clear c245
            try clear c259
            try clear c259b0
            try clear c259b1
            obtain ⟨kq, x216_224, rfl, HA, HJ224, HB⟩ := hcut
            cases kq with
            | zero => exact absurd HA.out (by simp [alidadelaw01_NatNames.j1])
            | succ kj224 =>
              have H := HA.out
              clear HA
              simp only [alidadelaw01_NatNames.j1] at H
              by_cases c314 : x216_224 = true
              · subst c314
                rw [if_pos rfl] at H
                exact absurd H (by simp)
              · replace c314 := Bool.eq_false_iff.mpr c314
                subst c314
                rw [if_neg (show ¬ (false = true) by decide)] at H
                have HC315 := Aside0.mk H
                clear H
                go_upto_region 17 with (fail)
                go_cut [312] (fun v312 wc => ∃ (kq : Nat) (x312_314 : Bool), v312 = .bool x312_314 ∧ Aside0 (alidadelaw01_NatNames.j2 kq x312_314 = some r) ∧ Aside0 (kq ≤ kj224) ∧ Aside0 (Below w.heap.size w wc))
                case first => as_aux_lemma =>
                  have H := HC315.out
                  clear HC315
                  replace H := Option.bind_eq_some_iff.mp H
                  obtain ⟨t631, A3160, H⟩ := H
                  have A316 := Aside0.mk A3160
                  clear A3160
                  by_cases c317 : t631 = 0
                  · rw [if_pos c317] at H
                    have c317b0 : (t631 == 0) = true := beq_iff_eq.mpr c317
                    have c317b1 : (t631 != 0) = false := bne_eq_false_iff_eq.mpr c317
                    clear c317
                    (first | rw [c317b0] | (simp only [i64_w, i32_w]; rw [c317b0]) | skip)
                    replace H := Option.bind_eq_some_iff.mp H
                    obtain ⟨t632, A3180, H⟩ := H
                    have A318 := Aside0.mk A3180
                    clear A3180
                    replace H := Option.bind_eq_some_iff.mp H
                    obtain ⟨t635, A3190, H⟩ := H
                    have A319 := Aside0.mk A3190
                    clear A3190
                    by_cases c320 : t635 = 33
                    · rw [if_pos c320] at H
                      have c320b0 : (t635 == 33) = true := beq_iff_eq.mpr c320
                      have c320b1 : (t635 != 33) = false := bne_eq_false_iff_eq.mpr c320
                      clear c320
                      replace H := Option.bind_eq_some_iff.mp H
                      obtain ⟨t636, A3210, H⟩ := H
                      have A321 := Aside0.mk A3210
                      clear A3210
                      replace H := Option.bind_eq_some_iff.mp H
                      obtain ⟨t639, A3220, H⟩ := H
                      have A322 := Aside0.mk A3220
                      clear A3220
                      by_cases c323 : t639 = 32
                      · rw [if_pos c323] at H
                        have c323b0 : (t639 == 32) = true := beq_iff_eq.mpr c323
                        have c323b1 : (t639 != 32) = false := bne_eq_false_iff_eq.mpr c323
                        clear c323
                        replace H := Option.bind_eq_some_iff.mp H
                        obtain ⟨t640, A3240, H⟩ := H
                        have A324 := Aside0.mk A3240
                        clear A3240
                        replace H := Option.bind_eq_some_iff.mp H
                        obtain ⟨t643, A3250, H⟩ := H
                        have A325 := Aside0.mk A3250
                        clear A3250
                        by_cases c326 : t643 = true
                        · subst c326
                          rw [if_pos rfl] at H
                          replace H := Option.bind_eq_some_iff.mp H
                          obtain ⟨t644, A3270, H⟩ := H
                          have A327 := Aside0.mk A3270
                          clear A3270
                          replace H := Option.bind_eq_some_iff.mp H
                          obtain ⟨t647, A3280, H⟩ := H
                          have A328 := Aside0.mk A3280
                          clear A3280
                          by_cases c329 : t647 = true
                          · subst c329
                            rw [if_pos rfl] at H
                            exact absurd H (alidadelaw01_NatNames.j2_true _ _)
                          · replace c329 := Bool.eq_false_iff.mpr c329
                            subst c329
                            rw [if_neg (show ¬ (false = true) by decide)] at H
                            replace H := Option.bind_eq_some_iff.mp H
                            obtain ⟨t648, A3380, H⟩ := H
                            have A338 := Aside0.mk A3380
                            clear A3380
                            replace H := Option.bind_eq_some_iff.mp H
                            obtain ⟨t651, A3390, H⟩ := H
                            have A339 := Aside0.mk A3390
                            clear A3390
                            by_cases c340 : t651 = true
                            · subst c340
                              rw [if_pos rfl] at H
                              exact absurd H (alidadelaw01_NatNames.j2_true _ _)
                            · replace c340 := Bool.eq_false_iff.mpr c340
                              subst c340
                              rw [if_neg (show ¬ (false = true) by decide)] at H
                              replace H := Option.bind_eq_some_iff.mp H
                              obtain ⟨t652, A3510, H⟩ := H
                              have A351 := Aside0.mk A3510
                              clear A3510
                              replace H := Option.bind_eq_some_iff.mp H
                              obtain ⟨t655, A3520, H⟩ := H
                              have A352 := Aside0.mk A3520
                              clear A3520
                              by_cases c353 : t655 = true
                              · subst c353
                                rw [if_pos rfl] at H
                                exact absurd H (alidadelaw01_NatNames.j2_true _ _)
                              · replace c353 := Bool.eq_false_iff.mpr c353
                                subst c353
                                rw [if_neg (show ¬ (false = true) by decide)] at H
                                replace H := Option.bind_eq_some_iff.mp H
                                obtain ⟨t656, A3660, H⟩ := H
                                have A366 := Aside0.mk A3660
                                clear A3660
                                replace H := Option.bind_eq_some_iff.mp H
                                obtain ⟨t659, A3670, H⟩ := H
                                have A367 := Aside0.mk A3670
                                clear A3670
                                replace H := Option.bind_eq_some_iff.mp H
                                obtain ⟨t662, A3680, H⟩ := H
                                have A368 := Aside0.mk A3680
                                clear A3680
                                replace H := Option.bind_eq_some_iff.mp H
                                obtain ⟨t665, A3690, H⟩ := H
                                have A369 := Aside0.mk A3690
                                clear A3690
                                replace H := Option.bind_eq_some_iff.mp H
                                obtain ⟨t668, A3700, H⟩ := H
                                have A370 := Aside0.mk A3700
                                clear A3700
                                replace H := Option.bind_eq_some_iff.mp H
                                obtain ⟨t671, A3710, H⟩ := H
                                have A371 := Aside0.mk A3710
                                clear A3710
                                replace H := Option.bind_eq_some_iff.mp H
                                obtain ⟨t674, A3720, H⟩ := H
                                have A372 := Aside0.mk A3720
                                clear A3720
                                replace H := Option.bind_eq_some_iff.mp H
                                obtain ⟨t677, A3730, H⟩ := H
                                have A373 := Aside0.mk A3730
                                clear A3730
                                replace H := Option.bind_eq_some_iff.mp H
                                obtain ⟨t680, A3740, H⟩ := H
                                have A374 := Aside0.mk A3740
                                clear A3740
                                by_cases c375 : (wrap64 ((wrap64 ((wrap64 ((wrap64 ((t659.length : Int) + (t665.length : Int))) + (t671.length : Int))) + (t677.length : Int))) + (t680.length : Int))) = 0
                                · rw [if_pos c375] at H
                                  have c375b0 : ((wrap64 ((wrap64 ((wrap64 ((wrap64 ((t659.length : Int) + (t665.length : Int))) + (t671.length : Int))) + (t677.length : Int))) + (t680.length : Int))) == 0) = true := beq_iff_eq.mpr c375
                                  have c375b1 : ((wrap64 ((wrap64 ((wrap64 ((wrap64 ((t659.length : Int) + (t665.length : Int))) + (t671.length : Int))) + (t677.length : Int))) + (t680.length : Int))) != 0) = false := bne_eq_false_iff_eq.mpr c375
                                  clear c375
                                  replace H := Option.bind_eq_some_iff.mp H
                                  obtain ⟨t683, A3760, H⟩ := H
                                  have A376 := Aside0.mk A3760
                                  clear A3760
                                  replace H := Option.bind_eq_some_iff.mp H
                                  obtain ⟨t686, A3770, H⟩ := H
                                  have A377 := Aside0.mk A3770
                                  clear A3770
                                  replace H := Option.bind_eq_some_iff.mp H
                                  obtain ⟨t689, A3780, H⟩ := H
                                  have A378 := Aside0.mk A3780
                                  clear A3780
                                  replace H := Option.bind_eq_some_iff.mp H
                                  obtain ⟨t692, A3790, H⟩ := H
                                  have A379 := Aside0.mk A3790
                                  clear A3790
                                  by_cases c380 : t692 = true
                                  · subst c380
                                    rw [if_pos rfl] at H
                                    replace H := Option.bind_eq_some_iff.mp H
                                    obtain ⟨t693, A3810, H⟩ := H
                                    have A381 := Aside0.mk A3810
                                    clear A3810
                                    replace H := Option.bind_eq_some_iff.mp H
                                    obtain ⟨t696, A3820, H⟩ := H
                                    have A382 := Aside0.mk A3820
                                    clear A3820
                                    replace H := Option.bind_eq_some_iff.mp H
                                    obtain ⟨t699, A3830, H⟩ := H
                                    have A383 := Aside0.mk A3830
                                    clear A3830
                                    replace H := Option.bind_eq_some_iff.mp H
                                    obtain ⟨t702, A3840, H⟩ := H
                                    have A384 := Aside0.mk A3840
                                    clear A3840
                                    by_cases c385 : t702 = true
                                    · subst c385
                                      rw [if_pos rfl] at H
                                      replace H := Option.bind_eq_some_iff.mp H
                                      obtain ⟨t703, A3860, H⟩ := H
                                      have A386 := Aside0.mk A3860
                                      clear A3860
                                      replace H := Option.bind_eq_some_iff.mp H
                                      obtain ⟨t706, A3870, H⟩ := H
                                      have A387 := Aside0.mk A3870
                                      clear A3870
                                      replace H := Option.bind_eq_some_iff.mp H
                                      obtain ⟨t709, A3880, H⟩ := H
                                      have A388 := Aside0.mk A3880
                                      clear A3880
                                      replace H := Option.bind_eq_some_iff.mp H
                                      obtain ⟨t712, A3890, H⟩ := H
                                      have A389 := Aside0.mk A3890
                                      clear A3890
                                      by_cases c390 : t712 = true
                                      · subst c390
                                        rw [if_pos rfl] at H
                                        replace H := Option.bind_eq_some_iff.mp H
                                        obtain ⟨t713, A3910, H⟩ := H
                                        have A391 := Aside0.mk A3910
                                        clear A3910
                                        replace H := Option.bind_eq_some_iff.mp H
                                        obtain ⟨t716, A3920, H⟩ := H
                                        have A392 := Aside0.mk A3920
                                        clear A3920
                                        replace H := Option.bind_eq_some_iff.mp H
                                        obtain ⟨t719, A3930, H⟩ := H
                                        have A393 := Aside0.mk A3930
                                        clear A3930
                                        replace H := Option.bind_eq_some_iff.mp H
                                        obtain ⟨t722, A3940, H⟩ := H
                                        replace H : (alidadelaw01_NatNames.j2 kj224 (!t722)) = some r := H
                                        have A394 := Aside0.mk A3940
                                        clear A3940
                                        have H' := Aside0.mk H
                                        clear H
                                        go_wp2_with (first | (go_at_call 18; (fail_if_success (have hx_ := mk316_)); have mk316_ := Aside0.mk (Nat.le_refl 0); (refine (nat_Bits.calls _ _ ([] : List Int) t631 _ ?side1 ?side2 A316.out).mono ?_); (case side1 => exact Kd.C_nil _ _); (case side2 => exact Nat.le_refl _); rintro e w' ⟨rfl, ⟨nd, rfl⟩⟩) | (go_at_call 27; (fail_if_success (have hx_ := mk318_)); have mk318_ := Aside0.mk (Nat.le_refl 0); (with_reducible refine (alidadelaw01_of_2.calls 0 1 t632 _ A318.out).mono ?_); rintro e w395 ⟨v633, rfl, ho0, hb⟩; have q_ := Kd.arm_new ho0 hb (by repeat (first | (with_reducible first | exact HB.out | apply below_alloc | apply pw_below_drewN | apply below_drew1) | exact HB.out)); clear HB; obtain ⟨HO634, HB⟩ := q_; (try clear hb); (try clear ho0); obtain ⟨Ao396, co396, eo396⟩ := Kd.R_slice HO634.out; subst eo396) | (go_at_call 18; (fail_if_success (have hx_ := mk319_)); have mk319_ := Aside0.mk (Nat.le_refl 0); (with_reducible refine (nat_Bits.calls _ _ t632 t635 _ ?side1 ?side2 A319.out).mono ?_); (case side1 => repeat (first | exact (Kd.R_reads' HO634.out).2.2 | (with_reducible apply Kd.C_alloc) | (with_reducible apply Kd.C_drewN) | (with_reducible apply Kd.C_drew))); (case side2 => exact (Kd.R_reads' HO634.out).2.1); rintro e w' ⟨rfl, ⟨nd, rfl⟩⟩) | (go_at_call 27; (fail_if_success (have hx_ := mk321_)); have mk321_ := Aside0.mk (Nat.le_refl 0); (with_reducible refine (alidadelaw01_of_1.calls 4294967295 t636 _ A321.out).mono ?_); rintro e w397 ⟨v637, rfl, ho0, hb⟩; have q_ := Kd.arm_new ho0 hb (by repeat (first | (with_reducible first | exact HB.out | apply below_alloc | apply pw_below_drewN | apply below_drew1) | exact HB.out)); clear HB; obtain ⟨HO638, HB⟩ := q_; (try clear hb); (try clear ho0); obtain ⟨Ao398, co398, eo398⟩ := Kd.R_slice HO638.out; subst eo398) | (go_at_call 18; (fail_if_success (have hx_ := mk322_)); have mk322_ := Aside0.mk (Nat.le_refl 0); (with_reducible refine (nat_Bits.calls _ _ t636 t639 _ ?side1 ?side2 A322.out).mono ?_); (case side1 => repeat (first | exact (Kd.R_reads' HO638.out).2.2 | (with_reducible apply Kd.C_alloc) | (with_reducible apply Kd.C_drewN) | (with_reducible apply Kd.C_drew))); (case side2 => exact (Kd.R_reads' HO638.out).2.1); rintro e w' ⟨rfl, ⟨nd, rfl⟩⟩) | (go_at_call 27; (fail_if_success (have hx_ := mk324_)); have mk324_ := Aside0.mk (Nat.le_refl 0); (with_reducible refine (alidadelaw01_of_2.calls 0 1 t640 _ A324.out).mono ?_); rintro e w399 ⟨v641, rfl, ho0, hb⟩; have q_ := Kd.arm_new ho0 hb (by repeat (first | (with_reducible first | exact HB.out | apply below_alloc | apply pw_below_drewN | apply below_drew1) | exact HB.out)); clear HB; obtain ⟨HO642, HB⟩ := q_; (try clear hb); (try clear ho0); obtain ⟨Ao400, co400, eo400⟩ := Kd.R_slice HO642.out; subst eo400) | (go_at_call 24; (fail_if_success (have hx_ := mk325_)); have mk325_ := Aside0.mk (Nat.le_refl 0); (with_reducible refine (nat_Bit.calls _ _ t640 32 true _ ?side1 ?side2 A325.out).mono ?_); (case side1 => repeat (first | exact (Kd.R_reads' HO642.out).2.2 | (with_reducible apply Kd.C_alloc) | (with_reducible apply Kd.C_drewN) | (with_reducible apply Kd.C_drew))); (case side2 => exact (Kd.R_reads' HO642.out).2.1); rintro e w' ⟨rfl, ⟨nd, rfl⟩⟩) | (go_at_call 27; (fail_if_success (have hx_ := mk327_)); have mk327_ := Aside0.mk (Nat.le_refl 0); (with_reducible refine (alidadelaw01_of_2.calls 0 1 t644 _ A327.out).mono ?_); rintro e w401 ⟨v645, rfl, ho0, hb⟩; have q_ := Kd.arm_new ho0 hb (by repeat (first | (with_reducible first | exact HB.out | apply below_alloc | apply pw_below_drewN | apply below_drew1) | exact HB.out)); clear HB; obtain ⟨HO646, HB⟩ := q_; (try clear hb); (try clear ho0); obtain ⟨Ao402, co402, eo402⟩ := Kd.R_slice HO646.out; subst eo402) | (go_at_call 24; (fail_if_success (have hx_ := mk328_)); have mk328_ := Aside0.mk (Nat.le_refl 0); (with_reducible refine (nat_Bit.calls _ _ t644 31 false _ ?side1 ?side2 A328.out).mono ?_); (case side1 => repeat (first | exact (Kd.R_reads' HO646.out).2.2 | (with_reducible apply Kd.C_alloc) | (with_reducible apply Kd.C_drewN) | (with_reducible apply Kd.C_drew))); (case side2 => exact (Kd.R_reads' HO646.out).2.1); rintro e w' ⟨rfl, ⟨nd, rfl⟩⟩) | (go_at_call 27; (fail_if_success (have hx_ := mk338_)); have mk338_ := Aside0.mk (Nat.le_refl 0); (with_reducible refine (alidadelaw01_of_1.calls 1 t648 _ A338.out).mono ?_); rintro e w403 ⟨v649, rfl, ho0, hb⟩; have q_ := Kd.arm_new ho0 hb (by repeat (first | (with_reducible first | exact HB.out | apply below_alloc | apply pw_below_drewN | apply below_drew1) | exact HB.out)); clear HB; obtain ⟨HO650, HB⟩ := q_; (try clear hb); (try clear ho0); obtain ⟨Ao404, co404, eo404⟩ := Kd.R_slice HO650.out; subst eo404) | (go_at_call 24; (fail_if_success (have hx_ := mk339_)); have mk339_ := Aside0.mk (Nat.le_refl 0); (with_reducible refine (nat_Bit.calls _ _ t648 (-1) false _ ?side1 ?side2 A339.out).mono ?_); (case side1 => repeat (first | exact (Kd.R_reads' HO650.out).2.2 | (with_reducible apply Kd.C_alloc) | (with_reducible apply Kd.C_drewN) | (with_reducible apply Kd.C_drew))); (case side2 => exact (Kd.R_reads' HO650.out).2.1); rintro e w' ⟨rfl, ⟨nd, rfl⟩⟩) | (go_at_call 27; (fail_if_success (have hx_ := mk351_)); have mk351_ := Aside0.mk (Nat.le_refl 0); (with_reducible refine (alidadelaw01_of_1.calls 1 t652 _ A351.out).mono ?_); rintro e w405 ⟨v653, rfl, ho0, hb⟩; have q_ := Kd.arm_new ho0 hb (by repeat (first | (with_reducible first | exact HB.out | apply below_alloc | apply pw_below_drewN | apply below_drew1) | exact HB.out)); clear HB; obtain ⟨HO654, HB⟩ := q_; (try clear hb); (try clear ho0); obtain ⟨Ao406, co406, eo406⟩ := Kd.R_slice HO654.out; subst eo406) | (go_at_call 24; (fail_if_success (have hx_ := mk352_)); have mk352_ := Aside0.mk (Nat.le_refl 0); (with_reducible refine (nat_Bit.calls _ _ t652 32 false _ ?side1 ?side2 A352.out).mono ?_); (case side1 => repeat (first | exact (Kd.R_reads' HO654.out).2.2 | (with_reducible apply Kd.C_alloc) | (with_reducible apply Kd.C_drewN) | (with_reducible apply Kd.C_drew))); (case side2 => exact (Kd.R_reads' HO654.out).2.1); rintro e w' ⟨rfl, ⟨nd, rfl⟩⟩) | (go_at_call 27; (fail_if_success (have hx_ := mk366_)); have mk366_ := Aside0.mk (Nat.le_refl 0); (with_reducible refine (alidadelaw01_of_1.calls 1 t656 _ A366.out).mono ?_); rintro e w407 ⟨v657, rfl, ho0, hb⟩; have q_ := Kd.arm_new ho0 hb (by repeat (first | (with_reducible first | exact HB.out | apply below_alloc | apply pw_below_drewN | apply below_drew1) | exact HB.out)); clear HB; obtain ⟨HO658, HB⟩ := q_; (try clear hb); (try clear ho0); obtain ⟨Ao408, co408, eo408⟩ := Kd.R_slice HO658.out; subst eo408) | (go_at_call 16; (fail_if_success (have hx_ := mk367_)); have mk367_ := Aside0.mk (Nat.le_refl 0); (with_reducible refine (nat_Shl.calls _ _ t656 (-1) t659 _ ?side1 ?side2 A367.out).mono ?_); (case side1 => repeat (first | exact (Kd.R_reads' HO658.out).2.2 | (with_reducible apply Kd.C_alloc) | (with_reducible apply Kd.C_drewN) | (with_reducible apply Kd.C_drew))); (case side2 => exact (Kd.R_reads' HO658.out).2.1); rintro e w409 ⟨v660, rfl, ho0, hb⟩; have q_ := Kd.arm_new ho0 hb (by repeat (first | (with_reducible first | exact HB.out | apply below_alloc | apply pw_below_drewN | apply below_drew1) | exact HB.out)); clear HB; obtain ⟨HO661, HB⟩ := q_; (try clear hb); (try clear ho0); obtain ⟨Ao410, co410, eo410⟩ := Kd.R_slice HO661.out; subst eo410) | (go_at_call 27; (fail_if_success (have hx_ := mk368_)); have mk368_ := Aside0.mk (Nat.le_refl 0); (with_reducible refine (alidadelaw01_of_1.calls 1 t662 _ A368.out).mono ?_); rintro e w411 ⟨v663, rfl, ho0, hb⟩; have q_ := Kd.arm_new ho0 hb (by repeat (first | (with_reducible first | exact HB.out | apply below_alloc | apply pw_below_drewN | apply below_drew1) | exact HB.out)); clear HB; obtain ⟨HO664, HB⟩ := q_; (try clear hb); (try clear ho0); obtain ⟨Ao412, co412, eo412⟩ := Kd.R_slice HO664.out; subst eo412) | (go_at_call 17; (fail_if_success (have hx_ := mk369_)); have mk369_ := Aside0.mk (Nat.le_refl 0); (with_reducible refine (nat_Shr.calls _ _ t662 (-1) t665 _ ?side1 ?side2 A369.out).mono ?_); (case side1 => repeat (first | exact (Kd.R_reads' HO664.out).2.2 | (with_reducible apply Kd.C_alloc) | (with_reducible apply Kd.C_drewN) | (with_reducible apply Kd.C_drew))); (case side2 => exact (Kd.R_reads' HO664.out).2.1); rintro e w413 ⟨v666, rfl, ho0, hb⟩; have q_ := Kd.arm_new ho0 hb (by repeat (first | (with_reducible first | exact HB.out | apply below_alloc | apply pw_below_drewN | apply below_drew1) | exact HB.out)); clear HB; obtain ⟨HO667, HB⟩ := q_; (try clear hb); (try clear ho0); obtain ⟨Ao414, co414, eo414⟩ := Kd.R_slice HO667.out; subst eo414) | (go_at_call 27; (fail_if_success (have hx_ := mk370_)); have mk370_ := Aside0.mk (Nat.le_refl 0); (with_reducible refine (alidadelaw01_of_1.calls 1 t668 _ A370.out).mono ?_); rintro e w415 ⟨v669, rfl, ho0, hb⟩; have q_ := Kd.arm_new ho0 hb (by repeat (first | (with_reducible first | exact HB.out | apply below_alloc | apply pw_below_drewN | apply below_drew1) | exact HB.out)); clear HB; obtain ⟨HO670, HB⟩ := q_; (try clear hb); (try clear ho0); obtain ⟨Ao416, co416, eo416⟩ := Kd.R_slice HO670.out; subst eo416) | (go_at_call 17; (fail_if_success (have hx_ := mk371_)); have mk371_ := Aside0.mk (Nat.le_refl 0); (with_reducible refine (nat_Shr.calls _ _ t668 1 t671 _ ?side1 ?side2 A371.out).mono ?_); (case side1 => repeat (first | exact (Kd.R_reads' HO670.out).2.2 | (with_reducible apply Kd.C_alloc) | (with_reducible apply Kd.C_drewN) | (with_reducible apply Kd.C_drew))); (case side2 => exact (Kd.R_reads' HO670.out).2.1); rintro e w417 ⟨v672, rfl, ho0, hb⟩; have q_ := Kd.arm_new ho0 hb (by repeat (first | (with_reducible first | exact HB.out | apply below_alloc | apply pw_below_drewN | apply below_drew1) | exact HB.out)); clear HB; obtain ⟨HO673, HB⟩ := q_; (try clear hb); (try clear ho0); obtain ⟨Ao418, co418, eo418⟩ := Kd.R_slice HO673.out; subst eo418) | (go_at_call 27; (fail_if_success (have hx_ := mk372_)); have mk372_ := Aside0.mk (Nat.le_refl 0); (with_reducible refine (alidadelaw01_of_1.calls 1 t674 _ A372.out).mono ?_); rintro e w419 ⟨v675, rfl, ho0, hb⟩; have q_ := Kd.arm_new ho0 hb (by repeat (first | (with_reducible first | exact HB.out | apply below_alloc | apply pw_below_drewN | apply below_drew1) | exact HB.out)); clear HB; obtain ⟨HO676, HB⟩ := q_; (try clear hb); (try clear ho0); obtain ⟨Ao420, co420, eo420⟩ := Kd.R_slice HO676.out; subst eo420) | (go_at_call 17; (fail_if_success (have hx_ := mk373_)); have mk373_ := Aside0.mk (Nat.le_refl 0); (with_reducible refine (nat_Shr.calls _ _ t674 99 t677 _ ?side1 ?side2 A373.out).mono ?_); (case side1 => repeat (first | exact (Kd.R_reads' HO676.out).2.2 | (with_reducible apply Kd.C_alloc) | (with_reducible apply Kd.C_drewN) | (with_reducible apply Kd.C_drew))); (case side2 => exact (Kd.R_reads' HO676.out).2.1); rintro e w421 ⟨v678, rfl, ho0, hb⟩; have q_ := Kd.arm_new ho0 hb (by repeat (first | (with_reducible first | exact HB.out | apply below_alloc | apply pw_below_drewN | apply below_drew1) | exact HB.out)); clear HB; obtain ⟨HO679, HB⟩ := q_; (try clear hb); (try clear ho0); obtain ⟨Ao422, co422, eo422⟩ := Kd.R_slice HO679.out; subst eo422) | (go_at_call 16; (fail_if_success (have hx_ := mk374_)); have mk374_ := Aside0.mk (Nat.le_refl 0); (refine (nat_Shl.calls _ _ ([] : List Int) 9 t680 _ ?side1 ?side2 A374.out).mono ?_); (case side1 => exact Kd.C_nil _ _); (case side2 => exact Nat.le_refl _); rintro e w423 ⟨v681, rfl, ho0, hb⟩; have q_ := Kd.arm_new ho0 hb (by repeat (first | (with_reducible first | exact HB.out | apply below_alloc | apply pw_below_drewN | apply below_drew1) | exact HB.out)); clear HB; obtain ⟨HO682, HB⟩ := q_; (try clear hb); (try clear ho0); obtain ⟨Ao424, co424, eo424⟩ := Kd.R_slice HO682.out; subst eo424) | (go_at_call 27; (fail_if_success (have hx_ := mk376_)); have mk376_ := Aside0.mk (Nat.le_refl 0); (with_reducible refine (alidadelaw01_of_1.calls 4294967295 t683 _ A376.out).mono ?_); rintro e w425 ⟨v684, rfl, ho0, hb⟩; have q_ := Kd.arm_new ho0 hb (by repeat (first | (with_reducible first | exact HB.out | apply below_alloc | apply pw_below_drewN | apply below_drew1) | exact HB.out)); clear HB; obtain ⟨HO685, HB⟩ := q_; (try clear hb); (try clear ho0); obtain ⟨Ao426, co426, eo426⟩ := Kd.R_slice HO685.out; subst eo426) | (go_at_call 16; (fail_if_success (have hx_ := mk377_)); have mk377_ := Aside0.mk (Nat.le_refl 0); (with_reducible refine (nat_Shl.calls _ _ t683 4 t686 _ ?side1 ?side2 A377.out).mono ?_); (case side1 => repeat (first | exact (Kd.R_reads' HO685.out).2.2 | (with_reducible apply Kd.C_alloc) | (with_reducible apply Kd.C_drewN) | (with_reducible apply Kd.C_drew))); (case side2 => exact (Kd.R_reads' HO685.out).2.1); rintro e w427 ⟨v687, rfl, ho0, hb⟩; have q_ := Kd.arm_new ho0 hb (by repeat (first | (with_reducible first | exact HB.out | apply below_alloc | apply pw_below_drewN | apply below_drew1) | exact HB.out)); clear HB; obtain ⟨HO688, HB⟩ := q_; (try clear hb); (try clear ho0)) | (go_at_call 27; (fail_if_success (have hx_ := mk378_)); have mk378_ := Aside0.mk (Nat.le_refl 0); (with_reducible refine (alidadelaw01_of_2.calls 4294967280 15 t689 _ A378.out).mono ?_); rintro e w428 ⟨v690, rfl, ho0, hb⟩; have n16_ := Aside0.mk (Kd.R_elder' (by (with_reducible repeat (first | apply Kd.R_alloc | apply Kd.R_drewN | apply Kd.R_drew)); exact HO688.out) (Kd.R_base ho0) hb); have n17_ := Aside0.mk (Kd.R_lower ho0 (below_size (by repeat (first | (with_reducible first | exact HB.out | apply below_alloc | apply pw_below_drewN | apply below_drew1) | exact HB.out)))); have n18_ := Aside0.mk (below_step (by repeat (first | (with_reducible first | exact HB.out | apply below_alloc | apply pw_below_drewN | apply below_drew1) | exact HB.out)) hb); clear HO688; clear HB; have HO688 := n16_; have HO691 := n17_; have HB := n18_; clear n16_ n17_ n18_; (try clear hb); (try clear hb2); (try clear hk); (try clear hi); (try clear ho0); obtain ⟨Ao429, co429, eo429⟩ := Kd.R_slice HO688.out; subst eo429; obtain ⟨Ao430, co430, eo430⟩ := Kd.R_slice HO691.out; subst eo430) | (go_at_call 14; (fail_if_success (have hx_ := mk379_)); have mk379_ := Aside0.mk (Nat.le_refl 0); (with_reducible refine (alidadelaw01_same.calls kj224 _ _ t686 _ _ t689 true _ ?side1 ?side2 ?side3 ?side4 A379.out).mono ?_); (case side1 => repeat (first | exact (Kd.R_reads' HO688.out).2.2 | (with_reducible apply Kd.C_alloc) | (with_reducible apply Kd.C_drewN) | (with_reducible apply Kd.C_drew))); (case side2 => exact (Kd.R_reads' HO688.out).2.1); (case side3 => repeat (first | exact (Kd.R_reads' HO691.out).2.2 | (with_reducible apply Kd.C_alloc) | (with_reducible apply Kd.C_drewN) | (with_reducible apply Kd.C_drew))); (case side4 => exact (Kd.R_reads' HO691.out).2.1); rintro e w' ⟨rfl, ⟨nd, rfl⟩⟩) | (go_at_call 27; (fail_if_success (have hx_ := mk381_)); have mk381_ := Aside0.mk (Nat.le_refl 0); (with_reducible refine (alidadelaw01_of_2.calls 4294967295 4294967295 t693 _ A381.out).mono ?_); rintro e w431 ⟨v694, rfl, ho0, hb⟩; have q_ := Kd.arm_new ho0 hb (by repeat (first | (with_reducible first | exact HB.out | apply below_alloc | apply pw_below_drewN | apply below_drew1) | exact HB.out)); clear HB; obtain ⟨HO695, HB⟩ := q_; (try clear hb); (try clear ho0); obtain ⟨Ao432, co432, eo432⟩ := Kd.R_slice HO695.out; subst eo432) | (go_at_call 17; (fail_if_success (have hx_ := mk382_)); have mk382_ := Aside0.mk (Nat.le_refl 0); (with_reducible refine (nat_Shr.calls _ _ t693 4 t696 _ ?side1 ?side2 A382.out).mono ?_); (case side1 => repeat (first | exact (Kd.R_reads' HO695.out).2.2 | (with_reducible apply Kd.C_alloc) | (with_reducible apply Kd.C_drewN) | (with_reducible apply Kd.C_drew))); (case side2 => exact (Kd.R_reads' HO695.out).2.1); rintro e w433 ⟨v697, rfl, ho0, hb⟩; have q_ := Kd.arm_new ho0 hb (by repeat (first | (with_reducible first | exact HB.out | apply below_alloc | apply pw_below_drewN | apply below_drew1) | exact HB.out)); clear HB; obtain ⟨HO698, HB⟩ := q_; (try clear hb); (try clear ho0)) | (go_at_call 27; (fail_if_success (have hx_ := mk383_)); have mk383_ := Aside0.mk (Nat.le_refl 0); (with_reducible refine (alidadelaw01_of_2.calls 4294967295 268435455 t699 _ A383.out).mono ?_); rintro e w434 ⟨v700, rfl, ho0, hb⟩; have n19_ := Aside0.mk (Kd.R_elder' (by (with_reducible repeat (first | apply Kd.R_alloc | apply Kd.R_drewN | apply Kd.R_drew)); exact HO698.out) (Kd.R_base ho0) hb); have n20_ := Aside0.mk (Kd.R_lower ho0 (below_size (by repeat (first | (with_reducible first | exact HB.out | apply below_alloc | apply pw_below_drewN | apply below_drew1) | exact HB.out)))); have n21_ := Aside0.mk (below_step (by repeat (first | (with_reducible first | exact HB.out | apply below_alloc | apply pw_below_drewN | apply below_drew1) | exact HB.out)) hb); clear HO698; clear HB; have HO698 := n19_; have HO701 := n20_; have HB := n21_; clear n19_ n20_ n21_; (try clear hb); (try clear hb2); (try clear hk); (try clear hi); (try clear ho0); obtain ⟨Ao435, co435, eo435⟩ := Kd.R_slice HO698.out; subst eo435; obtain ⟨Ao436, co436, eo436⟩ := Kd.R_slice HO701.out; subst eo436) | (go_at_call 14; (fail_if_success (have hx_ := mk384_)); have mk384_ := Aside0.mk (Nat.le_refl 0); (with_reducible refine (alidadelaw01_same.calls kj224 _ _ t696 _ _ t699 true _ ?side1 ?side2 ?side3 ?side4 A384.out).mono ?_); (case side1 => repeat (first | exact (Kd.R_reads' HO698.out).2.2 | (with_reducible apply Kd.C_alloc) | (with_reducible apply Kd.C_drewN) | (with_reducible apply Kd.C_drew))); (case side2 => exact (Kd.R_reads' HO698.out).2.1); (case side3 => repeat (first | exact (Kd.R_reads' HO701.out).2.2 | (with_reducible apply Kd.C_alloc) | (with_reducible apply Kd.C_drewN) | (with_reducible apply Kd.C_drew))); (case side4 => exact (Kd.R_reads' HO701.out).2.1); rintro e w' ⟨rfl, ⟨nd, rfl⟩⟩) | (go_at_call 27; (fail_if_success (have hx_ := mk386_)); have mk386_ := Aside0.mk (Nat.le_refl 0); (with_reducible refine (alidadelaw01_of_1.calls 3 t703 _ A386.out).mono ?_); rintro e w437 ⟨v704, rfl, ho0, hb⟩; have q_ := Kd.arm_new ho0 hb (by repeat (first | (with_reducible first | exact HB.out | apply below_alloc | apply pw_below_drewN | apply below_drew1) | exact HB.out)); clear HB; obtain ⟨HO705, HB⟩ := q_; (try clear hb); (try clear ho0); obtain ⟨Ao438, co438, eo438⟩ := Kd.R_slice HO705.out; subst eo438) | (go_at_call 16; (fail_if_success (have hx_ := mk387_)); have mk387_ := Aside0.mk (Nat.le_refl 0); (with_reducible refine (nat_Shl.calls _ _ t703 64 t706 _ ?side1 ?side2 A387.out).mono ?_); (case side1 => repeat (first | exact (Kd.R_reads' HO705.out).2.2 | (with_reducible apply Kd.C_alloc) | (with_reducible apply Kd.C_drewN) | (with_reducible apply Kd.C_drew))); (case side2 => exact (Kd.R_reads' HO705.out).2.1); rintro e w439 ⟨v707, rfl, ho0, hb⟩; have q_ := Kd.arm_new ho0 hb (by repeat (first | (with_reducible first | exact HB.out | apply below_alloc | apply pw_below_drewN | apply below_drew1) | exact HB.out)); clear HB; obtain ⟨HO708, HB⟩ := q_; (try clear hb); (try clear ho0)) | (go_at_call 27; (fail_if_success (have hx_ := mk388_)); have mk388_ := Aside0.mk (Nat.le_refl 0); (with_reducible refine (alidadelaw01_of_3.calls 0 0 3 t709 _ A388.out).mono ?_); rintro e w440 ⟨v710, rfl, ho0, hb⟩; have n22_ := Aside0.mk (Kd.R_elder' (by (with_reducible repeat (first | apply Kd.R_alloc | apply Kd.R_drewN | apply Kd.R_drew)); exact HO708.out) (Kd.R_base ho0) hb); have n23_ := Aside0.mk (Kd.R_lower ho0 (below_size (by repeat (first | (with_reducible first | exact HB.out | apply below_alloc | apply pw_below_drewN | apply below_drew1) | exact HB.out)))); have n24_ := Aside0.mk (below_step (by repeat (first | (with_reducible first | exact HB.out | apply below_alloc | apply pw_below_drewN | apply below_drew1) | exact HB.out)) hb); clear HO708; clear HB; have HO708 := n22_; have HO711 := n23_; have HB := n24_; clear n22_ n23_ n24_; (try clear hb); (try clear hb2); (try clear hk); (try clear hi); (try clear ho0); obtain ⟨Ao441, co441, eo441⟩ := Kd.R_slice HO708.out; subst eo441; obtain ⟨Ao442, co442, eo442⟩ := Kd.R_slice HO711.out; subst eo442) | (go_at_call 14; (fail_if_success (have hx_ := mk389_)); have mk389_ := Aside0.mk (Nat.le_refl 0); (with_reducible refine (alidadelaw01_same.calls kj224 _ _ t706 _ _ t709 true _ ?side1 ?side2 ?side3 ?side4 A389.out).mono ?_); (case side1 => repeat (first | exact (Kd.R_reads' HO708.out).2.2 | (with_reducible apply Kd.C_alloc) | (with_reducible apply Kd.C_drewN) | (with_reducible apply Kd.C_drew))); (case side2 => exact (Kd.R_reads' HO708.out).2.1); (case side3 => repeat (first | exact (Kd.R_reads' HO711.out).2.2 | (with_reducible apply Kd.C_alloc) | (with_reducible apply Kd.C_drewN) | (with_reducible apply Kd.C_drew))); (case side4 => exact (Kd.R_reads' HO711.out).2.1); rintro e w' ⟨rfl, ⟨nd, rfl⟩⟩) | (go_at_call 27; (fail_if_success (have hx_ := mk391_)); have mk391_ := Aside0.mk (Nat.le_refl 0); (with_reducible refine (alidadelaw01_of_3.calls 1 2 3 t713 _ A391.out).mono ?_); rintro e w443 ⟨v714, rfl, ho0, hb⟩; have q_ := Kd.arm_new ho0 hb (by repeat (first | (with_reducible first | exact HB.out | apply below_alloc | apply pw_below_drewN | apply below_drew1) | exact HB.out)); clear HB; obtain ⟨HO715, HB⟩ := q_; (try clear hb); (try clear ho0); obtain ⟨Ao444, co444, eo444⟩ := Kd.R_slice HO715.out; subst eo444) | (go_at_call 17; (fail_if_success (have hx_ := mk392_)); have mk392_ := Aside0.mk (Nat.le_refl 0); (with_reducible refine (nat_Shr.calls _ _ t713 32 t716 _ ?side1 ?side2 A392.out).mono ?_); (case side1 => repeat (first | exact (Kd.R_reads' HO715.out).2.2 | (with_reducible apply Kd.C_alloc) | (with_reducible apply Kd.C_drewN) | (with_reducible apply Kd.C_drew))); (case side2 => exact (Kd.R_reads' HO715.out).2.1); rintro e w445 ⟨v717, rfl, ho0, hb⟩; have q_ := Kd.arm_new ho0 hb (by repeat (first | (with_reducible first | exact HB.out | apply below_alloc | apply pw_below_drewN | apply below_drew1) | exact HB.out)); clear HB; obtain ⟨HO718, HB⟩ := q_; (try clear hb); (try clear ho0)) | (go_at_call 27; (fail_if_success (have hx_ := mk393_)); have mk393_ := Aside0.mk (Nat.le_refl 0); (with_reducible refine (alidadelaw01_of_2.calls 2 3 t719 _ A393.out).mono ?_); rintro e w446 ⟨v720, rfl, ho0, hb⟩; have n25_ := Aside0.mk (Kd.R_elder' (by (with_reducible repeat (first | apply Kd.R_alloc | apply Kd.R_drewN | apply Kd.R_drew)); exact HO718.out) (Kd.R_base ho0) hb); have n26_ := Aside0.mk (Kd.R_lower ho0 (below_size (by repeat (first | (with_reducible first | exact HB.out | apply below_alloc | apply pw_below_drewN | apply below_drew1) | exact HB.out)))); have n27_ := Aside0.mk (below_step (by repeat (first | (with_reducible first | exact HB.out | apply below_alloc | apply pw_below_drewN | apply below_drew1) | exact HB.out)) hb); clear HO718; clear HB; have HO718 := n25_; have HO721 := n26_; have HB := n27_; clear n25_ n26_ n27_; (try clear hb); (try clear hb2); (try clear hk); (try clear hi); (try clear ho0); obtain ⟨Ao447, co447, eo447⟩ := Kd.R_slice HO718.out; subst eo447; obtain ⟨Ao448, co448, eo448⟩ := Kd.R_slice HO721.out; subst eo448) | (go_at_call 14; (fail_if_success (have hx_ := mk394_)); have mk394_ := Aside0.mk (Nat.le_refl 0); (with_reducible refine (alidadelaw01_same.calls kj224 _ _ t716 _ _ t719 t722 _ ?side1 ?side2 ?side3 ?side4 A394.out).mono ?_); (case side1 => repeat (first | exact (Kd.R_reads' HO718.out).2.2 | (with_reducible apply Kd.C_alloc) | (with_reducible apply Kd.C_drewN) | (with_reducible apply Kd.C_drew))); (case side2 => exact (Kd.R_reads' HO718.out).2.1); (case side3 => repeat (first | exact (Kd.R_reads' HO721.out).2.2 | (with_reducible apply Kd.C_alloc) | (with_reducible apply Kd.C_drewN) | (with_reducible apply Kd.C_drew))); (case side4 => exact (Kd.R_reads' HO721.out).2.1); rintro e w' ⟨rfl, ⟨nd, rfl⟩⟩))
                                        go_meet
                                        case rel => exact ⟨_, (!t722), (by first | rfl | (simp; done) | (simp [*]; done)), H', ⟨by have := HJ16.out; have := HJ224.out; first | omega | exact Nat.le_refl _⟩, ⟨by repeat (first | (with_reducible first | exact HB.out | apply below_alloc | apply pw_below_drewN | apply below_drew1) | exact HB.out)⟩⟩
                                      · replace c390 := Bool.eq_false_iff.mpr c390
                                        subst c390
                                        rw [if_neg (show ¬ (false = true) by decide)] at H
                                        exact absurd H (alidadelaw01_NatNames.j2_true _ _)
                                    · replace c385 := Bool.eq_false_iff.mpr c385
                                      subst c385
                                      rw [if_neg (show ¬ (false = true) by decide)] at H
                                      exact absurd H (alidadelaw01_NatNames.j2_true _ _)
                                  · replace c380 := Bool.eq_false_iff.mpr c380
                                    subst c380
                                    rw [if_neg (show ¬ (false = true) by decide)] at H
                                    exact absurd H (alidadelaw01_NatNames.j2_true _ _)
                                · rw [if_neg c375] at H
                                  have c375b0 : ((wrap64 ((wrap64 ((wrap64 ((wrap64 ((t659.length : Int) + (t665.length : Int))) + (t671.length : Int))) + (t677.length : Int))) + (t680.length : Int))) == 0) = false := beq_eq_false_iff_ne.mpr c375
                                  have c375b1 : ((wrap64 ((wrap64 ((wrap64 ((wrap64 ((t659.length : Int) + (t665.length : Int))) + (t671.length : Int))) + (t677.length : Int))) + (t680.length : Int))) != 0) = true := bne_iff_ne.mpr c375
                                  exact absurd H (alidadelaw01_NatNames.j2_true _ _)
                        · replace c326 := Bool.eq_false_iff.mpr c326
                          subst c326
                          rw [if_neg (show ¬ (false = true) by decide)] at H
                          exact absurd H (alidadelaw01_NatNames.j2_true _ _)
                      · rw [if_neg c323] at H
                        have c323b0 : (t639 == 32) = false := beq_eq_false_iff_ne.mpr c323
                        have c323b1 : (t639 != 32) = true := bne_iff_ne.mpr c323
                        exact absurd H (alidadelaw01_NatNames.j2_true _ _)
                    · rw [if_neg c320] at H
                      have c320b0 : (t635 == 33) = false := beq_eq_false_iff_ne.mpr c320
                      have c320b1 : (t635 != 33) = true := bne_iff_ne.mpr c320
                      exact absurd H (alidadelaw01_NatNames.j2_true _ _)
                  · rw [if_neg c317] at H
                    have c317b0 : (t631 == 0) = false := beq_eq_false_iff_ne.mpr c317
                    have c317b1 : (t631 != 0) = true := bne_iff_ne.mpr c317
                    (first | rw [c317b0] | (simp only [i64_w, i32_w]; rw [c317b0]) | skip)
                    exact absurd H (alidadelaw01_NatNames.j2_true _ _)
                case rest => as_aux_lemma =>
                  clear HC315
                  try clear c2
                  try clear c38
                  try clear c38b0
                  try clear c38b1
                  try clear c39
                  try clear c40
                  try clear c41
                  try clear c41b0
                  try clear c41b1
                  try clear c42
                  try clear c43
                  try clear c46
                  try clear c47
                  try clear c51
                  try clear c52
                  try clear c52b0
                  try clear c52b1
                  try clear c52b2
                  try clear c58
                  try clear c62
                  try clear c66
                  try clear c66b0
                  try clear c66b1
                  try clear c70
                  try clear c70b0
                  try clear c70b1
                  try clear c73
                  try clear c73b0
                  try clear c73b1
                  try clear c219
                  try clear c232
                  try clear c233
                  try clear c234
                  try clear c241
                  try clear c241b0
                  try clear c241b1
                  try clear c243
                  try clear c243b0
                  try clear c243b1
                  try clear c245
                  try clear c259
                  try clear c259b0
                  try clear c259b1
                  try clear c314
                  try clear c317
                  try clear c317b0
                  try clear c317b1
                  try clear c320
                  try clear c320b0
                  try clear c320b1
                  try clear c323
                  try clear c323b0
                  try clear c323b1
                  try clear c326
                  try clear c329
                  try clear c340
                  try clear c353
                  try clear c375
                  try clear c375b0
                  try clear c375b1
                  try clear c380
                  try clear c385
                  try clear c390
                  obtain ⟨kq, x312_314, rfl, HA, HJ314, HB⟩ := hcut
                  cases kq with
                  | zero => exact absurd HA.out (by simp [alidadelaw01_NatNames.j2])
                  | succ kj314 =>
                    have H := HA.out
                    clear HA
                    simp only [alidadelaw01_NatNames.j2] at H
                    by_cases c617 : x312_314 = true
                    · subst c617
                      rw [if_pos rfl] at H
                      exact absurd H (by simp)
                    · replace c617 := Bool.eq_false_iff.mpr c617
                      subst c617
                      rw [if_neg (show ¬ (false = true) by decide)] at H
                      by_cases c618 : 65536 ≤ 70368744177664
                      · rw [if_pos c618] at H
                        have c618b0 := eq_true c618
                        have c618b1 : decide (65536 ≤ 70368744177664) = true := decide_eq_true c618
                        clear c618
                        obtain ⟨y723, hy723⟩ : ∃ y_ : List Int, y_ = (List.replicate 65536 0) := ⟨_, rfl⟩
                        replace H : (alidadelaw01_NatNames.l0 kj314 y723 0) = some r := by first | (rw [hy723]; with_reducible exact H) | (have H2_ := (Option.bind_some _ _).symm.trans H; rw [hy723]; with_reducible exact H2_) | (have H2_ := (Option.bind_some _ _).symm.trans H; with_reducible exact H2_) | with_reducible exact H | (rw [hy723]; exact H) | exact H
                        have Ny723 := Aside0.mk hy723
                        clear hy723
                        have H' := Aside0.mk H
                        clear H
                        go_wp2_with (first | ((with_reducible refine gate_dst (N := 313) rfl ?_); (try (refine gate_guard (by rfl) ?_; dsimp only)); refine Kd.R_make (Kd.int .u32) _ 37 rfl (N := 313) rfl 22 _ _ rfl 65536 rfl rfl Try.underlying22 (.int .u32 0) 4 info37 rfl (by decide) (by omega) 0 (ok := fun _ => True) (okp := fun _ => True) rfl (fun _ hk => hk) trivial (by omega) (by omega) (Below.refl _ _) (Nat.le_refl _) ?_; intro v724 w619 ho620 hb hg_ hnew_; clear hg_ hnew_; (first | rw [← Ny723.out] at ho620 | (simp only [Int.reduceToNat] at ho620; rw [← Ny723.out] at ho620)); have n0_ := Aside0.mk (Kd.R_lower ho620 (below_size (by repeat (first | (with_reducible first | exact HB.out | apply below_alloc | apply pw_below_drewN | apply below_drew1) | exact HB.out)))); have n1_ := Aside0.mk (below_step (by repeat (first | (with_reducible first | exact HB.out | apply below_alloc | apply pw_below_drewN | apply below_drew1) | exact HB.out)) hb); clear HB; have HO725 := n0_; have HB := n1_; clear n0_ n1_; clear hb ho620))
                        go_loopg [21] kj314 (fun kq v21 w' => ∃ (x20_4 : List Int) (x21_4 : Int), v21 = .int .i64 x21_4 ∧ Aside0 (alidadelaw01_NatNames.l0 kq x20_4 x21_4 = some r) ∧ Aside0 (kq ≤ kj314) ∧ Aside0 (Kd.R (Kd.int .u32) 37 w' w.heap.size (fun _ => True) v724 x20_4) ∧ Aside0 (Below w.heap.size w w'))
                        case atStart => exact ⟨(y723), (0), (by first | rfl | (simp; done) | (simp [*]; done)), H', ⟨Nat.le_refl _⟩, ⟨by (with_reducible repeat (first | apply Kd.R_alloc | apply Kd.R_drewN | apply Kd.R_drew)); exact HO725.out⟩, ⟨by repeat (first | (with_reducible first | exact HB.out | apply below_alloc | apply pw_below_drewN | apply below_drew1) | exact HB.out)⟩⟩
                        case round =>
                          clear H'
                          try clear c2
                          try clear c38
                          try clear c38b0
                          try clear c38b1
                          try clear c39
                          try clear c40
                          try clear c41
                          try clear c41b0
                          try clear c41b1
                          try clear c42
                          try clear c43
                          try clear c46
                          try clear c47
                          try clear c51
                          try clear c52
                          try clear c52b0
                          try clear c52b1
                          try clear c52b2
                          try clear c58
                          try clear c62
                          try clear c66
                          try clear c66b0
                          try clear c66b1
                          try clear c70
                          try clear c70b0
                          try clear c70b1
                          try clear c73
                          try clear c73b0
                          try clear c73b1
                          try clear c219
                          try clear c232
                          try clear c233
                          try clear c234
                          try clear c241
                          try clear c241b0
                          try clear c241b1
                          try clear c243
                          try clear c243b0
                          try clear c243b1
                          try clear c245
                          try clear c259
                          try clear c259b0
                          try clear c259b1
                          try clear c314
                          try clear c317
                          try clear c317b0
                          try clear c317b1
                          try clear c320
                          try clear c320b0
                          try clear c320b1
                          try clear c323
                          try clear c323b0
                          try clear c323b1
                          try clear c326
                          try clear c329
                          try clear c340
                          try clear c353
                          try clear c375
                          try clear c375b0
                          try clear c375b1
                          try clear c380
                          try clear c385
                          try clear c390
                          try clear c617
                          try clear c618
                          try clear c618b0
                          try clear c618b1
                          obtain ⟨x20_4, x21_4, rfl, HA, HK4, HO_20, HB⟩ := hrel
                          cases gk with
                          | zero => exact absurd HA.out (by simp [alidadelaw01_NatNames.l0])
                          | succ k4 =>
                            have H := HA.out
                            clear HA
                            simp only [alidadelaw01_NatNames.l0] at H
                            by_cases c621 : x21_4 < 65536
                            · rw [if_pos c621] at H
                              have c621b0 : decide (x21_4 < 65536) = true := decide_eq_true c621
                              clear c621
                              by_cases c622 : 0 ≤ x21_4
                              · rw [if_pos c622] at H
                                have c622b0 : decide (0 ≤ x21_4) = true := decide_eq_true c622
                                clear c622
                                by_cases c623 : x21_4 < (x20_4.length : Int)
                                · rw [if_pos c623] at H
                                  have c623b0 : decide (x21_4 < (x20_4.length : Int)) = true := decide_eq_true c623
                                  clear c623
                                  obtain ⟨y726, hy726⟩ : ∃ y_ : List Int, y_ = (x20_4.set (x21_4 : Int).toNat 4294967295) := ⟨_, rfl⟩
                                  replace H : (alidadelaw01_NatNames.l0 k4 y726 (wrap64 (x21_4 + 1))) = some r := by first | (rw [hy726]; with_reducible exact H) | (have H2_ := (Option.bind_some _ _).symm.trans H; rw [hy726]; with_reducible exact H2_) | (have H2_ := (Option.bind_some _ _).symm.trans H; with_reducible exact H2_) | with_reducible exact H | (rw [hy726]; exact H) | exact H
                                  have Ny726 := Aside0.mk hy726
                                  clear hy726
                                  have H' := Aside0.mk H
                                  clear H
                                  have p624 : 0 ≤ (x21_4 : Int) := of_decide_eq_true (by first | (with_reducible assumption) | assumption)
                                  have q624 : (x21_4 : Int) < ((x20_4.length : Int) : Int) := of_decide_eq_true (by first | (with_reducible assumption) | assumption)
                                  obtain ⟨go624, co624, eo624, gb624, gl624, cl624, HG624⟩ := Kd.R_form HO_20.out (by omega)
                                  (first | cases eo624 | (injection eo624 with ea_ en_ ec_; (first | subst ea_ | (injection ea_ with ea_; subst ea_)); subst ec_; clear en_))
                                  have GB624 := Aside0.mk gb624
                                  have GG624 := Aside0.mk HG624
                                  clear gb624 gl624 HG624
                                  obtain ⟨hx624_0, hf624_0⟩ := Kd.R_celln 0 HO_20.out (x21_4 : Int) p624 q624
                                  replace p624 := eq_true p624
                                  replace q624 := eq_true q624
                                  have HP625 := Kd.R_putg HO_20.out (x21_4 : Int) 4294967295
                                  go_wp2_with (first | ((with_reducible refine gate_store (t := 37) (p := 320) rfl ?_); refine store_event (t := 37) (p := 320) (v := ?vo_w626) (w1 := (wr.setCell ⟨go624, (x21_4 : Int).toNat, none⟩ (.int .u32 4294967295))) ?hg ?ho ?hn ?hr ?_; (case ho => rfl); (case hg => rfl); (case hn => rfl); (case hr => first | (go_simp; done) | (go_simp; rfl)); intro w626 hw; have hg : wr.grownBy w626 (some go624) := (by rw [hw]; exact HP625.2); have hp_ : Kd.R (Kd.int .u32) 37 w626 w.heap.size (fun _ => True) (.slice (some ⟨go624, 0, none⟩) x20_4.length co624) y726 := (by rw [hw, Ny726.out]; exact HP625.1); clear HP625; have n0_ := Aside0.mk (hp_); have n1_ := Aside0.mk ((by rw [hw]; exact below_set (HB.out) GB624.out : Below w.heap.size w w626)); clear HO_20; clear HB; have HO_20 := n0_; have HB := n1_; clear n0_ n1_; clear hg hw hp_))
                                  go_roundg k4
                                  case measure => have := HJ16.out; have := HJ224.out; have := HJ314.out; have := HK4.out; omega
                                  case rel => exact ⟨(y726), (wrap64 (x21_4 + 1)), (by first | rfl | (simp; done) | (simp [*]; done)), H', ⟨by have := HJ16.out; have := HJ224.out; have := HJ314.out; have := HK4.out; omega⟩, ⟨by (with_reducible repeat (first | apply Kd.R_alloc | apply Kd.R_drewN | apply Kd.R_drew)); exact HO_20.out⟩, ⟨by repeat (first | (with_reducible first | exact HB.out | apply below_alloc | apply pw_below_drewN | apply below_drew1) | exact HB.out)⟩⟩
                                · rw [if_neg c623] at H
                                  exact absurd H (by simp)
                              · rw [if_neg c622] at H
                                exact absurd H (by simp)
                            · rw [if_neg c621] at H
                              have c621b0 : decide (x21_4 < 65536) = false := decide_eq_false c621
                              clear c621
                              replace H := Option.bind_eq_some_iff.mp H
                              obtain ⟨t727, A6270, H⟩ := H
                              have A627 := Aside0.mk A6270
                              clear A6270
                              by_cases c628 : t727 = true
                              · subst c628
                                rw [if_pos rfl] at H
                                by_cases c629 : 65536 ≤ (x20_4.length : Int)
                                · rw [if_pos c629] at H
                                  have c629b0 := eq_true c629
                                  have c629b1 : decide (65536 ≤ (x20_4.length : Int)) = true := decide_eq_true c629
                                  clear c629
                                  obtain ⟨y728, hy728⟩ : ∃ y_ : List Int, y_ = (x20_4.take 65536) := ⟨_, rfl⟩
                                  replace H : (if y728.length < 35184372088832 then ((nat_May.f (y728 ++ [1])).bind fun t735 => (if t735 = true then (none) else ((alidadelaw01_of_1.f 1).bind fun t736 => ((nat_Add.f x20_4 t736).bind fun t739 => (if (t739.length : Int) = 0 then (if 65535 ≤ (x20_4.length : Int) then ((alidadelaw01_of_1.f 1).bind fun t746 => ((nat_Add.f (x20_4.take 65535) t746).bind fun t749 => (if (t749.length : Int) = 65536 then ((nat_Shl.f x20_4 1).bind fun t752 => (if (t752.length : Int) = 0 then ((alidadelaw01_of_1.f 1).bind fun t755 => ((nat_Shl.f t755 2097151).bind fun t758 => (if (t758.length : Int) = 65536 then ((alidadelaw01_of_1.f 1).bind fun t761 => ((nat_Shl.f t761 2097152).bind fun t764 => (some ((t764.length : Int) == 0)))) else (none)))) else (none))) else (none)))) else (none)) else (none)))))) else (none)) = some r := by first | (rw [hy728]; with_reducible exact H) | (have H2_ := (Option.bind_some _ _).symm.trans H; rw [hy728]; with_reducible exact H2_) | (have H2_ := (Option.bind_some _ _).symm.trans H; with_reducible exact H2_) | with_reducible exact H | (rw [hy728]; exact H) | exact H
                                  have Ny728 := Aside0.mk hy728
                                  clear hy728
                                  by_cases c630 : y728.length < 35184372088832
                                  · rw [if_pos c630] at H
                                    have LMc630 := Aside0.mk c630
                                    clear c630
                                    obtain ⟨y732, hy732⟩ : ∃ y_ : List Int, y_ = (y728 ++ [1]) := ⟨_, rfl⟩
                                    replace H : ((nat_May.f y732).bind fun t735 => (if t735 = true then (none) else ((alidadelaw01_of_1.f 1).bind fun t736 => ((nat_Add.f x20_4 t736).bind fun t739 => (if (t739.length : Int) = 0 then (if 65535 ≤ (x20_4.length : Int) then ((alidadelaw01_of_1.f 1).bind fun t746 => ((nat_Add.f (x20_4.take 65535) t746).bind fun t749 => (if (t749.length : Int) = 65536 then ((nat_Shl.f x20_4 1).bind fun t752 => (if (t752.length : Int) = 0 then ((alidadelaw01_of_1.f 1).bind fun t755 => ((nat_Shl.f t755 2097151).bind fun t758 => (if (t758.length : Int) = 65536 then ((alidadelaw01_of_1.f 1).bind fun t761 => ((nat_Shl.f t761 2097152).bind fun t764 => (some ((t764.length : Int) == 0)))) else (none)))) else (none))) else (none)))) else (none)) else (none)))))) = some r := by first | (rw [hy732]; with_reducible exact H) | (have H2_ := (Option.bind_some _ _).symm.trans H; rw [hy732]; with_reducible exact H2_) | (have H2_ := (Option.bind_some _ _).symm.trans H; with_reducible exact H2_) | with_reducible exact H | (rw [hy732]; exact H) | exact H
                                    have Ny732 := Aside0.mk hy732
                                    clear hy732
                                    replace H := Option.bind_eq_some_iff.mp H
                                    obtain ⟨t735, A6310, H⟩ := H
                                    have A631 := Aside0.mk A6310
                                    clear A6310
                                    by_cases c632 : t735 = true
                                    · subst c632
                                      rw [if_pos rfl] at H
                                      exact absurd H (by simp)
                                    · replace c632 := Bool.eq_false_iff.mpr c632
                                      subst c632
                                      rw [if_neg (show ¬ (false = true) by decide)] at H
                                      replace H := Option.bind_eq_some_iff.mp H
                                      obtain ⟨t736, A6330, H⟩ := H
                                      have A633 := Aside0.mk A6330
                                      clear A6330
                                      replace H := Option.bind_eq_some_iff.mp H
                                      obtain ⟨t739, A6340, H⟩ := H
                                      have A634 := Aside0.mk A6340
                                      clear A6340
                                      by_cases c635 : (t739.length : Int) = 0
                                      · rw [if_pos c635] at H
                                        have c635b0 : ((t739.length : Int) == 0) = true := beq_iff_eq.mpr c635
                                        have c635b1 : ((t739.length : Int) != 0) = false := bne_eq_false_iff_eq.mpr c635
                                        clear c635
                                        by_cases c636 : 65535 ≤ (x20_4.length : Int)
                                        · rw [if_pos c636] at H
                                          have c636b0 := eq_true c636
                                          have c636b1 : decide (65535 ≤ (x20_4.length : Int)) = true := decide_eq_true c636
                                          clear c636
                                          obtain ⟨y742, hy742⟩ : ∃ y_ : List Int, y_ = (x20_4.take 65535) := ⟨_, rfl⟩
                                          replace H : ((alidadelaw01_of_1.f 1).bind fun t746 => ((nat_Add.f y742 t746).bind fun t749 => (if (t749.length : Int) = 65536 then ((nat_Shl.f x20_4 1).bind fun t752 => (if (t752.length : Int) = 0 then ((alidadelaw01_of_1.f 1).bind fun t755 => ((nat_Shl.f t755 2097151).bind fun t758 => (if (t758.length : Int) = 65536 then ((alidadelaw01_of_1.f 1).bind fun t761 => ((nat_Shl.f t761 2097152).bind fun t764 => (some ((t764.length : Int) == 0)))) else (none)))) else (none))) else (none)))) = some r := by first | (rw [hy742]; with_reducible exact H) | (have H2_ := (Option.bind_some _ _).symm.trans H; rw [hy742]; with_reducible exact H2_) | (have H2_ := (Option.bind_some _ _).symm.trans H; with_reducible exact H2_) | with_reducible exact H | (rw [hy742]; exact H) | exact H
                                          have Ny742 := Aside0.mk hy742
                                          clear hy742
                                          replace H := Option.bind_eq_some_iff.mp H
                                          obtain ⟨t746, A6370, H⟩ := H
                                          have A637 := Aside0.mk A6370
                                          clear A6370
                                          replace H := Option.bind_eq_some_iff.mp H
                                          obtain ⟨t749, A6380, H⟩ := H
                                          have A638 := Aside0.mk A6380
                                          clear A6380
                                          by_cases c639 : (t749.length : Int) = 65536
                                          · rw [if_pos c639] at H
                                            have c639b0 : ((t749.length : Int) == 65536) = true := beq_iff_eq.mpr c639
                                            have c639b1 : ((t749.length : Int) != 65536) = false := bne_eq_false_iff_eq.mpr c639
                                            clear c639
                                            replace H := Option.bind_eq_some_iff.mp H
                                            obtain ⟨t752, A6400, H⟩ := H
                                            have A640 := Aside0.mk A6400
                                            clear A6400
                                            by_cases c641 : (t752.length : Int) = 0
                                            · rw [if_pos c641] at H
                                              have c641b0 : ((t752.length : Int) == 0) = true := beq_iff_eq.mpr c641
                                              have c641b1 : ((t752.length : Int) != 0) = false := bne_eq_false_iff_eq.mpr c641
                                              clear c641
                                              replace H := Option.bind_eq_some_iff.mp H
                                              obtain ⟨t755, A6420, H⟩ := H
                                              have A642 := Aside0.mk A6420
                                              clear A6420
                                              replace H := Option.bind_eq_some_iff.mp H
                                              obtain ⟨t758, A6430, H⟩ := H
                                              have A643 := Aside0.mk A6430
                                              clear A6430
                                              by_cases c644 : (t758.length : Int) = 65536
                                              · rw [if_pos c644] at H
                                                have c644b0 : ((t758.length : Int) == 65536) = true := beq_iff_eq.mpr c644
                                                have c644b1 : ((t758.length : Int) != 65536) = false := bne_eq_false_iff_eq.mpr c644
                                                clear c644
                                                replace H := Option.bind_eq_some_iff.mp H
                                                obtain ⟨t761, A6450, H⟩ := H
                                                have A645 := Aside0.mk A6450
                                                clear A6450
                                                replace H := Option.bind_eq_some_iff.mp H
                                                obtain ⟨t764, A6460, H⟩ := H
                                                replace H : (some ((t764.length : Int) == 0)) = some r := H
                                                have A646 := Aside0.mk A6460
                                                clear A6460
                                                obtain rfl := Option.some.inj H
                                                try go_wp2
                                                have n0_ := Aside0.mk (Kd.R_drew HO_20.out)
                                                have n1_ := Aside0.mk (below_drew1 HB.out)
                                                clear HO_20
                                                clear HB
                                                have HO_20 := n0_
                                                have HB := n1_
                                                clear n0_ n1_
                                                obtain ⟨Ao648, co648, eo648⟩ := Kd.R_slice HO_20.out
                                                (first | subst eo648 | (injection eo648 with f1_ f2_ f3_; have f4_ := f1_.symm; have f5_ := f3_.symm; clear f1_ f2_ f3_; subst f4_; subst f5_))
                                                refine start_ (n := 48) (S := fun w' => True) (ds := []) #[false, false, false, false, false, false, false, false, false, false, false, false, false, false, false, false, false, false, false, false, false, false, false, false, false, false, false, false, false, false, false, false, false, false, false, false, false, false, false, false, false, false, false, false, false, false, false, false] (by kernel_rfl) rfl rfl trivial (fun hHeld => ?_); refine with_tabW alidadelaw01_NatNames.tab24 alidadelaw01_NatNames.bits24 (fun HT_ HW_ => ?_)
                                                generalize wr.drew = w647 at HO_20 HB hHeld ⊢
                                                refine pure_ (i := 0) (N := some 321) (v := ?_) (a' := ?_) #[true, false, false, false, false, false, false, false, false, false, false, false, false, false, false, false, false, false, false, false, false, false, false, false, false, false, false, false, false, false, false, false, false, false, false, false, false, false, false, false, false, false, false, false, false, false, false, false] rfl rfl (any_of HT_.out (by kernel_rfl)) (fun _ _ _ h => h) (Or.inl ⟨by rfl, ?_⟩) ?_ ?_
                                                rotate_left
                                                · intro w'
                                                  go_simp
                                                  with_reducible rfl
                                                rotate_left
                                                · simp only [Act.put, List.setIfInBounds_toArray, List.set_cons_zero, List.set_cons_succ, i64_w, i32_w]
                                                  rfl
                                                refine one_ (i := 1) (N := some 322) #[true, true, false, false, false, false, false, false, false, false, false, false, false, false, false, false, false, false, false, false, false, false, false, false, false, false, false, false, false, false, false, false, false, false, false, false, false, false, false, false, false, false, false, false, false, false, false, false] rfl rfl (one_of HT_.out (by kernel_rfl)) (by decide) (fun K hK => ?_)
                                                refine goes_ Try.func11 (by kernel_rfl) rfl #[.slice Ao648 x20_4.length co648] (by rfl) rfl rfl (by (try simp only [List.map_toArray, List.map_cons, List.map_nil]); first | done | rfl | (simp only [List.length_drop, List.length_take]; rfl)) ?_
                                                with_reducible refine (nat_May.calls _ _ x20_4 true _ ?side1 ?side2 A627.out).mono ?_
                                                (case side1 => repeat (first | exact (Kd.R_reads' HO_20.out).2.2 | (with_reducible apply Kd.C_alloc) | (with_reducible apply Kd.C_drewN) | (with_reducible apply Kd.C_drew)))
                                                (case side2 => exact (Kd.R_reads' HO_20.out).2.1)
                                                rintro e w' ⟨rfl, ⟨nd, rfl⟩⟩
                                                refine ⟨_, rfl, ?_⟩
                                                have q649 : (65536 : Int) ≤ ((x20_4.length : Int) : Int) := of_decide_eq_true (by first | (with_reducible assumption) | assumption)
                                                obtain ⟨i0649, hi0649, _, hsz649, _⟩ := info_parts info37
                                                have hroom649 : x20_4.length ≤ co648 := (Kd.R_reads' HO_20.out).2.1
                                                have hC649 : Kd.C (Kd.int .u32) _ Ao648 x20_4.length x20_4 := (Kd.R_reads' HO_20.out).2.2
                                                have hcut649 := cut_full (P := Try.prog) 22 37 .i64 .i64 Try.underlying22 hi0649 Ao648 x20_4.length co648 65536 (by omega) q649 hroom649
                                                have hr649 := Kd.C_take (m := 65536) hC649 (by omega)
                                                have hy649 : y728.length = (65536 : Int).toNat := (by rw [Ny728.out, List.length_take]; omega)
                                                rw [← Ny728.out] at hr649
                                                rw [← hy649] at hcut649
                                                have HR731 := Aside0.mk hr649
                                                have HC731 := Aside0.mk (show y728.length ≤ y728.length from by omega)
                                                clear hr649 hC649 hroom649 hi0649 hsz649
                                                have KY649 := Aside0.mk hy649
                                                clear hy649
                                                have KL649 := Aside0.mk (show 65536 ≤ x20_4.length from by omega)
                                                replace q649 := eq_true q649
                                                refine hK.out _ _ trivial (fun hHeld => ?_)
                                                clear hK K
                                                refine norm_ (a' := ?_) ?_ ?_
                                                rotate_left
                                                · show Act.put _ (some 322) _ = _
                                                  simp only [Act.put, List.setIfInBounds_toArray, List.set_cons_zero, List.set_cons_succ, i64_w, i32_w]
                                                  rfl
                                                refine pure_ (i := 2) (N := some 323) (v := ?_) (a' := ?_) #[true, true, true, false, false, false, false, false, false, false, false, false, false, false, false, false, false, false, false, false, false, false, false, false, false, false, false, false, false, false, false, false, false, false, false, false, false, false, false, false, false, false, false, false, false, false, false, false] rfl rfl (any_of HT_.out (by kernel_rfl)) (fun _ _ _ h => h) (Or.inl ⟨by rfl, ?_⟩) ?_ ?_
                                                rotate_left
                                                · intro w'
                                                  go_simp
                                                  with_reducible rfl
                                                rotate_left
                                                · simp only [Act.put, List.setIfInBounds_toArray, List.set_cons_zero, List.set_cons_succ, i64_w, i32_w]
                                                  rfl
                                                refine pure_ (i := 3) (N := some 324) (v := ?_) (a' := ?_) #[true, true, true, true, false, false, false, false, false, false, false, false, false, false, false, false, false, false, false, false, false, false, false, false, false, false, false, false, false, false, false, false, false, false, false, false, false, false, false, false, false, false, false, false, false, false, false, false] rfl rfl (any_of HT_.out (by kernel_rfl)) (fun _ _ _ h => h) (Or.inl ⟨by rfl, ?_⟩) ?_ ?_
                                                rotate_left
                                                · intro w'
                                                  go_simp
                                                  with_reducible rfl
                                                rotate_left
                                                · simp only [Act.put, List.setIfInBounds_toArray, List.set_cons_zero, List.set_cons_succ, i64_w, i32_w]
                                                  rfl
                                                refine pure_ (i := 4) (N := some 325) (v := ?_) (a' := ?_) #[true, true, true, true, true, false, false, false, false, false, false, false, false, false, false, false, false, false, false, false, false, false, false, false, false, false, false, false, false, false, false, false, false, false, false, false, false, false, false, false, false, false, false, false, false, false, false, false] rfl rfl (any_of HT_.out (by kernel_rfl)) (fun _ _ _ h => h) (Or.inl ⟨by rfl, ?_⟩) ?_ ?_
                                                rotate_left
                                                · intro w'
                                                  go_simp
                                                  with_reducible rfl
                                                rotate_left
                                                · simp only [Act.put, List.setIfInBounds_toArray, List.set_cons_zero, List.set_cons_succ, i64_w, i32_w]
                                                  rfl
                                                refine one_ (i := 5) (N := some 326) #[true, true, true, true, true, true, false, false, false, false, false, false, false, false, false, false, false, false, false, false, false, false, false, false, false, false, false, false, false, false, false, false, false, false, false, false, false, false, false, false, false, false, false, false, false, false, false, false] rfl rfl (one_of HT_.out (by kernel_rfl)) (by decide) (fun K hK => ?_)
                                                refine value_ (w1 := ?_) (v := ?_) (by rfl) rfl ?_ ?_
                                                rotate_left 2
                                                · go_simp
                                                  constructor
                                                  · rfl
                                                  · rfl
                                                refine hK.out _ _ trivial (fun hHeld => ?_)
                                                clear hK K
                                                refine norm_ (a' := ?_) ?_ ?_
                                                rotate_left
                                                · show Act.put _ (some 326) _ = _
                                                  simp only [Act.put, List.setIfInBounds_toArray, List.set_cons_zero, List.set_cons_succ, i64_w, i32_w]
                                                  rfl
                                                refine one_ (i := 6) (N := some 327) #[true, true, true, true, true, true, true, false, false, false, false, false, false, false, false, false, false, false, false, false, false, false, false, false, false, false, false, false, false, false, false, false, false, false, false, false, false, false, false, false, false, false, false, false, false, false, false, false] rfl rfl (one_of HT_.out (by kernel_rfl)) (by decide) (fun K hK => ?_)
                                                refine Kd.R_append_full_step .u32 (w0 := w) w.heap.size (by rfl) (.tmp 325) (.tmp 326) 22 37 (.int .u32 0) 4 rfl Try.underlying22 info37 rfl (by decide) Ao648 y728.length y728 1 (fun k_ => some k_ ≠ (.slice Ao648 x20_4.length co648 : Value).ownBlock) rfl rfl ?aC ?aF ?aB ?aS ?aL ?_
                                                (case aC => repeat (first | exact (by repeat (first | (with_reducible exact HR731.out) | (with_reducible apply Kd.C_alloc) | (with_reducible apply Kd.C_drewN) | (with_reducible apply Kd.C_drew) | exact HR731.out)) | (with_reducible apply Kd.C_alloc) | (with_reducible apply Kd.C_drewN) | (with_reducible apply Kd.C_drew)))
                                                (case aB => exact (by repeat (first | (with_reducible first | exact HB.out | apply below_alloc | apply pw_below_drewN | apply below_drew1) | exact HB.out)))
                                                (case aF => exact (fun k_ hk => Kd.fresh' (Kd.R_lt (by (with_reducible repeat (first | apply Kd.R_alloc | apply Kd.R_drewN | apply Kd.R_drew)); exact HO_20.out)) k_ hk))
                                                (case aS => exact (below_size (by repeat (first | (with_reducible first | exact HB.out | apply below_alloc | apply pw_below_drewN | apply below_drew1) | exact HB.out))))
                                                (case aL => have := LMc630.out; omega)
                                                intro v733 w650 ho hb hg hat
                                                rw [← Ny732.out] at ho
                                                have n0_ := Aside0.mk (Kd.R_after (Kd.R_apart_nil (by (with_reducible repeat (first | apply Kd.R_alloc | apply Kd.R_drewN | apply Kd.R_drew)); exact HO_20.out)) hg hat)
                                                have n1_ := Aside0.mk (hb)
                                                have n2_ := Aside0.mk ((show Kd.C (Kd.int .u32) w650 Ao648 y728.length y728 from by rw [Ny728.out]; exact Kd.C_take (m := 65536) ((Kd.R_reads' (Kd.R_after (Kd.R_apart_nil (by (with_reducible repeat (first | apply Kd.R_alloc | apply Kd.R_drewN | apply Kd.R_drew)); exact HO_20.out)) hg hat)).2.2) KL649.out))
                                                have n3_ := Aside0.mk (ho)
                                                clear HO_20
                                                clear HB
                                                clear HR731
                                                have HO_20 := n0_
                                                have HB := n1_
                                                have HR731 := n2_
                                                have HO734 := n3_
                                                clear n0_ n1_ n2_ n3_
                                                clear ho hb hg hat
                                                obtain ⟨Ao651, co651, eo651⟩ := Kd.R_slice HO734.out
                                                (first | subst eo651 | (injection eo651 with f1_ f2_ f3_; have f4_ := f1_.symm; have f5_ := f3_.symm; clear f1_ f2_ f3_; subst f4_; subst f5_))
                                                refine hK.out _ _ trivial (fun hHeld => ?_)
                                                clear hK K
                                                refine norm_ (a' := ?_) ?_ ?_
                                                rotate_left
                                                · show Act.put _ (some 327) _ = _
                                                  simp only [Act.put, List.setIfInBounds_toArray, List.set_cons_zero, List.set_cons_succ, i64_w, i32_w]
                                                  rfl
                                                refine one_ (i := 7) (N := some 328) #[true, true, true, true, true, true, true, true, false, false, false, false, false, false, false, false, false, false, false, false, false, false, false, false, false, false, false, false, false, false, false, false, false, false, false, false, false, false, false, false, false, false, false, false, false, false, false, false] rfl rfl (one_of HT_.out (by kernel_rfl)) (by decide) (fun K hK => ?_)
                                                refine goes_ Try.func11 (by kernel_rfl) rfl #[.slice Ao651 y732.length co651] (by rfl) rfl rfl (by (try simp only [List.map_toArray, List.map_cons, List.map_nil]); first | done | rfl | (simp only [List.length_drop, List.length_take]; rfl)) ?_
                                                with_reducible refine (nat_May.calls _ _ y732 false _ ?side1 ?side2 A631.out).mono ?_
                                                (case side1 => repeat (first | exact (Kd.R_reads' HO734.out).2.2 | (with_reducible apply Kd.C_alloc) | (with_reducible apply Kd.C_drewN) | (with_reducible apply Kd.C_drew)))
                                                (case side2 => exact (Kd.R_reads' HO734.out).2.1)
                                                rintro e w' ⟨rfl, ⟨nd, rfl⟩⟩
                                                refine ⟨_, rfl, ?_⟩
                                                refine hK.out _ _ trivial (fun hHeld => ?_)
                                                clear hK K
                                                refine norm_ (a' := ?_) ?_ ?_
                                                rotate_left
                                                · show Act.put _ (some 328) _ = _
                                                  simp only [Act.put, List.setIfInBounds_toArray, List.set_cons_zero, List.set_cons_succ, i64_w, i32_w]
                                                  rfl
                                                refine pure_ (i := 8) (N := some 329) (v := ?_) (a' := ?_) #[true, true, true, true, true, true, true, true, true, false, false, false, false, false, false, false, false, false, false, false, false, false, false, false, false, false, false, false, false, false, false, false, false, false, false, false, false, false, false, false, false, false, false, false, false, false, false, false] rfl rfl (any_of HT_.out (by kernel_rfl)) (fun _ _ _ h => h) (Or.inl ⟨by rfl, ?_⟩) ?_ ?_
                                                rotate_left
                                                · intro w'
                                                  go_simp
                                                  with_reducible rfl
                                                rotate_left
                                                · simp only [Act.put, List.setIfInBounds_toArray, List.set_cons_zero, List.set_cons_succ, i64_w, i32_w]
                                                  rfl
                                                refine pure_ (i := 9) (N := some 330) (v := ?_) (a' := ?_) #[true, true, true, true, true, true, true, true, true, true, false, false, false, false, false, false, false, false, false, false, false, false, false, false, false, false, false, false, false, false, false, false, false, false, false, false, false, false, false, false, false, false, false, false, false, false, false, false] rfl rfl (any_of HT_.out (by kernel_rfl)) (fun _ _ _ h => h) (Or.inl ⟨by rfl, ?_⟩) ?_ ?_
                                                rotate_left
                                                · intro w'
                                                  go_simp
                                                  with_reducible rfl
                                                rotate_left
                                                · simp only [Act.put, List.setIfInBounds_toArray, List.set_cons_zero, List.set_cons_succ, i64_w, i32_w]
                                                  rfl
                                                refine pure_ (i := 10) (N := some 331) (v := ?_) (a' := ?_) #[true, true, true, true, true, true, true, true, true, true, true, false, false, false, false, false, false, false, false, false, false, false, false, false, false, false, false, false, false, false, false, false, false, false, false, false, false, false, false, false, false, false, false, false, false, false, false, false] rfl rfl (any_of HT_.out (by kernel_rfl)) (fun _ _ _ h => h) (Or.inl ⟨by rfl, ?_⟩) ?_ ?_
                                                rotate_left
                                                · intro w'
                                                  go_simp
                                                  with_reducible rfl
                                                rotate_left
                                                · simp only [Act.put, List.setIfInBounds_toArray, List.set_cons_zero, List.set_cons_succ, i64_w, i32_w]
                                                  rfl
                                                refine pure_ (i := 11) (N := some 332) (v := ?_) (a' := ?_) #[true, true, true, true, true, true, true, true, true, true, true, true, false, false, false, false, false, false, false, false, false, false, false, false, false, false, false, false, false, false, false, false, false, false, false, false, false, false, false, false, false, false, false, false, false, false, false, false] rfl rfl (any_of HT_.out (by kernel_rfl)) (fun _ _ _ h => h) (Or.inl ⟨by rfl, ?_⟩) ?_ ?_
                                                rotate_left
                                                · intro w'
                                                  go_simp
                                                  with_reducible rfl
                                                rotate_left
                                                · simp only [Act.put, List.setIfInBounds_toArray, List.set_cons_zero, List.set_cons_succ, i64_w, i32_w]
                                                  rfl
                                                refine one_ (i := 12) (N := some 333) #[true, true, true, true, true, true, true, true, true, true, true, true, true, false, false, false, false, false, false, false, false, false, false, false, false, false, false, false, false, false, false, false, false, false, false, false, false, false, false, false, false, false, false, false, false, false, false, false] rfl rfl (one_of HT_.out (by kernel_rfl)) (by decide) (fun K hK => ?_)
                                                refine value_ (w1 := ?_) (v := ?_) (by rfl) rfl ?_ ?_
                                                rotate_left 2
                                                · go_simp
                                                  constructor
                                                  · rfl
                                                  · rfl
                                                refine hK.out _ _ trivial (fun hHeld => ?_)
                                                clear hK K
                                                refine norm_ (a' := ?_) ?_ ?_
                                                rotate_left
                                                · show Act.put _ (some 333) _ = _
                                                  simp only [Act.put, List.setIfInBounds_toArray, List.set_cons_zero, List.set_cons_succ, i64_w, i32_w]
                                                  rfl
                                                refine one_ (i := 13) (N := some 334) #[true, true, true, true, true, true, true, true, true, true, true, true, true, true, false, false, false, false, false, false, false, false, false, false, false, false, false, false, false, false, false, false, false, false, false, false, false, false, false, false, false, false, false, false, false, false, false, false] rfl rfl (one_of HT_.out (by kernel_rfl)) (by decide) (fun K hK => ?_)
                                                refine goes_ Try.func27 (by kernel_rfl) rfl #[.slice (some ⟨_, 0, none⟩) 1 1] (by rfl) rfl rfl (by (try simp only [List.map_toArray, List.map_cons, List.map_nil]); first | done | rfl | (simp only [List.length_drop, List.length_take]; rfl)) ?_
                                                with_reducible refine (alidadelaw01_of_1.calls 1 t736 _ A633.out).mono ?_
                                                rintro e w652 ⟨v737, rfl, ho0, hb⟩
                                                refine ⟨_, rfl, ?_⟩
                                                have n0_ := Aside0.mk (Kd.R_elder' (by (with_reducible repeat (first | apply Kd.R_alloc | apply Kd.R_drewN | apply Kd.R_drew)); exact HO_20.out) (Kd.R_base ho0) hb)
                                                have n2_ := Aside0.mk (Kd.R_lower ho0 (below_size (by repeat (first | (with_reducible first | exact HB.out | apply below_alloc | apply pw_below_drewN | apply below_drew1) | exact HB.out))))
                                                have n3_ := Aside0.mk (Kd.C_below (by repeat (first | (with_reducible exact HR731.out) | (with_reducible apply Kd.C_alloc) | (with_reducible apply Kd.C_drewN) | (with_reducible apply Kd.C_drew) | exact HR731.out)) hb)
                                                have n4_ := Aside0.mk (below_step (by repeat (first | (with_reducible first | exact HB.out | apply below_alloc | apply pw_below_drewN | apply below_drew1) | exact HB.out)) hb)
                                                clear HO_20
                                                clear HR731
                                                clear HB
                                                have HO_20 := n0_
                                                have HO738 := n2_
                                                have HR731 := n3_
                                                have HB := n4_
                                                clear n0_ n2_ n3_ n4_
                                                (try clear hb)
                                                (try clear hb2)
                                                (try clear hk)
                                                (try clear hi)
                                                (try clear ho0)
                                                obtain ⟨Ao653, co653, eo653⟩ := Kd.R_slice HO738.out
                                                (first | subst eo653 | (injection eo653 with f1_ f2_ f3_; have f4_ := f1_.symm; have f5_ := f3_.symm; clear f1_ f2_ f3_; subst f4_; subst f5_))
                                                refine hK.out _ _ trivial (fun hHeld => ?_)
                                                clear hK K
                                                refine norm_ (a' := ?_) ?_ ?_
                                                rotate_left
                                                · show Act.put _ (some 334) _ = _
                                                  simp only [Act.put, List.setIfInBounds_toArray, List.set_cons_zero, List.set_cons_succ, i64_w, i32_w]
                                                  rfl
                                                refine one_ (i := 14) (N := some 335) #[true, true, true, true, true, true, true, true, true, true, true, true, true, true, true, false, false, false, false, false, false, false, false, false, false, false, false, false, false, false, false, false, false, false, false, false, false, false, false, false, false, false, false, false, false, false, false, false] rfl rfl (one_of HT_.out (by kernel_rfl)) (by decide) (fun K hK => ?_)
                                                refine goes_ Try.func12 (by kernel_rfl) rfl #[.slice Ao648 x20_4.length co648, .slice Ao653 t736.length co653] (by rfl) rfl rfl (by (try simp only [List.map_toArray, List.map_cons, List.map_nil]); first | done | rfl | (simp only [List.length_drop, List.length_take]; rfl)) ?_
                                                with_reducible refine (nat_Add.calls _ _ x20_4 _ _ t736 t739 _ ?side1 ?side2 ?side3 ?side4 A634.out).mono ?_
                                                (case side1 => repeat (first | exact (Kd.R_reads' HO_20.out).2.2 | (with_reducible apply Kd.C_alloc) | (with_reducible apply Kd.C_drewN) | (with_reducible apply Kd.C_drew)))
                                                (case side2 => exact (Kd.R_reads' HO_20.out).2.1)
                                                (case side3 => repeat (first | exact (Kd.R_reads' HO738.out).2.2 | (with_reducible apply Kd.C_alloc) | (with_reducible apply Kd.C_drewN) | (with_reducible apply Kd.C_drew)))
                                                (case side4 => exact (Kd.R_reads' HO738.out).2.1)
                                                rintro e w654 ⟨v740, rfl, ho0, hb⟩
                                                refine ⟨_, rfl, ?_⟩
                                                have n0_ := Aside0.mk (Kd.R_elder' (by (with_reducible repeat (first | apply Kd.R_alloc | apply Kd.R_drewN | apply Kd.R_drew)); exact HO_20.out) (Kd.R_base ho0) hb)
                                                have n3_ := Aside0.mk (Kd.R_lower ho0 (below_size (by repeat (first | (with_reducible first | exact HB.out | apply below_alloc | apply pw_below_drewN | apply below_drew1) | exact HB.out))))
                                                have n4_ := Aside0.mk (Kd.C_below (by repeat (first | (with_reducible exact HR731.out) | (with_reducible apply Kd.C_alloc) | (with_reducible apply Kd.C_drewN) | (with_reducible apply Kd.C_drew) | exact HR731.out)) hb)
                                                have n5_ := Aside0.mk (below_step (by repeat (first | (with_reducible first | exact HB.out | apply below_alloc | apply pw_below_drewN | apply below_drew1) | exact HB.out)) hb)
                                                clear HO_20
                                                clear HR731
                                                clear HB
                                                have HO_20 := n0_
                                                have HO741 := n3_
                                                have HR731 := n4_
                                                have HB := n5_
                                                clear n0_ n3_ n4_ n5_
                                                (try clear hb)
                                                (try clear hb2)
                                                (try clear hk)
                                                (try clear hi)
                                                (try clear ho0)
                                                obtain ⟨Ao655, co655, eo655⟩ := Kd.R_slice HO741.out
                                                (first | subst eo655 | (injection eo655 with f1_ f2_ f3_; have f4_ := f1_.symm; have f5_ := f3_.symm; clear f1_ f2_ f3_; subst f4_; subst f5_))
                                                have q656 : (65535 : Int) ≤ ((x20_4.length : Int) : Int) := of_decide_eq_true (by first | (with_reducible assumption) | assumption)
                                                obtain ⟨i0656, hi0656, _, hsz656, _⟩ := info_parts info37
                                                have hroom656 : x20_4.length ≤ co648 := (Kd.R_reads' HO_20.out).2.1
                                                have hC656 : Kd.C (Kd.int .u32) _ Ao648 x20_4.length x20_4 := (Kd.R_reads' HO_20.out).2.2
                                                have hcut656 := cut_to (P := Try.prog) 22 37 .i64 Try.underlying22 hi0656 Ao648 x20_4.length co648 65535 (by omega) q656 hroom656
                                                have hr656 := Kd.C_take (m := 65535) hC656 (by omega)
                                                have hy656 : y742.length = (65535 : Int).toNat := (by rw [Ny742.out, List.length_take]; omega)
                                                rw [← Ny742.out] at hr656
                                                rw [← hy656] at hcut656
                                                have HR745 := Aside0.mk hr656
                                                have HC745 := Aside0.mk (show y742.length ≤ co648 from by omega)
                                                clear hr656 hC656 hroom656 hi0656 hsz656
                                                have KY656 := Aside0.mk hy656
                                                clear hy656
                                                have KL656 := Aside0.mk (show 65535 ≤ x20_4.length from by omega)
                                                replace q656 := eq_true q656
                                                refine hK.out _ _ trivial (fun hHeld => ?_)
                                                clear hK K
                                                refine norm_ (a' := ?_) ?_ ?_
                                                rotate_left
                                                · show Act.put _ (some 335) _ = _
                                                  simp only [Act.put, List.setIfInBounds_toArray, List.set_cons_zero, List.set_cons_succ, i64_w, i32_w]
                                                  rfl
                                                refine pure_ (i := 15) (N := some 336) (v := ?_) (a' := ?_) #[true, true, true, true, true, true, true, true, true, true, true, true, true, true, true, true, false, false, false, false, false, false, false, false, false, false, false, false, false, false, false, false, false, false, false, false, false, false, false, false, false, false, false, false, false, false, false, false] rfl rfl (any_of HT_.out (by kernel_rfl)) (fun _ _ _ h => h) (Or.inl ⟨by rfl, ?_⟩) ?_ ?_
                                                rotate_left
                                                · intro w'
                                                  go_simp
                                                  with_reducible rfl
                                                rotate_left
                                                · simp only [Act.put, List.setIfInBounds_toArray, List.set_cons_zero, List.set_cons_succ, i64_w, i32_w]
                                                  rfl
                                                refine pure_ (i := 16) (N := some 337) (v := ?_) (a' := ?_) #[true, true, true, true, true, true, true, true, true, true, true, true, true, true, true, true, true, false, false, false, false, false, false, false, false, false, false, false, false, false, false, false, false, false, false, false, false, false, false, false, false, false, false, false, false, false, false, false] rfl rfl (any_of HT_.out (by kernel_rfl)) (fun _ _ _ h => h) (Or.inl ⟨by rfl, ?_⟩) ?_ ?_
                                                rotate_left
                                                · intro w'
                                                  go_simp
                                                  with_reducible rfl
                                                rotate_left
                                                · simp only [Act.put, List.setIfInBounds_toArray, List.set_cons_zero, List.set_cons_succ, i64_w, i32_w]
                                                  rfl
                                                refine pure_ (i := 17) (N := some 338) (v := ?_) (a' := ?_) #[true, true, true, true, true, true, true, true, true, true, true, true, true, true, true, true, true, true, false, false, false, false, false, false, false, false, false, false, false, false, false, false, false, false, false, false, false, false, false, false, false, false, false, false, false, false, false, false] rfl rfl (any_of HT_.out (by kernel_rfl)) (fun _ _ _ h => h) (Or.inl ⟨by rfl, ?_⟩) ?_ ?_
                                                rotate_left
                                                · intro w'
                                                  go_simp
                                                  with_reducible rfl
                                                rotate_left
                                                · simp only [Act.put, List.setIfInBounds_toArray, List.set_cons_zero, List.set_cons_succ, i64_w, i32_w]
                                                  rfl
                                                refine pure_ (i := 18) (N := some 339) (v := ?_) (a' := ?_) #[true, true, true, true, true, true, true, true, true, true, true, true, true, true, true, true, true, true, true, false, false, false, false, false, false, false, false, false, false, false, false, false, false, false, false, false, false, false, false, false, false, false, false, false, false, false, false, false] rfl rfl (any_of HT_.out (by kernel_rfl)) (fun _ _ _ h => h) (Or.inl ⟨by rfl, ?_⟩) ?_ ?_
                                                rotate_left
                                                · intro w'
                                                  go_simp
                                                  with_reducible rfl
                                                rotate_left
                                                · simp only [Act.put, List.setIfInBounds_toArray, List.set_cons_zero, List.set_cons_succ, i64_w, i32_w]
                                                  rfl
                                                refine pure_ (i := 19) (N := some 340) (v := ?_) (a' := ?_) #[true, true, true, true, true, true, true, true, true, true, true, true, true, true, true, true, true, true, true, true, false, false, false, false, false, false, false, false, false, false, false, false, false, false, false, false, false, false, false, false, false, false, false, false, false, false, false, false] rfl rfl (any_of HT_.out (by kernel_rfl)) (fun _ _ _ h => h) (Or.inl ⟨by rfl, ?_⟩) ?_ ?_
                                                rotate_left
                                                · intro w'
                                                  go_simp
                                                  with_reducible rfl
                                                rotate_left
                                                · simp only [Act.put, List.setIfInBounds_toArray, List.set_cons_zero, List.set_cons_succ, i64_w, i32_w]
                                                  rfl
                                                refine pure_ (i := 20) (N := some 341) (v := ?_) (a' := ?_) #[true, true, true, true, true, true, true, true, true, true, true, true, true, true, true, true, true, true, true, true, true, false, false, false, false, false, false, false, false, false, false, false, false, false, false, false, false, false, false, false, false, false, false, false, false, false, false, false] rfl rfl (any_of HT_.out (by kernel_rfl)) (fun _ _ _ h => h) (Or.inl ⟨by rfl, ?_⟩) ?_ ?_
                                                rotate_left
                                                · intro w'
                                                  go_simp
                                                  with_reducible rfl
                                                rotate_left
                                                · simp only [Act.put, List.setIfInBounds_toArray, List.set_cons_zero, List.set_cons_succ, i64_w, i32_w]
                                                  rfl
                                                refine one_ (i := 21) (N := some 342) #[true, true, true, true, true, true, true, true, true, true, true, true, true, true, true, true, true, true, true, true, true, true, false, false, false, false, false, false, false, false, false, false, false, false, false, false, false, false, false, false, false, false, false, false, false, false, false, false] rfl rfl (one_of HT_.out (by kernel_rfl)) (by decide) (fun K hK => ?_)
                                                refine value_ (w1 := ?_) (v := ?_) (by rfl) rfl ?_ ?_
                                                rotate_left 2
                                                · go_simp
                                                  constructor
                                                  · rfl
                                                  · rfl
                                                refine hK.out _ _ trivial (fun hHeld => ?_)
                                                clear hK K
                                                refine norm_ (a' := ?_) ?_ ?_
                                                rotate_left
                                                · show Act.put _ (some 342) _ = _
                                                  simp only [Act.put, List.setIfInBounds_toArray, List.set_cons_zero, List.set_cons_succ, i64_w, i32_w]
                                                  rfl
                                                refine one_ (i := 22) (N := some 343) #[true, true, true, true, true, true, true, true, true, true, true, true, true, true, true, true, true, true, true, true, true, true, true, false, false, false, false, false, false, false, false, false, false, false, false, false, false, false, false, false, false, false, false, false, false, false, false, false] rfl rfl (one_of HT_.out (by kernel_rfl)) (by decide) (fun K hK => ?_)
                                                refine goes_ Try.func27 (by kernel_rfl) rfl #[.slice (some ⟨_, 0, none⟩) 1 1] (by rfl) rfl rfl (by (try simp only [List.map_toArray, List.map_cons, List.map_nil]); first | done | rfl | (simp only [List.length_drop, List.length_take]; rfl)) ?_
                                                with_reducible refine (alidadelaw01_of_1.calls 1 t746 _ A637.out).mono ?_
                                                rintro e w657 ⟨v747, rfl, ho0, hb⟩
                                                refine ⟨_, rfl, ?_⟩
                                                have n0_ := Aside0.mk (Kd.R_elder' (by (with_reducible repeat (first | apply Kd.R_alloc | apply Kd.R_drewN | apply Kd.R_drew)); exact HO_20.out) (Kd.R_base ho0) hb)
                                                have n4_ := Aside0.mk (Kd.R_lower ho0 (below_size (by repeat (first | (with_reducible first | exact HB.out | apply below_alloc | apply pw_below_drewN | apply below_drew1) | exact HB.out))))
                                                have n5_ := Aside0.mk (Kd.C_below (by repeat (first | (with_reducible exact HR731.out) | (with_reducible apply Kd.C_alloc) | (with_reducible apply Kd.C_drewN) | (with_reducible apply Kd.C_drew) | exact HR731.out)) hb)
                                                have n6_ := Aside0.mk (Kd.C_below (by repeat (first | (with_reducible exact HR745.out) | (with_reducible apply Kd.C_alloc) | (with_reducible apply Kd.C_drewN) | (with_reducible apply Kd.C_drew) | exact HR745.out)) hb)
                                                have n7_ := Aside0.mk (below_step (by repeat (first | (with_reducible first | exact HB.out | apply below_alloc | apply pw_below_drewN | apply below_drew1) | exact HB.out)) hb)
                                                clear HO_20
                                                clear HR731
                                                clear HR745
                                                clear HB
                                                have HO_20 := n0_
                                                have HO748 := n4_
                                                have HR731 := n5_
                                                have HR745 := n6_
                                                have HB := n7_
                                                clear n0_ n4_ n5_ n6_ n7_
                                                (try clear hb)
                                                (try clear hb2)
                                                (try clear hk)
                                                (try clear hi)
                                                (try clear ho0)
                                                obtain ⟨Ao658, co658, eo658⟩ := Kd.R_slice HO748.out
                                                (first | subst eo658 | (injection eo658 with f1_ f2_ f3_; have f4_ := f1_.symm; have f5_ := f3_.symm; clear f1_ f2_ f3_; subst f4_; subst f5_))
                                                refine hK.out _ _ trivial (fun hHeld => ?_)
                                                clear hK K
                                                refine norm_ (a' := ?_) ?_ ?_
                                                rotate_left
                                                · show Act.put _ (some 343) _ = _
                                                  simp only [Act.put, List.setIfInBounds_toArray, List.set_cons_zero, List.set_cons_succ, i64_w, i32_w]
                                                  rfl
                                                refine one_ (i := 23) (N := some 344) #[true, true, true, true, true, true, true, true, true, true, true, true, true, true, true, true, true, true, true, true, true, true, true, true, false, false, false, false, false, false, false, false, false, false, false, false, false, false, false, false, false, false, false, false, false, false, false, false] rfl rfl (one_of HT_.out (by kernel_rfl)) (by decide) (fun K hK => ?_)
                                                refine goes_ Try.func12 (by kernel_rfl) rfl #[.slice Ao648 y742.length co648, .slice Ao658 t746.length co658] (by rfl) rfl rfl (by (try simp only [List.map_toArray, List.map_cons, List.map_nil]); first | done | rfl | (simp only [List.length_drop, List.length_take]; rfl)) ?_
                                                with_reducible refine (nat_Add.calls _ _ y742 _ _ t746 t749 _ ?side1 ?side2 ?side3 ?side4 A638.out).mono ?_
                                                (case side1 => repeat (first | exact (by repeat (first | (with_reducible exact HR745.out) | (with_reducible apply Kd.C_alloc) | (with_reducible apply Kd.C_drewN) | (with_reducible apply Kd.C_drew) | exact HR745.out)) | (with_reducible apply Kd.C_alloc) | (with_reducible apply Kd.C_drewN) | (with_reducible apply Kd.C_drew)))
                                                (case side2 => exact HC745.out)
                                                (case side3 => repeat (first | exact (Kd.R_reads' HO748.out).2.2 | (with_reducible apply Kd.C_alloc) | (with_reducible apply Kd.C_drewN) | (with_reducible apply Kd.C_drew)))
                                                (case side4 => exact (Kd.R_reads' HO748.out).2.1)
                                                rintro e w659 ⟨v750, rfl, ho0, hb⟩
                                                refine ⟨_, rfl, ?_⟩
                                                have n0_ := Aside0.mk (Kd.R_elder' (by (with_reducible repeat (first | apply Kd.R_alloc | apply Kd.R_drewN | apply Kd.R_drew)); exact HO_20.out) (Kd.R_base ho0) hb)
                                                have n5_ := Aside0.mk (Kd.R_lower ho0 (below_size (by repeat (first | (with_reducible first | exact HB.out | apply below_alloc | apply pw_below_drewN | apply below_drew1) | exact HB.out))))
                                                have n6_ := Aside0.mk (Kd.C_below (by repeat (first | (with_reducible exact HR731.out) | (with_reducible apply Kd.C_alloc) | (with_reducible apply Kd.C_drewN) | (with_reducible apply Kd.C_drew) | exact HR731.out)) hb)
                                                have n7_ := Aside0.mk (Kd.C_below (by repeat (first | (with_reducible exact HR745.out) | (with_reducible apply Kd.C_alloc) | (with_reducible apply Kd.C_drewN) | (with_reducible apply Kd.C_drew) | exact HR745.out)) hb)
                                                have n8_ := Aside0.mk (below_step (by repeat (first | (with_reducible first | exact HB.out | apply below_alloc | apply pw_below_drewN | apply below_drew1) | exact HB.out)) hb)
                                                clear HO_20
                                                clear HR731
                                                clear HR745
                                                clear HB
                                                have HO_20 := n0_
                                                have HO751 := n5_
                                                have HR731 := n6_
                                                have HR745 := n7_
                                                have HB := n8_
                                                clear n0_ n5_ n6_ n7_ n8_
                                                (try clear hb)
                                                (try clear hb2)
                                                (try clear hk)
                                                (try clear hi)
                                                (try clear ho0)
                                                obtain ⟨Ao660, co660, eo660⟩ := Kd.R_slice HO751.out
                                                (first | subst eo660 | (injection eo660 with f1_ f2_ f3_; have f4_ := f1_.symm; have f5_ := f3_.symm; clear f1_ f2_ f3_; subst f4_; subst f5_))
                                                refine hK.out _ _ trivial (fun hHeld => ?_)
                                                clear hK K
                                                refine norm_ (a' := ?_) ?_ ?_
                                                rotate_left
                                                · show Act.put _ (some 344) _ = _
                                                  simp only [Act.put, List.setIfInBounds_toArray, List.set_cons_zero, List.set_cons_succ, i64_w, i32_w]
                                                  rfl
                                                refine pure_ (i := 24) (N := some 345) (v := ?_) (a' := ?_) #[true, true, true, true, true, true, true, true, true, true, true, true, true, true, true, true, true, true, true, true, true, true, true, true, true, false, false, false, false, false, false, false, false, false, false, false, false, false, false, false, false, false, false, false, false, false, false, false] rfl rfl (any_of HT_.out (by kernel_rfl)) (fun _ _ _ h => h) (Or.inl ⟨by rfl, ?_⟩) ?_ ?_
                                                rotate_left
                                                · intro w'
                                                  go_simp
                                                  with_reducible rfl
                                                rotate_left
                                                · simp only [Act.put, List.setIfInBounds_toArray, List.set_cons_zero, List.set_cons_succ, i64_w, i32_w]
                                                  rfl
                                                refine pure_ (i := 25) (N := some 346) (v := ?_) (a' := ?_) #[true, true, true, true, true, true, true, true, true, true, true, true, true, true, true, true, true, true, true, true, true, true, true, true, true, true, false, false, false, false, false, false, false, false, false, false, false, false, false, false, false, false, false, false, false, false, false, false] rfl rfl (any_of HT_.out (by kernel_rfl)) (fun _ _ _ h => h) (Or.inl ⟨by rfl, ?_⟩) ?_ ?_
                                                rotate_left
                                                · intro w'
                                                  go_simp
                                                  with_reducible rfl
                                                rotate_left
                                                · simp only [Act.put, List.setIfInBounds_toArray, List.set_cons_zero, List.set_cons_succ, i64_w, i32_w]
                                                  rfl
                                                refine pure_ (i := 26) (N := some 347) (v := ?_) (a' := ?_) #[true, true, true, true, true, true, true, true, true, true, true, true, true, true, true, true, true, true, true, true, true, true, true, true, true, true, true, false, false, false, false, false, false, false, false, false, false, false, false, false, false, false, false, false, false, false, false, false] rfl rfl (any_of HT_.out (by kernel_rfl)) (fun _ _ _ h => h) (Or.inl ⟨by rfl, ?_⟩) ?_ ?_
                                                rotate_left
                                                · intro w'
                                                  go_simp
                                                  with_reducible rfl
                                                rotate_left
                                                · simp only [Act.put, List.setIfInBounds_toArray, List.set_cons_zero, List.set_cons_succ, i64_w, i32_w]
                                                  rfl
                                                refine pure_ (i := 27) (N := some 348) (v := ?_) (a' := ?_) #[true, true, true, true, true, true, true, true, true, true, true, true, true, true, true, true, true, true, true, true, true, true, true, true, true, true, true, true, false, false, false, false, false, false, false, false, false, false, false, false, false, false, false, false, false, false, false, false] rfl rfl (any_of HT_.out (by kernel_rfl)) (fun _ _ _ h => h) (Or.inl ⟨by rfl, ?_⟩) ?_ ?_
                                                rotate_left
                                                · intro w'
                                                  go_simp
                                                  with_reducible rfl
                                                rotate_left
                                                · simp only [Act.put, List.setIfInBounds_toArray, List.set_cons_zero, List.set_cons_succ, i64_w, i32_w]
                                                  rfl
                                                refine pure_ (i := 28) (N := some 349) (v := ?_) (a' := ?_) #[true, true, true, true, true, true, true, true, true, true, true, true, true, true, true, true, true, true, true, true, true, true, true, true, true, true, true, true, true, false, false, false, false, false, false, false, false, false, false, false, false, false, false, false, false, false, false, false] rfl rfl (any_of HT_.out (by kernel_rfl)) (fun _ _ _ h => h) (Or.inl ⟨by rfl, ?_⟩) ?_ ?_
                                                rotate_left
                                                · intro w'
                                                  go_simp
                                                  with_reducible rfl
                                                rotate_left
                                                · simp only [Act.put, List.setIfInBounds_toArray, List.set_cons_zero, List.set_cons_succ, i64_w, i32_w]
                                                  rfl
                                                refine one_ (i := 29) (N := some 350) #[true, true, true, true, true, true, true, true, true, true, true, true, true, true, true, true, true, true, true, true, true, true, true, true, true, true, true, true, true, true, false, false, false, false, false, false, false, false, false, false, false, false, false, false, false, false, false, false] rfl rfl (one_of HT_.out (by kernel_rfl)) (by decide) (fun K hK => ?_)
                                                refine goes_ Try.func16 (by kernel_rfl) rfl #[.slice Ao648 x20_4.length co648, .int .i64 1] (by rfl) rfl rfl (by (try simp only [List.map_toArray, List.map_cons, List.map_nil]); first | done | rfl | (simp only [List.length_drop, List.length_take]; rfl)) ?_
                                                with_reducible refine (nat_Shl.calls _ _ x20_4 1 t752 _ ?side1 ?side2 A640.out).mono ?_
                                                (case side1 => repeat (first | exact (Kd.R_reads' HO_20.out).2.2 | (with_reducible apply Kd.C_alloc) | (with_reducible apply Kd.C_drewN) | (with_reducible apply Kd.C_drew)))
                                                (case side2 => exact (Kd.R_reads' HO_20.out).2.1)
                                                rintro e w661 ⟨v753, rfl, ho0, hb⟩
                                                refine ⟨_, rfl, ?_⟩
                                                have n0_ := Aside0.mk (Kd.R_elder' (by (with_reducible repeat (first | apply Kd.R_alloc | apply Kd.R_drewN | apply Kd.R_drew)); exact HO_20.out) (Kd.R_base ho0) hb)
                                                have n6_ := Aside0.mk (Kd.R_lower ho0 (below_size (by repeat (first | (with_reducible first | exact HB.out | apply below_alloc | apply pw_below_drewN | apply below_drew1) | exact HB.out))))
                                                have n7_ := Aside0.mk (Kd.C_below (by repeat (first | (with_reducible exact HR731.out) | (with_reducible apply Kd.C_alloc) | (with_reducible apply Kd.C_drewN) | (with_reducible apply Kd.C_drew) | exact HR731.out)) hb)
                                                have n8_ := Aside0.mk (Kd.C_below (by repeat (first | (with_reducible exact HR745.out) | (with_reducible apply Kd.C_alloc) | (with_reducible apply Kd.C_drewN) | (with_reducible apply Kd.C_drew) | exact HR745.out)) hb)
                                                have n9_ := Aside0.mk (below_step (by repeat (first | (with_reducible first | exact HB.out | apply below_alloc | apply pw_below_drewN | apply below_drew1) | exact HB.out)) hb)
                                                clear HO_20
                                                clear HR731
                                                clear HR745
                                                clear HB
                                                have HO_20 := n0_
                                                have HO754 := n6_
                                                have HR731 := n7_
                                                have HR745 := n8_
                                                have HB := n9_
                                                clear n0_ n6_ n7_ n8_ n9_
                                                (try clear hb)
                                                (try clear hb2)
                                                (try clear hk)
                                                (try clear hi)
                                                (try clear ho0)
                                                obtain ⟨Ao662, co662, eo662⟩ := Kd.R_slice HO754.out
                                                (first | subst eo662 | (injection eo662 with f1_ f2_ f3_; have f4_ := f1_.symm; have f5_ := f3_.symm; clear f1_ f2_ f3_; subst f4_; subst f5_))
                                                refine hK.out _ _ trivial (fun hHeld => ?_)
                                                clear hK K
                                                refine norm_ (a' := ?_) ?_ ?_
                                                rotate_left
                                                · show Act.put _ (some 350) _ = _
                                                  simp only [Act.put, List.setIfInBounds_toArray, List.set_cons_zero, List.set_cons_succ, i64_w, i32_w]
                                                  rfl
                                                refine pure_ (i := 30) (N := some 351) (v := ?_) (a' := ?_) #[true, true, true, true, true, true, true, true, true, true, true, true, true, true, true, true, true, true, true, true, true, true, true, true, true, true, true, true, true, true, true, false, false, false, false, false, false, false, false, false, false, false, false, false, false, false, false, false] rfl rfl (any_of HT_.out (by kernel_rfl)) (fun _ _ _ h => h) (Or.inl ⟨by rfl, ?_⟩) ?_ ?_
                                                rotate_left
                                                · intro w'
                                                  go_simp
                                                  with_reducible rfl
                                                rotate_left
                                                · simp only [Act.put, List.setIfInBounds_toArray, List.set_cons_zero, List.set_cons_succ, i64_w, i32_w]
                                                  rfl
                                                refine pure_ (i := 31) (N := some 352) (v := ?_) (a' := ?_) #[true, true, true, true, true, true, true, true, true, true, true, true, true, true, true, true, true, true, true, true, true, true, true, true, true, true, true, true, true, true, true, true, false, false, false, false, false, false, false, false, false, false, false, false, false, false, false, false] rfl rfl (any_of HT_.out (by kernel_rfl)) (fun _ _ _ h => h) (Or.inl ⟨by rfl, ?_⟩) ?_ ?_
                                                rotate_left
                                                · intro w'
                                                  go_simp
                                                  with_reducible rfl
                                                rotate_left
                                                · simp only [Act.put, List.setIfInBounds_toArray, List.set_cons_zero, List.set_cons_succ, i64_w, i32_w]
                                                  rfl
                                                refine pure_ (i := 32) (N := some 353) (v := ?_) (a' := ?_) #[true, true, true, true, true, true, true, true, true, true, true, true, true, true, true, true, true, true, true, true, true, true, true, true, true, true, true, true, true, true, true, true, true, false, false, false, false, false, false, false, false, false, false, false, false, false, false, false] rfl rfl (any_of HT_.out (by kernel_rfl)) (fun _ _ _ h => h) (Or.inl ⟨by rfl, ?_⟩) ?_ ?_
                                                rotate_left
                                                · intro w'
                                                  go_simp
                                                  with_reducible rfl
                                                rotate_left
                                                · simp only [Act.put, List.setIfInBounds_toArray, List.set_cons_zero, List.set_cons_succ, i64_w, i32_w]
                                                  rfl
                                                refine pure_ (i := 33) (N := some 354) (v := ?_) (a' := ?_) #[true, true, true, true, true, true, true, true, true, true, true, true, true, true, true, true, true, true, true, true, true, true, true, true, true, true, true, true, true, true, true, true, true, true, false, false, false, false, false, false, false, false, false, false, false, false, false, false] rfl rfl (any_of HT_.out (by kernel_rfl)) (fun _ _ _ h => h) (Or.inl ⟨by rfl, ?_⟩) ?_ ?_
                                                rotate_left
                                                · intro w'
                                                  go_simp
                                                  with_reducible rfl
                                                rotate_left
                                                · simp only [Act.put, List.setIfInBounds_toArray, List.set_cons_zero, List.set_cons_succ, i64_w, i32_w]
                                                  rfl
                                                refine one_ (i := 34) (N := some 355) #[true, true, true, true, true, true, true, true, true, true, true, true, true, true, true, true, true, true, true, true, true, true, true, true, true, true, true, true, true, true, true, true, true, true, true, false, false, false, false, false, false, false, false, false, false, false, false, false] rfl rfl (one_of HT_.out (by kernel_rfl)) (by decide) (fun K hK => ?_)
                                                refine value_ (w1 := ?_) (v := ?_) (by rfl) rfl ?_ ?_
                                                rotate_left 2
                                                · go_simp
                                                  constructor
                                                  · rfl
                                                  · rfl
                                                refine hK.out _ _ trivial (fun hHeld => ?_)
                                                clear hK K
                                                refine norm_ (a' := ?_) ?_ ?_
                                                rotate_left
                                                · show Act.put _ (some 355) _ = _
                                                  simp only [Act.put, List.setIfInBounds_toArray, List.set_cons_zero, List.set_cons_succ, i64_w, i32_w]
                                                  rfl
                                                refine one_ (i := 35) (N := some 356) #[true, true, true, true, true, true, true, true, true, true, true, true, true, true, true, true, true, true, true, true, true, true, true, true, true, true, true, true, true, true, true, true, true, true, true, true, false, false, false, false, false, false, false, false, false, false, false, false] rfl rfl (one_of HT_.out (by kernel_rfl)) (by decide) (fun K hK => ?_)
                                                refine goes_ Try.func27 (by kernel_rfl) rfl #[.slice (some ⟨_, 0, none⟩) 1 1] (by rfl) rfl rfl (by (try simp only [List.map_toArray, List.map_cons, List.map_nil]); first | done | rfl | (simp only [List.length_drop, List.length_take]; rfl)) ?_
                                                with_reducible refine (alidadelaw01_of_1.calls 1 t755 _ A642.out).mono ?_
                                                rintro e w663 ⟨v756, rfl, ho0, hb⟩
                                                refine ⟨_, rfl, ?_⟩
                                                have n0_ := Aside0.mk (Kd.R_elder' (by (with_reducible repeat (first | apply Kd.R_alloc | apply Kd.R_drewN | apply Kd.R_drew)); exact HO_20.out) (Kd.R_base ho0) hb)
                                                have n7_ := Aside0.mk (Kd.R_lower ho0 (below_size (by repeat (first | (with_reducible first | exact HB.out | apply below_alloc | apply pw_below_drewN | apply below_drew1) | exact HB.out))))
                                                have n8_ := Aside0.mk (Kd.C_below (by repeat (first | (with_reducible exact HR731.out) | (with_reducible apply Kd.C_alloc) | (with_reducible apply Kd.C_drewN) | (with_reducible apply Kd.C_drew) | exact HR731.out)) hb)
                                                have n9_ := Aside0.mk (Kd.C_below (by repeat (first | (with_reducible exact HR745.out) | (with_reducible apply Kd.C_alloc) | (with_reducible apply Kd.C_drewN) | (with_reducible apply Kd.C_drew) | exact HR745.out)) hb)
                                                have n10_ := Aside0.mk (below_step (by repeat (first | (with_reducible first | exact HB.out | apply below_alloc | apply pw_below_drewN | apply below_drew1) | exact HB.out)) hb)
                                                clear HO_20
                                                clear HR731
                                                clear HR745
                                                clear HB
                                                have HO_20 := n0_
                                                have HO757 := n7_
                                                have HR731 := n8_
                                                have HR745 := n9_
                                                have HB := n10_
                                                clear n0_ n7_ n8_ n9_ n10_
                                                (try clear hb)
                                                (try clear hb2)
                                                (try clear hk)
                                                (try clear hi)
                                                (try clear ho0)
                                                obtain ⟨Ao664, co664, eo664⟩ := Kd.R_slice HO757.out
                                                (first | subst eo664 | (injection eo664 with f1_ f2_ f3_; have f4_ := f1_.symm; have f5_ := f3_.symm; clear f1_ f2_ f3_; subst f4_; subst f5_))
                                                refine hK.out _ _ trivial (fun hHeld => ?_)
                                                clear hK K
                                                refine norm_ (a' := ?_) ?_ ?_
                                                rotate_left
                                                · show Act.put _ (some 356) _ = _
                                                  simp only [Act.put, List.setIfInBounds_toArray, List.set_cons_zero, List.set_cons_succ, i64_w, i32_w]
                                                  rfl
                                                refine one_ (i := 36) (N := some 357) #[true, true, true, true, true, true, true, true, true, true, true, true, true, true, true, true, true, true, true, true, true, true, true, true, true, true, true, true, true, true, true, true, true, true, true, true, true, false, false, false, false, false, false, false, false, false, false, false] rfl rfl (one_of HT_.out (by kernel_rfl)) (by decide) (fun K hK => ?_)
                                                refine goes_ Try.func16 (by kernel_rfl) rfl #[.slice Ao664 t755.length co664, .int .i64 2097151] (by rfl) rfl rfl (by (try simp only [List.map_toArray, List.map_cons, List.map_nil]); first | done | rfl | (simp only [List.length_drop, List.length_take]; rfl)) ?_
                                                with_reducible refine (nat_Shl.calls _ _ t755 2097151 t758 _ ?side1 ?side2 A643.out).mono ?_
                                                (case side1 => repeat (first | exact (Kd.R_reads' HO757.out).2.2 | (with_reducible apply Kd.C_alloc) | (with_reducible apply Kd.C_drewN) | (with_reducible apply Kd.C_drew)))
                                                (case side2 => exact (Kd.R_reads' HO757.out).2.1)
                                                rintro e w665 ⟨v759, rfl, ho0, hb⟩
                                                refine ⟨_, rfl, ?_⟩
                                                have n0_ := Aside0.mk (Kd.R_elder' (by (with_reducible repeat (first | apply Kd.R_alloc | apply Kd.R_drewN | apply Kd.R_drew)); exact HO_20.out) (Kd.R_base ho0) hb)
                                                have n8_ := Aside0.mk (Kd.R_lower ho0 (below_size (by repeat (first | (with_reducible first | exact HB.out | apply below_alloc | apply pw_below_drewN | apply below_drew1) | exact HB.out))))
                                                have n9_ := Aside0.mk (Kd.C_below (by repeat (first | (with_reducible exact HR731.out) | (with_reducible apply Kd.C_alloc) | (with_reducible apply Kd.C_drewN) | (with_reducible apply Kd.C_drew) | exact HR731.out)) hb)
                                                have n10_ := Aside0.mk (Kd.C_below (by repeat (first | (with_reducible exact HR745.out) | (with_reducible apply Kd.C_alloc) | (with_reducible apply Kd.C_drewN) | (with_reducible apply Kd.C_drew) | exact HR745.out)) hb)
                                                have n11_ := Aside0.mk (below_step (by repeat (first | (with_reducible first | exact HB.out | apply below_alloc | apply pw_below_drewN | apply below_drew1) | exact HB.out)) hb)
                                                clear HO_20
                                                clear HR731
                                                clear HR745
                                                clear HB
                                                have HO_20 := n0_
                                                have HO760 := n8_
                                                have HR731 := n9_
                                                have HR745 := n10_
                                                have HB := n11_
                                                clear n0_ n8_ n9_ n10_ n11_
                                                (try clear hb)
                                                (try clear hb2)
                                                (try clear hk)
                                                (try clear hi)
                                                (try clear ho0)
                                                obtain ⟨Ao666, co666, eo666⟩ := Kd.R_slice HO760.out
                                                (first | subst eo666 | (injection eo666 with f1_ f2_ f3_; have f4_ := f1_.symm; have f5_ := f3_.symm; clear f1_ f2_ f3_; subst f4_; subst f5_))
                                                refine hK.out _ _ trivial (fun hHeld => ?_)
                                                clear hK K
                                                refine norm_ (a' := ?_) ?_ ?_
                                                rotate_left
                                                · show Act.put _ (some 357) _ = _
                                                  simp only [Act.put, List.setIfInBounds_toArray, List.set_cons_zero, List.set_cons_succ, i64_w, i32_w]
                                                  rfl
                                                refine pure_ (i := 37) (N := some 358) (v := ?_) (a' := ?_) #[true, true, true, true, true, true, true, true, true, true, true, true, true, true, true, true, true, true, true, true, true, true, true, true, true, true, true, true, true, true, true, true, true, true, true, true, true, true, false, false, false, false, false, false, false, false, false, false] rfl rfl (any_of HT_.out (by kernel_rfl)) (fun _ _ _ h => h) (Or.inl ⟨by rfl, ?_⟩) ?_ ?_
                                                rotate_left
                                                · intro w'
                                                  go_simp
                                                  with_reducible rfl
                                                rotate_left
                                                · simp only [Act.put, List.setIfInBounds_toArray, List.set_cons_zero, List.set_cons_succ, i64_w, i32_w]
                                                  rfl
                                                refine pure_ (i := 38) (N := some 359) (v := ?_) (a' := ?_) #[true, true, true, true, true, true, true, true, true, true, true, true, true, true, true, true, true, true, true, true, true, true, true, true, true, true, true, true, true, true, true, true, true, true, true, true, true, true, true, false, false, false, false, false, false, false, false, false] rfl rfl (any_of HT_.out (by kernel_rfl)) (fun _ _ _ h => h) (Or.inl ⟨by rfl, ?_⟩) ?_ ?_
                                                rotate_left
                                                · intro w'
                                                  go_simp
                                                  with_reducible rfl
                                                rotate_left
                                                · simp only [Act.put, List.setIfInBounds_toArray, List.set_cons_zero, List.set_cons_succ, i64_w, i32_w]
                                                  rfl
                                                refine pure_ (i := 39) (N := some 360) (v := ?_) (a' := ?_) #[true, true, true, true, true, true, true, true, true, true, true, true, true, true, true, true, true, true, true, true, true, true, true, true, true, true, true, true, true, true, true, true, true, true, true, true, true, true, true, true, false, false, false, false, false, false, false, false] rfl rfl (any_of HT_.out (by kernel_rfl)) (fun _ _ _ h => h) (Or.inl ⟨by rfl, ?_⟩) ?_ ?_
                                                rotate_left
                                                · intro w'
                                                  go_simp
                                                  with_reducible rfl
                                                rotate_left
                                                · simp only [Act.put, List.setIfInBounds_toArray, List.set_cons_zero, List.set_cons_succ, i64_w, i32_w]
                                                  rfl
                                                refine pure_ (i := 40) (N := some 361) (v := ?_) (a' := ?_) #[true, true, true, true, true, true, true, true, true, true, true, true, true, true, true, true, true, true, true, true, true, true, true, true, true, true, true, true, true, true, true, true, true, true, true, true, true, true, true, true, true, false, false, false, false, false, false, false] rfl rfl (any_of HT_.out (by kernel_rfl)) (fun _ _ _ h => h) (Or.inl ⟨by rfl, ?_⟩) ?_ ?_
                                                rotate_left
                                                · intro w'
                                                  go_simp
                                                  with_reducible rfl
                                                rotate_left
                                                · simp only [Act.put, List.setIfInBounds_toArray, List.set_cons_zero, List.set_cons_succ, i64_w, i32_w]
                                                  rfl
                                                refine one_ (i := 41) (N := some 362) #[true, true, true, true, true, true, true, true, true, true, true, true, true, true, true, true, true, true, true, true, true, true, true, true, true, true, true, true, true, true, true, true, true, true, true, true, true, true, true, true, true, true, false, false, false, false, false, false] rfl rfl (one_of HT_.out (by kernel_rfl)) (by decide) (fun K hK => ?_)
                                                refine value_ (w1 := ?_) (v := ?_) (by rfl) rfl ?_ ?_
                                                rotate_left 2
                                                · go_simp
                                                  constructor
                                                  · rfl
                                                  · rfl
                                                refine hK.out _ _ trivial (fun hHeld => ?_)
                                                clear hK K
                                                refine norm_ (a' := ?_) ?_ ?_
                                                rotate_left
                                                · show Act.put _ (some 362) _ = _
                                                  simp only [Act.put, List.setIfInBounds_toArray, List.set_cons_zero, List.set_cons_succ, i64_w, i32_w]
                                                  rfl
                                                refine one_ (i := 42) (N := some 363) #[true, true, true, true, true, true, true, true, true, true, true, true, true, true, true, true, true, true, true, true, true, true, true, true, true, true, true, true, true, true, true, true, true, true, true, true, true, true, true, true, true, true, true, false, false, false, false, false] rfl rfl (one_of HT_.out (by kernel_rfl)) (by decide) (fun K hK => ?_)
                                                refine goes_ Try.func27 (by kernel_rfl) rfl #[.slice (some ⟨_, 0, none⟩) 1 1] (by rfl) rfl rfl (by (try simp only [List.map_toArray, List.map_cons, List.map_nil]); first | done | rfl | (simp only [List.length_drop, List.length_take]; rfl)) ?_
                                                with_reducible refine (alidadelaw01_of_1.calls 1 t761 _ A645.out).mono ?_
                                                rintro e w667 ⟨v762, rfl, ho0, hb⟩
                                                refine ⟨_, rfl, ?_⟩
                                                have n0_ := Aside0.mk (Kd.R_elder' (by (with_reducible repeat (first | apply Kd.R_alloc | apply Kd.R_drewN | apply Kd.R_drew)); exact HO_20.out) (Kd.R_base ho0) hb)
                                                have n9_ := Aside0.mk (Kd.R_lower ho0 (below_size (by repeat (first | (with_reducible first | exact HB.out | apply below_alloc | apply pw_below_drewN | apply below_drew1) | exact HB.out))))
                                                have n10_ := Aside0.mk (Kd.C_below (by repeat (first | (with_reducible exact HR731.out) | (with_reducible apply Kd.C_alloc) | (with_reducible apply Kd.C_drewN) | (with_reducible apply Kd.C_drew) | exact HR731.out)) hb)
                                                have n11_ := Aside0.mk (Kd.C_below (by repeat (first | (with_reducible exact HR745.out) | (with_reducible apply Kd.C_alloc) | (with_reducible apply Kd.C_drewN) | (with_reducible apply Kd.C_drew) | exact HR745.out)) hb)
                                                have n12_ := Aside0.mk (below_step (by repeat (first | (with_reducible first | exact HB.out | apply below_alloc | apply pw_below_drewN | apply below_drew1) | exact HB.out)) hb)
                                                clear HO_20
                                                clear HR731
                                                clear HR745
                                                clear HB
                                                have HO_20 := n0_
                                                have HO763 := n9_
                                                have HR731 := n10_
                                                have HR745 := n11_
                                                have HB := n12_
                                                clear n0_ n9_ n10_ n11_ n12_
                                                (try clear hb)
                                                (try clear hb2)
                                                (try clear hk)
                                                (try clear hi)
                                                (try clear ho0)
                                                obtain ⟨Ao668, co668, eo668⟩ := Kd.R_slice HO763.out
                                                (first | subst eo668 | (injection eo668 with f1_ f2_ f3_; have f4_ := f1_.symm; have f5_ := f3_.symm; clear f1_ f2_ f3_; subst f4_; subst f5_))
                                                refine hK.out _ _ trivial (fun hHeld => ?_)
                                                clear hK K
                                                refine norm_ (a' := ?_) ?_ ?_
                                                rotate_left
                                                · show Act.put _ (some 363) _ = _
                                                  simp only [Act.put, List.setIfInBounds_toArray, List.set_cons_zero, List.set_cons_succ, i64_w, i32_w]
                                                  rfl
                                                refine one_ (i := 43) (N := some 364) #[true, true, true, true, true, true, true, true, true, true, true, true, true, true, true, true, true, true, true, true, true, true, true, true, true, true, true, true, true, true, true, true, true, true, true, true, true, true, true, true, true, true, true, true, false, false, false, false] rfl rfl (one_of HT_.out (by kernel_rfl)) (by decide) (fun K hK => ?_)
                                                refine goes_ Try.func16 (by kernel_rfl) rfl #[.slice Ao668 t761.length co668, .int .i64 2097152] (by rfl) rfl rfl (by (try simp only [List.map_toArray, List.map_cons, List.map_nil]); first | done | rfl | (simp only [List.length_drop, List.length_take]; rfl)) ?_
                                                with_reducible refine (nat_Shl.calls _ _ t761 2097152 t764 _ ?side1 ?side2 A646.out).mono ?_
                                                (case side1 => repeat (first | exact (Kd.R_reads' HO763.out).2.2 | (with_reducible apply Kd.C_alloc) | (with_reducible apply Kd.C_drewN) | (with_reducible apply Kd.C_drew)))
                                                (case side2 => exact (Kd.R_reads' HO763.out).2.1)
                                                rintro e w669 ⟨v765, rfl, ho0, hb⟩
                                                refine ⟨_, rfl, ?_⟩
                                                have n0_ := Aside0.mk (Kd.R_elder' (by (with_reducible repeat (first | apply Kd.R_alloc | apply Kd.R_drewN | apply Kd.R_drew)); exact HO_20.out) (Kd.R_base ho0) hb)
                                                have n10_ := Aside0.mk (Kd.R_lower ho0 (below_size (by repeat (first | (with_reducible first | exact HB.out | apply below_alloc | apply pw_below_drewN | apply below_drew1) | exact HB.out))))
                                                have n11_ := Aside0.mk (Kd.C_below (by repeat (first | (with_reducible exact HR731.out) | (with_reducible apply Kd.C_alloc) | (with_reducible apply Kd.C_drewN) | (with_reducible apply Kd.C_drew) | exact HR731.out)) hb)
                                                have n12_ := Aside0.mk (Kd.C_below (by repeat (first | (with_reducible exact HR745.out) | (with_reducible apply Kd.C_alloc) | (with_reducible apply Kd.C_drewN) | (with_reducible apply Kd.C_drew) | exact HR745.out)) hb)
                                                have n13_ := Aside0.mk (below_step (by repeat (first | (with_reducible first | exact HB.out | apply below_alloc | apply pw_below_drewN | apply below_drew1) | exact HB.out)) hb)
                                                clear HO_20
                                                clear HR731
                                                clear HR745
                                                clear HB
                                                have HO_20 := n0_
                                                have HO766 := n10_
                                                have HR731 := n11_
                                                have HR745 := n12_
                                                have HB := n13_
                                                clear n0_ n10_ n11_ n12_ n13_
                                                (try clear hb)
                                                (try clear hb2)
                                                (try clear hk)
                                                (try clear hi)
                                                (try clear ho0)
                                                obtain ⟨Ao670, co670, eo670⟩ := Kd.R_slice HO766.out
                                                (first | subst eo670 | (injection eo670 with f1_ f2_ f3_; have f4_ := f1_.symm; have f5_ := f3_.symm; clear f1_ f2_ f3_; subst f4_; subst f5_))
                                                refine hK.out _ _ trivial (fun hHeld => ?_)
                                                clear hK K
                                                refine norm_ (a' := ?_) ?_ ?_
                                                rotate_left
                                                · show Act.put _ (some 364) _ = _
                                                  simp only [Act.put, List.setIfInBounds_toArray, List.set_cons_zero, List.set_cons_succ, i64_w, i32_w]
                                                  rfl
                                                refine pure_ (i := 44) (N := some 365) (v := ?_) (a' := ?_) #[true, true, true, true, true, true, true, true, true, true, true, true, true, true, true, true, true, true, true, true, true, true, true, true, true, true, true, true, true, true, true, true, true, true, true, true, true, true, true, true, true, true, true, true, true, false, false, false] rfl rfl (any_of HT_.out (by kernel_rfl)) (fun _ _ _ h => h) (Or.inl ⟨by rfl, ?_⟩) ?_ ?_
                                                rotate_left
                                                · intro w'
                                                  go_simp
                                                  with_reducible rfl
                                                rotate_left
                                                · simp only [Act.put, List.setIfInBounds_toArray, List.set_cons_zero, List.set_cons_succ, i64_w, i32_w]
                                                  rfl
                                                refine pure_ (i := 45) (N := some 366) (v := ?_) (a' := ?_) #[true, true, true, true, true, true, true, true, true, true, true, true, true, true, true, true, true, true, true, true, true, true, true, true, true, true, true, true, true, true, true, true, true, true, true, true, true, true, true, true, true, true, true, true, true, true, false, false] rfl rfl (any_of HT_.out (by kernel_rfl)) (fun _ _ _ h => h) (Or.inl ⟨by rfl, ?_⟩) ?_ ?_
                                                rotate_left
                                                · intro w'
                                                  go_simp
                                                  with_reducible rfl
                                                rotate_left
                                                · simp only [Act.put, List.setIfInBounds_toArray, List.set_cons_zero, List.set_cons_succ, i64_w, i32_w]
                                                  rfl
                                                refine pure_ (i := 46) (N := some 367) (v := ?_) (a' := ?_) #[true, true, true, true, true, true, true, true, true, true, true, true, true, true, true, true, true, true, true, true, true, true, true, true, true, true, true, true, true, true, true, true, true, true, true, true, true, true, true, true, true, true, true, true, true, true, true, false] rfl rfl (any_of HT_.out (by kernel_rfl)) (fun _ _ _ h => h) (Or.inl ⟨by rfl, ?_⟩) ?_ ?_
                                                rotate_left
                                                · intro w'
                                                  go_simp
                                                  with_reducible rfl
                                                rotate_left
                                                · simp only [Act.put, List.setIfInBounds_toArray, List.set_cons_zero, List.set_cons_succ, i64_w, i32_w]
                                                  rfl
                                                refine pure_ (i := 47) (N := some 0) (v := ?_) (a' := ?_) #[true, true, true, true, true, true, true, true, true, true, true, true, true, true, true, true, true, true, true, true, true, true, true, true, true, true, true, true, true, true, true, true, true, true, true, true, true, true, true, true, true, true, true, true, true, true, true, true] rfl rfl (any_of HT_.out (by kernel_rfl)) (fun _ _ _ h => h) (Or.inl ⟨by rfl, ?_⟩) ?_ ?_
                                                rotate_left
                                                · intro w'
                                                  go_simp
                                                  with_reducible rfl
                                                rotate_left
                                                · simp only [Act.put, List.setIfInBounds_toArray, List.set_cons_zero, List.set_cons_succ, i64_w, i32_w]
                                                  rfl
                                                refine done_ (done_of HT_.out (by kernel_rfl)) ?_
                                                try go_wp2
                                                go_ret
                                                exact ⟨by first | rfl | (simp [errW_none, errW_some] <;> rfl) | (simp [*, errW_none, errW_some] <;> rfl), by repeat (first | (with_reducible first | exact HB.out | apply below_alloc | apply pw_below_drewN | apply below_drew1) | exact HB.out)⟩
                                              · rw [if_neg c644] at H
                                                have c644b0 : ((t758.length : Int) == 65536) = false := beq_eq_false_iff_ne.mpr c644
                                                have c644b1 : ((t758.length : Int) != 65536) = true := bne_iff_ne.mpr c644
                                                exact absurd H (by simp)
                                            · rw [if_neg c641] at H
                                              have c641b0 : ((t752.length : Int) == 0) = false := beq_eq_false_iff_ne.mpr c641
                                              have c641b1 : ((t752.length : Int) != 0) = true := bne_iff_ne.mpr c641
                                              have c641b2 : ¬ (t752 = []) := fun h_ => c641 (by rw [h_]; rfl)
                                              exact absurd H (by simp)
                                          · rw [if_neg c639] at H
                                            have c639b0 : ((t749.length : Int) == 65536) = false := beq_eq_false_iff_ne.mpr c639
                                            have c639b1 : ((t749.length : Int) != 65536) = true := bne_iff_ne.mpr c639
                                            exact absurd H (by simp)
                                        · rw [if_neg c636] at H
                                          exact absurd H (by simp)
                                      · rw [if_neg c635] at H
                                        have c635b0 : ((t739.length : Int) == 0) = false := beq_eq_false_iff_ne.mpr c635
                                        have c635b1 : ((t739.length : Int) != 0) = true := bne_iff_ne.mpr c635
                                        have c635b2 : ¬ (t739 = []) := fun h_ => c635 (by rw [h_]; rfl)
                                        exact absurd H (by simp)
                                  · rw [if_neg c630] at H
                                    exact absurd H (by simp)
                                · rw [if_neg c629] at H
                                  exact absurd H (by simp)
                              · replace c628 := Bool.eq_false_iff.mpr c628
                                subst c628
                                rw [if_neg (show ¬ (false = true) by decide)] at H
                                exact absurd H (by simp)
                      · rw [if_neg c618] at H
                        exact absurd H (by simp)
  · replace c2 := Bool.eq_false_iff.mpr c2
    subst c2
    rw [if_neg (show ¬ (false = true) by decide)] at H
    exact absurd H (by simp)

/-- THE ONE PURE STATEMENT of alidadelaw01_NatNames: yours. -/
def alidadelaw01_NatNames.Pure : Prop := ∃ k, alidadelaw01_NatNames.f k  = some true
theorem alidadelaw01_NatNames.walk (P : alidadelaw01_NatNames.Pure)  (w : World)  :
    Calls Try.prog 9 #[] w fun e w' => e = .returned (.bool true) ∧ Below w.heap.size w w' := by
  obtain ⟨k, h⟩ := P  
  refine (alidadelaw01_NatNames.calls k  true w h).mono ?_
  rintro e w' ⟨rfl, hd⟩
  exact ⟨rfl, hd⟩

end Go.Proofs.Ythdhpihfbggbbaa.PNat
