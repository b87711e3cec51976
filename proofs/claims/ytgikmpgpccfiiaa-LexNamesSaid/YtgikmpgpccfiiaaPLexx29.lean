-- A text of the seat Ytgikmpgpccfiiaa, written by a program of this session (drive.py).
import Derived.Test.YtgikmpgpccfiiaaPLexx0
import Derived.Shelf.Strings.OnBuilder
namespace Go.Proofs.Ytgikmpgpccfiiaa.PLex
open Go.RowKit Go.Proofs.YtgikmpgpccfiiaaW.PrintWords Go.Proofs.YtgikmpgpccfiiaaW.PrintLast Go.Proofs.YtgikmpgpccfiiaaW.PrintMore
attribute [local go_sem] max2_int min2_int max_two min_two max_three min_three max_four min_four   -- for this text's walks alone
set_option linter.unusedVariables false
set_option linter.unusedSimpArgs false

-- BY HAND: strings.Join: function 54
-- IMPORT Derived.Shelf.Strings.OnBuilder
def joinRen : Go.Shelf.Ren := ⟨fun | 156 => 54 | 165 => 68 | 166 => 69 | 169 => 61 | 240 => 78 | 241 => 79 | 276 => 84 | 277 => 85 | n => n, fun | 31 => 37 | 9 => 9 | 3 => 3 | 4 => 4 | 0 => 0 | 20 => 20 | 72 => 103 | 76 => 112 | 70 => 101 | 37 => 36 | 75 => 111 | 127 => 120 | 164 => 126 | 5 => 5 | 80 => 105 | n => n, fun | n => n⟩
theorem joinLays : Go.Proofs.Lays.n156 Try.prog joinRen := {
  mixed := by kernel_rfl
  f156 := Try.func54.trans (congrArg some (by kernel_rfl))
  f165 := Try.func68.trans (congrArg some (by kernel_rfl))
  f166 := Try.func69.trans (congrArg some (by kernel_rfl))
  f169 := Try.func61.trans (congrArg some (by kernel_rfl))
  f240 := Try.func78.trans (congrArg some (by kernel_rfl))
  f241 := Try.func79.trans (congrArg some (by kernel_rfl))
  f276 := Try.func84.trans (congrArg some (by kernel_rfl))
  f277 := Try.func85.trans (congrArg some (by kernel_rfl))
  t0 := Try.underlying0
  a0 := Try.isAgg0
  z0 := Try.sizeOf0
  v0 := Try.zeroValue0
  t3 := Try.underlying3
  a3 := Try.isAgg3
  z3 := Try.sizeOf3
  v3 := Try.zeroValue3
  t4 := Try.underlying4
  a4 := Try.isAgg4
  z4 := Try.sizeOf4
  v4 := Try.zeroValue4
  t9 := Try.underlying9
  a9 := Try.isAgg9
  z9 := Try.sizeOf9
  v9 := Try.zeroValue9
  t20 := Try.underlying20
  a20 := Try.isAgg20
  z20 := Try.sizeOf20
  v20 := Try.zeroValue20
  t31 := Try.underlying37
  a31 := Try.isAgg37
  z31 := Try.sizeOf37
  v31 := Try.zeroValue37
  t37 := Try.underlying36
  a37 := Try.isAgg36
  z37 := Try.sizeOf36
  v37 := Try.zeroValue36
  t70 := Try.underlying101
  a70 := Try.isAgg101
  z70 := Try.sizeOf101
  v70 := Try.zeroValue101
  t72 := Try.underlying103
  a72 := Try.isAgg103
  z72 := Try.sizeOf103
  v72 := Try.zeroValue103
  t75 := Try.underlying111
  a75 := Try.isAgg111
  z75 := Try.sizeOf111
  v75 := Try.zeroValue111
  t76 := Try.underlying112
  a76 := Try.isAgg112
  z76 := Try.sizeOf112
  v76 := Try.zeroValue112
  t127 := Try.underlying120
  a127 := Try.isAgg120
  z127 := Try.sizeOf120
  v127 := Try.zeroValue120
  t164 := Try.underlying126
  a164 := Try.isAgg126
  z164 := Try.sizeOf126
  v164 := Try.zeroValue126 }
theorem joinExtra : Go.Proofs.Builder.Extra Try.prog joinRen := {
  sizeBuilder := by kernel_rfl
  liesBuilder := by kernel_rfl
  t5 := Try.underlying5
  a5 := Try.isAgg5
  z5 := Try.sizeOf5
  v5 := Try.zeroValue5
  infoByte := by kernel_rfl
  cellsByte := by kernel_rfl
  sizeByte := by kernel_rfl
  neB5 := by decide }
def strings_Join.f (a0 : List ByteArray) (a1 : ByteArray) : Option ByteArray :=
  if a0.length ≤ 140737488355328 ∧ (Go.Lib.join (a0.map (fun x => x.data.toList)) a1.data.toList).length ≤ 140737488355328 then some ⟨(Go.Lib.join (a0.map (fun x => x.data.toList)) a1.data.toList).toArray⟩ else none
theorem strings_Join.calls (A0 : Option Addr) (c0 : Nat) (l0 : List ByteArray) (a1 : ByteArray) (r : ByteArray) (w : World) (hr0 : Kd.C Kd.string w A0 l0.length l0) (hc0 : l0.length ≤ c0) (h : strings_Join.f l0 a1 = some r) :
    Calls Try.prog 54 #[.slice A0 l0.length c0, .string a1] w fun e w' => e = .returned (.string r) ∧ Below w.heap.size w w' := by
  unfold strings_Join.f at h
  by_cases hc : l0.length ≤ 140737488355328 ∧ (Go.Lib.join (l0.map (fun x => x.data.toList)) a1.data.toList).length ≤ 140737488355328
  · rw [if_pos hc] at h
    obtain rfl := Option.some.inj h
    cases l0 with
    | nil =>
      refine (Go.Proofs.Any.strings_Join_none joinLays joinExtra A0 c0 a1 w).mono ?_
      rintro e w' ⟨rfl, rfl⟩
      exact ⟨rfl, Below.refl _ _⟩
    | cons x l =>
      obtain ⟨ad, c, rfl, hl, hk, hcell⟩ := Kd.C_get hr0 ByteArray.empty 0 (Int.le_refl _) (by rw [List.length_cons]; omega)
      have hx : w.cell? ad = some (.string x) := by
        have hk' : c = [Value.string x] := hk
        have := hcell 0 (.string x) (by rw [hk']; rfl)
        exact this
      obtain ⟨bk, o, sp⟩ := ad
      have hsp : sp = none := by
        cases sp with
        | none => rfl
        | some s =>
          exfalso
          unfold World.cell? at hx
          split at hx <;> simp at hx
      subst hsp
      refine (Go.Proofs.Any.strings_Join joinLays joinExtra bk o c0 (x :: l) a1 w ?_ ?_ hc.1 hc0 hc.2).mono ?_
      · intro j y hj
        obtain ⟨hlt, hy⟩ := List.getElem?_eq_some_iff.1 hj
        obtain ⟨ad, c, e, hl, hk, hcell⟩ := Kd.C_get hr0 ByteArray.empty (j : Int) (by omega) (by omega)
        injection e with e
        subst e
        have hk' : c = [Value.string y] := by
          have : c = [Value.string ((x :: l).getD j ByteArray.empty)] := hk
          rw [this, List.getD_eq_getElem?_getD, hj]; rfl
        have := hcell 0 (.string y) (by rw [hk']; rfl)
        have e2 : (Addr.add ⟨bk, o, none⟩ ((j : Int).toNat * Kd.string.sz + 0)) = ⟨bk, o + j, none⟩ := by
          have e3 : (j : Int).toNat * Kd.string.sz + 0 = j := by
            show (j : Int).toNat * 1 + 0 = j
            rw [Int.toNat_natCast, Nat.mul_one, Nat.add_zero]
          rw [e3]
          unfold Addr.add
          by_cases h0 : j = 0
          · rw [if_pos h0, h0, Nat.add_zero]
          · rw [if_neg h0]
        rw [e2] at this
        exact this
      · unfold World.cell? at hx
        rcases Nat.lt_or_ge bk w.heap.size with hb | hb
        · exact hb
        · exfalso
          have : w.heap[bk]? = none := Array.getElem?_eq_none hb
          simp only [this] at hx
          cases hx
      · rintro e w' ⟨rfl, hb⟩
        exact ⟨rfl, hb⟩
  · rw [if_neg hc] at h
    cases h

end Go.Proofs.Ytgikmpgpccfiiaa.PLex
