/- The law MulSums: the sum of products of any two lists of numbers is the document's; any two lists of rows. No condition. -/
import Derived.Test.YtnngdlehakcdlaaRows
import Derived.Test.YtnngdlehakcdlaaPMulx27
import Derived.Test.YtnngdlehakcdlaaPureMulSums
import Derived.WalkKit
import Derived.ProofKit
import Derived.OpenShut
import Derived.ShutString
import Derived.ChangeOld
import Derived.Below
import Derived.SizedLaws
import Derived.Deep.Matrix
namespace Go.Proofs.Ytnngdlehakcdlaa.mulSums
open Go.ChangeShapes Go.WideShapes Go.ChangeAt Go.RowKit
open Go.ChangeMaps (open_string shut_string)
set_option linter.unusedVariables false
theorem own : ownKnob Try.prog.godebug = none := by kernel_rfl
theorem laidOut : laidOutB Try.prog = true := by kernel_rfl
open Go.Proofs.YtnngdlehakcdlaaW.PrintWords Go.Proofs.YtnngdlehakcdlaaW.PrintLast
/-- what a list of rows reads as -/
structure IsRows (w : World) (a : Option Addr) (len cap : Nat) (xs : List (List Int)) : Prop where
  len_eq : xs.length = len
  fits : len ≤ cap
  reads : Kd.C (Kd.slice 23 (Kd.int .u32)) w a len xs
  fine : ∀ r ∈ xs, Go.Proofs.YtnngdlehakcdlaaV.ok r = true
theorem rows_of {H : Type} {enc : TypeId × Value → H} {W : World} {a : Option Addr} {len cap : Nat} {x : DataW H × List MemPlace} {fuel : Nat} (h : DataW.trod enc Try.prog W 0 (fun _ => true) true fuel 33 [.slice a len cap] = some x) : ∃ xs, IsRows W a len cap xs := by
  rcases Go.Deep.open_int_rows Try.underlying33 Try.underlying22 Try.underlying23 (by kernel_rfl) (by kernel_rfl) h with ⟨hcs, _⟩ | ⟨b, l, c, A, Ln, C, Z, hcs, _, hl, hm, _, hx⟩
  · simp at hcs
    obtain ⟨rfl, rfl, rfl⟩ := hcs
    exact ⟨[], rfl, Nat.le_refl _, Kd.C_nil _ _, fun r hr => by cases hr⟩
  · simp at hcs
    obtain ⟨rfl, rfl, rfl⟩ := hcs
    have hmx : cap ≤ 9223372036854775807 := Nat.le_trans hm (by decide)
    refine ⟨(List.range len).map fun r => (Z r).take (Ln r), by rw [List.length_map, List.length_range], hl, ⟨by rw [List.length_map, List.length_range], by omega, fun _ => ⟨b, rfl, fun j p hj => ?_⟩⟩, fun r hr => ?_⟩
    · rw [List.getElem?_map] at hj
      obtain ⟨q, hq, rfl⟩ := Option.map_eq_some_iff.1 hj
      have hlt : j < len := by
        have := (List.getElem?_eq_some_iff.1 hq).1
        rwa [List.length_range] at this
      have hqj : q = j := by
        rw [List.getElem?_range hlt] at hq
        exact (Option.some.inj hq).symm
      subst hqj
      obtain ⟨r1, r2, r3, r4, r5, r6, r7⟩ := hx q (by omega)
      have htl : ((Z q).take (Ln q)).length = Ln q := by rw [List.length_take]; omega
      refine ⟨[.slice (A q) (Ln q) (C q)], rfl, ⟨A q, C q, by rw [htl], by rw [htl]; exact r2, ?_⟩, fun i u hu => ?_⟩
      · rw [htl]
        refine Kd.C_of_reads (d := (0 : Int)) (h1 := fun _ => rfl) ⟨htl, by have : C q ≤ 9223372036854775807 := Nat.le_trans r3 (by decide); omega, fun h0 => ?_⟩
        cases hA : A q with
        | none => have := r6 hA; omega
        | some ad =>
          refine ⟨ad, rfl, fun j hj => ?_⟩
          rw [(r7 ad hA).2 j (by omega)]
          congr 2
          rw [List.getD_eq_getElem?_getD, List.getD_eq_getElem?_getD, List.getElem?_take_of_lt hj]
      · have hi : i = 0 := by
          rcases i with _ | i
          · rfl
          · simp at hu
        subst hi
        have hu' : Value.slice (A q) (Ln q) (C q) = u := by simpa using hu
        subst hu'
        show W.cell? (b.add (q * 1 + 0)) = _
        rw [Nat.mul_one, Nat.add_zero]
        exact r1
    · obtain ⟨q, hq, rfl⟩ := List.mem_map.1 hr
      have hlt := List.mem_range.1 hq
      exact Go.Proofs.YtnngdlehakcdlaaV.ok_take (Pure.ok_of_wf (hx q (by omega)).2.2.2.2.1) _
set_option maxRecDepth 100000 in
theorem lifted (os : Os) (started : os.Started) (H : Type) (enc : TypeId × Value → H) :
    ReturnsInHanded {} Try.checked os 4 .any (Rows.mulSumsSpec.pre6 enc Try.prog Try.f4 Rows.mulSumsRow.domain false) (Rows.mulSumsSpec.post enc Try.prog Try.f4 false true false false) := by
  refine returnsInHanded_of_change_sized (C := Try.checked) own started (by kernel_rfl) Try.func4
    (ChangeSpec.witness6 (enc := enc) (C := Try.checked) false ⟨#[], #[.slice none 0 0, .slice none 0 0], []⟩ 8 (by kernel_rfl) (by kernel_rfl) (by kernel_rfl) (by kernel_rfl)) ?_
  intro W base args ds gs before hval0 hW hcnd hsz0 _
  have hval : ∀ (j : Nat) t v, Try.f4.params[j]? = some t → args[j]? = some v → Value.okWide Try.prog W .any base t v := hval0
  have hW' := hW
  obtain ⟨p, q, hA0, hV, rfl, hfz, hnd⟩ := hW
  have hA : DataW.TrodAll enc Try.prog W 0 (fun _ => true) true Try.f4.params.toList args.toList ds p := hA0
  rw [Try.params4] at hA hval
  obtain ⟨v0, vs0, d0, ds0, p0, q0, hargs, rfl, rfl, h0, r0⟩ := trodAll_cons hA
  obtain ⟨v1, vs1, d1, ds1, p1, q1, rfl, rfl, rfl, h1, r1⟩ := trodAll_cons r0
  obtain ⟨rfl, rfl, rfl⟩ := trodAll_nil r1
  obtain rfl : args = #[v0, v1] := by cases args; simp_all
  obtain ⟨rfl, rfl⟩ := trodVars_none hV
  obtain ⟨a0, len0, cap0, rfl⟩ := okWide_slice Try.underlying33 (hval 0 33 v0 rfl rfl)
  have k0 := h0
  have lt0 : ∀ x ∈ p0, x.block < W.heap.size := by obtain ⟨m, hm⟩ := k0; exact DataW.trod_lt m _ _ _ hm
  obtain ⟨z0, w0⟩ : ∃ zs, IsRows W a0 len0 cap0 zs := by
    obtain ⟨fuel, hf⟩ := h0
    exact rows_of hf
  obtain ⟨a1, len1, cap1, rfl⟩ := okWide_slice Try.underlying33 (hval 1 33 v1 rfl rfl)
  have k1 := h1
  have lt1 : ∀ x ∈ p1, x.block < W.heap.size := by obtain ⟨m, hm⟩ := k1; exact DataW.trod_lt m _ _ _ hm
  obtain ⟨z1, w1⟩ : ∃ zs, IsRows W a1 len1 cap1 zs := by
    obtain ⟨fuel, hf⟩ := h1
    exact rows_of hf
  clear hA0 hval0 hsz0
  obtain ⟨k, hk⟩ := Pure.MulSums z0 z1 w0.fine w1.fine
  obtain ⟨n0, f0, c0, _⟩ := w0
  obtain ⟨n1, f1, c1, _⟩ := w1
  subst n0
  subst n1
  refine (PMul.alidadelaw02_MulSums.calls k _ _ z0 _ _ z1 true W c0 f0 c1 f1 hk).mono fun e W' ⟨he, bel⟩ => ?_
  subst he
  exact ⟨_, rfl, _, _, _, [], _, [], hW', trodAll_mk1 (shut_bool Try.underlying4 _), (trodAll_cons_mk (Below.trod laidOut (by kernel_rfl) (of_decide_eq_true (by kernel_rfl)) k0 bel lt0) (trodAll_cons_mk (Below.trod laidOut (by kernel_rfl) (of_decide_eq_true (by kernel_rfl)) k1 bel lt1) trodAll_mk0)), rfl, bel.frame _, fun h => by cases h⟩
theorem over : Rows.mulSumsRow.holds Try.pinned (OpenSpec.ofChange Rows.mulSumsSpec) :=
  OpenClaim.holds_of_wide 4 Try.f4 rfl rfl rfl rfl rfl rfl rfl ⟨rfl, rfl, rfl, rfl, rfl⟩ rfl rfl rfl rfl rfl (by kernel_rfl) Try.func4 (by kernel_rfl)
    (of_decide_eq_true (by kernel_rfl)) (by unfold Func.isWrapper; first | (rw [if_pos (by decide +kernel)]; kernel_rfl) | (rw [if_neg (by decide +kernel)]; exact ⟨rfl, rfl⟩))
    (fun os started H enc _ => lifted os started H enc)
theorem proved : Rows.MulSumsSaid := over
#print axioms proved
end Go.Proofs.Ytnngdlehakcdlaa.mulSums
namespace Go.Proofs.Ytnngdlehakcdlaa
/-- The row, under a short name, for the claim. -/
theorem mulSums_holds : Rows.MulSumsSaid := mulSums.proved
end Go.Proofs.Ytnngdlehakcdlaa
