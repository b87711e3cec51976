/- The row of SexpBack: a list of nodes that came in. -/
import Derived.Test.YtgikmpgpccfiiaaRows
import Derived.Test.YtgikmpgpccfiiaaPSxpx39
import Derived.Test.YtgikmpgpccfiiaaPureSexpBack
import Derived.Test.YtgikmpgpccfiiaaSxOpen
import Derived.WalkKit
import Derived.ProofKit
import Derived.OpenShut
import Derived.ShutString
import Derived.ChangeOld
import Derived.Below
import Derived.SizedLaws
namespace Go.Proofs.Ytgikmpgpccfiiaa.sexpBack
open Go.ChangeShapes Go.WideShapes Go.ChangeAt Go.RowKit
open Go.ChangeMaps (open_string shut_string)
set_option linter.unusedVariables false
theorem own : ownKnob Try.prog.godebug = none := by kernel_rfl
theorem laidOut : laidOutB Try.prog = true := by kernel_rfl
set_option maxRecDepth 100000 in
theorem lifted (os : Os) (started : os.Started) (H : Type) (enc : TypeId × Value → H) :
    ReturnsInHanded {} Try.checked os 11 .any (Rows.sexpBackSpec.pre6 enc Try.prog Try.f11 Rows.sexpBackRow.domain false) (Rows.sexpBackSpec.post enc Try.prog Try.f11 false true false false) := by
  refine returnsInHanded_of_change_sized (C := Try.checked) own started (by kernel_rfl) Try.func11
    (ChangeSpec.witness6 (enc := enc) (C := Try.checked) false ⟨#[], #[.slice none 0 0], []⟩ 8 (by kernel_rfl) (by kernel_rfl) (by kernel_rfl) (by kernel_rfl)) ?_
  intro W base args ds gs before hval0 hW hcnd hsz0 _
  have hval : ∀ (j : Nat) t v, Try.f11.params[j]? = some t → args[j]? = some v → Value.okWide Try.prog W .any base t v := hval0
  have hW' := hW
  obtain ⟨p, q, hA0, hV, rfl, hfz, hnd⟩ := hW
  have hA : DataW.TrodAll enc Try.prog W 0 (fun _ => true) true Try.f11.params.toList args.toList ds p := hA0
  rw [Try.params11] at hA hval
  obtain ⟨v0, vs0, d0, ds0, p0, q0, hargs, rfl, rfl, h0, r0⟩ := trodAll_cons hA
  obtain ⟨rfl, rfl, rfl⟩ := trodAll_nil r0
  obtain rfl : args = #[v0] := by cases args; simp_all
  obtain ⟨rfl, rfl⟩ := trodVars_none hV
  obtain ⟨a0, len0, cap0, rfl⟩ := okWide_slice Try.underlying46 (hval 0 46 v0 rfl rfl)
  have k0 := h0
  have lt0 : ∀ x ∈ p0, x.block < W.heap.size := by obtain ⟨m, hm⟩ := k0; exact DataW.trod_lt m _ _ _ hm
  obtain ⟨l, rfl, hl, hC, hO⟩ : ∃ l : List PSxp.S51, len0 = l.length ∧ l.length ≤ cap0 ∧ YtgikmpgpccfiiaaW.PrintWords.Kd.C PSxp.k51 W a0 l.length l ∧ YtgikmpgpccfiiaaT.Okl l := by
    obtain ⟨fuel, hf⟩ := h0
    obtain ⟨A, l, c, hcs, g1, g2, g3⟩ := YtgikmpgpccfiiaaT.open_nodes fuel _ _ hf
    simp [Value.cells] at hcs
    obtain ⟨rfl, rfl, rfl⟩ := hcs
    exact ⟨l, rfl, g1, g2, g3⟩
  clear hA0 hval0 hsz0
  obtain ⟨k, hk⟩ := Pure.SexpBack hO
  refine (PSxp.alidadelaw13_SexpBack.calls k a0 cap0 l true W hC hl hk).mono fun e W' ⟨he, bel⟩ => ?_
  subst he
  exact ⟨_, rfl, _, _, _, [], _, [], hW', trodAll_mk1 (shut_bool Try.underlying4 _), (trodAll_cons_mk (Below.trod laidOut (by kernel_rfl) (of_decide_eq_true (by kernel_rfl)) k0 bel lt0) trodAll_mk0), rfl, bel.frame _, fun h => by cases h⟩
theorem over : Rows.sexpBackRow.holds Try.pinned (OpenSpec.ofChange Rows.sexpBackSpec) :=
  OpenClaim.holds_of_wide 11 Try.f11 rfl rfl rfl rfl rfl rfl rfl ⟨rfl, rfl, rfl, rfl, rfl⟩ rfl rfl rfl rfl rfl (by kernel_rfl) Try.func11 (by kernel_rfl)
    (of_decide_eq_true (by kernel_rfl)) (by unfold Func.isWrapper; first | (rw [if_pos (by decide +kernel)]; kernel_rfl) | (rw [if_neg (by decide +kernel)]; exact ⟨rfl, rfl⟩))
    (fun os started H enc _ => lifted os started H enc)
theorem proved : Rows.SexpBackSaid := over
#print axioms proved
end Go.Proofs.Ytgikmpgpccfiiaa.sexpBack
namespace Go.Proofs.Ytgikmpgpccfiiaa
/-- The row, under a short name, for the claim. -/
theorem sexpBack_holds : Rows.SexpBackSaid := sexpBack.proved
end Go.Proofs.Ytgikmpgpccfiiaa
