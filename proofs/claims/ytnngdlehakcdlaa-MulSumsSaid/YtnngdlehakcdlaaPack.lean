/- A list of rows laid down where it is wanted: it reads as the rows that it names. -/
import Derived.Test.YtnngdlehakcdlaaWMore
namespace Go.Proofs.YtnngdlehakcdlaaV
open Go.RowKit Go.Proofs.YtnngdlehakcdlaaW.PrintWords Go.Proofs.YtnngdlehakcdlaaW.PrintLast Go.Proofs.YtnngdlehakcdlaaW.PrintMore
theorem pack_cell (W : World) (cs : Array Value) (E : TypeId) (j : Nat) (v : Value) (h : cs[j]? = some v) : (W.alloc (.cells cs E)).cell? ((⟨W.heap.size, 0, none⟩ : Addr).add j) = some v := by
  have h0 : (W.alloc (.cells cs E)).heap[W.heap.size]? = some (.cells cs E) := heap_alloc_new W _
  have e : ((⟨W.heap.size, 0, none⟩ : Addr).add j) = ⟨W.heap.size, j, none⟩ := by
    unfold Addr.add
    by_cases hj : j = 0
    · subst hj; simp
    · simp [hj]
  rw [e]
  unfold World.cell?
  simp only [h0]
  simpa using h
theorem pack_C {e E : TypeId} {W : World} {b : Nat} (ps : List (Option Addr × Nat × List Int)) (hb : b = W.heap.size) (h : ∀ p ∈ ps, p.2.2.length ≤ p.2.1 ∧ Kd.C (Kd.int .u32) W p.1 p.2.2.length p.2.2) (hl : ps.length ≤ 1000) :
    Kd.C (Kd.slice e (Kd.int .u32)) (W.alloc (.cells (ps.map fun p => Value.slice p.1 p.2.2.length p.2.1).toArray E)) (some ⟨b, 0, none⟩) (ps.map (·.2.2)).length (ps.map (·.2.2)) := by
  subst hb
  refine ⟨rfl, by rw [List.length_map]; omega, fun _ => ⟨_, rfl, fun j p hj => ?_⟩⟩
  rw [List.getElem?_map] at hj
  obtain ⟨q, hq, rfl⟩ := Option.map_eq_some_iff.1 hj
  obtain ⟨h1, h2⟩ := h q (List.mem_of_getElem? hq)
  refine ⟨[.slice q.1 q.2.2.length q.2.1], rfl, ⟨q.1, q.2.1, rfl, h1, Kd.C_alloc h2 _⟩, fun i u hu => ?_⟩
  have hi : i = 0 := by
    rcases i with _ | i
    · rfl
    · simp at hu
  subst hi
  have hu' : Value.slice q.1 q.2.2.length q.2.1 = u := by simpa using hu
  subst hu'
  refine pack_cell W _ E (j * 1 + 0) _ ?_
  simp [hq]
end Go.Proofs.YtnngdlehakcdlaaV
