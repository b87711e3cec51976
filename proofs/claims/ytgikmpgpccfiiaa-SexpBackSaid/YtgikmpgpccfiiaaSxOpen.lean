/- A list of nodes that came in: what it reads as. -/
import Derived.Test.YtgikmpgpccfiiaaSxBack
import Derived.ChangeArms
import Derived.DataElems
import Derived.OpenShut
namespace Go.Proofs.YtgikmpgpccfiiaaT
open Go.RowKit Go.Proofs.Ytgikmpgpccfiiaa.PSxp Go.Proofs.YtgikmpgpccfiiaaW.PrintWords Go.Proofs.YtgikmpgpccfiiaaW.PrintLast
set_option linter.unusedVariables false
theorem Okl.of : ∀ (l : List S51), (∀ x ∈ l, x.f2.size ≤ 9223372036854775807 ∧ Okl x.f3) → Okl l
  | [], _ => .nil
  | x :: r, h => .cons (h x (List.mem_cons_self ..)).1 (h x (List.mem_cons_self ..)).2 (Okl.of r (fun y hy => h y (List.mem_cons_of_mem _ hy)))
theorem cells_get {w : World} {a : Addr} {n : Nat} {cs : List Value} (h : w.cells? 0 a n = some cs) (hl : cs.length = n) : ∀ j u, cs[j]? = some u → w.cell? (a.add j) = some u := by
  intro j u hj
  have hjl : j < cs.length := by
    rcases Nat.lt_or_ge j cs.length with c | c
    · exact c
    · rw [List.getElem?_eq_none c] at hj; cases hj
  unfold World.cells? at h
  rw [if_pos (Nat.zero_le _)] at h
  have := mapM_some_get h j j (by rw [List.getElem?_range (by omega)])
  rw [this, hj]
theorem four {cs : List Value} (h : cs.length = 4) : ∃ c0 c1 c2 c3, cs = [c0, c1, c2, c3] := by
  match cs, h with
  | [a, b, c, d], _ => exact ⟨a, b, c, d, rfl⟩
theorem cellsOf51 : Try.prog.cellsOf 51 = 4 := by kernel_rfl
theorem cellsOf46 : Try.prog.cellsOf 46 = 1 := by kernel_rfl
theorem cellsOf9 : Try.prog.cellsOf 9 = 1 := by kernel_rfl
theorem cellsOf5 : Try.prog.cellsOf 5 = 1 := by kernel_rfl
theorem cellsOf3 : Try.prog.cellsOf 3 = 1 := by kernel_rfl
theorem maxLen_eq : maxLen = 9223372036854775807 := by decide
theorem got {α : Type} {xs : List α} {i : Nat} (h : i < xs.length) : xs[i]? = some (xs[i]) := List.getElem?_eq_getElem h
theorem open_nodes {H : Type} {enc : TypeId × Value → H} {W : World} : ∀ (fuel : Nat) (cs : List Value) (x : DataW H × List MemPlace), DataW.trod enc Try.prog W 0 (fun _ => true) true fuel 46 cs = some x →
    ∃ (A : Option Addr) (l : List S51) (c : Nat), cs = [.slice A l.length c] ∧ l.length ≤ c ∧ Kd.C k51 W A l.length l ∧ Okl l := by
  intro fuel
  induction fuel using Nat.strongRecOn with
  | _ fuel ih =>
  intro cs x h
  rcases DataW.trod_slice Try.underlying46 h with ⟨rfl, _⟩ | ⟨a, len, cap, elems, rest, n, hfu, rfl, _, hb, hl, hc, he, hel, _⟩
  · exact ⟨none, [], 0, rfl, Nat.le_refl _, ⟨rfl, by simp, fun h => absurd h (by simp)⟩, .nil⟩
  · have each : ∀ i, i < len → ∃ y : S51, (∃ cs' : List Value, cs'.length = 4 ∧ k51.K W y cs' ∧ ∀ j u, cs'[j]? = some u → W.cell? (a.add (i * 4 + j)) = some u) ∧ y.f2.size ≤ 9223372036854775807 ∧ Okl y.f3 := by
      intro i hi
      have h1 := hel i hi
      rw [got (by omega), cellsOf51] at h1
      obtain ⟨cs', hcs, ht⟩ := Option.bind_eq_some_iff.1 h1
      obtain ⟨xs, m, hm, _, hlen, hxs, hf⟩ := DataW.trod_struct Try.underlying51 ht
      rw [cellsOf51] at hlen
      have hxs4 : xs.length = 4 := hxs
      have hcell := cells_get hcs hlen
      obtain ⟨c0, c1, c2, c3, rfl⟩ := four hlen
      have t0 : DataW.trod enc Try.prog W 0 (fun _ => true) true m 5 (([c0, c1, c2, c3].drop 0).take (Try.prog.cellsOf 5)) = xs[0]? := hf 0 _ rfl
      have t1 : DataW.trod enc Try.prog W 0 (fun _ => true) true m 3 (([c0, c1, c2, c3].drop 1).take (Try.prog.cellsOf 3)) = xs[1]? := hf 1 _ rfl
      have t2 : DataW.trod enc Try.prog W 0 (fun _ => true) true m 9 (([c0, c1, c2, c3].drop 2).take (Try.prog.cellsOf 9)) = xs[2]? := hf 2 _ rfl
      have t3 : DataW.trod enc Try.prog W 0 (fun _ => true) true m 46 (([c0, c1, c2, c3].drop 3).take (Try.prog.cellsOf 46)) = xs[3]? := hf 3 _ rfl
      rw [got (by omega)] at t0 t1 t2 t3
      rw [cellsOf5] at t0
      rw [cellsOf3] at t1
      rw [cellsOf9] at t2
      rw [cellsOf46] at t3
      obtain ⟨n0, e0, _, _⟩ := DataW.trod_int Try.underlying5 t0
      obtain ⟨n1, e1, _, _⟩ := DataW.trod_int Try.underlying3 t1
      obtain ⟨s2, e2, _, z2⟩ := DataW.trod_string Try.underlying9 t2
      obtain ⟨A3, l3, d3, e3, g1, g2, g3⟩ := ih m (by omega) _ _ t3
      have e0' : c0 = .int .u8 n0 := by simpa using e0
      have e1' : c1 = .int .i64 n1 := by simpa using e1
      have e2' : c2 = .string s2 := by simpa using e2
      have e3' : c3 = .slice A3 l3.length d3 := by simpa using e3
      subst e0' e1' e2' e3'
      rw [maxLen_eq] at z2
      refine ⟨⟨n0, n1, s2, l3⟩, ⟨_, rfl, k51_mk W ⟨n0, n1, s2, l3⟩ g1 g2, fun j u hj => ?_⟩, z2, g3⟩
      rw [← Addr.add_add]
      exact hcell j u hj
    obtain ⟨f, hf⟩ : ∃ f : Nat → S51, ∀ i, i < len → (∃ cs' : List Value, cs'.length = 4 ∧ k51.K W (f i) cs' ∧ ∀ j u, cs'[j]? = some u → W.cell? (a.add (i * 4 + j)) = some u) ∧ (f i).f2.size ≤ 9223372036854775807 ∧ Okl (f i).f3 := by
      refine ⟨fun i => if h : i < len then Classical.choose (each i h) else z51, fun i hi => ?_⟩
      dsimp only
      rw [dif_pos hi]
      exact Classical.choose_spec (each i hi)
    have hlen : ((List.range len).map f).length = len := by rw [List.length_map, List.length_range]
    rw [maxLen_eq] at hc
    refine ⟨some a, (List.range len).map f, cap, by rw [hlen], by rw [hlen]; exact hl, ?_, Okl.of _ (fun y hy => ?_)⟩
    · refine ⟨rfl, by rw [hlen]; omega, fun _ => ⟨a, rfl, fun j p hj => ?_⟩⟩
      have hjl : j < len := by
        rcases Nat.lt_or_ge j len with c | c
        · exact c
        · rw [List.getElem?_eq_none (by rw [hlen]; exact c)] at hj; cases hj
      rw [List.getElem?_map, List.getElem?_range hjl] at hj
      obtain rfl := Option.some.inj hj
      obtain ⟨⟨cs', q1, q2, q3⟩, _⟩ := hf j hjl
      exact ⟨cs', q1, q2, q3⟩
    · obtain ⟨i, hi, rfl⟩ := List.mem_map.1 hy
      exact (hf i (List.mem_range.1 hi)).2
end Go.Proofs.YtgikmpgpccfiiaaT
