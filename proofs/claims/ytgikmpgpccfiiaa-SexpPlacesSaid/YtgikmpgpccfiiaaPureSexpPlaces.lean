/- SexpPlaces: what is read may be, each where it stands; a place of an error is the text's length at most. -/
import Derived.Test.YtgikmpgpccfiiaaSxRead
import Derived.Test.YtgikmpgpccfiiaaPSxpx32
import Derived.KernelRfl
namespace Go.Proofs.Ytgikmpgpccfiiaa.Pure
open Go.RowKit Go.Proofs.Ytgikmpgpccfiiaa.PSxp Go.Proofs.YtgikmpgpccfiiaaW.PrintWords Go.Proofs.YtgikmpgpccfiiaaW.PrintLast Go.Proofs.YtgikmpgpccfiiaaT
set_option linter.unusedVariables false
theorem awake_ok : alidadelaw13_awake.f 60 = some true := by kernel_rfl
theorem awake_tells : Tells (fun k => alidadelaw13_awake.f k) true := Tells.fixed 60 alidadelaw13_awake.mono awake_ok
theorem deep_of (a : Int) : ∃ d : Nat, d ≤ 65536 ∧ wrap64 (Int.tmod (IntKind.u64.wrap a) 65537) = (d : Int) := by
  have h0 : 0 ≤ IntKind.u64.wrap a := by simp [IntKind.wrap, IntKind.signed, IntKind.bits]; omega
  have h1 : 0 ≤ Int.tmod (IntKind.u64.wrap a) 65537 := Int.tmod_nonneg _ h0
  have h2 : Int.tmod (IntKind.u64.wrap a) 65537 < 65537 := Int.tmod_lt_of_pos _ (by omega)
  generalize Int.tmod (IntKind.u64.wrap a) 65537 = z at h1 h2
  exact ⟨z.toNat, by omega, by unfold wrap64; omega⟩
theorem places_l0 {s : ByteArray} (hs : s.size ≤ 2000) {d : Nat} {L : List S51} {e : Nat} (h : St s L 0 e) (hd : dpL L ≤ d) (hL : L.length ≤ 1000000)
    (hm : ∀ x ∈ L, Tells (fun k => sexp_May.f k x.f0 x.f1 x.f2 x.f3) true) (hp : ∀ x ∈ L, Tells (fun k => sexp_Depth.f k x.f0 x.f1 x.f2 x.f3) ((dpN x : Nat) : Int)) :
    ∀ (r : List S51) (j : Nat), L.drop j = r → dpL r ≤ d → Tells (fun k => alidadelaw13_SexpPlaces.l0 k s (d : Int) L (j : Int)) true
  | [], j, hj, _ => by
    have := nd_end hj
    refine Tells.step (fun k => (by rw [alidadelaw13_SexpPlaces.l0, if_neg (show ¬ (j : Int) < (L.length : Int) by omega)])) ?_
    refine Tells.bind (Tells.step (g := fun k => alidadelaw13_stands.l0 k s L ((0 : Nat) : Int) ((0 : Nat) : Int)) (fun k => (by rw [alidadelaw13_stands.f]; rfl)) (h.stands (by omega) L 0 rfl hL)) ?_
    exact Tells.const true
  | x :: r, j, hj, hr => by
    obtain ⟨hjl, hx, hj2⟩ := nd_at hj
    rw [dpL_cons] at hr
    have hxm : x ∈ L := List.mem_of_mem_drop (i := j) (by rw [hj]; exact List.mem_cons_self ..)
    refine Tells.step (fun k => (by rw [alidadelaw13_SexpPlaces.l0, if_pos (show (j : Int) < (L.length : Int) by omega), if_pos (show (0 : Int) ≤ (j : Int) by omega), hx, w1 (show j ≤ 140737488351232 by omega)])) ?_
    refine Tells.bind (hm x hxm) ?_
    refine Tells.of (fun k => if_pos rfl) ?_
    refine Tells.bind (hp x hxm) ?_
    refine Tells.of (fun k => if_neg (show ¬ ((dpN x : Nat) : Int) > (d : Int) by omega)) ?_
    exact places_l0 hs h hd hL hm hp r (j + 1) hj2 (by omega)
theorem SexpPlaces : alidadelaw13_SexpPlaces.Pure := by
  intro a0 a1 h0 h1
  refine Tells.ex (f := fun k => alidadelaw13_SexpPlaces.f k a0 a1) ?_
  unfold alidadelaw13_SexpPlaces.f
  by_cases c : a0.size > 2000
  · refine Tells.of (fun k => if_pos (show (a0.size : Int) > 2000 by omega)) ?_
    exact Tells.step (fun k => (by rw [alidadelaw13_SexpPlaces.j0, if_pos rfl])) (Tells.bind awake_tells (Tells.const _))
  refine Tells.of (fun k => if_neg (show ¬ (a0.size : Int) > 2000 by omega)) ?_
  refine Tells.bind awake_tells ?_
  obtain ⟨d, hd, ed⟩ := deep_of a1
  refine Tells.step (g := fun k => (alidadelaw13_read.f k a0 (d : Int)).bind fun bt240 => (if bt240.2.1 < 0 then (alidadelaw13_SexpPlaces.j1 k a0 (d : Int) bt240.1 true) else (if bt240.2.1 > (a0.size : Int) then (alidadelaw13_SexpPlaces.j1 k a0 (d : Int) bt240.1 true) else (if bt240.2.2 = 0 then (alidadelaw13_SexpPlaces.j1 k a0 (d : Int) bt240.1 (bt240.2.1 != 0)) else (if (bt240.1.length : Int) > 0 then (alidadelaw13_SexpPlaces.j1 k a0 (d : Int) bt240.1 true) else (alidadelaw13_SexpPlaces.j1 k a0 (d : Int) bt240.1 false))))))
    (fun k => (by rw [alidadelaw13_SexpPlaces.j0, if_neg (by simp), ed])) ?_
  refine Tells.bind (read_tells (s := a0) (by omega) hd) ?_
  have hl : ∀ (L : List S51) (e : Nat), St a0 L 0 e → dpL L ≤ d → Tells (fun k => alidadelaw13_SexpPlaces.j1 k a0 (d : Int) L false) true := by
    intro L e h hdp
    have he := h.end_le (Nat.zero_le _)
    have hlen := h.len
    refine Tells.step (fun k => (by rw [alidadelaw13_SexpPlaces.j1, if_neg (by simp)])) ?_
    exact places_l0 (by omega) h hdp (by omega) (h.may h0) (h.depth (by omega)) L 0 rfl hdp
  rcases rdO_good a0 d with ⟨L, e, hR, hst, hdp⟩ | ⟨a, ha, hR⟩
  · rw [hR]
    refine Tells.of (fun k => (by rw [if_neg (show ¬ (0 : Int) < 0 by omega), if_neg (show ¬ (0 : Int) > (a0.size : Int) by omega), if_pos (show (0 : Int) = 0 from rfl)])) ?_
    exact hl L e hst hdp
  · have : ∃ z : Int, z ≠ 0 ∧ rdO a0 (d : Int) = ([], (a : Int), z) := by
      rcases hR with hR | ⟨hR, _⟩
      · exact ⟨4, by omega, hR⟩
      · exact ⟨46, by omega, hR⟩
    obtain ⟨z, hz, hR⟩ := this
    rw [hR]
    refine Tells.of (fun k => (by rw [if_neg (show ¬ (a : Int) < 0 by omega), if_neg (show ¬ (a : Int) > (a0.size : Int) by omega), if_neg hz, if_neg (show ¬ ((([] : List S51).length : Int) > 0) by simp)])) ?_
    exact hl [] 0 (.nil _) (by rw [dpL_nil]; omega)
end Go.Proofs.Ytgikmpgpccfiiaa.Pure
