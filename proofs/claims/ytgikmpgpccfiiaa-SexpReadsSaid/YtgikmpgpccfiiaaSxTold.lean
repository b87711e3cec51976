/- Nodes as the document has them: told, and Exact. -/
import Derived.Test.YtgikmpgpccfiiaaSxRead
import Derived.Test.YtgikmpgpccfiiaaPSxpx34
import Derived.Test.YtgikmpgpccfiiaaPSxpx35
namespace Go.Proofs.YtgikmpgpccfiiaaT
open Go.RowKit Go.Proofs.Ytgikmpgpccfiiaa.PSxp Go.Proofs.YtgikmpgpccfiiaaW.PrintWords Go.Proofs.YtgikmpgpccfiiaaW.PrintLast
set_option linter.unusedVariables false
/-! ### told, and Exact -/
mutual
def tlN : S51 → S90
 | ⟨a, b, c, l⟩ => ⟨a, b, c, tlL l⟩
def tlL : List S51 → List S90
 | [] => []
 | x :: r => tlN x :: tlL r
end
theorem tlN_eq (x : S51) : tlN x = ⟨x.f0, x.f1, x.f2, tlL x.f3⟩ := by cases x; rw [tlN]
theorem tlL_len : ∀ l : List S51, (tlL l).length = l.length
 | [] => by rw [tlL]; rfl
 | x :: r => by rw [tlL, List.length_cons, List.length_cons, tlL_len r]
theorem told_loop {L : List S51} (h : ∀ x ∈ L, Tells (fun k => alidadelaw13_told.f k x.f3) (tlL x.f3)) (hl : L.length ≤ 1000000) : ∀ (r : List S51) (j : Nat) (acc : List S90), L.drop j = r → acc.length + r.length ≤ 1000000 →
  Tells (fun k => alidadelaw13_told.l0 k L acc (j : Int)) (acc ++ tlL r)
 | [], j, acc, hd, ha => by
  have := nd_end hd
  refine Tells.step (fun k => (by rw [alidadelaw13_told.l0, if_neg (show ¬ (j : Int) < (L.length : Int) by omega)])) ?_
  rw [tlL, List.append_nil]
  exact Tells.const _
 | x :: r, j, acc, hd, ha => by
  obtain ⟨hj, hx, hd2⟩ := nd_at hd
  rw [List.length_cons] at ha
  have hxm : x ∈ L := List.mem_of_mem_drop (i := j) (by rw [hd]; exact List.mem_cons_self ..)
  refine Tells.step (fun k => (by rw [alidadelaw13_told.l0, if_pos (show (j : Int) < (L.length : Int) by omega), if_pos (show (0 : Int) ≤ (j : Int) by omega), hx, w1 (show j ≤ 140737488351232 by omega)])) ?_
  refine Tells.bind (h x hxm) ?_
  refine Tells.of (fun k => if_pos (show acc.length < 2513169434916 by omega)) ?_
  have := told_loop h hl r (j + 1) (acc ++ [tlN x]) hd2 (by rw [List.length_append, List.length_singleton]; omega)
  rw [List.append_assoc] at this
  rw [tlL]
  rw [tlN_eq] at this ⊢
  exact this
theorem St.told {s : ByteArray} {l : List S51} {a b : Nat} (h : St s l a b) (hb : b ≤ 1000000) : Tells (fun k => alidadelaw13_told.f k l) (tlL l) ∧ ∀ x ∈ l, Tells (fun k => alidadelaw13_told.f k x.f3) (tlL x.f3) := by
 have top : ∀ L : List S51, L.length ≤ 1000000 → (∀ x ∈ L, Tells (fun k => alidadelaw13_told.f k x.f3) (tlL x.f3)) → Tells (fun k => alidadelaw13_told.f k L) (tlL L) := by
  intro L hL h
  refine Tells.step (g := fun k => alidadelaw13_told.l0 k L [] ((0 : Nat) : Int)) (fun k => (by rw [alidadelaw13_told.f]; rfl)) ?_
  have := told_loop h hL L 0 [] rfl (by rw [List.length_nil]; omega)
  exact this
 have all : ∀ x ∈ l, Tells (fun k => alidadelaw13_told.f k x.f3) (tlL x.f3) := by
  induction h with
  | nil a => intro x hx; cases hx
  | word h1 h2 h3 h4 h5 h6 h0 h7 hr ih =>
   rename_i x r a n b
   intro y hy
   rcases List.mem_cons.1 hy with rfl | hy
   ·rw [h7]
    exact top [] (by simp) (fun x hx => by cases hx)
   ·exact ih hb y hy
  | list h0 h1 h2 h3 h4 h5 hk hr ihk ihr =>
   rename_i x r a n e b
   intro y hy
   have := hr.le
   have hkl := hk.len
   rcases List.mem_cons.1 hy with rfl | hy
   ·exact top _ (by omega) (ihk (by omega))
   ·exact ihr hb y hy
 exact ⟨top l (by have := h.len; omega) all, all⟩
theorem rd90 (l : List S51) {j : Nat} (hj : j < l.length) : rd_T90 (tlL l) (j : Int) = tlN (rd_T51 l (j : Int)) := by
 induction l generalizing j with
 | nil => exact absurd hj (Nat.not_lt_zero _)
 | cons x r ih =>
  cases j with
  | zero => rw [tlL]; rfl
  | succ j =>
   have := ih (j := j) (by rw [List.length_cons] at hj; omega)
   rw [tlL]
   unfold rd_T90 rd_T51 at this ⊢
   rw [Int.toNat_natCast] at this ⊢
   rw [List.getD_cons_succ, List.getD_cons_succ]
   exact this
theorem exact_loop {L : List S51} (h : ∀ x ∈ L, Tells (fun k => alidaderef13_Exact.f k (tlL x.f3) (tlL x.f3)) true) (hl : L.length ≤ 1000000) : ∀ (r : List S51) (j : Nat), L.drop j = r → Tells (fun k => alidaderef13_Exact.l0 k (tlL L) (tlL L) (j : Int)) true
 | [], j, hd => by
  have := nd_end hd
  exact Tells.step (fun k => (by rw [alidaderef13_Exact.l0, tlL_len, if_neg (show ¬ (j : Int) < (L.length : Int) by omega)])) (Tells.const _)
 | x :: r, j, hd => by
  obtain ⟨hj, hx, hd2⟩ := nd_at hd
  have hxm : x ∈ L := List.mem_of_mem_drop (i := j) (by rw [hd]; exact List.mem_cons_self ..)
  refine Tells.step (fun k => (by rw [alidaderef13_Exact.l0, tlL_len, if_pos (show (j : Int) < (L.length : Int) by omega), if_pos (show (0 : Int) ≤ (j : Int) by omega), if_pos (show (j : Int) < (L.length : Int) by omega), if_pos rfl, if_pos rfl, if_pos rfl, rd90 L hj, hx, tlN_eq, w1 (show j ≤ 140737488351232 by omega)])) ?_
  refine Tells.bind (h x hxm) ?_
  exact Tells.of (fun k => if_pos rfl) (exact_loop h hl r (j + 1) hd2)
theorem St.exact {s : ByteArray} {l : List S51} {a b : Nat} (h : St s l a b) (hb : b ≤ 1000000) : Tells (fun k => alidaderef13_Exact.f k (tlL l) (tlL l)) true := by
 have top : ∀ L : List S51, L.length ≤ 1000000 → (∀ x ∈ L, Tells (fun k => alidaderef13_Exact.f k (tlL x.f3) (tlL x.f3)) true) → Tells (fun k => alidaderef13_Exact.f k (tlL L) (tlL L)) true := by
  intro L hL h
  exact Tells.step (g := fun k => alidaderef13_Exact.l0 k (tlL L) (tlL L) ((0 : Nat) : Int)) (fun k => (by rw [alidaderef13_Exact.f, if_pos rfl]; rfl)) (exact_loop h hL L 0 rfl)
 have all : ∀ x ∈ l, Tells (fun k => alidaderef13_Exact.f k (tlL x.f3) (tlL x.f3)) true := by
  induction h with
  | nil a => intro x hx; cases hx
  | word h1 h2 h3 h4 h5 h6 h0 h7 hr ih =>
   rename_i x r a n b
   intro y hy
   rcases List.mem_cons.1 hy with rfl | hy
   ·rw [h7]
    exact top [] (by simp) (fun x hx => by cases hx)
   ·exact ih hb y hy
  | list h0 h1 h2 h3 h4 h5 hk hr ihk ihr =>
   rename_i x r a n e b
   intro y hy
   have := hr.le
   have hkl := hk.len
   rcases List.mem_cons.1 hy with rfl | hy
   ·exact top _ (by omega) (ihk (by omega))
   ·exact ihr hb y hy
 exact top l (by have := h.len; omega) all
end Go.Proofs.YtgikmpgpccfiiaaT
