/- SexpDeep: with a meter as deep as the text it is read, with less it is ErrBudget, at a (. -/
import Derived.Test.YtgikmpgpccfiiaaSxRead
import Derived.Test.YtgikmpgpccfiiaaPSxpx35
import Derived.KernelRfl
namespace Go.Proofs.Ytgikmpgpccfiiaa.Pure
open Go.RowKit Go.Proofs.Ytgikmpgpccfiiaa.PSxp Go.Proofs.YtgikmpgpccfiiaaW.PrintWords Go.Proofs.YtgikmpgpccfiiaaW.PrintLast Go.Proofs.YtgikmpgpccfiiaaT
set_option linter.unusedVariables false
theorem awake_ok : alidadelaw13_awake.f 60 = some true := by kernel_rfl
theorem awake_tells : Tells (fun k => alidadelaw13_awake.f k) true := Tells.fixed 60 alidadelaw13_awake.mono awake_ok
/-! ### told, and Exact -/
mutual
def tlN : S51 → S90
  | ⟨a, b, c, l⟩ => ⟨a, b, c, tlL l⟩
def tlL : List S51 → List S90
  | [] => []
  | x :: r => tlN x :: tlL r
end
theorem tlN_eq (x : S51) : tlN x = ⟨x.f0, x.f1, x.f2, tlL x.f3⟩ := by cases x; rw [tlN]
theorem tlL_len : ∀ l : List S51, (tlL l).length = l.length
  | [] => by rw [tlL]; rfl
  | x :: r => by rw [tlL, List.length_cons, List.length_cons, tlL_len r]
theorem told_loop {L : List S51} (h : ∀ x ∈ L, Tells (fun k => alidadelaw13_told.f k x.f3) (tlL x.f3)) (hl : L.length ≤ 1000000) : ∀ (r : List S51) (j : Nat) (acc : List S90), L.drop j = r → acc.length + r.length ≤ 1000000 →
    Tells (fun k => alidadelaw13_told.l0 k L acc (j : Int)) (acc ++ tlL r)
  | [], j, acc, hd, ha => by
    have := nd_end hd
    refine Tells.step (fun k => (by rw [alidadelaw13_told.l0, if_neg (show ¬ (j : Int) < (L.length : Int) by omega)])) ?_
    rw [tlL, List.append_nil]
    exact Tells.const _
  | x :: r, j, acc, hd, ha => by
    obtain ⟨hj, hx, hd2⟩ := nd_at hd
    rw [List.length_cons] at ha
    have hxm : x ∈ L := List.mem_of_mem_drop (i := j) (by rw [hd]; exact List.mem_cons_self ..)
    refine Tells.step (fun k => (by rw [alidadelaw13_told.l0, if_pos (show (j : Int) < (L.length : Int) by omega), if_pos (show (0 : Int) ≤ (j : Int) by omega), hx, w1 (show j ≤ 140737488351232 by omega)])) ?_
    refine Tells.bind (h x hxm) ?_
    refine Tells.of (fun k => if_pos (show acc.length < 2513169434916 by omega)) ?_
    have := told_loop h hl r (j + 1) (acc ++ [tlN x]) hd2 (by rw [List.length_append, List.length_singleton]; omega)
    rw [List.append_assoc] at this
    rw [tlL]
    rw [tlN_eq] at this ⊢
    exact this
theorem St.told {s : ByteArray} {l : List S51} {a b : Nat} (h : St s l a b) (hb : b ≤ 1000000) : Tells (fun k => alidadelaw13_told.f k l) (tlL l) ∧ ∀ x ∈ l, Tells (fun k => alidadelaw13_told.f k x.f3) (tlL x.f3) := by
  have top : ∀ L : List S51, L.length ≤ 1000000 → (∀ x ∈ L, Tells (fun k => alidadelaw13_told.f k x.f3) (tlL x.f3)) → Tells (fun k => alidadelaw13_told.f k L) (tlL L) := by
    intro L hL h
    refine Tells.step (g := fun k => alidadelaw13_told.l0 k L [] ((0 : Nat) : Int)) (fun k => (by rw [alidadelaw13_told.f]; rfl)) ?_
    have := told_loop h hL L 0 [] rfl (by rw [List.length_nil]; omega)
    exact this
  have all : ∀ x ∈ l, Tells (fun k => alidadelaw13_told.f k x.f3) (tlL x.f3) := by
    induction h with
    | nil a => intro x hx; cases hx
    | word h1 h2 h3 h4 h5 h6 h0 h7 hr ih =>
      rename_i x r a n b
      intro y hy
      rcases List.mem_cons.1 hy with rfl | hy
      · rw [h7]
        exact top [] (by simp) (fun x hx => by cases hx)
      · exact ih hb y hy
    | list h0 h1 h2 h3 h4 h5 hk hr ihk ihr =>
      rename_i x r a n e b
      intro y hy
      have := hr.le
      have hkl := hk.len
      rcases List.mem_cons.1 hy with rfl | hy
      · exact top _ (by omega) (ihk (by omega))
      · exact ihr hb y hy
  exact ⟨top l (by have := h.len; omega) all, all⟩
theorem rd90 (l : List S51) {j : Nat} (hj : j < l.length) : rd_T90 (tlL l) (j : Int) = tlN (rd_T51 l (j : Int)) := by
  induction l generalizing j with
  | nil => exact absurd hj (Nat.not_lt_zero _)
  | cons x r ih =>
    cases j with
    | zero => rw [tlL]; rfl
    | succ j =>
      have := ih (j := j) (by rw [List.length_cons] at hj; omega)
      rw [tlL]
      unfold rd_T90 rd_T51 at this ⊢
      rw [Int.toNat_natCast] at this ⊢
      rw [List.getD_cons_succ, List.getD_cons_succ]
      exact this
theorem exact_loop {L : List S51} (h : ∀ x ∈ L, Tells (fun k => alidaderef13_Exact.f k (tlL x.f3) (tlL x.f3)) true) (hl : L.length ≤ 1000000) : ∀ (r : List S51) (j : Nat), L.drop j = r → Tells (fun k => alidaderef13_Exact.l0 k (tlL L) (tlL L) (j : Int)) true
  | [], j, hd => by
    have := nd_end hd
    exact Tells.step (fun k => (by rw [alidaderef13_Exact.l0, tlL_len, if_neg (show ¬ (j : Int) < (L.length : Int) by omega)])) (Tells.const _)
  | x :: r, j, hd => by
    obtain ⟨hj, hx, hd2⟩ := nd_at hd
    have hxm : x ∈ L := List.mem_of_mem_drop (i := j) (by rw [hd]; exact List.mem_cons_self ..)
    refine Tells.step (fun k => (by rw [alidaderef13_Exact.l0, tlL_len, if_pos (show (j : Int) < (L.length : Int) by omega), if_pos (show (0 : Int) ≤ (j : Int) by omega), if_pos (show (j : Int) < (L.length : Int) by omega), if_pos rfl, if_pos rfl, if_pos rfl, rd90 L hj, hx, tlN_eq, w1 (show j ≤ 140737488351232 by omega)])) ?_
    refine Tells.bind (h x hxm) ?_
    exact Tells.of (fun k => if_pos rfl) (exact_loop h hl r (j + 1) hd2)
theorem St.exact {s : ByteArray} {l : List S51} {a b : Nat} (h : St s l a b) (hb : b ≤ 1000000) : Tells (fun k => alidaderef13_Exact.f k (tlL l) (tlL l)) true := by
  have top : ∀ L : List S51, L.length ≤ 1000000 → (∀ x ∈ L, Tells (fun k => alidaderef13_Exact.f k (tlL x.f3) (tlL x.f3)) true) → Tells (fun k => alidaderef13_Exact.f k (tlL L) (tlL L)) true := by
    intro L hL h
    exact Tells.step (g := fun k => alidaderef13_Exact.l0 k (tlL L) (tlL L) ((0 : Nat) : Int)) (fun k => (by rw [alidaderef13_Exact.f, if_pos rfl]; rfl)) (exact_loop h hL L 0 rfl)
  have all : ∀ x ∈ l, Tells (fun k => alidaderef13_Exact.f k (tlL x.f3) (tlL x.f3)) true := by
    induction h with
    | nil a => intro x hx; cases hx
    | word h1 h2 h3 h4 h5 h6 h0 h7 hr ih =>
      rename_i x r a n b
      intro y hy
      rcases List.mem_cons.1 hy with rfl | hy
      · rw [h7]
        exact top [] (by simp) (fun x hx => by cases hx)
      · exact ih hb y hy
    | list h0 h1 h2 h3 h4 h5 hk hr ihk ihr =>
      rename_i x r a n e b
      intro y hy
      have := hr.le
      have hkl := hk.len
      rcases List.mem_cons.1 hy with rfl | hy
      · exact top _ (by omega) (ihk (by omega))
      · exact ihr hb y hy
  exact top l (by have := h.len; omega) all
/-! ### the row -/
theorem deep_j2 {s : ByteArray} (hs : s.size ≤ 2000) (less : Int) {L : List S51} (hR : rdO s 65536 = (L, 0, 0)) (hD : dpL L ≤ 65536) : Tells (fun k => alidadelaw13_SexpDeep.j2 k s less ((dpL L : Nat) : Int) false) true := by
  by_cases c : dpL L = 0
  · exact Tells.step (fun k => (by rw [alidadelaw13_SexpDeep.j2, if_neg (by simp), if_pos (by omega)])) (Tells.const _)
  have e1 : IntKind.u64.wrap ((dpL L : Nat) : Int) = ((dpL L : Nat) : Int) := by simp [IntKind.wrap, IntKind.signed, IntKind.bits]; omega
  obtain ⟨d, hd, ed⟩ : ∃ d : Nat, d < dpL L ∧ wrap64 (Int.tmod (IntKind.u64.wrap less) ((dpL L : Nat) : Int)) = (d : Int) := by
    have h0 : 0 ≤ IntKind.u64.wrap less := by simp [IntKind.wrap, IntKind.signed, IntKind.bits]; omega
    have h1 : 0 ≤ Int.tmod (IntKind.u64.wrap less) ((dpL L : Nat) : Int) := Int.tmod_nonneg _ h0
    have h2 : Int.tmod (IntKind.u64.wrap less) ((dpL L : Nat) : Int) < ((dpL L : Nat) : Int) := Int.tmod_lt_of_pos _ (by omega)
    generalize Int.tmod (IntKind.u64.wrap less) ((dpL L : Nat) : Int) = z at h1 h2
    exact ⟨z.toNat, by omega, by unfold wrap64; omega⟩
  refine Tells.step (g := fun k => (alidadelaw13_read.f k s (d : Int)).bind fun bt291 => (if bt291.2.2 = 46 then (if bt291.2.1 ≥ 0 then (if bt291.2.1 < (s.size : Int) then (if 0 ≤ bt291.2.1 then (some ((bt s bt291.2.1) == 40)) else (none)) else (none)) else (none)) else (none)))
    (fun k => (by rw [alidadelaw13_SexpDeep.j2, if_neg (by simp), if_neg (show ¬ ((dpL L : Nat) : Int) = 0 by omega), e1, if_neg (show ¬ ((dpL L : Nat) : Int) = 0 by omega), ed])) ?_
  refine Tells.bind (read_tells (s := s) (by omega) (d := d) (by omega)) ?_
  have hg := rdO_good s d
  have hk := rdO_lock (d := (d : Int)) hR
  rcases hg with ⟨L', e, hR', hst, hdp⟩ | ⟨a, ha, hR'⟩
  · rcases hk with hk | ⟨_, q, hk⟩
    · rw [hR'] at hk
      have e2 : L' = L := congrArg Prod.fst hk
      rw [e2] at hdp
      omega
    · rw [hR'] at hk
      have e2 : (0 : Int) = 46 := congrArg (fun z => z.2.2) hk
      omega
  · rcases hR' with hR' | ⟨hR', h1, h2⟩
    · rcases hk with hk | ⟨_, q, hk⟩
      · rw [hR'] at hk
        have e2 : (4 : Int) = 0 := congrArg (fun z => z.2.2) hk
        omega
      · rw [hR'] at hk
        have e2 : (4 : Int) = 46 := congrArg (fun z => z.2.2) hk
        omega
    · rw [hR']
      refine Tells.of (fun k => (by rw [if_pos (show (46 : Int) = 46 from rfl), if_pos (show (a : Int) ≥ 0 by omega), if_pos (show (a : Int) < (s.size : Int) by omega), if_pos (show (0 : Int) ≤ (a : Int) by omega), h2])) ?_
      exact Tells.const true
theorem deep_l0 {s : ByteArray} (hs : s.size ≤ 2000) (less : Int) {L : List S51} {e : Nat} (hst : St s L 0 e) (hR : rdO s 65536 = (L, 0, 0)) (hD : dpL L ≤ 65536) (hL : L.length ≤ 1000000)
    (hp : ∀ x ∈ L, Tells (fun k => sexp_Depth.f k x.f0 x.f1 x.f2 x.f3) ((dpN x : Nat) : Int)) :
    ∀ (r : List S51) (j m : Nat), L.drop j = r → max m (dpL r) = dpL L → Tells (fun k => alidadelaw13_SexpDeep.l0 k s less L (m : Int) (j : Int)) true
  | [], j, m, hj, hm => by
    have := nd_end hj
    rw [dpL_nil] at hm
    have em : m = dpL L := by omega
    have he := hst.end_le (Nat.zero_le _)
    rw [em]
    refine Tells.step (fun k => (by rw [alidadelaw13_SexpDeep.l0, if_neg (show ¬ (j : Int) < (L.length : Int) by omega)])) ?_
    have hr := read_tells (s := s) (by omega) (d := dpL L) (by omega)
    rcases rdO_lock (d := ((dpL L : Nat) : Int)) hR with hk | ⟨hk, _⟩
    · rw [hk] at hr
      refine Tells.bind hr ?_
      refine Tells.of (fun k => if_pos (show (0 : Int) = 0 from rfl)) ?_
      have ht := (St.told hst (by omega)).1
      refine Tells.bind ht ?_
      refine Tells.bind ht ?_
      refine Tells.bind (St.exact hst (by omega)) ?_
      exact deep_j2 hs less hR hD
    · omega
  | x :: r, j, m, hj, hm => by
    obtain ⟨hjl, hx, hj2⟩ := nd_at hj
    rw [dpL_cons] at hm
    have hxm : x ∈ L := List.mem_of_mem_drop (i := j) (by rw [hj]; exact List.mem_cons_self ..)
    refine Tells.step (fun k => (by rw [alidadelaw13_SexpDeep.l0, if_pos (show (j : Int) < (L.length : Int) by omega), if_pos (show (0 : Int) ≤ (j : Int) by omega), hx, w1 (show j ≤ 140737488351232 by omega)])) ?_
    refine Tells.bind (hp x hxm) ?_
    refine Tells.of (fun k => (by rw [mx_nat])) ?_
    exact deep_l0 hs less hst hR hD hL hp r (j + 1) (max m (dpN x)) hj2 (by omega)
theorem SexpDeep : alidadelaw13_SexpDeep.Pure := by
  intro a0 a1 h0 h1
  refine Tells.ex (f := fun k => alidadelaw13_SexpDeep.f k a0 a1) ?_
  unfold alidadelaw13_SexpDeep.f
  by_cases c : a0.size > 2000
  · refine Tells.of (fun k => if_pos (show (a0.size : Int) > 2000 by omega)) ?_
    exact Tells.step (fun k => (by rw [alidadelaw13_SexpDeep.j0, if_pos rfl])) (Tells.bind awake_tells (Tells.const _))
  refine Tells.of (fun k => if_neg (show ¬ (a0.size : Int) > 2000 by omega)) ?_
  refine Tells.bind awake_tells ?_
  refine Tells.step (fun k => (by rw [alidadelaw13_SexpDeep.j0, if_neg (by simp)])) ?_
  refine Tells.bind (read_tells (s := a0) (by omega) (d := 65536) (Nat.le_refl _)) ?_
  rcases rdO_good a0 65536 with ⟨L, e, hR, hst, hdp⟩ | ⟨a, ha, hR⟩
  · have he := hst.end_le (Nat.zero_le _)
    have hlen := hst.len
    rw [hR]
    refine Tells.of (fun k => if_pos (show (0 : Int) = 0 from rfl)) ?_
    exact deep_l0 (by omega) a1 hst hR hdp (by omega) (hst.depth (by omega)) L 0 0 rfl (by omega)
  · have : ∃ z : Int, z ≠ 0 ∧ rdO a0 ((65536 : Nat) : Int) = ([], (a : Int), z) := by
      rcases hR with hR | ⟨hR, _⟩
      · exact ⟨4, by omega, hR⟩
      · exact ⟨46, by omega, hR⟩
    obtain ⟨z, hz, hR⟩ := this
    rw [hR]
    exact Tells.of (fun k => if_neg hz) (Tells.const _)
end Go.Proofs.Ytgikmpgpccfiiaa.Pure
