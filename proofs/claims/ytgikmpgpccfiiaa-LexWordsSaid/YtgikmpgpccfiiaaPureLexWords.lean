/- LexWords: the words of any text, each where it stands, the kind of any text, and where something is wrong, are the document's. -/
import Derived.Test.YtgikmpgpccfiiaaLexText
import Derived.KernelRfl
namespace Go.Proofs.Ytgikmpgpccfiiaa.Pure
open Go.RowKit Go.Proofs.Ytgikmpgpccfiiaa.PLex Go.Proofs.YtgikmpgpccfiiaaW.PrintWords Go.Proofs.YtgikmpgpccfiiaaW.PrintLast Go.Proofs.YtgikmpgpccfiiaaT
set_option linter.unusedVariables false
theorem works_ok : alidadelaw12_works.f 30 = some true := by kernel_rfl
theorem works_tells : Tells (fun k => alidadelaw12_works.f k) true := Tells.fixed 30 alidadelaw12_works.mono works_ok
theorem pcs_kind {s : ByteArray} : ∀ (m n : Nat) (x : S32), x ∈ pcs s m n → kindL (bl x.f3) = x.f0 ∧ x.f3.size ≤ s.size
  | 0, n, x, h => by cases h
  | m + 1, n, x, h => by
    unfold pcs at h
    by_cases c : n < s.size
    · rw [if_pos c] at h
      rcases List.mem_cons.1 h with h | h
      · rw [h]
        refine ⟨rfl, ?_⟩
        show (s.extract n (pend s n)).size ≤ s.size
        rw [bl_size, bl_extract]
        simp only [List.length_take, List.length_drop]
        rw [← bl_size]; omega
      · exact pcs_kind m _ x h
    · rw [if_neg c] at h; cases h
theorem resL_mem {ps : List S32} {x : S32} (h : x ∈ (lex_resL ps).1) : x ∈ ps := by
  unfold lex_resL at h
  cases e : ps.find? (fun x => x.f0 == 0) with
  | some y => rw [e] at h; cases h
  | none => rw [e] at h; exact h
section
variable {a0 a1 : ByteArray} {L : List S32} {p q : Int}
theorem words_l1 (hL : ∀ x ∈ L, kindL (bl x.f3) = x.f0 ∧ x.f3.size ≤ 140737488351232) (hlen : L.length ≤ 1000000) (i : Int)
    (hnext : Tells (fun k => alidadelaw12_LexWords.l0 k a0 a1 (L.map cv) p q (wrap64 (i + 1))) true) :
    ∀ (d j : Nat) (X : List S32), X.length = L.length → j + d = L.length → (∀ m, j ≤ m → X[m]? = L[m]?) → Tells (fun k => alidadelaw12_LexWords.l1 k a0 a1 (L.map cv) p q i X (j : Int)) true := by
  intro d
  induction d with
  | zero =>
    intro j X hX hj hm
    exact Tells.step (fun k => (by rw [alidadelaw12_LexWords.l1, if_neg (show ¬ (j : Int) < (X.length : Int) by omega)])) hnext
  | succ d ih =>
    intro j X hX hj hm
    have hjl : j < L.length := by omega
    obtain ⟨x, hx⟩ : ∃ x, x = L[j] := ⟨_, rfl⟩
    have h1 : rd_T32 X (j : Int) = x := by
      unfold rd_T32
      rw [Int.toNat_natCast, List.getD_eq_getElem?_getD, hm j (Nat.le_refl _), List.getElem?_eq_getElem hjl, hx]; rfl
    have h2 : rd_T31 (L.map cv) (j : Int) = cv x := by
      unfold rd_T31
      rw [Int.toNat_natCast, List.getD_eq_getElem?_getD, List.getElem?_map, List.getElem?_eq_getElem hjl, hx]; rfl
    obtain ⟨hk, hs⟩ := hL x (by rw [hx]; exact List.getElem_mem hjl)
    refine Tells.step (fun k => (by rw [alidadelaw12_LexWords.l1, if_pos (show (j : Int) < (X.length : Int) by omega), if_pos (show (0 : Int) ≤ (j : Int) by omega), if_pos (show (j : Int) < ((L.map cv).length : Int) by rw [List.length_map]; omega), h1, h2, w1 (by omega)])) ?_
    have hc : (!(x.f0 == (cv x).f0) || (!(x.f1 == (cv x).f1) || (!(x.f2 == (cv x).f2) || (!(x.f3.toList == (cv x).f3.toList))))) = false := by
      show (!(x.f0 == x.f0) || (!(x.f1 == x.f1) || (!(x.f2 == x.f2) || (!(x.f3.toList == x.f3.toList))))) = false
      simp
    refine Tells.of (fun k => (by rw [if_neg (by rw [hc]; simp)])) ?_
    have hkt := kind_tells hs
    rw [hk] at hkt
    refine Tells.bind hkt ?_
    refine Tells.of (fun k => (by rw [if_pos (show x.f0 = (cv x).f0 from rfl), Int.toNat_natCast])) ?_
    refine ih (j + 1) _ (by rw [List.length_set]; exact hX) (by omega) (fun m hm2 => ?_)
    rw [List.getElem?_set_ne (by omega)]
    exact hm m (by omega)
end
theorem LexWords : alidadelaw12_LexWords.Pure := by
  intro a0 a1 h0 h1
  refine Tells.ex (f := fun k => alidadelaw12_LexWords.f k a0 a1) ?_
  have hlong : Tells (fun k => alidadelaw12_LexWords.j0 k a0 a1 true) true :=
    Tells.step (fun k => (by rw [alidadelaw12_LexWords.j0, if_pos rfl])) (Tells.bind works_tells (Tells.const _))
  unfold alidadelaw12_LexWords.f
  by_cases c0 : a0.size > 5000
  · exact Tells.of (fun k => (by rw [if_pos (show (a0.size : Int) > 5000 by omega)])) hlong
  refine Tells.of (fun k => (by rw [if_neg (show ¬ (a0.size : Int) > 5000 by omega)])) ?_
  by_cases c1 : a1.size > 5000
  · exact Tells.of (fun k => (by rw [decide_eq_true (show (a1.size : Int) > 5000 by omega)])) hlong
  refine Tells.of (fun k => (by rw [decide_eq_false (show ¬ (a1.size : Int) > 5000 by omega)])) ?_
  refine Tells.step (fun k => (by rw [alidadelaw12_LexWords.j0, if_neg (by simp)])) ?_
  have hR := rwords_tells h0
  have hW := words_tells h0
  rw [if_neg (by omega)] at hR hW
  refine Tells.bind hR ?_
  obtain ⟨ps, hps⟩ : ∃ ps, ps = pcs a0 a0.size (sk false (bl a0)) := ⟨_, rfl⟩
  rw [← hps] at hW ⊢
  obtain ⟨e1, e2⟩ := resL_eq ps
  have hmem : ∀ x ∈ (lex_resL ps).1, kindL (bl x.f3) = x.f0 ∧ x.f3.size ≤ 140737488351232 := fun x hx => by
    have h5 := pcs_kind (s := a0) _ _ x (by rw [← hps]; exact resL_mem hx)
    exact ⟨h5.1, by omega⟩
  have hlen : (lex_resL ps).1.length ≤ 1000000 := by
    have h5 := pcs_len a0 a0.size (sk false (bl a0))
    rw [← hps] at h5
    unfold lex_resL
    cases ps.find? (fun x => x.f0 == 0) with
    | some y => simp
    | none => show ps.length ≤ _; omega
  obtain ⟨r, hr⟩ : ∃ r : List S32 × Int × Int, r = lex_resL ps := ⟨_, rfl⟩
  rw [← hr] at hmem hlen hW e1 e2
  have hl0 : ∀ (d i : Nat), i + d = 2 → Tells (fun k => alidadelaw12_LexWords.l0 k a0 a1 (r.1.map cv) r.2.1 r.2.2 (i : Int)) true := by
    intro d
    induction d with
    | zero =>
      intro i hi
      obtain rfl : i = 2 := by omega
      refine Tells.step (fun k => (by rw [alidadelaw12_LexWords.l0, if_neg (by omega)])) ?_
      refine Tells.bind (kind_tells h1) ?_
      refine Tells.bind (rkind_tells h1) ?_
      exact Tells.of (fun k => (by rw [if_pos rfl])) (Tells.bind works_tells (Tells.const _))
    | succ d ih =>
      intro i hi
      refine Tells.step (fun k => (by rw [alidadelaw12_LexWords.l0, if_pos (by omega)])) ?_
      refine Tells.bind hW ?_
      refine Tells.of (fun k => (by rw [if_pos (by rw [List.length_map]), if_pos rfl, show (r.2.2 != r.2.2) = false by simp])) ?_
      refine Tells.step (fun k => (by rw [alidadelaw12_LexWords.j2, if_neg (by simp)])) ?_
      exact words_l1 hmem hlen (i : Int) (by rw [w1 (by omega)]; exact ih (i + 1) (by omega)) r.1.length 0 r.1 rfl (by omega) (fun _ _ => rfl)
  show Tells (fun k => alidadelaw12_LexWords.l0 k a0 a1 (refR [] ps).1 (refR [] ps).2.1 (refR [] ps).2.2 0) true
  rw [← e1, ← e2]
  exact hl0 2 0 rfl
end Go.Proofs.Ytgikmpgpccfiiaa.Pure
