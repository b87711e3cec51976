/- LexStand: words stand one behind the other, what stands between parts them, and ahead of an error nothing is wrong. -/
import Derived.Test.YtgikmpgpccfiiaaPLexx24
import Derived.Test.YtgikmpgpccfiiaaLexCut
namespace Go.Proofs.Ytgikmpgpccfiiaa.Pure
open Go.RowKit Go.Proofs.Ytgikmpgpccfiiaa.PLex Go.Proofs.YtgikmpgpccfiiaaW.PrintWords Go.Proofs.YtgikmpgpccfiiaaW.PrintLast Go.Proofs.YtgikmpgpccfiiaaT
set_option linter.unusedVariables false
theorem stand_l0 {s : ByteArray} (hs : s.size ≤ 5000) {X : List S32} (hX : X.length ≤ 5000) (hg : ∀ x ∈ X, x.f0 ≠ 0) : ∀ (m n j frm : Nat), s.size - n ≤ m → n ≤ s.size → n = frm + sk false ((bl s).drop frm) → X.drop j = pcs s m n → j ≤ X.length → Tells (fun k => alidadelaw12_LexStand.l0 k s X 0 (frm : Int) (j : Int)) true := by
  intro m
  induction m with
  | zero =>
    intro n j frm hm hn hf hd hj
    have hl := congrArg List.length hd
    rw [List.length_drop] at hl
    have hl2 : X.length - j = 0 := hl
    refine Tells.step (fun k => (by rw [alidadelaw12_LexStand.l0, if_neg (show ¬ (j : Int) < (X.length : Int) by omega), if_pos (show (0 : Int) ≤ (frm : Int) by omega), if_pos (show (frm : Int) ≤ (s.size : Int) by omega), Int.toNat_natCast])) ?_
    exact Tells.bind (gap_parts (by omega) (Nat.le_refl _) (by omega)) (Tells.const _)
  | succ m ih =>
    intro n j frm hm hn hf hd hj
    by_cases c : n < s.size
    · have h1 := pend_le c
      have h2 := next_le (s := s) (n := pend s n) h1.2
      obtain ⟨x, hx⟩ : ∃ x : S32, x = ⟨kindL (bl (s.extract n (pend s n))), (n : Int), ((pend s n : Nat) : Int), s.extract n (pend s n)⟩ := ⟨_, rfl⟩
      rw [pcs, if_pos c, ← hx] at hd
      have hjl : j < X.length := by
        rcases Nat.lt_or_ge j X.length with h | h
        · exact h
        · rw [List.drop_eq_nil_of_le h] at hd; cases hd
      have hxj : X[j] = x ∧ X.drop (j + 1) = pcs s m (pend s n + sk false ((bl s).drop (pend s n))) := by
        rw [List.drop_eq_getElem_cons hjl] at hd
        injection hd with e1 e2
        exact ⟨e1, e2⟩
      have hr : rd_T32 X (j : Int) = x := by
        unfold rd_T32
        rw [Int.toNat_natCast, List.getD_eq_getElem?_getD, List.getElem?_eq_getElem hjl, hxj.1]; rfl
      have hx0 : x.f0 ≠ 0 := hg x (by rw [← hxj.1]; exact List.getElem_mem hjl)
      have f1 : x.f1 = (n : Int) := by rw [hx]
      have f2 : x.f2 = ((pend s n : Nat) : Int) := by rw [hx]
      have f3 : x.f3 = s.extract n (pend s n) := by rw [hx]
      have f0 : kindL (bl x.f3) = x.f0 := by rw [hx]
      refine Tells.step (fun k => (by rw [alidadelaw12_LexStand.l0, if_pos (show (j : Int) < (X.length : Int) by omega), if_pos (show (0 : Int) ≤ (j : Int) by omega), if_pos rfl, hr, f1, f2,
        if_neg (show ¬ (n : Int) < (frm : Int) by omega), if_neg (show ¬ ((pend s n : Nat) : Int) ≤ (n : Int) by omega), if_neg (show ¬ ((pend s n : Nat) : Int) > (s.size : Int) by omega), if_pos (show (0 : Int) ≤ (n : Int) by omega), if_pos (show (n : Int) ≤ ((pend s n : Nat) : Int) by omega), if_pos (show ((pend s n : Nat) : Int) ≤ (s.size : Int) by omega),
        Int.toNat_natCast, Int.toNat_natCast, if_pos (show x.f3.toList = (s.extract n (pend s n)).toList by rw [f3]), if_neg hx0])) ?_
      have hk := kind_tells (s := x.f3) (by rw [f3, ex_size s h1.2]; omega)
      rw [f0] at hk
      refine Tells.bind hk ?_
      refine Tells.of (fun k => (by rw [if_pos rfl, if_pos (show (0 : Int) ≤ (frm : Int) by omega), if_pos (show (frm : Int) ≤ (n : Int) by omega), if_pos (show (n : Int) ≤ (s.size : Int) by omega), Int.toNat_natCast])) ?_
      refine Tells.bind (gap_parts (by omega) hn hf) ?_
      refine Tells.of (fun k => (by rw [if_pos rfl, w1 (by omega)])) ?_
      exact ih _ (j + 1) (pend s n) (by omega) h2 rfl hxj.2 (by omega)
    · have hd2 : X.drop j = [] := by rw [hd, pcs, if_neg c]
      have hl := congrArg List.length hd2
      rw [List.length_drop] at hl
      have hl2 : X.length - j = 0 := hl
      refine Tells.step (fun k => (by rw [alidadelaw12_LexStand.l0, if_neg (show ¬ (j : Int) < (X.length : Int) by omega), if_pos (show (0 : Int) ≤ (frm : Int) by omega), if_pos (show (frm : Int) ≤ (s.size : Int) by omega), Int.toNat_natCast])) ?_
      exact Tells.bind (gap_parts (by omega) (Nat.le_refl _) (by omega)) (Tells.const _)
theorem LexStand : alidadelaw12_LexStand.Pure := by
  intro a0 h0
  refine Tells.ex (f := fun k => alidadelaw12_LexStand.f k a0) ?_
  unfold alidadelaw12_LexStand.f
  refine Tells.bind works_tells ?_
  refine Tells.of (fun k => (by rw [if_pos rfl])) ?_
  by_cases c0 : a0.size > 5000
  · refine Tells.of (fun k => (by rw [decide_eq_true (show (a0.size : Int) > 5000 by omega)])) ?_
    exact Tells.step (fun k => (by rw [alidadelaw12_LexStand.j0, if_pos rfl])) (Tells.bind works_tells (Tells.const _))
  refine Tells.of (fun k => (by rw [decide_eq_false (show ¬ (a0.size : Int) > 5000 by omega)])) ?_
  refine Tells.step (fun k => (by rw [alidadelaw12_LexStand.j0, if_neg (by simp)])) ?_
  have hg := sk_le (bl a0) false
  rw [← bl_size] at hg
  have hlen := pcs_len a0 a0.size (sk false (bl a0))
  cases hf : (pcs a0 a0.size (sk false (bl a0))).find? (fun x => x.f0 == 0) with
  | none =>
    refine Tells.bind (ok_words (by omega) hf) ?_
    refine Tells.of (fun k => (by rw [if_pos rfl])) ?_
    exact stand_l0 (X := pcs a0 a0.size (sk false (bl a0))) (by omega) (by omega) (fun x hx e => by
      have := List.find?_eq_none.1 hf x hx
      rw [e] at this
      exact this rfl) a0.size (sk false (bl a0)) 0 0 (by omega) hg (by rw [List.drop_zero]; omega) rfl (Nat.zero_le _)
  | some x =>
    have hw := words_tells h0
    rw [if_neg (by omega)] at hw
    unfold lex_resL at hw
    rw [hf] at hw
    replace hw : Tells (fun k => lex_Words.f k a0) (([], x.f1, 4) : List S32 × Int × Int) := hw
    obtain ⟨a, g1, g2, g3, g4, g5, g6⟩ := pcs_prefix a0.size (sk false (bl a0)) x (by omega) hg (sk_drop _ _) hf
    refine Tells.bind hw ?_
    refine Tells.of (fun k => (by rw [if_neg (show ¬ (4 : Int) = 0 by omega), if_pos (show (((([] : List S32), x.f1, (4 : Int)).1.length : Int) = 0) from rfl), if_neg (show ¬ x.f1 < 0 by omega), decide_eq_false (show ¬ x.f1 ≥ (a0.size : Int) by omega)])) ?_
    have hsz : (a0.extract 0 a).size = a := by rw [ex_size a0 (by omega)]; omega
    have hbl : bl (a0.extract 0 a) = (bl a0).take a := by rw [bl_extract, List.drop_zero, Nat.sub_zero]
    have hgT : sk false (bl (a0.extract 0 a)) = sk false (bl a0) := by rw [hbl, sk_take]; omega
    have hT := ok_words (t := a0.extract 0 a) (by omega) (by rw [hsz, hgT]; exact g6 a (by omega))
    have hU := bad_words (s := a0) (by omega) g3 g4 g5
    show Tells (fun k => alidadelaw12_LexStand.j1 k a0 x.f1 false) true
    rw [g1]
    refine Tells.step (fun k => (by rw [alidadelaw12_LexStand.j1, if_neg (by simp), if_pos (show (0 : Int) ≤ (a : Int) by omega), if_pos (show (a : Int) ≤ (a0.size : Int) by omega), Int.toNat_natCast])) ?_
    refine Tells.bind hT ?_
    refine Tells.bind hU ?_
    exact Tells.of (fun k => ((if_pos rfl).trans (if_pos rfl))) (Tells.const true)
end Go.Proofs.Ytgikmpgpccfiiaa.Pure
