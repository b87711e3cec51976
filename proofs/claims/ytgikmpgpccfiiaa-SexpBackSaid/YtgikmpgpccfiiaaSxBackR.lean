/- What is shown of nodes is read as they are: the words. -/
import Derived.Test.YtgikmpgpccfiiaaSxBack
namespace Go.Proofs.YtgikmpgpccfiiaaT
open Go.RowKit Go.Proofs.Ytgikmpgpccfiiaa.PSxp Go.Proofs.YtgikmpgpccfiiaaW.PrintWords Go.Proofs.YtgikmpgpccfiiaaW.PrintLast
set_option linter.unusedVariables false
theorem pcs_piece {s : ByteArray} {n m q : Nat} {p R : List UInt8} (hd : (bl s).drop n = p ++ R) (hp : p.length = max (tk (p ++ R)) 1) (hq : q = n + p.length) (hm : s.size - n ≤ m) :
    ∃ (t : ByteArray) (m' : Nat), bl t = p ∧ q ≤ s.size ∧ pcs s m n = ⟨kindL p, (n : Int), (q : Int), t⟩ :: pcs s m' (q + sk false R) ∧ (bl s).drop q = R ∧ s.size - (q + sk false R) ≤ m' := by
  have hl := congrArg List.length hd
  rw [List.length_drop, List.length_append, ← bl_size] at hl
  have hn : n < s.size := by omega
  obtain ⟨m', rfl⟩ : ∃ k, m = k + 1 := ⟨m - 1, by omega⟩
  have hpe : pend s n = q := by unfold pend; rw [hd]; omega
  have hd2 : (bl s).drop q = R := by rw [hq, ← List.drop_drop, hd, List.drop_left]
  have hb : bl (s.extract n q) = p := by rw [bl_extract, hd, hq, Nat.add_sub_cancel_left, List.take_left]
  refine ⟨s.extract n q, m', hb, by omega, ?_, hd2, by omega⟩
  rw [pcs, if_pos hn, hpe, hd2, hb]
theorem rdR_open {d len a : Int} {w : S32} {ws : List S32} {l : List S51} {gs : List (Int × List S51)} (h : w.f0 = 1) (hd : ((gs.length + 1 : Nat) : Int) ≤ d) : rdR d len (w :: ws) ((a, l) :: gs) = rdR d len ws ((w.f1, []) :: (a, l) :: gs) := by
  unfold rdR
  rw [if_pos h, if_neg (by omega)]
  cases ws <;> rfl
theorem rdR_close {d len a b : Int} {w : S32} {ws : List S32} {l m : List S51} {gs : List (Int × List S51)} (h : w.f0 = 2) : rdR d len (w :: ws) ((a, l) :: (b, m) :: gs) = rdR d len ws ((b, m ++ [⟨0, a, ⟨#[]⟩, l⟩]) :: gs) := by
  unfold rdR
  rw [if_neg (by omega), if_pos h]
  cases ws <;> rfl
theorem rdR_word {d len a : Int} {w : S32} {ws : List S32} {l : List S51} {gs : List (Int × List S51)} (h1 : w.f0 ≠ 1) (h2 : w.f0 ≠ 2) : rdR d len (w :: ws) ((a, l) :: gs) = rdR d len ws ((a, l ++ [⟨w.f0, w.f1, w.f3, []⟩]) :: gs) := by
  unfold rdR
  rw [if_neg h1, if_neg h2]
  cases ws <;> rfl
/-- Nodes, one behind the other. -/
def RdL (s : ByteArray) (l : List S51) : Prop := ∀ (b : Bool) (n m : Nat) (R : List UInt8), (bl s).drop n = wrL b l ++ R → n ≤ s.size → tk R = 0 → mayL l = true → s.size - (n + sk false (wrL b l ++ R)) ≤ m →
  ∃ m', s.size - (n + (wrL b l).length + sk false R) ≤ m' ∧ n + (wrL b l).length ≤ s.size ∧
    (∀ (d len a : Int) (l0 : List S51) (gs : List (Int × List S51)), ((gs.length + dpL l : Nat) : Int) ≤ d → rdR d len (pcs s m (n + sk false (wrL b l ++ R))) ((a, l0) :: gs) = rdR d len (pcs s m' (n + (wrL b l).length + sk false R)) ((a, l0 ++ pnL n b l) :: gs)) ∧
    (∀ y ∈ pcs s m (n + sk false (wrL b l ++ R)), y.f0 = 0 → y ∈ pcs s m' (n + (wrL b l).length + sk false R))
/-- A node. -/
def RdN (s : ByteArray) (x : S51) : Prop := ∀ (n m : Nat) (R : List UInt8), (bl s).drop n = wrN x ++ R → tk R = 0 → mayN x = true → s.size - n ≤ m →
  ∃ m', s.size - (n + (wrN x).length + sk false R) ≤ m' ∧ n + (wrN x).length ≤ s.size ∧
    (∀ (d len a : Int) (l0 : List S51) (gs : List (Int × List S51)), ((gs.length + dpN x : Nat) : Int) ≤ d → rdR d len (pcs s m n) ((a, l0) :: gs) = rdR d len (pcs s m' (n + (wrN x).length + sk false R)) ((a, l0 ++ [pnN n x]) :: gs)) ∧
    (∀ y ∈ pcs s m n, y.f0 = 0 → y ∈ pcs s m' (n + (wrN x).length + sk false R))
theorem sk41 (R : List UInt8) : sk false (41 :: R) = 0 := by rw [sk_cons, if_neg (by decide), if_neg (by decide)]
theorem rdN {s : ByteArray} {x : S51} (hk : RdL s x.f3) : RdN s x := by
  intro n m R hd ht hm hmm
  rw [mayN_eq] at hm
  by_cases c0 : x.f0 = 0
  · rw [if_pos c0, Bool.and_eq_true] at hm
    have ex : bl x.f2 = [] := List.isEmpty_iff.1 hm.1
    have ew : wrN x = 40 :: (wrL true x.f3 ++ [41]) := by rw [wrN_eq, if_pos c0, ex]; rfl
    have el : (wrN x).length = (wrL true x.f3).length + 2 := by rw [ew, List.length_cons, List.length_append, List.length_singleton]
    have hd1 : (bl s).drop n = [40] ++ (wrL true x.f3 ++ (41 :: R)) := by rw [hd, ew]; simp
    obtain ⟨t, m1, e1, e3, e4, e5, e6⟩ := pcs_piece (q := n + 1) hd1 (by rw [List.cons_append, tk_cons0 (by decide)]; rfl) rfl hmm
    obtain ⟨m2, f1, f2, f3, f4⟩ := hk true (n + 1) m1 (41 :: R) e5 e3 (tk_cons0 (by decide)) hm.2 e6
    rw [sk41, Nat.add_zero] at f1
    simp only [sk41, Nat.add_zero] at f3 f4
    have hd2 : (bl s).drop (n + 1 + (wrL true x.f3).length) = [41] ++ R := by rw [← List.drop_drop, e5, List.drop_left]; rfl
    obtain ⟨t2, m3, g1, g3, g4, g5, g6⟩ := pcs_piece (q := n + 1 + (wrL true x.f3).length + 1) hd2 (by rw [List.cons_append, tk_cons0 (by decide)]; rfl) rfl f1
    have eq : n + (wrN x).length = n + 1 + (wrL true x.f3).length + 1 := by omega
    rw [eq]
    refine ⟨m3, g6, g3, fun d len a l0 gs hdd => ?_, fun y hy h0 => ?_⟩
    · rw [dpN_eq, if_pos c0] at hdd
      rw [e4, rdR_open rfl (by omega), f3 d len (n : Int) [] ((a, l0) :: gs) (by rw [List.length_cons]; omega), g4, rdR_close rfl, List.nil_append, pnN_eq, if_pos c0, c0, bl_inj (s := x.f2) (t := ⟨#[]⟩) ex]
    · rw [e4] at hy
      rcases List.mem_cons.1 hy with rfl | hy
      · exact absurd h0 (by decide : ¬ kindL [40] = 0)
      · have := f4 y hy h0
        rw [g4] at this
        rcases List.mem_cons.1 this with rfl | hy
        · exact absurd h0 (by decide : ¬ kindL [41] = 0)
        · exact hy
  · rw [if_neg c0] at hm
    simp only [Bool.and_eq_true, decide_eq_true_eq] at hm
    obtain ⟨h1, h2, h3, h4⟩ := hm
    obtain ⟨k1, k2⟩ := kind_wc (l := bl x.f2) (by rw [h4]; exact c0) (by rw [h4]; exact h1) (by rw [h4]; exact h2)
    have ew : wrN x = bl x.f2 := by rw [wrN_eq, if_neg c0]
    rw [ew] at hd ⊢
    have hl : 0 < (bl x.f2).length := List.length_pos_iff.2 k1
    obtain ⟨t, m1, e1, e3, e4, e5, e6⟩ := pcs_piece (q := n + (bl x.f2).length) hd (by rw [tk_app k2, ht]; omega) rfl hmm
    have et : t = x.f2 := bl_inj e1
    refine ⟨m1, e6, e3, fun d len a l0 gs hdd => ?_, fun y hy h0 => ?_⟩
    · rw [e4, h4, et, rdR_word h1 h2, pnN_eq, if_neg c0]
    · rw [e4] at hy
      rcases List.mem_cons.1 hy with rfl | hy
      · exact absurd h0 (by rw [show (S32.mk (kindL (bl x.f2)) (n : Int) ((n + (bl x.f2).length : Nat) : Int) t).f0 = kindL (bl x.f2) from rfl, h4]; exact c0)
      · exact hy
theorem wrN_first {x : S51} (hm : mayN x = true) (R : List UInt8) : sk false (wrN x ++ R) = 0 := by
  rw [mayN_eq] at hm
  by_cases c0 : x.f0 = 0
  · rw [if_pos c0, Bool.and_eq_true] at hm
    have ex : bl x.f2 = [] := List.isEmpty_iff.1 hm.1
    have ew : wrN x = 40 :: (wrL true x.f3 ++ [41]) := by rw [wrN_eq, if_pos c0, ex]; rfl
    rw [ew, List.cons_append, sk_cons, if_neg (by decide), if_neg (by decide)]
  · rw [if_neg c0] at hm
    simp only [Bool.and_eq_true, decide_eq_true_eq] at hm
    obtain ⟨h1, h2, h3, h4⟩ := hm
    obtain ⟨k1, k2⟩ := kind_wc (l := bl x.f2) (by rw [h4]; exact c0) (by rw [h4]; exact h1) (by rw [h4]; exact h2)
    rw [wrN_eq, if_neg c0]
    cases hb : bl x.f2 with
    | nil => exact absurd hb k1
    | cons c r => rw [List.cons_append]; exact wc_sk (k2 c (by rw [hb]; exact List.mem_cons_self ..)) _
theorem wrN_ne {x : S51} (hm : mayN x = true) : wrN x ≠ [] := by
  rw [mayN_eq] at hm
  by_cases c0 : x.f0 = 0
  · rw [wrN_eq, if_pos c0]; simp
  · rw [if_neg c0] at hm
    simp only [Bool.and_eq_true, decide_eq_true_eq] at hm
    obtain ⟨h1, h2, h3, h4⟩ := hm
    rw [wrN_eq, if_neg c0]
    exact (kind_wc (l := bl x.f2) (by rw [h4]; exact c0) (by rw [h4]; exact h1) (by rw [h4]; exact h2)).1
theorem Sml.rd {s : ByteArray} {l : List S51} {c : Nat} (h : Sml l c) : RdL s l := by
  induction h with
  | nil =>
    intro b n m R hd hn ht hm hmm
    rw [wrL_nil, List.nil_append] at hmm
    rw [wrL_nil, List.nil_append, List.length_nil, Nat.add_zero]
    exact ⟨m, hmm, hn, fun d len a l0 gs _ => by rw [pnL_nil, List.append_nil], fun y hy _ => hy⟩
  | cons h1 hk hr ihk ihr =>
    rename_i x r a c
    intro b n m R hd hn ht hm hmm
    rw [mayL, Bool.and_eq_true] at hm
    have ht1 : tk (wrL false r ++ R) = 0 := by
      cases r with
      | nil => rw [wrL_nil]; exact ht
      | cons y z => rw [wrL_cons, if_neg (by simp)]; exact tk_cons0 (by decide)
    have e0 : wrL b (x :: r) ++ R = (if b = true then [] else [32]) ++ (wrN x ++ (wrL false r ++ R)) := by rw [wrL_cons, List.append_assoc, List.append_assoc]
    have e1 : (wrL b (x :: r)).length = (if b = true then 0 else 1) + (wrN x).length + (wrL false r).length := by rw [wrL_cons, List.length_append, List.length_append, sep_len]; omega
    have hsk : sk false (wrL b (x :: r) ++ R) = if b = true then 0 else 1 := by
      rw [e0]
      cases b with
      | true => exact wrN_first hm.1 _
      | false =>
        rw [if_neg (by simp), if_neg (by simp), List.cons_append, List.nil_append, sk_cons, if_neg (by decide), if_pos (by decide), wrN_first hm.1]
    have hd1 : (bl s).drop (n + if b = true then 0 else 1) = wrN x ++ (wrL false r ++ R) := by
      rw [← List.drop_drop, hd, e0]
      cases b <;> rfl
    rw [hsk] at hmm
    obtain ⟨m1, f1, f2, f3, f4⟩ := rdN ihk (n + if b = true then 0 else 1) m (wrL false r ++ R) hd1 ht1 hm.1 hmm
    have hd2 : (bl s).drop ((n + if b = true then 0 else 1) + (wrN x).length) = wrL false r ++ R := by rw [← List.drop_drop, hd1, List.drop_left]
    obtain ⟨m2, g1, g2, g3, g4⟩ := ihr false _ m1 R hd2 f2 ht hm.2 f1
    have eq : n + (wrL b (x :: r)).length = (n + if b = true then 0 else 1) + (wrN x).length + (wrL false r).length := by rw [e1]; omega
    rw [eq, hsk]
    refine ⟨m2, g1, g2, fun d len a l0 gs hdd => ?_, fun y hy h0 => g4 y (f4 y hy h0) h0⟩
    rw [dpL_cons] at hdd
    rw [f3 d len a l0 gs (by omega), g3 d len a _ gs (by omega), pnL_cons, List.append_assoc]; rfl
theorem Sml.back {s : ByteArray} {l : List S51} {c : Nat} (h : Sml l c) (hs : bl s = wrL true l) (hm : mayL l = true) {d : Nat} (hd : dpL l ≤ d) : rdO s d = (pnL 0 true l, 0, 0) := by
  have e0 : wrL true l ++ [] = bl s := by rw [List.append_nil, hs]
  obtain ⟨m1, f1, f2, f3, f4⟩ := h.rd (s := s) true 0 s.size [] (by rw [e0]; rfl) (Nat.zero_le _) rfl hm (Nat.sub_le _ _)
  have e1 : 0 + (wrL true l).length + sk false [] = s.size := by rw [← hs, ← bl_size]; show 0 + s.size + 0 = s.size; omega
  rw [e1, pcs_end (Nat.le_refl _), e0, Nat.zero_add] at f3 f4
  unfold rdO
  rw [show (pcs s s.size (sk false (bl s))).find? (fun x => x.f0 == 0) = none from List.find?_eq_none.2 (fun y hy e => by
    have := f4 y hy (beq_iff_eq.1 e)
    cases this)]
  dsimp only
  rw [f3 d s.size 0 [] [] (by rw [List.length_nil]; omega), rdR, if_neg (by simp)]
  rfl
end Go.Proofs.YtgikmpgpccfiiaaT
