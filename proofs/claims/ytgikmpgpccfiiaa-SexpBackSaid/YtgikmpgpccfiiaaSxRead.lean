/- What is read of words: a stack of lists that are not ended; what is read stands, may be, and is as deep as the stack was high. -/
import Derived.Test.YtgikmpgpccfiiaaSxText
import Derived.Test.YtgikmpgpccfiiaaPSxpx24
import Derived.Test.YtgikmpgpccfiiaaPSxpx25
import Derived.Test.YtgikmpgpccfiiaaPSxpx26
import Derived.Test.YtgikmpgpccfiiaaPSxpx31
namespace Go.Proofs.YtgikmpgpccfiiaaT
open Go.RowKit Go.Proofs.Ytgikmpgpccfiiaa.PSxp Go.Proofs.YtgikmpgpccfiiaaW.PrintWords Go.Proofs.YtgikmpgpccfiiaaW.PrintLast
set_option linter.unusedVariables false
mutual
def dpN : S51 → Nat
  | ⟨a, _, _, l⟩ => if a = 0 then dpL l + 1 else 0
def dpL : List S51 → Nat
  | [] => 0
  | x :: r => max (dpN x) (dpL r)
end
theorem dpN_eq (x : S51) : dpN x = if x.f0 = 0 then dpL x.f3 + 1 else 0 := by cases x; rw [dpN]
theorem dpL_nil : dpL [] = 0 := by rw [dpL]
theorem dpL_cons (x : S51) (r : List S51) : dpL (x :: r) = max (dpN x) (dpL r) := by rw [dpL]
theorem dpL_app : ∀ (l m : List S51), dpL (l ++ m) = max (dpL l) (dpL m)
  | [], m => by rw [List.nil_append, dpL_nil]; omega
  | x :: l, m => by rw [List.cons_append, dpL_cons, dpL_cons, dpL_app l m]; omega
/-- Nodes stand one behind the other, from a place on, up to a place. -/
inductive St (s : ByteArray) : List S51 → Nat → Nat → Prop
  | nil (a : Nat) : St s [] a a
  | word {x : S51} {r : List S51} {a n b : Nat} (h1 : x.f1 = (n : Int)) (h2 : a ≤ n) (h3 : n + x.f2.size ≤ s.size) (h4 : x.f2 = s.extract n (n + x.f2.size)) (h5 : 0 < x.f2.size) (h6 : kindL (bl x.f2) = x.f0) (h0 : x.f0 ≠ 0 ∧ x.f0 ≠ 1 ∧ x.f0 ≠ 2) (h7 : x.f3 = []) (hr : St s r (n + x.f2.size) b) : St s (x :: r) a b
  | list {x : S51} {r : List S51} {a n e b : Nat} (h0 : x.f0 = 0) (h1 : x.f1 = (n : Int)) (h2 : a ≤ n) (h3 : n < s.size) (h4 : bt s (n : Int) = 40) (h5 : x.f2 = ⟨#[]⟩) (hk : St s x.f3 (n + 1) e) (hr : St s r e b) : St s (x :: r) a b
theorem St.le {s : ByteArray} {l : List S51} {a b : Nat} (h : St s l a b) : a ≤ b := by
  induction h with
  | nil a => exact Nat.le_refl _
  | word h1 h2 h3 h4 h5 h6 h0 h7 hr ih => omega
  | list h0 h1 h2 h3 h4 h5 hk hr ihk ihr => omega
theorem St.len {s : ByteArray} {l : List S51} {a b : Nat} (h : St s l a b) : l.length + a ≤ b := by
  induction h with
  | nil a => simp
  | word h1 h2 h3 h4 h5 h6 h0 h7 hr ih => rw [List.length_cons]; omega
  | list h0 h1 h2 h3 h4 h5 hk hr ihk ihr => rw [List.length_cons]; omega
theorem St.dp {s : ByteArray} {l : List S51} {a b : Nat} (h : St s l a b) : dpL l + a ≤ b := by
  induction h with
  | nil a => rw [dpL_nil]; omega
  | word h1 h2 h3 h4 h5 h6 h0 h7 hr ih => rw [dpL_cons, dpN_eq, if_neg h0.1]; omega
  | list h0 h1 h2 h3 h4 h5 hk hr ihk ihr => rw [dpL_cons, dpN_eq, if_pos h0]; have := hr.le; omega
theorem St.end_le {s : ByteArray} {l : List S51} {a b : Nat} (h : St s l a b) (ha : a ≤ s.size) : b ≤ s.size := by
  induction h with
  | nil a => exact ha
  | word h1 h2 h3 h4 h5 h6 h0 h7 hr ih => exact ih h3
  | list h0 h1 h2 h3 h4 h5 hk hr ihk ihr => exact ihr (ihk h3)
theorem St.app {s : ByteArray} {l m : List S51} {a b c : Nat} (h : St s l a b) (hm : St s m b c) : St s (l ++ m) a c := by
  induction h with
  | nil a => exact hm
  | word h1 h2 h3 h4 h5 h6 h0 h7 hr ih => exact .word h1 h2 h3 h4 h5 h6 h0 h7 (ih hm)
  | list h0 h1 h2 h3 h4 h5 hk hr ihk ihr => exact .list h0 h1 h2 h3 h4 h5 hk (ihr hm)
theorem nd_at {L : List S51} {j : Nat} {x : S51} {r : List S51} (h : L.drop j = x :: r) : j < L.length ∧ rd_T51 L (j : Int) = x ∧ L.drop (j + 1) = r := by
  have hj : j < L.length := by
    rcases Nat.lt_or_ge j L.length with c | c
    · exact c
    · rw [List.drop_eq_nil_of_le c] at h; cases h
  rw [List.drop_eq_getElem_cons hj] at h
  injection h with e1 e2
  refine ⟨hj, ?_, e2⟩
  unfold rd_T51
  rw [Int.toNat_natCast, List.getD_eq_getElem?_getD, List.getElem?_eq_getElem hj, e1]; rfl
theorem nd_end {L : List S51} {j : Nat} (h : L.drop j = []) : L.length ≤ j := by
  have := congrArg List.length h
  rw [List.length_drop] at this
  have e : L.length - j = 0 := this
  omega
/-! ### May -/
theorem may_g : ∀ (l : List S51), (∀ x ∈ l, Tells (fun k => sexp_May.f k x.f0 x.f1 x.f2 x.f3) true) → Tells (fun k => sexp_May.g k l) false
  | [], _ => Tells.step (fun k => (by rw [sexp_May.g])) (Tells.const _)
  | x :: r, h => by
    refine Tells.step (fun k => (by rw [sexp_May.g])) ?_
    refine Tells.bind (h x (List.mem_cons_self ..)) ?_
    exact Tells.of (fun k => if_pos rfl) (may_g r (fun y hy => h y (List.mem_cons_of_mem _ hy)))
theorem St.may {s : ByteArray} (hs : s.size ≤ 140737488351232) {l : List S51} {a b : Nat} (h : St s l a b) : ∀ x ∈ l, Tells (fun k => sexp_May.f k x.f0 x.f1 x.f2 x.f3) true := by
  induction h with
  | nil a => intro x hx; cases hx
  | word h1 h2 h3 h4 h5 h6 h0 h7 hr ih =>
    rename_i x r a n b
    intro y hy
    rcases List.mem_cons.1 hy with rfl | hy
    · refine Tells.step (fun k => (by rw [sexp_May.f, if_neg h0.1, if_neg h0.2.1, if_neg h0.2.2, if_pos (show (y.f3.length : Int) = 0 by rw [h7]; rfl)])) ?_
      have hk := kind_tells (s := y.f2) (by omega)
      rw [h6] at hk
      refine Tells.bind hk ?_
      exact Tells.of (fun k => by rw [beq_self_eq_true]) (Tells.const true)
    · exact ih y hy
  | list h0 h1 h2 h3 h4 h5 hk hr ihk ihr =>
    rename_i x r a n e b
    intro y hy
    rcases List.mem_cons.1 hy with rfl | hy
    · refine Tells.step (fun k => (by rw [sexp_May.f, if_pos h0, if_pos (show y.f2.toList = ([] : List UInt8) by rw [h5, bl_toList]; rfl)])) ?_
      exact Tells.bind (may_g _ ihk) (Tells.const true)
    · exact ihr y hy
/-! ### Depth -/
theorem mx_nat (a b : Nat) : mx (a : Int) (b : Int) = ((max a b : Nat) : Int) := by
  unfold mx
  by_cases c : a < b
  · rw [if_pos (by omega)]; omega
  · rw [if_neg (by omega)]; omega
theorem dp_loop {L : List S51} (h : ∀ x ∈ L, Tells (fun k => sexp_Depth.f k x.f0 x.f1 x.f2 x.f3) ((dpN x : Nat) : Int)) (hl : L.length ≤ 1000000) : ∀ (r : List S51) (j m : Nat), L.drop j = r → m ≤ 1000000 → dpL r ≤ 1000000 →
    Tells (fun k => sexp_Depth.l0 k (m : Int) L (L.length : Int) (j : Int)) ((max m (dpL r) + 1 : Nat) : Int)
  | [], j, m, hd, hm, hp => by
    have := nd_end hd
    refine Tells.step (fun k => (by rw [sexp_Depth.l0, if_neg (show ¬ (j : Int) < (L.length : Int) by omega), w1 (by omega)])) ?_
    rw [dpL_nil, Nat.max_zero]
    exact Tells.const _
  | x :: r, j, m, hd, hm, hp => by
    obtain ⟨hj, hx, hd2⟩ := nd_at hd
    rw [dpL_cons] at hp ⊢
    have hxm : x ∈ L := List.mem_of_mem_drop (i := j) (by rw [hd]; exact List.mem_cons_self ..)
    refine Tells.step (fun k => (by rw [sexp_Depth.l0, if_pos (show (j : Int) < (L.length : Int) by omega), if_pos (show (0 : Int) ≤ (j : Int) by omega), if_pos (show (j : Int) < (L.length : Int) by omega), hx, w1 (by omega)])) ?_
    refine Tells.bind (h x hxm) ?_
    have := dp_loop h hl r (j + 1) (max m (dpN x)) hd2 (by omega) (by omega)
    rw [← mx_nat, Nat.max_assoc] at this
    exact this
theorem St.depth {s : ByteArray} {l : List S51} {a b : Nat} (h : St s l a b) (hb : b ≤ 1000000) : ∀ x ∈ l, Tells (fun k => sexp_Depth.f k x.f0 x.f1 x.f2 x.f3) ((dpN x : Nat) : Int) := by
  induction h with
  | nil a => intro x hx; cases hx
  | word h1 h2 h3 h4 h5 h6 h0 h7 hr ih =>
    rename_i x r a n b
    intro y hy
    rcases List.mem_cons.1 hy with rfl | hy
    · rw [dpN_eq, if_neg h0.1]
      exact Tells.step (g := fun _ => some (0 : Int)) (fun k => (by rw [sexp_Depth.f, if_neg h0.1])) (Tells.const _)
    · exact ih hb y hy
  | list h0 h1 h2 h3 h4 h5 hk hr ihk ihr =>
    rename_i x r a n e b
    intro y hy
    have := hr.le
    have hkl := hk.len
    have hkd := hk.dp
    rcases List.mem_cons.1 hy with rfl | hy
    · rw [dpN_eq, if_pos h0]
      refine Tells.step (fun k => (by rw [sexp_Depth.f, if_pos h0])) ?_
      have := dp_loop (ihk (by omega)) (by omega) y.f3 0 0 rfl (by omega) (by omega)
      rw [Nat.zero_max] at this
      exact this
    · exact ihr hb y hy
/-! ### stands -/
theorem St.stands {s : ByteArray} (hs : s.size ≤ 1000000) {l : List S51} {a b : Nat} (h : St s l a b) : ∀ (L : List S51) (j : Nat), L.drop j = l → L.length ≤ 1000000 → Tells (fun k => alidadelaw13_stands.l0 k s L (a : Int) (j : Int)) ((b : Int), true) := by
  induction h with
  | nil a =>
    intro L j hd hL
    have := nd_end hd
    exact Tells.step (fun k => (by rw [alidadelaw13_stands.l0, if_neg (show ¬ (j : Int) < (L.length : Int) by omega)])) (Tells.const _)
  | word h1 h2 h3 h4 h5 h6 h0 h7 hr ih =>
    rename_i x r a n b
    intro L j hd hL
    obtain ⟨hj, hx, hd2⟩ := nd_at hd
    refine Tells.step (fun k => (by rw [alidadelaw13_stands.l0, if_pos (show (j : Int) < (L.length : Int) by omega), if_pos (show (0 : Int) ≤ (j : Int) by omega), hx, h1, if_neg (show ¬ (n : Int) < (a : Int) by omega), decide_eq_false (show ¬ (n : Int) ≥ (s.size : Int) by omega)])) ?_
    refine Tells.step (fun k => (by rw [alidadelaw13_stands.j1, if_neg (by simp), if_neg h0.1, wadd (show n + x.f2.size ≤ 140737488351232 by omega), w1 (show j ≤ 140737488351232 by omega), if_neg (show ¬ wrap64 ((s.size : Int) - (n : Int)) < (x.f2.size : Int) by unfold wrap64; omega), if_pos (show (0 : Int) ≤ (n : Int) by omega), if_pos (show (n : Int) ≤ ((n + x.f2.size : Nat) : Int) by omega), if_pos (show ((n + x.f2.size : Nat) : Int) ≤ (s.size : Int) by omega), Int.toNat_natCast, Int.toNat_natCast, ← h4, if_pos rfl,
      if_neg (show ¬ x.f2.toList = ([] : List UInt8) by intro e; rw [bl_toList] at e; have := bl_size x.f2; rw [e, List.length_nil] at this; omega)])) ?_
    exact ih L (j + 1) hd2 hL
  | list h0 h1 h2 h3 h4 h5 hk hr ihk ihr =>
    rename_i x r a n e b
    intro L j hd hL
    obtain ⟨hj, hx, hd2⟩ := nd_at hd
    have hkl := hk.len
    have hke := hk.end_le h3
    refine Tells.step (fun k => (by rw [alidadelaw13_stands.l0, if_pos (show (j : Int) < (L.length : Int) by omega), if_pos (show (0 : Int) ≤ (j : Int) by omega), hx, h1, if_neg (show ¬ (n : Int) < (a : Int) by omega), decide_eq_false (show ¬ (n : Int) ≥ (s.size : Int) by omega)])) ?_
    refine Tells.step (fun k => (by rw [alidadelaw13_stands.j1, if_neg (by simp), if_pos h0, w1 (show n ≤ 140737488351232 by omega)])) ?_
    refine Tells.bind (Tells.step (g := fun k => alidadelaw13_stands.l0 k s x.f3 ((n + 1 : Nat) : Int) ((0 : Nat) : Int)) (fun k => (by rw [alidadelaw13_stands.f]; rfl)) (ihk x.f3 0 rfl (by omega))) ?_
    refine Tells.of (fun k => (by rw [if_pos rfl, if_pos (show (0 : Int) ≤ (n : Int) by omega), if_pos (show (n : Int) < (s.size : Int) by omega), h4])) ?_
    refine Tells.step (fun k => (by rw [alidadelaw13_stands.j2, if_neg (by simp), w1 (by omega)])) ?_
    exact ihr L (j + 1) hd2 hL
/-! ### the stack, its top first -/
def rdR (deep len : Int) : List S32 → List (Int × List S51) → List S51 × Int × Int
  | [], gs => if 1 < gs.length then ([], len, 4) else ((gs.headD (0, [])).2, 0, 0)
  | _ :: _, [] => ([], 0, 0)
  | w :: ws, (a, l) :: gs =>
    if w.f0 = 1 then (if ((gs.length + 1 : Nat) : Int) > deep then ([], w.f1, 46) else rdR deep len ws ((w.f1, []) :: (a, l) :: gs))
    else if w.f0 = 2 then (match gs with | [] => ([], w.f1, 4) | (b, m) :: gs => rdR deep len ws ((b, m ++ [⟨0, a, ⟨#[]⟩, l⟩]) :: gs))
    else rdR deep len ws ((a, l ++ [⟨w.f0, w.f1, w.f3, []⟩]) :: gs)
theorem rd_rev (deep len : Int) : ∀ (ws : List S32) (a : Int) (l : List S51) (gs : List (Int × List S51)), rdL deep len ws (gs.reverse ++ [(a, l)]) = rdR deep len ws ((a, l) :: gs) := by
  intro ws
  induction ws with
  | nil =>
    intro a l gs
    unfold rdL rdR
    cases gs with
    | nil => rfl
    | cons g gs => rw [if_pos (by simp), if_pos (by simp)]
  | cons w ws ih =>
    intro a l gs
    unfold rdL rdR
    have hlen : (gs.reverse ++ [(a, l)]).length = gs.length + 1 := by simp
    rw [hlen]
    by_cases c1 : w.f0 = 1
    · rw [if_pos c1, if_pos c1]
      by_cases c : ((gs.length + 1 : Nat) : Int) > deep
      · rw [if_pos c, if_pos c]
      · rw [if_neg c, if_neg c]
        have := ih w.f1 [] ((a, l) :: gs)
        rw [List.reverse_cons] at this
        exact this
    · rw [if_neg c1, if_neg c1]
      by_cases c2 : w.f0 = 2
      · rw [if_pos c2, if_pos c2]
        cases gs with
        | nil => rfl
        | cons g gs =>
          obtain ⟨b, m⟩ := g
          rw [if_neg (by simp)]
          have e1 : (((b, m) :: gs).reverse ++ [(a, l)]).dropLast = gs.reverse ++ [(b, m)] := by rw [List.dropLast_concat, List.reverse_cons]
          have e2 : (((b, m) :: gs).reverse ++ [(a, l)]).getLastD (0, []) = (a, l) := by simp [List.getLastD_eq_getLast?]
          rw [e1, e2, addK_snoc]
          exact ih b _ gs
      · rw [if_neg c2, if_neg c2, addK_snoc]
        exact ih a _ gs
/-! ### the words -/
/-- What the stack holds at a place. -/
def Inv (s : ByteArray) (deep : Nat) : List (Int × List S51) → Nat → Prop
  | [], _ => False
  | [(_, l)], p => dpL l ≤ deep ∧ ∃ e, St s l 0 e ∧ e ≤ p
  | (a, l) :: g :: gs, p => dpL l + (gs.length + 1) ≤ deep ∧ ∃ n e : Nat, a = (n : Int) ∧ n < s.size ∧ bt s (n : Int) = 40 ∧ St s l (n + 1) e ∧ e ≤ p ∧ Inv s deep (g :: gs) n
theorem Inv.upto {s : ByteArray} {deep : Nat} {gs : List (Int × List S51)} {p q : Nat} (h : Inv s deep gs p) (hpq : p ≤ q) : Inv s deep gs q := by
  match gs, h with
  | [(_, l)], ⟨h1, e, h2, h3⟩ => exact ⟨h1, e, h2, by omega⟩
  | (a, l) :: g :: gs, ⟨h1, n, e, h2, h3, h4, h5, h6, h7⟩ => exact ⟨h1, n, e, h2, h3, h4, h5, by omega, h7⟩
/-- A node that stands behind all is added to the top. -/
theorem Inv.add {s : ByteArray} {deep : Nat} {a : Int} {l : List S51} {gs : List (Int × List S51)} {p e : Nat} {x : S51} (h : Inv s deep ((a, l) :: gs) p) (hx : ∀ q, q ≤ p → St s [x] q e) (hd : dpN x + gs.length ≤ deep) {P : Nat} (hP : e ≤ P) : Inv s deep ((a, l ++ [x]) :: gs) P := by
  match gs, h with
  | [], ⟨h1, e1, h2, h3⟩ => exact ⟨by rw [dpL_app, dpL_cons, dpL_nil]; rw [List.length_nil] at hd; omega, e, h2.app (hx e1 h3), hP⟩
  | g :: gs, ⟨h1, n, e1, h2, h3, h4, h5, h6, h7⟩ => exact ⟨by rw [dpL_app, dpL_cons, dpL_nil]; rw [List.length_cons] at hd; omega, n, e, h2, h3, h4, h5.app (hx e1 h6), hP, h7⟩
/-! ### with another depth -/
/-! ### Read -/
def rdO (s : ByteArray) (d : Int) : List S51 × Int × Int :=
  match (pcs s s.size (sk false (bl s))).find? (fun x => x.f0 == 0) with
  | some x => ([], x.f1, 4)
  | none => rdR d s.size (pcs s s.size (sk false (bl s))) [(0, [])]
theorem bmay {d : Nat} (h : d ≤ 65536) : budget_May.f 0 0 0 (d : Int) = some true := by
  unfold budget_May.f budget_Widest.f
  rw [Option.bind_some]
  have e : ∀ x y : Int, 0 ≤ x → x ≤ y → budget_between.f x y = some true := fun x y h1 h2 => by
    unfold budget_between.f
    rw [if_pos (show x ≥ 0 from h1), decide_eq_true h2]
  dsimp only
  rw [e 0 1099511627776 (by omega) (by omega), Option.bind_some, if_pos rfl, e 0 1048576 (by omega) (by omega), Option.bind_some, if_pos rfl, e 0 65536 (by omega) (by omega), Option.bind_some, if_pos rfl, e (d : Int) 65536 (by omega) (by omega), Option.bind_some]
theorem read_tells {s : ByteArray} (hs : s.size ≤ 65536) {d : Nat} (hd : d ≤ 65536) : Tells (fun k => alidadelaw13_read.f k s (d : Int)) (rdO s d) := by
  refine Tells.of (fun k => (by rw [alidadelaw13_read.f, bmay hd, Option.bind_some, if_pos rfl])) ?_
  have hw := words_tells (s := s) (by omega)
  rw [if_neg (by omega)] at hw
  refine Tells.bind hw ?_
  have hlen := pcs_len s s.size (sk false (bl s))
  unfold lex_resL rdO
  cases hf : (pcs s s.size (sk false (bl s))).find? (fun x => x.f0 == 0) with
  | some x => exact Tells.of (fun k => if_neg (show ¬ (4 : Int) = 0 by omega)) (Tells.const _)
  | none =>
    refine Tells.of (fun k => (if_pos (show (0 : Int) = 0 from rfl))) ?_
    refine Tells.of (fun k => (if_pos (show (pcs s s.size (sk false (bl s))).length ≤ 65536 by omega))) ?_
    dsimp only
    rw [show [((0 : Int), ([] : List S51))] = ([] : List (Int × List S51)).reverse ++ [(0, [])] from rfl, rd_rev]
    exact Tells.const _
end Go.Proofs.YtgikmpgpccfiiaaT
