/- What is shown of nodes is read as they are: few nodes, what is shown, where each stands, what is read. -/
import Derived.Test.YtgikmpgpccfiiaaSxRead
import Derived.Test.YtgikmpgpccfiiaaPSxpx37
import Derived.Test.YtgikmpgpccfiiaaPSxpx28
import Derived.Test.YtgikmpgpccfiiaaPSxpx38
namespace Go.Proofs.YtgikmpgpccfiiaaT
open Go.RowKit Go.Proofs.Ytgikmpgpccfiiaa.PSxp Go.Proofs.YtgikmpgpccfiiaaW.PrintWords Go.Proofs.YtgikmpgpccfiiaaW.PrintLast
set_option linter.unusedVariables false
/-- Texts as they come in. -/
inductive Okl : List S51 → Prop
  | nil : Okl []
  | cons {x : S51} {r : List S51} (h1 : x.f2.size ≤ 9223372036854775807) (hk : Okl x.f3) (hr : Okl r) : Okl (x :: r)
/-- So many nodes, their texts short. -/
inductive Sml : List S51 → Nat → Prop
  | nil : Sml [] 0
  | cons {x : S51} {r : List S51} {a b : Nat} (h1 : x.f2.size < 60000) (hk : Sml x.f3 a) (hr : Sml r b) : Sml (x :: r) (a + b + 1)
theorem Sml.len {l : List S51} {c : Nat} (h : Sml l c) : l.length ≤ c := by
  induction h with
  | nil => exact Nat.le_refl _
  | cons h1 hk hr ihk ihr => rw [List.length_cons]; omega
theorem Sml.dp {l : List S51} {c : Nat} (h : Sml l c) : dpL l ≤ c := by
  induction h with
  | nil => rw [dpL_nil]; omega
  | cons h1 hk hr ihk ihr => rw [dpL_cons, dpN_eq]; split <;> omega
/-! ### large -/
mutual
def lgN : S51 → Nat
  | ⟨_, _, _, l⟩ => lgR l 0
def lgR : List S51 → Nat → Nat
  | [], n => min 3000 n
  | x :: r, n => if n < 3000 then lgR r (n + 1 + min 3000 (x.f2.size / 20) + lgN x) else min 3000 n
end
theorem lgN_eq (x : S51) : lgN x = lgR x.f3 0 := by cases x; rw [lgN]
theorem lg_le : ∀ (l : List S51) (n : Nat), lgR l n ≤ 3000
  | [], n => by rw [lgR]; omega
  | x :: r, n => by
    rw [lgR]
    split
    · exact lg_le r _
    · omega
theorem mn_nat (a b : Nat) : mn (a : Int) (b : Int) = ((min a b : Nat) : Int) := by
  unfold mn
  by_cases c : b < a
  · rw [if_pos (by omega)]; omega
  · rw [if_neg (by omega)]; omega
theorem w64id {z : Int} (h0 : -9223372036854775808 ≤ z) (h1 : z ≤ 9223372036854775807) : wrap64 z = z := by unfold wrap64; omega
theorem large_sum {n sz g : Nat} (c : n < 3000) (hg : g ≤ 3000) (hs : sz ≤ 9223372036854775807) : wrap64 (wrap64 (wrap64 ((n : Int) + 1) + mn 3000 (wrap64 ((sz : Int) / 20))) + (g : Int)) = ((n + 1 + min 3000 (sz / 20) + g : Nat) : Int) := by
  have e1 : wrap64 ((sz : Int) / 20) = ((sz / 20 : Nat) : Int) := by
    rw [w64id (by omega) (by omega)]; omega
  obtain ⟨q, hq⟩ : ∃ q, q = min 3000 (sz / 20) := ⟨_, rfl⟩
  have e3 : mn 3000 ((sz / 20 : Nat) : Int) = (q : Int) := by rw [hq]; exact mn_nat 3000 (sz / 20)
  rw [e1, e3, ← hq, w1 (by omega), wadd (by omega), wadd (by omega)]
theorem Okl.large {l : List S51} (h : Okl l) : ∀ (L : List S51) (j n : Nat), L.drop j = l → j ≤ n → n ≤ 20000 → Tells (fun k => alidadelaw13_large.l0 k L (n : Int) (j : Int)) ((lgR l n : Nat) : Int) := by
  induction h with
  | nil =>
    intro L j n hd hj hn
    have := nd_end hd
    refine Tells.step (fun k => (by rw [alidadelaw13_large.l0, if_neg (show ¬ (j : Int) < (L.length : Int) by omega)])) ?_
    rw [lgR, show (3000 : Int) = ((3000 : Nat) : Int) from rfl, mn_nat]
    exact Tells.const _
  | cons h1 hk hr ihk ihr =>
    rename_i x r
    intro L j n hd hj hn
    obtain ⟨hjl, hx, hd2⟩ := nd_at hd
    rw [lgR]
    by_cases c : n < 3000
    · rw [if_pos c]
      refine Tells.step (fun k => (by rw [alidadelaw13_large.l0, if_pos (show (j : Int) < (L.length : Int) by omega), if_pos (show (n : Int) < 3000 by omega), if_pos (show (0 : Int) ≤ (j : Int) by omega), hx])) ?_
      have h2 : Tells (fun k => alidadelaw13_large.f k x.f3) ((lgN x : Nat) : Int) := by
        rw [lgN_eq]
        exact Tells.step (g := fun k => alidadelaw13_large.l0 k x.f3 ((0 : Nat) : Int) ((0 : Nat) : Int)) (fun k => (by rw [alidadelaw13_large.f]; rfl)) (ihk x.f3 0 0 rfl (Nat.le_refl _) (by omega))
      refine Tells.bind h2 ?_
      have hl := lg_le x.f3 0
      rw [← lgN_eq] at hl
      rw [large_sum c hl h1, w1 (show j ≤ 140737488351232 by omega)]
      exact ihr L (j + 1) _ hd2 (by omega) (by omega)
    · rw [if_neg c]
      refine Tells.step (fun k => (by rw [alidadelaw13_large.l0, if_pos (show (j : Int) < (L.length : Int) by omega), if_neg (show ¬ (n : Int) < 3000 by omega)])) ?_
      rw [show (3000 : Int) = ((3000 : Nat) : Int) from rfl, mn_nat]
      exact Tells.const _
theorem large_tells {l : List S51} (h : Okl l) : Tells (fun k => alidadelaw13_large.f k l) ((lgR l 0 : Nat) : Int) :=
  Tells.step (g := fun k => alidadelaw13_large.l0 k l ((0 : Nat) : Int) ((0 : Nat) : Int)) (fun k => (by rw [alidadelaw13_large.f]; rfl)) (h.large l 0 0 rfl (Nat.le_refl _) (by omega))
theorem Okl.sml {l : List S51} (h : Okl l) : ∀ n, lgR l n < 3000 → ∃ c, Sml l c ∧ n + c ≤ lgR l n := by
  induction h with
  | nil => intro n hn; rw [lgR] at hn ⊢; exact ⟨0, .nil, by omega⟩
  | cons h1 hk hr ihk ihr =>
    rename_i x r
    intro n hn
    rw [lgR] at hn ⊢
    by_cases c : n < 3000
    · rw [if_pos c] at hn ⊢
      obtain ⟨b, hb, hb2⟩ := ihr _ hn
      have hl := lg_le x.f3 0
      rw [lgN_eq] at hb2 hn ⊢
      by_cases c2 : lgR x.f3 0 < 3000
      · obtain ⟨a, ha, ha2⟩ := ihk 0 c2
        exact ⟨a + b + 1, .cons (by omega) ha hb, by omega⟩
      · omega
    · rw [if_neg c] at hn; omega
/-! ### May -/
mutual
def mayN : S51 → Bool
  | ⟨a, _, t, l⟩ => if a = 0 then (bl t).isEmpty && mayL l else decide (a ≠ 1) && (decide (a ≠ 2) && (l.isEmpty && decide (kindL (bl t) = a)))
def mayL : List S51 → Bool
  | [] => true
  | x :: r => mayN x && mayL r
end
theorem mayN_eq (x : S51) : mayN x = if x.f0 = 0 then (bl x.f2).isEmpty && mayL x.f3 else decide (x.f0 ≠ 1) && (decide (x.f0 ≠ 2) && (x.f3.isEmpty && decide (kindL (bl x.f2) = x.f0))) := by cases x; rw [mayN]
theorem Sml.may {l : List S51} {c : Nat} (h : Sml l c) : (∀ x ∈ l, Tells (fun k => sexp_May.f k x.f0 x.f1 x.f2 x.f3) (mayN x)) ∧ Tells (fun k => sexp_May.g k l) (!mayL l) := by
  induction h with
  | nil => exact ⟨fun x hx => (by cases hx), Tells.step (fun k => (by rw [sexp_May.g])) (by rw [mayL]; exact Tells.const _)⟩
  | cons h1 hk hr ihk ihr =>
    rename_i x r a b
    have h2 : Tells (fun k => sexp_May.f k x.f0 x.f1 x.f2 x.f3) (mayN x) := by
      rw [mayN_eq]
      by_cases c0 : x.f0 = 0
      · rw [if_pos c0]
        by_cases c1 : bl x.f2 = []
        · refine Tells.step (fun k => (by rw [sexp_May.f, if_pos c0, if_pos (show x.f2.toList = ([] : List UInt8) by rw [bl_toList]; exact c1)])) ?_
          rw [c1]
          refine Tells.bind ihk.2 ?_
          rw [Bool.not_not]
          exact Tells.const _
        · refine Tells.step (g := fun _ => some false) (fun k => (by rw [sexp_May.f, if_pos c0, if_neg (show ¬ x.f2.toList = ([] : List UInt8) by rw [bl_toList]; exact c1)])) ?_
          have hne : (bl x.f2).isEmpty = false := by
            cases hb : bl x.f2 with
            | nil => exact absurd hb c1
            | cons _ _ => rfl
          rw [hne, Bool.false_and]
          exact Tells.const _
      · rw [if_neg c0]
        by_cases c1 : x.f0 = 1
        · refine Tells.step (g := fun _ => some false) (fun k => (by rw [sexp_May.f, if_neg c0, if_pos c1])) ?_
          rw [decide_eq_false (show ¬ x.f0 ≠ 1 from fun e => e c1), Bool.false_and]
          exact Tells.const _
        rw [decide_eq_true c1, Bool.true_and]
        by_cases c2 : x.f0 = 2
        · refine Tells.step (g := fun _ => some false) (fun k => (by rw [sexp_May.f, if_neg c0, if_neg c1, if_pos c2])) ?_
          rw [decide_eq_false (show ¬ x.f0 ≠ 2 from fun e => e c2), Bool.false_and]
          exact Tells.const _
        rw [decide_eq_true c2, Bool.true_and]
        cases hl : x.f3 with
        | nil =>
          refine Tells.step (fun k => (by rw [sexp_May.f, if_neg c0, if_neg c1, if_neg c2, if_pos (show (([] : List S51).length : Int) = 0 from rfl)])) ?_
          refine Tells.bind (kind_tells (s := x.f2) (by omega)) ?_
          exact Tells.const _
        | cons y z =>
          refine Tells.step (g := fun _ => some false) (fun k => (by rw [sexp_May.f, if_neg c0, if_neg c1, if_neg c2, if_neg (show ¬ ((y :: z).length : Int) = 0 by rw [List.length_cons]; omega)])) ?_
          exact Tells.const _
    refine ⟨fun y hy => ?_, ?_⟩
    · rcases List.mem_cons.1 hy with rfl | hy
      · exact h2
      · exact ihr.1 y hy
    · refine Tells.step (fun k => (by rw [sexp_May.g])) ?_
      refine Tells.bind h2 ?_
      rw [mayL]
      cases mayN x with
      | true => exact Tells.of (fun k => if_pos rfl) ihr.2
      | false => exact Tells.of (fun k => if_neg (by simp)) (Tells.const _)
/-! ### what is shown -/
mutual
def wrN : S51 → List UInt8
  | ⟨a, _, t, l⟩ => if a = 0 then bl t ++ ([40] ++ (wrL true l ++ [41])) else bl t
def wrL : Bool → List S51 → List UInt8
  | _, [] => []
  | b, x :: r => (if b = true then [] else [32]) ++ (wrN x ++ wrL false r)
end
theorem wrN_eq (x : S51) : wrN x = if x.f0 = 0 then bl x.f2 ++ ([40] ++ (wrL true x.f3 ++ [41])) else bl x.f2 := by cases x; rw [wrN]
theorem wrL_nil (b : Bool) : wrL b [] = [] := by rw [wrL]
theorem wrL_cons (b : Bool) (x : S51) (r : List S51) : wrL b (x :: r) = (if b = true then [] else [32]) ++ (wrN x ++ wrL false r) := by rw [wrL]
theorem sep_len (b : Bool) : ((if b = true then [] else [32] : List UInt8)).length = if b = true then 0 else 1 := by cases b <;> rfl
theorem wrN_len {x : S51} (h1 : x.f2.size < 60000) : (wrN x).length ≤ 60001 + (wrL true x.f3).length := by
  have := bl_size x.f2
  rw [wrN_eq]
  split
  · simp only [List.length_append, List.length_cons, List.length_nil]; omega
  · omega
theorem Sml.wlen {l : List S51} {c : Nat} (h : Sml l c) : ∀ b, (wrL b l).length ≤ 60002 * c := by
  induction h with
  | nil => intro b; rw [wrL_nil]; simp
  | cons h1 hk hr ihk ihr =>
    rename_i x r a c
    intro b
    have e1 := wrN_len h1
    have e2 := ihk true
    have e3 := ihr false
    rw [wrL_cons, List.length_append, List.length_append, sep_len]
    split <;> omega
theorem Sml.wr {l : List S51} {c : Nat} (h : Sml l c) : (∀ x ∈ l, Tells (fun k => sexp_writeL k x) (wrN x)) ∧ ∀ b, Tells (fun k => sexp_writeKids k b l) (wrL b l) := by
  induction h with
  | nil => exact ⟨fun x hx => (by cases hx), fun b => Tells.step (fun k => (by rw [sexp_writeKids])) (by rw [wrL_nil]; exact Tells.const _)⟩
  | cons h1 hk hr ihk ihr =>
    rename_i x r a c
    have h2 : Tells (fun k => sexp_writeL k x) (wrN x) := by
      rw [wrN_eq]
      by_cases c0 : x.f0 = 0
      · rw [if_pos c0]
        refine Tells.step (fun k => (by rw [sexp_writeL, if_pos c0])) ?_
        exact Tells.bind (ihk.2 true) (Tells.const _)
      · rw [if_neg c0]
        exact Tells.step (g := fun _ => some (bl x.f2)) (fun k => (by rw [sexp_writeL, if_neg c0]; rfl)) (Tells.const _)
    refine ⟨fun y hy => ?_, fun b => ?_⟩
    · rcases List.mem_cons.1 hy with rfl | hy
      · exact h2
      · exact ihr.1 y hy
    · refine Tells.step (fun k => (by rw [sexp_writeKids])) ?_
      refine Tells.bind h2 ?_
      refine Tells.bind (ihr.2 false) ?_
      rw [wrL_cons]
      exact Tells.const _
theorem Sml.mem {l : List S51} {c : Nat} (h : Sml l c) : ∀ x ∈ l, x.f2.size < 60000 ∧ ∃ a, Sml x.f3 a ∧ a + 1 ≤ c := by
  induction h with
  | nil => intro x hx; cases hx
  | cons h1 hk hr ihk ihr =>
    rename_i x r a c
    intro y hy
    rcases List.mem_cons.1 hy with rfl | hy
    · exact ⟨h1, a, hk, by omega⟩
    · obtain ⟨g1, b, g2, g3⟩ := ihr y hy
      exact ⟨g1, b, g2, by omega⟩
theorem Sml.show {l : List S51} {c : Nat} (h : Sml l c) (hc : c ≤ 3000) : ∀ x ∈ l, Tells (fun k => sexp_Show.f k x.f0 x.f1 x.f2 x.f3) (if mayN x = true then ⟨(wrN x).toArray⟩ else ⟨#[]⟩) := by
  intro x hx
  refine Tells.bind (h.may.1 x hx) ?_
  cases mayN x with
  | false => exact Tells.of (fun k => if_neg (by simp)) (Tells.const _)
  | true =>
    refine Tells.of (fun k => if_pos rfl) ?_
    refine Tells.bind (x := wrN x) (Tells.of (g := fun k => sexp_writeL k x) (fun k => (by cases x; rfl)) (h.wr.1 x hx)) ?_
    obtain ⟨g1, a, g2, g3⟩ := h.mem x hx
    have e1 := wrN_len g1
    have e2 := g2.wlen true
    rw [if_pos rfl]
    exact Tells.of (fun k => if_pos (by omega)) (Tells.const _)
theorem Sml.depth {l : List S51} {c : Nat} (h : Sml l c) (hc : c ≤ 3000) : ∀ x ∈ l, Tells (fun k => sexp_Depth.f k x.f0 x.f1 x.f2 x.f3) ((dpN x : Nat) : Int) := by
  induction h with
  | nil => intro x hx; cases hx
  | cons h1 hk hr ihk ihr =>
    rename_i x r a c
    intro y hy
    rcases List.mem_cons.1 hy with rfl | hy
    · by_cases c0 : y.f0 = 0
      · rw [dpN_eq, if_pos c0]
        refine Tells.step (fun k => (by rw [sexp_Depth.f, if_pos c0])) ?_
        have hkl := hk.len
        have hkd := hk.dp
        have := dp_loop (ihk (by omega)) (by omega) y.f3 0 0 rfl (by omega) (by omega)
        rw [Nat.zero_max] at this
        exact this
      · rw [dpN_eq, if_neg c0]
        exact Tells.step (g := fun _ => some (0 : Int)) (fun k => (by rw [sexp_Depth.f, if_neg c0])) (Tells.const _)
    · exact ihr (by omega) y hy
/-! ### where each stands -/
mutual
def pnN : Nat → S51 → S51
  | n, ⟨a, _, t, l⟩ => ⟨a, (n : Int), t, if a = 0 then pnL (n + 1) true l else []⟩
def pnL : Nat → Bool → List S51 → List S51
  | _, _, [] => []
  | n, b, x :: r => pnN (n + if b = true then 0 else 1) x :: pnL ((n + if b = true then 0 else 1) + (wrN x).length) false r
end
theorem pnN_eq (n : Nat) (x : S51) : pnN n x = ⟨x.f0, (n : Int), x.f2, if x.f0 = 0 then pnL (n + 1) true x.f3 else []⟩ := by cases x; rw [pnN]
theorem pnL_nil (n : Nat) (b : Bool) : pnL n b [] = [] := by rw [pnL]
theorem pnL_cons (n : Nat) (b : Bool) (x : S51) (r : List S51) : pnL n b (x :: r) = pnN (n + if b = true then 0 else 1) x :: pnL ((n + if b = true then 0 else 1) + (wrN x).length) false r := by rw [pnL]
theorem pnL_len : ∀ (l : List S51) (n : Nat) (b : Bool), (pnL n b l).length = l.length
  | [], n, b => by rw [pnL_nil]
  | x :: r, n, b => by rw [pnL_cons, List.length_cons, List.length_cons, pnL_len r]
/-- Each is the same. -/
theorem Sml.same {l : List S51} {c : Nat} (h : Sml l c) : (∀ x ∈ l, mayN x = true → ∀ n, Tells (fun k => sexp_Same.f k (pnN n x).f0 (pnN n x).f1 (pnN n x).f2 (pnN n x).f3 x.f0 x.f1 x.f2 x.f3) true) ∧ (mayL l = true → ∀ n b, Tells (fun k => sexp_Same.g k (pnL n b l) l) true) := by
  induction h with
  | nil => exact ⟨fun x hx => (by cases hx), fun _ n b => Tells.step (fun k => (by rw [pnL_nil, sexp_Same.g])) (Tells.const _)⟩
  | cons h1 hk hr ihk ihr =>
    rename_i x r a c
    have h2 : mayN x = true → ∀ n, Tells (fun k => sexp_Same.f k (pnN n x).f0 (pnN n x).f1 (pnN n x).f2 (pnN n x).f3 x.f0 x.f1 x.f2 x.f3) true := by
      intro hm n
      rw [mayN_eq] at hm
      rw [pnN_eq]
      dsimp only
      by_cases c0 : x.f0 = 0
      · rw [if_pos c0] at hm
        rw [if_pos c0]
        rw [Bool.and_eq_true] at hm
        refine Tells.step (fun k => (by rw [sexp_Same.f, if_pos rfl, if_pos rfl, if_pos (pnL_len _ _ _)])) ?_
        exact ihk.2 hm.2 _ _
      · rw [if_neg c0] at hm
        rw [if_neg c0]
        simp only [Bool.and_eq_true] at hm
        have e : x.f3 = [] := List.isEmpty_iff.1 hm.2.2.1
        rw [e]
        refine Tells.step (fun k => (by rw [sexp_Same.f, if_pos rfl, if_pos rfl, if_pos rfl])) ?_
        exact Tells.step (fun k => (by rw [sexp_Same.g])) (Tells.const _)
    refine ⟨fun y hy => ?_, fun hm n b => ?_⟩
    · rcases List.mem_cons.1 hy with rfl | hy
      · exact h2
      · exact ihr.1 y hy
    · rw [mayL, Bool.and_eq_true] at hm
      refine Tells.step (fun k => (by rw [pnL_cons, sexp_Same.g])) ?_
      refine Tells.bind (h2 hm.1 _) ?_
      exact Tells.of (fun k => if_pos rfl) (ihr.2 hm.2 _ _)
/-! ### pieces -/
theorem tk_app {p S : List UInt8} (h : ∀ x ∈ p, wc x = true) : tk (p ++ S) = p.length + tk S := by
  induction p with
  | nil => simp
  | cons c p ih =>
    have hc : wc c = true := h c (List.mem_cons_self ..)
    have := ih (fun x hx => h x (List.mem_cons_of_mem _ hx))
    unfold tk at this ⊢
    rw [List.cons_append, List.takeWhile_cons_of_pos hc, List.length_cons, this, List.length_cons]; omega
theorem tk_cons0 {c : UInt8} {l : List UInt8} (h : wc c = false) : tk (c :: l) = 0 := by
  unfold tk; rw [List.takeWhile_cons_of_neg (by simp [h])]; rfl
theorem sk_cons (c : UInt8) (l : List UInt8) : sk false (c :: l) = if c = 59 then 1 + sk true l else if blank c then 1 + sk false l else 0 := rfl
theorem wc_sk {c : UInt8} (h : wc c = true) (l : List UInt8) : sk false (c :: l) = 0 := by
  rw [sk_cons]
  have h59 : c ≠ 59 := by rintro rfl; exact absurd h (by decide)
  rw [if_neg h59, if_neg]
  intro b
  unfold blank at b
  simp only [Bool.or_eq_true, beq_iff_eq] at b
  rcases b with ((b | b) | b) | b <;> (rw [b] at h; exact absurd h (by decide))
theorem dg_wc {c : UInt8} (h : dg c.toNat = true) : wc c = true := by unfold wc sg; rw [h]; simp
theorem sg_wc {c : UInt8} (h : sg c.toNat = true) : wc c = true := by unfold wc; rw [h]; rfl
theorem tail_head : ∀ (l : List UInt8) (c : UInt8) (t : List UInt8), tailDot l = c :: t → c = 46
  | [], c, t, h => by cases h
  | d :: l, c, t, h => by
    unfold tailDot at h
    by_cases e : d = 46
    · rw [List.dropWhile_cons_of_neg (by simp [e])] at h
      injection h with h1 h2
      rw [← h1]; exact e
    · rw [List.dropWhile_cons_of_pos (by simp [e])] at h
      exact tail_head l c t h
theorem dgs_wc {l : List UInt8} (h : dgs l = true) : ∀ x ∈ l, wc x = true := fun x hx => dg_wc (List.all_eq_true.1 h x hx)
theorem sgs_wc {l : List UInt8} (h : sgs l = true) : ∀ x ∈ l, wc x = true := fun x hx => sg_wc (List.all_eq_true.1 h x hx)
theorem num_wc {l : List UInt8} (h : numL l = true) : ∀ x ∈ l, wc x = true := by
  unfold numL at h
  rw [Bool.and_eq_true] at h
  exact dgs_wc h.1
theorem sym_wc {l : List UInt8} (h : symL l = true) : ∀ x ∈ l, wc x = true := by
  cases l with
  | nil => intro x hx; cases hx
  | cons c r =>
    rw [symL_cons, Bool.and_eq_true, Bool.and_eq_true] at h
    exact sgs_wc h.1.1
theorem kind_wc {l : List UInt8} (h0 : kindL l ≠ 0) (h1 : kindL l ≠ 1) (h2 : kindL l ≠ 2) : l ≠ [] ∧ ∀ x ∈ l, wc x = true := by
  unfold kindL at h0 h1 h2
  by_cases c0 : l = []
  · rw [if_pos c0] at h0; exact absurd rfl h0
  rw [if_neg c0] at h0 h1 h2
  refine ⟨c0, ?_⟩
  by_cases c1 : l = [40]
  · rw [if_pos c1] at h1; exact absurd rfl h1
  rw [if_neg c1] at h0 h2
  by_cases c2 : l = [41]
  · rw [if_pos c2] at h2; exact absurd rfl h2
  rw [if_neg c2] at h0
  by_cases c3 : numL l = true
  · exact num_wc c3
  rw [if_neg c3] at h0
  by_cases c4 : decL l = true
  · unfold decL at c4
    rw [Bool.and_eq_true] at c4
    have hp := num_wc c4.1
    rw [← dot_app l]
    intro x hx
    rcases List.mem_append.1 hx with hx | hx
    · exact hp x hx
    · cases ht : tailDot l with
      | nil => rw [ht] at hx; cases hx
      | cons c t =>
        have c5 := c4.2
        rw [ht] at c5 hx
        dsimp only at c5
        rw [Bool.and_eq_true] at c5
        rcases List.mem_cons.1 hx with rfl | hx
        · rw [tail_head l _ t ht]; decide
        · exact dgs_wc c5.2 x hx
  rw [if_neg c4] at h0
  by_cases c5 : symL l = true
  · exact sym_wc c5
  rw [if_neg c5] at h0
  cases l with
  | nil => exact absurd rfl c0
  | cons c r =>
    dsimp only at h0
    by_cases c6 : c.toNat = 58 ∧ symL r = true
    · intro x hx
      rcases List.mem_cons.1 hx with rfl | hx
      · have : x = 58 := UInt8.toNat_inj.1 c6.1
        rw [this]; decide
      · exact sym_wc c6.2 x hx
    · rw [if_neg c6] at h0; exact absurd rfl h0
theorem pcs_end {s : ByteArray} {m n : Nat} (h : s.size ≤ n) : pcs s m n = [] := by
  cases m with
  | zero => rfl
  | succ m => rw [pcs, if_neg (by omega)]
end Go.Proofs.YtgikmpgpccfiiaaT
