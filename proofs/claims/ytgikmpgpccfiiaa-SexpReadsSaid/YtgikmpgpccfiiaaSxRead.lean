/- What is read of words: a stack of lists that are not ended; what is read stands, may be, and is as deep as the stack was high. -/
import Derived.Test.YtgikmpgpccfiiaaSxText
import Derived.Test.YtgikmpgpccfiiaaPSxpx25
import Derived.Test.YtgikmpgpccfiiaaPSxpx26
import Derived.Test.YtgikmpgpccfiiaaGPSxpx27toPSxpx32
import Derived.Test.YtgikmpgpccfiiaaGPSxpx27toPSxpx32
namespace Go.Proofs.YtgikmpgpccfiiaaT
open Go.RowKit Go.Proofs.Ytgikmpgpccfiiaa.PSxp Go.Proofs.YtgikmpgpccfiiaaW.PrintWords Go.Proofs.YtgikmpgpccfiiaaW.PrintLast
set_option linter.unusedVariables false
mutual
def dpN : S51 → Nat
 | ⟨a, _, _, l⟩ => if a = 0 then dpL l + 1 else 0
def dpL : List S51 → Nat
 | [] => 0
 | x :: r => max (dpN x) (dpL r)
end
theorem dpN_eq (x : S51) : dpN x = if x.f0 = 0 then dpL x.f3 + 1 else 0 := by cases x; rw [dpN]
theorem dpL_nil : dpL [] = 0 := by rw [dpL]
theorem dpL_cons (x : S51) (r : List S51) : dpL (x :: r) = max (dpN x) (dpL r) := by rw [dpL]
theorem dpL_app : ∀ (l m : List S51), dpL (l ++ m) = max (dpL l) (dpL m)
 | [], m => by rw [List.nil_append, dpL_nil]; omega
 | x :: l, m => by rw [List.cons_append, dpL_cons, dpL_cons, dpL_app l m]; omega
/-- Nodes stand one behind the other, from a place on, up to a place. -/
inductive St (s : ByteArray) : List S51 → Nat → Nat → Prop
 | nil (a : Nat) : St s [] a a
 | word {x : S51} {r : List S51} {a n b : Nat} (h1 : x.f1 = (n : Int)) (h2 : a ≤ n) (h3 : n + x.f2.size ≤ s.size) (h4 : x.f2 = s.extract n (n + x.f2.size)) (h5 : 0 < x.f2.size) (h6 : kindL (bl x.f2) = x.f0) (h0 : x.f0 ≠ 0 ∧ x.f0 ≠ 1 ∧ x.f0 ≠ 2) (h7 : x.f3 = []) (hr : St s r (n + x.f2.size) b) : St s (x :: r) a b
 | list {x : S51} {r : List S51} {a n e b : Nat} (h0 : x.f0 = 0) (h1 : x.f1 = (n : Int)) (h2 : a ≤ n) (h3 : n < s.size) (h4 : bt s (n : Int) = 40) (h5 : x.f2 = ⟨#[]⟩) (hk : St s x.f3 (n + 1) e) (hr : St s r e b) : St s (x :: r) a b
theorem St.le {s : ByteArray} {l : List S51} {a b : Nat} (h : St s l a b) : a ≤ b := by
 induction h with
 | nil a => exact Nat.le_refl _
 | word h1 h2 h3 h4 h5 h6 h0 h7 hr ih => omega
 | list h0 h1 h2 h3 h4 h5 hk hr ihk ihr => omega
theorem St.len {s : ByteArray} {l : List S51} {a b : Nat} (h : St s l a b) : l.length + a ≤ b := by
 induction h with
 | nil a => simp
 | word h1 h2 h3 h4 h5 h6 h0 h7 hr ih => rw [List.length_cons]; omega
 | list h0 h1 h2 h3 h4 h5 hk hr ihk ihr => rw [List.length_cons]; omega
theorem St.dp {s : ByteArray} {l : List S51} {a b : Nat} (h : St s l a b) : dpL l + a ≤ b := by
 induction h with
 | nil a => rw [dpL_nil]; omega
 | word h1 h2 h3 h4 h5 h6 h0 h7 hr ih => rw [dpL_cons, dpN_eq, if_neg h0.1]; omega
 | list h0 h1 h2 h3 h4 h5 hk hr ihk ihr => rw [dpL_cons, dpN_eq, if_pos h0]; have := hr.le; omega
theorem St.end_le {s : ByteArray} {l : List S51} {a b : Nat} (h : St s l a b) (ha : a ≤ s.size) : b ≤ s.size := by
 induction h with
 | nil a => exact ha
 | word h1 h2 h3 h4 h5 h6 h0 h7 hr ih => exact ih h3
 | list h0 h1 h2 h3 h4 h5 hk hr ihk ihr => exact ihr (ihk h3)
theorem St.app {s : ByteArray} {l m : List S51} {a b c : Nat} (h : St s l a b) (hm : St s m b c) : St s (l ++ m) a c := by
 induction h with
 | nil a => exact hm
 | word h1 h2 h3 h4 h5 h6 h0 h7 hr ih => exact .word h1 h2 h3 h4 h5 h6 h0 h7 (ih hm)
 | list h0 h1 h2 h3 h4 h5 hk hr ihk ihr => exact .list h0 h1 h2 h3 h4 h5 hk (ihr hm)
theorem nd_at {L : List S51} {j : Nat} {x : S51} {r : List S51} (h : L.drop j = x :: r) : j < L.length ∧ rd_T51 L (j : Int) = x ∧ L.drop (j + 1) = r := by
 have hj : j < L.length := by
  rcases Nat.lt_or_ge j L.length with c | c
  ·exact c
  ·rw [List.drop_eq_nil_of_le c] at h; cases h
 rw [List.drop_eq_getElem_cons hj] at h
 injection h with e1 e2
 refine ⟨hj, ?_, e2⟩
 unfold rd_T51
 rw [Int.toNat_natCast, List.getD_eq_getElem?_getD, List.getElem?_eq_getElem hj, e1]; rfl
theorem nd_end {L : List S51} {j : Nat} (h : L.drop j = []) : L.length ≤ j := by
 have := congrArg List.length h
 rw [List.length_drop] at this
 have e : L.length - j = 0 := this
 omega
/-! ### May -/
theorem may_g : ∀ (l : List S51), (∀ x ∈ l, Tells (fun k => sexp_May.f k x.f0 x.f1 x.f2 x.f3) true) → Tells (fun k => sexp_May.g k l) false
 | [], _ => Tells.step (fun k => (by rw [sexp_May.g])) (Tells.const _)
 | x :: r, h => by
  refine Tells.step (fun k => (by rw [sexp_May.g])) ?_
  refine Tells.bind (h x (List.mem_cons_self ..)) ?_
  exact Tells.of (fun k => if_pos rfl) (may_g r (fun y hy => h y (List.mem_cons_of_mem _ hy)))
theorem St.may {s : ByteArray} (hs : s.size ≤ 140737488351232) {l : List S51} {a b : Nat} (h : St s l a b) : ∀ x ∈ l, Tells (fun k => sexp_May.f k x.f0 x.f1 x.f2 x.f3) true := by
 induction h with
 | nil a => intro x hx; cases hx
 | word h1 h2 h3 h4 h5 h6 h0 h7 hr ih =>
  rename_i x r a n b
  intro y hy
  rcases List.mem_cons.1 hy with rfl | hy
  ·refine Tells.step (fun k => (by rw [sexp_May.f, if_neg h0.1, if_neg h0.2.1, if_neg h0.2.2, if_pos (show (y.f3.length : Int) = 0 by rw [h7]; rfl)])) ?_
   have hk := kind_tells (s := y.f2) (by omega)
   rw [h6] at hk
   refine Tells.bind hk ?_
   exact Tells.of (fun k => by rw [beq_self_eq_true]) (Tells.const true)
  ·exact ih y hy
 | list h0 h1 h2 h3 h4 h5 hk hr ihk ihr =>
  rename_i x r a n e b
  intro y hy
  rcases List.mem_cons.1 hy with rfl | hy
  ·refine Tells.step (fun k => (by rw [sexp_May.f, if_pos h0, if_pos (show y.f2.toList = ([] : List UInt8) by rw [h5, bl_toList]; rfl)])) ?_
   exact Tells.bind (may_g _ ihk) (Tells.const true)
  ·exact ihr y hy
/-! ### Depth -/
theorem mx_nat (a b : Nat) : mx (a : Int) (b : Int) = ((max a b : Nat) : Int) := by
 unfold mx
 by_cases c : a < b
 ·rw [if_pos (by omega)]; omega
 ·rw [if_neg (by omega)]; omega
theorem dp_loop {L : List S51} (h : ∀ x ∈ L, Tells (fun k => sexp_Depth.f k x.f0 x.f1 x.f2 x.f3) ((dpN x : Nat) : Int)) (hl : L.length ≤ 1000000) : ∀ (r : List S51) (j m : Nat), L.drop j = r → m ≤ 1000000 → dpL r ≤ 1000000 →
  Tells (fun k => sexp_Depth.l0 k (m : Int) L (L.length : Int) (j : Int)) ((max m (dpL r) + 1 : Nat) : Int)
 | [], j, m, hd, hm, hp => by
  have := nd_end hd
  refine Tells.step (fun k => (by rw [sexp_Depth.l0, if_neg (show ¬ (j : Int) < (L.length : Int) by omega), w1 (by omega)])) ?_
  rw [dpL_nil, Nat.max_zero]
  exact Tells.const _
 | x :: r, j, m, hd, hm, hp => by
  obtain ⟨hj, hx, hd2⟩ := nd_at hd
  rw [dpL_cons] at hp ⊢
  have hxm : x ∈ L := List.mem_of_mem_drop (i := j) (by rw [hd]; exact List.mem_cons_self ..)
  refine Tells.step (fun k => (by rw [sexp_Depth.l0, if_pos (show (j : Int) < (L.length : Int) by omega), if_pos (show (0 : Int) ≤ (j : Int) by omega), if_pos (show (j : Int) < (L.length : Int) by omega), hx, w1 (by omega)])) ?_
  refine Tells.bind (h x hxm) ?_
  have := dp_loop h hl r (j + 1) (max m (dpN x)) hd2 (by omega) (by omega)
  rw [← mx_nat, Nat.max_assoc] at this
  exact this
theorem St.depth {s : ByteArray} {l : List S51} {a b : Nat} (h : St s l a b) (hb : b ≤ 1000000) : ∀ x ∈ l, Tells (fun k => sexp_Depth.f k x.f0 x.f1 x.f2 x.f3) ((dpN x : Nat) : Int) := by
 induction h with
 | nil a => intro x hx; cases hx
 | word h1 h2 h3 h4 h5 h6 h0 h7 hr ih =>
  rename_i x r a n b
  intro y hy
  rcases List.mem_cons.1 hy with rfl | hy
  ·rw [dpN_eq, if_neg h0.1]
   exact Tells.step (g := fun _ => some (0 : Int)) (fun k => (by rw [sexp_Depth.f, if_neg h0.1])) (Tells.const _)
  ·exact ih hb y hy
 | list h0 h1 h2 h3 h4 h5 hk hr ihk ihr =>
  rename_i x r a n e b
  intro y hy
  have := hr.le
  have hkl := hk.len
  have hkd := hk.dp
  rcases List.mem_cons.1 hy with rfl | hy
  ·rw [dpN_eq, if_pos h0]
   refine Tells.step (fun k => (by rw [sexp_Depth.f, if_pos h0])) ?_
   have := dp_loop (ihk (by omega)) (by omega) y.f3 0 0 rfl (by omega) (by omega)
   rw [Nat.zero_max] at this
   exact this
  ·exact ihr hb y hy
/-! ### stands -/
theorem ex_size' (s : ByteArray) {a b : Nat} (h : b ≤ s.size) : (s.extract a b).size = b - a := by
 rw [bl_size, bl_extract, List.length_take, List.length_drop, ← bl_size]; omega
theorem St.stands {s : ByteArray} (hs : s.size ≤ 1000000) {l : List S51} {a b : Nat} (h : St s l a b) : ∀ (L : List S51) (j : Nat), L.drop j = l → L.length ≤ 1000000 → Tells (fun k => alidadelaw13_stands.l0 k s L (a : Int) (j : Int)) ((b : Int), true) := by
 induction h with
 | nil a =>
  intro L j hd hL
  have := nd_end hd
  exact Tells.step (fun k => (by rw [alidadelaw13_stands.l0, if_neg (show ¬ (j : Int) < (L.length : Int) by omega)])) (Tells.const _)
 | word h1 h2 h3 h4 h5 h6 h0 h7 hr ih =>
  rename_i x r a n b
  intro L j hd hL
  obtain ⟨hj, hx, hd2⟩ := nd_at hd
  refine Tells.step (fun k => (by rw [alidadelaw13_stands.l0, if_pos (show (j : Int) < (L.length : Int) by omega), if_pos (show (0 : Int) ≤ (j : Int) by omega), hx, h1, if_neg (show ¬ (n : Int) < (a : Int) by omega), decide_eq_false (show ¬ (n : Int) ≥ (s.size : Int) by omega)])) ?_
  refine Tells.step (fun k => (by rw [alidadelaw13_stands.j1, if_neg (by simp), if_neg h0.1, wadd (show n + x.f2.size ≤ 140737488351232 by omega), w1 (show j ≤ 140737488351232 by omega), if_neg (show ¬ wrap64 ((s.size : Int) - (n : Int)) < (x.f2.size : Int) by unfold wrap64; omega), if_pos (show (0 : Int) ≤ (n : Int) by omega), if_pos (show (n : Int) ≤ ((n + x.f2.size : Nat) : Int) by omega), if_pos (show ((n + x.f2.size : Nat) : Int) ≤ (s.size : Int) by omega), Int.toNat_natCast, Int.toNat_natCast, ← h4, if_pos rfl,
   if_neg (show ¬ x.f2.toList = ([] : List UInt8) by intro e; rw [bl_toList] at e; have := bl_size x.f2; rw [e, List.length_nil] at this; omega)])) ?_
  exact ih L (j + 1) hd2 hL
 | list h0 h1 h2 h3 h4 h5 hk hr ihk ihr =>
  rename_i x r a n e b
  intro L j hd hL
  obtain ⟨hj, hx, hd2⟩ := nd_at hd
  have hkl := hk.len
  have hke := hk.end_le h3
  refine Tells.step (fun k => (by rw [alidadelaw13_stands.l0, if_pos (show (j : Int) < (L.length : Int) by omega), if_pos (show (0 : Int) ≤ (j : Int) by omega), hx, h1, if_neg (show ¬ (n : Int) < (a : Int) by omega), decide_eq_false (show ¬ (n : Int) ≥ (s.size : Int) by omega)])) ?_
  refine Tells.step (fun k => (by rw [alidadelaw13_stands.j1, if_neg (by simp), if_pos h0, w1 (show n ≤ 140737488351232 by omega)])) ?_
  refine Tells.bind (Tells.step (g := fun k => alidadelaw13_stands.l0 k s x.f3 ((n + 1 : Nat) : Int) ((0 : Nat) : Int)) (fun k => (by rw [alidadelaw13_stands.f]; rfl)) (ihk x.f3 0 rfl (by omega))) ?_
  refine Tells.of (fun k => (by rw [if_pos rfl, if_pos (show (0 : Int) ≤ (n : Int) by omega), if_pos (show (n : Int) < (s.size : Int) by omega), h4])) ?_
  refine Tells.step (fun k => (by rw [alidadelaw13_stands.j2, if_neg (by simp), w1 (by omega)])) ?_
  exact ihr L (j + 1) hd2 hL
/-! ### the stack, its top first -/
def rdR (deep len : Int) : List S32 → List (Int × List S51) → List S51 × Int × Int
 | [], gs => if 1 < gs.length then ([], len, 4) else ((gs.headD (0, [])).2, 0, 0)
 | _ :: _, [] => ([], 0, 0)
 | w :: ws, (a, l) :: gs =>
  if w.f0 = 1 then (if ((gs.length + 1 : Nat) : Int) > deep then ([], w.f1, 46) else rdR deep len ws ((w.f1, []) :: (a, l) :: gs))
  else if w.f0 = 2 then (match gs with | [] => ([], w.f1, 4) | (b, m) :: gs => rdR deep len ws ((b, m ++ [⟨0, a, ⟨#[]⟩, l⟩]) :: gs))
  else rdR deep len ws ((a, l ++ [⟨w.f0, w.f1, w.f3, []⟩]) :: gs)
/-! ### the words -/
inductive Ws (s : ByteArray) : List S32 → Nat → Prop
 | nil (a : Nat) : Ws s [] a
 | cons {w : S32} {r : List S32} {a n : Nat} (h1 : w.f1 = (n : Int)) (h2 : a ≤ n) (h3 : n + w.f3.size ≤ s.size) (h4 : w.f3 = s.extract n (n + w.f3.size)) (h5 : 0 < w.f3.size) (h6 : kindL (bl w.f3) = w.f0) (h0 : w.f0 ≠ 0) (hr : Ws s r (n + w.f3.size)) : Ws s (w :: r) a
theorem pcs_ws {s : ByteArray} : ∀ (m n a : Nat), n ≤ s.size → a ≤ n → (∀ x ∈ pcs s m n, x.f0 ≠ 0) → Ws s (pcs s m n) a
 | 0, n, a, _, _, _ => .nil _
 | m + 1, n, a, hn, ha, h => by
  unfold pcs at h ⊢
  by_cases c : n < s.size
  ·rw [if_pos c] at h ⊢
   have h1 := pend_le c
   have h2 := next_le (s := s) (n := pend s n) h1.2
   have hz : (s.extract n (pend s n)).size = pend s n - n := ex_size' s h1.2
   refine .cons (n := n) rfl ha ?_ ?_ ?_ rfl (h _ (List.mem_cons_self ..)) ?_
   ·show n + (s.extract n (pend s n)).size ≤ s.size
    omega
   ·show s.extract n (pend s n) = s.extract n (n + (s.extract n (pend s n)).size)
    rw [hz, show n + (pend s n - n) = pend s n by omega]
   ·show 0 < (s.extract n (pend s n)).size
    omega
   ·show Ws s _ (n + (s.extract n (pend s n)).size)
    exact pcs_ws m _ _ h2 (by omega) (fun x hx => h x (List.mem_cons_of_mem _ hx))
  ·rw [if_neg c]
   exact .nil _
theorem pcs_at {s : ByteArray} : ∀ (m n : Nat) (x : S32), x ∈ pcs s m n → ∃ a : Nat, x.f1 = (a : Int) ∧ a < s.size
 | 0, n, x, h => by cases h
 | m + 1, n, x, h => by
  unfold pcs at h
  by_cases c : n < s.size
  ·rw [if_pos c] at h
   rcases List.mem_cons.1 h with rfl | h
   ·exact ⟨n, rfl, c⟩
   ·exact pcs_at m _ x h
  ·rw [if_neg c] at h; cases h
theorem kind_open {l : List UInt8} (h : kindL l = 1) : l = [40] := by
 unfold kindL at h
 by_cases c0 : l = []
 ·rw [if_pos c0] at h; omega
 rw [if_neg c0] at h
 by_cases c1 : l = [40]
 ·exact c1
 rw [if_neg c1] at h
 split at h
 ·omega
 split at h
 ·omega
 split at h
 ·omega
 split at h
 ·omega
 cases l with
 | nil => exact absurd rfl c0
 | cons c r =>
  dsimp only at h
  split at h <;> omega
theorem open_bt {s : ByteArray} {t : ByteArray} {n : Nat} (h4 : t = s.extract n (n + t.size)) (h5 : 0 < t.size) (h : bl t = [40]) : bt s (n : Int) = 40 := by
 have h2 : bl t = ((bl s).drop n).take (n + t.size - n) := by rw [← bl_extract, ← h4]
 rw [h] at h2
 cases hd : (bl s).drop n with
 | nil => rw [hd, List.take_nil] at h2; cases h2
 | cons c r =>
  obtain ⟨z, hz⟩ : ∃ z, n + t.size - n = z + 1 := ⟨t.size - 1, by omega⟩
  rw [hd, hz, List.take_succ_cons] at h2
  injection h2 with e1 e2
  rw [bl_bt s hd, ← e1]; rfl
/-- What the stack holds at a place. -/
def Inv (s : ByteArray) (deep : Nat) : List (Int × List S51) → Nat → Prop
 | [], _ => False
 | [(_, l)], p => dpL l ≤ deep ∧ ∃ e, St s l 0 e ∧ e ≤ p
 | (a, l) :: g :: gs, p => dpL l + (gs.length + 1) ≤ deep ∧ ∃ n e : Nat, a = (n : Int) ∧ n < s.size ∧ bt s (n : Int) = 40 ∧ St s l (n + 1) e ∧ e ≤ p ∧ Inv s deep (g :: gs) n
theorem Inv.upto {s : ByteArray} {deep : Nat} {gs : List (Int × List S51)} {p q : Nat} (h : Inv s deep gs p) (hpq : p ≤ q) : Inv s deep gs q := by
 match gs, h with
 | [(_, l)], ⟨h1, e, h2, h3⟩ => exact ⟨h1, e, h2, by omega⟩
 | (a, l) :: g :: gs, ⟨h1, n, e, h2, h3, h4, h5, h6, h7⟩ => exact ⟨h1, n, e, h2, h3, h4, h5, by omega, h7⟩
/-- A node that stands behind all is added to the top. -/
theorem Inv.add {s : ByteArray} {deep : Nat} {a : Int} {l : List S51} {gs : List (Int × List S51)} {p e : Nat} {x : S51} (h : Inv s deep ((a, l) :: gs) p) (hx : ∀ q, q ≤ p → St s [x] q e) (hd : dpN x + gs.length ≤ deep) {P : Nat} (hP : e ≤ P) : Inv s deep ((a, l ++ [x]) :: gs) P := by
 match gs, h with
 | [], ⟨h1, e1, h2, h3⟩ => exact ⟨by rw [dpL_app, dpL_cons, dpL_nil]; rw [List.length_nil] at hd; omega, e, h2.app (hx e1 h3), hP⟩
 | g :: gs, ⟨h1, n, e1, h2, h3, h4, h5, h6, h7⟩ => exact ⟨by rw [dpL_app, dpL_cons, dpL_nil]; rw [List.length_cons] at hd; omega, n, e, h2, h3, h4, h5.app (hx e1 h6), hP, h7⟩
def Good (s : ByteArray) (deep : Nat) (R : List S51 × Int × Int) : Prop :=
 (∃ l e, R = (l, 0, 0) ∧ St s l 0 e ∧ dpL l ≤ deep) ∨ ∃ a : Nat, a ≤ s.size ∧ (R = ([], (a : Int), 4) ∨ (R = ([], (a : Int), 46) ∧ a < s.size ∧ bt s (a : Int) = 40))
theorem rd_good {s : ByteArray} {deep : Nat} : ∀ (ws : List S32) (gs : List (Int × List S51)) (p : Nat), Ws s ws p → p ≤ s.size → Inv s deep gs p → Good s deep (rdR deep s.size ws gs) := by
 intro ws
 induction ws with
 | nil =>
  intro gs p hw hp h
  unfold rdR
  match gs, h with
  | [(a, l)], ⟨h1, e, h2, h3⟩ => exact .inl ⟨l, e, rfl, h2, h1⟩
  | (a, l) :: g :: gs, h =>
   rw [if_pos (by simp)]
   exact .inr ⟨s.size, Nat.le_refl _, .inl rfl⟩
 | cons w ws ih =>
  intro gs p hw hp h
  cases hw with
  | cons h1 h2 h3 h4 h5 h6 h0 hr =>
  rename_i n
  match gs, h with
  | (a, l) :: gs, h =>
  unfold rdR
  by_cases c1 : w.f0 = 1
  ·rw [if_pos c1]
   have hb : bt s (n : Int) = 40 := open_bt h4 h5 (kind_open (h6.trans c1))
   by_cases c : ((gs.length + 1 : Nat) : Int) > deep
   ·rw [if_pos c]
    exact .inr ⟨n, by omega, .inr ⟨by rw [h1], by omega, hb⟩⟩
   ·rw [if_neg c]
    exact ih _ _ hr h3 ⟨by rw [dpL_nil]; omega, n, n + 1, h1, by omega, hb, .nil _, by omega, h.upto h2⟩
  ·rw [if_neg c1]
   by_cases c2 : w.f0 = 2
   ·rw [if_pos c2]
    match gs, h with
    | [], h => exact .inr ⟨n, by omega, .inl (by rw [h1])⟩
    | (b, m) :: gs, ⟨g1, n1, e1, g2, g3, g4, g5, g6, g7⟩ =>
     refine ih _ _ hr h3 (g7.add (e := e1) (fun q hq => .list rfl g2 hq g3 g4 rfl g5 (.nil _)) ?_ (by omega))
     rw [dpN_eq, if_pos rfl]
     show dpL l + 1 + gs.length ≤ deep
     omega
   ·rw [if_neg c2]
    refine ih _ _ hr h3 (h.add (e := n + w.f3.size) (fun q hq => .word h1 (by omega) h3 h4 h5 h6 ⟨h0, c1, c2⟩ rfl (.nil _)) ?_ (Nat.le_refl _))
    rw [dpN_eq, if_neg h0]
    match gs, h with
    | [], h => simp
    | g :: gs, ⟨g1, _⟩ => rw [List.length_cons]; omega
/-! ### with another depth -/
/-! ### Read -/
def rdO (s : ByteArray) (d : Int) : List S51 × Int × Int :=
 match (pcs s s.size (sk false (bl s))).find? (fun x => x.f0 == 0) with
 | some x => ([], x.f1, 4)
 | none => rdR d s.size (pcs s s.size (sk false (bl s))) [(0, [])]
theorem bmay {d : Nat} (h : d ≤ 65536) : budget_May.f 0 0 0 (d : Int) = some true := by
 unfold budget_May.f budget_Widest.f
 rw [Option.bind_some]
 have e : ∀ x y : Int, 0 ≤ x → x ≤ y → budget_between.f x y = some true := fun x y h1 h2 => by
  unfold budget_between.f
  rw [if_pos (show x ≥ 0 from h1), decide_eq_true h2]
 dsimp only
 rw [e 0 1099511627776 (by omega) (by omega), Option.bind_some, if_pos rfl, e 0 1048576 (by omega) (by omega), Option.bind_some, if_pos rfl, e 0 65536 (by omega) (by omega), Option.bind_some, if_pos rfl, e (d : Int) 65536 (by omega) (by omega), Option.bind_some]
theorem rdO_good (s : ByteArray) (d : Nat) : Good s d (rdO s d) := by
 unfold rdO
 have hg := sk_le (bl s) false
 rw [← bl_size] at hg
 cases hf : (pcs s s.size (sk false (bl s))).find? (fun x => x.f0 == 0) with
 | some x =>
  obtain ⟨a, h1, h2⟩ := pcs_at _ _ x (List.mem_of_find?_eq_some hf)
  exact .inr ⟨a, by omega, .inl (by dsimp only; rw [h1])⟩
 | none =>
  have hz : ∀ x ∈ pcs s s.size (sk false (bl s)), x.f0 ≠ 0 := fun x hx e => by
   have := List.find?_eq_none.1 hf x hx
   rw [e] at this
   exact this rfl
  exact rd_good _ _ 0 (pcs_ws _ _ 0 hg (Nat.zero_le _) hz) (Nat.zero_le _) ⟨by rw [dpL_nil]; omega, 0, .nil _, Nat.le_refl _⟩
end Go.Proofs.YtgikmpgpccfiiaaT
