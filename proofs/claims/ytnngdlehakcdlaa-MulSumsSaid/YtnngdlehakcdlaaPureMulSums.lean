/- The sum of products of two lists is the document's. -/
import Derived.Test.YtnngdlehakcdlaaMulSumsRef
namespace Go.Proofs.Ytnngdlehakcdlaa.Pure
open Go.RowKit Go.Proofs.Ytnngdlehakcdlaa.PMul Go.Proofs.YtnngdlehakcdlaaW.PrintWords Go.Proofs.YtnngdlehakcdlaaW.PrintLast Go.Proofs.YtnngdlehakcdlaaV

def Tells {α : Type} (f : Nat → Option α) (r : α) : Prop := ∃ n, ∀ k, n ≤ k → f k = some r
theorem Tells.step {α : Type} {f g : Nat → Option α} {r : α} (h : ∀ k, f (k + 1) = g k) (hg : Tells g r) : Tells f r := by
  obtain ⟨n, hn⟩ := hg
  refine ⟨n + 1, fun k hk => ?_⟩
  obtain ⟨m, rfl⟩ : ∃ m, k = m + 1 := ⟨k - 1, by omega⟩
  rw [h m]; exact hn m (by omega)
theorem Tells.const {α : Type} (r : α) : Tells (fun _ => some r) r := ⟨0, fun _ _ => rfl⟩
theorem Tells.ex {α : Type} {f : Nat → Option α} {r : α} (h : Tells f r) : ∃ k, f k = some r := by
  obtain ⟨n, hn⟩ := h
  exact ⟨n, hn n (Nat.le_refl n)⟩
section
variable {α β : Type} {r : β} {a : α}
theorem bc {x : Option α} {h : Nat → α → Option β} (hx : x = some a) (hh : Tells (fun k => h k a) r) : Tells (fun k => x.bind (h k)) r := by
  obtain ⟨n, hn⟩ := hh
  exact ⟨n, fun k hk => by rw [hx]; exact hn k hk⟩
theorem bk {g : Nat → Option α} {h : Nat → α → Option β} (n : Nat) (hg : ∀ k, n ≤ k → g k = some a) (hh : Tells (fun k => h k a) r) : Tells (fun k => (g k).bind (h k)) r := by
  obtain ⟨m, hm⟩ := hh
  exact ⟨n + m, fun k hk => by
    show (g k).bind (h k) = some r
    rw [hg k (by omega)]; exact hm k (by omega)⟩
theorem bt {g : Nat → Option α} {h : Nat → α → Option β} (hg : Tells g a) (hh : Tells (fun k => h k a) r) : Tells (fun k => (g k).bind (h k)) r := by
  obtain ⟨n, hn⟩ := hg
  exact bk n hn hh
theorem ip {c : Prop} [Decidable c] {f g : Nat → Option β} (hc : c) (h : Tells f r) : Tells (fun k => if c then f k else g k) r := by
  obtain ⟨n, hn⟩ := h
  exact ⟨n, fun k hk => by
    show (if c then f k else g k) = some r
    rw [if_pos hc]; exact hn k hk⟩
theorem ino {c : Prop} [Decidable c] {f g : Nat → Option β} (hc : ¬ c) (h : Tells g r) : Tells (fun k => if c then f k else g k) r := by
  obtain ⟨n, hn⟩ := h
  exact ⟨n, fun k hk => by
    show (if c then f k else g k) = some r
    rw [if_neg hc]; exact hn k hk⟩
end
theorem w64s {z : Int} (h : -4611686018427387904 ≤ z ∧ z ≤ 4611686018427387904) : wrap64 z = z := by unfold wrap64; omega

/-- what is wrong with two rows and their product -/
def bad (a b : List Int) : Bool := !may a || !may b || (decide ((mulS a b).length = 0) && decide (a.length > 0) && decide (b.length > 0))
def sumS (acc : List Int) : List (List Int) → List (List Int) → List Int
  | a :: x, b :: y => if bad a b = true then [] else if (addS acc (mulS a b)).length = 0 ∧ acc.length + (mulS a b).length > 0 then [] else sumS (addS acc (mulS a b)) x y
  | _, _ => acc
theorem sumS_may : ∀ (x y : List (List Int)) (acc : List Int), may acc = true → may (sumS acc x y) = true
  | [], _, acc, h => by rw [sumS]; exact h; intros; simp_all
  | a :: x, [], acc, h => by rw [sumS]; exact h; intros; simp_all
  | a :: x, b :: y, acc, h => by
    rw [sumS]
    split
    · rfl
    · split
      · rfl
      · exact sumS_may x y _ (addS_may _ _)
theorem drop_cons {α : Type} {l : List α} {i : Nat} (h : i < l.length) : l.drop i = l[i] :: l.drop (i + 1) := List.drop_eq_getElem_cons h
theorem rdL {xs : List (List Int)} {i : Nat} (h : i < xs.length) : rd_L1 xs (i : Int) = xs[i] := by
  unfold rd_L1
  rw [Int.toNat_natCast, List.getD_eq_getElem?_getD, List.getElem?_eq_getElem h]; rfl
def Fine (l : List (List Int)) : Prop := l.length ≤ 1000 ∧ ∀ r ∈ l, ok r = true ∧ r.length ≤ 1000

set_option maxHeartbeats 200000 in
theorem sum_tells {x y : List (List Int)} (hx : Fine x) (hy : Fine y) {n : Nat} (hn : n = min x.length y.length) (d : Nat) : ∀ (i : Nat) (acc : List Int), i + d = n → ok acc = true → may acc = true →
    Tells (fun k => mul_Sum.l0 k x y acc (n : Int) (i : Int)) (sumS acc (x.drop i) (y.drop i)) := by
  induction d with
  | zero =>
    intro i acc hi oa ma
    refine Tells.step (fun k => (by rw [mul_Sum.l0])) (ino (by omega) ?_)
    have : sumS acc (x.drop i) (y.drop i) = acc := by
      rcases Nat.le_total x.length y.length with h | h
      · rw [show x.drop i = [] from List.drop_eq_nil_of_le (by omega), sumS]; intros; simp_all
      · rw [show y.drop i = [] from List.drop_eq_nil_of_le (by omega), sumS]; intros; simp_all
    rw [this]
    exact Tells.const _
  | succ d ih =>
    intro i acc hi oacc macc
    have h0 : i < x.length := by omega
    have h1 : i < y.length := by omega
    rw [drop_cons h0, drop_cons h1]
    obtain ⟨oa, la⟩ := hx.2 x[i] (List.getElem_mem h0)
    obtain ⟨ob, lb⟩ := hy.2 y[i] (List.getElem_mem h1)
    have hx1 := hx.1
    have lacc := may_length macc
    have lp := may_length (mulS_may x[i] y[i])
    obtain ⟨a, ea⟩ : ∃ a, a = x[i] := ⟨_, rfl⟩
    obtain ⟨b, eb⟩ : ∃ b, b = y[i] := ⟨_, rfl⟩
    have ra := rdL h0
    have rb := rdL h1
    rw [← ea] at oa la ra lp ⊢
    rw [← eb] at ob lb rb lp ⊢
    have hj : Tells (fun k => mul_Sum.j1 k x y acc (mulS a b) (n : Int) (i : Int) (bad a b)) (sumS acc (a :: x.drop (i + 1)) (b :: y.drop (i + 1))) := by
      refine Tells.step (fun k => (by rw [mul_Sum.j1])) ?_
      rw [sumS]
      by_cases hb : bad a b = true
      · rw [if_pos hb]; exact ip hb (Tells.const _)
      rw [if_neg hb]
      refine ino hb (bc (add_f oacc (mulS_ok a b)) ?_)
      have hi2 : wrap64 ((i : Int) + 1) = ((i + 1 : Nat) : Int) := by rw [w64s (by omega)]; omega
      have hw : wrap64 ((acc.length : Int) + ((mulS a b).length : Int)) = ((acc.length + (mulS a b).length : Nat) : Int) := by rw [w64s (by omega)]; omega
      have hn := ih (i + 1) (addS acc (mulS a b)) (by omega) (addS_ok _ _) (addS_may _ _)
      rw [hw, hi2]
      clear hw hi2
      have cc : ((((addS acc (mulS a b)).length : Nat) : Int) = 0 ↔ (addS acc (mulS a b)).length = 0) ∧ (((acc.length + (mulS a b).length : Nat) : Int) > 0 ↔ acc.length + (mulS a b).length > 0) := by clear hn ih; exact ⟨by omega, by omega⟩
      by_cases c0 : (addS acc (mulS a b)).length = 0
      · refine ip (cc.1.2 c0) ?_
        by_cases c1 : acc.length + (mulS a b).length > 0
        · rw [if_pos (show (addS acc (mulS a b)).length = 0 ∧ acc.length + (mulS a b).length > 0 from ⟨c0, c1⟩)]; exact ip (cc.2.2 c1) (Tells.const _)
        · rw [if_neg (show ¬ ((addS acc (mulS a b)).length = 0 ∧ acc.length + (mulS a b).length > 0) from fun h => c1 h.2)]; exact ino (fun h => c1 (cc.2.1 h)) hn
      · rw [if_neg (show ¬ ((addS acc (mulS a b)).length = 0 ∧ acc.length + (mulS a b).length > 0) from fun h => c0 h.1)]; exact ino (fun h => c0 (cc.1.1 h)) hn
    refine Tells.step (fun k => (by rw [mul_Sum.l0, ra, rb])) (ip (by omega) (ip (by omega) (ip (by omega) (ip (by omega) ?_))))
    refine bk 1000000 (fun k hk => mul_f oa ob (by omega) (by omega) hk) (bc (may_f (by omega)) ?_)
    cases ma : may a with
    | false => have e : bad a b = true := by unfold bad; rw [ma]; rfl
               rw [e] at hj; exact ino (by decide) hj
    | true =>
      refine ip rfl (bc (may_f (by omega)) ?_)
      cases mb : may b with
      | false => have e : bad a b = true := by unfold bad; rw [ma, mb]; rfl
                 rw [e] at hj; exact ino (by decide) hj
      | true =>
        refine ip rfl ?_
        have e : bad a b = (decide ((mulS a b).length = 0) && decide (a.length > 0) && decide (b.length > 0)) := by unfold bad; rw [ma, mb]; rfl
        by_cases c0 : (mulS a b).length = 0
        · refine ip (by omega) ?_
          by_cases c1 : a.length > 0
          · rw [e, decide_eq_true c0, decide_eq_true c1, Bool.true_and, Bool.true_and] at hj
            have e3 : decide ((b.length : Int) > 0) = decide (b.length > 0) := by
              by_cases c2 : b.length > 0
              · rw [decide_eq_true c2, decide_eq_true (by omega)]
              · rw [decide_eq_false c2, decide_eq_false (by omega)]
            rw [e3]
            exact ip (by omega) hj
          · rw [e, decide_eq_false c1, Bool.and_false, Bool.false_and] at hj
            exact ino (by omega) hj
        · rw [e, decide_eq_false c0, Bool.false_and, Bool.false_and] at hj
          exact ino (by omega) hj

set_option maxHeartbeats 200000 in
theorem rsum_tells {x y : List (List Int)} (hx : Fine x) (hy : Fine y) (d : Nat) : ∀ (i : Nat) (acc : List Int), i + d = min x.length y.length → ok acc = true → may acc = true →
    Tells (fun k => alidaderef02_Sum.l0 k x y acc (i : Int)) (sumS acc (x.drop i) (y.drop i)) := by
  induction d with
  | zero =>
    intro i acc hi oa ma
    have hs : sumS acc (x.drop i) (y.drop i) = acc := by
      rcases Nat.le_total x.length y.length with h | h
      · rw [show x.drop i = [] from List.drop_eq_nil_of_le (by omega), sumS]; intros; simp_all
      · rw [show y.drop i = [] from List.drop_eq_nil_of_le (by omega), sumS]; intros; simp_all
    rw [hs]
    refine Tells.step (fun k => (by rw [alidaderef02_Sum.l0])) ?_
    have hj : Tells (fun k => alidaderef02_Sum.j1 k x y acc (i : Int) false) acc := Tells.step (fun k => (by rw [alidaderef02_Sum.j1])) (ino (by decide) (Tells.const _))
    by_cases c : i < x.length
    · refine ip (by omega) ?_
      rw [decide_eq_false (by omega)]
      exact hj
    · exact ino (by omega) hj
  | succ d ih =>
    intro i acc hi oacc macc
    have h0 : i < x.length := by omega
    have h1 : i < y.length := by omega
    rw [drop_cons h0, drop_cons h1]
    obtain ⟨oa, la⟩ := hx.2 x[i] (List.getElem_mem h0)
    obtain ⟨ob, lb⟩ := hy.2 y[i] (List.getElem_mem h1)
    have hx1 := hx.1
    have lacc := may_length macc
    have lp := may_length (mulS_may x[i] y[i])
    obtain ⟨a, ea⟩ : ∃ a, a = x[i] := ⟨_, rfl⟩
    obtain ⟨b, eb⟩ : ∃ b, b = y[i] := ⟨_, rfl⟩
    have ra := rdL h0
    have rb := rdL h1
    rw [← ea] at oa la ra lp ⊢
    rw [← eb] at ob lb rb lp ⊢
    have hj : Tells (fun k => alidaderef02_Sum.j2 k x y acc (i : Int) (mulS a b) (bad a b)) (sumS acc (a :: x.drop (i + 1)) (b :: y.drop (i + 1))) := by
      refine Tells.step (fun k => (by rw [alidaderef02_Sum.j2])) ?_
      rw [sumS]
      by_cases hb : bad a b = true
      · rw [if_pos hb]; exact ip hb (Tells.const _)
      rw [if_neg hb]
      refine ino hb (bk 300000 (fun k hk => radd_f oacc (mulS_ok a b) hk) ?_)
      have hi2 : wrap64 ((i : Int) + 1) = ((i + 1 : Nat) : Int) := by rw [w64s (by omega)]; omega
      have hw : wrap64 ((acc.length : Int) + ((mulS a b).length : Int)) = ((acc.length + (mulS a b).length : Nat) : Int) := by rw [w64s (by omega)]; omega
      have hn := ih (i + 1) (addS acc (mulS a b)) (by omega) (addS_ok _ _) (addS_may _ _)
      rw [hw, hi2]
      clear hw hi2
      have cc : ((((addS acc (mulS a b)).length : Nat) : Int) = 0 ↔ (addS acc (mulS a b)).length = 0) ∧ (((acc.length + (mulS a b).length : Nat) : Int) > 0 ↔ acc.length + (mulS a b).length > 0) := by clear hn ih; exact ⟨by omega, by omega⟩
      by_cases c0 : (addS acc (mulS a b)).length = 0
      · refine ip (cc.1.2 c0) ?_
        by_cases c1 : acc.length + (mulS a b).length > 0
        · rw [if_pos (show (addS acc (mulS a b)).length = 0 ∧ acc.length + (mulS a b).length > 0 from ⟨c0, c1⟩)]; exact ip (cc.2.2 c1) (Tells.const _)
        · rw [if_neg (show ¬ ((addS acc (mulS a b)).length = 0 ∧ acc.length + (mulS a b).length > 0) from fun h => c1 h.2)]; exact ino (fun h => c1 (cc.2.1 h)) hn
      · rw [if_neg (show ¬ ((addS acc (mulS a b)).length = 0 ∧ acc.length + (mulS a b).length > 0) from fun h => c0 h.1)]; exact ino (fun h => c0 (cc.1.1 h)) hn
    refine Tells.step (fun k => (by rw [alidaderef02_Sum.l0])) (ip (by omega) ?_)
    rw [decide_eq_true (show (i : Int) < (y.length : Int) by omega)]
    refine Tells.step (fun k => (by rw [alidaderef02_Sum.j1, ra, rb])) (ip rfl (ip (by omega) (ip (by omega) (ip (by omega) ?_))))
    refine bk 10000000000000 (fun k hk => rmul_f oa ob (by omega) (by omega) hk) (bc (rmay_f oa) ?_)
    cases ma : may a with
    | false => have e : bad a b = true := by unfold bad; rw [ma]; rfl
               rw [e] at hj; exact ino (by decide) hj
    | true =>
      refine ip rfl (bc (rmay_f ob) ?_)
      cases mb : may b with
      | false => have e : bad a b = true := by unfold bad; rw [ma, mb]; rfl
                 rw [e] at hj; exact ino (by decide) hj
      | true =>
        refine ip rfl ?_
        have e : bad a b = (decide ((mulS a b).length = 0) && decide (a.length > 0) && decide (b.length > 0)) := by unfold bad; rw [ma, mb]; rfl
        by_cases c0 : (mulS a b).length = 0
        · refine ip (by omega) ?_
          by_cases c1 : a.length > 0
          · rw [e, decide_eq_true c0, decide_eq_true c1, Bool.true_and, Bool.true_and] at hj
            have e3 : decide ((b.length : Int) > 0) = decide (b.length > 0) := by
              by_cases c2 : b.length > 0
              · rw [decide_eq_true c2, decide_eq_true (by omega)]
              · rw [decide_eq_false c2, decide_eq_false (by omega)]
            rw [e3]
            exact ip (by omega) hj
          · rw [e, decide_eq_false c1, Bool.and_false, Bool.false_and] at hj
            exact ino (by omega) hj
        · rw [e, decide_eq_false c0, Bool.false_and, Bool.false_and] at hj
          exact ino (by omega) hj

/-! ### whether lists are long -/
theorem mn_nat (a b : Nat) : mn (a : Int) (b : Int) = ((min a b : Nat) : Int) := by unfold mn; split <;> omega
theorem long_tells (x : List (List Int)) (d : Nat) : ∀ (i n : Nat), i + d = x.length → n ≤ 1400 → i ≤ n →
    (Tells (fun k => alidadelaw02_long.l0 k x (n : Int) (i : Int)) true) ∨
    (Tells (fun k => alidadelaw02_long.l0 k x (n : Int) (i : Int)) false ∧ x.length < 700 ∧ ∀ r ∈ x.drop i, r.length < 700) := by
  induction d with
  | zero =>
    intro i n hi hn hin
    by_cases c : n ≥ 700
    · refine .inl (Tells.step (fun k => (by rw [alidadelaw02_long.l0])) (ino (by omega) ?_))
      rw [decide_eq_true (show (n : Int) ≥ 700 by omega)]; exact Tells.const _
    · refine .inr ⟨Tells.step (fun k => (by rw [alidadelaw02_long.l0])) (ino (by omega) ?_), by omega, ?_⟩
      · rw [decide_eq_false (show ¬ (n : Int) ≥ 700 by omega)]; exact Tells.const _
      · rw [List.drop_eq_nil_of_le (by omega)]; intro r hr; cases hr
  | succ d ih =>
    intro i n hi hn hin
    have h0 : i < x.length := by omega
    by_cases c : n < 700
    · have hw : wrap64 (wrap64 ((n : Int) + 1) + mn 700 ((rd_L1 x (i : Int)).length : Int)) = ((n + 1 + min 700 x[i].length : Nat) : Int) := by
        rw [rdL h0, show (700 : Int) = ((700 : Nat) : Int) from rfl, mn_nat, w64s (z := (n : Int) + 1) (by omega), w64s (by omega)]; omega
      have hi2 : wrap64 ((i : Int) + 1) = ((i + 1 : Nat) : Int) := by rw [w64s (by omega)]; omega
      have hs : ∀ {b : Bool}, Tells (fun k => alidadelaw02_long.l0 k x ((n + 1 + min 700 x[i].length : Nat) : Int) ((i + 1 : Nat) : Int)) b → Tells (fun k => alidadelaw02_long.l0 k x (n : Int) (i : Int)) b := by
        intro b hb
        refine Tells.step (fun k => (by rw [alidadelaw02_long.l0, hw, hi2])) (ip (by omega) (ip (by omega) (ip (by omega) hb)))
      rcases ih (i + 1) (n + 1 + min 700 x[i].length) (by omega) (by omega) (by omega) with h | ⟨h, h2, h3⟩
      · exact .inl (hs h)
      · by_cases c2 : x[i].length < 700
        · refine .inr ⟨hs h, h2, fun r hr => ?_⟩
          rw [drop_cons h0] at hr
          rcases List.mem_cons.1 hr with rfl | hr
          · exact c2
          · exact h3 r hr
        · exfalso
          -- a row that long makes the count 700 or more: then it is told long
          have hlong : Tells (fun k => alidadelaw02_long.l0 k x ((n + 1 + min 700 x[i].length : Nat) : Int) ((i + 1 : Nat) : Int)) true := by
            refine Tells.step (fun k => (by rw [alidadelaw02_long.l0])) ?_
            by_cases c3 : i + 1 < x.length
            · refine ip (by omega) (ino (by omega) ?_)
              rw [decide_eq_true (by omega)]; exact Tells.const _
            · refine ino (by omega) ?_
              rw [decide_eq_true (by omega)]; exact Tells.const _
          obtain ⟨p, hp⟩ := h
          obtain ⟨q, hq⟩ := hlong
          have e1 := hp (p + q) (by omega)
          have e2 := hq (p + q) (by omega)
          rw [e1] at e2
          cases e2
    · refine .inl (Tells.step (fun k => (by rw [alidadelaw02_long.l0])) (ip (by omega) (ino (by omega) ?_)))
      rw [decide_eq_true (show (n : Int) ≥ 700 by omega)]; exact Tells.const _

theorem copies0 {x y : List (List Int)} (hx : Fine x) {r : Bool} (hr : Tells (fun k => alidadelaw02_MulSums.l1 k x y x [] 0) r) (d : Nat) : ∀ i : Nat, i + d = x.length → Tells (fun k => alidadelaw02_MulSums.l0 k x y (x.take i) (i : Int)) r := by
  induction d with
  | zero =>
    intro i hi
    refine Tells.step (fun k => (by rw [alidadelaw02_MulSums.l0])) (ino (by omega) ?_)
    rw [List.take_of_length_le (by omega)]; exact hr
  | succ d ih =>
    intro i hi
    have h0 : i < x.length := by omega
    have hx1 := hx.1
    obtain ⟨oa, la⟩ := hx.2 x[i] (List.getElem_mem h0)
    have hi2 : wrap64 ((i : Int) + 1) = ((i + 1 : Nat) : Int) := by rw [w64s (by omega)]; omega
    have hn := ih (i + 1) (by omega)
    rw [List.take_succ_eq_append_getElem h0] at hn
    refine Tells.step (fun k => (by rw [alidadelaw02_MulSums.l0, rdL h0, hi2])) (ip (by omega) (ip (by omega) (bc (copied_f (by omega)) (ip ?_ hn))))
    rw [List.length_take]; omega
theorem copies1 {x y z : List (List Int)} (hy : Fine y) {r : Bool} (hr : Tells (fun k => alidadelaw02_MulSums.l2 k x y z y 0) r) (d : Nat) : ∀ i : Nat, i + d = y.length → Tells (fun k => alidadelaw02_MulSums.l1 k x y z (y.take i) (i : Int)) r := by
  induction d with
  | zero =>
    intro i hi
    refine Tells.step (fun k => (by rw [alidadelaw02_MulSums.l1])) (ino (by omega) ?_)
    rw [List.take_of_length_le (by omega)]; exact hr
  | succ d ih =>
    intro i hi
    have h0 : i < y.length := by omega
    have hy1 := hy.1
    obtain ⟨oa, la⟩ := hy.2 y[i] (List.getElem_mem h0)
    have hi2 : wrap64 ((i : Int) + 1) = ((i + 1 : Nat) : Int) := by rw [w64s (by omega)]; omega
    have hn := ih (i + 1) (by omega)
    rw [List.take_succ_eq_append_getElem h0] at hn
    refine Tells.step (fun k => (by rw [alidadelaw02_MulSums.l1, rdL h0, hi2])) (ip (by omega) (ip (by omega) (bc (copied_f (by omega)) (ip ?_ hn))))
    rw [List.length_take]; omega
theorem works_t : Tells (fun k => (alidadelaw02_works.f k).bind fun t => some t) true := bk 2000000 (fun k hk => works_f hk) (Tells.const _)
theorem stands {x : List (List Int)} (hx : Fine x) (d : Nat) : ∀ i : Nat, i + d = x.length → Tells (fun k => alidadelaw02_MulSums.l3 k x x (i : Int)) true := by
  induction d with
  | zero =>
    intro i hi
    exact Tells.step (fun k => (by rw [alidadelaw02_MulSums.l3])) (ino (by omega) works_t)
  | succ d ih =>
    intro i hi
    have h0 : i < x.length := by omega
    have hx1 := hx.1
    obtain ⟨oa, la⟩ := hx.2 x[i] (List.getElem_mem h0)
    have hi2 : wrap64 ((i : Int) + 1) = ((i + 1 : Nat) : Int) := by rw [w64s (by omega)]; omega
    refine Tells.step (fun k => (by rw [alidadelaw02_MulSums.l3, rdL h0, hi2])) (ip (by omega) (ip (by omega) (ip (by omega) (bk 2000 (fun k hk => Same_f (by omega) (by omega)) ?_))))
    exact ip (decide_eq_true rfl) (ih (i + 1) (by omega))
theorem rounds {x y : List (List Int)} (hx : Fine x) (hy : Fine y) (d : Nat) : ∀ i : Nat, i + d = 2 → Tells (fun k => alidadelaw02_MulSums.l2 k x y x y (i : Int)) true := by
  induction d with
  | zero =>
    intro i hi
    have hst : Tells (fun k => alidadelaw02_MulSums.l3 k x x 0) true := stands hx x.length 0 (by omega)
    exact Tells.step (fun k => (by rw [alidadelaw02_MulSums.l2])) (ino (by omega) hst)
  | succ d ih =>
    intro i hi
    have hi2 : wrap64 ((i : Int) + 1) = ((i + 1 : Nat) : Int) := by rw [w64s (by omega)]; omega
    have e : mn (x.length : Int) (y.length : Int) = ((min x.length y.length : Nat) : Int) := mn_nat _ _
    have hS : Tells (fun k => mul_Sum.f k x y) (sumS [] x y) := by
      unfold mul_Sum.f
      rw [e]
      exact sum_tells hx hy rfl (min x.length y.length) 0 [] (by omega) rfl rfl
    have hR : Tells (fun k => alidaderef02_Sum.f k x y) (sumS [] x y) := by
      unfold alidaderef02_Sum.f
      exact rsum_tells hx hy (min x.length y.length) 0 [] (by omega) rfl rfl
    have hm := sumS_may x y [] rfl
    have hl := may_length hm
    refine Tells.step (fun k => (by rw [alidadelaw02_MulSums.l2, hi2])) (ip (by omega) (bt hS (bt hR (bk 70000 (fun k hk => Same_f (k := k) (a := sumS [] x y) (b := sumS [] x y) (by omega) (by omega)) (ip (decide_eq_true rfl) ?_)))))
    obtain ⟨n, hn⟩ := ih (i + 1) (by omega)
    refine ⟨n + 100000, fun k hk => ?_⟩
    obtain ⟨q, hq⟩ := spoil_any (k := k) hm (by omega)
    show (alidadelaw02_spoil.f k (sumS [] x y)).bind _ = some true
    rw [hq, Option.bind_some]
    exact hn k (by omega)
theorem MulSums (x y : List (List Int)) (hx : ∀ r ∈ x, ok r = true) (hy : ∀ r ∈ y, ok r = true) : ∃ k, alidadelaw02_MulSums.f k x y = some true := by
  refine Tells.ex (f := fun k => alidadelaw02_MulSums.f k x y) ?_
  unfold alidadelaw02_MulSums.f alidadelaw02_long.f
  have hlong : Tells (fun k => alidadelaw02_MulSums.j0 k x y true) true := Tells.step (fun k => (by rw [alidadelaw02_MulSums.j0])) (ip rfl works_t)
  rcases long_tells x x.length 0 0 (by omega) (by omega) (by omega) with h | ⟨h, h1, h2⟩
  · exact bt h (ip rfl hlong)
  · refine bt h (ino (by decide) ?_)
    rcases long_tells y y.length 0 0 (by omega) (by omega) (by omega) with g | ⟨g, g1, g2⟩
    · exact bt g hlong
    · refine bt g (Tells.step (fun k => (by rw [alidadelaw02_MulSums.j0])) (ino (by decide) ?_))
      have fx : Fine x := ⟨by omega, fun r hr => ⟨hx r hr, by have := h2 r hr; omega⟩⟩
      have fy : Fine y := ⟨by omega, fun r hr => ⟨hy r hr, by have := g2 r hr; omega⟩⟩
      have c2 : Tells (fun k => alidadelaw02_MulSums.l2 k x y x y 0) true := rounds fx fy 2 0 (by omega)
      have c1 : Tells (fun k => alidadelaw02_MulSums.l1 k x y x [] 0) true := copies1 fy c2 y.length 0 (by omega)
      have c0 : Tells (fun k => alidadelaw02_MulSums.l0 k x y [] 0) true := copies0 fx c1 x.length 0 (by omega)
      exact c0
end Go.Proofs.Ytnngdlehakcdlaa.Pure
