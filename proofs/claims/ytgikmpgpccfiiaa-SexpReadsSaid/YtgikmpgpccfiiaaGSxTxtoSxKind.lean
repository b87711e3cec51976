/- Texts of the seat Ytgikmpgpccfiiaa that belong together, joined. -/
import Derived.Test.YtgikmpgpccfiiaaPSxpx21
import Derived.Lib.Strings
import Derived.Lib.Bytealg
/- What the words' small functions compute, in plain lists of bytes: the kinds of bytes, gaps, kinds of words. -/
namespace Go.Proofs.YtgikmpgpccfiiaaT
open Go.RowKit Go.Proofs.Ytgikmpgpccfiiaa.PSxp Go.Proofs.YtgikmpgpccfiiaaW.PrintWords Go.Proofs.YtgikmpgpccfiiaaW.PrintLast
set_option linter.unusedVariables false
/-- With rounds enough it tells r. -/
def Tells {α : Type} (f : Nat → Option α) (r : α) : Prop := ∃ n, ∀ k, n ≤ k → f k = some r
theorem Tells.step {α : Type} {f g : Nat → Option α} {r : α} (h : ∀ k, f (k + 1) = g k) (hg : Tells g r) : Tells f r := by
 obtain ⟨n, hn⟩ := hg
 refine ⟨n + 1, fun k hk => ?_⟩
 obtain ⟨k', rfl⟩ : ∃ k', k = k' + 1 := ⟨k - 1, by omega⟩
 rw [h]
 exact hn k' (by omega)
theorem Tells.const {α : Type} (r : α) : Tells (fun _ => some r) r := ⟨0, fun _ _ => rfl⟩
theorem Tells.of {α : Type} {f g : Nat → Option α} {r : α} (h : ∀ k, f k = g k) (hg : Tells g r) : Tells f r := by
 obtain ⟨n, hn⟩ := hg
 exact ⟨n, fun k hk => by rw [h]; exact hn k hk⟩
theorem Tells.bind {α β : Type} {g : Nat → Option α} {h : Nat → α → Option β} {x : α} {r : β} (hg : Tells g x) (hh : Tells (fun k => h k x) r) : Tells (fun k => (g k).bind (h k)) r := by
 obtain ⟨n, hn⟩ := hg
 obtain ⟨m, hm⟩ := hh
 refine ⟨max n m, fun k hk => ?_⟩
 show (g k).bind (h k) = some r
 rw [hn k (by omega), Option.bind_some]
 exact hm k (by omega)
theorem Tells.fixed {α : Type} {f : Nat → Option α} {r : α} (n : Nat) (hm : ∀ k, LeO (f k) (f (k + 1))) (h : f n = some r) : Tells f r := by
 refine ⟨n, fun k hk => ?_⟩
 induction k with
 | zero =>
  obtain rfl : n = 0 := by omega
  exact h
 | succ k ih =>
  by_cases e : n = k + 1
  ·rw [← e]; exact h
  ·exact hm k r (ih (by omega))
/-! ### Bytes -/
def bl (s : ByteArray) : List UInt8 := s.data.toList
theorem bl_size (s : ByteArray) : s.size = (bl s).length := (Array.length_toList (xs := s.data)).symm
theorem bl_toList (s : ByteArray) : s.toList = bl s := Lib.toList_data s
theorem bl_bt (s : ByteArray) {n : Nat} {c : UInt8} {r : List UInt8} (h : (bl s).drop n = c :: r) : bt s (n : Int) = (c.toNat : Int) := by
 have hn : n < (bl s).length := by
  rcases Nat.lt_or_ge n (bl s).length with h1 | h1
  ·exact h1
  ·rw [List.drop_eq_nil_of_le h1] at h; cases h
 have hc : (bl s)[n] = c := by
  have := List.drop_eq_getElem_cons hn
  rw [h] at this
  injection this with h1 h2
  exact h1.symm
 have hs : n < s.size := by rw [bl_size]; exact hn
 have h2 := bt_at s (n : Int) (by simpa using hs)
 rw [← h2, ← hc]
 simp [bl, ByteArray.getElem_eq_getElem_data]
theorem bl_extract (s : ByteArray) (a b : Nat) : bl (s.extract a b) = ((bl s).drop a).take (b - a) := by
 unfold bl
 rw [ByteArray.data_extract, Array.toList_extract]
theorem drop_pos {s : ByteArray} {n : Nat} {c : UInt8} {r : List UInt8} (h : (bl s).drop n = c :: r) : n < s.size ∧ (bl s).drop (n + 1) = r := by
 have hn : n < (bl s).length := by
  rcases Nat.lt_or_ge n (bl s).length with h1 | h1
  ·exact h1
  ·rw [List.drop_eq_nil_of_le h1] at h; cases h
 refine ⟨by rw [bl_size]; exact hn, ?_⟩
 rw [← List.drop_drop, h]
 rfl
theorem drop_end {s : ByteArray} {n : Nat} (h : (bl s).drop n = []) : s.size ≤ n := by
 rw [bl_size]
 exact List.drop_eq_nil_iff.1 h
theorem w1 {n : Nat} (h : n ≤ 140737488351232) : wrap64 ((n : Int) + 1) = ((n + 1 : Nat) : Int) := by unfold wrap64; omega
theorem wadd {n m : Nat} (h : n + m ≤ 140737488351232) : wrap64 ((n : Int) + (m : Int)) = ((n + m : Nat) : Int) := by unfold wrap64; omega
/-! ### The kinds of bytes -/
def dg (n : Nat) : Bool := decide (48 ≤ n) && decide (n ≤ 57)
def sg (n : Nat) : Bool := decide (97 ≤ n ∧ n ≤ 122) || decide (65 ≤ n ∧ n ≤ 90) || dg n || [126, 33, 64, 36, 37, 94, 38, 42, 95, 45, 43, 61, 60, 62, 46, 63, 47].contains n
def wt (n : Nat) : Int := if dg n then 10 else if n = 58 then 2 else if sg n then 6 else 0
theorem what_tab : ∀ n : Fin 256, lex_what.f 4 ((n.val : Nat) : Int) = some (wt n.val) := by decide +kernel
theorem sign_tab : ∀ n : Fin 256, alidaderef12_sign.f 20 ((n.val : Nat) : Int) = some (sg n.val) := by decide +kernel
theorem digit_tab : ∀ n : Fin 256, alidaderef12_digit.f ((n.val : Nat) : Int) = some (dg n.val) := by decide +kernel
theorem and8_tab : ∀ n : Fin 256, decide (Go.bits .and .i64 (wt n.val) 8 = 0) = !dg n.val := by decide +kernel
theorem and12_tab : ∀ n : Fin 256, decide (Go.bits .and .i64 (wt n.val) 12 = 0) = !sg n.val := by decide +kernel
theorem and4_tab : ∀ n : Fin 256, decide (Go.bits .and .i64 (wt n.val) 4 = 0) = !(sg n.val && !dg n.val) := by decide +kernel
theorem wt_tab : ∀ n : Fin 256, decide (wt n.val = 0) = !(sg n.val || decide (n.val = 58)) := by decide +kernel
theorem what_tells (c : UInt8) : Tells (fun k => lex_what.f k (c.toNat : Int)) (wt c.toNat) := Tells.fixed 4 (fun k => lex_what.mono _ k) (what_tab ⟨c.toNat, c.toNat_lt⟩)
theorem sign_tells (c : UInt8) : Tells (fun k => alidaderef12_sign.f k (c.toNat : Int)) (sg c.toNat) := Tells.fixed 20 (fun k => alidaderef12_sign.mono _ k) (sign_tab ⟨c.toNat, c.toNat_lt⟩)
theorem digit_eq (c : UInt8) : alidaderef12_digit.f (c.toNat : Int) = some (dg c.toNat) := digit_tab ⟨c.toNat, c.toNat_lt⟩
theorem and8 (c : UInt8) : (Go.bits .and .i64 (wt c.toNat) 8 = 0) ↔ dg c.toNat = false := by
 have := and8_tab ⟨c.toNat, c.toNat_lt⟩
 rw [← decide_eq_true_iff (p := Go.bits .and .i64 (wt c.toNat) 8 = 0), this]
 simp
theorem and12 (c : UInt8) : (Go.bits .and .i64 (wt c.toNat) 12 = 0) ↔ sg c.toNat = false := by
 have := and12_tab ⟨c.toNat, c.toNat_lt⟩
 rw [← decide_eq_true_iff (p := Go.bits .and .i64 (wt c.toNat) 12 = 0), this]
 simp
theorem and4 (c : UInt8) : (Go.bits .and .i64 (wt c.toNat) 4 = 0) ↔ (sg c.toNat && !dg c.toNat) = false := by
 have := and4_tab ⟨c.toNat, c.toNat_lt⟩
 rw [← decide_eq_true_iff (p := Go.bits .and .i64 (wt c.toNat) 4 = 0), this]
 show (!(sg c.toNat && !dg c.toNat)) = true ↔ _
 cases (sg c.toNat && !dg c.toNat) <;> simp
theorem wt0 (c : UInt8) : (wt c.toNat = 0) ↔ (sg c.toNat = false ∧ c.toNat ≠ 58) := by
 have := wt_tab ⟨c.toNat, c.toNat_lt⟩
 rw [← decide_eq_true_iff (p := wt c.toNat = 0), this]
 simp
end Go.Proofs.YtgikmpgpccfiiaaT

/- The kind of a word: the program's and the document's are one function of the word's bytes. -/
namespace Go.Proofs.YtgikmpgpccfiiaaT
open Go.RowKit Go.Proofs.Ytgikmpgpccfiiaa.PSxp Go.Proofs.YtgikmpgpccfiiaaW.PrintWords Go.Proofs.YtgikmpgpccfiiaaW.PrintLast
set_option linter.unusedVariables false
def dgs (l : List UInt8) : Bool := l.all (fun c => dg c.toNat)
def sgs (l : List UInt8) : Bool := l.all (fun c => sg c.toNat)
def numL (l : List UInt8) : Bool := dgs l && (match l with | [] => false | c :: r => c.toNat != 48 || r.isEmpty)
def symL (l : List UInt8) : Bool := match l with | [] => false | c :: r => sgs (c :: r) && !dg c.toNat && decide ((c :: r).length ≤ 64)
theorem symL_cons (c : UInt8) (r : List UInt8) : symL (c :: r) = (sgs (c :: r) && !dg c.toNat && decide ((c :: r).length ≤ 64)) := rfl
theorem all_loop {s : ByteArray} (hs : s.size ≤ 140737488351232) (m : Int) (p : UInt8 → Bool) (hp : ∀ c : UInt8, Go.bits .and .i64 (wt c.toNat) m = 0 ↔ p c = false) :
  ∀ (r : List UInt8) (n : Nat), (bl s).drop n = r → n ≤ s.size → Tells (fun k => lex_all.l0 k s m (s.size : Int) (n : Int)) (r.all p)
 | [], n, h, hn => by
  have he := drop_end h
  refine Tells.step (fun k => (by rw [lex_all.l0, if_neg (show ¬ ((n : Int) < (s.size : Int)) by omega)])) ?_
  exact Tells.const _
 | c :: r, n, h, hn => by
  obtain ⟨h1, h2⟩ := drop_pos h
  have ih := all_loop hs m p hp r (n + 1) h2 (by omega)
  refine Tells.step (fun k => (by rw [lex_all.l0, if_pos (show (n : Int) < (s.size : Int) by omega), if_pos (show (0 : Int) ≤ (n : Int) by omega), if_pos (show (n : Int) < (s.size : Int) by omega), bl_bt s h, w1 (by omega)])) ?_
  refine Tells.bind (what_tells c) ?_
  cases hc : p c with
  | false =>
   refine Tells.of (fun k => (by rw [if_pos ((hp c).2 hc)])) ?_
   simp only [List.all_cons, hc, Bool.false_and]
   exact Tells.const _
  | true =>
   refine Tells.of (fun k => (by rw [if_neg (fun e => by rw [(hp c).1 e] at hc; cases hc)])) ?_
   simp only [List.all_cons, hc, Bool.true_and]
   exact ih
theorem all8 {s : ByteArray} (hs : s.size ≤ 140737488351232) : Tells (fun k => lex_all.f k s 8) (dgs (bl s)) := all_loop hs 8 _ and8 (bl s) 0 rfl (Nat.zero_le _)
theorem all12 {s : ByteArray} (hs : s.size ≤ 140737488351232) : Tells (fun k => lex_all.f k s 12) (sgs (bl s)) := all_loop hs 12 _ and12 (bl s) 0 rfl (Nat.zero_le _)
theorem numeral_tells {s : ByteArray} (hs : s.size ≤ 140737488351232) : Tells (fun k => lex_numeral.f k s) (numL (bl s)) := by
 unfold lex_numeral.f
 rw [bl_toList]
 cases h : bl s with
 | nil =>
  refine Tells.of (fun k => (by rw [if_pos rfl])) ?_
  exact Tells.const _
 | cons c r =>
  refine Tells.of (fun k => (by rw [if_neg (by simp)])) ?_
  refine Tells.bind (all8 hs) ?_
  rw [h]
  unfold numL
  cases hd : dgs (c :: r) with
  | false => exact Tells.const _
  | true =>
   have hb : bt s 0 = (c.toNat : Int) := bl_bt s (n := 0) h
   have hz : 0 < s.size := by rw [bl_size, h]; simp
   refine Tells.of (fun k => (by rw [if_pos rfl, if_pos (show (0 : Int) < (s.size : Int) by omega), hb])) ?_
   by_cases e : c.toNat = 48
   ·refine Tells.of (fun k => (by rw [if_pos (by omega)])) ?_
    have e2 : ((s.size : Int) == 1) = ((true && (c.toNat != 48 || r.isEmpty)) : Bool) := by
     rw [bl_size, h, e]
     cases r with
     | nil => rfl
     | cons d r => simp; omega
    rw [e2]
    exact Tells.const _
   ·refine Tells.of (fun k => (by rw [if_neg (by omega)])) ?_
    have e2 : ((true && (c.toNat != 48 || r.isEmpty)) : Bool) = true := by simp [e]
    rw [e2]
    exact Tells.const _
theorem symbol_tells {s : ByteArray} (hs : s.size ≤ 140737488351232) : Tells (fun k => lex_symbol.f k s) (symL (bl s)) := by
 unfold lex_symbol.f
 rw [bl_toList]
 have hl := bl_size s
 cases h : bl s with
 | nil =>
  refine Tells.of (fun k => (by rw [if_pos rfl])) ?_
  exact Tells.const _
 | cons c r =>
  rw [h] at hl
  refine Tells.of (fun k => (by rw [if_neg (by simp)])) ?_
  rw [symL_cons]
  by_cases e : s.size ≤ 64
  ·have hb : bt s 0 = (c.toNat : Int) := bl_bt s (n := 0) h
   have hz : 0 < s.size := by rw [hl]; simp
   refine Tells.of (fun k => (by rw [if_pos (show (s.size : Int) ≤ 64 by omega), if_pos (show (0 : Int) < (s.size : Int) by omega), hb])) ?_
   refine Tells.bind (what_tells c) ?_
   have e3 : decide ((c :: r).length ≤ 64) = true := decide_eq_true (by omega)
   rw [e3, Bool.and_true]
   cases hc : (sg c.toNat && !dg c.toNat) with
   | false =>
    refine Tells.of (fun k => (by rw [if_pos ((and4 c).2 hc)])) ?_
    have e4 : (sgs (c :: r) && !dg c.toNat) = false := by
     simp only [sgs, List.all_cons]
     revert hc
     cases sg c.toNat <;> cases dg c.toNat <;> simp
    rw [e4]
    exact Tells.const _
   | true =>
    refine Tells.of (fun k => (by rw [if_neg (fun e => by rw [(and4 c).1 e] at hc; cases hc)])) ?_
    have e4 : (sgs (c :: r) && !dg c.toNat) = sgs (c :: r) := by
     revert hc
     cases sg c.toNat <;> cases dg c.toNat <;> simp
    rw [e4, ← h]
    exact Tells.bind (all12 hs) (Tells.const _)
  ·refine Tells.of (fun k => (by rw [if_neg (show ¬ (s.size : Int) ≤ 64 by omega)])) ?_
   have e3 : decide ((c :: r).length ≤ 64) = false := decide_eq_false (by omega)
   rw [e3, Bool.and_false]
   exact Tells.const _
/-! ### The document's -/
theorem rnum_loop {s : ByteArray} (hs : s.size ≤ 140737488351232) : ∀ (r : List UInt8) (n : Nat), (bl s).drop n = r → n ≤ s.size → dgs ((bl s).take n) = true → Tells (fun k => alidaderef12_numeral.l0 k s (n : Int)) (numL (bl s))
 | [], n, h, hn, hd => by
  have he := drop_end h
  have hall : dgs (bl s) = true := by
   rw [List.take_of_length_le (by rw [← bl_size]; exact he)] at hd
   exact hd
  refine Tells.step (fun k => (by rw [alidaderef12_numeral.l0, if_neg (show ¬ ((n : Int) < (s.size : Int)) by omega), bl_toList])) ?_
  unfold numL
  rw [hall]
  have hl := bl_size s
  cases hb : bl s with
  | nil =>
   refine Tells.of (fun k => (by rw [if_neg (by simp), if_pos rfl])) ?_
   exact Tells.const _
  | cons c r =>
   rw [hb] at hl
   have hbt : bt s 0 = (c.toNat : Int) := bl_bt s (n := 0) hb
   by_cases e : c :: r = [48]
   ·refine Tells.of (fun k => (by rw [if_pos e])) ?_
    injection e with e1 e2
    subst e1; subst e2
    exact Tells.const _
   ·refine Tells.of (fun k => (by rw [if_neg e, if_neg (by simp), if_pos (show (0 : Int) < (s.size : Int) by rw [hl]; simp), hbt])) ?_
    have e2 : ((c.toNat : Int) != 48) = ((true && (c.toNat != 48 || r.isEmpty)) : Bool) := by
     by_cases e3 : c.toNat = 48
     ·have e5 : c = 48 := UInt8.toNat_inj.1 e3
      cases r with
      | nil => exact absurd (by rw [e5]) e
      | cons d r => rw [e3]; rfl
     ·have : ((c.toNat : Int) != 48) = true := bne_iff_ne.mpr (by omega)
      rw [this]
      simp [e3]
    rw [e2]
    exact Tells.const _
 | c :: r, n, h, hn, hd => by
  obtain ⟨h1, h2⟩ := drop_pos h
  have htk : (bl s).take (n + 1) = (bl s).take n ++ [c] := by
   rw [List.take_add_one]
   congr 1
   have h3 : (bl s)[n]? = some c := by
    have := congrArg List.head? h
    rwa [List.head?_drop] at this
   rw [h3]; rfl
  refine Tells.step (fun k => (by rw [alidaderef12_numeral.l0, if_pos (show (n : Int) < (s.size : Int) by omega), if_pos (show (0 : Int) ≤ (n : Int) by omega), bl_bt s h, w1 (by omega), digit_eq, Option.bind_some])) ?_
  cases hc : dg c.toNat with
  | true =>
   refine Tells.of (fun k => (by rw [if_pos rfl])) ?_
   exact rnum_loop hs r (n + 1) h2 (by omega) (by
    unfold dgs at hd ⊢
    rw [htk, List.all_append, hd]; simp [hc])
  | false =>
   refine Tells.of (fun k => (by rw [if_neg (by simp)])) ?_
   have e : numL (bl s) = false := by
    have : dgs (bl s) = false := by
     unfold dgs
     rw [← List.take_append_drop n (bl s), h, List.all_append, List.all_cons, hc]
     simp
    unfold numL
    rw [this]; rfl
   rw [e]
   exact Tells.const _
theorem rnumeral_tells {s : ByteArray} (hs : s.size ≤ 140737488351232) : Tells (fun k => alidaderef12_numeral.f k s) (numL (bl s)) := rnum_loop hs (bl s) 0 rfl (Nat.zero_le _) (by simp [dgs])
theorem rsym_loop {s : ByteArray} (hs : s.size ≤ 140737488351232) : ∀ (r : List UInt8) (n : Nat), (bl s).drop n = r → n ≤ s.size → sgs ((bl s).take n) = true → Tells (fun k => alidaderef12_symbol.l0 k s (n : Int)) (symL (bl s))
 | [], n, h, hn, hd => by
  have he := drop_end h
  have hall : sgs (bl s) = true := by
   rw [List.take_of_length_le (by rw [← bl_size]; exact he)] at hd
   exact hd
  refine Tells.step (fun k => (by rw [alidaderef12_symbol.l0, if_neg (show ¬ ((n : Int) < (s.size : Int)) by omega)])) ?_
  have hl := bl_size s
  cases hb : bl s with
  | nil =>
   rw [hb] at hl
   refine Tells.of (fun k => (by rw [if_neg (show ¬ (s.size : Int) ≥ 1 by rw [hl]; simp)])) ?_
   exact Tells.const _
  | cons c r =>
   rw [hb] at hl hall
   have hbt : bt s 0 = (c.toNat : Int) := bl_bt s (n := 0) hb
   have hz : 0 < s.size := by rw [hl]; simp
   refine Tells.of (fun k => (by rw [if_pos (show (s.size : Int) ≥ 1 by omega)])) ?_
   rw [symL_cons, hall, Bool.true_and]
   by_cases e : s.size ≤ 64
   ·refine Tells.of (fun k => (by rw [if_pos (show (s.size : Int) ≤ 64 by omega), if_pos (show (0 : Int) < (s.size : Int) by omega), hbt, digit_eq, Option.bind_some])) ?_
    rw [decide_eq_true (show (c :: r).length ≤ 64 by omega), Bool.and_true]
    exact Tells.const _
   ·refine Tells.of (fun k => (by rw [if_neg (show ¬ (s.size : Int) ≤ 64 by omega)])) ?_
    rw [decide_eq_false (show ¬ (c :: r).length ≤ 64 by omega), Bool.and_false]
    exact Tells.const _
 | c :: r, n, h, hn, hd => by
  obtain ⟨h1, h2⟩ := drop_pos h
  have htk : (bl s).take (n + 1) = (bl s).take n ++ [c] := by
   rw [List.take_add_one]
   congr 1
   have h3 : (bl s)[n]? = some c := by
    have := congrArg List.head? h
    rwa [List.head?_drop] at this
   rw [h3]; rfl
  refine Tells.step (fun k => (by rw [alidaderef12_symbol.l0, if_pos (show (n : Int) < (s.size : Int) by omega), if_pos (show (0 : Int) ≤ (n : Int) by omega), bl_bt s h, w1 (by omega)])) ?_
  refine Tells.bind (sign_tells c) ?_
  cases hc : sg c.toNat with
  | true =>
   refine Tells.of (fun k => (by rw [if_pos rfl])) ?_
   exact rsym_loop hs r (n + 1) h2 (by omega) (by
    unfold sgs at hd ⊢
    rw [htk, List.all_append, hd]; simp [hc])
  | false =>
   refine Tells.of (fun k => (by rw [if_neg (by simp)])) ?_
   have e : symL (bl s) = false := by
    have h5 : sgs (bl s) = false := by
     unfold sgs
     rw [← List.take_append_drop n (bl s), h, List.all_append, List.all_cons, hc]
     simp
    cases hb : bl s with
    | nil => rfl
    | cons d q => rw [hb] at h5; rw [symL_cons, h5]; rfl
   rw [e]
   exact Tells.const _
theorem rsymbol_tells {s : ByteArray} (hs : s.size ≤ 140737488351232) : Tells (fun k => alidaderef12_symbol.f k s) (symL (bl s)) := rsym_loop hs (bl s) 0 rfl (Nat.zero_le _) (by simp [sgs])
end Go.Proofs.YtgikmpgpccfiiaaT
