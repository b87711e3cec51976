/- The kind of a word: the program's and the document's are one function of the word's bytes. -/
import Derived.Test.YtgikmpgpccfiiaaSxTx
namespace Go.Proofs.YtgikmpgpccfiiaaT
open Go.RowKit Go.Proofs.Ytgikmpgpccfiiaa.PSxp Go.Proofs.YtgikmpgpccfiiaaW.PrintWords Go.Proofs.YtgikmpgpccfiiaaW.PrintLast
set_option linter.unusedVariables false
def dgs (l : List UInt8) : Bool := l.all (fun c => dg c.toNat)
def sgs (l : List UInt8) : Bool := l.all (fun c => sg c.toNat)
def numL (l : List UInt8) : Bool := dgs l && (match l with | [] => false | c :: r => c.toNat != 48 || r.isEmpty)
def symL (l : List UInt8) : Bool := match l with | [] => false | c :: r => sgs (c :: r) && !dg c.toNat && decide ((c :: r).length ≤ 64)
theorem symL_cons (c : UInt8) (r : List UInt8) : symL (c :: r) = (sgs (c :: r) && !dg c.toNat && decide ((c :: r).length ≤ 64)) := rfl
theorem all_loop {s : ByteArray} (hs : s.size ≤ 140737488351232) (m : Int) (p : UInt8 → Bool) (hp : ∀ c : UInt8, Go.bits .and .i64 (wt c.toNat) m = 0 ↔ p c = false) :
    ∀ (r : List UInt8) (n : Nat), (bl s).drop n = r → n ≤ s.size → Tells (fun k => lex_all.l0 k s m (s.size : Int) (n : Int)) (r.all p)
  | [], n, h, hn => by
    have he := drop_end h
    refine Tells.step (fun k => (by rw [lex_all.l0, if_neg (show ¬ ((n : Int) < (s.size : Int)) by omega)])) ?_
    exact Tells.const _
  | c :: r, n, h, hn => by
    obtain ⟨h1, h2⟩ := drop_pos h
    have ih := all_loop hs m p hp r (n + 1) h2 (by omega)
    refine Tells.step (fun k => (by rw [lex_all.l0, if_pos (show (n : Int) < (s.size : Int) by omega), if_pos (show (0 : Int) ≤ (n : Int) by omega), if_pos (show (n : Int) < (s.size : Int) by omega), bl_bt s h, w1 (by omega)])) ?_
    refine Tells.bind (what_tells c) ?_
    cases hc : p c with
    | false =>
      refine Tells.of (fun k => (by rw [if_pos ((hp c).2 hc)])) ?_
      simp only [List.all_cons, hc, Bool.false_and]
      exact Tells.const _
    | true =>
      refine Tells.of (fun k => (by rw [if_neg (fun e => by rw [(hp c).1 e] at hc; cases hc)])) ?_
      simp only [List.all_cons, hc, Bool.true_and]
      exact ih
theorem all8 {s : ByteArray} (hs : s.size ≤ 140737488351232) : Tells (fun k => lex_all.f k s 8) (dgs (bl s)) := all_loop hs 8 _ and8 (bl s) 0 rfl (Nat.zero_le _)
theorem all12 {s : ByteArray} (hs : s.size ≤ 140737488351232) : Tells (fun k => lex_all.f k s 12) (sgs (bl s)) := all_loop hs 12 _ and12 (bl s) 0 rfl (Nat.zero_le _)
theorem numeral_tells {s : ByteArray} (hs : s.size ≤ 140737488351232) : Tells (fun k => lex_numeral.f k s) (numL (bl s)) := by
  unfold lex_numeral.f
  rw [bl_toList]
  cases h : bl s with
  | nil =>
    refine Tells.of (fun k => (by rw [if_pos rfl])) ?_
    exact Tells.const _
  | cons c r =>
    refine Tells.of (fun k => (by rw [if_neg (by simp)])) ?_
    refine Tells.bind (all8 hs) ?_
    rw [h]
    unfold numL
    cases hd : dgs (c :: r) with
    | false => exact Tells.const _
    | true =>
      have hb : bt s 0 = (c.toNat : Int) := bl_bt s (n := 0) h
      have hz : 0 < s.size := by rw [bl_size, h]; simp
      refine Tells.of (fun k => (by rw [if_pos rfl, if_pos (show (0 : Int) < (s.size : Int) by omega), hb])) ?_
      by_cases e : c.toNat = 48
      · refine Tells.of (fun k => (by rw [if_pos (by omega)])) ?_
        have e2 : ((s.size : Int) == 1) = ((true && (c.toNat != 48 || r.isEmpty)) : Bool) := by
          rw [bl_size, h, e]
          cases r with
          | nil => rfl
          | cons d r => simp; omega
        rw [e2]
        exact Tells.const _
      · refine Tells.of (fun k => (by rw [if_neg (by omega)])) ?_
        have e2 : ((true && (c.toNat != 48 || r.isEmpty)) : Bool) = true := by simp [e]
        rw [e2]
        exact Tells.const _
theorem symbol_tells {s : ByteArray} (hs : s.size ≤ 140737488351232) : Tells (fun k => lex_symbol.f k s) (symL (bl s)) := by
  unfold lex_symbol.f
  rw [bl_toList]
  have hl := bl_size s
  cases h : bl s with
  | nil =>
    refine Tells.of (fun k => (by rw [if_pos rfl])) ?_
    exact Tells.const _
  | cons c r =>
    rw [h] at hl
    refine Tells.of (fun k => (by rw [if_neg (by simp)])) ?_
    rw [symL_cons]
    by_cases e : s.size ≤ 64
    · have hb : bt s 0 = (c.toNat : Int) := bl_bt s (n := 0) h
      have hz : 0 < s.size := by rw [hl]; simp
      refine Tells.of (fun k => (by rw [if_pos (show (s.size : Int) ≤ 64 by omega), if_pos (show (0 : Int) < (s.size : Int) by omega), hb])) ?_
      refine Tells.bind (what_tells c) ?_
      have e3 : decide ((c :: r).length ≤ 64) = true := decide_eq_true (by omega)
      rw [e3, Bool.and_true]
      cases hc : (sg c.toNat && !dg c.toNat) with
      | false =>
        refine Tells.of (fun k => (by rw [if_pos ((and4 c).2 hc)])) ?_
        have e4 : (sgs (c :: r) && !dg c.toNat) = false := by
          simp only [sgs, List.all_cons]
          revert hc
          cases sg c.toNat <;> cases dg c.toNat <;> simp
        rw [e4]
        exact Tells.const _
      | true =>
        refine Tells.of (fun k => (by rw [if_neg (fun e => by rw [(and4 c).1 e] at hc; cases hc)])) ?_
        have e4 : (sgs (c :: r) && !dg c.toNat) = sgs (c :: r) := by
          revert hc
          cases sg c.toNat <;> cases dg c.toNat <;> simp
        rw [e4, ← h]
        exact Tells.bind (all12 hs) (Tells.const _)
    · refine Tells.of (fun k => (by rw [if_neg (show ¬ (s.size : Int) ≤ 64 by omega)])) ?_
      have e3 : decide ((c :: r).length ≤ 64) = false := decide_eq_false (by omega)
      rw [e3, Bool.and_false]
      exact Tells.const _
/-! ### The document's -/
end Go.Proofs.YtgikmpgpccfiiaaT
