/- The kind of a word: the program's cut at the dot, and the document's look for it. -/
import Derived.Test.YtgikmpgpccfiiaaGSxTxtoSxKind
namespace Go.Proofs.YtgikmpgpccfiiaaT
open Go.RowKit Go.Proofs.Ytgikmpgpccfiiaa.PSxp Go.Proofs.YtgikmpgpccfiiaaW.PrintWords Go.Proofs.YtgikmpgpccfiiaaW.PrintLast
set_option linter.unusedVariables false
/-- The bytes ahead of the first dot, and those behind it, where there is one. -/
def preDot (l : List UInt8) : List UInt8 := l.takeWhile (fun c => c != 46)
def tailDot (l : List UInt8) : List UInt8 := l.dropWhile (fun c => c != 46)
def decL (l : List UInt8) : Bool := numL (preDot l) && (match tailDot l with | [] => false | _ :: t => !t.isEmpty && dgs t)
theorem idx_dot : ∀ l : List UInt8, Lib.indexByte l 46 = (if tailDot l = [] then (-1 : Int) else ((preDot l).length : Int))
 | [] => rfl
 | c :: l => by
  have ih := idx_dot l
  unfold Lib.indexByte tailDot preDot
  by_cases e : c = 46
  ·subst e
   simp
  ·have e1 : (c == 46) = false := beq_eq_false_iff_ne.mpr e
   have e2 : (c != 46) = true := bne_iff_ne.mpr e
   rw [e1, List.dropWhile_cons_of_pos (by simpa using e2), List.takeWhile_cons_of_pos (by simpa using e2), if_neg (by simp)]
   rw [ih]
   unfold tailDot preDot
   by_cases d : l.dropWhile (fun c => c != 46) = []
   ·rw [if_pos d, if_pos d]; rfl
   ·rw [if_neg d, if_neg d, if_neg (by simp)]
    simp
theorem dot_app (l : List UInt8) : preDot l ++ tailDot l = l := List.takeWhile_append_dropWhile
theorem dot_len (l : List UInt8) : (preDot l).length + (tailDot l).length = l.length := by
 have := congrArg List.length (dot_app l)
 rwa [List.length_append] at this
theorem dot_take (l : List UInt8) : l.take (preDot l).length = preDot l := by
 have h := List.take_left (l₁ := preDot l) (l₂ := tailDot l)
 rwa [dot_app] at h
theorem dot_drop (l : List UInt8) : l.drop (preDot l).length = tailDot l := by
 have h := List.drop_left (l₁ := preDot l) (l₂ := tailDot l)
 rwa [dot_app] at h
theorem cut_none {s : ByteArray} (hs : s.size ≤ 140737488351232) (h : tailDot (bl s) = []) : strings_Cut.f s (⟨#[46]⟩ : ByteArray) = some (s, (⟨#[]⟩ : ByteArray), false) := by
 have e : stringslite_Index.f s (⟨#[46]⟩ : ByteArray) = some (-1) := by
  show some (Lib.indexByte (bl s) 46) = _
  rw [idx_dot, if_pos h]
 unfold strings_Cut.f stringslite_Cut.f
 rw [e, Option.bind_some, if_neg (by omega), Option.bind_some]
theorem cut_some {s : ByteArray} (hs : s.size ≤ 140737488351232) {c : UInt8} {t : List UInt8} (h : tailDot (bl s) = c :: t) : ∃ a b : ByteArray, strings_Cut.f s (⟨#[46]⟩ : ByteArray) = some (a, b, true) ∧ bl a = preDot (bl s) ∧ bl b = t ∧ a.size ≤ s.size ∧ b.size ≤ s.size := by
 have e : stringslite_Index.f s (⟨#[46]⟩ : ByteArray) = some ((preDot (bl s)).length : Int) := by
  show some (Lib.indexByte (bl s) 46) = _
  rw [idx_dot, if_neg (by rw [h]; simp)]
 have hl := dot_len (bl s)
 rw [← bl_size, h, List.length_cons] at hl
 obtain ⟨p, hp⟩ : ∃ p, p = (preDot (bl s)).length := ⟨_, rfl⟩
 rw [← hp] at e hl
 have w2 : wrap64 ((p : Int) + (((⟨#[46]⟩ : ByteArray).size : Nat) : Int)) = ((p + 1 : Nat) : Int) := w1 (by omega)
 refine ⟨s.extract 0 p, s.extract (p + 1) s.size, ?_, ?_, ?_, ?_, ?_⟩
 ·unfold strings_Cut.f stringslite_Cut.f
  rw [e, Option.bind_some, if_pos (by omega), if_pos (by omega), if_pos (by omega), w2, if_pos (by omega), if_pos (by omega), Option.bind_some]
  rfl
 ·rw [bl_extract, List.drop_zero, Nat.sub_zero, hp, dot_take]
 ·rw [bl_extract, hp, ← List.drop_drop, dot_drop, h]
  show t.take _ = t
  exact List.take_of_length_le (by omega)
 ·rw [bl_size, bl_extract]
  simp only [List.length_take, List.length_drop]
  rw [← bl_size]; omega
 ·rw [bl_size, bl_extract]
  simp only [List.length_take, List.length_drop]
  rw [← bl_size]; omega
def kindL (l : List UInt8) : Int :=
 if l = [] then 0 else if l = [40] then 1 else if l = [41] then 2 else if numL l then 3 else if decL l then 4 else if symL l then 5 else
 match l with | [] => 0 | c :: r => if c.toNat = 58 ∧ symL r = true then 6 else 0
theorem key_tells {s : ByteArray} (hs : s.size ≤ 140737488351232) (f : Nat → ByteArray → Option Bool) (hf : ∀ {t : ByteArray}, t.size ≤ 140737488351232 → Tells (fun k => f k t) (symL (bl t))) (hne : bl s ≠ []) :
  Tells (fun k => if 0 < (s.size : Int) then (if (bt s 0) = 58 then (if 1 ≤ (s.size : Int) then ((f k (s.extract 1 s.size)).bind fun t => (if t = true then (some (6 : Int)) else (some 0))) else (none)) else (some 0)) else (none))
   (match bl s with | [] => 0 | c :: r => if c.toNat = 58 ∧ symL r = true then 6 else 0) := by
 cases h : bl s with
 | nil => exact absurd h hne
 | cons c r =>
  have hb : bt s 0 = (c.toNat : Int) := bl_bt s (n := 0) h
  have hz : 0 < s.size := by rw [bl_size, h]; simp
  have hr : bl (s.extract 1 s.size) = r := by
   rw [bl_extract, h]
   show r.take _ = r
   refine List.take_of_length_le ?_
   rw [bl_size, h]; simp
  refine Tells.of (fun k => (by rw [if_pos (show (0 : Int) < (s.size : Int) by omega), hb])) ?_
  show Tells _ (if c.toNat = 58 ∧ symL r = true then 6 else 0)
  by_cases e : c.toNat = 58
  ·refine Tells.of (fun k => (by rw [if_pos (by omega), if_pos (show (1 : Int) ≤ (s.size : Int) by omega)])) ?_
   have h5 := hf (t := s.extract 1 s.size) (by
    rw [bl_size, hr]
    have := bl_size s
    rw [h, List.length_cons] at this
    omega)
   rw [hr] at h5
   refine Tells.bind h5 ?_
   cases hq : symL r with
   | true => rw [show (if c.toNat = 58 ∧ true = true then (6 : Int) else 0) = 6 from if_pos ⟨e, rfl⟩]; exact Tells.const _
   | false => rw [show (if c.toNat = 58 ∧ false = true then (6 : Int) else 0) = 0 from if_neg (by simp)]; exact Tells.const _
  ·refine Tells.of (fun k => (by rw [if_neg (by omega)])) ?_
   rw [if_neg (by simp [e])]
   exact Tells.const _
theorem j0_true (s : ByteArray) : Tells (fun k => lex_Kind.j0 k s true) 4 :=
 Tells.step (fun k => (by rw [lex_Kind.j0, if_pos rfl])) (Tells.const _)
theorem j0_false {s : ByteArray} (hs : s.size ≤ 140737488351232) (hne : bl s ≠ []) : Tells (fun k => lex_Kind.j0 k s false) (if symL (bl s) then 5 else match bl s with | [] => 0 | c :: r => if c.toNat = 58 ∧ symL r = true then 6 else 0) := by
 refine Tells.step (fun k => (by rw [lex_Kind.j0, if_neg (by simp)])) ?_
 refine Tells.bind (symbol_tells hs) ?_
 cases h : symL (bl s) with
 | true => exact Tells.const _
 | false => exact key_tells hs (fun k t => lex_symbol.f k t) (fun ht => symbol_tells ht) hne
theorem kind_tells {s : ByteArray} (hs : s.size ≤ 140737488351232) : Tells (fun k => lex_Kind.f k s) (kindL (bl s)) := by
 unfold lex_Kind.f kindL
 rw [bl_toList]
 by_cases e0 : bl s = []
 ·rw [if_pos e0]; exact Tells.of (fun k => (by rw [if_pos e0])) (Tells.const _)
 rw [if_neg e0]
 by_cases e1 : bl s = [40]
 ·rw [if_pos e1]; exact Tells.of (fun k => (by rw [if_neg e0, if_pos e1])) (Tells.const _)
 rw [if_neg e1]
 by_cases e2 : bl s = [41]
 ·rw [if_pos e2]; exact Tells.of (fun k => (by rw [if_neg e0, if_neg e1, if_pos e2])) (Tells.const _)
 rw [if_neg e2]
 refine Tells.of (fun k => (by rw [if_neg e0, if_neg e1, if_neg e2])) ?_
 cases ht : tailDot (bl s) with
 | nil =>
  rw [cut_none hs ht]
  refine Tells.of (fun k => (by rw [Option.bind_some])) ?_
  refine Tells.bind (numeral_tells hs) ?_
  cases hn : numL (bl s) with
  | true => exact Tells.const _
  | false =>
   refine Tells.of (fun k => (by rw [if_neg (by simp), if_neg (by simp)])) ?_
   have hd : decL (bl s) = false := by unfold decL; rw [ht]; simp
   rw [hd]
   exact j0_false hs e0
 | cons c t =>
  obtain ⟨a, b, hcut, ha, hb, hsa, hsb⟩ := cut_some hs ht
  rw [hcut]
  refine Tells.of (fun k => (by rw [Option.bind_some])) ?_
  refine Tells.bind (numeral_tells hs) ?_
  cases hn : numL (bl s) with
  | true => exact Tells.const _
  | false =>
   refine Tells.of (fun k => (by rw [if_neg (by simp), if_pos rfl])) ?_
   have hna := numeral_tells (s := a) (by omega)
   rw [ha] at hna
   refine Tells.bind hna ?_
   have hd : decL (bl s) = (numL (preDot (bl s)) && (!t.isEmpty && dgs t)) := by unfold decL; rw [ht]
   rw [hd]
   cases hp : numL (preDot (bl s)) with
   | false => exact j0_false hs e0
   | true =>
    refine Tells.of (fun k => (by rw [if_pos rfl, bl_toList, hb])) ?_
    by_cases et : t = []
    ·rw [et]
     exact Tells.of (fun k => (by rw [if_pos rfl])) (j0_false hs e0)
    ·have e5 : t.isEmpty = false := by cases t with
      | nil => exact absurd rfl et
      | cons _ _ => rfl
     rw [e5]
     refine Tells.of (fun k => (by rw [if_neg et])) ?_
     have h8 := all8 (s := b) (by omega)
     rw [hb] at h8
     refine Tells.bind h8 ?_
     cases hq : dgs t with
     | true => exact j0_true s
     | false => exact j0_false hs e0
/-! ### The document's -/
theorem digs_loop {s : ByteArray} (hs : s.size ≤ 140737488351232) : ∀ (r : List UInt8) (n : Nat), (bl s).drop n = r → n ≤ s.size → Tells (fun k => alidaderef12_decimal.l1 k s (n : Int)) (dgs r)
 | [], n, h, hn => by
  have he := drop_end h
  show Tells _ true
  exact Tells.step (fun k => (by rw [alidaderef12_decimal.l1, if_neg (show ¬ ((n : Int) < (s.size : Int)) by omega)])) (Tells.const _)
 | c :: r, n, h, hn => by
  obtain ⟨h1, h2⟩ := drop_pos h
  refine Tells.step (fun k => (by rw [alidaderef12_decimal.l1, if_pos (show (n : Int) < (s.size : Int) by omega), if_pos (show (0 : Int) ≤ (n : Int) by omega), bl_bt s h, w1 (by omega), digit_eq, Option.bind_some])) ?_
  have e : dgs (c :: r) = (dg c.toNat && dgs r) := rfl
  rw [e]
  cases hc : dg c.toNat with
  | true => exact Tells.of (fun k => (by rw [if_pos rfl])) (digs_loop hs r (n + 1) h2 (by omega))
  | false =>
   show Tells _ false
   exact Tells.of (fun k => (by rw [if_neg (by simp)])) (Tells.const _)
theorem j2_tells {s : ByteArray} (hs : s.size ≤ 140737488351232) {n : Nat} (hn : n + 1 ≤ s.size) : Tells (fun k => alidaderef12_decimal.j2 k s (n : Int) false) (dgs ((bl s).drop (n + 1))) := by
 refine Tells.step (fun k => (by rw [alidaderef12_decimal.j2, if_neg (by simp), w1 (by omega)])) ?_
 exact digs_loop hs _ (n + 1) rfl hn
theorem j2_true (s : ByteArray) (x : Int) : Tells (fun k => alidaderef12_decimal.j2 k s x true) false :=
 Tells.step (fun k => (by rw [alidaderef12_decimal.j2, if_pos rfl])) (Tells.const _)
theorem rj1_tells {s : ByteArray} (hs : s.size ≤ 140737488351232) {n : Nat} (hn : n ≤ s.size) (hp : (bl s).take n = preDot (bl s)) (ht : (bl s).drop n = tailDot (bl s)) : Tells (fun k => alidaderef12_decimal.j1 k s (n : Int)) (decL (bl s)) := by
 have hl := bl_size s
 have hlen : n + (tailDot (bl s)).length = s.size := by
  rw [← ht, List.length_drop, ← hl]; omega
 unfold decL
 by_cases e : s.size ≤ n + 1
 ·refine Tells.step (fun k => (by rw [alidaderef12_decimal.j1, w1 (by omega), if_pos (show ((n + 1 : Nat) : Int) ≥ (s.size : Int) by omega)])) ?_
  have e2 : (match tailDot (bl s) with | [] => false | _ :: t => !t.isEmpty && dgs t) = false := by
   cases h : tailDot (bl s) with
   | nil => rfl
   | cons c t =>
    rw [h, List.length_cons] at hlen
    cases t with
    | nil => rfl
    | cons d t => rw [List.length_cons] at hlen; omega
  rw [e2, Bool.and_false]
  exact j2_true s _
 ·refine Tells.step (fun k => (by rw [alidaderef12_decimal.j1, w1 (by omega), if_neg (show ¬ ((n + 1 : Nat) : Int) ≥ (s.size : Int) by omega), if_pos (show (0 : Int) ≤ (n : Int) by omega), if_pos (show (n : Int) ≤ (s.size : Int) by omega), Int.toNat_natCast])) ?_
  have hx : bl (s.extract 0 n) = preDot (bl s) := by rw [bl_extract, List.drop_zero, Nat.sub_zero, hp]
  have h5 := rnumeral_tells (s := s.extract 0 n) (by rw [bl_size, bl_extract]; simp only [List.length_take, List.length_drop]; rw [← hl]; omega)
  rw [hx] at h5
  refine Tells.bind h5 ?_
  cases hq : numL (preDot (bl s)) with
  | false => exact j2_true s _
  | true =>
   cases h : tailDot (bl s) with
   | nil => rw [h] at hlen; simp at hlen; omega
   | cons c t =>
    rw [h, List.length_cons] at hlen
    have e5 : t.isEmpty = false := by cases t with
     | nil => simp at hlen; omega
     | cons _ _ => rfl
    show Tells _ (true && (!t.isEmpty && dgs t))
    rw [e5]
    have e6 : (bl s).drop (n + 1) = t := by rw [← List.drop_drop, ht, h]; rfl
    have := j2_tells hs (n := n) (by omega)
    rw [e6] at this
    exact this
theorem tw_all {p : UInt8 → Bool} : ∀ l : List UInt8, l.all p = true → l.takeWhile p = l
 | [], _ => rfl
 | c :: l, h => by
  rw [List.all_cons, Bool.and_eq_true] at h
  rw [List.takeWhile_cons_of_pos h.1, tw_all l h.2]
theorem dw_all {p : UInt8 → Bool} : ∀ l : List UInt8, l.all p = true → l.dropWhile p = []
 | [], _ => rfl
 | c :: l, h => by
  rw [List.all_cons, Bool.and_eq_true] at h
  rw [List.dropWhile_cons_of_pos h.1, dw_all l h.2]
theorem dec_loop {s : ByteArray} (hs : s.size ≤ 140737488351232) : ∀ (r : List UInt8) (n : Nat), (bl s).drop n = r → n ≤ s.size → ((bl s).take n).all (fun c => c != 46) = true → Tells (fun k => alidaderef12_decimal.l0 k s (n : Int)) (decL (bl s))
 | [], n, h, hn, hd => by
  have he := drop_end h
  have h0 : (bl s).take n = bl s := List.take_of_length_le (by rw [← bl_size]; exact he)
  refine Tells.step (fun k => (by rw [alidaderef12_decimal.l0, if_neg (show ¬ ((n : Int) < (s.size : Int)) by omega)])) ?_
  rw [h0] at hd
  refine rj1_tells hs hn ?_ ?_
  ·rw [h0]; unfold preDot
   exact (tw_all _ hd).symm
  ·rw [h]; unfold tailDot
   exact (dw_all _ hd).symm
 | c :: r, n, h, hn, hd => by
  obtain ⟨h1, h2⟩ := drop_pos h
  have hsp : bl s = (bl s).take n ++ (c :: r) := by rw [← h, List.take_append_drop]
  have hb := bl_bt s h
  by_cases e : c = 46
  ·refine Tells.step (fun k => (by rw [alidaderef12_decimal.l0, if_pos (show (n : Int) < (s.size : Int) by omega), if_pos (show (0 : Int) ≤ (n : Int) by omega), hb, e, if_pos (by rfl)])) ?_
   have q : ∀ (p q : List UInt8), p.all (fun c => c != 46) = true → preDot (p ++ 46 :: q) = p ∧ tailDot (p ++ 46 :: q) = 46 :: q := by
    intro p q hp
    have hp' := List.all_eq_true.1 hp
    unfold preDot tailDot
    rw [List.takeWhile_append_of_pos hp', List.dropWhile_append_of_pos hp']
    simp
   rw [e] at hsp h
   obtain ⟨q1, q2⟩ := q _ r hd
   rw [← hsp] at q1 q2
   exact rj1_tells hs hn q1.symm (by rw [h, q2])
  ·have htk : (bl s).take (n + 1) = (bl s).take n ++ [c] := by
    rw [List.take_add_one]
    congr 1
    have h3 : (bl s)[n]? = some c := by
     have := congrArg List.head? h
     rwa [List.head?_drop] at this
    rw [h3]; rfl
   have ne : ¬ ((c.toNat : Int) = 46) := fun h5 => e (UInt8.toNat_inj.1 (by show c.toNat = 46; omega))
   refine Tells.step (fun k => (by rw [alidaderef12_decimal.l0, if_pos (show (n : Int) < (s.size : Int) by omega), if_pos (show (0 : Int) ≤ (n : Int) by omega), hb, if_neg ne, w1 (by omega)])) ?_
   exact dec_loop hs r (n + 1) h2 (by omega) (by rw [htk, List.all_append, hd]; simp [e])
theorem rdecimal_tells {s : ByteArray} (hs : s.size ≤ 140737488351232) : Tells (fun k => alidaderef12_decimal.f k s) (decL (bl s)) := dec_loop hs (bl s) 0 rfl (Nat.zero_le _) (by simp)
theorem rkind_tells {s : ByteArray} (hs : s.size ≤ 140737488351232) : Tells (fun k => alidaderef12_Kind.f k s) (kindL (bl s)) := by
 unfold alidaderef12_Kind.f
 rw [bl_toList]
 by_cases e1 : bl s = [40]
 ·refine Tells.of (fun k => (by rw [if_pos e1])) ?_
  rw [show kindL (bl s) = 1 by rw [e1]; rfl]
  exact Tells.const _
 by_cases e2 : bl s = [41]
 ·refine Tells.of (fun k => (by rw [if_neg e1, if_pos e2])) ?_
  rw [show kindL (bl s) = 2 by rw [e2]; rfl]
  exact Tells.const _
 refine Tells.of (fun k => (by rw [if_neg e1, if_neg e2])) ?_
 refine Tells.bind (rnumeral_tells hs) ?_
 by_cases e0 : bl s = []
 ·have hn : numL (bl s) = false := by rw [e0]; rfl
  rw [hn]
  refine Tells.of (fun k => (by rw [if_neg (by simp)])) ?_
  refine Tells.bind (rdecimal_tells hs) ?_
  have hd : decL (bl s) = false := by rw [e0]; rfl
  rw [hd]
  refine Tells.of (fun k => (by rw [if_neg (by simp)])) ?_
  refine Tells.bind (rsymbol_tells hs) ?_
  have hy : symL (bl s) = false := by rw [e0]; rfl
  rw [hy]
  refine Tells.of (fun k => (by rw [if_neg (by simp), if_pos e0])) ?_
  rw [show kindL (bl s) = 0 by rw [e0]; rfl]
  exact Tells.const _
 have hk : kindL (bl s) = if numL (bl s) then 3 else if decL (bl s) then 4 else if symL (bl s) then 5 else match bl s with | [] => 0 | c :: r => if c.toNat = 58 ∧ symL r = true then 6 else 0 := by
  unfold kindL
  rw [if_neg e0, if_neg e1, if_neg e2]
 rw [hk]
 cases hn : numL (bl s) with
 | true => exact Tells.const _
 | false =>
  refine Tells.of (fun k => (by rw [if_neg (by simp)])) ?_
  refine Tells.bind (rdecimal_tells hs) ?_
  cases hd : decL (bl s) with
  | true => exact Tells.const _
  | false =>
   refine Tells.of (fun k => (by rw [if_neg (by simp)])) ?_
   refine Tells.bind (rsymbol_tells hs) ?_
   cases hy : symL (bl s) with
   | true => exact Tells.const _
   | false =>
    refine Tells.of (fun k => (by rw [if_neg (by simp), if_neg e0])) ?_
    exact key_tells hs (fun k t => alidaderef12_symbol.f k t) (fun ht => rsymbol_tells ht) e0
end Go.Proofs.YtgikmpgpccfiiaaT
