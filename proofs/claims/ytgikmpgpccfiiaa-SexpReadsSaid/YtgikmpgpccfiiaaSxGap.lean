/- What parts words, and a text's pieces: the program's and the document's are one. -/
import Derived.Test.YtgikmpgpccfiiaaSxKind2
namespace Go.Proofs.YtgikmpgpccfiiaaT
open Go.RowKit Go.Proofs.Ytgikmpgpccfiiaa.PSxp Go.Proofs.YtgikmpgpccfiiaaW.PrintWords Go.Proofs.YtgikmpgpccfiiaaW.PrintLast
set_option linter.unusedVariables false
def blank (c : UInt8) : Bool := c == 32 || c == 9 || c == 10 || c == 13
/-- How many bytes part words ahead of the next one; in a comment, or not. -/
def sk : Bool → List UInt8 → Nat
 | _, [] => 0
 | true, c :: l => if c = 10 then 1 + sk false l else 1 + sk true l
 | false, c :: l => if c = 59 then 1 + sk true l else if blank c then 1 + sk false l else 0
theorem sk_le : ∀ (l : List UInt8) (b : Bool), sk b l ≤ l.length
 | [], b => by cases b <;> simp [sk]
 | c :: l, true => by
  have := sk_le l true
  have := sk_le l false
  unfold sk
  split <;> simp only [List.length_cons] <;> omega
 | c :: l, false => by
  have := sk_le l true
  have := sk_le l false
  unfold sk
  split
  ·simp only [List.length_cons]; omega
  ·split <;> simp only [List.length_cons] <;> omega
theorem u8i {c d : UInt8} {z : Int} (hz : (d.toNat : Int) = z) : ((c.toNat : Int) = z) ↔ c = d := by
 constructor
 ·intro h
  exact UInt8.toNat_inj.1 (by omega)
 ·intro h
  rw [h, hz]
theorem skip_both {s : ByteArray} (hs : s.size ≤ 140737488351232) : ∀ (r : List UInt8) (n : Nat), (bl s).drop n = r → n ≤ s.size →
  Tells (fun k => alidaderef12_skip.l0 k s (n : Int)) ((n + sk false r : Nat) : Int) ∧ Tells (fun k => alidaderef12_skip.l1 k s (n : Int)) ((n + sk true r : Nat) : Int)
 | [], n, h, hn => by
  have he := drop_end h
  have h0 : Tells (fun k => alidaderef12_skip.l0 k s (n : Int)) (n : Int) :=
   Tells.step (fun k => (by rw [alidaderef12_skip.l0, if_neg (show ¬ ((n : Int) < (s.size : Int)) by omega)])) (Tells.const _)
  exact ⟨h0, Tells.step (fun k => (by rw [alidaderef12_skip.l1, if_neg (show ¬ ((n : Int) < (s.size : Int)) by omega)])) h0⟩
 | c :: r, n, h, hn => by
  obtain ⟨h1, h2⟩ := drop_pos h
  obtain ⟨ih0, ih1⟩ := skip_both hs r (n + 1) h2 (by omega)
  have hb := bl_bt s h
  have p0 : (n : Int) < (s.size : Int) := by omega
  have p1 : (0 : Int) ≤ (n : Int) := by omega
  have q1 : c ≠ 10 → Tells (fun k => alidaderef12_skip.l1 k s (n : Int)) ((n + sk true (c :: r) : Nat) : Int) := fun e => by
   have e2 : ¬ ((c.toNat : Int) = 10) := fun h => e ((u8i (d := 10) (z := 10) rfl).1 h)
   refine Tells.step (fun k => (by rw [alidaderef12_skip.l1, if_pos p0, if_pos p1, hb, if_neg e2, w1 (by omega)])) ?_
   unfold sk
   rw [if_neg e, ← Nat.add_assoc]
   exact ih1
  have q0 : Tells (fun k => alidaderef12_skip.l0 k s (n : Int)) ((n + sk false (c :: r) : Nat) : Int) := by
   by_cases e : c = 59
   ·have e2 : ((c.toNat : Int) = 59) := (u8i (d := 59) (z := 59) rfl).2 e
    refine Tells.step (fun k => (by rw [alidaderef12_skip.l0, if_pos p0, if_pos p1, hb, if_pos e2])) ?_
    have h5 := q1 (by rw [e]; decide)
    have h6 : sk false (c :: r) = sk true (c :: r) := by
     unfold sk
     rw [if_pos e, if_neg (by rw [e]; decide)]
    rw [h6]
    exact h5
   ·have e2 : ¬ ((c.toNat : Int) = 59) := fun h => e ((u8i (d := 59) (z := 59) rfl).1 h)
    refine Tells.step (fun k => (by rw [alidaderef12_skip.l0, if_pos p0, if_pos p1, hb, if_neg e2, w1 (by omega)])) ?_
    have h6 : sk false (c :: r) = if blank c then 1 + sk false r else 0 := by
     rw [sk, if_neg e]
    rw [h6]
    by_cases b : blank c = true
    ·rw [if_pos b, ← Nat.add_assoc]
     unfold blank at b
     simp only [Bool.or_eq_true, beq_iff_eq] at b
     rcases b with ((b | b) | b) | b
     ·exact Tells.of (fun k => (by rw [if_pos ((u8i (d := 32) (z := 32) rfl).2 b)])) ih0
     ·exact Tells.of (fun k => (by rw [if_neg (by rw [b]; decide), if_pos ((u8i (d := 9) (z := 9) rfl).2 b)])) ih0
     ·exact Tells.of (fun k => (by rw [if_neg (by rw [b]; decide), if_neg (by rw [b]; decide), if_pos ((u8i (d := 10) (z := 10) rfl).2 b)])) ih0
     ·exact Tells.of (fun k => (by rw [if_neg (by rw [b]; decide), if_neg (by rw [b]; decide), if_neg (by rw [b]; decide), if_pos ((u8i (d := 13) (z := 13) rfl).2 b)])) ih0
    ·rw [if_neg b]
     show Tells _ (n : Int)
     unfold blank at b
     simp only [Bool.or_eq_true, beq_iff_eq, not_or] at b
     obtain ⟨⟨⟨b1, b2⟩, b3⟩, b4⟩ := b
     exact Tells.of (fun k => (by rw [if_neg (fun h => b1 ((u8i (d := 32) (z := 32) rfl).1 h)), if_neg (fun h => b2 ((u8i (d := 9) (z := 9) rfl).1 h)), if_neg (fun h => b3 ((u8i (d := 10) (z := 10) rfl).1 h)), if_neg (fun h => b4 ((u8i (d := 13) (z := 13) rfl).1 h))])) (Tells.const _)
  refine ⟨q0, ?_⟩
  by_cases e : c = 10
  ·have e2 : ((c.toNat : Int) = 10) := (u8i (d := 10) (z := 10) rfl).2 e
   refine Tells.step (fun k => (by rw [alidaderef12_skip.l1, if_pos p0, if_pos p1, hb, if_pos e2])) ?_
   have h6 : sk true (c :: r) = sk false (c :: r) := by
    rw [sk, if_pos e, sk, if_neg (by rw [e]; decide), if_pos (by rw [e]; decide)]
   rw [h6]
   exact q0
  ·exact q1 e
/-- A comment, by its newline. -/
theorem idx_nl : ∀ l : List UInt8, (Lib.indexByte l 10 = -1 ∧ sk true l = l.length) ∨ (∃ (i : Nat) (t : List UInt8), Lib.indexByte l 10 = (i : Int) ∧ l.drop i = 10 :: t ∧ sk true l = i + sk false (10 :: t))
 | [] => .inl ⟨rfl, rfl⟩
 | c :: l => by
  by_cases e : c = 10
  ·refine .inr ⟨0, l, ?_, by rw [e]; rfl, ?_⟩
   ·rw [Lib.indexByte, e]; rfl
   ·rw [sk, if_pos e, sk, if_neg (by decide), if_pos (by decide)]; omega
  ·have e1 : (c == 10) = false := beq_eq_false_iff_ne.mpr e
   rcases idx_nl l with ⟨h1, h2⟩ | ⟨i, t, h1, h2, h3⟩
   ·refine .inl ⟨?_, ?_⟩
    ·rw [Lib.indexByte, e1, if_neg (by simp), h1]; rfl
    ·rw [sk, if_neg e, h2, List.length_cons]; omega
   ·refine .inr ⟨i + 1, t, ?_, h2, ?_⟩
    ·rw [Lib.indexByte, e1, if_neg (by simp), h1, if_neg (by simp)]; rfl
    ·rw [sk, if_neg e, h3]; omega
theorem gap_loop {s : ByteArray} (hs : s.size ≤ 140737488351232) : ∀ (m : Nat) (r : List UInt8) (n : Nat), r.length ≤ m → (bl s).drop n = r → n ≤ s.size → Tells (fun k => lex_gap.l0 k s (n : Int)) ((n + sk false r : Nat) : Int) := by
 intro m
 induction m with
 | zero =>
  intro r n hm h hn
  obtain rfl : r = [] := List.length_eq_zero_iff.1 (by omega)
  have he := drop_end h
  show Tells _ (n : Int)
  exact Tells.step (fun k => (by rw [lex_gap.l0, if_neg (show ¬ ((n : Int) < (s.size : Int)) by omega)])) (Tells.const _)
 | succ m ih =>
  intro r n hm h hn
  cases r with
  | nil =>
   have he := drop_end h
   show Tells _ (n : Int)
   exact Tells.step (fun k => (by rw [lex_gap.l0, if_neg (show ¬ ((n : Int) < (s.size : Int)) by omega)])) (Tells.const _)
  | cons c r =>
   obtain ⟨h1, h2⟩ := drop_pos h
   have hlen : n + (r.length + 1) = s.size := by
    have := congrArg List.length h
    rw [List.length_drop, ← bl_size, List.length_cons] at this
    omega
   rw [List.length_cons] at hm
   have hb := bl_bt s h
   have p0 : (n : Int) < (s.size : Int) := by omega
   have p1 : (0 : Int) ≤ (n : Int) := by omega
   by_cases e : c = 59
   ·have e2 : ((c.toNat : Int) = 59) := (u8i (d := 59) (z := 59) rfl).2 e
    have hx : bl (s.extract ((n : Int)).toNat s.size) = c :: r := by
     rw [bl_extract, Int.toNat_natCast, h]
     exact List.take_of_length_le (by rw [List.length_cons]; omega)
    have hI : strings_IndexByte.f (s.extract ((n : Int)).toNat s.size) 10 = some (Lib.indexByte (c :: r) 10) := by
     show some (Lib.indexByte (bl (s.extract ((n : Int)).toNat s.size)) 10) = _
     rw [hx]
    refine Tells.step (fun k => (by rw [lex_gap.l0, if_pos p0, if_pos p1, hb, if_pos e2, if_pos (show (n : Int) ≤ (s.size : Int) by omega), hI, Option.bind_some])) ?_
    have h6 : sk false (c :: r) = sk true (c :: r) := by
     unfold sk
     rw [if_pos e, if_neg (by rw [e]; decide)]
    rw [h6]
    rcases idx_nl (c :: r) with ⟨g1, g2⟩ | ⟨i, t, g1, g2, g3⟩
    ·rw [g1, g2]
     refine Tells.of (fun k => (by rw [if_neg (by omega)])) ?_
     rw [List.length_cons, hlen]
     exact Tells.const _
    ·rw [g1, g3]
     have hi : i ≠ 0 := by
      rintro rfl
      rw [List.drop_zero] at g2
      injection g2 with g4 g5
      rw [e] at g4
      exact absurd g4 (by decide)
     have ht := congrArg List.length g2
     rw [List.length_drop, List.length_cons, List.length_cons] at ht
     refine Tells.of (fun k => (by rw [if_pos (show (i : Int) ≥ 0 by omega), wadd (by omega)])) ?_
     rw [← Nat.add_assoc]
     exact ih (10 :: t) (n + i) (by rw [List.length_cons]; omega) (by rw [← List.drop_drop, h, g2]) (by omega)
   ·have e2 : ¬ ((c.toNat : Int) = 59) := fun h => e ((u8i (d := 59) (z := 59) rfl).1 h)
    refine Tells.step (fun k => (by rw [lex_gap.l0, if_pos p0, if_pos p1, hb, if_neg e2, w1 (by omega)])) ?_
    have h6 : sk false (c :: r) = if blank c then 1 + sk false r else 0 := by
     rw [sk, if_neg e]
    rw [h6]
    have ih0 := ih r (n + 1) (by omega) h2 (by omega)
    by_cases b : blank c = true
    ·rw [if_pos b, ← Nat.add_assoc]
     unfold blank at b
     simp only [Bool.or_eq_true, beq_iff_eq] at b
     rcases b with ((b | b) | b) | b
     ·exact Tells.of (fun k => (by rw [if_pos ((u8i (d := 32) (z := 32) rfl).2 b)])) ih0
     ·exact Tells.of (fun k => (by rw [if_neg (by rw [b]; decide), if_pos ((u8i (d := 9) (z := 9) rfl).2 b)])) ih0
     ·exact Tells.of (fun k => (by rw [if_neg (by rw [b]; decide), if_neg (by rw [b]; decide), if_neg (by rw [b]; decide), if_pos ((u8i (d := 10) (z := 10) rfl).2 b)])) ih0
     ·exact Tells.of (fun k => (by rw [if_neg (by rw [b]; decide), if_neg (by rw [b]; decide), if_pos ((u8i (d := 13) (z := 13) rfl).2 b)])) ih0
    ·rw [if_neg b]
     show Tells _ (n : Int)
     unfold blank at b
     simp only [Bool.or_eq_true, beq_iff_eq, not_or] at b
     obtain ⟨⟨⟨b1, b2⟩, b3⟩, b4⟩ := b
     exact Tells.of (fun k => (by rw [if_neg (fun h => b1 ((u8i (d := 32) (z := 32) rfl).1 h)), if_neg (fun h => b2 ((u8i (d := 9) (z := 9) rfl).1 h)), if_neg (fun h => b4 ((u8i (d := 13) (z := 13) rfl).1 h)), if_neg (fun h => b3 ((u8i (d := 10) (z := 10) rfl).1 h))])) (Tells.const _)
theorem gap_tells {s : ByteArray} (hs : s.size ≤ 140737488351232) : Tells (fun k => lex_gap.f k s) ((sk false (bl s) : Nat) : Int) := by
 have := gap_loop hs (bl s).length (bl s) 0 (Nat.le_refl _) rfl (Nat.zero_le _)
 rw [Nat.zero_add] at this
 exact this
theorem skip_tells {s : ByteArray} (hs : s.size ≤ 140737488351232) {n : Nat} (hn : n ≤ s.size) : Tells (fun k => alidaderef12_skip.f k s (n : Int)) ((n + sk false ((bl s).drop n) : Nat) : Int) := (skip_both hs _ n rfl hn).1
/-! ### Pieces -/
def wc (c : UInt8) : Bool := sg c.toNat || c == 58
theorem wt_wc (c : UInt8) : wt c.toNat = 0 ↔ wc c = false := by
 rw [wt0]
 unfold wc
 have : c.toNat ≠ 58 ↔ (c == 58) = false := by
  rw [beq_eq_false_iff_ne]
  constructor
  ·intro h e; rw [e] at h; exact h rfl
  ·intro h e; exact h (UInt8.toNat_inj.1 e)
 rw [this]
 cases sg c.toNat <;> simp
def tk (l : List UInt8) : Nat := (l.takeWhile wc).length
theorem tk_le : ∀ l : List UInt8, tk l ≤ l.length
 | [] => Nat.le_refl _
 | c :: l => by
  have := tk_le l
  unfold tk at this ⊢
  cases h : wc c with
  | true => rw [List.takeWhile_cons_of_pos h]; simp only [List.length_cons]; omega
  | false => rw [List.takeWhile_cons_of_neg (by simp [h])]; simp
theorem toL_tells {s : ByteArray} (hs : s.size ≤ 140737488351232) : ∀ (r : List UInt8) (n : Nat), (bl s).drop n = r → n ≤ s.size → Tells (fun k => lex_toL k s n) (n + tk r)
 | [], n, h, hn => by
  have he := drop_end h
  show Tells _ n
  exact Tells.step (fun k => (by rw [lex_toL, if_neg (show ¬ (n < s.size) by omega)])) (Tells.const _)
 | c :: r, n, h, hn => by
  obtain ⟨h1, h2⟩ := drop_pos h
  refine Tells.step (fun k => (by rw [lex_toL, if_pos h1, bl_bt s h])) ?_
  refine Tells.bind (what_tells c) ?_
  cases hc : wc c with
  | false =>
   have e : tk (c :: r) = 0 := by unfold tk; rw [List.takeWhile_cons_of_neg (by simp [hc])]; rfl
   rw [e]
   show Tells _ n
   exact Tells.of (fun k => (by rw [if_pos ((wt_wc c).2 hc)])) (Tells.const _)
  | true =>
   have e : n + tk (c :: r) = n + 1 + tk r := by unfold tk; rw [List.takeWhile_cons_of_pos hc, List.length_cons]; omega
   rw [e]
   exact Tells.of (fun k => (by rw [if_neg (fun h => by rw [(wt_wc c).1 h] at hc; cases hc)])) (toL_tells hs r (n + 1) h2 (by omega))
theorem rto_tells {s : ByteArray} (hs : s.size ≤ 140737488351232) (acc : List S31) (at_ : Int) {R : List S31 × Int × Int} : ∀ (r : List UInt8) (n : Nat), (bl s).drop n = r → n ≤ s.size →
  Tells (fun k => alidaderef12_Words.j2 k s acc at_ ((n + tk r : Nat) : Int)) R → Tells (fun k => alidaderef12_Words.l1 k s acc at_ (n : Int)) R
 | [], n, h, hn, hR => by
  have he := drop_end h
  have hR' : Tells (fun k => alidaderef12_Words.j2 k s acc at_ (n : Int)) R := hR
  exact Tells.step (fun k => (by rw [alidaderef12_Words.l1, if_neg (show ¬ ((n : Int) < (s.size : Int)) by omega)])) hR'
 | c :: r, n, h, hn, hR => by
  obtain ⟨h1, h2⟩ := drop_pos h
  refine Tells.step (fun k => (by rw [alidaderef12_Words.l1, if_pos (show (n : Int) < (s.size : Int) by omega), if_pos (show (0 : Int) ≤ (n : Int) by omega), bl_bt s h, w1 (by omega)])) ?_
  refine Tells.bind (sign_tells c) ?_
  have hgo : wc c = true → Tells (fun k => alidaderef12_Words.l1 k s acc at_ ((n + 1 : Nat) : Int)) R := fun hc => by
   have e : n + tk (c :: r) = n + 1 + tk r := by unfold tk; rw [List.takeWhile_cons_of_pos hc, List.length_cons]; omega
   rw [e] at hR
   exact rto_tells hs acc at_ r (n + 1) h2 (by omega) hR
  cases hc : sg c.toNat with
  | true => exact Tells.of (fun k => (by rw [if_pos rfl])) (hgo (by unfold wc; rw [hc]; rfl))
  | false =>
   refine Tells.of (fun k => (by rw [if_neg (by simp)])) ?_
   by_cases e : c = 58
   ·exact Tells.of (fun k => (by rw [if_pos ((u8i (d := 58) (z := 58) rfl).2 e)])) (hgo (by unfold wc; rw [e]; simp))
   ·refine Tells.of (fun k => (by rw [if_neg (fun h => e ((u8i (d := 58) (z := 58) rfl).1 h))])) ?_
    have e0 : tk (c :: r) = 0 := by
     unfold tk
     rw [List.takeWhile_cons_of_neg]
     ·rfl
     ·unfold wc; rw [hc]; simp [e]
    rw [e0] at hR
    exact hR
end Go.Proofs.YtgikmpgpccfiiaaT
