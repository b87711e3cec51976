/- The words of a text: the program's and the document's. -/
import Derived.Test.YtgikmpgpccfiiaaSxGap
namespace Go.Proofs.YtgikmpgpccfiiaaT
open Go.RowKit Go.Proofs.Ytgikmpgpccfiiaa.PSxp Go.Proofs.YtgikmpgpccfiiaaW.PrintWords Go.Proofs.YtgikmpgpccfiiaaW.PrintLast
set_option linter.unusedVariables false
/-- Where the piece ends that begins here. -/
def pend (s : ByteArray) (n : Nat) : Nat := max (n + tk ((bl s).drop n)) (n + 1)
/-- A text's pieces from a place on (m: as many steps at most). -/
def pcs (s : ByteArray) : Nat → Nat → List S32
 | 0, _ => []
 | m + 1, n => if n < s.size then ⟨kindL (bl (s.extract n (pend s n))), (n : Int), ((pend s n : Nat) : Int), s.extract n (pend s n)⟩ :: pcs s m (pend s n + sk false ((bl s).drop (pend s n))) else []
theorem pend_le {s : ByteArray} {n : Nat} (hn : n < s.size) : n < pend s n ∧ pend s n ≤ s.size := by
 have h := tk_le ((bl s).drop n)
 rw [List.length_drop, ← bl_size] at h
 unfold pend
 omega
theorem next_le {s : ByteArray} {n : Nat} (hn : n ≤ s.size) : n + sk false ((bl s).drop n) ≤ s.size := by
 have h := sk_le ((bl s).drop n) false
 rw [List.length_drop, ← bl_size] at h
 omega
theorem pcs_len (s : ByteArray) : ∀ (m n : Nat), (pcs s m n).length ≤ s.size - n
 | 0, n => Nat.zero_le _
 | m + 1, n => by
  unfold pcs
  by_cases c : n < s.size
  ·rw [if_pos c, List.length_cons]
   have h1 := pend_le c
   have h2 := next_le (s := s) (n := pend s n) h1.2
   have h3 := pcs_len s m (pend s n + sk false ((bl s).drop (pend s n)))
   omega
  ·rw [if_neg c]; simp
theorem each_tells {s : ByteArray} (hs : s.size ≤ 140737488351232) : ∀ (m n : Nat), s.size - n ≤ m → n ≤ s.size → Tells (fun k => lex_eachL k s n) (pcs s m n) := by
 intro m
 induction m with
 | zero =>
  intro n hm hn
  show Tells _ ([] : List S32)
  exact Tells.step (fun k => (by rw [lex_eachL, if_neg (show ¬ n < s.size by omega)])) (Tells.const _)
 | succ m ih =>
  intro n hm hn
  unfold pcs
  by_cases c : n < s.size
  ·rw [if_pos c]
   have h1 := pend_le c
   have h2 := next_le (s := s) (n := pend s n) h1.2
   have hx : bl (s.extract (pend s n) s.size) = (bl s).drop (pend s n) := by
    rw [bl_extract]
    exact List.take_of_length_le (by rw [List.length_drop, ← bl_size]; omega)
   have hz : ∀ a b, b ≤ s.size → (s.extract a b).size ≤ 140737488351232 := fun a b hb => by
    rw [bl_size, bl_extract]
    simp only [List.length_take, List.length_drop]
    rw [← bl_size]; omega
   refine Tells.step (fun k => (by rw [lex_eachL, if_pos c])) ?_
   refine Tells.bind (toL_tells hs _ n rfl hn) ?_
   show Tells (fun k => (lex_Kind.f k (s.extract n (pend s n))).bind fun kd => (lex_gap.f k (s.extract (pend s n) s.size)).bind fun g => if 0 ≤ g ∧ ((pend s n : Nat) : Int) + g ≤ (s.size : Int) then (lex_eachL k s (pend s n + g.toNat)).bind fun l => some ((⟨kd, (n : Int), ((pend s n : Nat) : Int), s.extract n (pend s n)⟩ : S32) :: l) else none) _
   refine Tells.bind (kind_tells (hz _ _ h1.2)) ?_
   refine Tells.bind (gap_tells (hz _ _ (Nat.le_refl _))) ?_
   rw [hx]
   refine Tells.of (fun k => (by rw [if_pos ⟨by omega, by omega⟩, Int.toNat_natCast])) ?_
   exact Tells.bind (ih _ (by omega) h2) (Tells.const _)
  ·rw [if_neg c]
   exact Tells.step (fun k => (by rw [lex_eachL, if_neg c])) (Tells.const _)
theorem words_tells {s : ByteArray} (hs : s.size ≤ 140737488351232) : Tells (fun k => lex_Words.f k s) (if 65536 < s.size then ([], 65536, 40) else lex_resL (pcs s s.size (sk false (bl s)))) := by
 unfold lex_Words.f
 by_cases c : 65536 < s.size
 ·rw [if_pos c]
  exact Tells.of (fun k => (by rw [if_pos (show (s.size : Int) > 65536 by omega)])) (Tells.const _)
 ·rw [if_neg c]
  refine Tells.of (fun k => (by rw [if_neg (show ¬ (s.size : Int) > 65536 by omega)])) ?_
  refine Tells.bind (gap_tells hs) ?_
  have h1 := sk_le (bl s) false
  rw [← bl_size] at h1
  have h2 := pcs_len s s.size (sk false (bl s))
  refine Tells.of (fun k => (by rw [if_pos ⟨by omega, by omega⟩, Int.toNat_natCast])) ?_
  refine Tells.bind (each_tells hs s.size (sk false (bl s)) (by omega) h1) ?_
  exact Tells.of (fun k => (by rw [if_pos (by omega)])) (Tells.const _)
/-! ### The document's -/
def cv (x : S32) : S31 := ⟨x.f0, x.f1, x.f2, x.f3⟩
def refR (acc : List S31) (ps : List S32) : List S31 × Int × Int := match ps.find? (fun x => x.f0 == 0) with
 | some x => ([], x.f1, 4)
 | none => (acc ++ ps.map cv, 0, 0)
theorem rwords_loop {s : ByteArray} (hs : s.size ≤ 1000000) : ∀ (m n : Nat) (acc : List S31), s.size - n ≤ m → n ≤ s.size → acc.length + (s.size - n) ≤ 1000000 → Tells (fun k => alidaderef12_Words.l0 k s acc (n : Int)) (refR acc (pcs s m n)) := by
 intro m
 induction m with
 | zero =>
  intro n acc hm hn ha
  have e : refR acc (pcs s 0 n) = (acc, 0, 0) := by show (acc ++ [], (0 : Int), (0 : Int)) = _; rw [List.append_nil]
  rw [e]
  exact Tells.step (fun k => (by rw [alidaderef12_Words.l0, if_neg (show ¬ (n : Int) < (s.size : Int) by omega)])) (Tells.const _)
 | succ m ih =>
  intro n acc hm hn ha
  by_cases c : n < s.size
  ·have h1 := pend_le c
   have h2 := next_le (s := s) (n := pend s n) h1.2
   have hz : ∀ a b, b ≤ s.size → (s.extract a b).size ≤ 140737488351232 := fun a b hb => by
    rw [bl_size, bl_extract]
    simp only [List.length_take, List.length_drop]
    rw [← bl_size]; omega
   have hp : pcs s (m + 1) n = ⟨kindL (bl (s.extract n (pend s n))), (n : Int), ((pend s n : Nat) : Int), s.extract n (pend s n)⟩ :: pcs s m (pend s n + sk false ((bl s).drop (pend s n))) := by
    rw [pcs, if_pos c]
   obtain ⟨x, hx⟩ : ∃ x : S32, x = ⟨kindL (bl (s.extract n (pend s n))), (n : Int), ((pend s n : Nat) : Int), s.extract n (pend s n)⟩ := ⟨_, rfl⟩
   rw [hp, ← hx]
   refine Tells.step (fun k => (by rw [alidaderef12_Words.l0, if_pos (show (n : Int) < (s.size : Int) by omega)])) ?_
   refine rto_tells (by omega) acc (n : Int) _ n rfl hn ?_
   -- behind the piece: its end is past its begin
   have hj3 : Tells (fun k => alidaderef12_Words.j3 k s acc (n : Int) ((pend s n : Nat) : Int)) (refR acc (x :: pcs s m (pend s n + sk false ((bl s).drop (pend s n))))) := by
    refine Tells.step (fun k => (by rw [alidaderef12_Words.j3, if_pos (show (0 : Int) ≤ (n : Int) by omega), if_pos (show (n : Int) ≤ ((pend s n : Nat) : Int) by omega), if_pos (show ((pend s n : Nat) : Int) ≤ (s.size : Int) by omega), Int.toNat_natCast, Int.toNat_natCast])) ?_
    refine Tells.bind (rkind_tells (hz _ _ h1.2)) ?_
    have hx0 : kindL (bl (s.extract n (pend s n))) = x.f0 := by rw [hx]
    rw [hx0]
    by_cases e : x.f0 = 0
    ·have e2 : refR acc (x :: pcs s m (pend s n + sk false ((bl s).drop (pend s n)))) = ([], (n : Int), 4) := by
      unfold refR
      rw [List.find?_cons_of_pos (by simp [e]), hx]
     rw [e2]
     exact Tells.of (fun k => (by rw [if_pos e])) (Tells.const _)
    ·have e2 : refR acc (x :: pcs s m (pend s n + sk false ((bl s).drop (pend s n)))) = refR (acc ++ [cv x]) (pcs s m (pend s n + sk false ((bl s).drop (pend s n)))) := by
      unfold refR
      rw [List.find?_cons_of_neg (by simp [e])]
      simp only [List.map_cons, List.append_assoc, List.cons_append, List.nil_append]
     rw [e2]
     refine Tells.of (fun k => (by rw [if_neg e, if_pos (show acc.length < 3518437208883 by omega)])) ?_
     refine Tells.bind (skip_tells (by omega) h1.2) ?_
     have e3 : (⟨x.f0, (n : Int), ((pend s n : Nat) : Int), s.extract n (pend s n)⟩ : S31) = cv x := by rw [hx]; rfl
     rw [e3]
     exact ih _ (acc ++ [cv x]) (by omega) h2 (by rw [List.length_append, List.length_singleton]; omega)
   by_cases e : tk ((bl s).drop n) = 0
   ·have e2 : pend s n = n + 1 := by unfold pend; rw [e]; omega
    rw [e, Nat.add_zero]
    rw [e2] at hj3
    rw [e2]
    exact Tells.step (fun k => (by rw [alidaderef12_Words.j2, if_pos rfl, w1 (by omega)])) hj3
   ·have e2 : pend s n = n + tk ((bl s).drop n) := by unfold pend; omega
    rw [← e2]
    exact Tells.step (fun k => (by rw [alidaderef12_Words.j2, if_neg (show ¬ ((pend s n : Nat) : Int) = (n : Int) by omega)])) hj3
  ·have e : refR acc (pcs s (m + 1) n) = (acc, 0, 0) := by
    rw [pcs, if_neg c]
    show (acc ++ [], (0 : Int), (0 : Int)) = _; rw [List.append_nil]
   rw [e]
   exact Tells.step (fun k => (by rw [alidaderef12_Words.l0, if_neg (show ¬ (n : Int) < (s.size : Int) by omega)])) (Tells.const _)
theorem rwords_tells {s : ByteArray} (hs : s.size ≤ 140737488351232) : Tells (fun k => alidaderef12_Words.f k s) (if 65536 < s.size then ([], 65536, 40) else refR [] (pcs s s.size (sk false (bl s)))) := by
 unfold alidaderef12_Words.f
 by_cases c : 65536 < s.size
 ·rw [if_pos c]
  exact Tells.of (fun k => (by rw [if_pos (show (s.size : Int) > 65536 by omega)])) (Tells.const _)
 ·rw [if_neg c]
  refine Tells.of (fun k => (by rw [if_neg (show ¬ (s.size : Int) > 65536 by omega)])) ?_
  have h := skip_tells hs (n := 0) (Nat.zero_le _)
  rw [List.drop_zero, Nat.zero_add] at h
  refine Tells.bind h ?_
  have h1 := sk_le (bl s) false
  rw [← bl_size] at h1
  exact rwords_loop (by omega) s.size (sk false (bl s)) [] (by omega) h1 (by simp; omega)
theorem resL_eq (ps : List S32) : (lex_resL ps).1.map cv = (refR [] ps).1 ∧ (lex_resL ps).2 = (refR [] ps).2 := by
 unfold lex_resL refR
 cases ps.find? (fun x => x.f0 == 0) with
 | some x => exact ⟨rfl, rfl⟩
 | none => exact ⟨rfl, rfl⟩
end Go.Proofs.YtgikmpgpccfiiaaT
