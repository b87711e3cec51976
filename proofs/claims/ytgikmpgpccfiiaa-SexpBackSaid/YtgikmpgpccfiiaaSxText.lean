/- The words of a text: the program's and the document's. -/
import Derived.Test.YtgikmpgpccfiiaaSxGap
namespace Go.Proofs.YtgikmpgpccfiiaaT
open Go.RowKit Go.Proofs.Ytgikmpgpccfiiaa.PSxp Go.Proofs.YtgikmpgpccfiiaaW.PrintWords Go.Proofs.YtgikmpgpccfiiaaW.PrintLast
set_option linter.unusedVariables false
/-- Where the piece ends that begins here. -/
def pend (s : ByteArray) (n : Nat) : Nat := max (n + tk ((bl s).drop n)) (n + 1)
/-- A text's pieces from a place on (m: as many steps at most). -/
def pcs (s : ByteArray) : Nat → Nat → List S32
  | 0, _ => []
  | m + 1, n => if n < s.size then ⟨kindL (bl (s.extract n (pend s n))), (n : Int), ((pend s n : Nat) : Int), s.extract n (pend s n)⟩ :: pcs s m (pend s n + sk false ((bl s).drop (pend s n))) else []
theorem pend_le {s : ByteArray} {n : Nat} (hn : n < s.size) : n < pend s n ∧ pend s n ≤ s.size := by
  have h := tk_le ((bl s).drop n)
  rw [List.length_drop, ← bl_size] at h
  unfold pend
  omega
theorem next_le {s : ByteArray} {n : Nat} (hn : n ≤ s.size) : n + sk false ((bl s).drop n) ≤ s.size := by
  have h := sk_le ((bl s).drop n) false
  rw [List.length_drop, ← bl_size] at h
  omega
theorem pcs_len (s : ByteArray) : ∀ (m n : Nat), (pcs s m n).length ≤ s.size - n
  | 0, n => Nat.zero_le _
  | m + 1, n => by
    unfold pcs
    by_cases c : n < s.size
    · rw [if_pos c, List.length_cons]
      have h1 := pend_le c
      have h2 := next_le (s := s) (n := pend s n) h1.2
      have h3 := pcs_len s m (pend s n + sk false ((bl s).drop (pend s n)))
      omega
    · rw [if_neg c]; simp
theorem each_tells {s : ByteArray} (hs : s.size ≤ 140737488351232) : ∀ (m n : Nat), s.size - n ≤ m → n ≤ s.size → Tells (fun k => lex_eachL k s n) (pcs s m n) := by
  intro m
  induction m with
  | zero =>
    intro n hm hn
    show Tells _ ([] : List S32)
    exact Tells.step (fun k => (by rw [lex_eachL, if_neg (show ¬ n < s.size by omega)])) (Tells.const _)
  | succ m ih =>
    intro n hm hn
    unfold pcs
    by_cases c : n < s.size
    · rw [if_pos c]
      have h1 := pend_le c
      have h2 := next_le (s := s) (n := pend s n) h1.2
      have hx : bl (s.extract (pend s n) s.size) = (bl s).drop (pend s n) := by
        rw [bl_extract]
        exact List.take_of_length_le (by rw [List.length_drop, ← bl_size]; omega)
      have hz : ∀ a b, b ≤ s.size → (s.extract a b).size ≤ 140737488351232 := fun a b hb => by
        rw [bl_size, bl_extract]
        simp only [List.length_take, List.length_drop]
        rw [← bl_size]; omega
      refine Tells.step (fun k => (by rw [lex_eachL, if_pos c])) ?_
      refine Tells.bind (toL_tells hs _ n rfl hn) ?_
      show Tells (fun k => (lex_Kind.f k (s.extract n (pend s n))).bind fun kd => (lex_gap.f k (s.extract (pend s n) s.size)).bind fun g => if 0 ≤ g ∧ ((pend s n : Nat) : Int) + g ≤ (s.size : Int) then (lex_eachL k s (pend s n + g.toNat)).bind fun l => some ((⟨kd, (n : Int), ((pend s n : Nat) : Int), s.extract n (pend s n)⟩ : S32) :: l) else none) _
      refine Tells.bind (kind_tells (hz _ _ h1.2)) ?_
      refine Tells.bind (gap_tells (hz _ _ (Nat.le_refl _))) ?_
      rw [hx]
      refine Tells.of (fun k => (by rw [if_pos ⟨by omega, by omega⟩, Int.toNat_natCast])) ?_
      exact Tells.bind (ih _ (by omega) h2) (Tells.const _)
    · rw [if_neg c]
      exact Tells.step (fun k => (by rw [lex_eachL, if_neg c])) (Tells.const _)
theorem words_tells {s : ByteArray} (hs : s.size ≤ 140737488351232) : Tells (fun k => lex_Words.f k s) (if 65536 < s.size then ([], 65536, 40) else lex_resL (pcs s s.size (sk false (bl s)))) := by
  unfold lex_Words.f
  by_cases c : 65536 < s.size
  · rw [if_pos c]
    exact Tells.of (fun k => (by rw [if_pos (show (s.size : Int) > 65536 by omega)])) (Tells.const _)
  · rw [if_neg c]
    refine Tells.of (fun k => (by rw [if_neg (show ¬ (s.size : Int) > 65536 by omega)])) ?_
    refine Tells.bind (gap_tells hs) ?_
    have h1 := sk_le (bl s) false
    rw [← bl_size] at h1
    have h2 := pcs_len s s.size (sk false (bl s))
    refine Tells.of (fun k => (by rw [if_pos ⟨by omega, by omega⟩, Int.toNat_natCast])) ?_
    refine Tells.bind (each_tells hs s.size (sk false (bl s)) (by omega) h1) ?_
    exact Tells.of (fun k => (by rw [if_pos (by omega)])) (Tells.const _)
/-! ### The document's -/
end Go.Proofs.YtgikmpgpccfiiaaT
