/- Plain numbers: what the document's functions (part 1) tell, by values: what is cut, a limb, a power of 2. -/
import Derived.Test.YthdhpihfbggbbaaPNatx21
import Derived.Test.YthdhpihfbggbbaaPNatx22
import Derived.Test.YthdhpihfbggbbaaNatPlain
import Derived.Laws.BitsLemmas
namespace Go.Proofs.Ythdhpihfbggbbaa.Pure
open Go.RowKit Go.Proofs.Ythdhpihfbggbbaa.PNat Go.Proofs.YthdhpihfbggbbaaW.PrintWords Go.Proofs.YthdhpihfbggbbaaW.PrintLast Go.Proofs.YthdhpihfbggbbaaW.PrintMore Go.Proofs.YthdhpihfbggbbaaV

theorem own_f {l : List Int} (h : l.length < 35184372088832) : alidadelaw01_own.f l = some l := by
  unfold alidadelaw01_own.f
  rw [Option.bind_some, if_pos (by simpa using h)]; rfl
theorem is_go (b : Bool) (d : Nat) : ∀ (a : List Int) (i k : Nat), i + d = a.length → a.length ≤ 4611686018427387904 → d < k → ∃ a', alidadelaw01_is.l0 k a b (i : Int) = some (b, a') := by
  induction d with
  | zero =>
    intro a i k hi hm hk
    obtain ⟨k, rfl⟩ : ∃ m, k = m + 1 := ⟨k - 1, by omega⟩
    exact ⟨a, by simp only [alidadelaw01_is.l0]; rw [if_neg (by omega)]⟩
  | succ d ih =>
    intro a i k hi hm hk
    obtain ⟨k, rfl⟩ : ∃ m, k = m + 1 := ⟨k - 1, by omega⟩
    have hw : wrap64 ((i : Int) + 1) = ((i + 1 : Nat) : Int) := by unfold wrap64; omega
    obtain ⟨a', ha⟩ := ih (a.set i 77) (i + 1) k (by simp; omega) (by simp; omega) (by omega)
    refine ⟨a', ?_⟩
    simp only [alidadelaw01_is.l0]
    rw [if_pos (by omega), if_pos (by omega), Int.toNat_natCast, hw, ha]
theorem is_f {k : Nat} {a b : List Int} (hk : a.length < k) (hm : a.length ≤ 4611686018427387904) : ∃ a', alidadelaw01_is.f k a b = some (decide (a = b), a') := by
  unfold alidadelaw01_is.f
  rw [Same_f hk hm, Option.bind_some]
  exact is_go _ a.length a 0 k (by omega) hm hk
theorem rmay_f {l : List Int} (ho : ok l = true) : alidaderef01_May.f l = some (may l) := by
  unfold alidaderef01_May.f may rd
  by_cases h1 : (l.length : Int) > 65536
  · rw [if_pos h1, decide_eq_false (by omega)]; rfl
  · rw [if_neg h1]
    by_cases h2 : (l.length : Int) = 0
    · rw [if_pos h2, decide_eq_true (by omega), decide_eq_true (by omega)]; rfl
    · have hw : wrap64 ((l.length : Int) - 1) = ((l.length - 1 : Nat) : Int) := by unfold wrap64; omega
      rw [if_neg h2, hw, if_pos (by omega), if_pos (by omega), decide_eq_true (show l.length ≤ 65536 by omega), decide_eq_false (show ¬ l.length = 0 by omega), Int.toNat_natCast]
      have hg := ok_get ho (l.length - 1)
      generalize l.getD (l.length - 1) 0 = x at *
      simp only [Bool.true_and, Bool.false_or]
      congr 1
      rw [Bool.eq_iff_iff]
      simp only [decide_eq_true_eq, bne_iff_ne, ne_eq]
      omega
theorem power_go (d : Nat) : ∀ (i k s : Nat), i + d = s → s < 63 → d < k → alidaderef01_power.l0 k (s : Int) ((2 ^ i : Nat) : Int) (i : Int) = some ((2 ^ s : Nat) : Int) := by
  induction d with
  | zero =>
    intro i k s hi hs hk
    obtain ⟨k, rfl⟩ : ∃ m, k = m + 1 := ⟨k - 1, by omega⟩
    simp only [alidaderef01_power.l0]
    rw [if_neg (by omega), show i = s by omega]
  | succ d ih =>
    intro i k s hi hs hk
    obtain ⟨k, rfl⟩ : ∃ m, k = m + 1 := ⟨k - 1, by omega⟩
    have hw : wrap64 ((i : Int) + 1) = ((i + 1 : Nat) : Int) := by unfold wrap64; omega
    have hp : 2 ^ i ≤ 2 ^ 62 := Nat.pow_le_pow_right (by decide) (by omega)
    have h2 : IntKind.u64.wrap (((2 ^ i : Nat) : Int) * 2) = ((2 ^ (i + 1) : Nat) : Int) := by
      rw [Nat.pow_succ]
      generalize 2 ^ i = P at *
      rw [wraps_u64 _ (by omega) (by omega)]; omega
    simp only [alidaderef01_power.l0]
    rw [if_pos (by omega), h2, hw, ih (i + 1) k s (by omega) hs (by omega)]
theorem power_f {k s : Nat} (hs : s < 63) (hk : s < k) : alidaderef01_power.f k (s : Int) = some ((2 ^ s : Nat) : Int) := by
  unfold alidaderef01_power.f
  exact power_go s 0 k s (by omega) hs hk
theorem at_f {l : List Int} {i : Nat} (ho : ok l = true) : alidaderef01_at.f l (i : Int) = some (l.getD i 0) := by
  unfold alidaderef01_at.f
  by_cases h : (i : Int) ≥ (l.length : Int)
  · rw [if_pos h, List.getD_eq_getElem?_getD, List.getElem?_eq_none (by omega)]; rfl
  · have hg := ok_get ho i
    rw [if_neg h, if_pos (by omega), if_pos (by omega)]
    unfold rd
    rw [Int.toNat_natCast, wraps_u64 _ hg.1 (by omega)]
theorem rcut_go (l : List Int) (hm : l.length ≤ 4611686018427387904) : ∀ (n k : Nat), n ≤ l.length → n < k → alidaderef01_cut.l0 k l (n : Int) = some (cut (l.take n)) := by
  intro n
  induction n with
  | zero =>
    intro k hn hk
    obtain ⟨k, rfl⟩ : ∃ m, k = m + 1 := ⟨k - 1, by omega⟩
    simp only [alidaderef01_cut.l0]
    rw [if_neg (by decide), if_pos (by decide)]; rfl
  | succ n ih =>
    intro k hn hk
    obtain ⟨k, rfl⟩ : ∃ m, k = m + 1 := ⟨k - 1, by omega⟩
    have hw : wrap64 (((n + 1 : Nat) : Int) - 1) = (n : Int) := by unfold wrap64; omega
    have hlt : n < l.length := by omega
    have hrd : rd l (n : Int) = l[n] := by unfold rd; rw [Int.toNat_natCast, List.getD_eq_getElem?_getD, List.getElem?_eq_getElem hlt]; rfl
    simp only [alidaderef01_cut.l0]
    rw [if_pos (by omega), hw, if_pos (by omega), if_pos (by omega), hrd, List.take_succ_eq_append_getElem hlt]
    by_cases hz : l[n] = 0
    · rw [if_pos hz, ih k (by omega) (by omega), hz]
      unfold cut
      rw [strip_snoc_zero]
    · rw [if_neg hz, if_neg (by omega)]
      unfold cut
      rw [strip_snoc hz]
      have hl : (l.take n ++ [l[n]]).length = n + 1 := by simp; omega
      rw [hl]
      by_cases hb : n + 1 ≤ 65536
      · rw [if_neg (by omega), if_pos (by omega), if_pos (by omega), if_pos hb, Int.toNat_natCast, List.take_succ_eq_append_getElem hlt]
      · rw [if_pos (by omega), if_neg hb]
theorem rcut_f {l : List Int} {k : Nat} (hm : l.length ≤ 4611686018427387904) (hk : l.length < k) : alidaderef01_cut.f k l = some (cut l) := by
  unfold alidaderef01_cut.f
  rw [rcut_go l hm l.length k (Nat.le_refl _) hk, List.take_length]

end Go.Proofs.Ythdhpihfbggbbaa.Pure
