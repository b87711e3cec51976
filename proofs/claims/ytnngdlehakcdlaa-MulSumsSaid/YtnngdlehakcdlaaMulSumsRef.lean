/- Plain numbers: the document's sum, by values. -/
import Derived.Test.YtnngdlehakcdlaaMulRef
import Derived.Test.YtnngdlehakcdlaaPMulx27
import Derived.Laws.BitsLemmas
namespace Go.Proofs.Ytnngdlehakcdlaa.Pure
open Go.RowKit Go.Proofs.Ytnngdlehakcdlaa.PMul Go.Proofs.YtnngdlehakcdlaaW.PrintWords Go.Proofs.YtnngdlehakcdlaaW.PrintLast Go.Proofs.YtnngdlehakcdlaaW.PrintMore Go.Proofs.YtnngdlehakcdlaaV
theorem wraps_u64 (n : Int) (h0 : 0 ≤ n) (h1 : n < 2 ^ 64) : IntKind.u64.wrap n = n := by
  simp only [IntKind.wrap, IntKind.bits, IntKind.signed]; simp; omega
theorem at_f {l : List Int} {i : Nat} (ho : ok l = true) : alidaderef01_at.f l (i : Int) = some (l.getD i 0) := by
  unfold alidaderef01_at.f
  by_cases h : (i : Int) ≥ (l.length : Int)
  · rw [if_pos h, List.getD_eq_getElem?_getD, List.getElem?_eq_none (by omega)]; rfl
  · have hg := ok_get ho i
    rw [if_neg h, if_pos (by omega), if_pos (by omega)]
    unfold rd
    rw [Int.toNat_natCast, wraps_u64 _ hg.1 (by omega)]
theorem rcut_go (l : List Int) (hm : l.length ≤ 4611686018427387904) : ∀ (n k : Nat), n ≤ l.length → n < k → alidaderef01_cut.l0 k l (n : Int) = some (cut (l.take n)) := by
  intro n
  induction n with
  | zero =>
    intro k hn hk
    obtain ⟨k, rfl⟩ : ∃ m, k = m + 1 := ⟨k - 1, by omega⟩
    simp only [alidaderef01_cut.l0]
    rw [if_neg (by decide), if_pos (by decide)]; rfl
  | succ n ih =>
    intro k hn hk
    obtain ⟨k, rfl⟩ : ∃ m, k = m + 1 := ⟨k - 1, by omega⟩
    have hw : wrap64 (((n + 1 : Nat) : Int) - 1) = (n : Int) := by unfold wrap64; omega
    have hlt : n < l.length := by omega
    have hrd : rd l (n : Int) = l[n] := by unfold rd; rw [Int.toNat_natCast, List.getD_eq_getElem?_getD, List.getElem?_eq_getElem hlt]; rfl
    simp only [alidaderef01_cut.l0]
    rw [if_pos (by omega), hw, if_pos (by omega), if_pos (by omega), hrd, List.take_succ_eq_append_getElem hlt]
    by_cases hz : l[n] = 0
    · rw [if_pos hz, ih k (by omega) (by omega), hz]
      unfold cut
      rw [strip_snoc_zero]
    · rw [if_neg hz, if_neg (by omega)]
      unfold cut
      rw [strip_snoc hz]
      have hl : (l.take n ++ [l[n]]).length = n + 1 := by simp; omega
      rw [hl]
      by_cases hb : n + 1 ≤ 65536
      · rw [if_neg (by omega), if_pos (by omega), if_pos (by omega), if_pos hb, Int.toNat_natCast, List.take_succ_eq_append_getElem hlt]
      · rw [if_pos (by omega), if_neg hb]
theorem rcut_f {l : List Int} {k : Nat} (hm : l.length ≤ 4611686018427387904) (hk : l.length < k) : alidaderef01_cut.f k l = some (cut l) := by
  unfold alidaderef01_cut.f
  rw [rcut_go l hm l.length k (Nat.le_refl _) hk, List.take_length]

theorem radd_go {a b : List Int} {M : Nat} (oa : ok a = true) (ob : ok b = true) (hM : mx (a.length : Int) (b.length : Int) = (M : Int)) (ha : a.length ≤ M) (hb : b.length ≤ M) (hm : M ≤ 65536) (d : Nat) : ∀ (i k : Nat) (out : List Int) (c : Nat), i + d = M + 1 → 100000 + d < k → ok out = true → out.length = i → c ≤ 1 → (i = M + 1 → c = 0) →
    val out + B ^ i * c = val (a.take i) + val (b.take i) → alidaderef01_Add.l0 k a b out (c : Int) (i : Int) = some (fit (val a + val b)) := by
  induction d with
  | zero =>
    intro i k out c hi hk oo ho hc hcz hv
    obtain ⟨k, rfl⟩ : ∃ m, k = m + 1 := ⟨k - 1, by omega⟩
    obtain rfl := hcz (by omega)
    have h1 : ¬ (i : Int) ≤ (M : Int) := by omega
    have h2 : alidaderef01_cut.f k out = some (cut out) := rcut_f (by clear hv; omega) (by clear hv; omega)
    rw [List.take_of_length_le (by omega), List.take_of_length_le (by omega), Nat.mul_zero, Nat.add_zero] at hv
    simp only [alidaderef01_Add.l0]
    rw [hM, if_neg h1, h2, Option.bind_some, cut_fit oo, hv]
  | succ d ih =>
    intro i k out c hi hk oo ho hc hcz hv
    obtain ⟨k, rfl⟩ : ∃ m, k = m + 1 := ⟨k - 1, by omega⟩
    have c0 : (i : Int) ≤ (M : Int) := by clear hv; omega
    have c1 : out.length < 35184372088832 := by clear hv; omega
    have hx := ok_get oa i
    have hy := ok_get ob i
    have hva := val_take_succ a i
    have hvb := val_take_succ b i
    have zx : i + 1 = M + 1 → a.getD i 0 = 0 := fun h => by rw [List.getD_eq_getElem?_getD, List.getElem?_eq_none (by omega)]; rfl
    have zy : i + 1 = M + 1 → b.getD i 0 = 0 := fun h => by rw [List.getD_eq_getElem?_getD, List.getElem?_eq_none (by omega)]; rfl
    obtain ⟨x, hxe⟩ := Int.eq_ofNat_of_zero_le hx.1
    obtain ⟨y, hye⟩ := Int.eq_ofNat_of_zero_le hy.1
    rw [hxe, Int.toNat_natCast] at hva
    rw [hye, Int.toNat_natCast] at hvb
    rw [hxe] at hx zx
    rw [hye] at hy zy
    have hw : wrap64 ((i : Int) + 1) = ((i + 1 : Nat) : Int) := by unfold wrap64; omega
    have e1 : IntKind.u64.wrap (IntKind.u64.wrap ((x : Int) + (y : Int)) + (c : Int)) = ((x + y + c : Nat) : Int) := by
      rw [wraps_u64 ((x : Int) + (y : Int)) (by omega) (by omega), wraps_u64 _ (by omega) (by omega)]; omega
    have hD : x + y + c < 8589934592 := by omega
    have hz : i + 1 = M + 1 → (x + y + c) / 4294967296 = 0 := fun h => by have := zx h; have := zy h; omega
    have hDe : x + y + c = x + y + c := rfl
    generalize hDD : x + y + c = D at *
    have e2 : Int.tmod (D : Int) 4294967296 % 4294967296 = ((D % 4294967296 : Nat) : Int) := by rw [Int.tmod_eq_emod_of_nonneg (by omega)]; omega
    have e3 : IntKind.u64.wrap (Int.tdiv (D : Int) 4294967296) = ((D / 4294967296 : Nat) : Int) := by
      rw [Int.tdiv_eq_ediv_of_nonneg (by omega), wraps_u64 ((D : Int) / 4294967296) (by omega) (by omega)]; omega
    simp only [alidaderef01_Add.l0]
    rw [hM, if_pos c0, at_f oa, Option.bind_some, at_f ob, Option.bind_some, if_pos c1, hxe, hye, e1, e2, e3, hw]
    refine ih (i + 1) k _ _ (by clear hv hva hvb; omega) (by clear hv hva hvb; omega) ?_ (by simp; omega) (by omega) hz ?_
    · rw [ok_append]; exact ⟨oo, by rw [ok_cons]; exact ⟨by omega, rfl⟩⟩
    · rw [val_snoc, ho, Int.toNat_natCast, hva, hvb, Nat.pow_succ]
      have k1 : D % 4294967296 + B * (D / 4294967296) = x + y + c := by simp only [B]; omega
      have k2 := congrArg (fun z => B ^ i * z + val out) k1
      simp only [Nat.mul_add] at k2
      rw [Nat.mul_assoc]
      omega
theorem radd_f {a b : List Int} {k : Nat} (oa : ok a = true) (ob : ok b = true) (hk : 300000 ≤ k) : alidaderef01_Add.f k a b = some (addS a b) := by
  obtain ⟨k, rfl⟩ : ∃ m, k = m + 1 := ⟨k - 1, by omega⟩
  unfold alidaderef01_Add.f addS
  rw [rmay_f oa, rmay_f ob, Option.bind_some]
  have ht : alidaderef01_Add.j0 (k + 1) a b true = some [] := by simp only [alidaderef01_Add.j0, if_true]
  cases ma : may a with
  | false => exact ht
  | true =>
    rw [if_pos rfl, Option.bind_some]
    cases mb : may b with
    | false => exact ht
    | true =>
      have la := may_length ma
      have lb := may_length mb
      simp only [alidaderef01_Add.j0, Bool.not_true, Bool.false_eq_true, if_false]
      have hM : mx (a.length : Int) (b.length : Int) = ((max a.length b.length : Nat) : Int) := by unfold mx; split <;> omega
      exact radd_go oa ob hM (by omega) (by omega) (by omega) (max a.length b.length + 1) 0 k [] 0 (by omega) (by omega) rfl rfl (by omega) (by omega) (by simp [val])
end Go.Proofs.Ytnngdlehakcdlaa.Pure
