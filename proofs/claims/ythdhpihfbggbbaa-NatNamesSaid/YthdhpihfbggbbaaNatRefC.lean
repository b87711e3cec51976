/- Plain numbers: what the document's functions (part 1) tell, by values: small numbers, how two stand, sums, differences. -/
import Derived.Test.YthdhpihfbggbbaaNatRef
import Derived.Test.YthdhpihfbggbbaaPNatx28
import Derived.Test.YthdhpihfbggbbaaPNatx29
import Derived.Test.YthdhpihfbggbbaaPNatx30
import Derived.Test.YthdhpihfbggbbaaPNatx31
namespace Go.Proofs.Ythdhpihfbggbbaa.Pure
open Go.RowKit Go.Proofs.Ythdhpihfbggbbaa.PNat Go.Proofs.YthdhpihfbggbbaaW.PrintWords Go.Proofs.YthdhpihfbggbbaaW.PrintLast Go.Proofs.YthdhpihfbggbbaaW.PrintMore Go.Proofs.YthdhpihfbggbbaaV

def lowS (l : List Int) : Int × Bool := if may l && decide (l.length ≤ 2) then ((val l : Int), true) else (0, false)
theorem low_f {l : List Int} {k : Nat} (ol : ok l = true) (hl : l.length ≤ 9223372036854775807) (hk : 2 ≤ k) : nat_Low.f k l = some (lowS l) := by
  obtain ⟨k, rfl⟩ : ∃ m, k = m + 1 := ⟨k - 1, by omega⟩
  unfold nat_Low.f lowS
  rw [may_f hl, Option.bind_some]
  cases hm : may l with
  | false => rfl
  | true =>
    rw [if_pos rfl]
    by_cases h2 : l.length ≤ 2
    · rw [decide_eq_false (by omega)]
      simp only [nat_Low.j0, Bool.false_eq_true, if_false, Bool.true_and]
      rw [if_pos (decide_eq_true h2)]
      match l, ol, h2 with
      | [], _, _ => rfl
      | [x], ol, _ =>
        have hx := (ok_cons.1 ol).1
        obtain ⟨X, rfl⟩ := Int.eq_ofNat_of_zero_le hx.1
        have e := (bits_nat .u64 64 (by decide) wraps_u64 0 X (by decide) (by omega)).2
        rw [if_neg (by simp), if_pos (by simp), if_pos (by simp)]
        have hrd : rd [(X : Int)] 0 = (X : Int) := rfl
        rw [hrd, wraps_u64 _ (by omega) (by omega)]
        rw [show ((0 : Nat) : Int) = 0 from rfl] at e
        rw [e, Nat.zero_or]
        simp [val]
      | [x, y], ol, _ =>
        have hx := (ok_cons.1 ol).1
        have hy := (ok_cons.1 (ok_cons.1 ol).2).1
        obtain ⟨X, rfl⟩ := Int.eq_ofNat_of_zero_le hx.1
        obtain ⟨Y, rfl⟩ := Int.eq_ofNat_of_zero_le hy.1
        have e := (bits_nat .u64 64 (by decide) wraps_u64 (2 ^ 32 * Y) X (by omega) (by omega)).2
        rw [if_pos (by simp), if_pos (by simp), if_pos (by simp)]
        have hr1 : rd [(X : Int), (Y : Int)] 1 = (Y : Int) := rfl
        have hr0 : rd [(X : Int), (Y : Int)] 0 = (X : Int) := rfl
        rw [hr1, hr0, wraps_u64 (X : Int) (by omega) (by omega), wraps_u64 (Y : Int) (by omega) (by omega), wraps_u64 _ (by omega) (by omega)]
        rw [show (Y : Int) * 4294967296 = ((2 ^ 32 * Y : Nat) : Int) by simp; omega, e, ← Nat.two_pow_add_eq_or_of_lt (by omega) Y]
        have ev : val [(X : Int), (Y : Int)] = 2 ^ 32 * Y + X := by
          show X + 4294967296 * (Y + 4294967296 * 0) = _
          omega
        rw [ev]
    · rw [decide_eq_true (by omega)]
      simp only [nat_Low.j0, if_true]
      rw [if_neg (by simp; omega)]
theorem rlow_go {l : List Int} (ol : ok l = true) (h2 : l.length ≤ 2) : ∀ (n k : Nat) (u : Int), n ≤ l.length → n < k → u = (val (l.drop n) : Int) → alidaderef01_Low.l0 k l u ((n : Int) - 1) = some ((val l : Int), true) := by
  intro n
  induction n with
  | zero =>
    intro k u hn hk hu
    obtain ⟨k, rfl⟩ : ∃ m, k = m + 1 := ⟨k - 1, by omega⟩
    rw [List.drop_zero] at hu
    simp only [alidaderef01_Low.l0]
    rw [if_neg (by omega), hu]
  | succ n ih =>
    intro k u hn hk hu
    obtain ⟨k, rfl⟩ : ∃ m, k = m + 1 := ⟨k - 1, by omega⟩
    have hlt : n < l.length := by omega
    have hx := ok_get ol n
    have hd : l.drop n = l.getD n 0 :: l.drop (n + 1) := by
      rw [List.drop_eq_getElem_cons hlt, List.getD_eq_getElem?_getD, List.getElem?_eq_getElem hlt]; rfl
    obtain ⟨x, hxe⟩ := Int.eq_ofNat_of_zero_le hx.1
    rw [hxe] at hd hx
    have hvd : val (l.drop n) = x + 4294967296 * val (l.drop (n + 1)) := by rw [hd]; rfl
    have hlt2 : val (l.drop (n + 1)) < 4294967296 := by
      have h1 := val_lt (ok_drop ol (n + 1))
      have h3 : (l.drop (n + 1)).length ≤ 1 := by rw [List.length_drop]; omega
      exact Nat.lt_of_lt_of_le h1 (Nat.le_trans (Nat.pow_le_pow_right (by decide) h3) (by decide))
    have e0 : ((n + 1 : Nat) : Int) - 1 = (n : Int) := by omega
    have hw : wrap64 ((n : Int) - 1) = (n : Int) - 1 := by unfold wrap64; omega
    have hrd : rd l (n : Int) = (x : Int) := by unfold rd; rw [Int.toNat_natCast, hxe]
    simp only [alidaderef01_Low.l0]
    rw [e0, if_pos (by omega), if_pos (by omega), if_pos (by omega), hrd, hw, hu]
    refine ih k _ (by omega) (by omega) ?_
    rw [hvd]
    generalize val (l.drop (n + 1)) = H at *
    rw [wraps_u64 ((H : Int) * 4294967296) (by omega) (by omega), wraps_u64 (x : Int) (by omega) (by omega), wraps_u64 _ (by omega) (by omega)]
    omega
theorem rlow_f {l : List Int} {k : Nat} (ol : ok l = true) (hk : 10 ≤ k) : alidaderef01_Low.f k l = some (lowS l) := by
  obtain ⟨k, rfl⟩ : ∃ m, k = m + 1 := ⟨k - 1, by omega⟩
  unfold alidaderef01_Low.f lowS
  rw [rmay_f ol, Option.bind_some]
  cases hm : may l with
  | false => rfl
  | true =>
    rw [if_pos rfl]
    by_cases h2 : l.length ≤ 2
    · rw [decide_eq_false (by omega)]
      simp only [alidaderef01_Low.j0, Bool.false_eq_true, if_false, Bool.true_and]
      rw [if_pos (decide_eq_true h2)]
      have hw : wrap64 ((l.length : Int) - 1) = (l.length : Int) - 1 := by unfold wrap64; omega
      rw [hw]
      exact rlow_go ol h2 l.length k 0 (Nat.le_refl _) (by omega) (by rw [List.drop_of_length_le (Nat.le_refl _)]; rfl)
    · rw [decide_eq_true (by omega)]
      simp only [alidaderef01_Low.j0, if_true]
      rw [if_neg (by simp; omega)]

/-! ### Cmp -/
theorem cmpN_add (u v c : Nat) : cmpN (u + c) (v + c) = cmpN u v := by
  unfold cmpN
  by_cases h : u < v
  · rw [if_pos h, if_pos (by omega)]
  · rw [if_neg h, if_neg (by omega)]
    by_cases h2 : u = v
    · rw [if_pos h2, if_pos (by omega)]
    · rw [if_neg h2, if_neg (by omega)]
theorem rcmp_go {a b : List Int} (oa : ok a = true) (ob : ok b = true) (hl : a.length = b.length) (hm : a.length ≤ 65536) : ∀ (n k : Nat), n ≤ a.length → n < k → alidaderef01_Cmp.l0 k a b ((n : Int) - 1) = some (cmpN (val (a.take n)) (val (b.take n))) := by
  intro n
  induction n with
  | zero =>
    intro k hn hk
    obtain ⟨k, rfl⟩ : ∃ m, k = m + 1 := ⟨k - 1, by omega⟩
    simp only [alidaderef01_Cmp.l0]
    rw [if_neg (by omega)]; rfl
  | succ n ih =>
    intro k hn hk
    obtain ⟨k, rfl⟩ : ∃ m, k = m + 1 := ⟨k - 1, by omega⟩
    have hx := ok_get oa n
    have hy := ok_get ob n
    have hva := val_take_succ a n
    have hvb := val_take_succ b n
    have la := val_lt (ok_take oa n)
    have lb := val_lt (ok_take ob n)
    rw [List.length_take, Nat.min_eq_left (by omega)] at la lb
    obtain ⟨x, hxe⟩ := Int.eq_ofNat_of_zero_le hx.1
    obtain ⟨y, hye⟩ := Int.eq_ofNat_of_zero_le hy.1
    rw [hxe, Int.toNat_natCast] at hva
    rw [hye, Int.toNat_natCast] at hvb
    have e0 : ((n + 1 : Nat) : Int) - 1 = (n : Int) := by omega
    have hw : wrap64 ((n : Int) - 1) = (n : Int) - 1 := by unfold wrap64; omega
    have hra : rd a (n : Int) = (x : Int) := by unfold rd; rw [Int.toNat_natCast, hxe]
    have hrb : rd b (n : Int) = (y : Int) := by unfold rd; rw [Int.toNat_natCast, hye]
    have c1 : (n : Int) < (a.length : Int) := by omega
    have c2 : (n : Int) < (b.length : Int) := by omega
    have hih := ih k (by omega) (by omega)
    rw [hva, hvb]
    generalize B ^ n = P at *
    generalize val (a.take n) = u at *
    generalize val (b.take n) = v at *
    simp only [alidaderef01_Cmp.l0]
    rw [e0, if_pos (by omega), if_pos (by omega), if_pos c1, if_pos c2, hra, hrb, hw, hih]
    by_cases h1 : x < y
    · have := Nat.mul_le_mul_left P (show x + 1 ≤ y from h1)
      rw [Nat.mul_add] at this
      rw [if_pos (by omega)]
      unfold cmpN
      rw [if_pos (by omega)]
    · rw [if_neg (by omega)]
      by_cases h2 : y < x
      · have := Nat.mul_le_mul_left P (show y + 1 ≤ x from h2)
        rw [Nat.mul_add] at this
        rw [if_pos (by omega)]
        unfold cmpN
        rw [if_neg (by omega), if_neg (by omega)]
      · obtain rfl : x = y := by omega
        rw [if_neg (by omega), cmpN_add]
theorem len_val {a b : List Int} (oa : ok a = true) (ob : ok b = true) (mb : may b = true) (h : a.length < b.length) : val a < val b := by
  rcases Nat.lt_or_ge (val a) (val b) with h1 | h1
  · exact h1
  · have := length_le_of_val oa ob (may_norm mb) h1; omega
theorem rcmp_f {a b : List Int} {k : Nat} (oa : ok a = true) (ob : ok b = true) (hk : 100000 ≤ k) : alidaderef01_Cmp.f k a b = some (cmpS a b) := by
  obtain ⟨k, rfl⟩ : ∃ m, k = m + 1 := ⟨k - 1, by omega⟩
  unfold alidaderef01_Cmp.f cmpS
  rw [rmay_f oa, rmay_f ob, Option.bind_some]
  have ht : alidaderef01_Cmp.j0 (k + 1) a b true = some 0 := by simp only [alidaderef01_Cmp.j0, if_true]
  cases ma : may a with
  | false => exact ht
  | true =>
    rw [if_pos rfl, Option.bind_some]
    cases mb : may b with
    | false => exact ht
    | true =>
      have la := may_length ma
      have lb := may_length mb
      rw [if_pos rfl]
      have hf : alidaderef01_Cmp.j0 (k + 1) a b false = some (cmpN (val a) (val b)) := by
        simp only [alidaderef01_Cmp.j0, Bool.false_eq_true, if_false]
        by_cases h1 : a.length < b.length
        · have := len_val oa ob mb h1
          rw [if_pos (by omega)]; unfold cmpN; rw [if_pos this]
        · rw [if_neg (by omega)]
          by_cases h2 : b.length < a.length
          · have := len_val ob oa ma h2
            rw [if_pos (by omega)]; unfold cmpN; rw [if_neg (by omega), if_neg (by omega)]
          · have hw : wrap64 ((a.length : Int) - 1) = (a.length : Int) - 1 := by unfold wrap64; omega
            rw [if_neg (by omega), hw, rcmp_go oa ob (by omega) la a.length k (Nat.le_refl _) (by omega), List.take_of_length_le (Nat.le_refl _), List.take_of_length_le (by omega)]
      by_cases h0 : (a.length : Int) = 0
      · rw [if_pos h0]
        by_cases h1 : (b.length : Int) = 0
        · have ea : a = [] := List.length_eq_zero_iff.1 (by omega)
          have eb : b = [] := List.length_eq_zero_iff.1 (by omega)
          subst ea; subst eb
          rw [show ((([] : List Int).length : Int) == 0) = true from rfl, ht]; rfl
        · rw [beq_eq_false_iff_ne.2 h1, hf]; rfl
      · rw [if_neg h0, hf]; rfl

/-! ### Sub -/
theorem sub_digit (D : Nat) (h : D < 8589934592) : 1 - D / 4294967296 ≤ 1 ∧ D + 4294967296 * (1 - D / 4294967296) = D % 4294967296 + 4294967296 ∧ D % 4294967296 < 4294967296 := by omega
theorem rsub_go {a b : List Int} (oa : ok a = true) (ob : ok b = true) (hl : b.length ≤ a.length) (hm : a.length ≤ 65536) (hle : val b ≤ val a) (d : Nat) : ∀ (i k : Nat) (out : List Int) (c : Nat), i + d = a.length → 100000 + d < k → ok out = true → out.length = i → c ≤ 1 →
    val (a.take i) + B ^ i * c = val out + val (b.take i) → alidaderef01_Sub.l0 k a b out (c : Int) (i : Int) = some (toL (val a - val b), true) := by
  induction d with
  | zero =>
    intro i k out c hi hk oo ho hc hv
    obtain ⟨k, rfl⟩ : ∃ m, k = m + 1 := ⟨k - 1, by omega⟩
    have h1 : ¬ (i : Int) < (a.length : Int) := by omega
    have h2 : alidaderef01_cut.f k out = some (cut out) := rcut_f (by clear hv; omega) (by clear hv; omega)
    rw [List.take_of_length_le (by omega), List.take_of_length_le (by omega)] at hv
    have hlt := val_lt oo
    rw [ho] at hlt
    have hc0 : c = 0 := by
      rcases Nat.eq_zero_or_pos c with h | h
      · exact h
      · obtain rfl : c = 1 := by omega
        rw [Nat.mul_one] at hv
        generalize B ^ i = P at *
        omega
    subst hc0
    rw [Nat.mul_zero, Nat.add_zero] at hv
    simp only [alidaderef01_Sub.l0]
    rw [if_neg h1, h2, Option.bind_some, cut_fit oo, fit_small (m := i) hlt (by clear hv; omega)]
    congr 2
    rw [hv, Nat.add_sub_cancel]
  | succ d ih =>
    intro i k out c hi hk oo ho hc hv
    obtain ⟨k, rfl⟩ : ∃ m, k = m + 1 := ⟨k - 1, by omega⟩
    have c0 : (i : Int) < (a.length : Int) := by clear hv; omega
    have c1 : out.length < 35184372088832 := by clear hv; omega
    have hx := ok_get oa i
    have hy := ok_get ob i
    have hva := val_take_succ a i
    have hvb := val_take_succ b i
    obtain ⟨x, hxe⟩ := Int.eq_ofNat_of_zero_le hx.1
    obtain ⟨y, hye⟩ := Int.eq_ofNat_of_zero_le hy.1
    rw [hxe, Int.toNat_natCast] at hva
    rw [hye, Int.toNat_natCast] at hvb
    rw [hxe] at hx
    rw [hye] at hy
    have hw : wrap64 ((i : Int) + 1) = ((i + 1 : Nat) : Int) := by unfold wrap64; omega
    have e1 : IntKind.u64.wrap (IntKind.u64.wrap (IntKind.u64.wrap (4294967296 + (x : Int)) - (y : Int)) - (c : Int)) = ((4294967296 + x - y - c : Nat) : Int) := by
      rw [wraps_u64 (4294967296 + (x : Int)) (by omega) (by omega), wraps_u64 (4294967296 + (x : Int) - (y : Int)) (by omega) (by omega), wraps_u64 _ (by omega) (by omega)]; omega
    have hD : 4294967296 + x - y - c < 8589934592 := by omega
    have hDe : 4294967296 + x = (4294967296 + x - y - c) + y + c := by omega
    generalize 4294967296 + x - y - c = D at *
    have e2 : Int.tmod (D : Int) 4294967296 % 4294967296 = ((D % 4294967296 : Nat) : Int) := by rw [Int.tmod_eq_emod_of_nonneg (by omega)]; omega
    have e3 : IntKind.u64.wrap (1 - IntKind.u64.wrap (Int.tdiv (D : Int) 4294967296)) = ((1 - D / 4294967296 : Nat) : Int) := by
      rw [Int.tdiv_eq_ediv_of_nonneg (by omega), wraps_u64 ((D : Int) / 4294967296) (by omega) (by omega), wraps_u64 _ (by omega) (by omega)]; omega
    obtain ⟨d1, d2, d3⟩ := sub_digit D hD
    generalize 1 - D / 4294967296 = c2 at *
    generalize D % 4294967296 = D2 at *
    simp only [alidaderef01_Sub.l0]
    rw [if_pos c0, at_f oa, Option.bind_some, at_f ob, Option.bind_some, if_pos c1, hxe, hye, e1, e2, e3, hw]
    refine ih (i + 1) k _ _ (by clear hv hva hvb; omega) (by clear hv hva hvb; omega) ?_ (by simp; omega) d1 ?_
    · rw [ok_append]; exact ⟨oo, by rw [ok_cons]; exact ⟨by omega, rfl⟩⟩
    · rw [val_snoc, ho, Int.toNat_natCast, hva, hvb, Nat.pow_succ]
      have k1 : x + B * c2 = D2 + y + c := by simp only [B]; clear hv hva hvb e1 e2 e3; omega
      have k2 := congrArg (fun z => B ^ i * z + val (a.take i)) k1
      simp only [Nat.mul_add] at k2
      rw [Nat.mul_assoc]
      omega
theorem rsub_f {a b : List Int} {k : Nat} (oa : ok a = true) (ob : ok b = true) (hk : 300000 ≤ k) : alidaderef01_Sub.f k a b = some (subS a b) := by
  obtain ⟨k, rfl⟩ : ∃ m, k = m + 1 := ⟨k - 1, by omega⟩
  unfold alidaderef01_Sub.f subS
  rw [rmay_f oa, rmay_f ob, Option.bind_some, rcmp_f oa ob (by omega)]
  have ht : alidaderef01_Sub.j0 (k + 1) a b true = some ([], false) := by simp only [alidaderef01_Sub.j0, if_true]
  cases ma : may a with
  | false => exact ht
  | true =>
    rw [if_pos rfl, Option.bind_some]
    cases mb : may b with
    | false => exact ht
    | true =>
      rw [if_pos rfl, Option.bind_some, cmpS_of ma mb]
      by_cases hle : val b ≤ val a
      · have hl := length_le_of_val oa ob (may_norm mb) hle
        have hc : decide (cmpN (val a) (val b) < 0) = false := by
          unfold cmpN; rw [if_neg (by omega)]; split <;> rfl
        rw [hc, if_pos (by simp [hle])]
        simp only [alidaderef01_Sub.j0, Bool.false_eq_true, if_false]
        have hla := may_length ma
        have := rsub_go oa ob hl hla hle a.length 0 k [] 0 (by omega) (by omega) rfl rfl (by omega) (by simp [val])
        exact this
      · have hc : decide (cmpN (val a) (val b) < 0) = true := by
          unfold cmpN; rw [if_pos (by omega)]; rfl
        rw [hc, ht, if_neg (by simp [hle])]

/-! ### Add -/
theorem radd_go {a b : List Int} {M : Nat} (oa : ok a = true) (ob : ok b = true) (hM : mx (a.length : Int) (b.length : Int) = (M : Int)) (ha : a.length ≤ M) (hb : b.length ≤ M) (hm : M ≤ 65536) (d : Nat) : ∀ (i k : Nat) (out : List Int) (c : Nat), i + d = M + 1 → 100000 + d < k → ok out = true → out.length = i → c ≤ 1 → (i = M + 1 → c = 0) →
    val out + B ^ i * c = val (a.take i) + val (b.take i) → alidaderef01_Add.l0 k a b out (c : Int) (i : Int) = some (fit (val a + val b)) := by
  induction d with
  | zero =>
    intro i k out c hi hk oo ho hc hcz hv
    obtain ⟨k, rfl⟩ : ∃ m, k = m + 1 := ⟨k - 1, by omega⟩
    obtain rfl := hcz (by omega)
    have h1 : ¬ (i : Int) ≤ (M : Int) := by omega
    have h2 : alidaderef01_cut.f k out = some (cut out) := rcut_f (by clear hv; omega) (by clear hv; omega)
    rw [List.take_of_length_le (by omega), List.take_of_length_le (by omega), Nat.mul_zero, Nat.add_zero] at hv
    simp only [alidaderef01_Add.l0]
    rw [hM, if_neg h1, h2, Option.bind_some, cut_fit oo, hv]
  | succ d ih =>
    intro i k out c hi hk oo ho hc hcz hv
    obtain ⟨k, rfl⟩ : ∃ m, k = m + 1 := ⟨k - 1, by omega⟩
    have c0 : (i : Int) ≤ (M : Int) := by clear hv; omega
    have c1 : out.length < 35184372088832 := by clear hv; omega
    have hx := ok_get oa i
    have hy := ok_get ob i
    have hva := val_take_succ a i
    have hvb := val_take_succ b i
    have zx : i + 1 = M + 1 → a.getD i 0 = 0 := fun h => by rw [List.getD_eq_getElem?_getD, List.getElem?_eq_none (by omega)]; rfl
    have zy : i + 1 = M + 1 → b.getD i 0 = 0 := fun h => by rw [List.getD_eq_getElem?_getD, List.getElem?_eq_none (by omega)]; rfl
    obtain ⟨x, hxe⟩ := Int.eq_ofNat_of_zero_le hx.1
    obtain ⟨y, hye⟩ := Int.eq_ofNat_of_zero_le hy.1
    rw [hxe, Int.toNat_natCast] at hva
    rw [hye, Int.toNat_natCast] at hvb
    rw [hxe] at hx zx
    rw [hye] at hy zy
    have hw : wrap64 ((i : Int) + 1) = ((i + 1 : Nat) : Int) := by unfold wrap64; omega
    have e1 : IntKind.u64.wrap (IntKind.u64.wrap ((x : Int) + (y : Int)) + (c : Int)) = ((x + y + c : Nat) : Int) := by
      rw [wraps_u64 ((x : Int) + (y : Int)) (by omega) (by omega), wraps_u64 _ (by omega) (by omega)]; omega
    have hD : x + y + c < 8589934592 := by omega
    have hz : i + 1 = M + 1 → (x + y + c) / 4294967296 = 0 := fun h => by have := zx h; have := zy h; omega
    have hDe : x + y + c = x + y + c := rfl
    generalize hDD : x + y + c = D at *
    have e2 : Int.tmod (D : Int) 4294967296 % 4294967296 = ((D % 4294967296 : Nat) : Int) := by rw [Int.tmod_eq_emod_of_nonneg (by omega)]; omega
    have e3 : IntKind.u64.wrap (Int.tdiv (D : Int) 4294967296) = ((D / 4294967296 : Nat) : Int) := by
      rw [Int.tdiv_eq_ediv_of_nonneg (by omega), wraps_u64 ((D : Int) / 4294967296) (by omega) (by omega)]; omega
    simp only [alidaderef01_Add.l0]
    rw [hM, if_pos c0, at_f oa, Option.bind_some, at_f ob, Option.bind_some, if_pos c1, hxe, hye, e1, e2, e3, hw]
    refine ih (i + 1) k _ _ (by clear hv hva hvb; omega) (by clear hv hva hvb; omega) ?_ (by simp; omega) (by omega) hz ?_
    · rw [ok_append]; exact ⟨oo, by rw [ok_cons]; exact ⟨by omega, rfl⟩⟩
    · rw [val_snoc, ho, Int.toNat_natCast, hva, hvb, Nat.pow_succ]
      have k1 : D % 4294967296 + B * (D / 4294967296) = x + y + c := by simp only [B]; omega
      have k2 := congrArg (fun z => B ^ i * z + val out) k1
      simp only [Nat.mul_add] at k2
      rw [Nat.mul_assoc]
      omega
theorem radd_f {a b : List Int} {k : Nat} (oa : ok a = true) (ob : ok b = true) (hk : 300000 ≤ k) : alidaderef01_Add.f k a b = some (addS a b) := by
  obtain ⟨k, rfl⟩ : ∃ m, k = m + 1 := ⟨k - 1, by omega⟩
  unfold alidaderef01_Add.f addS
  rw [rmay_f oa, rmay_f ob, Option.bind_some]
  have ht : alidaderef01_Add.j0 (k + 1) a b true = some [] := by simp only [alidaderef01_Add.j0, if_true]
  cases ma : may a with
  | false => exact ht
  | true =>
    rw [if_pos rfl, Option.bind_some]
    cases mb : may b with
    | false => exact ht
    | true =>
      have la := may_length ma
      have lb := may_length mb
      simp only [alidaderef01_Add.j0, Bool.not_true, Bool.false_eq_true, if_false]
      have hM : mx (a.length : Int) (b.length : Int) = ((max a.length b.length : Nat) : Int) := by unfold mx; split <;> omega
      exact radd_go oa ob hM (by omega) (by omega) (by omega) (max a.length b.length + 1) 0 k [] 0 (by omega) (by omega) rfl rfl (by omega) (by omega) (by simp [val])
theorem rof_f {u : Int} {k : Nat} (h0 : 0 ≤ u) (h1 : u < 18446744073709551616) (hk : 10 ≤ k) : alidaderef01_Of.f k u = some (toL u.toNat) := by
  obtain ⟨n, rfl⟩ := Int.eq_ofNat_of_zero_le h0
  unfold alidaderef01_Of.f
  have e1 : Int.tmod (n : Int) 4294967296 % 4294967296 = ((n % 4294967296 : Nat) : Int) := by rw [Int.tmod_eq_emod_of_nonneg (by omega)]; omega
  have e2 : IntKind.u64.wrap (Int.tdiv (n : Int) 4294967296) % 4294967296 = ((n / 4294967296 : Nat) : Int) := by
    rw [Int.tdiv_eq_ediv_of_nonneg (by omega), wraps_u64 _ (by omega) (by omega)]; omega
  have ho : ok [((n % 4294967296 : Nat) : Int), ((n / 4294967296 : Nat) : Int)] = true := by
    rw [ok_cons]; refine ⟨by omega, ?_⟩; rw [ok_cons]; exact ⟨by omega, rfl⟩
  have hv : val [((n % 4294967296 : Nat) : Int), ((n / 4294967296 : Nat) : Int)] = n := by simp only [val, B, Int.toNat_natCast]; omega
  rw [e1, e2, rcut_f (by simp) (by simp; omega), Option.bind_some, cut_fit ho, hv, fit_small (m := 2) (by simp only [B]; omega) (by omega), Int.toNat_natCast]
end Go.Proofs.Ythdhpihfbggbbaa.Pure
