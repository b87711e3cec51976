/- Plain numbers: the document's powers, by values. -/
import Derived.Test.YtnngdlehakcdlaaMulRef
namespace Go.Proofs.Ytnngdlehakcdlaa.Pure
open Go.RowKit Go.Proofs.Ytnngdlehakcdlaa.PMul Go.Proofs.YtnngdlehakcdlaaW.PrintWords Go.Proofs.YtnngdlehakcdlaaW.PrintLast Go.Proofs.YtnngdlehakcdlaaV

theorem tm2 (q : Nat) : Int.tmod (q : Int) 2 = ((q % 2 : Nat) : Int) := by rw [Int.tmod_eq_emod_of_nonneg (by omega)]; omega
theorem td2 (q : Nat) : Int.tdiv (q : Int) 2 = ((q / 2 : Nat) : Int) := by rw [Int.tdiv_eq_ediv_of_nonneg (by omega)]; omega
theorem half {K j : Nat} (hK : K ≤ 4611686018427387904) : wrap64 (Int.tdiv ((K / 2 ^ j : Nat) : Int) 2) = ((K / 2 ^ (j + 1) : Nat) : Int) := by
  have h : K / 2 ^ (j + 1) = K / 2 ^ j / 2 := by rw [Nat.div_div_eq_div_mul, Nat.pow_succ]
  have h2 : K / 2 ^ j ≤ K := Nat.div_le_self _ _
  rw [td2, h]
  generalize K / 2 ^ j = q at *
  unfold wrap64
  omega
theorem rbit_go (a out : List Int) (K i : Nat) (hK : K ≤ 4611686018427387904) (hi : i ≤ 100) (d : Nat) : ∀ (j k : Nat), j + d = i →
    alidaderef02_Pow.l2 (k + d + 1) a (K : Int) out (i : Int) ((K / 2 ^ j : Nat) : Int) (j : Int) = if (K / 2 ^ i) % 2 = 1 then ((alidaderef02_Mul.f k out a).bind fun t => alidaderef02_Pow.l1 k a (K : Int) t ((i : Int) - 1)) else alidaderef02_Pow.l1 k a (K : Int) out ((i : Int) - 1) := by
  have hw : wrap64 ((i : Int) - 1) = (i : Int) - 1 := by unfold wrap64; omega
  induction d with
  | zero =>
    intro j k hj
    obtain rfl : j = i := by omega
    have ht : Int.tmod ((K / 2 ^ j : Nat) : Int) 2 = ((K / 2 ^ j % 2 : Nat) : Int) := tm2 _
    simp only [alidaderef02_Pow.l2]
    rw [if_neg (by omega), ht, hw]
    by_cases h : K / 2 ^ j % 2 = 1
    · rw [if_pos (by omega), if_pos h]
    · rw [if_neg (by omega), if_neg h]
  | succ d ih =>
    intro j k hj
    rw [← ih (j + 1) k (by omega), show k + (d + 1) + 1 = (k + d + 1) + 1 by omega]
    simp only [alidaderef02_Pow.l2]
    rw [if_pos (by omega), half hK, w64s (by omega)]
theorem rdown_go {a : List Int} (oa : ok a = true) (ma : may a = true) (hv : 0 < val a) (K : Nat) (hK : K ≤ 4611686018427387904) (hf : val a ^ K < B ^ most) : ∀ (i k : Nat) (out : List Int), i ≤ 100 → ok out = true → may out = true → val out = val a ^ (K / 2 ^ i) → 10000000000000 + 200 * (i + 1) ≤ k →
    alidaderef02_Pow.l1 k a (K : Int) out ((i : Int) - 1) = some (fit (val a ^ K)) := by
  intro i
  induction i with
  | zero =>
    intro k out hi oo mo ho hk
    obtain ⟨k, rfl⟩ : ∃ m, k = m + 2 := ⟨k - 2, by omega⟩
    have lo := may_length mo
    simp only [alidaderef02_Pow.l1]
    rw [if_neg (by omega)]
    simp only [alidaderef02_Pow.j3, Bool.false_eq_true, if_false]
    rw [Option.bind_some, if_pos (by simp; omega), fit_eq oo mo (by rw [ho, Nat.pow_zero, Nat.div_one])]
    rfl
  | succ i ih =>
    intro k out hi oo mo ho hk
    have lo := may_length mo
    obtain ⟨m_, rfl⟩ : ∃ m, k = m + i + 1 + 1 + 1 := ⟨k - i - 3, by omega⟩
    have hq : K / 2 ^ (i + 1) = K / 2 ^ i / 2 := by rw [Nat.div_div_eq_div_mul, Nat.pow_succ]
    have hqk : K / 2 ^ i ≤ K := Nat.div_le_self _ _
    have hop : 0 < val out := by rw [ho]; exact Nat.pow_pos hv
    have hne : decide ((out.length : Int) > 0) = true := by
      refine decide_eq_true ?_
      have : out ≠ [] := by intro e; rw [e] at hop; simp [val] at hop
      have : out.length ≠ 0 := fun e => this (List.length_eq_zero_iff.1 e)
      omega
    have k1' : 10000000000000 + 200 * (i + 1) ≤ m_ := by omega
    have k1 : 10000000000000 ≤ m_ := Nat.le_trans (Nat.le_add_right _ _) k1'
    have hi1 : i ≤ 100 := by omega
    have lo' : out.length ≤ 4611686018427387904 := by omega
    have la' : a.length ≤ 4611686018427387904 := by have := may_length ma; omega
    have hi2 : ((i + 1 : Nat) : Int) - 1 = (i : Int) := by omega
    have hi3 : (i : Int) ≥ 0 := by omega
    have ke : 10000000000000 ≤ m_ + i + 1 := Nat.le_trans k1 (by rw [Nat.add_assoc]; exact Nat.le_add_right _ _)
    have q1 : K / 2 ^ (i + 1) + K / 2 ^ (i + 1) ≤ K := by omega
    have q2 : K / 2 ^ i % 2 = 1 → K / 2 ^ (i + 1) + K / 2 ^ (i + 1) + 1 = K / 2 ^ i := by omega
    have q3 : ¬ K / 2 ^ i % 2 = 1 → K / 2 ^ (i + 1) + K / 2 ^ (i + 1) = K / 2 ^ i := by omega
    have hsq : val out * val out = val a ^ (K / 2 ^ (i + 1) + K / 2 ^ (i + 1)) := by rw [ho]; exact (Nat.pow_add (val a) _ _).symm
    have hsf : val out * val out < B ^ most := by rw [hsq]; exact Nat.lt_of_le_of_lt (Nat.pow_le_pow_right hv q1) hf
    have hbit := rbit_go a (toL (val out * val out)) K i hK hi1 i 0 m_ (Nat.zero_add i)
    rw [Nat.pow_zero, Nat.div_one] at hbit
    simp only [alidaderef02_Pow.l1]
    rw [hi2, if_pos hi3, hne]
    simp only [alidaderef02_Pow.j3, if_true]
    rw [rmul_f oo oo lo' lo' ke, Option.bind_some, mulS_of mo mo, fit_lt hsf]
    rw [show ((0 : Nat) : Int) = (0 : Int) from rfl] at hbit
    rw [hbit]
    have hms : may (toL (val out * val out)) = true := by rw [← fit_lt hsf]; exact may_fit _
    have lms : (toL (val out * val out)).length ≤ 4611686018427387904 := Nat.le_trans (may_length hms) (by decide)
    by_cases hb : K / 2 ^ i % 2 = 1
    · have hp : val (toL (val out * val out)) * val a = val a ^ (K / 2 ^ i) := by
        rw [val_toL, hsq, ← Nat.pow_succ]; exact congrArg _ (q2 hb)
      have hpf : val (toL (val out * val out)) * val a < B ^ most := by rw [hp]; exact Nat.lt_of_le_of_lt (Nat.pow_le_pow_right hv hqk) hf
      rw [if_pos hb, rmul_f (toL_ok _) oa lms la' k1, Option.bind_some, mulS_of hms ma]
      exact ih m_ (fit (val (toL (val out * val out)) * val a)) hi1 (fit_ok _) (may_fit _) (by rw [val_fit hpf, hp]) k1'
    · rw [if_neg hb]
      exact ih m_ (toL (val out * val out)) hi1 (toL_ok _) hms (by rw [val_toL, hsq]; exact congrArg _ (q3 hb)) k1'
theorem rtop_go (a : List Int) (K : Nat) (hK : K ≤ 4611686018427387904) : ∀ (n t k : Nat), K / 2 ^ t ≤ 2 ^ n → 1 ≤ K / 2 ^ t → t ≤ 100 → n + t ≤ 100 → ∃ m k2 : Nat, m ≤ 100 ∧ K / 2 ^ m = 1 ∧ k ≤ k2 + n + 1 ∧ k2 ≤ k ∧ (n < k → alidaderef02_Pow.l0 k a (K : Int) (t : Int) ((K / 2 ^ t : Nat) : Int) = alidaderef02_Pow.l1 k2 a (K : Int) a ((m : Int) - 1)) := by
  intro n
  induction n with
  | zero =>
    intro t k h1 h2 h3 h4
    rw [Nat.pow_zero] at h1
    refine ⟨t, k - 1, h3, by omega, by omega, by omega, fun hk => ?_⟩
    obtain ⟨k, rfl⟩ : ∃ m, k = m + 1 := ⟨k - 1, by omega⟩
    simp only [alidaderef02_Pow.l0]
    rw [if_neg (by omega), Nat.add_sub_cancel, show wrap64 ((t : Int) - 1) = (t : Int) - 1 by unfold wrap64; omega]
  | succ n ih =>
    intro t k h1 h2 h3 h4
    have hq : K / 2 ^ (t + 1) = K / 2 ^ t / 2 := by rw [Nat.div_div_eq_div_mul, Nat.pow_succ]
    by_cases hb : K / 2 ^ t > 1
    · rw [Nat.pow_succ] at h1
      obtain ⟨m, k2, g1, g2, g3, g4, g5⟩ := ih (t + 1) (k - 1) (by omega) (by omega) (by omega) (by omega)
      refine ⟨m, k2, g1, g2, by omega, by omega, fun hk => ?_⟩
      obtain ⟨k, rfl⟩ : ∃ m, k = m + 1 := ⟨k - 1, by omega⟩
      rw [Nat.add_sub_cancel] at g5
      rw [← g5 (by omega)]
      simp only [alidaderef02_Pow.l0]
      rw [if_pos (by omega), half hK, w64s (by omega)]
    · refine ⟨t, k - 1, h3, by omega, by omega, by omega, fun hk => ?_⟩
      obtain ⟨k, rfl⟩ : ∃ m, k = m + 1 := ⟨k - 1, by omega⟩
      simp only [alidaderef02_Pow.l0]
      rw [if_neg (by omega), Nat.add_sub_cancel, show wrap64 ((t : Int) - 1) = (t : Int) - 1 by unfold wrap64; omega]
theorem rpow_f {k : Nat} {a : List Int} {e : Int} (oa : ok a = true) (he : e ≤ 1000000) (hf : 0 ≤ e → val a ^ e.toNat < B ^ most) (hk : 20000000000000 ≤ k) : alidaderef02_Pow.f k a e = some (powS a e) := by
  obtain ⟨k, rfl⟩ : ∃ m, k = m + 1 := ⟨k - 1, by omega⟩
  have ht : alidaderef02_Pow.j0 (k + 1) a e true = some [] := by simp only [alidaderef02_Pow.j0, if_true]
  unfold alidaderef02_Pow.f
  rw [rmay_f oa, Option.bind_some]
  cases ma : may a with
  | false => rw [if_neg (by decide), ht]; simp [powS, ma]
  | true =>
    rw [if_pos rfl]
    by_cases h0 : e < 0
    · rw [decide_eq_true h0, ht]; simp [powS, ma, show ¬ 0 ≤ e by omega]
    obtain ⟨n, rfl⟩ := Int.eq_ofNat_of_zero_le (show 0 ≤ e by omega)
    have hf2 := hf (by omega)
    rw [Int.toNat_natCast] at hf2
    have hS : powS a (n : Int) = fit (val a ^ n) := by simp [powS, ma]
    rw [decide_eq_false h0, hS]
    simp only [alidaderef02_Pow.j0, Bool.false_eq_true, if_false]
    by_cases hn : n = 0
    · subst hn
      rw [if_pos (by rfl), Nat.pow_zero]
      exact congrArg some (fit_eq rfl rfl (by decide)).symm
    rw [if_neg (by omega)]
    by_cases ha0 : a = []
    · subst ha0
      rw [if_pos (by rfl), show val [] = 0 from rfl, Nat.zero_pow (by omega), fit_lt (Nat.pow_pos (by decide)), toL_zero]
    have hv : 0 < val a := Nat.pos_of_ne_zero fun e => ha0 ((val_zero_iff oa ma).1 e)
    have hl : a.length ≠ 0 := fun e => ha0 (List.length_eq_zero_iff.1 e)
    rw [if_neg (by omega)]
    obtain ⟨m, k2, g1, g2, g3, g4, g5⟩ := rtop_go a n (by omega) 40 0 k (by rw [Nat.pow_zero, Nat.div_one]; exact Nat.le_trans (by omega : n ≤ 1000000) (by decide)) (by rw [Nat.pow_zero, Nat.div_one]; omega) (by omega) (by omega)
    rw [Nat.pow_zero, Nat.div_one] at g5
    have g5 := g5 (by omega)
    rw [show ((0 : Nat) : Int) = 0 from rfl] at g5
    rw [g5]
    exact rdown_go oa ma hv n (by omega) hf2 m k2 a g1 oa ma (by rw [g2, Nat.pow_one]) (by omega)
end Go.Proofs.Ytnngdlehakcdlaa.Pure
