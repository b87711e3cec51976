/- Plain numbers: the document's products, by values. -/
import Derived.Test.YtnngdlehakcdlaaMulPlain
import Derived.Test.YtnngdlehakcdlaaPMulx0
import Derived.Test.YtnngdlehakcdlaaPMulx7
import Derived.Test.YtnngdlehakcdlaaPMulx9
import Derived.Test.YtnngdlehakcdlaaPMulx14
import Derived.Test.YtnngdlehakcdlaaPMulx16
import Derived.Test.YtnngdlehakcdlaaPMulx18
import Derived.Test.YtnngdlehakcdlaaPMulx17
import Derived.Test.YtnngdlehakcdlaaPMulx21
import Derived.Test.YtnngdlehakcdlaaPMulx1
import Derived.Test.YtnngdlehakcdlaaPack
namespace Go.Proofs.Ytnngdlehakcdlaa.Pure
open Go.RowKit Go.Proofs.Ytnngdlehakcdlaa.PMul Go.Proofs.YtnngdlehakcdlaaW.PrintWords Go.Proofs.YtnngdlehakcdlaaW.PrintLast Go.Proofs.YtnngdlehakcdlaaV

theorem rmay_f {l : List Int} (ho : ok l = true) : alidaderef01_May.f l = some (may l) := by
  unfold alidaderef01_May.f may rd
  by_cases h1 : (l.length : Int) > 65536
  · rw [if_pos h1, decide_eq_false (by omega)]; rfl
  · rw [if_neg h1]
    by_cases h2 : (l.length : Int) = 0
    · rw [if_pos h2, decide_eq_true (by omega), decide_eq_true (by omega)]; rfl
    · have hw : wrap64 ((l.length : Int) - 1) = ((l.length - 1 : Nat) : Int) := by unfold wrap64; omega
      rw [if_neg h2, hw, if_pos (by omega), if_pos (by omega), decide_eq_true (show l.length ≤ 65536 by omega), decide_eq_false (show ¬ l.length = 0 by omega), Int.toNat_natCast]
      have hg := ok_get ho (l.length - 1)
      generalize l.getD (l.length - 1) 0 = x at *
      simp only [Bool.true_and, Bool.false_or]
      congr 1
      rw [Bool.eq_iff_iff]
      simp only [decide_eq_true_eq, bne_iff_ne, ne_eq]
      omega
theorem rtrim_go : ∀ (n : Nat) (l : List Int) (k : Nat), l.length = n → n < k → n ≤ 4611686018427387904 → alidaderef02_trim.l0 k l = some (cut l) := by
  intro n
  induction n with
  | zero =>
    intro l k hn hk hm
    obtain ⟨k, rfl⟩ : ∃ m, k = m + 1 := ⟨k - 1, by omega⟩
    have : l = [] := List.length_eq_zero_iff.1 hn
    subst this
    rfl
  | succ n ih =>
    intro l k hn hk hm
    obtain ⟨k, rfl⟩ : ∃ m, k = m + 1 := ⟨k - 1, by omega⟩
    rcases snoc_cases l with rfl | ⟨a, x, rfl⟩
    · simp at hn
    · have hla : a.length = n := by simpa using hn
      have hL : ((a ++ [x]).length : Int) = (n : Int) + 1 := by rw [hn]; rfl
      have hw : wrap64 ((n : Int) + 1 - 1) = (n : Int) := by unfold wrap64; omega
      have hrd : rd (a ++ [x]) (n : Int) = x := by
        rw [rd_nat, ← hla, List.getD_eq_getElem?_getD, List.getElem?_append_right (Nat.le_refl _)]
        simp
      have htk : (a ++ [x]).take ((n : Int)).toNat = a := by
        rw [Int.toNat_natCast, ← hla]; simp
      simp only [alidaderef02_trim.l0]
      rw [hL, hw, if_pos (by omega), if_pos (by omega), if_pos (by omega), hrd]
      by_cases hx : x = 0
      · rw [if_pos hx, if_pos (by omega), htk, ih a k hla (by omega) (by omega), hx]
        unfold cut; rw [strip_snoc_zero]
      · rw [if_neg hx]
        unfold cut; rw [strip_snoc hx]
        by_cases hb : (a ++ [x]).length ≤ 65536
        · rw [if_neg (by omega), if_pos hb]
        · rw [if_pos (by omega), if_neg hb]
theorem rtrim_f {l : List Int} {k : Nat} (hk : l.length < k) (hm : l.length ≤ 4611686018427387904) : alidaderef02_trim.f k l = some (cut l) := rtrim_go l.length l k rfl hk hm
theorem tm {n : Nat} : Int.tmod (n : Int) 4294967296 = ((n % 4294967296 : Nat) : Int) := by rw [Int.tmod_eq_emod_of_nonneg (by omega)]; omega
theorem td {n : Nat} : Int.tdiv (n : Int) 4294967296 = ((n / 4294967296 : Nat) : Int) := by rw [Int.tdiv_eq_ediv_of_nonneg (by omega)]; omega

theorem rrow_go {a b : List Int} (oa : ok a = true) (ob : ok b = true) (la : a.length ≤ 1099511627776) (lb : b.length ≤ 1099511627776) (i x V0 : Nat) (hi : i < a.length) (hx : a.getD i 0 = (x : Int)) (d : Nat) : ∀ (j c k : Nat) (out : List Int), j + d = b.length → d < k → ok out = true → out.length = a.length + b.length → c < 4294967296 → (∀ q, i + b.length ≤ q → out.getD q 0 = 0) →
    val out + B ^ (i + j) * c = V0 + B ^ i * (x * val (b.take j)) →
    ∃ out2 k2, k ≤ k2 + d + 1 ∧ alidaderef02_Mul.l1 k a b out (i : Int) (c : Int) (j : Int) = alidaderef02_Mul.l0 k2 a b out2 ((i + 1 : Nat) : Int) ∧ ok out2 = true ∧ out2.length = a.length + b.length ∧ (∀ q, i + 1 + b.length ≤ q → out2.getD q 0 = 0) ∧ val out2 = V0 + B ^ i * (x * val b) := by
  have hxo := ok_get oa i
  induction d with
  | zero =>
    intro j c k out hj hk oo ol hc hz hv
    obtain ⟨k, rfl⟩ : ∃ m, k = m + 1 := ⟨k - 1, by omega⟩
    obtain rfl : j = b.length := by omega
    rw [List.take_of_length_le (Nat.le_refl _)] at hv
    have hp : i + b.length < out.length := by omega
    have hvs := val_set out (i + b.length) ((c : Nat) : Int) hp
    rw [hz _ (Nat.le_refl _)] at hvs
    simp only [Int.toNat_zero, Nat.mul_zero, Nat.add_zero, Int.toNat_natCast] at hvs
    refine ⟨out.set (i + b.length) (c : Int), k, by omega, ?_, ok_set oo _ (by omega) (by omega), by simpa using ol, ?_, by rw [hvs, hv]⟩
    · simp only [alidaderef02_Mul.l1]
      rw [if_neg (by omega), w64n (by omega), w64s (by omega), if_pos (by omega), if_pos (by omega), Int.toNat_natCast, show (c : Int) % 4294967296 = (c : Int) by omega]
    · intro q hq
      rw [PMul.getD_set_ne _ (by omega)]
      exact hz q (by omega)
  | succ d ih =>
    intro j c k out hj hk oo ol hc hz hv
    obtain ⟨k, rfl⟩ : ∃ m, k = m + 1 := ⟨k - 1, by omega⟩
    have hp : i + j < out.length := by omega
    have hoo := ok_get oo (i + j)
    have hyo := ok_get ob j
    obtain ⟨o, ho⟩ := Int.eq_ofNat_of_zero_le hoo.1
    obtain ⟨y, hy⟩ := Int.eq_ofNat_of_zero_le hyo.1
    rw [hx] at hxo
    rw [ho] at hoo
    rw [hy] at hyo
    obtain ⟨w1, w2, w3⟩ := limb_word (x := x) (y := y) (o := o) (c := c) (by omega) (by omega) (by omega) hc
    have hst := row_step (V0 := V0) hp ho hy hv
    have e1 : IntKind.u64.wrap (IntKind.u64.wrap (IntKind.u64.wrap (IntKind.u64.wrap (x : Int) * IntKind.u64.wrap (y : Int)) + IntKind.u64.wrap (o : Int)) + (c : Int)) = ((x * y + o + c : Nat) : Int) := by
      rw [wrU (x : Int) (by omega) (by omega), wrU (y : Int) (by omega) (by omega), wrU (o : Int) (by omega) (by omega), ← Int.natCast_mul]
      generalize x * y = xy at *
      rw [wrU (xy : Int) (by omega) (by omega), wrU ((xy : Int) + (o : Int)) (by omega) (by omega), wrU _ (by omega) (by omega)]; omega
    have e2 : (((x * y + o + c) % 4294967296 : Nat) : Int) % 4294967296 = (((x * y + o + c) % 4294967296 : Nat) : Int) := by omega
    have e3 : IntKind.u64.wrap (((x * y + o + c) / 4294967296 : Nat) : Int) = (((x * y + o + c) / 4294967296 : Nat) : Int) := wrU _ (by omega) (by omega)
    have hd2 : (x * y + o + c) % 4294967296 < 4294967296 := Nat.mod_lt _ (by decide)
    have hc2 : (x * y + o + c) / 4294967296 < 4294967296 := by omega
    obtain ⟨out2, k2, h1, h2, h3⟩ := ih (j + 1) ((x * y + o + c) / 4294967296) k (out.set (i + j) (((x * y + o + c) % 4294967296 : Nat) : Int)) (by omega) (by omega) (ok_set oo _ (by omega) (by omega)) (by simpa using ol) hc2 (fun q hq => by rw [PMul.getD_set_ne _ (by omega)]; exact hz q hq) hst
    refine ⟨out2, k2, by omega, ?_, h3⟩
    rw [← h2]
    simp only [alidaderef02_Mul.l1]
    rw [if_pos (by omega), if_pos (by omega), if_pos (by omega), if_pos (by omega), w64n (by omega), w64s (by omega), if_pos (by omega), if_pos (by omega), rd_nat, rd_nat, rd_nat, hx, hy, ho, e1, tm, td, e2, e3, Int.toNat_natCast]
theorem rrows_go {a b : List Int} (oa : ok a = true) (ob : ok b = true) (la : a.length ≤ 1099511627776) (lb : b.length ≤ 1099511627776) (d : Nat) : ∀ (i k : Nat) (out : List Int), i + d = a.length → 3000000000000 + d * (b.length + 3) ≤ k → ok out = true → out.length = a.length + b.length → (∀ q, i + b.length ≤ q → out.getD q 0 = 0) →
    val out = val (a.take i) * val b → alidaderef02_Mul.l0 k a b out (i : Int) = some (fit (val a * val b)) := by
  induction d with
  | zero =>
    intro i k out hi hk oo ol hz hv
    obtain ⟨k, rfl⟩ : ∃ m, k = m + 1 := ⟨k - 1, by omega⟩
    rw [List.take_of_length_le (by omega)] at hv
    simp only [alidaderef02_Mul.l0]
    rw [if_neg (by omega), rtrim_f (by omega) (by omega), Option.bind_some, cut_fit oo, hv]
  | succ d ih =>
    intro i k out hi hk oo ol hz hv
    rw [Nat.add_mul, Nat.one_mul] at hk
    obtain ⟨k, rfl⟩ : ∃ m, k = m + 1 := ⟨k - 1, by omega⟩
    have hxo := ok_get oa i
    obtain ⟨x, hx⟩ := Int.eq_ofNat_of_zero_le hxo.1
    have hva := val_take_succ a i
    rw [hx, Int.toNat_natCast] at hva
    obtain ⟨out2, k2, h1, h2, h3, h4, h5, h6⟩ := rrow_go oa ob la lb i x (val (a.take i) * val b) (by omega) hx b.length 0 0 k out (by omega) (by omega) oo ol (by omega) hz (by simp [val]; exact hv)
    simp only [alidaderef02_Mul.l0]
    rw [if_pos (by omega)]
    rw [show ((0 : Nat) : Int) = 0 from rfl] at h2
    rw [h2]
    exact ih (i + 1) k2 out2 (by omega) (by omega) h3 h4 h5 (by rw [h6, hva, Nat.add_mul, Nat.mul_assoc])
theorem rmul_f {k : Nat} {a b : List Int} (oa : ok a = true) (ob : ok b = true) (la : a.length ≤ 4611686018427387904) (lb : b.length ≤ 4611686018427387904) (hk : 10000000000000 ≤ k) : alidaderef02_Mul.f k a b = some (mulS a b) := by
  obtain ⟨k, rfl⟩ : ∃ m, k = m + 1 := ⟨k - 1, by omega⟩
  have ht : alidaderef02_Mul.j0 (k + 1) a b true = some [] := by simp only [alidaderef02_Mul.j0, if_true]
  unfold alidaderef02_Mul.f
  rw [rmay_f oa, Option.bind_some]
  cases ma : may a with
  | false => rw [if_neg (by decide), ht]; simp [mulS, ma]
  | true =>
    rw [if_pos rfl, rmay_f ob, Option.bind_some]
    cases mb : may b with
    | false => rw [if_neg (by decide), ht]; simp [mulS, ma, mb]
    | true =>
      have la := may_length ma
      have lb := may_length mb
      rw [if_pos rfl, w64n (by omega), mulS_of ma mb]
      by_cases hl : a.length + b.length > 65537
      · rw [decide_eq_true (by omega), ht, mul_long oa ob ma mb hl]
      · rw [decide_eq_false (by omega)]
        simp only [alidaderef02_Mul.j0, Bool.false_eq_true, if_false]
        rw [w64n (by omega), if_pos (by omega), Int.toNat_natCast, if_pos (by omega)]
        have hkk : a.length * (b.length + 3) ≤ 65536 * 65539 := Nat.mul_le_mul la (by omega)
        exact rrows_go oa ob (by omega) (by omega) a.length 0 k (List.replicate (a.length + b.length) 0) (by omega) (by omega) (zeros_ok _) (by simp) (fun q _ => zeros_getD _ _) (by rw [zeros_val]; simp [val])
theorem spoil_f (d : Nat) : ∀ (l : List Int) (i k : Nat), i + d = l.length → l.length ≤ 4611686018427387904 → d < k → ∃ r, alidadelaw02_spoil.l0 k l (i : Int) = some r := by
  induction d with
  | zero =>
    intro l i k hi hm hk
    obtain ⟨k, rfl⟩ : ∃ m, k = m + 1 := ⟨k - 1, by omega⟩
    refine ⟨l, ?_⟩
    simp only [alidadelaw02_spoil.l0]
    rw [if_neg (by omega)]
  | succ d ih =>
    intro l i k hi hm hk
    obtain ⟨k, rfl⟩ : ∃ m, k = m + 1 := ⟨k - 1, by omega⟩
    obtain ⟨r, h⟩ := ih (l.set i 7) (i + 1) k (by simp; omega) (by simpa using hm) (by omega)
    refine ⟨r, ?_⟩
    simp only [alidadelaw02_spoil.l0]
    rw [if_pos (by omega), if_pos (by omega), Int.toNat_natCast, w64s (by omega)]
    exact h
theorem spoil_any {k : Nat} {l : List Int} (h : may l = true) (hk : 100000 ≤ k) : ∃ r, alidadelaw02_spoil.f k l = some r := by
  have := may_length h
  exact spoil_f l.length l 0 k (by omega) (by omega) (by omega)
end Go.Proofs.Ytnngdlehakcdlaa.Pure
