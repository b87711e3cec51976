/- Plain numbers: what the printed functions of mul tell, by values. -/
import Derived.Test.YtnngdlehakcdlaaPMulx6
import Derived.Test.YtnngdlehakcdlaaPMulx7
import Derived.Test.YtnngdlehakcdlaaPMulx9
import Derived.Test.YtnngdlehakcdlaaPMulx13
import Derived.Test.YtnngdlehakcdlaaPMulx14
import Derived.Test.YtnngdlehakcdlaaPMulx15
import Derived.Test.YtnngdlehakcdlaaPMulx16
namespace Go.Proofs.Ytnngdlehakcdlaa.Pure
open Go.RowKit Go.Proofs.Ytnngdlehakcdlaa.PMul Go.Proofs.YtnngdlehakcdlaaW.PrintWords Go.Proofs.YtnngdlehakcdlaaW.PrintLast Go.Proofs.YtnngdlehakcdlaaV

theorem ok_of_wf {l : List Int} (h : ∀ x ∈ l, (Lit.int .u32 x).wf = true) : ok l = true := by
  simp only [ok, List.all_eq_true]
  intro x hx
  have := h x hx
  simp only [Lit.wf, IntKind.min, IntKind.max, IntKind.signed, IntKind.bits, Bool.and_eq_true] at this
  simp at this
  simp only [Bool.and_eq_true, decide_eq_true_eq]
  omega
theorem fit_small {n m : Nat} (h : n < B ^ m) (hm : m ≤ 65536) : fit n = toL n := by unfold fit; rw [if_pos (Nat.le_trans (toL_length_le.2 h) hm)]
theorem may_toL {n m : Nat} (h : n < B ^ m) (hm : m ≤ 65536) : may (toL n) = true := may_iff.2 ⟨Nat.le_trans (toL_length_le.2 h) hm, toL_norm n⟩
theorem toL_eq {n : Nat} {l : List Int} (ho : ok l = true) (hm : may l = true) (h : val l = n) : toL n = l := by rw [← h]; exact toL_of_may ho hm
theorem fit_eq {n : Nat} {l : List Int} (ho : ok l = true) (hm : may l = true) (h : val l = n) : fit n = l := by rw [← h]; exact fit_of_may ho hm

theorem same_go (a b : List Int) (hl : a.length = b.length) (hm : a.length ≤ 4611686018427387904) (d : Nat) :
    ∀ (i : Nat) (k : Nat), i + d = a.length → d < k → alidaderef01_Same.l0 k a b (i : Int) = some (decide (a.drop i = b.drop i)) := by
  induction d with
  | zero =>
    intro i k hi hk
    obtain ⟨k, rfl⟩ : ∃ m, k = m + 1 := ⟨k - 1, by omega⟩
    simp only [alidaderef01_Same.l0]
    rw [if_neg (by omega), List.drop_of_length_le (by omega), List.drop_of_length_le (by omega)]
    rfl
  | succ d ih =>
    intro i k hi hk
    obtain ⟨k, rfl⟩ : ∃ m, k = m + 1 := ⟨k - 1, by omega⟩
    have h1 : i < a.length := by omega
    have h2 : i < b.length := by omega
    have hw : wrap64 ((i : Int) + 1) = ((i + 1 : Nat) : Int) := by unfold wrap64; omega
    simp only [alidaderef01_Same.l0]
    have hd : (a.drop i = b.drop i) ↔ (a[i] = b[i] ∧ a.drop (i + 1) = b.drop (i + 1)) := by
      rw [List.drop_eq_getElem_cons h1, List.drop_eq_getElem_cons h2, List.cons.injEq]
    have hd2 : decide (a.drop i = b.drop i) = (decide (a[i] = b[i]) && decide (a.drop (i + 1) = b.drop (i + 1))) := by rw [Bool.eq_iff_iff]; simp [hd]
    rw [if_pos (by omega), if_pos (by omega), if_pos (by omega), hw, ih (i + 1) k (by omega) (by omega), hd2]
    have r1 : rd a (i : Int) = a[i] := by unfold rd; rw [Int.toNat_natCast, List.getD_eq_getElem?_getD, List.getElem?_eq_getElem h1]; rfl
    have r2 : rd b (i : Int) = b[i] := by unfold rd; rw [Int.toNat_natCast, List.getD_eq_getElem?_getD, List.getElem?_eq_getElem h2]; rfl
    rw [r1, r2]
    by_cases h : a[i] = b[i]
    · rw [if_pos h]; simp [h]
    · rw [if_neg h]; simp [h]
theorem Same_f {k : Nat} {a b : List Int} (hk : a.length < k) (hm : a.length ≤ 4611686018427387904) : alidaderef01_Same.f k a b = some (decide (a = b)) := by
  unfold alidaderef01_Same.f
  by_cases hl : a.length = b.length
  · rw [if_pos (by omega)]
    have := same_go a b hl hm a.length 0 k (by omega) hk
    rw [show ((0 : Nat) : Int) = 0 from rfl] at this
    rw [this, List.drop_zero, List.drop_zero]
  · rw [if_neg (by omega)]
    have : a ≠ b := fun h => hl (by rw [h])
    simp [this]
theorem same_f {k : Nat} {a b : List Int} (hk : a.length < k) (hm : a.length ≤ 4611686018427387904) : alidadelaw02_same.f k a b = some (decide (a = b)) := by
  unfold alidadelaw02_same.f
  rw [Same_f hk hm]; rfl
theorem may_f {l : List Int} (h : l.length ≤ 9223372036854775807) : nat_May.f l = some (may l) := nat_May_val l h
theorem add_f {a b : List Int} (ha : ok a = true) (hb : ok b = true) : nat_Add.f a b = some (addS a b) := by unfold nat_Add.f; rw [if_pos ⟨ha, hb⟩]
theorem addS_of {a b : List Int} (ma : may a = true) (mb : may b = true) : addS a b = fit (val a + val b) := by unfold addS; rw [ma, mb]; rfl
theorem of_f {k : Nat} {u : Int} (hk : 3 ≤ k) (h0 : 0 ≤ u) (h1 : u < 18446744073709551616) : nat_Of.f k u = some (toL u.toNat) := by
  obtain ⟨n, rfl⟩ := Int.eq_ofNat_of_zero_le h0
  unfold nat_Of.f
  have ho : ok [(n : Int) % 4294967296, ((n : Int) / 4294967296) % 4294967296] = true := by
    rw [ok_cons]; refine ⟨by omega, ?_⟩; rw [ok_cons]; exact ⟨by omega, rfl⟩
  have hv : val [(n : Int) % 4294967296, ((n : Int) / 4294967296) % 4294967296] = n := by simp only [val, B]; omega
  have hc : nat_cut.f k [(n : Int) % 4294967296, ((n : Int) / 4294967296) % 4294967296] = some (toL n) := by
    have h := nat_cut_l0_val [(n : Int) % 4294967296, ((n : Int) / 4294967296) % 4294967296] k (by simp; omega) (by simp)
    unfold nat_cut.f
    rw [h, cut_fit ho, hv, fit_small (m := 2) (by simp only [B]; omega) (by omega)]
  rw [hc]; rfl
theorem val_zero_iff {l : List Int} (ho : ok l = true) (hm : may l = true) : val l = 0 ↔ l = [] := ⟨norm_zero ho (may_norm hm), fun h => by rw [h]; rfl⟩

/-! ### products -/
def mulS (a b : List Int) : List Int := if may a && may b then fit (val a * val b) else []
def smallS (a : List Int) (w c : Nat) : List Int := if may a then fit (val a * w + c) else []
def powS (a : List Int) (k : Int) : List Int := if may a && decide (0 ≤ k) then fit (val a ^ k.toNat) else []
theorem mulS_of {a b : List Int} (ma : may a = true) (mb : may b = true) : mulS a b = fit (val a * val b) := by unfold mulS; rw [ma, mb]; rfl
theorem mulS_ok (a b : List Int) : ok (mulS a b) = true := by unfold mulS; split; exact fit_ok _; rfl
theorem mulS_may (a b : List Int) : may (mulS a b) = true := by unfold mulS; split; exact may_fit _; rfl
theorem addS_ok (a b : List Int) : ok (addS a b) = true := by unfold addS; split; exact fit_ok _; rfl
theorem addS_may (a b : List Int) : may (addS a b) = true := by unfold addS; split; exact may_fit _; rfl
theorem fit_nil_iff {n : Nat} (h : n < B ^ most) : fit n = [] ↔ n = 0 := by
  rw [fit_lt h]
  constructor
  · intro e; rw [← val_toL n, e]; rfl
  · intro e; rw [e]; exact toL_zero
theorem val_fit {n : Nat} (h : n < B ^ most) : val (fit n) = n := by rw [fit_lt h, val_toL]
theorem fits_f {l : List Int} {k : Nat} (hk : l.length < k) (hm : l.length ≤ 4611686018427387904) : mul_fits.f k l = some (cut l) := by
  unfold mul_fits.f cut
  rw [trim_f hk hm, Option.bind_some]
  by_cases h : (strip l).length ≤ 65536
  · rw [if_neg (by omega), if_pos h]
  · rw [if_pos (by omega), if_neg h]
theorem norm_ge {l : List Int} (ho : ok l = true) (hn : norm l) (h : l ≠ []) : B ^ (l.length - 1) ≤ val l := by
  refine Nat.le_of_not_lt fun h2 => ?_
  have h3 := toL_length_le.2 h2
  rw [toL_val ho hn] at h3
  have : l.length ≠ 0 := fun e => h (List.length_eq_zero_iff.1 e)
  omega
theorem mul_long {a b : List Int} (oa : ok a = true) (ob : ok b = true) (ma : may a = true) (mb : may b = true) (h : a.length + b.length > 65537) : fit (val a * val b) = [] := by
  have la := may_length ma
  have lb := may_length mb
  have ga := norm_ge oa (may_norm ma) (by intro e; rw [e, List.length_nil] at h; omega)
  have gb := norm_ge ob (may_norm mb) (by intro e; rw [e, List.length_nil] at h; omega)
  refine fit_ge (Nat.not_lt.2 (Nat.le_trans ?_ (Nat.mul_le_mul ga gb)))
  rw [← Nat.pow_add]
  exact Nat.pow_le_pow_right (by decide) (by rw [most_eq]; omega)
theorem mul_f {k : Nat} {a b : List Int} (oa : ok a = true) (ob : ok b = true) (ha : a.length ≤ 4611686018427387904) (hb : b.length ≤ 4611686018427387904) (hk : 1000000 ≤ k) : mul_Mul.f k a b = some (mulS a b) := by
  obtain ⟨k, rfl⟩ : ∃ m, k = m + 1 := ⟨k - 1, by omega⟩
  have ht : mul_Mul.j0 (k + 1) a b true = some [] := by simp only [mul_Mul.j0, if_true]
  unfold mul_Mul.f
  rw [may_f (by omega), Option.bind_some]
  cases ma : may a with
  | false => rw [if_neg (by decide), ht]; simp [mulS, ma]
  | true =>
    rw [if_pos rfl, may_f (by omega), Option.bind_some]
    cases mb : may b with
    | false => rw [if_neg (by decide), ht]; simp [mulS, ma, mb]
    | true =>
      have la := may_length ma
      have lb := may_length mb
      rw [if_pos rfl, w64n (by omega), mulS_of ma mb]
      by_cases hl : a.length + b.length > 65537
      · rw [decide_eq_true (by omega), ht, mul_long oa ob ma mb hl]
      · rw [decide_eq_false (by omega)]
        simp only [mul_Mul.j0, Bool.false_eq_true, if_false]
        have hp : mul_product.f a b = some (toL (val a * val b)) := by unfold mul_product.f; rw [if_pos ⟨oa, ob, by omega, by omega⟩]
        have hlen : (toL (val a * val b)).length ≤ a.length + b.length := toL_length_le.2 (mul_lt_pow (val_lt oa) (val_lt ob))
        rw [hp, Option.bind_some, fits_f (by omega) (by omega), Option.bind_some, cut_fit (toL_ok _), val_toL]
theorem square_f {k : Nat} {a : List Int} (oa : ok a = true) (ha : a.length ≤ 4611686018427387904) (hk : 1000000 ≤ k) : mul_Square.f k a = some (mulS a a) := by
  unfold mul_Square.f; rw [mul_f oa oa ha ha hk]; rfl
theorem small_step {out b : List Int} {k x y c V0 : Nat} (hp : k < out.length) (ho : out.getD k 0 = 0) (hy : b.getD k 0 = (y : Int))
    (hv : val out + B ^ k * c = V0 + x * val (b.take k)) :
    val (out.set k (((x * y + c) % 4294967296 : Nat) : Int)) + B ^ (k + 1) * ((x * y + c) / 4294967296) = V0 + x * val (b.take (k + 1)) := by
  have h := row_step (out := out) (b := b) (i := 0) (k := k) (x := x) (y := y) (o := 0) (c := c) (V0 := V0) (by omega) (by rw [Nat.zero_add, ho]; rfl) hy (by rw [Nat.zero_add, Nat.pow_zero, Nat.one_mul]; exact hv)
  simpa only [Nat.zero_add, Nat.pow_zero, Nat.one_mul, Nat.add_zero] using h
theorem small_word {x y c : Nat} (hx : x < 4294967296) (hy : y < 4294967296) (hc : c < 4294967296) : x * y + c < 18446744073709551616 ∧ (x * y + c) / 4294967296 < 4294967296 := by
  have := limb_word (x := x) (y := y) (o := 0) (c := c) hx hy (by omega) hc
  omega
theorem small_go {a : List Int} (oa : ok a = true) (la : a.length ≤ 1099511627776) (w c0 : Nat) (hw : w < 4294967296) (d : Nat) : ∀ (i c k : Nat) (out : List Int), i + d = a.length → a.length + 3 + d ≤ k → ok out = true → out.length = a.length + 1 → c < 4294967296 → (∀ q, i ≤ q → out.getD q 0 = 0) →
    val out + B ^ i * c = c0 + w * val (a.take i) → mul_Small.l0 k a (w : Int) out (c : Int) a (a.length : Int) (i : Int) = some (fit (c0 + w * val a)) := by
  induction d with
  | zero =>
    intro i c k out hi hk oo ol hc hz hv
    obtain ⟨k, rfl⟩ : ∃ m, k = m + 1 := ⟨k - 1, by omega⟩
    obtain rfl : i = a.length := by omega
    rw [List.take_of_length_le (Nat.le_refl _)] at hv
    have hp : a.length < out.length := by omega
    have hvs := val_set out a.length ((c : Nat) : Int) hp
    rw [hz _ (Nat.le_refl _)] at hvs
    simp only [Int.toNat_zero, Nat.mul_zero, Nat.add_zero, Int.toNat_natCast] at hvs
    simp only [mul_Small.l0]
    rw [if_neg (by omega), if_pos (by omega), if_pos (by omega), Int.toNat_natCast, show (c : Int) % 4294967296 = (c : Int) by omega, fits_f (by simp; omega) (by simp; omega), Option.bind_some, cut_fit (ok_set oo _ (by omega) (by omega)), hvs, hv]
  | succ d ih =>
    intro i c k out hi hk oo ol hc hz hv
    obtain ⟨k, rfl⟩ : ∃ m, k = m + 1 := ⟨k - 1, by omega⟩
    have hyo := ok_get oa i
    obtain ⟨y, hy⟩ := Int.eq_ofNat_of_zero_le hyo.1
    rw [hy] at hyo
    obtain ⟨w1, w2⟩ := small_word (x := w) (y := y) (c := c) hw (by omega) hc
    have hst := small_step (x := w) (V0 := c0) (by omega : i < out.length) (hz i (Nat.le_refl _)) hy hv
    have hxy : y * w = w * y := Nat.mul_comm _ _
    have e1 : IntKind.u64.wrap ((c : Int) + IntKind.u64.wrap (IntKind.u64.wrap (y : Int) * IntKind.u64.wrap (w : Int))) = ((w * y + c : Nat) : Int) := by
      rw [wrU (y : Int) (by omega) (by omega), wrU (w : Int) (by omega) (by omega), ← Int.natCast_mul, hxy]
      generalize w * y = xy at *
      rw [wrU (xy : Int) (by omega) (by omega), wrU _ (by omega) (by omega)]; omega
    have e2 : ((w * y + c : Nat) : Int) % 4294967296 = (((w * y + c) % 4294967296 : Nat) : Int) := by omega
    have e3 : ((w * y + c : Nat) : Int) / 4294967296 = (((w * y + c) / 4294967296 : Nat) : Int) := by omega
    have hd2 : (w * y + c) % 4294967296 < 4294967296 := Nat.mod_lt _ (by decide)
    have hh := ih (i + 1) ((w * y + c) / 4294967296) k (out.set i (((w * y + c) % 4294967296 : Nat) : Int)) (by omega) (by omega) (ok_set oo _ (by omega) (by omega)) (by simpa using ol) w2 (fun q hq => by rw [PMul.getD_set_ne _ (by omega)]; exact hz q (by omega)) hst
    rw [← hh]
    simp only [mul_Small.l0]
    rw [if_pos (by omega), if_pos (by omega), if_pos (by omega), if_pos (by omega), w64s (by omega), rd_nat, hy, e1, e2, e3, Int.toNat_natCast]
theorem small_f {k w c : Nat} {a : List Int} (oa : ok a = true) (ha : a.length ≤ 4611686018427387904) (hw : w < 4294967296) (hc : c < 4294967296) (hk : 1000000 ≤ k) : mul_Small.f k a (w : Int) (c : Int) = some (smallS a w c) := by
  unfold mul_Small.f
  rw [may_f (by omega), Option.bind_some]
  cases ma : may a with
  | false => rw [if_neg (by decide)]; simp [smallS, ma]
  | true =>
    have la := may_length ma
    rw [if_pos rfl, w64s (by omega), if_pos (by omega), Int.toNat_natCast, if_pos (by omega), wrU (c : Int) (by omega) (by omega)]
    have h := small_go oa (by omega) w c hw a.length 0 c k (List.replicate (a.length + 1) 0) (by omega) (by omega) (zeros_ok _) (by simp) hc (fun q _ => zeros_getD _ _) (by rw [zeros_val]; simp [val])
    rw [show ((0 : Nat) : Int) = 0 from rfl] at h
    rw [h]; simp only [smallS, ma, if_true]; rw [Nat.add_comm, Nat.mul_comm]

/-! ### powers -/
theorem pw (v e : Nat) : v ^ e = v ^ (e % 2) * (v * v) ^ (e / 2) := by
  rw [← Nat.pow_two, ← Nat.pow_mul, ← Nat.pow_add]; congr 1; omega
theorem pow_stop {k e : Nat} {out : List Int} (he : 0 < e) : mul_Pow.l0 (k + 2) (e : Int) out [] = some [] := by
  simp only [mul_Pow.l0, List.length_nil]
  rw [if_pos (by rfl), decide_eq_true (by omega)]
  simp only [mul_Pow.j2, if_true]
theorem pow_go : ∀ (n e k : Nat) (out b : List Int), e ≤ n → e ≤ 9223372036854775807 → ok out = true → ok b = true → may out = true → may b = true → 0 < val out → (0 < val b ∨ e = 0) → 1000000 + 2 * n + 4 ≤ k →
    mul_Pow.l0 k (e : Int) out b = some (fit (val out * val b ^ e)) := by
  intro n
  induction n with
  | zero =>
    intro e k out b he hm oo ob mo mb ho hb hk
    obtain ⟨k, rfl⟩ : ∃ m, k = m + 2 := ⟨k - 2, by omega⟩
    obtain rfl : e = 0 := by omega
    have h1 : mul_Pow.j2 (k + 1) ((0 : Nat) : Int) out b false = some out := by
      simp only [mul_Pow.j2, Bool.false_eq_true, if_false]
      rw [if_neg (by decide), if_pos (by rw [show Int.tdiv ((0 : Nat) : Int) 2 = 0 from rfl]; unfold wrap64; omega)]
    simp only [mul_Pow.l0]
    rw [Nat.pow_zero, Nat.mul_one, fit_of_may oo mo]
    split
    · exact h1
    · exact h1
  | succ n ih =>
    intro e k out b he hm oo ob mo mb ho hb hk
    by_cases he0 : e = 0
    · exact ih e k out b (by omega) hm oo ob mo mb ho hb (by omega)
    obtain ⟨k, rfl⟩ : ∃ m, k = m + 2 := ⟨k - 2, by omega⟩
    have hb1 : 0 < val b := by omega
    have hbn : b ≠ [] := by intro e; rw [e] at hb1; simp [val] at hb1
    have hbl : ¬ (b.length : Int) = 0 := by intro e; exact hbn (List.length_eq_zero_iff.1 (by omega))
    have ht1 : Int.tmod (e : Int) 2 = ((e % 2 : Nat) : Int) := by rw [Int.tmod_eq_emod_of_nonneg (by omega)]; omega
    have ht2 : wrap64 (Int.tdiv (e : Int) 2) = ((e / 2 : Nat) : Int) := by rw [Int.tdiv_eq_ediv_of_nonneg (by omega)]; unfold wrap64; omega
    have lo := may_length mo
    have lb := may_length mb
    -- the square, and what is behind it
    have hsq : ∀ o2 : List Int, ok o2 = true → may o2 = true → 0 < val o2 → e / 2 ≠ 0 → (mul_Square.f k b).bind (fun t => mul_Pow.l0 k ((e / 2 : Nat) : Int) o2 t) = some (fit (val o2 * (val b * val b) ^ (e / 2))) := by
      intro o2 oo2 mo2 ho2 h2
      rw [square_f ob (by omega) (by omega), Option.bind_some, mulS_of mb mb]
      have hbb : 0 < val b * val b := Nat.mul_pos hb1 hb1
      by_cases hlt : val b * val b < B ^ most
      · have hv := val_fit hlt
        have h := ih (e / 2) k o2 (fit (val b * val b)) (by omega) (by omega) oo2 (fit_ok _) mo2 (may_fit _) ho2 (by rw [hv]; exact .inl hbb) (by omega)
        rw [hv] at h; exact h
      · rw [fit_ge hlt]
        obtain ⟨k, rfl⟩ : ∃ m, k = m + 2 := ⟨k - 2, by omega⟩
        rw [pow_stop (by omega), fit_ge]
        refine Nat.not_lt.2 (Nat.le_trans (Nat.not_lt.1 hlt) ?_)
        calc val b * val b = (val b * val b) ^ 1 := (Nat.pow_one _).symm
          _ ≤ (val b * val b) ^ (e / 2) := Nat.pow_le_pow_right hbb (by omega)
          _ ≤ val o2 * (val b * val b) ^ (e / 2) := Nat.le_mul_of_pos_left _ ho2
    simp only [mul_Pow.l0]
    rw [if_neg hbl]
    simp only [mul_Pow.j2, Bool.false_eq_true, if_false]
    rw [ht1, ht2]
    by_cases hodd : e % 2 = 1
    · rw [if_pos (by omega), mul_f oo ob (by omega) (by omega) (by omega), Option.bind_some, mulS_of mo mb]
      have hob : 0 < val out * val b := Nat.mul_pos ho hb1
      have hpe : val out * val b ^ e = val out * val b * (val b * val b) ^ (e / 2) := by
        rw [pw (val b) e, hodd, Nat.pow_one, Nat.mul_assoc]
      rw [hpe]
      by_cases hlt : val out * val b < B ^ most
      · have hv := val_fit hlt
        have hne : ¬ ((fit (val out * val b)).length : Int) = 0 := by
          intro e; have h0 := (fit_nil_iff hlt).1 (List.length_eq_zero_iff.1 (by omega)); omega
        rw [if_neg hne]
        by_cases h2 : e / 2 = 0
        · rw [if_pos (by omega), h2, Nat.pow_zero, Nat.mul_one]
        · rw [if_neg (by omega)]
          have h := hsq (fit (val out * val b)) (fit_ok _) (may_fit _) (by rw [hv]; exact hob) h2
          rw [hv] at h; exact h
      · rw [fit_ge hlt, if_pos (by rfl), fit_ge]
        refine Nat.not_lt.2 (Nat.le_trans (Nat.not_lt.1 hlt) (Nat.le_mul_of_pos_right _ (Nat.pow_pos (Nat.mul_pos hb1 hb1))))
    · have h2 : e / 2 ≠ 0 := by omega
      have hpe : val out * val b ^ e = val out * (val b * val b) ^ (e / 2) := by
        rw [pw (val b) e, show e % 2 = 0 by omega, Nat.pow_zero, Nat.one_mul]
      rw [hpe, if_neg (by omega), if_neg (by omega)]
      exact hsq out oo mo ho h2
theorem pow_f {k : Nat} {a : List Int} {e : Int} (oa : ok a = true) (ha : a.length ≤ 4611686018427387904) (he : e ≤ 9223372036854775807) (hk : 1000000 + 2 * e.toNat + 6 ≤ k) : mul_Pow.f k a e = some (powS a e) := by
  obtain ⟨k, rfl⟩ : ∃ m, k = m + 1 := ⟨k - 1, by omega⟩
  have ht : ∀ e, mul_Pow.j0 (k + 1) a e true = some [] := by intro e; simp only [mul_Pow.j0, if_true]
  unfold mul_Pow.f
  rw [may_f (by omega), Option.bind_some]
  cases ma : may a with
  | false => rw [if_neg (by decide), ht]; simp [powS, ma]
  | true =>
    rw [if_pos rfl]
    by_cases h0 : e < 0
    · rw [if_pos h0, ht]; simp [powS, ma, show ¬ 0 ≤ e by omega]
    obtain ⟨n, rfl⟩ := Int.eq_ofNat_of_zero_le (show 0 ≤ e by omega)
    have hS : powS a (n : Int) = fit (val a ^ n) := by simp [powS, ma]
    rw [if_neg h0, hS]
    have hgo : 0 < val a ∨ n = 0 → mul_Pow.j0 (k + 1) a (n : Int) false = some (fit (val a ^ n)) := by
      intro hn
      simp only [mul_Pow.j0, Bool.false_eq_true, if_false]
      rw [of_f (by omega) (by omega) (by omega), Option.bind_some]
      have h1 : val (toL (1 : Int).toNat) = 1 := val_toL _
      have h := pow_go n n k (toL (1 : Int).toNat) a (Nat.le_refl _) (by omega) (toL_ok _) oa (may_toL (m := 1) (by decide) (by omega)) ma (by rw [h1]; omega) hn (by omega)
      rw [h, h1, Nat.one_mul]
    by_cases h1 : (n : Int) > 0
    · rw [if_pos h1]
      by_cases ha0 : a = []
      · subst ha0
        rw [show ((([] : List Int).length : Int) == 0) = true from rfl, ht, show val [] = 0 from rfl, Nat.zero_pow (by omega)]
        rw [fit_lt (Nat.pow_pos (by decide)), toL_zero]
      · have hl : ((a.length : Int) == 0) = false := by
          rw [beq_eq_false_iff_ne]; intro e; exact ha0 (List.length_eq_zero_iff.1 (by omega))
        rw [hl]
        exact hgo (.inl (Nat.pos_of_ne_zero fun e => ha0 ((val_zero_iff oa ma).1 e)))
    · rw [if_neg h1]
      exact hgo (.inr (by omega))

/-! ### sums of products -/
theorem mul_zero_or {a b : List Int} (oa : ok a = true) (ob : ok b = true) (ma : may a = true) (mb : may b = true) (h : val a * val b = 0) : a = [] ∨ b = [] := by
  rcases Nat.mul_eq_zero.1 h with h | h
  · exact .inl ((val_zero_iff oa ma).1 h)
  · exact .inr ((val_zero_iff ob mb).1 h)
theorem sum_step {k i n : Nat} {x0 x1 : List (List Int)} {acc a b : List Int} (hi : i < n) (h0 : i < x0.length) (h1 : i < x1.length) (ha : rd_L1 x0 (i : Int) = a) (hb : rd_L1 x1 (i : Int) = b) (oa : ok a = true) (ob : ok b = true) (ma : may a = true) (mb : may b = true) (oc : ok acc = true) (mc : may acc = true)
    (hf : val acc + val a * val b < B ^ most) (hk : 1000000 ≤ k) (hn : n ≤ 4611686018427387904) :
    mul_Sum.l0 (k + 2) x0 x1 acc (n : Int) (i : Int) = mul_Sum.l0 k x0 x1 (toL (val acc + val a * val b)) (n : Int) ((i + 1 : Nat) : Int) := by
  have la := may_length ma
  have lb := may_length mb
  have lc := may_length mc
  have hf2 : val a * val b < B ^ most := Nat.lt_of_le_of_lt (Nat.le_add_left _ _) hf
  have hmul : mulS a b = toL (val a * val b) := by rw [mulS_of ma mb, fit_lt hf2]
  have hj : mul_Sum.j1 (k + 1) x0 x1 acc (toL (val a * val b)) (n : Int) (i : Int) false = mul_Sum.l0 k x0 x1 (toL (val acc + val a * val b)) (n : Int) ((i + 1 : Nat) : Int) := by
    have hadd : addS acc (toL (val a * val b)) = toL (val acc + val a * val b) := by
      rw [addS_of mc (by rw [← fit_lt hf2]; exact may_fit _), val_toL, fit_lt hf]
    simp only [mul_Sum.j1, Bool.false_eq_true, if_false]
    rw [add_f oc (toL_ok _), Option.bind_some, hadd, w64s (by omega)]
    by_cases hz : ((toL (val acc + val a * val b)).length : Int) = 0
    · have hz3 : toL (val acc + val a * val b) = [] := List.length_eq_zero_iff.1 (by omega)
      have hz2 : val acc + val a * val b = 0 := by rw [← val_toL (val acc + val a * val b), hz3]; rfl
      have e1 : acc = [] := (val_zero_iff oc mc).1 (by omega)
      have e2 : toL (val a * val b) = [] := by rw [show val a * val b = 0 by omega]; exact toL_zero
      rw [if_pos hz, if_neg]
      rw [e1, e2, List.length_nil]; unfold wrap64; omega
    · rw [if_neg hz]
  simp only [mul_Sum.l0]
  rw [if_pos (by omega), if_pos (by omega), if_pos (by omega), if_pos (by omega), ha, hb, mul_f oa ob (by omega) (by omega) (by omega), Option.bind_some, may_f (by omega), Option.bind_some, if_pos ma, may_f (by omega), Option.bind_some, if_pos mb, hmul]
  by_cases hz : ((toL (val a * val b)).length : Int) = 0
  · rw [if_pos hz]
    have hz3 : toL (val a * val b) = [] := List.length_eq_zero_iff.1 (by omega)
    have hz2 : val a * val b = 0 := by rw [← val_toL (val a * val b), hz3]; rfl
    rcases mul_zero_or oa ob ma mb hz2 with rfl | rfl
    · rw [if_neg (by decide), hj]
    · rw [show decide ((([] : List Int).length : Int) > 0) = false from rfl]
      split
      · exact hj
      · exact hj
  · rw [if_neg hz, hj]
theorem sum_end {k i n : Nat} {x0 x1 : List (List Int)} {acc : List Int} (hi : n ≤ i) : mul_Sum.l0 (k + 1) x0 x1 acc (n : Int) (i : Int) = some acc := by
  simp only [mul_Sum.l0]
  rw [if_neg (by omega)]
theorem sum_two {k : Nat} {x0 x1 : List (List Int)} {a b c d : List Int} (h : min x0.length x1.length = 2) (ha : rd_L1 x0 0 = a) (hb : rd_L1 x0 1 = b) (hc : rd_L1 x1 0 = c) (hd : rd_L1 x1 1 = d) (oa : ok a = true) (ob : ok b = true) (oc : ok c = true) (od : ok d = true) (ma : may a = true) (mb : may b = true) (mc : may c = true) (md : may d = true)
    (hf : val a * val c + val b * val d < B ^ most) (hk : 1000010 ≤ k) : mul_Sum.f k x0 x1 = some (toL (val a * val c + val b * val d)) := by
  obtain ⟨k, rfl⟩ : ∃ m, k = m + 5 := ⟨k - 5, by omega⟩
  have hmn : mn (x0.length : Int) (x1.length : Int) = ((2 : Nat) : Int) := by unfold mn; split <;> omega
  have hf1 : val ([] : List Int) + val a * val c < B ^ most := by rw [show val [] = 0 from rfl, Nat.zero_add]; omega
  unfold mul_Sum.f
  rw [hmn]
  have s1 := sum_step (k := k + 3) (i := 0) (n := 2) (x0 := x0) (x1 := x1) (acc := []) (by omega) (by omega) (by omega) ha hc oa oc ma mc rfl rfl hf1 (by omega) (by omega)
  have hv0 : val ([] : List Int) + val a * val c = val a * val c := by rw [show val [] = 0 from rfl, Nat.zero_add]
  rw [hv0] at s1 hf1
  have s2 := sum_step (k := k + 1) (i := 1) (n := 2) (x0 := x0) (x1 := x1) (acc := toL (val a * val c)) (by omega) (by omega) (by omega) hb hd ob od mb md (toL_ok _) (by rw [← fit_lt hf1]; exact may_fit _) (by rw [val_toL]; exact hf) (by omega) (by omega)
  rw [val_toL] at s2
  rw [show (0 : Int) = ((0 : Nat) : Int) from rfl, s1]
  rw [s2, sum_end (by omega)]

/-! ### the examples -/
theorem ones_go (n : Nat) (hn : n ≤ 4611686018427387904) (d : Nat) : ∀ (i k : Nat), i + d = n → d < k → alidadelaw02_ones.l0 k (n : Int) (List.replicate i 4294967295 ++ List.replicate d 0) (i : Int) = some (List.replicate n 4294967295) := by
  induction d with
  | zero =>
    intro i k hi hk
    obtain ⟨k, rfl⟩ : ∃ m, k = m + 1 := ⟨k - 1, by omega⟩
    obtain rfl : i = n := by omega
    simp only [alidadelaw02_ones.l0]
    rw [if_neg (by omega), List.replicate_zero, List.append_nil]
  | succ d ih =>
    intro i k hi hk
    obtain ⟨k, rfl⟩ : ∃ m, k = m + 1 := ⟨k - 1, by omega⟩
    have h := ih (i + 1) k (by omega) (by omega)
    have hs : (List.replicate i (4294967295 : Int) ++ List.replicate (d + 1) 0).set i 4294967295 = List.replicate (i + 1) 4294967295 ++ List.replicate d 0 := by
      rw [List.set_append_right _ _ (by simp), List.length_replicate, Nat.sub_self, List.replicate_succ, List.set_cons_zero, List.replicate_succ', List.append_assoc]; rfl
    have hl : (List.replicate i (4294967295 : Int) ++ List.replicate (d + 1) 0).length = n := by simp; omega
    simp only [alidadelaw02_ones.l0]
    rw [hl, if_pos (by omega), if_pos (by omega), if_pos (by omega), Int.toNat_natCast, hs, w64s (by omega)]
    exact h
theorem ones_f {n k : Nat} (hn : n ≤ 70368744177664) (hk : n < k) : alidadelaw02_ones.f k (n : Int) = some (List.replicate n 4294967295) := by
  unfold alidadelaw02_ones.f
  rw [if_pos (by omega), Int.toNat_natCast, if_pos hn]
  exact ones_go n (by omega) n 0 k (by omega) hk
theorem one_one (k : Nat) : alidadelaw02_ones.f (k + 3) 1 = some [4294967295] := ones_f (n := 1) (by omega) (by omega)
theorem works_f {k : Nat} (hk : 2000000 ≤ k) : alidadelaw02_works.f k = some true := by
  obtain ⟨k, rfl⟩ : ∃ m, k = m + 3 := ⟨k - 3, by omega⟩
  have e1 : mulS [4294967295] [4294967295] = [1, 4294967294] := by rw [mulS_of rfl rfl]; exact fit_eq rfl rfl (by decide)
  have e2 : toL (4294967296 : Int).toNat = [0, 1] := toL_eq rfl rfl (by decide)
  have e3 : smallS [0, 1] 10 7 = [7, 10] := by unfold smallS; rw [show may [0, 1] = true from rfl, if_pos rfl]; exact fit_eq rfl rfl (by decide)
  have e4 : toL (10 : Int).toNat = [10] := toL_eq rfl rfl (by decide)
  have e5 : powS [10] 20 = [1661992960, 1808227885, 5] := by unfold powS; rw [show may [10] = true from rfl]; exact fit_eq rfl rfl (by decide)
  have e6 : powS [] 0 = [1] := by unfold powS; rw [show may [] = true from rfl]; exact fit_eq rfl rfl (by decide)
  have e7 : alidadelaw02_same.f (k + 3) [31] [31] = some true := by rw [same_f (by simp) (by simp)]; simp
  have e8 : mul_Sum_2_3.f (k + 3) [2] [3] [5] [7] [9] = some [31] := by
    unfold mul_Sum_2_3.f
    rw [sum_two (a := [2]) (b := [3]) (c := [5]) (d := [7]) rfl rfl rfl rfl rfl rfl rfl rfl rfl rfl rfl rfl rfl (Nat.lt_of_lt_of_le (show _ < B ^ 1 by decide) (Nat.pow_le_pow_right (by decide) (by rw [most_eq]; omega))) (by omega)]
    exact congrArg some (toL_eq rfl rfl (by decide))
  have es : ∀ l : List Int, l.length < 10 → alidadelaw02_same.f (k + 3) l l = some true := by intro l hl; rw [same_f (by omega) (by omega)]; simp
  have hsm := small_f (k := k + 3) (w := 10) (c := 7) (a := [0, 1]) rfl (by simp) (by omega) (by omega) (by omega)
  rw [e3] at hsm
  unfold alidadelaw02_works.f
  rw [one_one, Option.bind_some, Option.bind_some, mul_f rfl rfl (by simp) (by simp) (by omega), Option.bind_some, e1, es _ (by simp), Option.bind_some, if_pos rfl, of_f (by omega) (by omega) (by omega), Option.bind_some, e2]
  rw [show (10 : Int) = ((10 : Nat) : Int) from rfl, show (7 : Int) = ((7 : Nat) : Int) from rfl, hsm, Option.bind_some]
  rw [show ((10 : Nat) : Int) = 10 from rfl, show ((7 : Nat) : Int) = 7 from rfl, es _ (by simp), Option.bind_some, if_pos rfl, of_f (by omega) (by omega) (by omega), Option.bind_some, e4, pow_f rfl (by simp) (by omega) (by omega), Option.bind_some, e5, es _ (by simp), Option.bind_some, if_pos rfl, pow_f rfl (by simp) (by omega) (by omega), Option.bind_some, e6, es _ (by simp), Option.bind_some, if_pos rfl, e8, Option.bind_some, e7]
  rfl

/-! ### how long, new rows -/
theorem copied_f {l : List Int} (h : l.length < 35184372088832) : alidadelaw02_copied.f l = some l := by
  unfold alidadelaw02_copied.f; rw [Option.bind_some, if_pos (by simpa using h)]; rfl
end Go.Proofs.Ytnngdlehakcdlaa.Pure
