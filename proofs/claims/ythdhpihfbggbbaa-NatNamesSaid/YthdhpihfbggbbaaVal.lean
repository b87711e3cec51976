/-
  Plain numbers: lists of 32-bit limbs and the naturals that they are. No program in sight.
-/
import Derived.Tactics
namespace Go.Proofs.YthdhpihfbggbbaaV

/-- one more than the greatest limb -/
abbrev B : Nat := 4294967296

/-- the natural that limbs are -/
def val : List Int → Nat
  | [] => 0
  | x :: l => x.toNat + B * val l

/-- each limb is one -/
def ok (l : List Int) : Bool := l.all fun x => decide (0 ≤ x) && decide (x < 4294967296)

/-- without 0s behind -/
def strip (l : List Int) : List Int := (l.reverse.dropWhile fun x => x == 0).reverse

/-- the limbs of a natural -/
def toL (n : Nat) : List Int := if _h : n = 0 then [] else ((n % B : Nat) : Int) :: toL (n / B)
decreasing_by exact Nat.div_lt_self (by omega) (by decide)

/-- the limbs of a natural that has not too many; else none -/
def fit (n : Nat) : List Int := if (toL n).length ≤ 65536 then toL n else []

def may (l : List Int) : Bool := decide (l.length ≤ 65536) && (decide (l.length = 0) || (l.getD (l.length - 1) 0 != 0))

theorem ok_nil : ok [] = true := rfl
theorem ok_cons {x : Int} {l : List Int} : ok (x :: l) = true ↔ (0 ≤ x ∧ x < 4294967296) ∧ ok l = true := by
  simp [ok]
theorem ok_append {a b : List Int} : ok (a ++ b) = true ↔ ok a = true ∧ ok b = true := by
  simp [ok]
theorem snoc_cases (l : List Int) : l = [] ∨ ∃ a x, l = a ++ [x] := by
  rcases List.eq_nil_or_concat l with h | ⟨a, x, h⟩
  · exact .inl h
  · exact .inr ⟨a, x, by rw [h, List.concat_eq_append]⟩
theorem ok_get {l : List Int} (h : ok l = true) (i : Nat) : 0 ≤ l.getD i 0 ∧ l.getD i 0 < 4294967296 := by
  rcases Nat.lt_or_ge i l.length with hi | hi
  · rw [List.getD_eq_getElem?_getD, List.getElem?_eq_getElem hi]
    simp only [ok, List.all_eq_true, Bool.and_eq_true, decide_eq_true_eq] at h
    exact h _ (List.getElem_mem hi)
  · rw [List.getD_eq_getElem?_getD, List.getElem?_eq_none hi]
    simp
theorem ok_take {l : List Int} (h : ok l = true) (k : Nat) : ok (l.take k) = true := by
  simp only [ok, List.all_eq_true] at h ⊢
  exact fun x hx => h x (List.mem_of_mem_take hx)
theorem ok_drop {l : List Int} (h : ok l = true) (k : Nat) : ok (l.drop k) = true := by
  simp only [ok, List.all_eq_true] at h ⊢
  exact fun x hx => h x (List.mem_of_mem_drop hx)

theorem val_append (a b : List Int) : val (a ++ b) = val a + B ^ a.length * val b := by
  induction a with
  | nil => simp [val]
  | cons x a ih =>
    simp only [List.cons_append, val, ih, List.length_cons, Nat.pow_succ]
    rw [Nat.mul_add, Nat.mul_comm (B ^ a.length) B, Nat.mul_assoc]
    omega
theorem val_snoc (a : List Int) (x : Int) : val (a ++ [x]) = val a + B ^ a.length * x.toNat := by
  rw [val_append]; simp [val]
theorem val_lt {l : List Int} (h : ok l = true) : val l < B ^ l.length := by
  induction l with
  | nil => simp [val]
  | cons x l ih =>
    obtain ⟨⟨h0, h1⟩, h2⟩ := ok_cons.1 h
    have := ih h2
    simp only [val, List.length_cons, Nat.pow_succ]
    have hx : x.toNat < B := by simp only [B]; omega
    have h3 : val l + 1 ≤ B ^ l.length := this
    calc x.toNat + B * val l < B + B * val l := by omega
      _ = B * (val l + 1) := by rw [Nat.mul_add]; omega
      _ ≤ B * B ^ l.length := Nat.mul_le_mul_left _ h3
      _ = B ^ l.length * B := Nat.mul_comm _ _
theorem val_take_succ (l : List Int) (k : Nat) : val (l.take (k + 1)) = val (l.take k) + B ^ k * (l.getD k 0).toNat := by
  rcases Nat.lt_or_ge k l.length with hk | hk
  · rw [List.take_succ_eq_append_getElem hk, val_snoc, List.length_take, Nat.min_eq_left (by omega)]
    rw [List.getD_eq_getElem?_getD, List.getElem?_eq_getElem hk]
    rfl
  · rw [List.take_of_length_le (by omega), List.take_of_length_le hk, List.getD_eq_getElem?_getD, List.getElem?_eq_none hk]
    simp

/-! ### the limbs of a natural -/
theorem toL_zero : toL 0 = [] := by unfold toL; simp
theorem toL_pos {n : Nat} (h : n ≠ 0) : toL n = ((n % B : Nat) : Int) :: toL (n / B) := by
  rw [toL]; simp [h]
theorem toL_ok (n : Nat) : ok (toL n) = true := by
  induction n using Nat.strongRecOn with
  | _ n ih =>
    by_cases h : n = 0
    · subst h; rw [toL_zero]; rfl
    · rw [toL_pos h, ok_cons]
      have hm : n % B < B := Nat.mod_lt _ (by decide)
      exact ⟨⟨by omega, by simp only [B] at hm ⊢; omega⟩, ih _ (Nat.div_lt_self (by omega) (by decide))⟩
theorem val_toL (n : Nat) : val (toL n) = n := by
  induction n using Nat.strongRecOn with
  | _ n ih =>
    by_cases h : n = 0
    · subst h; rw [toL_zero]; rfl
    · rw [toL_pos h, val, ih _ (Nat.div_lt_self (by omega) (by decide)), Int.toNat_natCast]
      exact Nat.mod_add_div n B

/-- the last limb, if there is one, is not 0 -/
def norm (l : List Int) : Prop := ∀ x, l.getLast? = some x → x ≠ 0
theorem norm_nil : norm [] := by intro x h; simp at h
theorem norm_tail {x : Int} {l : List Int} (h : norm (x :: l)) : norm l := by
  intro y hy
  apply h
  cases l with
  | nil => simp at hy
  | cons z l => simpa using hy
theorem toL_norm (n : Nat) : norm (toL n) := by
  induction n using Nat.strongRecOn with
  | _ n ih =>
    by_cases h : n = 0
    · subst h; rw [toL_zero]; exact norm_nil
    · rw [toL_pos h]
      intro x hx
      by_cases h2 : n / B = 0
      · rw [h2, toL_zero] at hx
        simp at hx
        have h3 : n % B = n := Nat.mod_eq_of_lt (by
          rcases Nat.lt_or_ge n B with h4 | h4
          · exact h4
          · exact absurd h2 (Nat.ne_of_gt (Nat.div_pos h4 (by decide))))
        rw [← hx]
        simp only [B] at h3 ⊢
        omega
      · have h4 := ih (n / B) (Nat.div_lt_self (by omega) (by decide))
        rw [toL_pos h2] at h4 hx
        apply h4
        simpa using hx
theorem norm_zero {l : List Int} (ho : ok l = true) (hn : norm l) (h : val l = 0) : l = [] := by
  induction l with
  | nil => rfl
  | cons x l ih =>
    obtain ⟨⟨h0, h1⟩, h2⟩ := ok_cons.1 ho
    simp only [val] at h
    have h3 : val l = 0 := by
      rcases Nat.eq_zero_or_pos (val l) with h4 | h4
      · exact h4
      · have := Nat.mul_pos (show 0 < B by decide) h4; omega
    have h5 := ih h2 (norm_tail hn) h3
    subst h5
    have := hn x (by simp)
    omega
theorem toL_val {l : List Int} (ho : ok l = true) (hn : norm l) : toL (val l) = l := by
  induction l with
  | nil => exact toL_zero
  | cons x l ih =>
    obtain ⟨⟨h0, h1⟩, h2⟩ := ok_cons.1 ho
    have hne : val (x :: l) ≠ 0 := fun h => by
      have := norm_zero ho hn h; simp at this
    rw [toL_pos hne]
    have hx : x.toNat < B := by simp only [B]; omega
    have e1 : val (x :: l) % B = x.toNat := by
      simp only [val]; rw [Nat.add_mul_mod_self_left, Nat.mod_eq_of_lt hx]
    have e2 : val (x :: l) / B = val l := by
      simp only [val]; rw [Nat.add_mul_div_left _ _ (by decide : 0 < B), Nat.div_eq_of_lt hx, Nat.zero_add]
    rw [e1, e2, ih h2 (norm_tail hn)]
    congr 1
    omega

/-! ### without 0s behind -/
theorem strip_nil : strip [] = [] := rfl
theorem strip_snoc_zero (l : List Int) : strip (l ++ [0]) = strip l := by simp [strip]
theorem strip_snoc {l : List Int} {x : Int} (h : x ≠ 0) : strip (l ++ [x]) = l ++ [x] := by simp [strip, h]
theorem strip_norm_self {l : List Int} (h : norm l) : strip l = l := by
  rcases snoc_cases l with rfl | ⟨a, x, rfl⟩
  · rfl
  · exact strip_snoc (h x (by simp))
theorem strip_cases (l : List Int) : strip l = l ∨ ∃ a, l = a ++ [0] ∧ strip l = strip a := by
  rcases snoc_cases l with rfl | ⟨a, x, rfl⟩
  · exact .inl rfl
  · by_cases h : x = 0
    · subst h; exact .inr ⟨a, rfl, strip_snoc_zero a⟩
    · exact .inl (strip_snoc h)
theorem strip_ok {l : List Int} (h : ok l = true) : ok (strip l) = true := by
  simp only [ok, List.all_eq_true] at h ⊢
  intro x hx
  apply h
  simp only [strip, List.mem_reverse] at hx
  have := (List.dropWhile_suffix (fun x => x == 0) (l := l.reverse)).subset hx
  simpa using this
theorem strip_val (l : List Int) : val (strip l) = val l := by
  generalize hn : l.length = n
  induction n generalizing l with
  | zero =>
    have : l = [] := List.length_eq_zero_iff.1 hn
    subst this; rfl
  | succ n ih =>
    rcases strip_cases l with h | ⟨a, rfl, h⟩
    · rw [h]
    · rw [h, val_snoc, ih a (by simpa using hn)]; simp
theorem strip_norm (l : List Int) : norm (strip l) := by
  generalize hn : l.length = n
  induction n generalizing l with
  | zero =>
    have : l = [] := List.length_eq_zero_iff.1 hn
    subst this; exact norm_nil
  | succ n ih =>
    rcases snoc_cases l with rfl | ⟨a, x, rfl⟩
    · exact norm_nil
    · by_cases h : x = 0
      · subst h
        rw [strip_snoc_zero]
        exact ih a (by simpa using hn)
      · rw [strip_snoc h]
        intro y hy
        have : y = x := by simpa using hy.symm
        rw [this]; exact h
theorem strip_toL {l : List Int} (h : ok l = true) : strip l = toL (val l) := by
  rw [← strip_val l, toL_val (strip_ok h) (strip_norm l)]
theorem strip_length_le (l : List Int) : (strip l).length ≤ l.length := by
  simp only [strip, List.length_reverse]
  have := (List.dropWhile_suffix (fun x => x == 0) (l := l.reverse)).length_le
  simpa using this

theorem may_iff {l : List Int} : may l = true ↔ l.length ≤ 65536 ∧ norm l := by
  rcases snoc_cases l with rfl | ⟨a, x, rfl⟩
  · simp [may, norm]
  · have h1 : (a ++ [x]).getD ((a ++ [x]).length - 1) 0 = x := by
      rw [List.length_append, List.length_singleton, Nat.add_sub_cancel, List.getD_eq_getElem?_getD, List.getElem?_append_right (Nat.le_refl _)]
      simp
    simp only [may, h1]
    simp [norm]
theorem may_length {l : List Int} (h : may l = true) : l.length ≤ 65536 := (may_iff.1 h).1
theorem may_norm {l : List Int} (h : may l = true) : norm l := (may_iff.1 h).2
theorem toL_of_may {l : List Int} (ho : ok l = true) (h : may l = true) : toL (val l) = l := toL_val ho (may_norm h)
theorem fit_of_may {l : List Int} (ho : ok l = true) (h : may l = true) : fit (val l) = l := by
  unfold fit; rw [toL_of_may ho h, if_pos (may_length h)]
theorem fit_ok (n : Nat) : ok (fit n) = true := by
  unfold fit; split
  · exact toL_ok n
  · rfl
theorem may_fit (n : Nat) : may (fit n) = true := by
  rw [may_iff]; unfold fit; split
  · rename_i h; exact ⟨h, toL_norm n⟩
  · exact ⟨by simp, norm_nil⟩
theorem may_inj {a b : List Int} (ha : ok a = true) (hb : ok b = true) (ma : may a = true) (mb : may b = true) (h : val a = val b) : a = b := by
  rw [← toL_of_may ha ma, ← toL_of_may hb mb, h]

/-! ### how long -/
theorem toL_length_le {n k : Nat} : (toL n).length ≤ k ↔ n < B ^ k := by
  induction k generalizing n with
  | zero =>
    by_cases h : n = 0
    · subst h; rw [toL_zero]; simp
    · rw [toL_pos h]; simp; omega
  | succ k ih =>
    by_cases h : n = 0
    · subst h; rw [toL_zero]; simp [Nat.pow_pos]
    · rw [toL_pos h, List.length_cons, Nat.add_le_add_iff_right, ih, Nat.pow_succ, Nat.div_lt_iff_lt_mul (by decide)]
/-- how many limbs there may be: behind a name, so that nobody reckons the power -/
def most : Nat := 65536
theorem most_eq : most = 65536 := rfl
theorem fit_lt {n : Nat} (h : n < B ^ most) : fit n = toL n := by
  unfold fit; rw [if_pos (most_eq ▸ toL_length_le.2 h)]
theorem fit_ge {n : Nat} (h : ¬ n < B ^ most) : fit n = [] := by
  unfold fit; rw [if_neg (fun h2 => h (toL_length_le.1 (most_eq.symm ▸ h2)))]

/-- what 'cut' leaves -/
def cut (l : List Int) : List Int := if (strip l).length ≤ 65536 then strip l else []
theorem cut_fit {l : List Int} (h : ok l = true) : cut l = fit (val l) := by
  unfold cut fit; rw [strip_toL h]

/-! ### what the functions tell -/
/-- how many bits -/
def blen (n : Nat) : Nat := if n = 0 then 0 else Nat.log2 n + 1
def cmpN (a b : Nat) : Int := if a < b then -1 else if a = b then 0 else 1
def cmpS (a b : List Int) : Int := if may a && may b then cmpN (val a) (val b) else 0
def addS (a b : List Int) : List Int := if may a && may b then fit (val a + val b) else []
def subS (a b : List Int) : List Int × Bool := if may a && may b && decide (val b ≤ val a) then (toL (val a - val b), true) else ([], false)
def shlS (a : List Int) (k : Int) : List Int := if may a && decide (a ≠ []) && decide (0 ≤ k) && decide (k ≤ 2097152) then fit (val a * 2 ^ k.toNat) else []
def shrS (a : List Int) (k : Int) : List Int := if may a && decide (0 ≤ k) && decide (k / 32 < a.length) then toL (val a / 2 ^ k.toNat) else []
end Go.Proofs.YthdhpihfbggbbaaV
