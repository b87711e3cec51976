/- The closed statement of nat: its examples, and the longest rows. -/
import Derived.Test.YthdhpihfbggbbaaNatRefC
import Derived.Test.YthdhpihfbggbbaaGNatShifttoNatBit
import Derived.Test.YthdhpihfbggbbaaPNatx35
namespace Go.Proofs.Ythdhpihfbggbbaa.Pure
open Go.RowKit Go.Proofs.Ythdhpihfbggbbaa.PNat Go.Proofs.YthdhpihfbggbbaaW.PrintWords Go.Proofs.YthdhpihfbggbbaaW.PrintLast Go.Proofs.YthdhpihfbggbbaaV

def Tells {α : Type} (f : Nat → Option α) (r : α) : Prop := ∃ n, ∀ k, n ≤ k → f k = some r
theorem Tells.step {α : Type} {f g : Nat → Option α} {r : α} (h : ∀ k, f (k + 1) = g k) (hg : Tells g r) : Tells f r := by
  obtain ⟨n, hn⟩ := hg
  refine ⟨n + 1, fun k hk => ?_⟩
  obtain ⟨m, rfl⟩ : ∃ m, k = m + 1 := ⟨k - 1, by omega⟩
  rw [h m]; exact hn m (by omega)
theorem Tells.const {α : Type} (r : α) : Tells (fun _ => some r) r := ⟨0, fun _ _ => rfl⟩
theorem Tells.ex {α : Type} {f : Nat → Option α} {r : α} (h : Tells f r) : ∃ k, f k = some r := by
  obtain ⟨n, hn⟩ := h
  exact ⟨n, hn n (Nat.le_refl n)⟩
section
variable {α β : Type} {r : β} {a : α}
theorem bc {x : Option α} {h : Nat → α → Option β} (hx : x = some a) (hh : Tells (fun k => h k a) r) : Tells (fun k => x.bind (h k)) r := by
  obtain ⟨n, hn⟩ := hh
  exact ⟨n, fun k hk => by rw [hx]; exact hn k hk⟩
theorem bk {g : Nat → Option α} {h : Nat → α → Option β} {n : Nat} (hg : ∀ k, n ≤ k → g k = some a) (hh : Tells (fun k => h k a) r) : Tells (fun k => (g k).bind (h k)) r := by
  obtain ⟨m, hm⟩ := hh
  exact ⟨n + m, fun k hk => by
    show (g k).bind (h k) = some r
    rw [hg k (by omega)]; exact hm k (by omega)⟩
theorem ip {c : Prop} [Decidable c] {f g : Nat → Option β} (hc : c) (h : Tells f r) : Tells (fun k => if c then f k else g k) r := by
  obtain ⟨n, hn⟩ := h
  exact ⟨n, fun k hk => by
    show (if c then f k else g k) = some r
    rw [if_pos hc]; exact hn k hk⟩
theorem ino {c : Prop} [Decidable c] {f g : Nat → Option β} (hc : ¬ c) (h : Tells g r) : Tells (fun k => if c then f k else g k) r := by
  obtain ⟨n, hn⟩ := h
  exact ⟨n, fun k hk => by
    show (if c then f k else g k) = some r
    rw [if_neg hc]; exact hn k hk⟩
end
/-- a row in its shortest form -/
def good (l : List Int) : Bool := ok l && may l && decide (l.length ≤ 8)
theorem good_parts {l : List Int} (h : good l = true) : ok l = true ∧ may l = true ∧ l.length ≤ 8 := by
  simp only [good, Bool.and_eq_true, decide_eq_true_eq] at h
  exact ⟨h.1.1, h.1.2, h.2⟩
theorem lowL {l : List Int} {r : Int × Bool} (o : ok l = true) (hl : l.length ≤ 100) (h : lowS l = r) : ∀ k, 2 ≤ k → nat_Low.f k l = some r := fun k hk => by rw [low_f o (by omega) hk, h]
theorem subL {a b c : List Int} (ha : good a = true) (hb : good b = true) (hc : good c = true) (hle : val b ≤ val a) (h : val c = val a - val b) : nat_Sub.f a b = some (c, true) := by
  rw [sub_f (good_parts ha).1 (good_parts hb).1, subS_of (good_parts ha).2.1 (good_parts hb).2.1 hle, toL_eq (good_parts hc).1 (good_parts hc).2.1 h]
theorem subB {a b : List Int} (oa : ok a = true) (ob : ok b = true) (h : (may a && may b && decide (val b ≤ val a)) = false) : nat_Sub.f a b = some ([], false) := by
  rw [sub_f oa ob]; unfold subS; rw [h]; rfl
theorem addL {a b c : List Int} (ha : good a = true) (hb : good b = true) (hc : good c = true) (h : val c = val a + val b) : nat_Add.f a b = some c := by
  rw [add_f (good_parts ha).1 (good_parts hb).1, addS_of (good_parts ha).2.1 (good_parts hb).2.1, fit_eq (good_parts hc).1 (good_parts hc).2.1 h]
theorem addB {a b : List Int} (oa : ok a = true) (ob : ok b = true) (h : (may a && may b) = false) : nat_Add.f a b = some [] := by
  rw [add_f oa ob]; unfold addS; rw [h]; rfl
theorem shlL {a c : List Int} {j : Int} (ha : good a = true) (hc : good c = true) (hj : -9223372036854775808 ≤ j ∧ j ≤ 9223372036854775807) (h0 : (may a && decide (a ≠ []) && decide (0 ≤ j) && decide (j ≤ 2097152)) = true) (h : val c = val a * 2 ^ j.toNat) : nat_Shl.f a j = some c := by
  rw [shl_f (good_parts ha).1 hj]; unfold shlS; rw [if_pos h0, fit_eq (good_parts hc).1 (good_parts hc).2.1 h]
theorem shlB {a : List Int} {j : Int} (oa : ok a = true) (hj : -9223372036854775808 ≤ j ∧ j ≤ 9223372036854775807) (h0 : (may a && decide (a ≠ []) && decide (0 ≤ j) && decide (j ≤ 2097152)) = false) : nat_Shl.f a j = some [] := by
  rw [shl_f oa hj]; unfold shlS; rw [h0]; rfl
theorem shrL {a c : List Int} {j : Int} (ha : good a = true) (hc : good c = true) (hj : -9223372036854775808 ≤ j ∧ j ≤ 9223372036854775807) (h0 : (may a && decide (0 ≤ j) && decide (j / 32 < a.length)) = true) (h : val c = val a / 2 ^ j.toNat) : nat_Shr.f a j = some c := by
  rw [shr_f (good_parts ha).1 hj]; unfold shrS; rw [if_pos h0, toL_eq (good_parts hc).1 (good_parts hc).2.1 h]
theorem shrB {a : List Int} {j : Int} (oa : ok a = true) (hj : -9223372036854775808 ≤ j ∧ j ≤ 9223372036854775807) (h0 : (may a && decide (0 ≤ j) && decide (j / 32 < a.length)) = false) : nat_Shr.f a j = some [] := by
  rw [shr_f oa hj]; unfold shrS; rw [h0]; rfl
theorem bitsL {l : List Int} {n : Int} (o : ok l = true) (h : (if may l = true then (blen (val l) : Int) else 0) = n) : nat_Bits.f l = some n := by rw [bits_f o, h]
theorem cmpL {a b : List Int} {n : Int} (oa : ok a = true) (ob : ok b = true) (h : cmpS a b = n) : nat_Cmp.f a b = some n := by rw [cmp_f oa ob, h]
theorem bitL {l : List Int} {j : Nat} {b : Bool} (hl : good l = true) (hj : j ≤ 1000) (h : decide (val l / 2 ^ j % 2 = 1) = b) : nat_Bit.f l (j : Int) = some b := by rw [bit_f (good_parts hl).1 (good_parts hl).2.1 (by omega), h]
theorem sameL {a : List Int} (ha : a.length ≤ 100) : ∀ k, 1000 ≤ k → alidadelaw01_same.f k a a = some true := fun k hk => by rw [same_f (by omega) (by omega), decide_eq_true rfl]
theorem mayL {l : List Int} {b : Bool} (hl : l.length ≤ 9223372036854775807) (h : may l = b) : nat_May.f l = some b := by rw [may_f hl, h]

/-! ### the longest rows -/
theorem w64z {z : Int} (h : -4611686018427387904 ≤ z ∧ z ≤ 4611686018427387904) : wrap64 z = z := by unfold wrap64; omega
theorem ones_val (n : Nat) : val (List.replicate n 4294967295) + 1 = B ^ n := by
  induction n with
  | zero => rfl
  | succ n ih =>
    rw [List.replicate_succ']
    rw [val_snoc, List.length_replicate, Nat.pow_succ]
    have : (4294967295 : Int).toNat = 4294967295 := rfl
    rw [this]
    have hB : B = 4294967296 := rfl
    rw [hB] at ih ⊢
    generalize 4294967296 ^ n = p at ih ⊢
    omega
theorem ones_ok (n : Nat) : ok (List.replicate n 4294967295) = true := by
  rw [ok, List.all_eq_true]
  intro x hx
  rw [List.eq_of_mem_replicate hx]; rfl
theorem ones_may {n : Nat} (h : n ≤ 65536) : may (List.replicate n 4294967295) = true := by
  refine may_iff.2 ⟨by rw [List.length_replicate]; exact h, fun x hx => ?_⟩
  have := List.eq_of_mem_replicate (List.mem_of_getLast? hx)
  rw [this]; decide
theorem pow_length (m : Nat) : (toL (B ^ m)).length = m + 1 := by
  refine Nat.le_antisymm (toL_length_le.2 (Nat.pow_lt_pow_right (by decide) (Nat.lt_succ_self m))) ?_
  rcases Nat.lt_or_ge m (toL (B ^ m)).length with h | h
  · exact h
  · exact absurd (toL_length_le.1 h) (Nat.lt_irrefl _)
theorem shl_one {K : Nat} (h : K ≤ 2097152) : nat_Shl.f [1] (K : Int) = some (fit (2 ^ K)) := by
  rw [shl_f (by decide) (by omega)]
  unfold shlS
  rw [if_pos (by simp only [Bool.and_eq_true, decide_eq_true_eq]; exact ⟨⟨⟨by decide, by decide⟩, by omega⟩, by omega⟩), Int.toNat_natCast]
  rw [show val [1] = 1 from rfl, Nat.one_mul]
theorem shl_one_long {K m : Nat} (hm : m = 65535) (h : K = 32 * m + 31) : ∃ l : List Int, nat_Shl.f [1] (K : Int) = some l ∧ l.length = m + 1 := by
  refine ⟨_, shl_one (by omega), ?_⟩
  have hlt0 : 2 ^ K < B ^ (m + 1) := by rw [pow_B]; exact Nat.pow_lt_pow_right (by decide) (by omega)
  have hlt : 2 ^ K < B ^ most := by
    have : most = m + 1 := by rw [most_eq]; omega
    rw [this]; exact hlt0
  rw [fit_lt hlt]
  refine Nat.le_antisymm (toL_length_le.2 hlt0) ?_
  rcases Nat.lt_or_ge m (toL (2 ^ K)).length with h1 | h1
  · exact h1
  · have h2 := toL_length_le.1 h1
    rw [pow_B] at h2
    exact absurd ((Nat.pow_lt_pow_iff_right (by decide)).1 h2) (by omega)
theorem shl_one_none {K : Nat} (h : K = 32 * 65536) : nat_Shl.f [1] (K : Int) = some [] := by
  rw [shl_one (by omega), fit_ge]
  have : 32 * most = K := by rw [most_eq, h]
  rw [pow_B, this]
  exact Nat.lt_irrefl _
theorem tail_l0 {X : List Int} {n : Nat} (hn : n = 65536) (hX : X = List.replicate n 4294967295) : Tells (fun k => alidadelaw01_NatNames.l0 k X 65536) true := by
  have hm : n = most := hn
  have hl : X.length = n := by rw [hX, List.length_replicate]
  have oX : ok X = true := by rw [hX]; exact ones_ok n
  have mX : may X = true := by rw [hX]; exact ones_may (by omega)
  have vX : val X + 1 = B ^ n := by rw [hX]; exact ones_val n
  have m1 : may [1] = true := by decide
  have o1 : ok [1] = true := by decide
  obtain ⟨m, hm1⟩ : ∃ m, m = 65535 := ⟨_, rfl⟩
  have htake : X.take 65535 = List.replicate m 4294967295 := by rw [hX, List.take_replicate, ← hm1]; congr 1; omega
  obtain ⟨K, hK⟩ : ∃ K, K = 32 * m + 31 := ⟨_, rfl⟩
  obtain ⟨J, hJ⟩ : ∃ J, J = 32 * 65536 := ⟨_, rfl⟩
  have hK2 : ((2097151 : Int)) = ((K : Nat) : Int) := by omega
  have hJ2 : ((2097152 : Int)) = ((J : Nat) : Int) := by omega
  have hfull : X.take 65536 = X := List.take_of_length_le (by omega)
  have hlong : may (X ++ [1]) = false := by
    unfold may
    rw [decide_eq_false (by rw [List.length_append, List.length_singleton]; omega)]; rfl
  have hadd : nat_Add.f X [1] = some [] := by
    rw [add_f oX o1, addS_of mX m1, show val [1] = 1 from rfl, vX, fit_ge (by rw [hm]; exact Nat.lt_irrefl _)]
  have hadd2 : nat_Add.f (X.take 65535) [1] = some (toL (B ^ m)) := by
    rw [htake, add_f (ones_ok m) o1, addS_of (ones_may (by omega)) m1, show val [1] = 1 from rfl, ones_val, fit_lt (Nat.pow_lt_pow_right (by decide) (by rw [most_eq]; omega))]
  have hshl : nat_Shl.f X 1 = some [] := by
    rw [shl_f oX (by decide)]
    unfold shlS
    rw [if_pos (by simp only [Bool.and_eq_true, decide_eq_true_eq]; exact ⟨⟨⟨mX, fun e => by rw [e] at hl; simp at hl; omega⟩, by decide⟩, by decide⟩), fit_ge]
    rw [← hm, ← vX]
    have : 1 ≤ val X := by
      have h1 : B ^ 1 ≤ B ^ n := Nat.pow_le_pow_right (by decide) (by omega)
      rw [← vX, Nat.pow_one] at h1
      have hB : B = 4294967296 := rfl
      omega
    have h2 : (2 : Nat) ^ (1 : Int).toNat = 2 := rfl
    rw [h2]; omega
  obtain ⟨L, hL1, hL2⟩ := shl_one_long hm1 hK
  refine Tells.step (fun k => (by rw [alidadelaw01_NatNames.l0])) ?_
  refine ino (by decide) (bc (mayL (by omega) mX) (ip rfl (ip (by omega) ?_)))
  refine bc rfl (ip (by rw [hfull]; omega) ?_)
  refine bc (mayL (b := false) (by rw [List.length_append, hfull, List.length_singleton]; omega) (by rw [hfull]; exact hlong)) (ino (by decide) ?_)
  refine bc rfl (bc hadd (ip rfl (ip (by omega) ?_)))
  refine bc rfl (bc hadd2 (ip (by rw [pow_length]; omega) ?_))
  refine bc hshl (ip rfl ?_)
  refine bc rfl ?_
  rw [hK2, hJ2]
  refine bc hL1 (ip (by rw [hL2]; omega) ?_)
  exact bc rfl (bc (shl_one_none hJ) (Tells.const _))
theorem long_l0 (d : Nat) : ∀ i : Nat, i + d = 65536 → Tells (fun k => alidadelaw01_NatNames.l0 k (List.replicate i 4294967295 ++ List.replicate d 0) (i : Int)) true := by
  induction d with
  | zero =>
    intro i hi
    have hi2 : i = 65536 := by omega
    have := tail_l0 (X := List.replicate i 4294967295 ++ List.replicate 0 0) hi2 (by rw [List.replicate_zero, List.append_nil])
    have e : (65536 : Int) = (i : Int) := by omega
    rw [e] at this
    exact this
  | succ d ih =>
    intro i hi
    have h1 := ih (i + 1) (by omega)
    refine Tells.step (fun k => (by rw [alidadelaw01_NatNames.l0])) ?_
    refine ip (by omega) (ip (by omega) (ip (by rw [List.length_append, List.length_replicate, List.length_replicate]; omega) ?_))
    have hw : wrap64 ((i : Int) + 1) = ((i + 1 : Nat) : Int) := by rw [w64z (by omega)]; omega
    rw [hw, Int.toNat_natCast]
    have hs : (List.replicate i (4294967295 : Int) ++ List.replicate (d + 1) 0).set i 4294967295 = List.replicate (i + 1) 4294967295 ++ List.replicate d 0 := by
      rw [List.set_append_right _ _ (by rw [List.length_replicate]; exact Nat.le_refl _), List.length_replicate, Nat.sub_self, List.replicate_succ, List.set_cons_zero, List.replicate_succ', List.append_assoc]; rfl
    rw [hs]
    exact h1
theorem j2_tells : Tells (fun k => alidadelaw01_NatNames.j2 k false) true := by
  refine Tells.step (fun k => (by rw [alidadelaw01_NatNames.j2])) ?_
  refine ino (by decide) (ip (by decide) ?_)
  have := long_l0 65536 0 (by omega)
  rw [List.replicate_zero, List.nil_append] at this
  exact this
theorem j1_tells : Tells (fun k => alidadelaw01_NatNames.j1 k false) true := by
  refine Tells.step (fun k => (by rw [alidadelaw01_NatNames.j1])) ?_
  refine ino (by decide) (bc (bitsL (n := 0) rfl (by decide)) (ip rfl ?_))
  refine bc rfl (bc (bitsL (n := 33) (by decide) (by decide)) (ip rfl ?_))
  refine bc rfl (bc (bitsL (n := 32) (by decide) (by decide)) (ip rfl ?_))
  refine bc rfl (bc (bitL (j := 32) (b := true) (by decide) (by decide) (by decide)) (ip rfl ?_))
  refine bc rfl (bc (bitL (j := 31) (b := false) (by decide) (by decide) (by decide)) (ino (by decide) ?_))
  refine bc rfl (bc (a := false) (by unfold nat_Bit.f; rw [mayL (b := true) (by decide) (by decide), Option.bind_some, if_pos rfl, if_neg (by decide)]) (ino (by decide) ?_))
  refine bc rfl (bc (bitL (j := 32) (b := false) (by decide) (by decide) (by decide)) (ino (by decide) ?_))
  refine bc rfl (bc (shlB (by decide) (by decide) (by decide)) ?_)
  refine bc rfl (bc (shrB (by decide) (by decide) (by decide)) ?_)
  refine bc rfl (bc (shrL (c := []) (by decide) (by decide) (by decide) (by decide) (by decide)) ?_)
  refine bc rfl (bc (shrB (by decide) (by decide) (by decide)) ?_)
  refine bc (shlB (by decide) (by decide) (by decide)) (ip (by decide +kernel) ?_)
  refine bc rfl (bc (shlL (c := [4294967280, 15]) (by decide) (by decide) (by decide) (by decide) (by decide)) (bc rfl (bk (sameL (by decide)) (ip rfl ?_))))
  refine bc rfl (bc (shrL (c := [4294967295, 268435455]) (by decide) (by decide) (by decide) (by decide) (by decide)) (bc rfl (bk (sameL (by decide)) (ip rfl ?_))))
  refine bc rfl (bc (shlL (c := [0, 0, 3]) (by decide) (by decide) (by decide) (by decide) (by decide)) (bc rfl (bk (sameL (by decide)) (ip rfl ?_))))
  refine bc rfl (bc (shrL (c := [2, 3]) (by decide) (by decide) (by decide) (by decide) (by decide)) (bc rfl (bk (sameL (by decide)) ?_)))
  exact j2_tells
theorem j0_tells : Tells (fun k => alidadelaw01_NatNames.j0 k false) true := by
  refine Tells.step (fun k => (by rw [alidadelaw01_NatNames.j0])) ?_
  refine ino (by decide) (bc rfl (bk (lowL (r := (0, false)) (by decide) (by decide) (by decide)) ?_))
  refine bc (subB (by decide) rfl (by decide)) (bc rfl (bc (subB (by decide) (by decide) (by decide)) ?_))
  refine ino (by decide) (ino (by decide) (ino (by decide) ?_))
  refine bc rfl (bc (addB (by decide) (by decide) (by decide)) (bc rfl (bc (addB (by decide) (by decide) (by decide)) ?_)))
  refine bc (shlB (by decide) (by decide) (by decide)) (bc (shrB (by decide) (by decide) (by decide)) (ip (by decide +kernel) ?_))
  refine bc (bitsL (n := 0) (by decide) (by decide)) (ip rfl (bc (a := false) (by unfold nat_Bit.f; rw [mayL (b := false) (by decide) (by decide), Option.bind_some, if_neg (by decide)]) (ino (by decide) ?_)))
  refine bc (cmpL (n := 0) (by decide) rfl (by decide)) (ip rfl (bc rfl (bc (mayL (b := false) (by decide) (by decide)) ?_)))
  exact j1_tells
theorem NatNames : alidadelaw01_NatNames.Pure := by
  refine Tells.ex (f := fun k => alidadelaw01_NatNames.f k) ?_
  unfold alidadelaw01_NatNames.f
  refine bk (n := 4) (fun k hk => awake_f hk) (ip rfl ?_)
  refine bc rfl (bk (lowL (r := (18446744073709551615, true)) (by decide) (by decide) (by decide)) ?_)
  refine bc rfl (bk (lowL (r := (0, false)) (by decide) (by decide) (by decide)) ?_)
  refine bk (lowL (r := (0, true)) rfl (by decide) (by decide)) ?_
  refine bc rfl (bc rfl (bc (subL (c := [4294967295, 4294967295]) (by decide) (by decide) (by decide) (by decide) (by decide)) ?_))
  refine bc rfl (bc rfl (bc (subB (by decide) (by decide) (by decide)) ?_))
  refine bc rfl (bc rfl (bc (subL (c := []) (by decide) (by decide) (by decide) (by decide) (by decide)) ?_))
  refine ip rfl (ip rfl (ino (by decide) (ip rfl (ip rfl (ip rfl ?_)))))
  refine bc rfl (bk (sameL (by decide)) (ip rfl (ino (by decide) (ip rfl (ip rfl ?_)))))
  refine bc rfl (bc rfl (bc (addL (c := [0, 0, 0, 1]) (by decide) (by decide) (by decide) (by decide)) (bc rfl (bk (sameL (by decide)) (ip rfl ?_)))))
  refine bk (n := 3) (a := [4294967295, 4294967295]) (fun k hk => by rw [of_f hk (by decide) (by decide), toL_eq (l := [4294967295, 4294967295]) (by decide) (by decide) (by decide)]) (bc rfl (bk (sameL (by decide)) (ip rfl ?_)))
  refine bc rfl (bc rfl (bc (cmpL (n := 1) (by decide) (by decide) (by decide)) (ip rfl ?_)))
  refine bc rfl (bc rfl (bc (cmpL (n := 1) (by decide) (by decide) (by decide)) (ip rfl ?_)))
  refine bc rfl (bc (cmpL (n := -1) rfl (by decide) (by decide)) (ip rfl ?_))
  refine bc (cmpL (n := 0) rfl rfl (by decide)) ?_
  exact j0_tells
end Go.Proofs.Ythdhpihfbggbbaa.Pure
