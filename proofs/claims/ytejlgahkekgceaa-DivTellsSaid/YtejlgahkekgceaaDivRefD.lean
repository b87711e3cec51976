/- Plain numbers: the reference's DivMod and Small. -/
import Derived.Test.YtejlgahkekgceaaGDivShifttoDivRefB
import Derived.Test.YtejlgahkekgceaaDivRefC
import Derived.Test.YtejlgahkekgceaaDivNum
import Derived.Test.YtejlgahkekgceaaPDivx31
import Derived.Test.YtejlgahkekgceaaPDivx32
namespace Go.Proofs.Ytejlgahkekgceaa.Pure
open Go.RowKit Go.Proofs.Ytejlgahkekgceaa.PDiv Go.Proofs.YtejlgahkekgceaaW.PrintWords Go.Proofs.YtejlgahkekgceaaW.PrintLast Go.Proofs.YtejlgahkekgceaaW.PrintMore Go.Proofs.YtejlgahkekgceaaV

theorem w64d {z : Int} (h : -4611686018427387904 ≤ z ∧ z ≤ 4611686018427387904) : wrap64 z = z := by unfold wrap64; omega
theorem rdtrim_go (q r : List Int) (hm : q.length ≤ 4611686018427387904) : ∀ (n k : Nat), n ≤ q.length → n < k → alidaderef03_DivMod.l1 k q r (n : Int) = some (strip (q.take n), r, 0) := by
  intro n
  induction n with
  | zero =>
    intro k hn hk
    obtain ⟨k, rfl⟩ : ∃ m, k = m + 1 := ⟨k - 1, by omega⟩
    simp only [alidaderef03_DivMod.l1]
    rw [if_neg (by decide), if_pos (by decide), if_pos (by omega)]; rfl
  | succ n ih =>
    intro k hn hk
    obtain ⟨k, rfl⟩ : ∃ m, k = m + 1 := ⟨k - 1, by omega⟩
    have hw : wrap64 (((n + 1 : Nat) : Int) - 1) = (n : Int) := by rw [w64d (by omega)]; omega
    have hlt : n < q.length := by omega
    have hrd : rd q (n : Int) = q[n] := by unfold rd; rw [Int.toNat_natCast, List.getD_eq_getElem?_getD, List.getElem?_eq_getElem hlt]; rfl
    simp only [alidaderef03_DivMod.l1]
    rw [if_pos (by omega), hw, if_pos (by omega), if_pos (by omega), hrd, List.take_succ_eq_append_getElem hlt]
    by_cases hz : q[n] = 0
    · rw [if_pos hz, ih k (by omega) (by omega), hz, strip_snoc_zero]
    · rw [if_neg hz, if_pos (by omega), if_pos (by omega), strip_snoc hz, Int.toNat_natCast, List.take_succ_eq_append_getElem hlt]
theorem shl_one {s : Nat} (hs : s < 32) : shl .u32 1 (s : Int) = ((2 ^ s : Nat) : Int) := by
  have h1 : 2 ^ s < 4294967296 := by
    have := Nat.pow_lt_pow_right (a := 2) (by decide) hs
    exact this
  unfold shl
  rw [Int.toNat_natCast, Nat.min_eq_left (show s ≤ IntKind.u32.bits from Nat.le_of_lt hs), Int.one_mul]
  rw [show (2 : Int) ^ s = ((2 ^ s : Nat) : Int) by simp]
  exact wraps_u32n _ (Int.natCast_nonneg _) (by omega)
theorem limb_room {q : List Int} {j s : Nat} (oq : ok q = true) (hj : j < q.length) (hs : s < 32) (hm : val q % 2 ^ (32 * j + s + 1) = 0) : (q.getD j 0).toNat + 2 ^ s < 4294967296 := by
  have ho := ok_get oq j
  have e0 : (q.getD j 0).toNat = val q / B ^ j % B := by
    rw [← val_drop oq j (by omega), List.drop_eq_getElem_cons hj, List.getD_eq_getElem?_getD, List.getElem?_eq_getElem hj]
    have := (ok_get oq j)
    rw [List.getD_eq_getElem?_getD, List.getElem?_eq_getElem hj] at this
    simp only [val, Option.getD_some] at this ⊢
    rw [Nat.add_mul_mod_self_left, Nat.mod_eq_of_lt (by unfold B; omega)]
  obtain ⟨m, hv⟩ : ∃ m, val q = 2 ^ (32 * j + s + 1) * m := ⟨val q / 2 ^ (32 * j + s + 1), by have := Nat.div_add_mod (val q) (2 ^ (32 * j + s + 1)); omega⟩
  have e1 : val q / B ^ j = 2 ^ (s + 1) * m := by
    rw [hv, pow_B, show 32 * j + s + 1 = 32 * j + (s + 1) by omega, Nat.pow_add, Nat.mul_assoc, Nat.mul_div_cancel_left _ (Nat.two_pow_pos _)]
  have e2 : B = 2 ^ (s + 1) * 2 ^ (31 - s) := by rw [← Nat.pow_add, show s + 1 + (31 - s) = 32 by omega]
  rw [e1, e2, Nat.mul_mod_mul_left] at e0
  have h3 : m % 2 ^ (31 - s) < 2 ^ (31 - s) := Nat.mod_lt _ (Nat.two_pow_pos _)
  have h4 : 2 ^ (s + 1) * (m % 2 ^ (31 - s) + 1) ≤ 2 ^ (s + 1) * 2 ^ (31 - s) := Nat.mul_le_mul_left _ h3
  rw [← e2, Nat.mul_add, Nat.mul_one, ← e0] at h4
  have h5 : 2 ^ (s + 1) = 2 * 2 ^ s := by rw [Nat.pow_succ, Nat.mul_comm]
  have h6 := Nat.two_pow_pos s
  have h7 : B = 4294967296 := rfl
  omega
theorem rdiv_go {x y S : Nat} (y0 : 0 < y) (xm : x < B ^ most) (hS : S ≤ 2097152) (hf : y * 2 ^ S < B ^ most) : ∀ (n k : Nat) (q : List Int) (r : Nat), n ≤ S + 1 → 5000000 + n < k → ok q = true → q.length = S / 32 + 1 → val q % 2 ^ n = 0 → r < y * 2 ^ n → val q * y + r = x → r ≤ x →
    alidaderef03_DivMod.l0 k (toL y) ((n : Int) - 1) q (toL r) = some (toL (x / y), toL (x % y), 0) := by
  have ym : y < B ^ most := Nat.lt_of_le_of_lt (Nat.le_mul_of_pos_right y (Nat.two_pow_pos S)) hf
  intro n
  induction n with
  | zero =>
    intro k q r hn hk oq hl hm hr hv hrx
    obtain ⟨k, rfl⟩ : ∃ m, k = m + 1 := ⟨k - 1, by omega⟩
    rw [Nat.pow_zero, Nat.mul_one] at hr
    have e1 : val q = x / y := by rw [← hv, Nat.mul_comm, Nat.mul_add_div y0, Nat.div_eq_of_lt hr]; rfl
    have e2 : r = x % y := by rw [← hv, Nat.mul_comm, Nat.mul_add_mod, Nat.mod_eq_of_lt hr]
    simp only [alidaderef03_DivMod.l0]
    rw [if_neg (by omega), rdtrim_go q (toL r) (by omega) q.length k (Nat.le_refl _) (by omega), List.take_length, strip_toL oq, e1, e2]
  | succ n ih =>
    intro k q r hn hk oq hl hm hr hv hrx
    obtain ⟨k, rfl⟩ : ∃ m, k = m + 1 := ⟨k - 1, by omega⟩
    have hpn := Nat.two_pow_pos n
    have hle : y * 2 ^ n ≤ y * 2 ^ S := Nat.mul_le_mul_left _ (Nat.pow_le_pow_right (by decide) (by omega))
    have hsh : alidaderef01_Shl.f k (toL y) (n : Int) = some (toL (y * 2 ^ n)) := by
      rw [rshl_f (toL_ok _) (toL_may ym) (by omega) (by omega), shlS_val (q := most) (toL_may ym) (by omega) (by rw [val_toL]; omega) (by rw [most_eq]; omega), val_toL]
    have hm0 : val q % 2 ^ n = 0 := by
      have h2 : 2 ^ (n + 1) = 2 ^ n * 2 := Nat.pow_succ ..
      rw [h2] at hm
      have h3 := Nat.mod_mul_right_mod (val q) (2 ^ n) 2
      rw [hm] at h3
      rw [← h3]; exact Nat.zero_mod _
    have hr2 : r < 2 * (y * 2 ^ n) := by rw [Nat.pow_succ] at hr; rw [← Nat.mul_assoc, Nat.mul_comm 2 y, Nat.mul_assoc, Nat.mul_comm 2]; exact hr
    have hw : wrap64 ((n : Int) - 1) = (n : Int) - 1 := w64d (by omega)
    simp only [alidaderef03_DivMod.l0]
    rw [show ((n + 1 : Nat) : Int) - 1 = (n : Int) by omega, if_pos (by omega), hsh, Option.bind_some, rsub_f (toL_ok _) (toL_ok _) (by omega), Option.bind_some, hw]
    unfold subS
    rw [toL_may (show r < B ^ most by omega), toL_may (show y * 2 ^ n < B ^ most by omega), val_toL, val_toL]
    by_cases h : y * 2 ^ n ≤ r
    · rw [decide_eq_true h]
      simp only [Bool.and_self, if_true]
      have e1 : wrap64 (Int.tdiv (n : Int) 32) = ((n / 32 : Nat) : Int) := by rw [Int.tdiv_eq_ediv_of_nonneg (by omega), w64d (by omega)]; omega
      have e2 : IntKind.u64.wrap (Int.tmod (n : Int) 32) = ((n % 32 : Nat) : Int) := by
        rw [Int.tmod_eq_emod_of_nonneg (by omega), show ((n : Int) % 32) = ((n % 32 : Nat) : Int) by omega]
        exact wraps_u64 _ (by omega) (by omega)
      have hj : n / 32 < q.length := by omega
      have hroom := limb_room (s := n % 32) oq hj (by omega) (by rw [show 32 * (n / 32) + n % 32 + 1 = n + 1 by omega]; exact hm)
      have hg := ok_get oq (n / 32)
      rw [e1, e2, if_pos (by omega), if_pos (by omega), if_pos (by omega), shl_one (by omega), Int.toNat_natCast]
      have e3 : (rd q ((n / 32 : Nat) : Int) + ((2 ^ (n % 32) : Nat) : Int)) % 4294967296 = (((q.getD (n / 32) 0).toNat + 2 ^ (n % 32) : Nat) : Int) := by
        have : rd q ((n / 32 : Nat) : Int) = q.getD (n / 32) 0 := by unfold rd; rw [Int.toNat_natCast]
        rw [this]
        generalize q.getD (n / 32) 0 = d at *
        generalize 2 ^ (n % 32) = e at *
        omega
      rw [e3]
      have hvs := dm_val_set q (n / 32) (((q.getD (n / 32) 0).toNat + 2 ^ (n % 32) : Nat) : Int) hj
      rw [Int.toNat_natCast, Nat.mul_add, pow_B, ← Nat.pow_add, show 32 * (n / 32) + n % 32 = n by omega] at hvs
      have hv2 : val (q.set (n / 32) (((q.getD (n / 32) 0).toNat + 2 ^ (n % 32) : Nat) : Int)) = val q + 2 ^ n := by omega
      refine ih k _ _ (by omega) (by omega) (dm_ok_set oq _ (by omega) (by omega)) (by rw [List.length_set]; exact hl) ?_ (by omega) ?_ (by omega)
      · rw [hv2, Nat.add_mod_right]; exact hm0
      · rw [hv2, Nat.add_mul, Nat.mul_comm (2 ^ n) y]; omega
    · rw [decide_eq_false h]
      simp only [Bool.and_false, Bool.false_eq_true, if_false]
      exact ih k q r (by omega) (by omega) oq hl hm0 (by omega) hv hrx
theorem blen_pow_le {n : Nat} (h : n ≠ 0) : 2 ^ (blen n - 1) ≤ n := by
  refine Nat.le_of_not_lt fun h2 => ?_
  have h3 := blen_le.2 h2
  have h4 : blen n ≠ 0 := fun e => h (by have := lt_blen n; rw [e] at this; omega)
  omega
theorem rdiv_f {k : Nat} {a b : List Int} (oa : ok a = true) (ob : ok b = true) (hk : 8000000 ≤ k) : alidaderef03_DivMod.f k a b = some (divS a b) := by
  obtain ⟨k, rfl⟩ : ∃ m, k = m + 2 := ⟨k - 2, by omega⟩
  have ht : alidaderef03_DivMod.j0 (k + 2) a b true = some ([], [], 4) := by simp only [alidaderef03_DivMod.j0, if_true]
  unfold alidaderef03_DivMod.f divS
  rw [rmay_f oa, Option.bind_some]
  cases ma : may a with
  | false => rw [if_neg (by decide), ht]; simp
  | true =>
    rw [if_pos rfl, rmay_f ob, Option.bind_some]
    cases mb : may b with
    | false => rw [Bool.not_false, ht]; simp
    | true =>
      have la := may_length ma
      have lb := may_length mb
      simp only [alidaderef03_DivMod.j0, Bool.not_true, Bool.and_self, Bool.false_eq_true, if_false, if_true]
      by_cases hb : b = []
      · rw [if_pos hb, if_pos (by rw [hb]; rfl)]
      · have hb0 : ¬ (b.length : Int) = 0 := fun e => hb (List.length_eq_zero_iff.1 (by omega))
        rw [if_neg hb, if_neg hb0]
        obtain ⟨x, hx, rfl⟩ := toN oa ma la
        obtain ⟨y, hy, rfl⟩ := toN ob mb lb
        have y0 : 0 < y := by
          have : y ≠ 0 := fun e => hb (toL_nil.2 e)
          omega
        rw [val_toL, val_toL]
        have xm : x < B ^ most := by rw [most_eq]; exact hx
        have ym : y < B ^ most := by rw [most_eq]; exact hy
        have hbig : alidaderef03_DivMod.j1 (k + 1) (toL x) (toL y) false = some (toL (x / y), toL (x % y), 0) := by
          have hmo := most_eq
          have bx : blen x ≤ 2097152 := by have : blen x ≤ 32 * most := blen_le.2 (by rw [← pow_B]; exact xm); omega
          have by_ : blen y ≤ 2097152 := by have : blen y ≤ 32 * most := blen_le.2 (by rw [← pow_B]; exact ym); omega
          have by1 : 1 ≤ blen y := by
            refine Nat.pos_of_ne_zero fun e => ?_
            have := lt_blen y; rw [e] at this; omega
          simp only [alidaderef03_DivMod.j1, Bool.false_eq_true, if_false]
          rw [rbits_f (toL_ok _) (by omega), Option.bind_some, rbits_f (toL_ok _) (by omega), Option.bind_some, ma, mb, if_pos rfl, if_pos rfl, val_toL, val_toL, w64d (z := (blen x : Int) - (blen y : Int)) (by omega)]
          by_cases h : (blen x : Int) - (blen y : Int) < 0
          · have hlt : x < y := by
              have h1 := lt_blen x
              have h2 := blen_pow_le (n := y) (by omega)
              have h3 : 2 ^ blen x ≤ 2 ^ (blen y - 1) := Nat.pow_le_pow_right (by decide) (by omega)
              omega
            rw [if_pos h, Option.bind_some, if_pos (by simp; omega), Nat.div_eq_of_lt hlt, Nat.mod_eq_of_lt hlt, toL_zero]; rfl
          · rw [if_neg h]
            obtain ⟨S, hS⟩ : ∃ S : Nat, (blen x : Int) - (blen y : Int) = (S : Int) := ⟨blen x - blen y, by omega⟩
            rw [hS]
            have e1 : wrap64 (wrap64 (Int.tdiv (S : Int) 32) + 1) = ((S / 32 + 1 : Nat) : Int) := by
              rw [Int.tdiv_eq_ediv_of_nonneg (by omega), w64d (z := (S : Int) / 32) (by omega), w64d (by omega)]; omega
            rw [e1, if_pos (by omega), Int.toNat_natCast, if_pos (by omega), Option.bind_some, if_pos (by simp; omega)]
            have hyS : y * 2 ^ S < 2 ^ blen x := by
              have h1 : y * 2 ^ S < 2 ^ blen y * 2 ^ S := (Nat.mul_lt_mul_right (Nat.two_pow_pos S)).2 (lt_blen y)
              rw [← Nat.pow_add, show blen y + S = blen x by omega] at h1
              exact h1
            have hfit : y * 2 ^ S < B ^ most := by
              refine Nat.lt_of_lt_of_le hyS ?_
              rw [pow_B]
              exact Nat.pow_le_pow_right (by decide) (by rw [most_eq]; omega)
            have hr0 : x < y * 2 ^ (S + 1) := by
              have h1 := lt_blen x
              have h2 := blen_pow_le (n := y) (by omega)
              have h3 : 2 ^ (blen y - 1) * 2 ^ (S + 1) ≤ y * 2 ^ (S + 1) := Nat.mul_le_mul_right _ h2
              rw [← Nat.pow_add, show blen y - 1 + (S + 1) = blen x by omega] at h3
              omega
            have := rdiv_go (x := x) (y := y) (S := S) y0 xm (by omega) hfit (S + 1) k (List.replicate (S / 32 + 1) 0) x (Nat.le_refl _) (by omega) (ok_zeros _) (by simp) (by rw [val_zeros]; exact Nat.zero_mod _) hr0 (by rw [val_zeros]; omega) (Nat.le_refl _)
            rw [show ((S + 1 : Nat) : Int) - 1 = (S : Int) by omega] at this
            exact this
        by_cases hx2 : ((toL x).length : Int) ≤ 2
        · rw [if_pos hx2]
          by_cases hy2 : ((toL y).length : Int) ≤ 2
          · rw [decide_eq_true hy2]
            simp only [alidaderef03_DivMod.j1, if_true]
            have lx : lowS (toL x) = ((x : Int), true) := by
              unfold lowS
              rw [ma, decide_eq_true (show (toL x).length ≤ 2 by omega), val_toL]; rfl
            have ly : lowS (toL y) = ((y : Int), true) := by
              unfold lowS
              rw [mb, decide_eq_true (show (toL y).length ≤ 2 by omega), val_toL]; rfl
            have xb : x < 18446744073709551616 := toL_length_le.1 (show (toL x).length ≤ 2 by omega)
            have yb : y < 18446744073709551616 := toL_length_le.1 (show (toL y).length ≤ 2 by omega)
            have e1 : IntKind.u64.wrap (Int.tdiv (x : Int) (y : Int)) = ((x / y : Nat) : Int) := by
              rw [Int.tdiv_eq_ediv_of_nonneg (by omega), ← Int.natCast_ediv]
              have := Nat.div_le_self x y
              obtain ⟨u, hu⟩ : ∃ u, x / y = u := ⟨_, rfl⟩
              rw [hu] at this ⊢
              exact wraps_u64 _ (by omega) (by omega)
            have e2 : Int.tmod (x : Int) (y : Int) = ((x % y : Nat) : Int) := by
              rw [Int.tmod_eq_emod_of_nonneg (by omega), ← Int.natCast_emod]
            have d1 := Nat.div_le_self x y
            have d2 := Nat.mod_le x y
            rw [rlow_f (toL_ok _) (by omega), Option.bind_some, rlow_f (toL_ok _) (by omega), Option.bind_some, lx, ly]
            simp only
            rw [if_neg (by omega), e1, e2]
            obtain ⟨u, hu⟩ : ∃ u, x / y = u := ⟨_, rfl⟩
            obtain ⟨v, hv⟩ : ∃ v, x % y = v := ⟨_, rfl⟩
            rw [hu] at d1 ⊢
            rw [hv] at d2 ⊢
            clear hu hv e1 e2
            rw [rof_f (by omega) (by omega) (by omega), Option.bind_some, rof_f (by omega) (by omega) (by omega), Option.bind_some, Int.toNat_natCast, Int.toNat_natCast]
          · rw [decide_eq_false hy2]; exact hbig
        · rw [if_neg hx2]; exact hbig
theorem rsmall_f {k x : Nat} {a : List Int} (oa : ok a = true) (hx : x < 4294967296) (hk : 8000000 ≤ k) : alidaderef03_Small.f k a (x : Int) = some (smS a x) := by
  unfold alidaderef03_Small.f
  rw [wraps_u64 _ (by omega) (by omega), rof_f (by omega) (by omega) (by omega), Option.bind_some, Int.toNat_natCast, rdiv_f oa (toL_ok _) hk, Option.bind_some]
  have hxm : x < B ^ 1 := by rw [Nat.pow_one]; exact hx
  have hxmay : may (toL x) = true := may_toL hxm (by omega)
  have hnil : lowS [] = (0, true) := by decide
  unfold divS smS
  rw [hxmay, Bool.and_true]
  cases ma : may a with
  | false =>
    rw [if_neg (by decide), if_neg (by decide)]
    simp only
    rw [rlow_f rfl (by omega), Option.bind_some, hnil]; rfl
  | true =>
    rw [if_pos rfl, if_pos rfl]
    by_cases h0 : x = 0
    · rw [if_pos (toL_nil.2 h0), if_pos h0]
      simp only
      rw [rlow_f rfl (by omega), Option.bind_some, hnil]; rfl
    · rw [if_neg (fun e => h0 (toL_nil.1 e)), if_neg h0, val_toL]
      simp only
      have hlt := Nat.mod_lt (val a) (show x > 0 by omega)
      have hl1 : (toL (val a % x)).length ≤ 1 := toL_length_le.2 (by rw [Nat.pow_one]; unfold B; omega)
      have hlow : lowS (toL (val a % x)) = (((val a % x : Nat) : Int), true) := by
        unfold lowS
        rw [may_iff.2 ⟨by omega, toL_norm _⟩, decide_eq_true (by omega), val_toL]; rfl
      rw [rlow_f (toL_ok _) (by omega), Option.bind_some, hlow]
      simp only
      congr 2
      congr 1
      omega

end Go.Proofs.Ytejlgahkekgceaa.Pure
