/- Texts of the seat Ytnngdlehakcdlaa that belong together, joined. -/
import Derived.Test.YtnngdlehakcdlaaMulPlain
import Derived.Test.YtnngdlehakcdlaaGPMulx28toPMulx35
import Derived.Test.YtnngdlehakcdlaaPMulx36
/- Plain numbers: the functions of mul at the limbs of naturals. -/
namespace Go.Proofs.Ytnngdlehakcdlaa.Pure
open Go.RowKit Go.Proofs.Ytnngdlehakcdlaa.PMul Go.Proofs.YtnngdlehakcdlaaW.PrintWords Go.Proofs.YtnngdlehakcdlaaW.PrintLast Go.Proofs.YtnngdlehakcdlaaV

theorem lt_most {x m : Nat} (h : x < B ^ m) (hm : m ≤ 65536) : x < B ^ most := Nat.lt_of_lt_of_le h (Nat.pow_le_pow_right (by decide) (by rw [most_eq]; exact hm))
theorem toL_may {x : Nat} (h : x < B ^ most) : may (toL x) = true := may_toL h (by rw [most_eq]; omega)
theorem toL_len {x : Nat} (h : x < B ^ most) : (toL x).length ≤ 65536 := may_length (toL_may h)
theorem toN {l : List Int} {m : Nat} (ho : ok l = true) (hm : may l = true) (hl : l.length ≤ m) : ∃ x, x < B ^ m ∧ l = toL x := ⟨val l, val_lt_of ho hl, (toL_of_may ho hm).symm⟩
theorem toL_inj {x y : Nat} : toL x = toL y ↔ x = y := ⟨fun h => by rw [← val_toL x, h, val_toL], fun h => by rw [h]⟩
theorem mulN {k x y : Nat} (hx : x < B ^ most) (hy : y < B ^ most) (h : x * y < B ^ most) (hk : 1000000 ≤ k) : mul_Mul.f k (toL x) (toL y) = some (toL (x * y)) := by
  have lx := toL_len hx
  have ly := toL_len hy
  rw [mul_f (toL_ok _) (toL_ok _) (by omega) (by omega) hk, mulS_of (toL_may hx) (toL_may hy), val_toL, val_toL, fit_lt h]
theorem squareN {k x : Nat} (hx : x < B ^ most) (h : x * x < B ^ most) (hk : 1000000 ≤ k) : mul_Square.f k (toL x) = some (toL (x * x)) := by
  have lx := toL_len hx
  rw [square_f (toL_ok _) (by omega) hk, mulS_of (toL_may hx) (toL_may hx), val_toL, fit_lt h]
theorem addN {x y : Nat} (hx : x < B ^ most) (hy : y < B ^ most) (h : x + y < B ^ most) : nat_Add.f (toL x) (toL y) = some (toL (x + y)) := by
  rw [add_f (toL_ok _) (toL_ok _), addS_of (toL_may hx) (toL_may hy), val_toL, val_toL, fit_lt h]
theorem smallN {k w c x : Nat} (hx : x < B ^ most) (hw : w < 4294967296) (hc : c < 4294967296) (h : x * w + c < B ^ most) (hk : 1000000 ≤ k) : mul_Small.f k (toL x) (w : Int) (c : Int) = some (toL (x * w + c)) := by
  have lx := toL_len hx
  rw [small_f (toL_ok _) (by omega) hw hc hk]; unfold smallS; rw [toL_may hx, if_pos rfl, val_toL, fit_lt h]
theorem powN {k x : Nat} {e : Nat} (hx : x < B ^ most) (he : e ≤ 1000) (h : x ^ e < B ^ most) (hk : 2000000 ≤ k) : mul_Pow.f k (toL x) (e : Int) = some (toL (x ^ e)) := by
  have lx := toL_len hx
  rw [pow_f (toL_ok _) (by omega) (by omega) (by omega)]
  unfold powS; rw [toL_may hx, decide_eq_true (show (0 : Int) ≤ (e : Int) by omega)]
  simp only [Bool.and_self, if_true]
  rw [val_toL, Int.toNat_natCast, fit_lt h]
theorem sameN {k x y : Nat} (hx : x < B ^ most) (hk : 1000000 ≤ k) : alidadelaw02_same.f k (toL x) (toL y) = some (decide (x = y)) := by
  have lx := toL_len hx
  rw [same_f (by omega) (by omega)]
  by_cases h : x = y
  · subst h; simp
  · rw [decide_eq_false h, decide_eq_false (fun e => h (toL_inj.1 e))]
theorem sameT {k x y : Nat} (e : x = y) (hx : x < B ^ most) (hk : 1000000 ≤ k) : alidadelaw02_same.f k (toL x) (toL y) = some true := by
  rw [sameN hx hk, decide_eq_true e]
theorem ofN {k u : Nat} (hk : 3 ≤ k) (h : u < 18446744073709551616) : nat_Of.f k (u : Int) = some (toL u) := by
  rw [of_f hk (by omega) (by omega), Int.toNat_natCast]
theorem toL_len0 {x : Nat} : ((toL x).length : Int) = 0 ↔ x = 0 := by
  constructor
  · intro h
    have h1 : toL x = [] := List.length_eq_zero_iff.1 (by omega)
    rw [← val_toL x, h1]; rfl
  · rintro rfl; rw [toL_zero]; rfl
theorem rdL {xs : List (List Int)} {i : Nat} (h : i < xs.length) : rd_L1 xs (i : Int) = xs[i] := by
  unfold rd_L1
  rw [Int.toNat_natCast, List.getD_eq_getElem?_getD, List.getElem?_eq_getElem h]; rfl
theorem lmay_go (xs : List (List Int)) (hx : xs.length ≤ 1000) (hm : ∀ x ∈ xs, x.length ≤ 9223372036854775807) (d : Nat) : ∀ (i k : Nat), i + d = xs.length → d < k → alidadelaw02_may.l0 k xs (i : Int) = some ((xs.drop i).all may) := by
  induction d with
  | zero =>
    intro i k hi hk
    obtain ⟨k, rfl⟩ : ∃ m, k = m + 1 := ⟨k - 1, by omega⟩
    simp only [alidadelaw02_may.l0]
    rw [if_neg (by omega), List.drop_of_length_le (by omega)]; rfl
  | succ d ih =>
    intro i k hi hk
    obtain ⟨k, rfl⟩ : ∃ m, k = m + 1 := ⟨k - 1, by omega⟩
    have h1 : i < xs.length := by omega
    simp only [alidadelaw02_may.l0]
    rw [if_pos (by omega), if_pos (by omega), rdL h1, may_f (hm _ (List.getElem_mem h1)), Option.bind_some, w64s (by omega), ih (i + 1) k (by omega) (by omega), List.drop_eq_getElem_cons h1, List.all_cons]
    cases may xs[i] <;> simp
theorem lmay_f {k : Nat} (xs : List (List Int)) (hx : xs.length ≤ 1000) (hm : ∀ x ∈ xs, x.length ≤ 9223372036854775807) (hk : xs.length < k) : alidadelaw02_may.f k xs = some (xs.all may) := lmay_go xs hx hm xs.length 0 k (by omega) hk
theorem one_lt : (1 : Nat) < B ^ most := lt_most (m := 1) (by decide) (by omega)
theorem zero_lt : (0 : Nat) < B ^ most := Nat.lt_trans (by decide) one_lt
theorem toL_one : toL 1 = [1] := toL_eq (by decide) (by decide) (by decide)
theorem pow_lt_pow {x m : Nat} (hx : x < B ^ m) (e : Nat) : x ^ e < B ^ (m * e) ∨ e = 0 := by
  by_cases h : e = 0
  · exact .inr h
  · exact .inl (by rw [Nat.pow_mul]; exact Nat.pow_lt_pow_left hx h)
theorem u32_of_wf' {x : Int} (h : (Lit.int .u32 x).wf = true) : 0 ≤ x ∧ x < 4294967296 := by
  simp only [Lit.wf, IntKind.min, IntKind.max, IntKind.signed, IntKind.bits, Bool.and_eq_true] at h
  simp at h
  omega
end Go.Proofs.Ytnngdlehakcdlaa.Pure

/- Powers of sums of exponents, of products, of 2; a product with a limb. -/
namespace Go.Proofs.Ytnngdlehakcdlaa.Pure
open Go.RowKit Go.Proofs.Ytnngdlehakcdlaa.PMul Go.Proofs.YtnngdlehakcdlaaW.PrintWords Go.Proofs.YtnngdlehakcdlaaW.PrintLast Go.Proofs.YtnngdlehakcdlaaV

theorem w64z {z : Int} (h : -4611686018427387904 ≤ z ∧ z ≤ 4611686018427387904) : wrap64 z = z := by unfold wrap64; omega
theorem shlN {x e : Nat} (hx : x < B ^ most) (he : e ≤ 2097152) (h : x * 2 ^ e < B ^ most) : nat_Shl.f (toL x) (e : Int) = some (toL (x * 2 ^ e)) := by
  unfold nat_Shl.f
  rw [if_pos ⟨toL_ok _, by omega⟩]
  unfold shlS
  rw [toL_may hx, decide_eq_true (show (0 : Int) ≤ (e : Int) by omega), decide_eq_true (show (e : Int) ≤ 2097152 by omega)]
  by_cases h0 : x = 0
  · subst h0; rw [toL_zero, Nat.zero_mul, toL_zero]; rfl
  · have : toL x ≠ [] := fun e => h0 (by rw [← val_toL x, e]; rfl)
    rw [decide_eq_true this, Int.toNat_natCast, val_toL, fit_lt h]; rfl
theorem fifth (a : Int) : ∃ j : Nat, j < 5 ∧ wrap64 (Int.tmod (IntKind.u64.wrap a) 5) = (j : Int) := by
  have h : 0 ≤ IntKind.u64.wrap a := by
    simp only [IntKind.wrap, IntKind.bits, IntKind.signed]
    simp
    omega
  refine ⟨(IntKind.u64.wrap a % 5).toNat, by omega, ?_⟩
  rw [Int.tmod_eq_emod_of_nonneg h]
  generalize IntKind.u64.wrap a = z at *
  unfold wrap64; omega
theorem pow_most {x m e : Nat} (hx : x < B ^ m) (h : m * e ≤ 65536) : x ^ e < B ^ most := by
  rcases pow_lt_pow hx e with h2 | rfl
  · exact lt_most h2 h
  · rw [Nat.pow_zero]; exact one_lt
theorem pow_most' {x m e : Nat} (hx : x < B ^ m) (hm : m ≤ 1400) (he : e ≤ 40) : x ^ e < B ^ most := pow_most hx (by have := Nat.mul_le_mul hm he; omega)
theorem mulPowers_nums {L k x y j e w c : Nat} {a2 a3 : Int} (hk : 4000000 ≤ k) (hL : L ≤ 700) (hx : x < B ^ L) (hy : y < B ^ L) (hj : j < 5) (he : e < 5) (h2 : Aside0 (wrap64 (Int.tmod (IntKind.u64.wrap a2) 5) = (j : Int))) (h3 : Aside0 (wrap64 (Int.tmod (IntKind.u64.wrap a3) 5) = (e : Int))) (hw : w < 4294967296) (hc : c < 4294967296) : alidadelaw02_MulPowers.j0 k (toL x) (toL y) a2 a3 (w : Int) (c : Int) false = some true := by
  obtain ⟨k, rfl⟩ : ∃ m, k = m + 2 := ⟨k - 2, by omega⟩
  have hxy := mul_lt_pow hx hy
  have bx := lt_most hx (by omega)
  have b_y := lt_most hy (by omega)
  have bxy := lt_most hxy (by omega)
  have q1 : Aside0 (wrap64 ((j : Int) + (e : Int)) = ((j + e : Nat) : Int)) := ⟨by rw [w64z (by omega)]; omega⟩
  have q2 : Aside0 (wrap64 (wrap64 (33 * (e : Int)) + (j : Int)) = ((33 * e + j : Nat) : Int)) := ⟨by rw [w64z (z := 33 * (e : Int)) (by omega), w64z (by omega)]; omega⟩
  have e1 : x ^ (j + e) = x ^ j * x ^ e := Nat.pow_add _ _ _
  have e2 : (x * y) ^ e = x ^ e * y ^ e := Nat.mul_pow _ _ _
  have p1 : x ^ (j + e) < B ^ most := pow_most' hx (by omega) (by omega)
  have p2 : x ^ j < B ^ most := pow_most' hx (by omega) (by omega)
  have p3 : x ^ e < B ^ most := pow_most' hx (by omega) (by omega)
  have p4 : y ^ e < B ^ most := pow_most' hy (by omega) (by omega)
  have p5 : (x * y) ^ e < B ^ most := pow_most' hxy (by omega) (by omega)
  have p6 : 2 ^ (33 * e + j) < B ^ most := pow_most (x := 2) (m := 1) (by decide) (by omega)
  have p7 : (2 : Nat) < B ^ most := lt_most (m := 1) (by decide) (by omega)
  have pw1 : w < B ^ 1 := by simp only [B]; omega
  have pc1 : c < B ^ 1 := by simp only [B]; omega
  have hxw := mul_lt_pow hx pw1
  have bxw := lt_most hxw (by omega)
  have pc2 : c < B ^ (L + 1) := Nat.lt_of_lt_of_le pc1 (Nat.pow_le_pow_right (by decide) (show 1 ≤ L + 1 by omega))
  have pxc := add_lt_pow hxw pc2
  have bxc : x * w + c < B ^ most := lt_most pxc (by omega)
  have bw : w < B ^ most := lt_most pw1 (by omega)
  have bc : c < B ^ most := lt_most pc1 (by omega)
  have hj1 : alidadelaw02_MulPowers.j1 (k + 1) (toL x) (j : Int) (e : Int) (w : Int) (c : Int) false = some true := by
    simp only [alidadelaw02_MulPowers.j1, Bool.false_eq_true, if_false]
    rw [q2.out, wrU (w : Int) (by omega) (by omega), wrU (c : Int) (by omega) (by omega)]
    rw [show (2 : Int) = ((2 : Nat) : Int) from rfl, ofN (by omega) (by omega), Option.bind_some, powN p7 (by omega) p6 (by omega), Option.bind_some, show (1 : Int) = ((1 : Nat) : Int) from rfl, ofN (by omega) (by omega), Option.bind_some, shlN one_lt (by omega) (by rw [Nat.one_mul]; exact p6), Option.bind_some, Nat.one_mul, sameT rfl p6 (by omega), Option.bind_some, if_pos rfl]
    rw [smallN bx hw hc bxc (by omega), Option.bind_some, ofN (by omega) (by omega), Option.bind_some, mulN bx bw bxw (by omega), Option.bind_some, ofN (by omega) (by omega), Option.bind_some, addN bxw bc bxc, Option.bind_some, sameT rfl bxc (by omega)]
    rfl
  simp only [alidadelaw02_MulPowers.j0, Bool.false_eq_true, if_false]
  rw [h2.out, h3.out, q1.out]
  rw [powN bx (by omega) p1 (by omega), Option.bind_some, powN bx (by omega) p2 (by omega), Option.bind_some, powN bx (by omega) p3 (by omega), Option.bind_some, mulN p2 p3 (by rw [← e1]; exact p1) (by omega), Option.bind_some, sameT e1 p1 (by omega), Option.bind_some, if_pos rfl]
  rw [mulN bx b_y bxy (by omega), Option.bind_some, powN bxy (by omega) p5 (by omega), Option.bind_some, Option.bind_some, powN b_y (by omega) p4 (by omega), Option.bind_some, mulN p3 p4 (by rw [← e2]; exact p5) (by omega), Option.bind_some, sameT e2 p5 (by omega), Option.bind_some]
  exact hj1
theorem MulPowers : alidadelaw02_MulPowers.Pure := by
  intro l0 l1 a2 a3 a4 a5 _ b0 w0 _ b1 w1 w2 w3 w4 w5
  have o0 := ok_of_wf w0
  have o1 := ok_of_wf w1
  have i4 := u32_of_wf' w4
  have i5 := u32_of_wf' w5
  obtain ⟨w, rfl⟩ := Int.eq_ofNat_of_zero_le i4.1
  obtain ⟨c, rfl⟩ := Int.eq_ofNat_of_zero_le i5.1
  obtain ⟨j, hj, hj0⟩ := fifth a2
  have hj2 := Aside0.mk hj0
  clear hj0
  obtain ⟨e, he, he0⟩ := fifth a3
  have he2 := Aside0.mk he0
  clear he0
  obtain ⟨k, hk⟩ : ∃ k, k = 4000000 := ⟨_, rfl⟩
  refine ⟨k + 1, ?_⟩
  have ht : alidadelaw02_MulPowers.j0 (k + 1) l0 l1 a2 a3 (w : Int) (c : Int) true = some true := by
    simp only [alidadelaw02_MulPowers.j0, if_true]
    rw [works_f (by omega)]; rfl
  obtain ⟨b, g1, g2⟩ := long_f [l0, l0, l0, l1, l1, l1] (by simp) (by intro x hx; simp at hx; rcases hx with rfl | rfl <;> omega) (k := k + 1) (by simp; omega)
  unfold alidadelaw02_MulPowers.f alidadelaw02_long_6.f alidadelaw02_may_2.f
  rw [works_f (by omega), Option.bind_some, if_pos rfl, g1, Option.bind_some]
  cases b with
  | true => rw [if_pos rfl, ht]
  | false =>
    have n0 : l0.length < 700 := g2 rfl 0 (by simp)
    have n1 : l1.length < 700 := g2 rfl 3 (by simp)
    rw [if_neg (by decide), lmay_f _ (by simp) (by intro x hx; simp at hx; rcases hx with rfl | rfl <;> omega) (by simp; omega), Option.bind_some]
    cases hm : [l0, l1].all may with
    | false => exact ht
    | true =>
      simp only [List.all_cons, List.all_nil, Bool.and_eq_true, Bool.and_true] at hm
      obtain ⟨L, hL⟩ : ∃ L, L = 700 := ⟨_, rfl⟩
      obtain ⟨x, hx, rfl⟩ := toN o0 hm.1 (show l0.length ≤ L by omega)
      obtain ⟨y, hy, rfl⟩ := toN o1 hm.2 (show l1.length ≤ L by omega)
      exact mulPowers_nums (by omega) (by omega) hx hy hj he hj2 he2 (by omega) (by omega)
end Go.Proofs.Ytnngdlehakcdlaa.Pure
