/- Texts of the seat Ytejlgahkekgceaa that belong together, joined. -/
import Derived.Test.YtejlgahkekgceaaDivRoot
import Derived.Test.YtejlgahkekgceaaPDivx24
import Derived.Test.YtejlgahkekgceaaGDivMultoDivNum
import Derived.Test.YtejlgahkekgceaaDivPlain
import Derived.Laws.BitsLemmas
import Derived.Test.YtejlgahkekgceaaPDivx47
/- Plain numbers: the named answers that every law of div asks for first. -/
namespace Go.Proofs.Ytejlgahkekgceaa.Pure
open Go.RowKit Go.Proofs.Ytejlgahkekgceaa.PDiv Go.Proofs.YtejlgahkekgceaaW.PrintWords Go.Proofs.YtejlgahkekgceaaW.PrintLast Go.Proofs.YtejlgahkekgceaaV

theorem start_le {a : Nat} : 2 ^ ((blen a + 1) / 2) ≤ 2 * a + 1 := by
  by_cases h0 : blen a = 0
  · rw [h0]; simp
  · have h1 : 2 ^ (blen a - 1) ≤ a := by
      refine Nat.le_of_not_lt fun h => ?_
      have := blen_le.2 h
      omega
    have h2 : 2 ^ ((blen a + 1) / 2) ≤ 2 ^ (blen a - 1 + 1) := Nat.pow_le_pow_right (by decide) (by omega)
    rw [Nat.pow_succ] at h2
    omega
theorem rootS {a k : Nat} (ha : a < B ^ most) (hk : 2 * a + 101 ≤ k) : div_Root.f k (toL a) = some (toL (rt a)) := root_f ha (by have := start_le (a := a); omega)
theorem lit {l : List Int} {n : Nat} (ho : ok l = true) (hm : may l = true) (h : val l = n) : l = toL n := (toL_eq ho hm h).symm
theorem big_most {x : Nat} (h : x < B ^ 8) : x < B ^ most := lt_most h (by omega)
theorem B8 : B ^ 8 = 115792089237316195423570985008687907853269984665640564039457584007913129639936 := by unfold B; rfl
theorem lt_big {x : Nat} (h : x < 115792089237316195423570985008687907853269984665640564039457584007913129639936) : x < B ^ most := big_most (by rw [B8]; exact h)
theorem partsT {k a b c d : Nat} (ha : a < B ^ most) (hb : b < B ^ most) (h0 : b ≠ 0) (h1 : a / b = c) (h2 : a % b = d) (hk : 1000000 ≤ k) : alidadelaw03_parts.f k (toL a) (toL b) (toL c) (toL d) = some true := by
  have m1 := Nat.lt_of_le_of_lt (Nat.div_le_self a b) ha
  have m2 := Nat.lt_of_le_of_lt (Nat.mod_le a b) ha
  unfold alidadelaw03_parts.f
  rw [divN ha hb h0, Option.bind_some]
  simp only [if_true]
  rw [sameT h1 m1 hk, Option.bind_some, if_pos rfl, sameT h2 m2 hk]; rfl
theorem awake_f {k : Nat} (hk : 2000000 ≤ k) : alidadelaw03_awake.f k = some true := by
  have L1 : ([1] : List Int) = toL 1 := lit rfl rfl rfl
  have L2 : ([2] : List Int) = toL 2 := lit rfl rfl rfl
  have L5 : ([5] : List Int) = toL 5 := lit rfl rfl rfl
  have L7 : ([7] : List Int) = toL 7 := lit rfl rfl rfl
  have L9 : ([9] : List Int) = toL 9 := lit rfl rfl rfl
  have L10 : ([10] : List Int) = toL 10 := lit rfl rfl rfl
  have L14 : ([14] : List Int) = toL 14 := lit rfl rfl rfl
  have L99 : ([99] : List Int) = toL 99 := lit rfl rfl rfl
  have L100 : ([100] : List Int) = toL 100 := lit rfl rfl rfl
  have LM : ([4294967295] : List Int) = toL 4294967295 := lit rfl rfl rfl
  have LT : ([429496729] : List Int) = toL 429496729 := lit rfl rfl rfl
  have L01 : ([0, 1] : List Int) = toL 4294967296 := lit rfl rfl rfl
  have L11 : ([1, 1] : List Int) = toL 4294967297 := lit rfl rfl rfl
  have L001 : ([0, 0, 1] : List Int) = toL 18446744073709551616 := lit rfl rfl rfl
  have D0 := divZ (x := 1) (lt_big (by omega))
  have S0 : div_Small.f k (toL 4294967296) 10 = some (toL 429496729, 6, 0) := smallN (x := 4294967296) (y := 10) (lt_big (by omega)) (by omega) (by omega) (by omega)
  have P1 := partsT (k := k) (a := 100) (b := 7) (c := 14) (d := 2) (lt_big (by omega)) (lt_big (by omega)) (by omega) (by omega) (by omega) (by omega)
  have P2 := partsT (k := k) (a := 18446744073709551616) (b := 4294967297) (c := 4294967295) (d := 1) (lt_big (by omega)) (lt_big (by omega)) (by omega) (by omega) (by omega) (by omega)
  have P3 := partsT (k := k) (a := 5) (b := 9) (c := 0) (d := 5) (lt_big (by omega)) (lt_big (by omega)) (by omega) (by omega) (by omega) (by omega)
  have R1 := rootS (k := k) (a := 99) (lt_big (by omega)) (by omega)
  have R2 := rootS (k := k) (a := 100) (lt_big (by omega)) (by omega)
  have R0 := rootS (k := k) (a := 0) (lt_big (by omega)) (by omega)
  rw [rt_eq (n := 99) (r := 9) (by omega) (by omega)] at R1
  rw [rt_eq (n := 100) (r := 10) (by omega) (by omega)] at R2
  rw [rt_eq (n := 0) (r := 0) (by omega) (by omega)] at R0
  rw [toL_zero] at P3 R0
  have E1 := sameT (k := k) (x := 9) (y := 9) rfl (lt_big (by omega)) (by omega)
  have E2 := sameT (k := k) (x := 10) (y := 10) rfl (lt_big (by omega)) (by omega)
  have E3 := sameT (k := k) (x := 429496729) (y := 429496729) rfl (lt_big (by omega)) (by omega)
  unfold alidadelaw03_awake.f alidadelaw03_of_1.f alidadelaw03_of_2.f alidadelaw03_of_3.f
  simp only [Option.bind_some]
  rw [L001, L01, L11, L1, L2, L5, L7, L9, L10, L14, L99, L100, LM, LT, D0, Option.bind_some, S0, Option.bind_some, P1, Option.bind_some, if_pos rfl, P2, Option.bind_some, if_pos rfl, P3, Option.bind_some, if_pos rfl]
  simp only [if_true]
  rw [R1, Option.bind_some, E1, Option.bind_some, if_pos rfl, R2, Option.bind_some, E2, Option.bind_some, if_pos rfl, R0, Option.bind_some, if_pos (show ((([] : List Int).length : Int) = 0) from rfl), E3, Option.bind_some, if_pos rfl]
  rfl

end Go.Proofs.Ytejlgahkekgceaa.Pure

/- Products of naturals. -/
namespace Go.Proofs.Ytejlgahkekgceaa.Pure
open Go.RowKit Go.Proofs.Ytejlgahkekgceaa.PDiv Go.Proofs.YtejlgahkekgceaaW.PrintWords Go.Proofs.YtejlgahkekgceaaW.PrintLast Go.Proofs.YtejlgahkekgceaaW.PrintMore Go.Proofs.YtejlgahkekgceaaV

theorem mulN {k x y : Nat} (hx : x < B ^ most) (hy : y < B ^ most) (h : x * y < B ^ most) (hk : 1000000 ≤ k) : mul_Mul.f k (toL x) (toL y) = some (toL (x * y)) := by
  have lx := toL_len hx
  have ly := toL_len hy
  rw [mul_f (toL_ok _) (toL_ok _) (by omega) (by omega) hk, mulS_of (toL_may hx) (toL_may hy), val_toL, val_toL, fit_lt h]

end Go.Proofs.Ytejlgahkekgceaa.Pure

/- Shifts by values. -/
namespace Go.Proofs.Ytejlgahkekgceaa.Pure
open Go.RowKit Go.Proofs.Ytejlgahkekgceaa.PDiv Go.Proofs.YtejlgahkekgceaaW.PrintWords Go.Proofs.YtejlgahkekgceaaW.PrintLast Go.Proofs.YtejlgahkekgceaaW.PrintMore Go.Proofs.YtejlgahkekgceaaV

theorem pow_B (j : Nat) : B ^ j = 2 ^ (32 * j) := by rw [Nat.pow_mul]
theorem two_pow_le (K : Nat) : 2 ^ K ≤ B ^ (K / 32 + 1) := by
  rw [pow_B]; exact Nat.pow_le_pow_right (by decide) (by omega)
theorem mul_pow_lt {v p K : Nat} (h : v < B ^ p) : v * 2 ^ K < B ^ (p + (K / 32 + 1)) := by
  rw [Nat.pow_add]
  exact Nat.mul_lt_mul_of_lt_of_le h (two_pow_le K) (Nat.pow_pos (by decide))
theorem shlS_val {a : List Int} {K q : Nat} (ma : may a = true) (hK : K ≤ 2097152) (h : val a * 2 ^ K < B ^ q) (hq : q ≤ 65536) : shlS a (K : Int) = toL (val a * 2 ^ K) := by
  by_cases ha : a = []
  · subst ha
    have : shlS [] (K : Int) = [] := by unfold shlS; rw [if_neg (by simp)]
    rw [this, show val [] = 0 from rfl, Nat.zero_mul, toL_zero]
  · unfold shlS
    rw [if_pos (by simp [ma, ha]; omega), Int.toNat_natCast, fit_small h hq]
/-- a natural of so many limbs at most (a word of its own: no power in sight) -/
def Sm (v p : Nat) : Prop := v < B ^ p
theorem Sm.mul {v p K : Nat} (h : Sm v p) : Sm (v * 2 ^ K) (p + (K / 32 + 1)) := mul_pow_lt h
theorem Sm.le {v u p : Nat} (h : Sm v p) (hu : u ≤ v) : Sm u p := Nat.lt_of_le_of_lt hu h
theorem Sm.may {v p : Nat} (h : Sm v p) (hp : p ≤ 65536) : may (toL v) = true := may_toL h hp
theorem Sm.length {v p : Nat} (h : Sm v p) : (toL v).length ≤ p := toL_length_le.2 h
theorem Sm.fit {v p : Nat} (h : Sm v p) (hp : p ≤ 65536) : fit v = toL v := fit_small h hp
theorem Sm.shl {a : List Int} {K q : Nat} (ma : Go.Proofs.YtejlgahkekgceaaV.may a = true) (h : Sm (val a * 2 ^ K) q) (hK : K ≤ 2097152) (hq : q ≤ 65536) : shlS a (K : Int) = toL (val a * 2 ^ K) := shlS_val ma hK h hq
theorem Sm.blen {v p : Nat} (h : Sm v p) : blen v ≤ 32 * p := blen_le.2 (by rw [← pow_B]; exact h)
end Go.Proofs.Ytejlgahkekgceaa.Pure

/- Bits of limbs. -/
namespace Go.Proofs.Ytejlgahkekgceaa.Pure
open Go.RowKit Go.Proofs.Ytejlgahkekgceaa.PDiv Go.Proofs.YtejlgahkekgceaaW.PrintWords Go.Proofs.YtejlgahkekgceaaW.PrintLast Go.Proofs.YtejlgahkekgceaaW.PrintMore Go.Proofs.YtejlgahkekgceaaV

theorem wraps_u32n (n : Int) (h0 : 0 ≤ n) (h1 : n < 2 ^ 32) : IntKind.u32.wrap n = n := by
  simp only [IntKind.wrap, IntKind.bits, IntKind.signed]; simp; omega
end Go.Proofs.Ytejlgahkekgceaa.Pure

namespace Go.Proofs.Ytejlgahkekgceaa.Pure
open Go.RowKit Go.Proofs.Ytejlgahkekgceaa.PDiv Go.Proofs.YtejlgahkekgceaaW.PrintWords Go.Proofs.YtejlgahkekgceaaW.PrintLast Go.Proofs.YtejlgahkekgceaaV

theorem odd_limb {x : Nat} (h : x < 4294967296) : ∃ u : Nat, Go.bits .or .u32 (x : Int) 1 = (u : Int) ∧ 0 < u ∧ u < 4294967296 := by
  have h1 := (bits_nat .u32 32 (by decide) wraps_u32n x 1 h (by decide)).2
  rw [show ((1 : Nat) : Int) = 1 from rfl] at h1
  refine ⟨x ||| 1, h1, ?_, ?_⟩
  · have := Nat.right_le_or (m := 1) (n := x); omega
  · exact Nat.or_lt_two_pow (n := 32) h (by decide)
theorem divTwice_main {x y z k p n : Nat} (hp : p ≤ 200) (hx : x < B ^ p) (hy : y < B ^ p) (hz : z < B ^ p) (y0 : y ≠ 0) (z0 : z ≠ 0) (hn : n ≤ 3000) (hk : 3000000 ≤ k) :
    alidadelaw03_DivTwice.j1 (k + 2) (toL x) (toL y) (toL z) (n : Int) false = some true := by
  have xm := lt_most hx (by omega)
  have ym := lt_most hy (by omega)
  have zm := lt_most hz (by omega)
  have hyz : y * z < B ^ (p + p) := mul_lt_pow hy hz
  have yzm := lt_most hyz (by omega)
  have yz0 : y * z ≠ 0 := Nat.mul_ne_zero y0 z0
  have hone : alidadelaw03_of_1.f 1 = some (toL 1) := by unfold alidadelaw03_of_1.f; rw [lit (l := [1]) (n := 1) rfl rfl rfl]
  have m1 : (1 : Nat) < B ^ most := lt_big (by omega)
  have h2n : 1 * 2 ^ n < B ^ most := by
    rw [Nat.one_mul, pow_32]
    exact Nat.pow_lt_pow_right (by decide) (by rw [most_eq]; omega)
  have hs := shlN (x := 1) (K := n) m1 (by omega) (by omega) h2n
  rw [Nat.one_mul] at hs h2n
  have p0 := Nat.two_pow_pos n
  have qm : x / y < B ^ most := Nat.lt_of_le_of_lt (Nat.div_le_self _ _) xm
  have hlen : ¬ ((toL y).length : Int) = 0 := fun e => y0 (toL_len0.1 e)
  have hlimb : ∃ l : Nat, rd (toL y) 0 = (l : Int) ∧ l < 4294967296 := by
    have := ok_get (toL_ok y) 0
    refine ⟨((toL y).getD 0 0).toNat, ?_, by omega⟩
    have e : rd (toL y) 0 = (toL y).getD 0 0 := rfl
    rw [e]; omega
  obtain ⟨l, hl, hl2⟩ := hlimb
  obtain ⟨u, hu, u0, u2⟩ := odd_limb hl2
  have hou : alidadelaw03_of_1.f (Go.bits .or .u32 (rd (toL y) 0) 1) = some (toL u) := by
    unfold alidadelaw03_of_1.f
    rw [hl, hu, lit (l := [(u : Int)]) (n := u) (by rw [ok_cons]; exact ⟨by omega, rfl⟩) (by rw [may_iff]; exact ⟨by simp, fun y hy => by simp at hy; omega⟩) (by simp [val])]
  have um : u < B ^ most := lt_big (by omega)
  have hmod : x % u < 4294967296 := Nat.lt_trans (Nat.mod_lt _ u0) u2
  have hof : nat_Of.f (k + 1) (IntKind.u64.wrap ((x % u : Nat) : Int)) = some (toL (x % u)) := by
    rw [wraps_u64 _ (by omega) (by omega)]
    exact ofN (by omega) (by omega)
  simp only [alidadelaw03_DivTwice.j1, Bool.false_eq_true, if_false]
  rw [divN xm ym y0, Option.bind_some, divN qm zm z0, Option.bind_some, mulN ym zm yzm (by omega), Option.bind_some, divN xm yzm yz0, Option.bind_some, hone, Option.bind_some, hs, Option.bind_some, divN xm h2n (by omega), Option.bind_some, if_pos (by omega), hou, hl, hu, smallN xm u0 u2 (by omega), Option.bind_some, Option.bind_some, divN xm um (by omega), Option.bind_some]
  simp only [if_true]
  rw [sameT (Nat.div_div_eq_div_mul x y z) (Nat.lt_of_le_of_lt (Nat.div_le_self _ _) qm) (by omega), Option.bind_some, if_pos rfl, shrN xm (by omega), Option.bind_some, sameT rfl (Nat.lt_of_le_of_lt (Nat.div_le_self _ _) xm) (by omega), Option.bind_some, if_pos rfl, sameT rfl (Nat.lt_of_le_of_lt (Nat.div_le_self _ _) xm) (by omega), Option.bind_some, if_pos rfl, hof, Option.bind_some, sameT rfl (Nat.lt_of_le_of_lt (Nat.mod_le _ _) xm) (by omega)]; rfl
theorem divTwice_in {a b c : List Int} {e : Int} {k p : Nat} (hp : p ≤ 200) (oa : ok a = true) (ob : ok b = true) (oc : ok c = true) (la : a.length ≤ p) (lb : b.length ≤ p) (lc : c.length ≤ p) (he : e ≤ 3000) (hk : 4000000 ≤ k) :
    alidadelaw03_DivTwice.j0 (k + 3) a b c e false = some true := by
  have ht : alidadelaw03_DivTwice.j1 (k + 2) a b c e true = some true := by simp only [alidadelaw03_DivTwice.j1, if_true]
  simp only [alidadelaw03_DivTwice.j0, Bool.false_eq_true, if_false]
  rw [may_f (by omega), Option.bind_some]
  by_cases ma : may a = true
  case neg => rw [if_neg ma]; exact ht
  rw [if_pos ma, may_f (by omega), Option.bind_some]
  by_cases mb : may b = true
  case neg => rw [if_neg mb]; exact ht
  rw [if_pos mb, may_f (by omega), Option.bind_some]
  by_cases mc : may c = true
  case neg => rw [if_neg mc]; exact ht
  rw [if_pos mc]
  obtain ⟨x, hx, rfl⟩ := toN oa ma la
  obtain ⟨y, hy, rfl⟩ := toN ob mb lb
  obtain ⟨z, hz, rfl⟩ := toN oc mc lc
  by_cases y0 : y = 0
  · rw [if_pos (toL_len0.2 y0)]; exact ht
  rw [if_neg (fun e => y0 (toL_len0.1 e))]
  by_cases z0 : z = 0
  · rw [if_pos (toL_len0.2 z0)]; exact ht
  rw [if_neg (fun e => z0 (toL_len0.1 e))]
  by_cases h : e < 0
  · rw [decide_eq_true h]; exact ht
  · rw [decide_eq_false h]
    obtain ⟨n, rfl⟩ := Int.eq_ofNat_of_zero_le (show 0 ≤ e by omega)
    exact divTwice_main hp hx hy hz y0 z0 (by omega) (by omega)
theorem DivTwice : alidadelaw03_DivTwice.Pure := by
  intro l0 l1 l2 a3 _ _ w0 _ _ w1 _ _ w2 _
  have o0 := ok_of_wf w0
  have o1 := ok_of_wf w1
  have o2 := ok_of_wf w2
  obtain ⟨k, hk⟩ : ∃ k, k = 5000000 := ⟨_, rfl⟩
  refine ⟨k + 3, ?_⟩
  have hj : alidadelaw03_DivTwice.j0 (k + 3) l0 l1 l2 a3 true = some true := by
    simp only [alidadelaw03_DivTwice.j0, if_true]
    rw [awake_f (by omega)]; rfl
  unfold alidadelaw03_DivTwice.f
  by_cases h0 : (l0.length : Int) > 200
  · rw [if_pos h0]; exact hj
  rw [if_neg h0]
  by_cases h1 : (l1.length : Int) > 100
  · rw [if_pos h1]; exact hj
  rw [if_neg h1]
  by_cases h2 : (l2.length : Int) > 100
  · rw [if_pos h2]; exact hj
  rw [if_neg h2]
  by_cases h3 : a3 > 3000
  · rw [if_pos h3]; exact hj
  rw [if_neg h3, awake_f (by omega), Option.bind_some]
  exact divTwice_in (p := 200) (Nat.le_refl _) o0 o1 o2 (by omega) (by omega) (by omega) (by omega) (by omega)

end Go.Proofs.Ytejlgahkekgceaa.Pure
