/- Texts of the seat Ytejlgahkekgceaa that belong together, joined. -/
import Derived.Test.YtejlgahkekgceaaGDivMultoDivNum
import Derived.Test.YtejlgahkekgceaaDivAwake
import Derived.Test.YtejlgahkekgceaaPDivx48
/- Products of naturals. -/
namespace Go.Proofs.Ytejlgahkekgceaa.Pure
open Go.RowKit Go.Proofs.Ytejlgahkekgceaa.PDiv Go.Proofs.YtejlgahkekgceaaW.PrintWords Go.Proofs.YtejlgahkekgceaaW.PrintLast Go.Proofs.YtejlgahkekgceaaW.PrintMore Go.Proofs.YtejlgahkekgceaaV

theorem mulN {k x y : Nat} (hx : x < B ^ most) (hy : y < B ^ most) (h : x * y < B ^ most) (hk : 1000000 ≤ k) : mul_Mul.f k (toL x) (toL y) = some (toL (x * y)) := by
  have lx := toL_len hx
  have ly := toL_len hy
  rw [mul_f (toL_ok _) (toL_ok _) (by omega) (by omega) hk, mulS_of (toL_may hx) (toL_may hy), val_toL, val_toL, fit_lt h]

end Go.Proofs.Ytejlgahkekgceaa.Pure

namespace Go.Proofs.Ytejlgahkekgceaa.Pure
open Go.RowKit Go.Proofs.Ytejlgahkekgceaa.PDiv Go.Proofs.YtejlgahkekgceaaW.PrintWords Go.Proofs.YtejlgahkekgceaaW.PrintLast Go.Proofs.YtejlgahkekgceaaV

theorem divSquares_main {x z k p : Nat} (hp : p ≤ 60) (hx : x < B ^ p) (hz : z < B ^ p) (hk : 2 * (x * x) + 2 * x + 2 * z + 3000000 ≤ k) :
    alidadelaw03_DivSquares.j1 (k + 2) (toL x) (toL z) false = some true := by
  have xm := lt_most hx (by omega)
  have zm := lt_most hz (by omega)
  have hxx : x * x < B ^ (p + p) := mul_lt_pow hx hx
  have xxm := lt_most hxx (by omega)
  have rx := rt_le x
  have rz := rt_le z
  have rm : rt x < B ^ most := by omega
  have rzm : rt z < B ^ most := by omega
  have r1 : rt x + 1 < B ^ (p + 1) := by
    have : rt x < B ^ p := by omega
    have hb : B ^ p * B = B ^ (p + 1) := (Nat.pow_succ ..).symm
    have : B ^ p * 2 ≤ B ^ p * B := Nat.mul_le_mul_left _ (by decide)
    omega
  have r1m := lt_most r1 (by omega)
  have hss : (rt x + 1) * (rt x + 1) < B ^ (p + 1 + (p + 1)) := mul_lt_pow r1 r1
  have ssm := lt_most hss (by omega)
  obtain ⟨g1, g2⟩ := rt_spec x
  have hone : alidadelaw03_of_1.f 1 = some (toL 1) := by unfold alidadelaw03_of_1.f; rw [lit (l := [1]) (n := 1) rfl rfl rfl]
  have m1 : (1 : Nat) < B ^ most := lt_big (by omega)
  simp only [alidadelaw03_DivSquares.j1, Bool.false_eq_true, if_false]
  rw [rootS xm (by omega), Option.bind_some, rootS zm (by omega), Option.bind_some, hone, Option.bind_some, addN rm m1 r1m, Option.bind_some, mulN rm rm (by omega) (by omega), Option.bind_some, cmpT (by omega) xm, Option.bind_some,
    if_neg (fun e => by have := cmpN_gt.1 e; omega), mulN r1m r1m ssm (by omega), Option.bind_some, cmpT ssm xm, Option.bind_some, if_neg (fun e => by have := cmpN_le.1 e; omega), mulN xm xm xxm (by omega), Option.bind_some, rootS xxm (by omega), Option.bind_some, sameT (rt_sq x) (by rw [rt_sq]; exact xm) (by omega), Option.bind_some]
  simp only [alidadelaw03_DivSquares.j2, Bool.not_true, Bool.false_eq_true, if_false]
  rw [cmpT xm zm, Option.bind_some]
  by_cases h : z < x
  · rw [if_pos (cmpN_gt.2 h)]
  · rw [if_neg (fun e => h (cmpN_gt.1 e)), cmpT rm rzm, Option.bind_some, decide_eq_true (cmpN_le.2 (rt_mono (by omega)))]
theorem divSquares_in {a b : List Int} {k p : Nat} (hp : p ≤ 60) (oa : ok a = true) (ob : ok b = true) (la : a.length ≤ p) (lb : b.length ≤ p) (hk : 2 * (val a * val a) + 2 * val a + 2 * val b + 3000000 ≤ k) :
    alidadelaw03_DivSquares.j0 (k + 3) a b false = some true := by
  have ht : alidadelaw03_DivSquares.j1 (k + 2) a b true = some true := by simp only [alidadelaw03_DivSquares.j1, if_true]
  simp only [alidadelaw03_DivSquares.j0, Bool.false_eq_true, if_false]
  rw [may_f (by omega), Option.bind_some]
  by_cases ma : may a = true
  case neg => rw [if_neg ma]; exact ht
  rw [if_pos ma, may_f (by omega), Option.bind_some]
  by_cases mb : may b = true
  case neg => rw [Bool.not_eq_true] at mb; rw [mb]; exact ht
  rw [mb]
  obtain ⟨x, hx, rfl⟩ := toN oa ma la
  obtain ⟨y, hy, rfl⟩ := toN ob mb lb
  rw [val_toL, val_toL] at hk
  exact divSquares_main hp hx hy (by omega)
theorem DivSquares : alidadelaw03_DivSquares.Pure := by
  intro l0 l1 _ _ w0 _ _ w1
  have o0 := ok_of_wf w0
  have o1 := ok_of_wf w1
  obtain ⟨k, hk⟩ : ∃ k, k = 2 * (val l0 * val l0) + 2 * val l0 + 2 * val l1 + 3000000 := ⟨_, rfl⟩
  refine ⟨k + 3, ?_⟩
  have hj : alidadelaw03_DivSquares.j0 (k + 3) l0 l1 true = some true := by
    simp only [alidadelaw03_DivSquares.j0, if_true]
    rw [awake_f (by omega)]; rfl
  unfold alidadelaw03_DivSquares.f
  by_cases h0 : (l0.length : Int) > 60
  · rw [if_pos h0]; exact hj
  rw [if_neg h0]
  by_cases h1 : (l1.length : Int) > 60
  · rw [if_pos h1]; exact hj
  rw [if_neg h1, awake_f (by omega), Option.bind_some]
  exact divSquares_in (p := 60) (Nat.le_refl _) o0 o1 (by omega) (by omega) (by omega)

end Go.Proofs.Ytejlgahkekgceaa.Pure
