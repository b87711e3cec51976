/- Texts of the seat Ytejlgahkekgceaa that belong together, joined. -/
import Derived.Test.YtejlgahkekgceaaGDivMultoDivNum
import Derived.Test.YtejlgahkekgceaaDivAwake
import Derived.Test.YtejlgahkekgceaaPDivx46
/- Products of naturals. -/
namespace Go.Proofs.Ytejlgahkekgceaa.Pure
open Go.RowKit Go.Proofs.Ytejlgahkekgceaa.PDiv Go.Proofs.YtejlgahkekgceaaW.PrintWords Go.Proofs.YtejlgahkekgceaaW.PrintLast Go.Proofs.YtejlgahkekgceaaW.PrintMore Go.Proofs.YtejlgahkekgceaaV

theorem mulN {k x y : Nat} (hx : x < B ^ most) (hy : y < B ^ most) (h : x * y < B ^ most) (hk : 1000000 ≤ k) : mul_Mul.f k (toL x) (toL y) = some (toL (x * y)) := by
  have lx := toL_len hx
  have ly := toL_len hy
  rw [mul_f (toL_ok _) (toL_ok _) (by omega) (by omega) hk, mulS_of (toL_may hx) (toL_may hy), val_toL, val_toL, fit_lt h]

end Go.Proofs.Ytejlgahkekgceaa.Pure

namespace Go.Proofs.Ytejlgahkekgceaa.Pure
open Go.RowKit Go.Proofs.Ytejlgahkekgceaa.PDiv Go.Proofs.YtejlgahkekgceaaW.PrintWords Go.Proofs.YtejlgahkekgceaaW.PrintLast Go.Proofs.YtejlgahkekgceaaV

theorem divProducts_main {x y z k p : Nat} (hp : p ≤ 200) (hx : x < B ^ p) (hy : y < B ^ p) (hz : z < B ^ p) (y0 : y ≠ 0) (hk : 3000000 ≤ k) :
    alidadelaw03_DivProducts.j1 (k + 2) (toL x) (toL y) (toL z) false = some true := by
  have xm := lt_most hx (by omega)
  have ym := lt_most hy (by omega)
  have zm := lt_most hz (by omega)
  have hxy : x * y < B ^ (p + p) := mul_lt_pow hx hy
  have hs : x * y + z < B ^ (p + p + 1) := add_lt_pow hxy (Nat.lt_of_lt_of_le hz (Nat.pow_le_pow_right (by decide) (by omega)))
  have xym := lt_most hxy (by omega)
  have sm := lt_most hs (by omega)
  have e1 : x * y / y = x := Nat.mul_div_cancel x (by omega)
  have e2 : x * y % y = 0 := Nat.mul_mod_left x y
  simp only [alidadelaw03_DivProducts.j1, Bool.false_eq_true, if_false]
  rw [mulN xm ym xym (by omega), Option.bind_some, divN xym ym y0, Option.bind_some]
  simp only [if_true]
  rw [e1, sameT rfl xm (by omega), Option.bind_some, if_pos rfl, e2, toL_zero, decide_eq_false (by simp)]
  simp only [alidadelaw03_DivProducts.j2, Bool.false_eq_true, if_false]
  rw [cmpT zm ym, Option.bind_some]
  by_cases h : z < y
  · have f1 : (x * y + z) / y = x := by rw [Nat.mul_comm, Nat.mul_add_div (by omega), Nat.div_eq_of_lt h]; rfl
    have f2 : (x * y + z) % y = z := by rw [Nat.mul_comm, Nat.mul_add_mod, Nat.mod_eq_of_lt h]
    rw [if_neg (fun e => by have := cmpN_ge.1 e; omega), addN xym zm sm, Option.bind_some, divN sm ym y0, Option.bind_some]
    simp only [if_true]
    rw [f1, sameT rfl xm (by omega), Option.bind_some, if_pos rfl, f2, sameT rfl zm (by omega)]; rfl
  · rw [if_pos (cmpN_ge.2 (by omega))]
theorem divProducts_in {a b c : List Int} {k p : Nat} (hp : p ≤ 200) (oa : ok a = true) (ob : ok b = true) (oc : ok c = true) (la : a.length ≤ p) (lb : b.length ≤ p) (lc : c.length ≤ p) (hk : 4000000 ≤ k) :
    alidadelaw03_DivProducts.j0 (k + 3) a b c false = some true := by
  have ht : alidadelaw03_DivProducts.j1 (k + 2) a b c true = some true := by simp only [alidadelaw03_DivProducts.j1, if_true]
  simp only [alidadelaw03_DivProducts.j0, Bool.false_eq_true, if_false]
  rw [may_f (by omega), Option.bind_some]
  by_cases ma : may a = true
  case neg => rw [if_neg ma]; exact ht
  rw [if_pos ma, may_f (by omega), Option.bind_some]
  by_cases mb : may b = true
  case neg => rw [if_neg mb]; exact ht
  rw [if_pos mb, may_f (by omega), Option.bind_some]
  by_cases mc : may c = true
  case neg => rw [if_neg mc]; exact ht
  rw [if_pos mc]
  obtain ⟨x, hx, rfl⟩ := toN oa ma la
  obtain ⟨y, hy, rfl⟩ := toN ob mb lb
  obtain ⟨z, hz, rfl⟩ := toN oc mc lc
  by_cases y0 : y = 0
  · rw [show (((toL y).length : Int) == 0) = true by rw [beq_iff_eq]; exact toL_len0.2 y0]; exact ht
  · rw [show (((toL y).length : Int) == 0) = false by rw [beq_eq_false_iff_ne]; exact fun e => y0 (toL_len0.1 e)]
    exact divProducts_main hp hx hy hz y0 (by omega)
theorem DivProducts : alidadelaw03_DivProducts.Pure := by
  intro l0 l1 l2 _ _ w0 _ _ w1 _ _ w2
  have o0 := ok_of_wf w0
  have o1 := ok_of_wf w1
  have o2 := ok_of_wf w2
  obtain ⟨k, hk⟩ : ∃ k, k = 5000000 := ⟨_, rfl⟩
  refine ⟨k + 3, ?_⟩
  have hj : alidadelaw03_DivProducts.j0 (k + 3) l0 l1 l2 true = some true := by
    simp only [alidadelaw03_DivProducts.j0, if_true]
    rw [awake_f (by omega)]; rfl
  unfold alidadelaw03_DivProducts.f
  by_cases h0 : (l0.length : Int) > 200
  · rw [if_pos h0]; exact hj
  rw [if_neg h0]
  by_cases h1 : (l1.length : Int) > 200
  · rw [if_pos h1]; exact hj
  rw [if_neg h1]
  by_cases h2 : (l2.length : Int) > 200
  · rw [if_pos h2]; exact hj
  rw [if_neg h2, awake_f (by omega), Option.bind_some]
  exact divProducts_in (p := 200) (Nat.le_refl _) o0 o1 o2 (by omega) (by omega) (by omega) (by omega)

end Go.Proofs.Ytejlgahkekgceaa.Pure
