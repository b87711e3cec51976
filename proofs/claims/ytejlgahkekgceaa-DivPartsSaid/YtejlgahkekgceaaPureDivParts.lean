import Derived.Test.YtejlgahkekgceaaGDivAwaketoDivNumM
import Derived.Test.YtejlgahkekgceaaPDivx45
namespace Go.Proofs.Ytejlgahkekgceaa.Pure
open Go.RowKit Go.Proofs.Ytejlgahkekgceaa.PDiv Go.Proofs.YtejlgahkekgceaaW.PrintWords Go.Proofs.YtejlgahkekgceaaW.PrintLast Go.Proofs.YtejlgahkekgceaaV

theorem nil2 : (some (wrap64 ((([] : List Int).length : Int) + (([] : List Int).length : Int)) == 0) : Option Bool) = some true := by
  rw [show ((([] : List Int).length : Int) + (([] : List Int).length : Int)) = 0 from rfl, w64r (by omega)]; rfl
theorem divParts_end {x y c d k p : Nat} (hp : p ≤ 300) (hy : 0 < y) (hyb : y < B ^ p) (hxb : x < B ^ p) (hc : c < B ^ p) (hd : d < B ^ p) (hk : 2000000 ≤ k) :
    alidadelaw03_DivParts.j1 (k + 1) (toL x) (toL y) (toL c) (toL d) (toL (x / y)) (toL (x % y)) false = some true := by
  have ym := lt_most hyb (by omega)
  have xm := lt_most hxb (by omega)
  have cm := lt_most hc (by omega)
  have dm := lt_most hd (by omega)
  have hcy : c * y < B ^ (p + p) := mul_lt_pow hc hyb
  have hs : c * y + d < B ^ (p + p + 1) := add_lt_pow hcy (Nat.lt_of_lt_of_le hd (Nat.pow_le_pow_right (by decide) (by omega)))
  simp only [alidadelaw03_DivParts.j1, Bool.false_eq_true, if_false]
  rw [may_f (by have := toL_len cm; omega), toL_may cm, Option.bind_some, if_pos rfl, may_f (by have := toL_len dm; omega), toL_may dm, Option.bind_some, if_pos rfl, cmpT dm ym, Option.bind_some]
  by_cases hlt : d < y
  · rw [if_pos (cmpN_lt.2 hlt), mulN cm ym (lt_most hcy (by omega)) (by omega), Option.bind_some, addN (lt_most hcy (by omega)) dm (lt_most hs (by omega)), Option.bind_some, sameN (lt_most hs (by omega)) (by omega), Option.bind_some]
    by_cases he : c * y + d = x
    · have e1 : c = x / y := by
        rw [← he, Nat.mul_comm, Nat.mul_add_div hy, Nat.div_eq_of_lt hlt]; rfl
      have e2 : d = x % y := by
        rw [← he, Nat.mul_comm, Nat.mul_add_mod, Nat.mod_eq_of_lt hlt]
      rw [decide_eq_true he, if_pos rfl, sameT e1 cm (by omega), Option.bind_some, if_pos rfl, sameT e2 dm (by omega)]; rfl
    · rw [decide_eq_false he, if_neg (by decide)]
  · rw [if_neg (fun e => hlt (cmpN_lt.1 e))]
theorem divParts_main {a b c d : List Int} {k p : Nat} (hp : p ≤ 300) (oa : ok a = true) (ob : ok b = true) (oc : ok c = true) (od : ok d = true) (la : a.length ≤ p) (lb : b.length ≤ p) (lc : c.length ≤ p) (ld : d.length ≤ p) (hk : 4000000 ≤ k) :
    alidadelaw03_DivParts.j0 (k + 2) a b c d false = some true := by
  simp only [alidadelaw03_DivParts.j0, Bool.false_eq_true, if_false]
  rw [div_f oa ob, Option.bind_some]
  unfold divS
  by_cases hm : (may a && may b) = true
  · obtain ⟨ma, mb⟩ : may a = true ∧ may b = true := by simpa using hm
    rw [if_pos hm]
    by_cases hb : b = []
    · subst hb
      simp only [if_true]
      rw [if_neg (by omega), may_f (by omega), ma, Option.bind_some, if_pos rfl, may_f (by simp), Option.bind_some, if_pos (by rfl), if_neg (by omega)]
      exact nil2
    · rw [if_neg hb]
      simp only [if_true]
      obtain ⟨x, hx, rfl⟩ := toN oa ma la
      obtain ⟨y, hy, rfl⟩ := toN ob mb lb
      have y0 : y ≠ 0 := fun e => hb (toL_nil.2 e)
      have xm := lt_most hx (by omega)
      have ym := lt_most hy (by omega)
      rw [val_toL, val_toL]
      have qm : x / y < B ^ most := Nat.lt_of_le_of_lt (Nat.div_le_self x y) xm
      have rm : x % y < B ^ most := Nat.lt_of_le_of_lt (Nat.mod_le x y) xm
      have hqm : x / y * y ≤ x := Nat.div_mul_le_self x y
      have hdm : x / y * y + x % y = x := by rw [Nat.mul_comm]; exact Nat.div_add_mod x y
      have hlt := Nat.mod_lt x (show y > 0 by omega)
      rw [may_f (by have := toL_len qm; omega), toL_may qm, Option.bind_some, if_pos rfl, may_f (by have := toL_len rm; omega), toL_may rm, Option.bind_some, if_pos rfl,
        mulN qm ym (by omega) (by omega), Option.bind_some, addN (by omega) rm (by omega), Option.bind_some, sameT hdm (by omega) (by omega), Option.bind_some, if_pos rfl, cmpT rm ym, Option.bind_some, if_neg (fun e => by have := cmpN_ge.1 e; omega)]
      have hz : (((toL y).length : Int) == 0) = false := by rw [beq_eq_false_iff_ne]; exact fun e => y0 (toL_len0.1 e)
      rw [hz]
      by_cases mc : may c = true
      · obtain ⟨u, hu, rfl⟩ := toN oc mc lc
        by_cases md : may d = true
        · obtain ⟨v, hv, rfl⟩ := toN od md ld
          exact divParts_end hp (by omega) hy hx hu hv (by omega)
        · simp only [alidadelaw03_DivParts.j1, Bool.false_eq_true, if_false]
          rw [may_f (by omega), mc, Option.bind_some, if_pos rfl, may_f (by omega), Option.bind_some, if_neg md]
      · simp only [alidadelaw03_DivParts.j1, Bool.false_eq_true, if_false]
        rw [may_f (by omega), Option.bind_some, if_neg mc]
  · rw [if_neg hm]
    simp only
    rw [if_neg (by omega), may_f (by omega), Option.bind_some]
    by_cases ma : may a = true
    · have mb : ¬ may b = true := fun e => hm (by rw [ma, e]; rfl)
      rw [if_pos ma, may_f (by omega), Option.bind_some, if_neg mb, if_pos trivial]
      exact nil2
    · rw [if_neg ma, if_pos trivial]
      exact nil2
theorem DivParts : alidadelaw03_DivParts.Pure := by
  intro l0 l1 l2 l3 _ _ w0 _ _ w1 _ _ w2 _ _ w3
  have o0 := ok_of_wf w0
  have o1 := ok_of_wf w1
  have o2 := ok_of_wf w2
  have o3 := ok_of_wf w3
  obtain ⟨k, hk⟩ : ∃ k, k = 5000000 := ⟨_, rfl⟩
  refine ⟨k + 2, ?_⟩
  have hj : alidadelaw03_DivParts.j0 (k + 2) l0 l1 l2 l3 true = some true := by
    simp only [alidadelaw03_DivParts.j0, if_true]
    rw [awake_f (by omega)]; rfl
  unfold alidadelaw03_DivParts.f
  by_cases h0 : (l0.length : Int) > 300
  · rw [if_pos h0]; exact hj
  rw [if_neg h0]
  by_cases h1 : (l1.length : Int) > 300
  · rw [if_pos h1]; exact hj
  rw [if_neg h1]
  by_cases h2 : (l2.length : Int) > 300
  · rw [if_pos h2]; exact hj
  rw [if_neg h2]
  by_cases h3 : (l3.length : Int) > 300
  · rw [if_pos h3]; exact hj
  rw [if_neg h3, awake_f (by omega), Option.bind_some]
  exact divParts_main (p := 300) (Nat.le_refl _) o0 o1 o2 o3 (by omega) (by omega) (by omega) (by omega) (by omega)

end Go.Proofs.Ytejlgahkekgceaa.Pure
