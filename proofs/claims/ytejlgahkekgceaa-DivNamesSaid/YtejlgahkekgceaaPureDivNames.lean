/- The closed statement of div: its examples. -/
import Derived.Test.YtejlgahkekgceaaGDivAwaketoDivNumM
import Derived.Test.YtejlgahkekgceaaPDivx44
namespace Go.Proofs.Ytejlgahkekgceaa.Pure
open Go.RowKit Go.Proofs.Ytejlgahkekgceaa.PDiv Go.Proofs.YtejlgahkekgceaaW.PrintWords Go.Proofs.YtejlgahkekgceaaW.PrintLast Go.Proofs.YtejlgahkekgceaaV

/-- a small row in its shortest form -/
def good (l : List Int) : Bool := ok l && may l && decide (l.length ≤ 8)
theorem good_parts {l : List Int} (h : good l = true) : ok l = true ∧ may l = true ∧ l.length ≤ 8 := by
  simp only [good, Bool.and_eq_true, decide_eq_true_eq] at h
  exact ⟨h.1.1, h.1.2, h.2⟩
theorem good_toL {l : List Int} (h : good l = true) : toL (val l) = l := toL_of_may (good_parts h).1 (good_parts h).2.1
theorem good_most {l : List Int} (h : good l = true) : val l < B ^ most := lt_most (val_lt_of (good_parts h).1 (good_parts h).2.2) (by omega)
theorem partsL {k : Nat} {a b c d : List Int} (ha : good a = true) (hb : good b = true) (hc : good c = true) (hd : good d = true) (h0 : val b ≠ 0) (h1 : val a / val b = val c) (h2 : val a % val b = val d) (hk : 1000000 ≤ k) : alidadelaw03_parts.f k a b c d = some true := by
  have := partsT (k := k) (good_most ha) (good_most hb) h0 h1 h2 hk
  rw [good_toL ha, good_toL hb, good_toL hc, good_toL hd] at this
  exact this
theorem rootL {k : Nat} {a c : List Int} (ha : good a = true) (hc : good c = true) (h1 : val c * val c ≤ val a) (h2 : val a < (val c + 1) * (val c + 1)) (hk : 2 * val a + 101 ≤ k) : div_Root.f k a = some c := by
  have := rootS (k := k) (good_most ha) hk
  rw [rt_eq h1 h2, good_toL ha, good_toL hc] at this
  exact this
theorem sameL {k : Nat} {a : List Int} (ha : a.length ≤ 100) (hk : 1000000 ≤ k) : alidadelaw03_same.f k a a = some true := by
  rw [same_f (by omega) (by omega), decide_eq_true rfl]
theorem divBad {a b : List Int} (oa : ok a = true) (ob : ok b = true) (h : (may a && may b) = false) : div_DivMod.f a b = some ([], [], 4) := by
  rw [div_f oa ob]; unfold divS; rw [h]; rfl
theorem rdL {xs : List (List Int)} {i : Nat} (h : i < xs.length) : ∃ u, u ∈ xs ∧ rd_L1 xs (i : Int) = u := by
  refine ⟨xs[i], List.getElem_mem h, ?_⟩
  unfold rd_L1
  rw [Int.toNat_natCast, List.getD_eq_getElem?_getD, List.getElem?_eq_getElem h]; rfl
theorem names_l1 {bs us : List (List Int)} {y : List Int} {n j : Int} {K : Nat} (hu : ∀ u ∈ us, good u = true) (hl : us.length ≤ 100) (hy : good y = true) (y0 : val y ≠ 0) (H : ∀ k', K ≤ k' → alidadelaw03_DivNames.l0 k' bs n (wrap64 (j + 1)) = some true) (d : Nat) :
    ∀ (i k : Nat), i + d = us.length → K + d + 2000000 ≤ k → alidadelaw03_DivNames.l1 k y bs n j us (us.length : Int) (i : Int) = some true := by
  induction d with
  | zero =>
    intro i k hi hk
    obtain ⟨k, rfl⟩ : ∃ m, k = m + 1 := ⟨k - 1, by omega⟩
    simp only [alidadelaw03_DivNames.l1]
    rw [if_neg (by omega)]
    exact H k (by omega)
  | succ d ih =>
    intro i k hi hk
    obtain ⟨k, rfl⟩ : ∃ m, k = m + 1 := ⟨k - 1, by omega⟩
    obtain ⟨u, hm, hr⟩ := rdL (xs := us) (i := i) (by omega)
    have hg := hu u hm
    have xm := good_most hg
    have ym := good_most hy
    have e0 := good_toL hg
    have e1 := good_toL hy
    obtain ⟨x, hx⟩ : ∃ x, val u = x := ⟨_, rfl⟩
    obtain ⟨z, hz⟩ : ∃ z, val y = z := ⟨_, rfl⟩
    rw [hx] at xm e0
    rw [hz] at ym e1 y0
    have qm : x / z < B ^ most := Nat.lt_of_le_of_lt (Nat.div_le_self x z) xm
    have rm : x % z < B ^ most := Nat.lt_of_le_of_lt (Nat.mod_le x z) xm
    have hqm : x / z * z ≤ x := Nat.div_mul_le_self x z
    have hdm : x / z * z + x % z = x := by rw [Nat.mul_comm]; exact Nat.div_add_mod x z
    have hlt := Nat.mod_lt x (show z > 0 by omega)
    simp only [alidadelaw03_DivNames.l1]
    rw [if_pos (by omega), if_pos (by omega), if_pos (by omega), hr, ← e0, ← e1, divN xm ym y0, Option.bind_some]
    simp only [if_true]
    rw [mulN qm ym (by omega) (by omega), Option.bind_some, addN (by omega) rm (by omega), Option.bind_some, sameT hdm (by omega) (by omega), Option.bind_some, if_pos rfl, cmpT rm ym, Option.bind_some, if_neg (fun e => by have := cmpN_ge.1 e; omega),
      show wrap64 ((i : Int) + 1) = ((i + 1 : Nat) : Int) by rw [w64r (by omega)]; omega, e1]
    exact ih (i + 1) k (by omega) (by omega)
def us5 : List (List Int) := [[0, 0, 0, 2147483648], [4294967295, 4294967295, 4294967295, 2147483647], [0, 0, 4294967295, 2147483647], [4294967295, 0, 0, 0, 2147483648], [3, 2, 1, 2147483648]]
def bs5 : List (List Int) := [[4294967295, 0, 2147483648], [4294967295, 4294967295, 2147483648], [1, 0, 2147483648], [4294967295, 4294967295, 4294967295], [0, 4294967295, 2147483648]]
theorem us5_good : ∀ u ∈ us5, good u = true := by decide
theorem bs5_good : ∀ u ∈ bs5, good u = true ∧ val u ≠ 0 := by decide
theorem ne_D1 {k : Nat} (hk : 100000000000000000000 ≤ k) : div_DivMod.f [3, 0] [] = some ([], [], 4) := divBad rfl rfl rfl
theorem ne_D2 {k : Nat} (hk : 100000000000000000000 ≤ k) : div_DivMod.f [1] [3, 0] = some ([], [], 4) := divBad rfl rfl rfl
theorem ne_S1 {k : Nat} (hk : 100000000000000000000 ≤ k) : div_Small.f k [3, 0] 0 = some ([], 0, 4) := by
  have := sm_f (k := k) (x := 0) (a := [3, 0]) rfl (by decide) (by omega) (by omega)
  exact this
theorem ne_S2 {k : Nat} (hk : 100000000000000000000 ≤ k) : div_Small.f k [9] 0 = some ([], 0, 41) := by
  have := sm_f (k := k) (x := 0) (a := [9]) rfl (by decide) (by omega) (by omega)
  exact this
theorem ne_S3 {k : Nat} (hk : 100000000000000000000 ≤ k) : div_Small.f k [] 5 = some ([], 0, 0) := by
  have := smallN (k := k) (x := 0) (y := 5) (lt_big (by omega)) (by omega) (by omega) (by omega)
  rw [Nat.zero_div, toL_zero] at this
  exact this
theorem ne_R0 {k : Nat} (hk : 100000000000000000000 ≤ k) : div_Root.f k [3, 0] = some [] := by
  obtain ⟨k, rfl⟩ : ∃ m, k = m + 1 := ⟨k - 1, by omega⟩
  unfold div_Root.f
  rw [may_f (by decide), show may [3, 0] = false from rfl, Option.bind_some, if_neg (by decide)]
  simp only [div_Root.j0, if_true]
theorem ne_R1 {k : Nat} (hk : 100000000000000000000 ≤ k) : div_Root.f k [1] = some [1] := rootL (a := [1]) (c := [1]) rfl rfl (by decide) (by decide) (by simp only [val, B]; omega)
theorem ne_R2 {k : Nat} (hk : 100000000000000000000 ≤ k) : div_Root.f k [4294967295, 4294967295] = some [4294967295] := rootL (a := [4294967295, 4294967295]) (c := [4294967295]) rfl rfl (by decide) (by decide) (by simp only [val, B]; omega)
theorem ne_R3 {k : Nat} (hk : 100000000000000000000 ≤ k) : div_Root.f k [0, 0, 1] = some [0, 1] := rootL (a := [0, 0, 1]) (c := [0, 1]) rfl rfl (by decide) (by decide) (by simp only [val, B]; omega)
theorem ne_R4 {k : Nat} (hk : 100000000000000000000 ≤ k) : div_Root.f k [3] = some [1] := rootL (a := [3]) (c := [1]) rfl rfl (by decide) (by decide) (by simp only [val, B]; omega)
theorem ne_R5 {k : Nat} (hk : 100000000000000000000 ≤ k) : div_Root.f k [4] = some [2] := rootL (a := [4]) (c := [2]) rfl rfl (by decide) (by decide) (by simp only [val, B]; omega)
theorem ne_E {k : Nat} (hk : 100000000000000000000 ≤ k) : ∀ a : List Int, a.length ≤ 100 → alidadelaw03_same.f k a a = some true := fun a h => sameL h (by omega)
theorem names_end {k : Nat} (hk : 100000000000000000000 ≤ k) : alidadelaw03_DivNames.l0 (k + 1) bs5 5 5 = some true := by
  have D1 := ne_D1 hk
  have D2 := ne_D2 hk
  have S1 := ne_S1 hk
  have S2 := ne_S2 hk
  have S3 := ne_S3 hk
  have R0 := ne_R0 hk
  have R1 := ne_R1 hk
  have R2 := ne_R2 hk
  have R3 := ne_R3 hk
  have R4 := ne_R4 hk
  have R5 := ne_R5 hk
  have E := ne_E hk
  have o1 : ∀ x, alidadelaw03_of_1.f x = some [x] := fun _ => rfl
  have o2 : ∀ x y, alidadelaw03_of_2.f x y = some [x, y] := fun _ _ => rfl
  have o3 : ∀ x y z, alidadelaw03_of_3.f x y z = some [x, y, z] := fun _ _ _ => rfl
  simp only [alidadelaw03_DivNames.l0]
  rw [if_neg (by omega), o2, Option.bind_some, D1, Option.bind_some, o1, Option.bind_some, D2, Option.bind_some, S1, Option.bind_some, o1, Option.bind_some, S2, Option.bind_some, S3, Option.bind_some]
  have hw : wrap64 (wrap64 ((([] : List Int).length : Int) + (([] : List Int).length : Int)) + (([] : List Int).length : Int)) = 0 := by
    have w0 : wrap64 0 = 0 := w64r (by omega)
    show wrap64 (wrap64 (0 + 0) + 0) = 0
    rw [Int.add_zero, Int.add_zero, w0, w0]
  rw [if_pos (show (((([] : List Int), ([] : List Int), (4 : Int)).2.2) = 4) from rfl), if_pos (show (((([] : List Int), ([] : List Int), (4 : Int)).2.2) = 4) from rfl), if_pos (show (((([] : List Int), (0 : Int), (4 : Int)).2.2) = 4) from rfl), if_pos (show (((([] : List Int), (0 : Int), (41 : Int)).2.2) = 41) from rfl), if_pos (show (((([] : List Int), (0 : Int), (0 : Int)).2.2) = 0) from rfl), if_pos (show (((([] : List Int), (0 : Int), (0 : Int)).2.1) = 0) from rfl), if_pos (show (((([] : List Int), (0 : Int), (4 : Int)).2.1) = 0) from rfl),
    if_pos (show wrap64 (wrap64 ((((([] : List Int), ([] : List Int), (4 : Int)).1).length : Int) + (((([] : List Int), ([] : List Int), (4 : Int)).2.1).length : Int)) + (((([] : List Int), (0 : Int), (4 : Int)).1).length : Int)) = 0 from hw), R0, Option.bind_some, if_pos (show ((([] : List Int).length : Int) = 0) from rfl), o1, Option.bind_some, R1, Option.bind_some, o1, Option.bind_some, E _ (by decide), Option.bind_some, if_pos rfl,
    o2, Option.bind_some, R2, Option.bind_some, o1, Option.bind_some, E _ (by decide), Option.bind_some, if_pos rfl, o3, Option.bind_some, R3, Option.bind_some, o2, Option.bind_some, E _ (by decide), Option.bind_some, if_pos rfl,
    Option.bind_some, R4, Option.bind_some, Option.bind_some, E _ (by decide), Option.bind_some, if_pos rfl, Option.bind_some, R5, Option.bind_some, o1, Option.bind_some, E _ (by decide)]
  rfl
theorem names_l0 (d : Nat) : ∀ (j k : Nat), j + d = 5 → 200000000000000000000 + d * 3000000 ≤ k → alidadelaw03_DivNames.l0 k bs5 5 (j : Int) = some true := by
  induction d with
  | zero =>
    intro j k hj hk
    obtain ⟨k, rfl⟩ : ∃ m, k = m + 1 := ⟨k - 1, by omega⟩
    obtain rfl : j = 5 := by omega
    exact names_end (by omega)
  | succ d ih =>
    intro j k hj hk
    obtain ⟨k, rfl⟩ : ∃ m, k = m + 1 := ⟨k - 1, by omega⟩
    have hl5 : bs5.length = 5 := rfl
    obtain ⟨y, hm, hr⟩ := rdL (xs := bs5) (i := j) (by omega)
    obtain ⟨gy, y0⟩ := bs5_good y hm
    have hgo := names_l1 (bs := bs5) (us := us5) (y := y) (n := 5) (j := (j : Int)) (K := 200000000000000000000 + d * 3000000) us5_good (by decide) gy y0 (fun k' hk' => by
      rw [show wrap64 ((j : Int) + 1) = ((j + 1 : Nat) : Int) by rw [w64r (by omega)]; omega]
      exact ih (j + 1) k' (by omega) hk') 5 0 k rfl (by omega)
    simp only [alidadelaw03_DivNames.l0]
    unfold alidadelaw03_of_4.f alidadelaw03_of_5.f
    simp only [Option.bind_some]
    rw [if_pos (by omega), if_pos (by omega), if_pos (by rw [hl5]; omega), hr]
    exact hgo
theorem DivNames : alidadelaw03_DivNames.Pure := by
  obtain ⟨k, hk⟩ : ∃ k, k = 300000000000000000000 := ⟨_, rfl⟩
  refine ⟨k + 1, ?_⟩
  have P1 : alidadelaw03_parts.f (k + 1) [4294967295, 4294967295, 4294967295] [4294967295, 4294967295] [0, 1] [4294967295] = some true := partsL rfl rfl rfl rfl (by decide) (by decide) (by decide) (by omega)
  have P2 : alidadelaw03_parts.f (k + 1) [4294967295, 4294967295, 4294967295] [0, 2147483648] [4294967295, 1] [4294967295, 2147483647] = some true := partsL rfl rfl rfl rfl (by decide) (by decide) (by decide) (by omega)
  have P3 : alidadelaw03_parts.f (k + 1) [0, 0, 1] [4294967295, 4294967295] [1] [1] = some true := partsL rfl rfl rfl rfl (by decide) (by decide) (by decide) (by omega)
  have P4 : alidadelaw03_parts.f (k + 1) [7, 7] [7, 7] [1] [] = some true := partsL rfl rfl rfl rfl (by decide) (by decide) (by decide) (by omega)
  have P5 : alidadelaw03_parts.f (k + 1) [6, 7] [7, 7] [] [6, 7] = some true := partsL rfl rfl rfl rfl (by decide) (by decide) (by decide) (by omega)
  have P6 : alidadelaw03_parts.f (k + 1) [] [0, 1] [] [] = some true := partsL rfl rfl rfl rfl (by decide) (by decide) (by decide) (by omega)
  have P7 : alidadelaw03_parts.f (k + 1) [0, 0, 0, 1] [1] [0, 0, 0, 1] [] = some true := partsL rfl rfl rfl rfl (by decide) (by decide) (by decide) (by omega)
  unfold alidadelaw03_DivNames.f
  rw [awake_f (by omega), Option.bind_some, if_pos rfl]
  unfold alidadelaw03_of_1.f alidadelaw03_of_2.f alidadelaw03_of_3.f alidadelaw03_of_4.f
  simp only [Option.bind_some]
  rw [P1, Option.bind_some, if_pos rfl, P2, Option.bind_some, if_pos rfl, P3, Option.bind_some, if_pos rfl, P4, Option.bind_some, if_pos rfl, P5, Option.bind_some, if_pos rfl, P6, Option.bind_some, if_pos rfl, P7, Option.bind_some, Bool.not_true]
  simp only [alidadelaw03_DivNames.j0, Bool.false_eq_true, if_false]
  unfold alidadelaw03_of_3.f
  simp only [Option.bind_some]
  exact names_l0 5 0 k rfl (by omega)

end Go.Proofs.Ytejlgahkekgceaa.Pure
