/- SexpReads: walks by hand (Sp). -/
import Derived.Test.YtgikmpgpccfiiaaPSxpx0
import Derived.Test.YtgikmpgpccfiiaaPSxpx25
namespace Go.Proofs.Ytgikmpgpccfiiaa.PSxp
open Go.RowKit Go.Proofs.YtgikmpgpccfiiaaW.PrintWords Go.Proofs.YtgikmpgpccfiiaaW.PrintLast Go.Proofs.YtgikmpgpccfiiaaW.PrintMore
attribute [local go_sem] max2_int min2_int max_two min_two max_three min_three max_four min_four   -- for this text's walks alone
set_option linter.unusedVariables false
set_option linter.unusedSimpArgs false
/-! ### nodes written over -/
structure Spo (B : Nat) (W0 W : World) : Prop where
 below : Below B W0 W
 row : ∀ (k : Nat) (cs : Array Value), W0.heap[k]? = some (.cells cs 51 (0, 0)) → ∃ cs' : Array Value, W.heap[k]? = some (.cells cs' 51 (0, 0)) ∧ ∀ (j : Nat) (u : Value), cs[j]? = some u → (j % 4 ≠ 0 → cs'[j]? = some u) ∧ (∀ z, u = .int .u8 z → ∃ z', cs'[j]? = some (.int .u8 z'))
theorem Spo.refl (B : Nat) (W : World) : Spo B W W := ⟨Below.refl _ _, fun k cs h => ⟨cs, h, fun j u hu => ⟨fun _ => hu, fun z e => ⟨z, by rw [hu, e]⟩⟩⟩⟩
theorem Spo.drewN {B : Nat} {W0 W : World} (h : Spo B W0 W) (n : Nat) : Spo B W0 (W.drewN n) := ⟨pw_below_drewN h.below n, h.row⟩
theorem Spo.set {B : Nat} {W0 W : World} (h : Spo B W0 W) {g j : Nat} {cs : Array Value} (hg : W0.heap[g]? = some (.cells cs 51 (0, 0))) (hB : B ≤ g) (hj : j % 4 = 0) {y : Int} (hc : cs[j]? = some (.int .u8 y)) (z : Int) : Spo B W0 (W.setCell ⟨g, j, none⟩ (.int .u8 z)) := by
 refine ⟨h.below.setCell (p := ⟨g, j, none⟩) hB _, fun k ck hk => ?_⟩
 obtain ⟨c1, h1, h2⟩ := h.row k ck hk
 by_cases e : k = g
 ·subst e
  refine ⟨c1.setIfInBounds j (.int .u8 z), blk_set h1 j _, fun i u hu => ?_⟩
  obtain ⟨q1, q2⟩ := h2 i u hu
  by_cases ei : i = j
  ·subst ei
   obtain ⟨z', hz'⟩ : ∃ z', c1[i]? = some (.int .u8 z') := by
    rw [hk] at hg
    injection hg with hg
    injection hg with hg
    subst hg
    rw [hc] at hu
    obtain rfl := Option.some.inj hu
    exact q2 y rfl
   have hl : i < c1.size := by
    rcases Nat.lt_or_ge i c1.size with c | c
    ·exact c
    ·rw [Array.getElem?_eq_none c] at hz'; cases hz'
   exact ⟨fun hne => absurd hj hne, fun _ _ => ⟨z, by rw [Array.getElem?_setIfInBounds_self_of_lt hl]⟩⟩
  ·exact ⟨fun hne => by rw [Array.getElem?_setIfInBounds_ne (by omega)]; exact q1 hne, fun z1 e1 => by
    obtain ⟨z2, hz2⟩ := q2 z1 e1
    exact ⟨z2, by rw [Array.getElem?_setIfInBounds_ne (by omega)]; exact hz2⟩⟩
 ·exact ⟨c1, (heap_setCell_other W ⟨g, j, none⟩ k _ e).trans h1, h2⟩
theorem kids_less : ∀ {l : List S51} {x : S51}, x ∈ l → SizeOf.sizeOf x.f3 < SizeOf.sizeOf l := by
 intro l x hx
 have h1 := List.sizeOf_lt_of_mem hx
 have h2 : SizeOf.sizeOf x.f3 < SizeOf.sizeOf x := by
  cases x
  simp only [S51.mk.sizeOf_spec]
  omega
 omega
theorem spo_row {B : Nat} {W0 : World} {l : List S51} {A : Option Addr} {c : Nat} (hr : Kd.R k51 51 W0 B (fun _ => True) (.slice A l.length c) l) (j : Nat) (hj : j < l.length) :
  ∃ (g : Nat) (cs : Array Value) (A3 : Option Addr) (c3 : Nat), A = some ⟨g, 0, none⟩ ∧ B ≤ g ∧ W0.heap[g]? = some (.cells cs 51 (0, 0)) ∧ cs[j * 4]? = some (.int .u8 (l[j]).f0) ∧ cs[j * 4 + 3]? = some (.slice A3 (l[j]).f3.length c3) ∧ Kd.R k51 51 W0 B (fun _ => True) (.slice A3 (l[j]).f3.length c3) (l[j]).f3 := by
 obtain ⟨ad, rfl, _⟩ := (Kd.R_reads' hr).2.2.2.2 (by omega)
 obtain ⟨g, rfl⟩ := Kd.R_head hr
 obtain ⟨cells, hcells⟩ : ∃ cells, W0.heap[g]? = some (.cells cells 51 (0, 0)) := by
  obtain ⟨inner, ho⟩ := Kd.R_own hr
  exact own_typed ho g rfl
 obtain ⟨c0, hcl, hM, hcc, _⟩ := Kd.R_elem hr z51 (j : Int) (by omega) (by omega)
 have hx : l.getD ((j : Int)).toNat z51 = l[j] := by
  rw [Int.toNat_natCast, List.getD_eq_getElem?_getD, List.getElem?_eq_getElem hj]; rfl
 rw [hx] at hM
 obtain ⟨v3, rfl, h3⟩ := k51_openM hM
 obtain ⟨A3, c3, rfl⟩ := Kd.R_slice h3
 have e0 := hcc 0 _ rfl
 have e3 := hcc 3 _ rfl
 rw [blk_cell hcells, Int.toNat_natCast] at e0 e3
 exact ⟨g, cells, A3, c3, rfl, Kd.R_base hr g rfl, hcells, e0, e3, Kd.R_mono h3 (fun _ _ => trivial)⟩
set_option maxRecDepth 100000 in
set_option maxHeartbeats 8000000 in
theorem spoil_calls (B : Nat) (W0 : World) : ∀ (n : Nat) (l : List S51) (v : Value) (W : World), SizeOf.sizeOf l < n → Kd.R k51 51 W0 B (fun _ => True) v l → Spo B W0 W →
  Calls Try.prog 33 #[v] W fun e w' => e = .returned (.tuple #[]) ∧ Spo B W0 w' := by
 intro n
 induction n with
 | zero => intro l v W hn; omega
 | succ n ih =>
 intro l v W hn hr hs
 obtain ⟨A, c, rfl⟩ := Kd.R_slice hr
 have IH := Aside0.mk ih
 have HN := Aside0.mk hn
 have HR := Aside0.mk hr
 have HS := Aside0.mk hs
 have HLL := Aside0.mk (Kd.R_reads' hr).2.2.2.1
 clear ih hn hr hs
 go_enter Try.func33, Try.ntmps33
 go_wp2
 go_loopw [2] (fun i wr => ∃ j : Nat, i = .int .i64 (j : Int) ∧ Aside0 (j ≤ l.length) ∧ Aside0 (Spo B W0 wr)) (fun i _ => l.length - (intOf i).toNat)
 case atStart => exact ⟨0, rfl, ⟨Nat.zero_le _⟩, HS⟩
 case round =>
  clear HS
  obtain ⟨j, rfl, hj, HS⟩ := hrel
  by_cases cj : j < l.length
  ·obtain ⟨g, cs, A3, c3, rfl, hB, hg, h0, h3, hr3⟩ := spo_row HR.out j cj
   obtain ⟨y, hy⟩ : ∃ y, y = (l[j]).f0 := ⟨_, rfl⟩
   rw [← hy] at h0
   clear hy
   obtain ⟨cs1, hg1, hq1⟩ := HS.out.row g cs hg
   have d3 : wr.cell? ⟨g, j * 4 + 3, none⟩ = some (.slice A3 (l[j]).f3.length c3) := (blk_cell hg1 _).trans ((hq1 _ _ h3).1 (by omega))
   have HC := Aside0.mk (IH.out (l[j]).f3 _ wr (by have := kids_less (List.getElem_mem cj); have := HN.out; omega) hr3 HS.out)
   have HG := Aside0.mk (And.intro hB (And.intro hg h0))
   have hw : wrap64 ((j : Int) + 1) = (j : Int) + 1 := by have := HLL.out; unfold wrap64; omega
   have HW := Aside0.mk hw
   have c' : decide (j < l.length) = true := decide_eq_true cj
   have CJ := Aside0.mk cj
   have p0 : (0 ≤ (j : Int)) = True := eq_true (by omega)
   have q0 : ((j : Int) < (l.length : Int)) = True := eq_true (by omega)
   have q1 : (j < l.length) = True := eq_true cj
   generalize hkl : (l[j]).f3.length = n3 at d3 HC
   clear cj hB hg h0 h3 hr3 hg1 hq1 hw hkl
   go_upto_region 4 with (go_at_call 33; refine HC.out.mono ?_; rintro e w8 ⟨rfl, hs8⟩)
   have HS8 := Aside0.mk hs8
   obtain ⟨cs8, hg8, hq8⟩ := hs8.row g cs HG.out.2.1
   obtain ⟨z8, hz8⟩ := (hq8 _ _ HG.out.2.2).2 _ rfl
   have d0 : w8.cell? ⟨g, j * 4, none⟩ = some (.int .u8 z8) := (blk_cell hg8 _).trans hz8
   have f0 := blk_frozen hg8 (j * 4)
   clear d3 HC hs8 hg8 hq8 hz8
   go_wp2
   go_roundw
   case rel => exact ⟨j + 1, by rw [HW.out]; rfl, ⟨CJ.out⟩, ⟨HS8.out.set HG.out.2.1 HG.out.1 (by omega) HG.out.2.2 77⟩⟩
   case measure =>
    show l.length - (intOf (.int .i64 (wrap64 ((j : Int) + 1)))).toNat < l.length - (intOf (.int .i64 (j : Int))).toNat
    rw [HW.out]
    show l.length - ((j : Int) + 1).toNat < l.length - ((j : Int)).toNat
    have := CJ.out
    clear HW HR IH HS HG HS8 HN
    omega
  ·have c' : decide (j < l.length) = false := decide_eq_false cj
   clear cj
   go_wp2
   go_end0
   exact ⟨rfl, HS.out⟩
end Go.Proofs.Ytgikmpgpccfiiaa.PSxp
