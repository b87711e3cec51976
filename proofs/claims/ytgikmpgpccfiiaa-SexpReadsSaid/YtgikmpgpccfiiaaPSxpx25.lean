-- A text of the seat Ytgikmpgpccfiiaa, written by a program of this session (drive.py).
import Derived.Test.YtgikmpgpccfiiaaPSxpx0
import Derived.Test.YtgikmpgpccfiiaaPSxpx13
import Derived.Test.YtgikmpgpccfiiaaPSxpx23
import Derived.StillTailTactics
namespace Go.Proofs.Ytgikmpgpccfiiaa.PSxp
open Go.RowKit Go.Proofs.YtgikmpgpccfiiaaW.PrintWords Go.Proofs.YtgikmpgpccfiiaaW.PrintLast Go.Proofs.YtgikmpgpccfiiaaW.PrintMore
attribute [local go_sem] max2_int min2_int max_two min_two max_three min_three max_four min_four   -- for this text's walks alone
set_option linter.unusedVariables false
set_option linter.unusedSimpArgs false

-- BY HAND: alidade/alidadelaw13.read: function 23
-- IMPORT Derived.StillTailTactics
/-! ### a stack of lists that are not ended -/
structure Fr where
 at_ : Int
 v : Value
 L : List S51
def Fr.cells (f : Fr) : List Value := [.int .u8 0, .int .i64 f.at_, .string (⟨#[]⟩ : ByteArray), f.v]
def frs (fs : List Fr) : List Value := fs.flatMap Fr.cells
theorem frs_snoc (fs : List Fr) (f : Fr) : frs (fs ++ [f]) = frs fs ++ f.cells := by simp [frs]
theorem frs_len : ∀ fs : List Fr, (frs fs).length = fs.length * 4
 | [] => rfl
 | f :: fs => by
  have e : frs (f :: fs) = f.cells ++ frs fs := rfl
  rw [e, List.length_append, frs_len fs, List.length_cons, Nat.succ_mul]
  show 4 + _ = _
  omega
/-- Which blocks the rows behind a frame may be. -/
def okF (g : Option Nat) (fs : List Fr) (i : Nat) (k : Nat) : Prop := some k ≠ g ∧ ∀ j f, fs[j]? = some f → j ≠ i → some k ≠ f.v.ownBlock
structure Stk (w : World) (base : Nat) (vO : Value) (fs : List Fr) : Prop where
 own : w.ownsRow base 51 4 vO fs.length (frs fs)
 row : ∀ i f, fs[i]? = some f → k51.R 51 w base (okF vO.ownBlock fs i) f.v f.L
/-- What leaves every block that was there, but for those of other types, leaves the stack. -/
theorem Stk.keep {w w1 : World} {base : Nat} {vO : Value} {fs : List Fr} (h : Stk w base vO fs) (hk : ∀ k, k < w.heap.size → (∃ cells, w.heap[k]? = some (.cells cells 51 (0, 0))) → w1.heap[k]? = w.heap[k]?) : Stk w1 base vO fs := by
 refine ⟨own_move h.own (fun k hb => hk k (own_lt h.own k hb) (own_typed h.own k hb)), fun i f hf => ?_⟩
 have h1 := Kd.R_bound (h.row i f hf)
 have h2 := Kd.R_move (w1 := w1) h1 (fun k ho => by
  obtain ⟨_, _, h3, q, hq, hc⟩ := ho
  have hq' : q = 51 := by
   have : q ∈ [51, 51] := hq
   simpa using this
  subst hq'
  exact hk k h3 hc)
 exact Kd.R_mono h2 (fun _ ho => ho.1)
theorem Stk.below {w w1 : World} {base : Nat} {vO : Value} {fs : List Fr} (h : Stk w base vO fs) (hb : Below w.heap.size w w1) : Stk w1 base vO fs := h.keep (fun k hk _ => hb.block k hk)
/-- Behind an append to the stack itself. -/
theorem Stk.push {W w1 : World} {base : Nat} {vO v1 : Value} {fs : List Fr} (h : Stk W base vO fs) (a : Int)
  (hown : w1.ownsRow base 51 4 v1 (fs.length + 1) (frs fs ++ Fr.cells ⟨a, .slice none 0 0, []⟩)) (hg : W.grownBy w1 vO.ownBlock) (hat : v1.ownBlock = vO.ownBlock ∨ ∃ b, v1.ownBlock = some b ∧ W.heap.size ≤ b) :
  Stk w1 base v1 (fs ++ [⟨a, .slice none 0 0, []⟩]) := by
 refine ⟨by rw [frs_snoc, List.length_append, List.length_singleton]; exact hown, fun i f hf => ?_⟩
 rcases Nat.lt_or_ge i fs.length with hi | hi
 ·rw [List.getElem?_append_left hi] at hf
  have h1 := Kd.R_bound (h.row i f hf)
  have h2 := Kd.R_move (w1 := w1) h1 (fun k ho => hg.block k ho.2.2.1 ho.1.1)
  refine Kd.R_mono h2 (fun k ho => ⟨?_, fun j f' hj hne => ?_⟩)
  ·rcases hat with hat | ⟨b, hb, hle⟩
   ·rw [hat]; exact ho.1.1
   ·rw [hb]
    intro e
    injection e with e
    have := ho.2.2.1
    omega
  ·rcases Nat.lt_or_ge j fs.length with hj' | hj'
   ·rw [List.getElem?_append_left hj'] at hj
    exact ho.1.2 j f' hj hne
   ·rw [List.getElem?_append_right hj'] at hj
    have : f' = ⟨a, .slice none 0 0, []⟩ := by
     cases hd : j - fs.length with
     | zero => rw [hd] at hj; exact (Option.some.inj hj).symm
     | succ n => rw [hd] at hj; cases hj
    rw [this]
    intro e
    cases e
 ·rw [List.getElem?_append_right hi] at hf
  have : f = ⟨a, .slice none 0 0, []⟩ := by
   cases hd : i - fs.length with
   | zero => rw [hd] at hf; exact (Option.some.inj hf).symm
   | succ n => rw [hd] at hf; cases hf
  rw [this]
  exact Kd.R_nil _ _ _ _ _
/-- The stack without its last frame, and that frame's row. -/
theorem Stk.pop {w : World} {base n c : Nat} {A : Option Addr} {fs : List Fr} {f : Fr} (h : Stk w base (.slice A n c) (fs ++ [f])) (hn : n = fs.length + 1) :
  Stk w base (.slice A fs.length c) fs ∧ k51.R 51 w base (okF (Value.slice A n c).ownBlock fs fs.length) f.v f.L := by
 have hb : (Value.slice A fs.length c).ownBlock = (Value.slice A n c).ownBlock := by cases A <;> rfl
 subst hn
 have ho := h.own
 rw [List.length_append, List.length_singleton] at ho
 refine ⟨⟨?_, fun i f' hf => ?_⟩, ?_⟩
 ·have h1 := own_take ho (m := fs.length) (by omega)
  have e : (frs (fs ++ [f])).take (fs.length * 4) = frs fs := by
   rw [frs_snoc, List.take_append_of_le_length (by rw [frs_len]; exact Nat.le_refl _), List.take_of_length_le (by rw [frs_len]; exact Nat.le_refl _)]
  rwa [e] at h1
 ·have hi : i < fs.length := (List.getElem?_eq_some_iff.1 hf).1
  have h1 := h.row i f' (by rw [List.getElem?_append_left hi]; exact hf)
  refine Kd.R_mono h1 (fun k hk => ⟨by rw [hb]; exact hk.1, fun j g hj hne => hk.2 j g ?_ hne⟩)
  rw [List.getElem?_append_left (List.getElem?_eq_some_iff.1 hj).1]; exact hj
 ·have h1 := h.row fs.length f (by rw [List.getElem?_append_right (Nat.le_refl _), Nat.sub_self]; rfl)
  refine Kd.R_mono h1 (fun k hk => ⟨hk.1, fun j g hj hne => hk.2 j g ?_ hne⟩)
  rw [List.getElem?_append_left (List.getElem?_eq_some_iff.1 hj).1]; exact hj
/-- Behind an append to the last frame's list, stored back. -/
theorem Stk.kid {W w1 : World} {base n c g : Nat} {v1 : Value} {fs : List Fr} {f : Fr} {x : S51} (h : Stk W base (.slice (some ⟨g, 0, none⟩) n c) (fs ++ [f])) (hn : n = (fs ++ [f]).length)
  (hR : k51.R 51 w1 base (okF (some g) (fs ++ [f]) fs.length) v1 (f.L ++ [x])) (hg : W.grownBy w1 f.v.ownBlock) (hat : v1.ownBlock = f.v.ownBlock ∨ ∃ b, v1.ownBlock = some b ∧ W.heap.size ≤ b) :
  Stk (w1.setCell ⟨g, fs.length * 4 + 3, none⟩ v1) base (.slice (some ⟨g, 0, none⟩) n c) (fs ++ [⟨f.at_, v1, f.L ++ [x]⟩]) := by
 subst hn
 have hgb : (Value.slice (some ⟨g, 0, none⟩) (fs ++ [f]).length c).ownBlock = some g := rfl
 have hlast : (fs ++ [f])[fs.length]? = some f := by rw [List.getElem?_append_right (Nat.le_refl _), Nat.sub_self]; rfl
 have hfl := h.row fs.length f hlast
 have hgne : some g ≠ f.v.ownBlock := fun e => (hfl.1 g e.symm).1 rfl
 have hglt : g < W.heap.size := own_lt h.own g rfl
 have ho1 := own_other h.own hg (.inr (by rw [hgb]; exact hgne))
 have hs := (World.ownsRow.stored ho1 (fs.length * 4 + 3) v1).1
 have hset : (frs (fs ++ [f])).set (fs.length * 4 + 3) v1 = frs (fs ++ [⟨f.at_, v1, f.L ++ [x]⟩]) := by
  rw [frs_snoc, frs_snoc, List.set_append_right _ _ (by rw [frs_len]; omega), frs_len, Nat.add_sub_cancel_left]
  rfl
 rw [hset] at hs
 have hsame : ∀ k, k ≠ g → (w1.setCell ⟨g, fs.length * 4 + 3, none⟩ v1).heap[k]? = w1.heap[k]? := fun k hk => heap_setCell_other w1 _ k v1 hk
 refine ⟨by simp only [List.length_append, List.length_singleton] at hs ⊢; exact hs, fun i f' hf => ?_⟩
 rcases Nat.lt_or_ge i fs.length with hi | hi
 ·rw [List.getElem?_append_left hi] at hf
  have h1 := Kd.R_bound (h.row i f' (by rw [List.getElem?_append_left hi]; exact hf))
  have h2 := Kd.R_move (w1 := w1.setCell ⟨g, fs.length * 4 + 3, none⟩ v1) h1 (fun k ho => by
   have hkf : some k ≠ f.v.ownBlock := ho.1.2 fs.length f hlast (by omega)
   rw [hsame k (fun e => ho.1.1 (by rw [hgb, e]))]
   exact hg.block k ho.2.2.1 hkf)
  refine Kd.R_mono h2 (fun k ho => ⟨ho.1.1, fun j f2 hj hne => ?_⟩)
  rcases Nat.lt_or_ge j fs.length with hj' | hj'
  ·rw [List.getElem?_append_left hj'] at hj
   exact ho.1.2 j f2 (by rw [List.getElem?_append_left hj']; exact hj) hne
  ·rw [List.getElem?_append_right hj'] at hj
   have : f2 = ⟨f.at_, v1, f.L ++ [x]⟩ := by
    cases hd : j - fs.length with
    | zero => rw [hd] at hj; exact (Option.some.inj hj).symm
    | succ n => rw [hd] at hj; cases hj
   rw [this]
   show some k ≠ v1.ownBlock
   rcases hat with hat | ⟨b, hb, hle⟩
   ·rw [hat]; exact ho.1.2 fs.length f hlast (by omega)
   ·rw [hb]
    intro e
    injection e with e
    have := ho.2.2.1
    omega
 ·rw [List.getElem?_append_right hi] at hf
  have hz : i = fs.length ∧ f' = ⟨f.at_, v1, f.L ++ [x]⟩ := by
   cases hd : i - fs.length with
   | zero => rw [hd] at hf; exact ⟨by omega, (Option.some.inj hf).symm⟩
   | succ n => rw [hd] at hf; cases hf
  obtain ⟨rfl, rfl⟩ := hz
  have h2 := Kd.R_move (w1 := w1.setCell ⟨g, fs.length * 4 + 3, none⟩ v1) hR (fun k ho => hsame k (fun e => ho.1 (by rw [e])))
  refine Kd.R_mono h2 (fun k ho => ⟨ho.1, fun j f2 hj hne => ?_⟩)
  rcases Nat.lt_or_ge j fs.length with hj' | hj'
  ·rw [List.getElem?_append_left hj'] at hj
   exact ho.2 j f2 (by rw [List.getElem?_append_left hj']; exact hj) hne
  ·have hl := (List.getElem?_eq_some_iff.1 hj).1
   rw [List.length_append, List.length_singleton] at hl
   omega
/-! ### a meter of which Depth alone is asked -/
def mc (deep sp : Int) : Array Value := #[.int .i64 0, .int .i64 0, .int .i64 0, .int .i64 deep, .int .i64 0, .int .i64 0, .int .i64 0, .int .i64 sp, .pointer none]
theorem ready_calls (g : Nat) (deep sp : Int) (w : World) (hm : w.heap[g]? = some (.cells (mc deep sp) 98 (0, 0))) :
  Calls Try.prog 73 #[.pointer (some ⟨g, 0, none⟩)] w fun e w' => e = .returned (.int .i64 0) ∧ Drawn0 w w' := by
 have h8 : w.cell? ⟨g, 8, none⟩ = some (.pointer none) := (blk_cell hm 8).trans rfl
 clear hm
 go_enter Try.func73, Try.ntmps73
 go_wp2
 go_ret
 exact ⟨rfl, Drawn0.refl _⟩
theorem use_calls (g : Nat) (n deep sp : Int) (s : ByteArray) (w : World) (hm : w.heap[g]? = some (.cells (mc deep sp) 98 (0, 0))) (hle : n ≤ deep) :
  Calls Try.prog 74 #[.pointer (some ⟨g, 0, none⟩), .string s, .pointer (some ⟨g, 7, none⟩), .int .i64 n, .int .i64 deep] w fun e w' => e = .returned (.int .i64 0) ∧ ∃ (sp' : Int) (m : Nat), w' = (w.setCell ⟨g, 7, none⟩ (.int .i64 sp')).drewN m := by
 have h7 : w.cell? ⟨g, 7, none⟩ = some (.int .i64 sp) := (blk_cell hm 7).trans rfl
 have f7 := blk_frozen hm 7
 have c : decide (n > deep) = false := decide_eq_false (by omega)
 clear hm hle
 go_enter Try.func74, Try.ntmps74
 go_wp2
 all_goals
  go_ret
  exact ⟨rfl, _, 0, rfl⟩
theorem use_no (g : Nat) (n deep sp : Int) (s : ByteArray) (B : Nat) (w : World) (hm : w.heap[g]? = some (.cells (mc deep sp) 98 (0, 0))) (hB : B ≤ g) (hle : deep < n) :
  Calls Try.prog 74 #[.pointer (some ⟨g, 0, none⟩), .string s, .pointer (some ⟨g, 7, none⟩), .int .i64 n, .int .i64 deep] w fun e w' => e = .returned (.int .i64 46) ∧ Below B w w' ∧ ∀ k, k < w.heap.size → k ≠ g → w'.heap[k]? = w.heap[k]? := by
 have h8 : w.cell? ⟨g, 8, none⟩ = some (.pointer none) := (blk_cell hm 8).trans rfl
 have f8 := blk_frozen hm 8
 have hg : g < w.heap.size := blk_lt hm
 have HB := Aside0.mk (((Below.refl B w).setCell (p := ⟨g, 8, none⟩) hB (.pointer (some ⟨w.heap.size, 0, none⟩))).alloc (by simp [World.setCell]; omega) (.cells #[.string s, .int .i64 deep] 124))
 have c : decide (n > deep) = true := decide_eq_true (by omega)
 clear hm hle
 go_enter Try.func74, Try.ntmps74
 go_wp2
 go_ret
 refine ⟨rfl, HB.out, fun k hk hne => ?_⟩
 rw [Below.heap_alloc _ _ _ (by simpa [World.setCell] using hk)]
 exact heap_setCell_other w _ k _ hne

set_option maxRecDepth 100000 in
set_option maxHeartbeats 2000000 in
theorem Deep_calls (g : Nat) (n deep sp : Int) (B : Nat) (w : World) (hm : w.heap[g]? = some (.cells (mc deep sp) 98 (0, 0))) (hB : B ≤ g) (hle : n ≤ deep) :
  Calls Try.prog 59 #[.pointer (some ⟨g, 0, none⟩), .int .i64 n] w fun e w' => e = .returned (.int .i64 0) ∧ (∃ sp' : Int, w'.heap[g]? = some (.cells (mc deep sp') 98 (0, 0))) ∧ (∀ k, k ≠ g → w'.heap[k]? = w.heap[k]?) ∧ w'.heap.size = w.heap.size ∧ Below B w w' := by
 have HM := Aside0.mk hm
 have HR := Aside0.mk (ready_calls g deep sp w hm)
 clear hm
 go_enter Try.func59, Try.ntmps59
 go_upto_region 4 with (first | (go_at_call 73; refine HR.out.mono ?_; rintro e w' ⟨rfl, ⟨nd, rfl⟩⟩))
 have hmz : (w.drewN nd).heap[g]? = some (.cells (mc deep sp) 98 (0, 0)) := HM.out
 generalize hwz : w.drewN nd = wz at hmz ⊢
 have HZ := Aside0.mk (show wz.heap = w.heap ∧ Below B w wz by rw [← hwz]; exact ⟨rfl, rfl, rfl, rfl, Nat.le_refl _, fun _ _ => rfl⟩)
 clear hwz
 have h3 : wz.cell? ⟨g, 3, none⟩ = some (.int .i64 deep) := (blk_cell hmz 3).trans rfl
 have HU := Aside0.mk (fun s => use_calls g n deep sp s wz.drew hmz hle)
 have HMZ := Aside0.mk hmz
 clear hmz
 go_still_tail 11, (by kernel_rfl)
 repeat still_step
 try (refine wpStill_nil ?_)
 change wpList _ _ _ _ _ wz.drew
 go_wp2_with (first | (go_at_call 74; refine (HU.out _).mono ?_; rintro e w' ⟨rfl, sp', m, rfl⟩))
 go_ret
 have hlt := blk_lt HMZ.out
 refine ⟨rfl, ⟨sp', ?_⟩, fun k hk => ?_, ?_, ?_⟩
 ·show ((wz.drew.setCell ⟨g, 7, none⟩ (.int .i64 sp')).heap)[g]? = _
  exact heap_setCell_same wz.drew g 7 (mc deep sp) 98 _ HMZ.out
 ·show ((wz.drew.setCell ⟨g, 7, none⟩ (.int .i64 sp')).heap)[k]? = _
  rw [heap_setCell_other _ _ k _ hk]
  show wz.heap[k]? = _
  rw [HZ.out.1]
 ·show ((wz.drew.setCell ⟨g, 7, none⟩ (.int .i64 sp')).heap).size = _
  rw [← HZ.out.1]
  simp [World.setCell]
 ·have h := HZ.out.2.setCell (p := ⟨g, 7, none⟩) hB (.int .i64 sp')
  exact ⟨h.os, h.tape, h.output, h.size, h.block⟩

set_option maxRecDepth 100000 in
set_option maxHeartbeats 2000000 in
theorem Deep_no (g : Nat) (n deep sp : Int) (B : Nat) (w : World) (hm : w.heap[g]? = some (.cells (mc deep sp) 98 (0, 0))) (hB : B ≤ g) (hle : deep < n) :
  Calls Try.prog 59 #[.pointer (some ⟨g, 0, none⟩), .int .i64 n] w fun e w' => e = .returned (.int .i64 46) ∧ Below B w w' ∧ ∀ k, k < w.heap.size → k ≠ g → w'.heap[k]? = w.heap[k]? := by
 have HM := Aside0.mk hm
 have HR := Aside0.mk (ready_calls g deep sp w hm)
 clear hm
 go_enter Try.func59, Try.ntmps59
 go_upto_region 4 with (first | (go_at_call 73; refine HR.out.mono ?_; rintro e w' ⟨rfl, ⟨nd, rfl⟩⟩))
 have hmz : (w.drewN nd).heap[g]? = some (.cells (mc deep sp) 98 (0, 0)) := HM.out
 generalize hwz : w.drewN nd = wz at hmz ⊢
 have HZ := Aside0.mk (show wz.heap = w.heap ∧ Below B w wz by rw [← hwz]; exact ⟨rfl, rfl, rfl, rfl, Nat.le_refl _, fun _ _ => rfl⟩)
 clear hwz
 have h3 : wz.cell? ⟨g, 3, none⟩ = some (.int .i64 deep) := (blk_cell hmz 3).trans rfl
 have HU := Aside0.mk (fun s => use_no g n deep sp s B wz.drew hmz hB hle)
 clear hmz
 go_still_tail 11, (by kernel_rfl)
 repeat still_step
 try (refine wpStill_nil ?_)
 change wpList _ _ _ _ _ wz.drew
 go_wp2_with (first | (go_at_call 74; refine (HU.out _).mono ?_; rintro e w' ⟨rfl, hb, hkp⟩))
 go_ret
 refine ⟨rfl, HZ.out.2.drew.trans (hb.mono (Nat.le_refl _)), fun k hk hne => ?_⟩
 have hk' : k < wz.drew.heap.size := by show k < wz.heap.size; rw [HZ.out.1]; exact hk
 rw [hkp k hk' hne]
 show wz.heap[k]? = _
 rw [HZ.out.1]

theorem New_calls (deep : Int) (w : World) (h : budget_May.f 0 0 0 deep = some true) :
  Calls Try.prog 30 #[.agg #[.int .i64 0, .int .i64 0, .int .i64 0, .int .i64 deep]] w fun e w' => (∃ g : Nat, e = .returned (.tuple #[.pointer (some ⟨g, 0, none⟩), .int .i64 0]) ∧ w.heap.size ≤ g ∧ w'.heap[g]? = some (.cells (mc deep 0) 98 (0, 0))) ∧ Below w.heap.size w w' := by
 have HM := Aside0.mk (fun W => budget_May.calls 0 0 0 deep true W h)
 have HB := Aside0.mk (Below.refl w.heap.size w)
 clear h
 go_enter Try.func30, Try.ntmps30
 go_upto_region 3 with (first | (go_at_call 58; refine (HM.out _).mono ?_; rintro e w' ⟨rfl, hb⟩))
 have hbx := blk_below (blk_new w (.cells #[.int .i64 0, .int .i64 0, .int .i64 0, .int .i64 deep] 65)) hb
 have h0 : w'.cell? ⟨w.heap.size, 0, none⟩ = some (.int .i64 0) := (blk_cell hbx 0).trans rfl
 have h1 : w'.cell? ⟨w.heap.size, 1, none⟩ = some (.int .i64 0) := (blk_cell hbx 1).trans rfl
 have h2 : w'.cell? ⟨w.heap.size, 2, none⟩ = some (.int .i64 0) := (blk_cell hbx 2).trans rfl
 have h3 : w'.cell? ⟨w.heap.size, 3, none⟩ = some (.int .i64 deep) := (blk_cell hbx 3).trans rfl
 have HB2 := Aside0.mk (below_step ((Below.refl w.heap.size w).alloc (Nat.le_refl _) _) hb)
 clear hbx hb
 go_wp2
 go_ret2
 exact ⟨⟨_, rfl, HB2.out.size, blk_new w' _⟩, HB2.out.alloc HB2.out.size _⟩
theorem New_no (deep : Int) (w : World) (h : budget_May.f 0 0 0 deep = some false) :
  Calls Try.prog 30 #[.agg #[.int .i64 0, .int .i64 0, .int .i64 0, .int .i64 deep]] w fun e w' => e = .returned (.tuple #[.pointer none, .int .i64 1]) ∧ Below w.heap.size w w' := by
 have HM := Aside0.mk (fun W => budget_May.calls 0 0 0 deep false W h)
 clear h
 go_enter Try.func30, Try.ntmps30
 go_wp2_with (first | (go_at_call 58; refine (HM.out _).mono ?_; rintro e w' ⟨rfl, hb⟩))
 go_ret2
 exact ⟨rfl, below_step ((Below.refl w.heap.size w).alloc (Nat.le_refl _) _) hb⟩
/-! ### what is read -/
def addK : List (Int × List S51) → S51 → List (Int × List S51)
 | [], _ => []
 | [(a, l)], x => [(a, l ++ [x])]
 | f :: g :: r, x => f :: addK (g :: r) x
def rdL (deep len : Int) : List S32 → List (Int × List S51) → (List S51) × Int × Int
 | [], fs => if 1 < fs.length then ([], len, 4) else ((fs.headD (0, [])).2, 0, 0)
 | w :: ws, fs =>
  if w.f0 = 1 then (if (fs.length : Int) > deep then ([], w.f1, 46) else rdL deep len ws (fs ++ [(w.f1, [])]))
  else if w.f0 = 2 then (if fs.length = 1 then ([], w.f1, 4) else rdL deep len ws (addK fs.dropLast ⟨0, (fs.getLastD (0, [])).1, ⟨#[]⟩, (fs.getLastD (0, [])).2⟩))
  else rdL deep len ws (addK fs ⟨w.f0, w.f1, w.f3, []⟩)
theorem addK_snoc : ∀ (fs : List (Int × List S51)) (a : Int) (l : List S51) (x : S51), addK (fs ++ [(a, l)]) x = fs ++ [(a, l ++ [x])]
 | [], a, l, x => rfl
 | [f], a, l, x => rfl
 | f :: g :: r, a, l, x => by
  show f :: addK (g :: r ++ [(a, l)]) x = _
  rw [addK_snoc (g :: r) a l x]; rfl
/-- A row of scalars or of nodes is kept where the blocks of its type are. -/
theorem R_keepT {α : Type} {d : Kd α} {e : Nat} {w w1 : World} {base : Nat} {ok : Nat → Prop} {v : Value} {xs : List α} (h : d.R e w base ok v xs) (hE : ∀ q ∈ e :: d.E, q = e)
  (hk : ∀ k, k < w.heap.size → (∃ cells, w.heap[k]? = some (.cells cells e (0, 0))) → w1.heap[k]? = w.heap[k]?) : d.R e w1 base ok v xs := by
 have h2 := Kd.R_move (w1 := w1) (Kd.R_bound h) (fun k ho => by
  obtain ⟨_, _, h3, q, hq, hc⟩ := ho
  obtain rfl := hE q hq
  exact hk k h3 hc)
 exact Kd.R_mono h2 (fun _ ho => ho.1)
theorem infoNode : (Try.prog.info? 51).map (fun i => (i.zero, i.size, i.bytes)) = some (some (.agg #[.int .u8 0, .int .i64 0, .string (⟨#[]⟩ : ByteArray), .slice none 0 0]), 4, 56) := by kernel_rfl
def frl (fs : List Fr) : List (Int × List S51) := fs.map (fun f => (f.at_, f.L))
theorem frl_len (fs : List Fr) : (frl fs).length = fs.length := List.length_map _
theorem frl_snoc (fs : List Fr) (f : Fr) : frl (fs ++ [f]) = frl fs ++ [(f.at_, f.L)] := by simp [frl]
theorem setCell_comm (w : World) (a b : Addr) (u v : Value) (h : a.block ≠ b.block) : (w.setCell a u).setCell b v = (w.setCell b v).setCell a u := by
 simp only [World.setCell]
 congr 1
 apply Array.ext_getElem?
 intro i
 simp only [Array.getElem?_modify]
 by_cases h1 : b.block = i
 ·by_cases h2 : a.block = i
  ·exact absurd (h2.trans h1.symm) h
  ·simp [h1, h2]
 ·by_cases h2 : a.block = i <;> simp [h1, h2]
theorem own_cell {w : World} {base n m g c size : Nat} {e : TypeId} {xs : List Value} (h : w.ownsRow base e size (.slice (some ⟨g, 0, none⟩) m c) n xs) {j : Nat} {u : Value} (hj : xs[j]? = some u) : w.cell? ⟨g, j, none⟩ = some u := by
 obtain ⟨hl, h2⟩ := h
 rcases h2 with ⟨he, _⟩ | ⟨g', cap, cur, he, _, hh, _, _, _, ht⟩
 ·injection he with h1
  cases h1
 ·injection he with h1
  injection h1 with h1
  injection h1 with h1
  subst h1
  have h3 := blk_cell hh j
  rw [h3]
  rw [← ht] at hj
  obtain ⟨hlt, hv⟩ := List.getElem?_eq_some_iff.1 hj
  rw [List.getElem_take] at hv
  rw [← Array.getElem?_toList]
  rw [List.length_take] at hlt
  rw [List.getElem?_eq_getElem (by omega), hv]
theorem frs_get {f : Fr} {j : Nat} {u : Value} (hj : f.cells[j]? = some u) : ∀ {fs : List Fr} {i : Nat}, fs[i]? = some f → (frs fs)[i * 4 + j]? = some u
 | [], i, h => by cases h
 | f' :: fs, 0, h => by
  obtain rfl := Option.some.inj h
  have e : frs (f' :: fs) = f'.cells ++ frs fs := rfl
  rw [e, List.getElem?_append_left (by rw [Nat.zero_mul, Nat.zero_add]; exact (List.getElem?_eq_some_iff.1 hj).1), Nat.zero_mul, Nat.zero_add]
  exact hj
 | f' :: fs, i + 1, h => by
  have e : frs (f' :: fs) = f'.cells ++ frs fs := rfl
  have e4 : f'.cells.length = 4 := rfl
  rw [e, List.getElem?_append_right (by rw [e4]; omega), e4, show (i + 1) * 4 + j - 4 = i * 4 + j by omega]
  exact frs_get hj (fs := fs) (i := i) h
theorem Stk.cell {w : World} {base n c g : Nat} {fs : List Fr} (h : Stk w base (.slice (some ⟨g, 0, none⟩) n c) fs) {i : Nat} {f : Fr} (hf : fs[i]? = some f) {j : Nat} {u : Value} (hj : f.cells[j]? = some u) : w.cell? ⟨g, i * 4 + j, none⟩ = some u := by
 refine own_cell h.own ?_
 exact frs_get hj hf
section
variable {P : Program} {ops : Array Oper} {Q : Exit → Act → World → Prop} {md : Region.Mode} {S : World → Prop} {ds : List Nat}
theorem run_step_ {oi : Oper} {N : Option Tmp} {a : Act} {w w1 : World} {v : Value} {K : Act → World → Prop} (hw : Region.wanted oi (yielded ops a.tmps) = true) (hN : oi.dst = N) (hrun : (execOp a.eval oi).run P w = .ok (.value v) w1) (h : K (a.put N v) w1) :
  if Region.wanted oi (yielded ops a.tmps) = true then Oper.wp P oi a w K Q else K (a.put N undef) w := by
 rw [if_pos hw]
 subst hN
 unfold Oper.wp
 rw [hrun, Oper.upon_value]
 exact h
theorem two_last_ {i j : Nat} {Ni Nj : Option Tmp} {oi oj : Oper} {fuel : Nat} {l : Array Bool} {a : Act} {w : World} (li lj : Array Bool) (hi : ops[i]? = some oi) (hj : ops[j]? = some oj) (hNi : oi.dst = Ni) (hNj : oj.dst = Nj)
  (hc : (Region.ready md ops l == [i, j] && l.setIfInBounds i true == li && l.setIfInBounds j true == lj) = true) (hdi : i ∈ ds) (hdj : j ∈ ds)
  (h1 : ∀ K : Act → World → Prop, Shut (∀ a' w', wpAnyLast P md ops Q S ds fuel li a' w' → K a' w') → if Region.wanted oi (yielded ops a.tmps) = true then Oper.wp P oi a w K Q else K (a.put Ni undef) w)
  (h2 : ∀ K : Act → World → Prop, Shut (∀ a' w', wpAnyLast P md ops Q S ds fuel lj a' w' → K a' w') → if Region.wanted oj (yielded ops a.tmps) = true then Oper.wp P oj a w K Q else K (a.put Nj undef) w) :
  wpAnyLast P md ops Q S ds (fuel + 1) l a w := by
 subst hNi
 subst hNj
 simp only [Bool.and_eq_true, beq_iff_eq] at hc
 obtain ⟨⟨h3, h4⟩, h5⟩ := hc
 subst h4
 subst h5
 exact wpAnyLast_ready h3 (by simp) (AllReadyL.cons_last hi hdi (fun K hK => h1 K hK) (AllReadyL.cons_last hj hdj (fun K hK => h2 K hK) AllReadyL.nil))
end
theorem Kd.M_below_ {α : Type} {d : Kd α} {w w1 : World} {base : Nat} {ok : Nat → Prop} {x : α} {cs : List Value} (h : d.M w base ok x cs) (hb : Below w.heap.size w w1) : d.M w1 base ok x cs := Kd.M_step h (fun k _ hk => hb.block k hk)
/-- the four cells of a node, stored -/
def put4 (w : World) (g m : Nat) (c0 c1 c2 c3 : Value) : World := (((w.setCell ⟨g, m, none⟩ c0).setCell ⟨g, m + 1, none⟩ c1).setCell ⟨g, m + 2, none⟩ c2).setCell ⟨g, m + 3, none⟩ c3
theorem put4_other (w : World) (g m k : Nat) (c0 c1 c2 c3 : Value) (h : k ≠ g) : (put4 w g m c0 c1 c2 c3).heap[k]? = w.heap[k]? := by
 unfold put4
 rw [heap_setCell_other _ _ k _ h, heap_setCell_other _ _ k _ h, heap_setCell_other _ _ k _ h, heap_setCell_other _ _ k _ h]
theorem put4_comm (w : World) (g m : Nat) (c0 c1 c2 c3 : Value) (a : Addr) (u : Value) (h : g ≠ a.block) : (put4 w g m c0 c1 c2 c3).setCell a u = put4 (w.setCell a u) g m c0 c1 c2 c3 := by
 unfold put4
 rw [setCell_comm _ ⟨g, m + 3, none⟩ a c3 u h, setCell_comm _ ⟨g, m + 2, none⟩ a c2 u h, setCell_comm _ ⟨g, m + 1, none⟩ a c1 u h, setCell_comm _ ⟨g, m, none⟩ a c0 u h]
theorem put4_size (w : World) (g m : Nat) (c0 c1 c2 c3 : Value) : (put4 w g m c0 c1 c2 c3).heap.size = w.heap.size := by
 simp [put4, World.setCell]
theorem put4_own {w : World} {base g n c : Nat} {inner : List Value} {z0 z1 z2 z3 : Value} (h : w.ownsRow base 51 4 (.slice (some ⟨g, 0, none⟩) (n + 1) c) (n + 1) (inner ++ [z0, z1, z2, z3])) (c0 c1 c2 c3 : Value) :
  (put4 w g (n * 4) c0 c1 c2 c3).ownsRow base 51 4 (.slice (some ⟨g, 0, none⟩) (n + 1) c) (n + 1) (inner ++ [c0, c1, c2, c3]) := by
 have hl : inner.length = n * 4 := by
  have := h.1
  rw [List.length_append] at this
  have e : [z0, z1, z2, z3].length = 4 := rfl
  omega
 have h0 := (World.ownsRow.stored h (n * 4) c0).1
 have h1 := (World.ownsRow.stored h0 (n * 4 + 1) c1).1
 have h2 := (World.ownsRow.stored h1 (n * 4 + 2) c2).1
 have h3 := (World.ownsRow.stored h2 (n * 4 + 3) c3).1
 have e : ((((inner ++ [z0, z1, z2, z3]).set (n * 4) c0).set (n * 4 + 1) c1).set (n * 4 + 2) c2).set (n * 4 + 3) c3 = inner ++ [c0, c1, c2, c3] := by
  rw [List.set_append_right _ _ (by omega), List.set_append_right _ _ (by omega), List.set_append_right _ _ (by omega), List.set_append_right _ _ (by omega), hl, Nat.sub_self, Nat.add_sub_cancel_left, Nat.add_sub_cancel_left, Nat.add_sub_cancel_left]
  rfl
 rw [e] at h3
 exact h3
/-- Behind the append and both stores. -/
theorem Stk.node {wx w3 : World} {B gO nO cO nI g1 k1 : Nat} {fi : List Fr} {fl : Fr} {X : S51} {inner : List Value} {z0 z1 z2 z3 c0 c1 c2 c3 : Value}
  (hS : Stk wx B (.slice (some ⟨gO, 0, none⟩) nO cO) (fi ++ [fl])) (hn : nO = (fi ++ [fl]).length) (hI : nI = fi.length)
  (hok : ∀ k, fl.v.ownBlock = some k → okF (some gO) (fi ++ [fl]) nI k) (hrep : Reps (k51.M wx B (fun k => okF (some gO) (fi ++ [fl]) nI k ∧ some k ≠ fl.v.ownBlock)) k51.sz fl.L inner)
  (hP : k51.M wx B (fun k => some k ≠ some gO ∧ ∀ f ∈ fi ++ [fl], some k ≠ f.v.ownBlock) X [c0, c1, c2, c3])
  (hown3 : w3.ownsRow B 51 4 (.slice (some ⟨g1, 0, none⟩) (fl.L.length + 1) k1) (fl.L.length + 1) (inner ++ [z0, z1, z2, z3]))
  (hg3 : wx.grownBy w3 fl.v.ownBlock) (hat : some g1 = fl.v.ownBlock ∨ ∃ b, some g1 = some b ∧ wx.heap.size ≤ b) :
  Stk ((put4 w3 g1 (fl.L.length * 4) c0 c1 c2 c3).setCell ⟨gO, nI * 4 + 3, none⟩ (.slice (some ⟨g1, 0, none⟩) (fl.L.length + 1) k1)) B (.slice (some ⟨gO, 0, none⟩) nO cO) (fi ++ [⟨fl.at_, .slice (some ⟨g1, 0, none⟩) (fl.L.length + 1) k1, fl.L ++ [X]⟩]) := by
 subst hI
 have hown4 := put4_own hown3 c0 c1 c2 c3
 have hg4 : wx.grownBy (put4 w3 g1 (fl.L.length * 4) c0 c1 c2 c3) fl.v.ownBlock := by
  refine ⟨hg3.os, hg3.tape, hg3.output, by rw [put4_size]; exact hg3.size, fun k hk hne => ?_⟩
  rw [put4_other _ _ _ _ _ _ _ _ ?_]
  ·exact hg3.block k hk hne
  ·rintro rfl
   rcases hat with hat | ⟨b, hb, hle⟩
   ·exact hne hat
   ·injection hb with hb
    omega
 have hR := Kd.R_appended (d := k51) (e := 51) (ok := okF (some gO) (fi ++ [fl]) fi.length) hok hrep hP (fun k hk => ⟨⟨hk.1, fun j f hj _ => hk.2 f (List.mem_of_getElem? hj)⟩, hk.2 fl (by simp)⟩)
  (fun k hk => ⟨fun e => by injection e with e; have := own_lt hS.own gO rfl; omega, fun j f hj _ e => by have := Kd.R_lt (hS.row j f hj) k e.symm; omega⟩) hown4 hg4 hat
 exact hS.kid hn hR hg4 hat
/-- What a round of the loop keeps. -/
structure Rd (w wr : World) (B g : Nat) (deep : Int) (vW : Value) (ws : List S32) (vO : Value) (fs : List Fr) (n : Nat) : Prop where
 below : Below B w wr
 stk : Stk wr B vO fs
 met : ∃ sp, wr.heap[g]? = some (.cells (mc deep sp) 98 (0, 0))
 row : k32.R 32 wr B (fun _ => True) vW ws
 pos : 0 < fs.length
 few : fs.length ≤ n + 1
 low : ∀ f ∈ fs, f.L.length ≤ n
theorem Rd.node {w wq wx w3 : World} {B g gO nO cO nI g1 k1 n : Nat} {deep : Int} {vW : Value} {ws : List S32} {fi : List Fr} {fl : Fr} {X : S51} {c0 c1 c2 c3 : Value}
  (h : Rd w wq B g deep vW ws (.slice (some ⟨gO, 0, none⟩) nO cO) (fi ++ [fl]) n) (hx : wx.heap = wq.heap) (hb3 : Below B w w3) (hB1 : B ≤ g1)
  (hS : Stk wx B (.slice (some ⟨gO, 0, none⟩) nO cO) (fi ++ [fl])) (hI : nI = fi.length)
  (hS5 : Stk ((put4 w3 g1 (fl.L.length * 4) c0 c1 c2 c3).setCell ⟨gO, nI * 4 + 3, none⟩ (.slice (some ⟨g1, 0, none⟩) (fl.L.length + 1) k1)) B (.slice (some ⟨gO, 0, none⟩) nO cO) (fi ++ [⟨fl.at_, .slice (some ⟨g1, 0, none⟩) (fl.L.length + 1) k1, fl.L ++ [X]⟩]))
  (hg3 : wx.grownBy w3 fl.v.ownBlock) (hat : some g1 = fl.v.ownBlock ∨ ∃ b, some g1 = some b ∧ wx.heap.size ≤ b) :
  Rd w ((put4 w3 g1 (fl.L.length * 4) c0 c1 c2 c3).setCell ⟨gO, nI * 4 + 3, none⟩ (.slice (some ⟨g1, 0, none⟩) (fl.L.length + 1) k1)) B g deep vW ws (.slice (some ⟨gO, 0, none⟩) nO cO) (fi ++ [⟨fl.at_, .slice (some ⟨g1, 0, none⟩) (fl.L.length + 1) k1, fl.L ++ [X]⟩]) (n + 1) := by
 subst hI
 have hfl : (fi ++ [fl])[fi.length]? = some fl := by rw [List.getElem?_append_right (Nat.le_refl _), Nat.sub_self]; rfl
 obtain ⟨cO', hcO⟩ := own_typed hS.own gO rfl
 have hty : ∀ k, fl.v.ownBlock = some k → ∃ cells, wx.heap[k]? = some (.cells cells 51 (0, 0)) := fun k hk => by
  obtain ⟨inner, ho⟩ := Kd.R_own (hS.row fi.length fl hfl)
  exact own_typed ho k hk
 have key : ∀ (k : Nat) (cells : Array Value) (t : TypeId), wx.heap[k]? = some (Obj.cells cells t (0, 0)) → t ≠ 51 → ((put4 w3 g1 (fl.L.length * 4) c0 c1 c2 c3).setCell ⟨gO, fi.length * 4 + 3, none⟩ (.slice (some ⟨g1, 0, none⟩) (fl.L.length + 1) k1)).heap[k]? = wx.heap[k]? := by
  intro k cells t hk ht
  have hkl := blk_lt hk
  have hkv : some k ≠ fl.v.ownBlock := fun e => by
   obtain ⟨cs, hc⟩ := hty k e.symm
   exact blk_ne hk hc ht rfl
  have hk1 : k ≠ g1 := by
   rintro rfl
   rcases hat with hat | ⟨b, hb, hle⟩
   ·exact hkv hat
   ·injection hb with hb
    omega
  rw [heap_setCell_other _ ⟨gO, fi.length * 4 + 3, none⟩ k _ (blk_ne hk hcO ht), put4_other _ _ _ _ _ _ _ _ hk1]
  exact hg3.block k hkl hkv
 have hBO : B ≤ gO := own_base hS.own gO rfl
 obtain ⟨sp, hsp⟩ := h.met
 refine ⟨?_, hS5, ⟨sp, ?_⟩, ?_, by simp, ?_, fun f hf => ?_⟩
 ·unfold put4
  exact ((((hb3.setCell (p := ⟨g1, _, none⟩) hB1 _).setCell (p := ⟨g1, _, none⟩) hB1 _).setCell (p := ⟨g1, _, none⟩) hB1 _).setCell (p := ⟨g1, _, none⟩) hB1 _).setCell (p := ⟨gO, _, none⟩) hBO _
 ·rw [← hx] at hsp
  rw [key g _ 98 hsp (by decide)]
  exact hsp
 ·refine R_keepT (w := wx) ?_ (by decide) (fun k _ ⟨cs, hc⟩ => key k cs 32 hc (by decide))
  exact R_keepT h.row (by decide) (fun k _ _ => by rw [hx])
 ·have h1 := h.few
  rw [List.length_append, List.length_singleton] at h1 ⊢
  omega
 ·rcases List.mem_append.1 hf with hf | hf
  ·have := h.low f (List.mem_append_left _ hf)
   omega
  ·rw [List.mem_singleton.1 hf]
   have := h.low fl (by simp)
   show (fl.L ++ [X]).length ≤ n + 1
   rw [List.length_append, List.length_singleton]
   omega
theorem Rd.pop {w wr : World} {B g gO nO cO n : Nat} {deep : Int} {vW : Value} {ws : List S32} {fi : List Fr} {fl : Fr} (h : Rd w wr B g deep vW ws (.slice (some ⟨gO, 0, none⟩) nO cO) (fi ++ [fl]) n) (hn : nO = fi.length + 1) (hp : 0 < fi.length) :
  Rd w wr B g deep vW ws (.slice (some ⟨gO, 0, none⟩) fi.length cO) fi n ∧ k51.R 51 wr B (fun k => some k ≠ some gO ∧ ∀ f ∈ fi, some k ≠ f.v.ownBlock) fl.v fl.L := by
 obtain ⟨h1, h2⟩ := h.stk.pop hn
 have h3 := h.few
 rw [List.length_append, List.length_singleton] at h3
 refine ⟨⟨h.below, h1, h.met, h.row, hp, by omega, fun f hf => h.low f (List.mem_append_left _ hf)⟩, Kd.R_mono h2 (fun k hk => ⟨hk.1, fun f hf => ?_⟩)⟩
 obtain ⟨i, hi⟩ := List.getElem?_of_mem hf
 exact hk.2 i f hi (by have := (List.getElem?_eq_some_iff.1 hi).1; omega)
theorem Rd.step {w wr wz : World} {B g : Nat} {deep : Int} {vW : Value} {ws : List S32} {vO : Value} {fs : List Fr} {n : Nat} (h : Rd w wr B g deep vW ws vO fs n) (hb : Below wr.heap.size wr wz) (hB : B ≤ wr.heap.size) : Rd w wz B g deep vW ws vO fs n := by
 obtain ⟨sp, hm⟩ := h.met
 exact ⟨h.below.trans (hb.mono hB), h.stk.below hb, ⟨sp, (hb.block g (blk_lt hm)).trans hm⟩, Kd.R_below h.row hb, h.pos, h.few, h.low⟩
set_option maxRecDepth 100000 in
set_option maxHeartbeats 16000000 in
theorem sexp_Read_calls (k : Nat) (s : ByteArray) (deep : Int) (ws : List S32) (at_ : Int) (B g : Nat) (w : World) (hm : w.heap[g]? = some (.cells (mc deep 0) 98 (0, 0))) (hB : B ≤ g) (h : lex_Words.f k s = some (ws, at_, 0)) (hlen : ws.length ≤ 65536)
  (res : (List S51) × Int × Int) (hres : res = rdL deep (s.size : Int) ws [(0, [])]) :
  Calls Try.prog 31 #[.string s, .pointer (some ⟨g, 0, none⟩)] w fun e w' => ∃ v : Value, e = .returned (.tuple #[v, .int .i64 res.2.1, .int .i64 res.2.2]) ∧ k51.R 51 w' B (fun _ => True) v res.1 ∧ Below B w w' := by
 have HRES := Aside0.mk hres
 clear hres
 have HM := Aside0.mk hm
 have hBw : B ≤ w.heap.size := by have := blk_lt hm; omega
 have HBW := Aside0.mk hBw
 have HW := Aside0.mk (lex_Words.calls k s ws at_ 0 w h)
 clear hm hBw h
 go_enter Try.func31, Try.ntmps31
 go_upto_region 4 with (first | (go_at_call 14; refine HW.out.mono ?_; rintro e w1 ⟨vW, rfl, hRW, hb1⟩))
 obtain ⟨AW, cW, rfl⟩ := Kd.R_slice hRW
 have HRW := Aside0.mk (Kd.R_lower hRW HBW.out)
 have hb1' : Below B w w1 := hb1.mono HBW.out
 have hm1 : w1.heap[g]? = some (.cells (mc deep 0) 98 (0, 0)) := (hb1.block g (blk_lt HM.out)).trans HM.out
 have HB1 := Aside0.mk hb1'
 have HM1 := Aside0.mk hm1
 clear hRW hb1 hb1' hm1
 go_upto_region 7 with (fail)
 have hst : Stk (w1.alloc (.cells #[.int .u8 0, .int .i64 0, .string (⟨#[]⟩ : ByteArray), .slice none 0 0] 51)) B (.slice (some ⟨w1.heap.size, 0, none⟩) 1 1) [⟨0, .slice none 0 0, []⟩] := by
  refine ⟨World.ownsRow_lit (base := B) (e := 51) (size := 4) w1 _ 1 (by have := HB1.out.size; have := HBW.out; omega) (by simp [maxLen]) (by rfl), fun i f hf => ?_⟩
  cases i with
  | zero =>
   obtain rfl := Option.some.inj hf
   exact Kd.R_nil _ _ _ _ _
  | succ i => cases hf
 have HR0 := Aside0.mk (⟨HB1.out.alloc (by have := HB1.out.size; have := HBW.out; omega) _, hst, ⟨0, blk_alloc HM1.out _⟩, Kd.R_below HRW.out ((Below.refl _ _).alloc (Nat.le_refl _) _), by simp, by simp, fun f hf => by rw [List.mem_singleton.1 hf]; exact Nat.le_refl _⟩ : Rd w (w1.alloc (.cells #[.int .u8 0, .int .i64 0, .string (⟨#[]⟩ : ByteArray), .slice none 0 0] 51)) B g deep (.slice AW ws.length cW) ws (.slice (some ⟨w1.heap.size, 0, none⟩) 1 1) [⟨0, .slice none 0 0, []⟩] 0)
 clear hst
 go_wp2
 go_loopw [8, 30] (fun v8 v30 wr => ∃ (j : Int) (gO cO : Nat) (fs : List Fr), v8 = .slice (some ⟨gO, 0, none⟩) fs.length cO ∧ v30 = .int .i64 j ∧ Aside0 (0 ≤ j ∧ j ≤ (ws.length : Int)) ∧ Aside0 (Rd w wr B g deep (.slice AW ws.length cW) ws (.slice (some ⟨gO, 0, none⟩) fs.length cO) fs j.toNat) ∧ Aside0 (res = rdL deep (s.size : Int) (ws.drop j.toNat) (frl fs))) (fun _ i _ => ws.length - (intOf i).toNat)
 case atStart => exact ⟨0, w1.heap.size, 1, [⟨0, .slice none 0 0, []⟩], rfl, rfl, ⟨by omega⟩, HR0, HRES⟩
 case round =>
  obtain ⟨j, gO, cO, fs, rfl, rfl, hj, hR, hE⟩ := hrel
  clear HR0 HRES HM1 HB1 HRW
  by_cases c : j < (ws.length : Int)
  ·have p0 : 0 ≤ j := hj.out.1
   have hjl : j.toNat < ws.length := by omega
   obtain ⟨ad, e0, h00, h01, h02, h03⟩ := at_T32 (Kd.R_reads' hR.out.row).2.2 j p0 c
   subst e0
   obtain ⟨x, hx⟩ : ∃ x, x = rd_T32 ws j := ⟨_, rfl⟩
   rw [← hx] at h00 h01 h02 h03
   have hdr : ws.drop j.toNat = x :: ws.drop (j.toNat + 1) := by
    rw [List.drop_eq_getElem_cons hjl, hx]
    unfold rd_T32
    rw [List.getD_eq_getElem?_getD, List.getElem?_eq_getElem hjl]; rfl
   have hE' := hE.out
   rw [hdr, rdL] at hE'
   have HE2 := Aside0.mk hE'
   have HX := Aside0.mk hx
   have hw : wrap64 (j + 1) = j + 1 := by have := hj.out; unfold wrap64; omega
   have HWJ := Aside0.mk hw
   have c' : decide (j < (ws.length : Int)) = true := decide_eq_true c
   have HC := Aside0.mk c
   replace c := eq_true c
   replace p0 := eq_true p0
   clear hE hE' hdr hx hw
   go_upto_region 12 with (fail)
   have hBr : B ≤ wr.heap.size := by have := hR.out.below.size; have := HBW.out; omega
   have hbz : Below wr.heap.size wr ((wr.alloc (.cells #[.int .u8 x.f0, .int .i64 x.f1, .int .i64 x.f2, .string x.f3] 32)).alloc (.cells #[.int .u8 x.f0, .int .i64 x.f1, .string x.f3, .slice none 0 0] 51)) := ((Below.refl _ _).alloc (Nat.le_refl _) _).alloc (by simp) _
   have hq1 : ((wr.alloc (.cells #[.int .u8 x.f0, .int .i64 x.f1, .int .i64 x.f2, .string x.f3] 32)).alloc (.cells #[.int .u8 x.f0, .int .i64 x.f1, .string x.f3, .slice none 0 0] 51)).heap[wr.heap.size]? = some (.cells #[.int .u8 x.f0, .int .i64 x.f1, .int .i64 x.f2, .string x.f3] 32 (0, 0)) := blk_alloc (blk_new wr _) _
   have hq2 : ((wr.alloc (.cells #[.int .u8 x.f0, .int .i64 x.f1, .int .i64 x.f2, .string x.f3] 32)).alloc (.cells #[.int .u8 x.f0, .int .i64 x.f1, .string x.f3, .slice none 0 0] 51)).heap[wr.heap.size + 1]? = some (.cells #[.int .u8 x.f0, .int .i64 x.f1, .string x.f3, .slice none 0 0] 51 (0, 0)) := by
    have := blk_new (wr.alloc (.cells #[.int .u8 x.f0, .int .i64 x.f1, .int .i64 x.f2, .string x.f3] 32)) (.cells #[.int .u8 x.f0, .int .i64 x.f1, .string x.f3, .slice none 0 0] 51)
    simpa using this
   generalize hb1 : wr.heap.size = b1 at hq1 hq2 ⊢
   generalize hb2 : b1 + 1 = b2 at hq2 ⊢
   generalize hwz : ((wr.alloc (.cells #[.int .u8 x.f0, .int .i64 x.f1, .int .i64 x.f2, .string x.f3] 32)).alloc (.cells #[.int .u8 x.f0, .int .i64 x.f1, .string x.f3, .slice none 0 0] 51)) = wz at hbz hq1 hq2 ⊢
   have HRz := Aside0.mk (hR.out.step hbz hBr)
   have HB12 := Aside0.mk (And.intro hb1 hb2)
   have HQ1 := Aside0.mk hq1
   have HQ2 := Aside0.mk hq2
   have HBz := Aside0.mk hbz
   clear hbz hq1 hq2 hwz hb1 hb2 h00 h01 h02 h03
   by_cases ck1 : x.f0 = 1
   ·have ck1b : (x.f0 == 1) = true := beq_iff_eq.mpr ck1
    have hE1 := HE2.out
    rw [if_pos ck1, frl_len] at hE1
    by_cases cd : (fs.length : Int) > deep
    ·rw [if_pos cd] at hE1
     have HE3 := Aside0.mk hE1
     obtain ⟨sp, hsp⟩ := HRz.out.met
     have HD := Aside0.mk (Deep_no g (fs.length : Int) deep sp B wz hsp hB (by omega))
     clear hE1 cd ck1 HE2
     go_upto_region 15 with (go_at_call 59; refine HD.out.mono ?_; rintro e w2 ⟨rfl, hbw2, hkp⟩)
     have hne : b1 ≠ g := blk_ne HQ1.out hsp (by decide)
     have hq1 : w2.heap[b1]? = _ := (hkp b1 (blk_lt HQ1.out) hne).trans HQ1.out
     have h1 : w2.cell? ⟨b1, 1, none⟩ = some (.int .i64 x.f1) := (blk_cell hq1 1).trans rfl
     have HB2 := Aside0.mk (HRz.out.below.trans hbw2)
     clear hq1 hkp hbw2 hsp
     go_wp2
     go_quiet (fail)
     go_wp2
     go_ret3
     exact ⟨_, by rw [HE3.out]; rfl, by rw [HE3.out]; exact Kd.R_nil _ _ _ _ _, ⟨HB2.out.os, HB2.out.tape, HB2.out.output, HB2.out.size, HB2.out.block⟩⟩
    ·rw [if_neg cd, ← frl_snoc fs ⟨x.f1, .slice none 0 0, []⟩] at hE1
     have HE3 := Aside0.mk hE1
     obtain ⟨sp, hsp⟩ := HRz.out.met
     have HD := Aside0.mk (Deep_calls g (fs.length : Int) deep sp B wz hsp hB (by omega))
     clear hE1 cd ck1 HE2
     go_upto_region 15 with (go_at_call 59; refine HD.out.mono ?_; rintro e w2 ⟨rfl, hm2, hk2, hz2, hbw2⟩)
     have hne : b1 ≠ g := blk_ne HQ1.out hsp (by decide)
     have hq1 : w2.heap[b1]? = _ := (hk2 b1 hne).trans HQ1.out
     have h1 : w2.cell? ⟨b1, 1, none⟩ = some (.int .i64 x.f1) := (blk_cell hq1 1).trans rfl
     have hst2 : Stk w2 B (.slice (some ⟨gO, 0, none⟩) fs.length cO) fs := HRz.out.stk.keep (fun k _ ⟨cs, hc⟩ => hk2 k (blk_ne hc hsp (by decide)))
     have hrow2 : k32.R 32 w2 B (fun _ => True) (.slice (some ad) ws.length cW) ws := R_keepT HRz.out.row (by decide) (fun k _ ⟨cs, hc⟩ => hk2 k (blk_ne hc hsp (by decide)))
     have HST := Aside0.mk hst2
     have HROW := Aside0.mk hrow2
     have HM2 := Aside0.mk hm2
     have HB2 := Aside0.mk (HRz.out.below.trans hbw2)
     have hB2 : B ≤ w2.heap.size := by rw [hz2]; have := HBz.out.size; omega
     have HBS := Aside0.mk hB2
     clear hq1 hk2 hz2 hbw2 hsp hst2 hrow2 hm2 hB2
     go_wp2_with ((with_reducible refine gate_builtin (b := .append) (xs := #[.tmp 56, .tmp 60]) rfl ?_); at_builtin; refine print_append_cells (w0 := w) B rfl (.tmp 56) (.tmp 60) 46 51 (.agg #[.int .u8 0, .int .i64 0, .string (⟨#[]⟩ : ByteArray), .slice none 0 0]) 4 56 rfl Try.underlying46 infoNode rfl (by decide) (by decide) (.slice (some ⟨gO, 0, none⟩) fs.length cO) fs.length (frs fs) (Fr.cells ⟨x.f1, .slice none 0 0, []⟩) rfl rfl rfl ?aO HST.out.own HB2.out HBS.out ?aL ?_; (case aO => intro u hu; simp [Fr.cells] at hu; rcases hu with rfl | rfl | rfl | rfl <;> rfl); (case aL => have := HRz.out.few; have := HC.out; omega); intro v1 w3 hown hb3 hg3 hat)
     obtain ⟨g1, c1, rfl⟩ : ∃ g1 c1, v1 = .slice (some ⟨g1, 0, none⟩) (fs.length + 1) c1 := by
      rcases hown.2 with ⟨_, h0⟩ | ⟨g', cap, cur, hv, _⟩
      ·omega
      ·exact ⟨g', cap, hv⟩
     have hjt : (j + 1).toNat = j.toNat + 1 := by have := hj.out; omega
     obtain ⟨sp', hsp'⟩ := HM2.out
     have hst3 := HST.out.push x.f1 hown hg3 hat
     have hl3 : (fs ++ [(⟨x.f1, .slice none 0 0, []⟩ : Fr)]).length = fs.length + 1 := by rw [List.length_append, List.length_singleton]
     have hrd : Rd w w3 B g deep (.slice (some ad) ws.length cW) ws (.slice (some ⟨g1, 0, none⟩) (fs ++ [(⟨x.f1, .slice none 0 0, []⟩ : Fr)]).length c1) (fs ++ [⟨x.f1, .slice none 0 0, []⟩]) (j + 1).toNat := by
      refine ⟨hb3, by rw [hl3]; exact hst3, ⟨sp', (hg3.block g (blk_lt hsp') (own_ne HST.out.own hsp' (by decide))).trans hsp'⟩, R_keepT HROW.out (by decide) (fun k hk ⟨cs, hc⟩ => hg3.block k hk (own_ne HST.out.own hc (by decide))), by omega, ?_, fun f hf => ?_⟩
      ·rw [hl3, hjt]; have := HRz.out.few; omega
      ·rw [hjt]
       rcases List.mem_append.1 hf with hf | hf
       ·have := HRz.out.low f hf; omega
       ·rw [List.mem_singleton.1 hf]; exact Nat.zero_le _
     have HRD := Aside0.mk hrd
     have HJT := Aside0.mk hjt
     have HL3 := Aside0.mk hl3
     clear hjt hsp' hst3 hl3 hrd hown hb3 hg3 hat
     go_roundw
     case rel => exact ⟨j + 1, g1, c1, _, by rw [HL3.out], by rw [HWJ.out], ⟨by have := hj.out; have := HC.out; omega⟩, HRD, ⟨by rw [HJT.out]; exact HE3.out⟩⟩
     case measure =>
      simp [intOf]
      rw [HWJ.out]
      have := hj.out
      have := HC.out
      omega
   ·have ck1b : (x.f0 == 1) = false := beq_eq_false_iff_ne.mpr ck1
    have hE1 := HE2.out
    rw [if_neg ck1, frl_len] at hE1
    have hgb2 : gO ≠ b2 ∧ ∀ f ∈ fs, ∀ k, f.v.ownBlock = some k → k ≠ b2 := by
     have h12 := HB12.out
     refine ⟨by have := own_lt hR.out.stk.own gO rfl; omega, fun f hf k hk => ?_⟩
     obtain ⟨i, hi⟩ := List.getElem?_of_mem hf
     have := Kd.R_lt (hR.out.stk.row i f hi) k hk
     omega
    by_cases ck2 : x.f0 = 2
    case' pos =>
     have ck2b : (x.f0 == 2) = true := beq_iff_eq.mpr ck2
     rw [if_pos ck2] at hE1
     obtain ⟨fI, fL, hfs⟩ : ∃ fi fl, fs = fi ++ [fl] := ⟨fs.dropLast, fs.getLast (by intro e; have := HRz.out.pos; rw [e] at this; simp at this), (List.dropLast_concat_getLast _).symm⟩
     obtain ⟨nL, hnL⟩ : ∃ nI : Nat, nI = fI.length := ⟨_, rfl⟩
     have hfl : fs.length = nL + 1 := by rw [hfs, List.length_append, List.length_singleton, hnL]
     by_cases cl1 : fs.length = 1
     ·rw [if_pos cl1] at hE1
      have HE3 := Aside0.mk hE1
      have h1 : wz.cell? ⟨b1, 1, none⟩ = some (.int .i64 x.f1) := (blk_cell HQ1.out 1).trans rfl
      have c1a : ((fs.length : Int) == 1) = true := beq_iff_eq.mpr (by omega)
      have c1b : (fs.length == 1) = true := beq_iff_eq.mpr cl1
      have HB2 := Aside0.mk HRz.out.below
      clear hE1 ck1 ck2 HE2 hfs hfl hnL hgb2 HRz
      go_wp2
      go_quiet (fail)
      go_wp2
      go_ret3
      exact ⟨_, by rw [HE3.out]; rfl, by rw [HE3.out]; exact Kd.R_nil _ _ _ _ _, ⟨HB2.out.os, HB2.out.tape, HB2.out.output, HB2.out.size, HB2.out.block⟩⟩
     have hnp : 0 < nL := by have := HRz.out.pos; omega
     obtain ⟨fi, fl, hfi⟩ : ∃ fi fl, fI = fi ++ [fl] := ⟨fI.dropLast, fI.getLast (by intro e; rw [e] at hnL; simp at hnL; omega), (List.dropLast_concat_getLast _).symm⟩
     obtain ⟨nI, hnI⟩ : ∃ nI : Nat, nI = fi.length := ⟨_, rfl⟩
     have hLI : nL = nI + 1 := by rw [hnL, hfi, List.length_append, List.length_singleton, hnI]
     have e1 : (frl (fI ++ [fL])).dropLast = frl fI := by rw [frl_snoc, List.dropLast_concat]
     have e2 : (frl (fI ++ [fL])).getLastD (0, []) = (fL.at_, fL.L) := by rw [frl_snoc]; simp
     rw [if_neg cl1, hfs, e1, e2, hfi, frl_snoc, addK_snoc] at hE1
     have c1a : ((fs.length : Int) == 1) = false := beq_eq_false_iff_ne.mpr (by omega)
     have c1b : (fs.length == 1) = false := beq_eq_false_iff_ne.mpr cl1
     have hlow := HRz.out.few
     have hw1 : wrap64 ((fs.length : Int) - 1) = (nL : Int) := by rw [hfl]; have := HC.out; unfold wrap64; omega
     have hw2 : wrap64 ((nL : Int) - 1) = (nI : Int) := by rw [hLI]; have := HC.out; unfold wrap64; omega
     have q1 : (0 ≤ (nL : Int)) = True := eq_true (by omega)
     have q2 : ((nL : Int) < (fs.length : Int)) = True := eq_true (by omega)
     have q3 : (nL < fs.length) = True := eq_true (by omega)
     have r1 : (0 ≤ (nI : Int)) = True := eq_true (by omega)
     have r2 : ((nI : Int) < (nL : Int)) = True := eq_true (by omega)
     have r3 : (nI < nL) = True := eq_true (by omega)
     have hfLg : fs[nL]? = some fL := by rw [hfs, hnL, List.getElem?_append_right (Nat.le_refl _), Nat.sub_self]; rfl
     obtain ⟨A3, c3, hv3⟩ := Kd.R_slice (HRz.out.stk.row nL fL hfLg)
     obtain ⟨n3, hn3⟩ : ∃ n3, n3 = fL.L.length := ⟨_, rfl⟩
     rw [← hn3] at hv3
     have d0 : wz.cell? ⟨gO, nL * 4, none⟩ = some (.int .u8 0) := HRz.out.stk.cell hfLg (j := 0) rfl
     have d1 : wz.cell? ⟨gO, nL * 4 + 1, none⟩ = some (.int .i64 fL.at_) := HRz.out.stk.cell hfLg (j := 1) rfl
     have d2 : wz.cell? ⟨gO, nL * 4 + 2, none⟩ = some (.string (⟨#[]⟩ : ByteArray)) := HRz.out.stk.cell hfLg (j := 2) rfl
     have d3 : wz.cell? ⟨gO, nL * 4 + 3, none⟩ = some (.slice A3 n3 c3) := by have := HRz.out.stk.cell hfLg (j := 3) (u := fL.v) rfl; rw [this, hv3]
     have s0 : wz.cell? ⟨b2, 0, none⟩ = some (.int .u8 x.f0) := (blk_cell HQ2.out 0).trans rfl
     have s1 : wz.cell? ⟨b2, 1, none⟩ = some (.int .i64 x.f1) := (blk_cell HQ2.out 1).trans rfl
     have s2 : wz.cell? ⟨b2, 2, none⟩ = some (.string x.f3) := (blk_cell HQ2.out 2).trans rfl
     have s3 : wz.cell? ⟨b2, 3, none⟩ = some (.slice none 0 0) := (blk_cell HQ2.out 3).trans rfl
     have f0 := blk_frozen HQ2.out 0
     have f1 := blk_frozen HQ2.out 1
     have f2 := blk_frozen HQ2.out 2
     have f3 := blk_frozen HQ2.out 3
     obtain ⟨i0, hi0, _, hsz, _⟩ := info_parts infoNode
     have hcO := own_le HRz.out.stk.own
     have hcut := cut_to (P := Try.prog) 46 51 .i64 Try.underlying46 hi0 (some ⟨gO, 0, none⟩) fs.length cO (nL : Int) (by omega) (by omega) hcO
     rw [Int.toNat_natCast] at hcut
     obtain ⟨X, hX⟩ : ∃ X : S51, X = ⟨0, fL.at_, ⟨#[]⟩, fL.L⟩ := ⟨_, rfl⟩
     have HE3 : Aside0 (res = rdL deep (s.size : Int) (ws.drop (j.toNat + 1)) (frl fi ++ [(fl.at_, fl.L ++ [X])])) := Aside0.mk (by rw [hX]; exact hE1)
     have HNI := Aside0.mk hnI
     have HNO := Aside0.mk (show nL = (fi ++ [fl]).length by rw [← hfi, hnL])
     have HZ2 := Aside0.mk (And.intro hfs (And.intro hfi (And.intro hnL (And.intro hfl (And.intro hv3 (And.intro hX (And.intro hgb2 hn3)))))))
     clear hE1 ck1 ck2 HE2 hfs hfi hfl hnI hnL hgb2 hX hv3 hn3 hLI hlow hnp hfLg hcO hi0 hsz e1 e2 cl1
     go_upto_region 23 with (fail)
     have hge : wr.heap.size ≤ b2 := by have := HB12.out; omega
     have hbq : Below wr.heap.size wr ((((wz.setCell ⟨b2, 0, none⟩ (.int .u8 0)).setCell ⟨b2, 1, none⟩ (.int .i64 fL.at_)).setCell ⟨b2, 2, none⟩ (.string (⟨#[]⟩ : ByteArray))).setCell ⟨b2, 3, none⟩ (.slice A3 n3 c3)) := below_set (below_set (below_set (below_set HBz.out hge) hge) hge) hge
     have hbx : ((((wz.setCell ⟨b2, 0, none⟩ (.int .u8 0)).setCell ⟨b2, 1, none⟩ (.int .i64 fL.at_)).setCell ⟨b2, 2, none⟩ (.string (⟨#[]⟩ : ByteArray))).setCell ⟨b2, 3, none⟩ (.slice A3 n3 c3)).heap[b2]? = some (.cells #[.int .u8 0, .int .i64 fL.at_, .string (⟨#[]⟩ : ByteArray), .slice A3 n3 c3] 51 (0, 0)) := blk_set (blk_set (blk_set (blk_set HQ2.out 0 _) 1 _) 2 _) 3 _
     generalize hwq : ((((wz.setCell ⟨b2, 0, none⟩ (.int .u8 0)).setCell ⟨b2, 1, none⟩ (.int .i64 fL.at_)).setCell ⟨b2, 2, none⟩ (.string (⟨#[]⟩ : ByteArray))).setCell ⟨b2, 3, none⟩ (.slice A3 n3 c3)) = wq at hbq hbx ⊢
     obtain ⟨hfs, hfi, hnL, hfl, hv3, hX, hgb2, hn3⟩ := HZ2.out
     have hRf : Rd w wr B g deep (.slice (some ad) ws.length cW) ws (.slice (some ⟨gO, 0, none⟩) fs.length cO) (fI ++ [fL]) j.toNat := by rw [← hfs]; exact hR.out
     obtain ⟨hRp, hRL⟩ := hRf.pop (by rw [hfl, hnL]) (by rw [← hnL]; have := r3; simp at this; omega)
     have HRq := Aside0.mk (show Rd w wq B g deep (.slice (some ad) ws.length cW) ws (.slice (some ⟨gO, 0, none⟩) nL cO) (fi ++ [fl]) j.toNat by rw [← hfi, hnL]; exact hRp.step hbq hBr)
     have HP : Aside0 (k51.M wq B (fun k => some k ≠ some gO ∧ ∀ f ∈ fi ++ [fl], some k ≠ f.v.ownBlock) X [.int .u8 X.f0, .int .i64 X.f1, .string X.f2, .slice A3 n3 c3]) := Aside0.mk (by
      have h1 := Kd.R_below hRL hbq
      rw [hv3] at h1
      rw [hX, ← hfi]
      exact k51_mkM _ _ _ _ h1)
     have HBX : Aside0 (wq.heap[b2]? = some (.cells #[.int .u8 X.f0, .int .i64 X.f1, .string X.f2, .slice A3 n3 c3] 51 (0, 0))) := Aside0.mk (by rw [hX]; exact hbx)
     have HGB := Aside0.mk (show gO ≠ b2 ∧ ∀ f ∈ fi ++ [fl], ∀ k, f.v.ownBlock = some k → k ≠ b2 from ⟨hgb2.1, fun f hf => hgb2.2 f (by rw [hfs, hfi]; exact List.mem_append_left _ hf)⟩)
     clear HBz
     have HBz := Aside0.mk hbq
     clear hbq hbx hwq hfs hfi hfl hv3 hX hgb2 hn3 hRf hRp hRL hge d0 d1 d2 d3 s0 s1 s2 s3 f0 f1 f2 f3 hcut HZ2 HRz HQ1 HQ2
     clear hnL
     generalize nL = nO at *
    case' neg =>
     obtain ⟨fi, fl, hfs⟩ : ∃ fi fl, fs = fi ++ [fl] := ⟨fs.dropLast, fs.getLast (by intro e; have := HRz.out.pos; rw [e] at this; simp at this), (List.dropLast_concat_getLast _).symm⟩
     obtain ⟨nI, hnI⟩ : ∃ nI : Nat, nI = fi.length := ⟨_, rfl⟩
     have hfl : fs.length = nI + 1 := by rw [hfs, List.length_append, List.length_singleton, hnI]
     have ck2b : (x.f0 == 2) = false := beq_eq_false_iff_ne.mpr ck2
     rw [if_neg ck2, hfs, frl_snoc, addK_snoc] at hE1
     have HE3 : Aside0 (res = rdL deep (s.size : Int) (ws.drop (j.toNat + 1)) (frl fi ++ [(fl.at_, fl.L ++ [(⟨x.f0, x.f1, x.f3, []⟩ : S51)])])) := Aside0.mk hE1
     have hw1 : wrap64 ((fs.length : Int) - 1) = (nI : Int) := by rw [hfl]; have := HRz.out.few; have := HC.out; have := hfl; unfold wrap64; omega
     have q1 : (0 ≤ (nI : Int)) = True := eq_true (by omega)
     have q2 : ((nI : Int) < (fs.length : Int)) = True := eq_true (by omega)
     have q3 : (nI < fs.length) = True := eq_true (by omega)
     have HNI := Aside0.mk hnI
     have HRq := Aside0.mk (show Rd w wz B g deep (.slice (some ad) ws.length cW) ws (.slice (some ⟨gO, 0, none⟩) fs.length cO) (fi ++ [fl]) j.toNat by rw [← hfs]; exact HRz.out)
     have HGB := Aside0.mk (show gO ≠ b2 ∧ ∀ f ∈ fi ++ [fl], ∀ k, f.v.ownBlock = some k → k ≠ b2 by rw [← hfs]; exact hgb2)
     obtain ⟨X, hX⟩ : ∃ X : S51, X = ⟨x.f0, x.f1, x.f3, []⟩ := ⟨_, rfl⟩
     obtain ⟨A3, n3, c3, hv3⟩ : ∃ (A3 : Option Addr) (n3 c3 : Nat), (.slice A3 n3 c3 : Value) = .slice none 0 0 := ⟨none, 0, 0, rfl⟩
     have HBX : Aside0 (wz.heap[b2]? = some (.cells #[.int .u8 X.f0, .int .i64 X.f1, .string X.f2, .slice A3 n3 c3] 51 (0, 0))) := Aside0.mk (by rw [hX, hv3]; exact HQ2.out)
     have HP : Aside0 (k51.M wz B (fun k => some k ≠ some gO ∧ ∀ f ∈ fi ++ [fl], some k ≠ f.v.ownBlock) X [.int .u8 X.f0, .int .i64 X.f1, .string X.f2, .slice A3 n3 c3]) := Aside0.mk (by rw [hv3]; exact k51_mkM _ _ _ _ (by rw [hX]; exact Kd.R_nil _ _ _ _ _))
     rw [← hX] at HE3
     have HNO := Aside0.mk (show fs.length = (fi ++ [fl]).length by rw [← hfs])
     clear hE1 ck1 ck2 HE2 hfs hfl hnI hgb2 hX hv3 HRz
     go_upto_region 23 with (fail)
     generalize hwq : wz = wq at *
     clear hwq
     generalize fs.length = nO at *
    all_goals
     have HBw_ := Aside0.mk (show B ≤ wq.heap.size by have := HBz.out.size; omega)
     have hfl : (fi ++ [fl])[nI]? = some fl := by rw [HNI.out, List.getElem?_append_right (Nat.le_refl _), Nat.sub_self]; rfl
     obtain ⟨Ak, ck, hfv⟩ := Kd.R_slice (HRq.out.stk.row nI fl hfl)
     have h3 : wq.cell? ⟨gO, nI * 4 + 3, none⟩ = some (.slice Ak fl.L.length ck) := by have := HRq.out.stk.cell hfl (j := 3) (u := fl.v) rfl; rw [this, hfv]
     have x0 : wq.cell? ⟨b2, 0, none⟩ = some (.int .u8 X.f0) := (blk_cell HBX.out 0).trans rfl
     have x1 : wq.cell? ⟨b2, 1, none⟩ = some (.int .i64 X.f1) := (blk_cell HBX.out 1).trans rfl
     have x2 : wq.cell? ⟨b2, 2, none⟩ = some (.string X.f2) := (blk_cell HBX.out 2).trans rfl
     have x3 : wq.cell? ⟨b2, 3, none⟩ = some (.slice A3 n3 c3) := (blk_cell HBX.out 3).trans rfl
     have HFV := Aside0.mk hfv
     have HFL := Aside0.mk hfl
     clear hfv hfl
     refine start_ (n := 13) (S := fun w' => w'.cell? ⟨gO, nI * 4 + 3, none⟩ = some (.slice Ak fl.L.length ck) ∧ w'.cell? ⟨b2, 0, none⟩ = some (.int .u8 X.f0) ∧ w'.cell? ⟨b2, 1, none⟩ = some (.int .i64 X.f1) ∧ w'.cell? ⟨b2, 2, none⟩ = some (.string X.f2) ∧ w'.cell? ⟨b2, 3, none⟩ = some (.slice A3 n3 c3)) (ds := [7, 9, 12]) #[false, false, false, false, false, false, false, false, false, false, false, false, false] (by kernel_rfl) rfl rfl ⟨h3, x0, x1, x2, x3⟩ (fun hHeld => ?_)
     clear h3 x0 x1 x2 x3
     generalize hwx : World.drew wq = wx at hHeld ⊢
     have HX := Aside0.mk (show wx.heap = wq.heap ∧ Below wq.heap.size wq wx by rw [← hwx]; exact ⟨rfl, rfl, rfl, rfl, Nat.le_refl _, fun _ _ => rfl⟩)
     clear hwx
     refine pure_ (i := 0) (N := some 83) (v := ?_) (a' := ?_) #[true, false, false, false, false, false, false, false, false, false, false, false, false] rfl rfl (by kernel_rfl) (fun _ _ _ h => h) (Or.inl ⟨by rfl, ?_⟩) ?_ ?_
     rotate_left
     ·intro w'
      go_simp
      with_reducible rfl
     rotate_left
     ·simp only [Act.put, List.setIfInBounds_toArray, List.set_cons_zero, List.set_cons_succ, i64_w, i32_w]
      rfl
     refine pure_ (i := 1) (N := some 84) (v := ?_) (a' := ?_) #[true, true, false, false, false, false, false, false, false, false, false, false, false] rfl rfl (by kernel_rfl) (fun _ _ _ h => h) (Or.inl ⟨by rfl, ?_⟩) ?_ ?_
     rotate_left
     ·intro w'
      go_simp
      with_reducible rfl
     rotate_left
     ·simp only [Act.put, List.setIfInBounds_toArray, List.set_cons_zero, List.set_cons_succ, i64_w, i32_w]
      rfl
     refine pure_ (i := 2) (N := some 85) (v := ?_) (a' := ?_) #[true, true, true, false, false, false, false, false, false, false, false, false, false] rfl rfl (by kernel_rfl) (fun _ _ _ h => h) (Or.inl ⟨by rfl, ?_⟩) ?_ ?_
     rotate_left
     ·intro w'
      go_simp
      with_reducible rfl
     rotate_left
     ·simp only [Act.put, List.setIfInBounds_toArray, List.set_cons_zero, List.set_cons_succ, i64_w, i32_w]
      rfl
     refine take_ (i := 3) (N := some 86) (v := ?_) (a' := ?_) #[true, true, true, true, false, false, false, false, false, false, false, false, false] rfl rfl (by kernel_rfl) (fun _ _ _ h => h) (Or.inl ⟨by rfl, ?_⟩) hHeld ?_ ?_
     rotate_left
     ·intro w' hw'
      obtain ⟨hw0_, hw1_, hw2_, hw3_, hw4_⟩ := hw'
      go_simp
      with_reducible rfl
     rotate_left
     ·simp only [Act.put, List.setIfInBounds_toArray, List.set_cons_zero, List.set_cons_succ, i64_w, i32_w]
      rfl
     refine take_ (i := 4) (N := some 87) (v := ?_) (a' := ?_) #[true, true, true, true, true, false, false, false, false, false, false, false, false] rfl rfl (by kernel_rfl) (fun _ _ _ h => h) (Or.inl ⟨by rfl, ?_⟩) hHeld ?_ ?_
     rotate_left
     ·intro w' hw'
      obtain ⟨hw0_, hw1_, hw2_, hw3_, hw4_⟩ := hw'
      go_simp
      with_reducible rfl
     rotate_left
     ·simp only [Act.put, List.setIfInBounds_toArray, List.set_cons_zero, List.set_cons_succ, i64_w, i32_w]
      rfl
     refine pure_ (i := 5) (N := some 88) (v := ?_) (a' := ?_) #[true, true, true, true, true, true, false, false, false, false, false, false, false] rfl rfl (by kernel_rfl) (fun _ _ _ h => h) (Or.inl ⟨by rfl, ?_⟩) ?_ ?_
     rotate_left
     ·intro w'
      go_simp
      with_reducible rfl
     rotate_left
     ·simp only [Act.put, List.setIfInBounds_toArray, List.set_cons_zero, List.set_cons_succ, i64_w, i32_w]
      rfl
     refine one_ (i := 6) (N := some 89) #[true, true, true, true, true, true, true, false, false, false, false, false, false] rfl rfl (by kernel_rfl) (by decide) (fun K hK => ?_)
     refine run_step_ (v := .slice (some ⟨wx.heap.size, 0, none⟩) 1 1) (w1 := wx.alloc (.cells #[.int .u8 0, .int .i64 0, .string (⟨#[]⟩ : ByteArray), .slice none 0 0] 51)) (by rfl) rfl ?hr ?_
     case hr => first | (go_simp; done) | (go_simp; rfl)
     have ha : Below wx.heap.size wx (wx.alloc (.cells #[.int .u8 0, .int .i64 0, .string (⟨#[]⟩ : ByteArray), .slice none 0 0] 51)) := (Below.refl _ _).alloc (Nat.le_refl _) _
     refine hK.out _ _ ⟨ha.cell (World.block_lt_of_cell? wx _ hHeld.1) |>.trans hHeld.1, ha.cell (World.block_lt_of_cell? wx _ hHeld.2.1) |>.trans hHeld.2.1, ha.cell (World.block_lt_of_cell? wx _ hHeld.2.2.1) |>.trans hHeld.2.2.1, ha.cell (World.block_lt_of_cell? wx _ hHeld.2.2.2.1) |>.trans hHeld.2.2.2.1, ha.cell (World.block_lt_of_cell? wx _ hHeld.2.2.2.2) |>.trans hHeld.2.2.2.2⟩ (fun _ => ?_)
     clear hK K ha
     refine norm_ (a' := ?_) ?_ ?_
     rotate_left
     ·show Act.put _ (some 89) _ = _
      simp only [Act.put, List.setIfInBounds_toArray, List.set_cons_zero, List.set_cons_succ, i64_w, i32_w]
      rfl
     have hstx : Stk wx B (.slice (some ⟨gO, 0, none⟩) nO cO) (fi ++ [fl]) := HRq.out.stk.below HX.out.2
     obtain ⟨hok0, inner, hown0, hrep0⟩ := hstx.row nI fl HFL.out
     have hbx : Below B w wx := HRq.out.below.trans (HX.out.2.mono (by have := HBw_.out; omega))
     have hBx : B ≤ wx.heap.size := by rw [HX.out.1]; exact HBw_.out
     rw [HFV.out] at hown0
     have HOWN0 := Aside0.mk hown0
     have HBX2 := Aside0.mk hbx
     have HBX3 := Aside0.mk hBx
     have HSTX := Aside0.mk hstx
     have HREP := Aside0.mk (And.intro hok0 hrep0)
     clear hown0 hbx hBx hstx hok0 hrep0
     refine last_ (i := 7) (N := some 90) #[true, true, true, true, true, true, true, true, false, false, false, false, false] rfl rfl (by kernel_rfl) (by decide) (fun K hK => ?_)
     refine step_append_cells (w0 := w) B (by rfl) (.tmp 86) (.tmp 89) 46 51 (.agg #[.int .u8 0, .int .i64 0, .string (⟨#[]⟩ : ByteArray), .slice none 0 0]) 4 56 rfl Try.underlying46 infoNode rfl (by decide) (by decide) (.slice Ak fl.L.length ck) fl.L.length inner [.int .u8 0, .int .i64 0, .string (⟨#[]⟩ : ByteArray), .slice none 0 0] rfl rfl rfl ?aO HOWN0.out HBX2.out HBX3.out ?aL ?_
     case aO => intro u hu; simp at hu; rcases hu with rfl | rfl | rfl | rfl <;> rfl
     case aL => have := HRq.out.low fl (by simp); have := HC.out; omega
     intro v1 w3 hown3 hb3 hg3 hat
     refine hK.out _ _ ?_
     clear hK K
     refine norm_ (a' := ?_) ?_ ?_
     rotate_left
     ·show Act.put _ (some 90) _ = _
      simp only [Act.put, List.setIfInBounds_toArray, List.set_cons_zero, List.set_cons_succ, i64_w, i32_w]
      rfl
     obtain ⟨g1, c1, hv1⟩ : ∃ g1 c1, v1 = .slice (some ⟨g1, 0, none⟩) (fl.L.length + 1) c1 := by
      rcases hown3.2 with ⟨_, h0⟩ | ⟨g', cap, cur, hv, _⟩
      ·omega
      ·exact ⟨g', cap, hv⟩
     subst hv1
     obtain ⟨m, hm⟩ : ∃ m, m = fl.L.length := ⟨_, rfl⟩
     have q4 : (0 ≤ (m : Int)) = True := eq_true (by omega)
     have q5 : ((m : Int) < ((m + 1 : Nat) : Int)) = True := eq_true (by omega)
     have q6 : (m < m + 1) = True := eq_true (by omega)
     have q7 : ((m : Int) < (m : Int) + 1) = True := eq_true (by omega)
     rw [← hm] at hown3 ⊢
     have HMM := Aside0.mk hm
     clear hm
     have hgO3 : some gO ≠ (Value.slice Ak fl.L.length ck).ownBlock := by rw [← HFV.out]; exact fun e => ((HSTX.out.row nI fl HFL.out).1 gO e.symm).1 rfl
     have hgne : g1 ≠ gO := by
      intro e
      rcases hat with hat | ⟨b, hb, hle⟩
      ·exact hgO3 (by rw [← hat, e]; rfl)
      ·have h1 : g1 = b := by injection hb
       have := own_lt HSTX.out.own gO rfl
       omega
     obtain ⟨cur1, hc1⟩ := own_typed hown3 g1 rfl
     obtain ⟨curO, hcO⟩ : ∃ cells, w3.heap[gO]? = some (.cells cells 51 (0, 0)) := by
      obtain ⟨cells, hc⟩ := own_typed HSTX.out.own gO rfl
      exact ⟨cells, (hg3.block gO (own_lt HSTX.out.own gO rfl) hgO3).trans hc⟩
     have hil : inner.length = m * 4 := by have := hown3.1; rw [List.length_append] at this; have e : ([.int .u8 0, .int .i64 0, .string (⟨#[]⟩ : ByteArray), .slice none 0 0] : List Value).length = 4 := rfl; omega
     have e0 : w3.cell? ⟨g1, m * 4, none⟩ = some (.int .u8 0) := own_cell hown3 (by rw [List.getElem?_append_right (by omega), hil]; rw [Nat.sub_self]; rfl)
     have e1 : w3.cell? ⟨g1, m * 4 + 1, none⟩ = some (.int .i64 0) := own_cell hown3 (by rw [List.getElem?_append_right (by omega), hil]; rw [Nat.add_sub_cancel_left]; rfl)
     have e2 : w3.cell? ⟨g1, m * 4 + 2, none⟩ = some (.string (⟨#[]⟩ : ByteArray)) := own_cell hown3 (by rw [List.getElem?_append_right (by omega), hil]; rw [Nat.add_sub_cancel_left]; rfl)
     have e3 : w3.cell? ⟨g1, m * 4 + 3, none⟩ = some (.slice none 0 0) := own_cell hown3 (by rw [List.getElem?_append_right (by omega), hil]; rw [Nat.add_sub_cancel_left]; rfl)
     have hO3 : w3.cell? ⟨gO, nI * 4 + 3, none⟩ = some fl.v := by
      have h1 := HSTX.out.cell HFL.out (j := 3) (u := fl.v) rfl
      rw [← h1]
      exact World.cell?_of_block (hg3.block gO (own_lt HSTX.out.own gO rfl) hgO3)
     have HST2 := Aside0.mk (fun (hnO : nO = (fi ++ [fl]).length) => Stk.node (X := X) (c0 := .int .u8 X.f0) (c1 := .int .i64 X.f1) (c2 := .string X.f2) (c3 := (.slice A3 n3 c3)) HSTX.out hnO HNI.out HREP.out.1 HREP.out.2 (Kd.M_below_ HP.out HX.out.2) (by rw [HMM.out] at hown3; exact hown3) (by rw [HFV.out]; exact hg3) (by rw [HFV.out]; exact hat))
     have HG3 := Aside0.mk hg3
     have HAT := Aside0.mk hat
     have HB1_ := Aside0.mk (own_base hown3 g1 rfl)
     have HB3 := Aside0.mk hb3
     have HGN := Aside0.mk hgne
     have HC1 := Aside0.mk hc1
     have HCO := Aside0.mk hcO
     have HE03 := Aside0.mk (And.intro e0 (And.intro e1 (And.intro e2 e3)))
     have HO3 := Aside0.mk hO3
     clear hown3 hg3 hb3 hat hgO3 hgne hc1 hcO hil e0 e1 e2 e3 hO3
     refine pure_ (i := 8) (N := some 91) (v := ?_) (a' := ?_) #[true, true, true, true, true, true, true, true, true, false, false, false, false] rfl rfl (by kernel_rfl) (fun _ _ _ h => h) (Or.inl ⟨by rfl, ?_⟩) ?_ ?_
     rotate_left
     ·intro w'
      go_simp
      with_reducible rfl
     rotate_left
     ·simp only [Act.put, List.setIfInBounds_toArray, List.set_cons_zero, List.set_cons_succ, i64_w, i32_w]
      rfl
     refine pure_ (i := 10) (N := some 92) (v := ?_) (a' := ?_) #[true, true, true, true, true, true, true, true, true, false, true, false, false] rfl rfl (by kernel_rfl) (fun _ _ _ h => h) (Or.inl ⟨by rfl, ?_⟩) ?_ ?_
     rotate_left
     ·intro w'
      go_simp
      with_reducible rfl
     rotate_left
     ·simp only [Act.put, List.setIfInBounds_toArray, List.set_cons_zero, List.set_cons_succ, i64_w, i32_w]
      rfl
     refine pure_ (i := 11) (N := some 93) (v := ?_) (a' := ?_) #[true, true, true, true, true, true, true, true, true, false, true, true, false] rfl rfl (by kernel_rfl) (fun _ _ _ h => h) (Or.inl ⟨by rfl, ?_⟩) ?_ ?_
     rotate_left
     ·intro w'
      go_simp
      with_reducible rfl
     rotate_left
     ·simp only [Act.put, List.setIfInBounds_toArray, List.set_cons_zero, List.set_cons_succ, i64_w, i32_w]
      rfl
     refine join_ (σ := Unit) 0 #[true, true, true, true, true, true, true, true, true, true, true, true, true] (fun _ => []) (fun _ w' => w' = (put4 w3 g1 (m * 4) (.int .u8 X.f0) (.int .i64 X.f1) (.string X.f2) (.slice A3 n3 c3)).setCell ⟨gO, nI * 4 + 3, none⟩ (.slice (some ⟨g1, 0, none⟩) (m + 1) c1)) ?_ ?_
     rotate_left
     ·intro hCont
      refine two_last_ (i := 9) (j := 12) (Ni := none) (Nj := none) #[true, true, true, true, true, true, true, true, true, true, true, true, false] #[true, true, true, true, true, true, true, true, true, false, true, true, true] rfl rfl rfl rfl (by kernel_rfl) (by decide) (by decide) (fun K hK => ?_) (fun K hK => ?_)
      ·obtain ⟨e0, e1, e2, e3⟩ := HE03.out
       have f0 := blk_frozen HC1.out (m * 4)
       have f1 := blk_frozen HC1.out (m * 4 + 1)
       have f2 := blk_frozen HC1.out (m * 4 + 2)
       have f3 := blk_frozen HC1.out (m * 4 + 3)
       refine skip_ (w1 := put4 w3 g1 (m * 4) (.int .u8 X.f0) (.int .i64 X.f1) (.string X.f2) (.slice A3 n3 c3)) (by rfl) rfl ?_ ?_
       ·unfold put4
        go_simp
       refine hK.out _ _ ?_
       clear hK K
       have hO4 : (put4 w3 g1 (m * 4) (.int .u8 X.f0) (.int .i64 X.f1) (.string X.f2) (.slice A3 n3 c3)).heap[gO]? = some (.cells curO 51 (0, 0)) := (put4_other _ _ _ _ _ _ _ _ (fun e => HGN.out e.symm)).trans HCO.out
       have h4 : (put4 w3 g1 (m * 4) (.int .u8 X.f0) (.int .i64 X.f1) (.string X.f2) (.slice A3 n3 c3)).cell? ⟨gO, nI * 4 + 3, none⟩ = some fl.v := (World.cell?_of_block (hO4.trans HCO.out.symm)).trans HO3.out
       have f4 := blk_frozen hO4 (nI * 4 + 3)
       clear hO4 e0 e1 e2 e3 f0 f1 f2 f3
       generalize hw4 : put4 w3 g1 (m * 4) (.int .u8 X.f0) (.int .i64 X.f1) (.string X.f2) (.slice A3 n3 c3) = w4 at h4 f4 hCont ⊢
       refine last_ (i := 12) (N := none) #[true, true, true, true, true, true, true, true, true, true, true, true, true] rfl rfl (by kernel_rfl) (by decide) (fun K hK => ?_)
       refine skip_ (w1 := w4.setCell ⟨gO, nI * 4 + 3, none⟩ (.slice (some ⟨g1, 0, none⟩) (m + 1) c1)) (by rfl) rfl ?_ ?_
       ·go_simp
       refine hK.out _ _ ?_
       clear hK K
       exact norm_ (by simp only [putAll]) (hCont () _ rfl)
      ·have hO3 := HO3.out
       have f4 := blk_frozen HCO.out (nI * 4 + 3)
       refine skip_ (w1 := w3.setCell ⟨gO, nI * 4 + 3, none⟩ (.slice (some ⟨g1, 0, none⟩) (m + 1) c1)) (by rfl) rfl ?_ ?_
       ·go_simp
       refine hK.out _ _ ?_
       clear hK K
       have hC4 : (w3.setCell ⟨gO, nI * 4 + 3, none⟩ (.slice (some ⟨g1, 0, none⟩) (m + 1) c1)).heap[g1]? = some (.cells cur1 51 (0, 0)) := (heap_setCell_other _ _ g1 _ HGN.out).trans HC1.out
       obtain ⟨e0, e1, e2, e3⟩ := HE03.out
       have k0 : (w3.setCell ⟨gO, nI * 4 + 3, none⟩ (.slice (some ⟨g1, 0, none⟩) (m + 1) c1)).cell? ⟨g1, m * 4, none⟩ = some (.int .u8 0) := (World.cell?_of_block (hC4.trans HC1.out.symm)).trans e0
       have f0 := blk_frozen hC4 (m * 4)
       have k1 : (w3.setCell ⟨gO, nI * 4 + 3, none⟩ (.slice (some ⟨g1, 0, none⟩) (m + 1) c1)).cell? ⟨g1, m * 4 + 1, none⟩ = some (.int .i64 0) := (World.cell?_of_block (hC4.trans HC1.out.symm)).trans e1
       have f1 := blk_frozen hC4 (m * 4 + 1)
       have k2 : (w3.setCell ⟨gO, nI * 4 + 3, none⟩ (.slice (some ⟨g1, 0, none⟩) (m + 1) c1)).cell? ⟨g1, m * 4 + 2, none⟩ = some (.string (⟨#[]⟩ : ByteArray)) := (World.cell?_of_block (hC4.trans HC1.out.symm)).trans e2
       have f2 := blk_frozen hC4 (m * 4 + 2)
       have k3 : (w3.setCell ⟨gO, nI * 4 + 3, none⟩ (.slice (some ⟨g1, 0, none⟩) (m + 1) c1)).cell? ⟨g1, m * 4 + 3, none⟩ = some (.slice none 0 0) := (World.cell?_of_block (hC4.trans HC1.out.symm)).trans e3
       have f3 := blk_frozen hC4 (m * 4 + 3)
       rw [put4_comm _ _ _ _ _ _ _ ⟨gO, nI * 4 + 3, none⟩ _ HGN.out] at hCont
       clear hC4 e0 e1 e2 e3 hO3 f4
       generalize hw4 : w3.setCell ⟨gO, nI * 4 + 3, none⟩ (.slice (some ⟨g1, 0, none⟩) (m + 1) c1) = w4 at k0 k1 k2 k3 f0 f1 f2 f3 hCont ⊢
       refine last_ (i := 9) (N := none) #[true, true, true, true, true, true, true, true, true, true, true, true, true] rfl rfl (by kernel_rfl) (by decide) (fun K hK => ?_)
       refine skip_ (w1 := put4 w4 g1 (m * 4) (.int .u8 X.f0) (.int .i64 X.f1) (.string X.f2) (.slice A3 n3 c3)) (by rfl) rfl ?_ ?_
       ·unfold put4
        go_simp
       refine hK.out _ _ ?_
       clear hK K
       exact norm_ (by simp only [putAll]) (hCont () _ rfl)
     rintro _ w5 hw5
     refine norm_ (a' := ?_) ?_ ?_
     rotate_left
     ·simp only [putAll]
      rfl
     have hgo : some g1 = fl.v.ownBlock ∨ ∃ b, some g1 = some b ∧ wx.heap.size ≤ b := by have := HAT.out; rw [HFV.out]; exact this
     have hg3 : wx.grownBy w3 fl.v.ownBlock := by rw [HFV.out]; exact HG3.out
     have hrd := HRq.out.node (X := X) HX.out.1 HB3.out HB1_.out HSTX.out HNI.out (HST2.out HNO.out) hg3 hgo
     rw [← HMM.out, ← hw5] at hrd
     have hjt : (j + 1).toNat = j.toNat + 1 := by have := hj.out; omega
     rw [← hjt] at hrd
     have HE4 := HE3.out
     rw [← hjt, ← frl_snoc fi ⟨fl.at_, .slice (some ⟨g1, 0, none⟩) (m + 1) c1, fl.L ++ [X]⟩] at HE4
     have HE5 := Aside0.mk HE4
     have hl5 : nO = (fi ++ [(⟨fl.at_, .slice (some ⟨g1, 0, none⟩) (m + 1) c1, fl.L ++ [X]⟩ : Fr)]).length := by rw [HNO.out]; simp
     rw [hl5] at hrd
     have HRD := Aside0.mk hrd
     have HL5 := Aside0.mk hl5
     have HJT := Aside0.mk hjt
     clear hgo hg3 hrd hjt HE4 hw5 hl5
     refine done_ (by kernel_rfl) ?_
     go_wp2
     go_roundw
     case rel => exact ⟨j + 1, gO, cO, _, by rw [HL5.out], by rw [HWJ.out], ⟨by have := hj.out; have := HC.out; omega⟩, HRD, HE5⟩
     case measure =>
      simp [intOf]
      rw [HWJ.out]
      have := hj.out
      have := HC.out
      omega
  ·have c' : decide (j < (ws.length : Int)) = false := decide_eq_false c
   have hn : ws.drop j.toNat = [] := List.drop_eq_nil_of_le (by have := hj.out; omega)
   replace c := eq_false c
   have hE' := hE.out
   rw [hn] at hE'
   obtain ⟨f0, hf0⟩ : ∃ f0, fs[0]? = some f0 := ⟨_, List.getElem?_eq_getElem hR.out.pos⟩
   by_cases c2 : 1 < fs.length
   ·have e2 : res = ([], (s.size : Int), 4) := by
     rw [hE', rdL, if_pos (by unfold frl; rw [List.length_map]; exact c2)]
    have HE2 := Aside0.mk e2
    have c2a : decide ((fs.length : Int) > 1) = true := decide_eq_true (by omega)
    have c2b : decide (1 < fs.length) = true := decide_eq_true (by omega)
    replace c2 := eq_true c2
    clear hE hE' e2 hn
    go_wp2
    go_ret3
    exact ⟨_, by rw [HE2.out]; rfl, by rw [HE2.out]; exact Kd.R_nil _ _ _ _ _, hR.out.below⟩
   ·have e2 : res = (f0.L, 0, 0) := by
     rw [hE', rdL, if_neg (by unfold frl; rw [List.length_map]; exact c2)]
     cases fs with
     | nil => cases hf0
     | cons a b => obtain rfl := Option.some.inj hf0; rfl
    have HE2 := Aside0.mk e2
    have c2a : decide ((fs.length : Int) > 1) = false := decide_eq_false (by omega)
    have c2b : decide (1 < fs.length) = false := decide_eq_false (by omega)
    have c2c : (0 < fs.length) = True := eq_true hR.out.pos
    have h3 : wr.cell? ⟨gO, 3, none⟩ = some f0.v := by
     have := hR.out.stk.cell hf0 (j := 3) rfl
     simpa using this
    have hr0 := Aside0.mk (hR.out.stk.row 0 f0 hf0)
    replace c2 := eq_false c2
    clear hE hE' e2 hn hf0
    go_wp2
    go_ret3
    exact ⟨f0.v, by rw [HE2.out]; rfl, by rw [HE2.out]; exact Kd.R_mono hr0.out (fun _ _ => trivial), hR.out.below⟩
theorem sexp_Read_err (k : Nat) (s : ByteArray) (ws : List S32) (at_ e_ : Int) (g B : Nat) (w : World) (hB : B ≤ w.heap.size) (h : lex_Words.f k s = some (ws, at_, e_)) (he : e_ ≠ 0) :
  Calls Try.prog 31 #[.string s, .pointer (some ⟨g, 0, none⟩)] w fun e w' => e = .returned (.tuple #[.slice none 0 0, .int .i64 at_, .int .i64 e_]) ∧ Below B w w' := by
 have HW := Aside0.mk (lex_Words.calls k s ws at_ e_ w h)
 have HBW := Aside0.mk hB
 have c1 : (e_ != 0) = true := bne_iff_ne.mpr he
 clear h he hB
 go_enter Try.func31, Try.ntmps31
 go_wp2_with (go_at_call 14; refine HW.out.mono ?_; rintro e w1 ⟨vW, rfl, hRW, hb1⟩)
 go_ret3
 exact ⟨rfl, hb1.mono HBW.out⟩
theorem sexp_Read_nil (s : ByteArray) (w : World) :
  Calls Try.prog 31 #[.string s, .pointer none] w fun e w' => e = .returned (.tuple #[.slice none 0 0, .int .i64 0, .int .i64 2]) ∧ w = w' := by
 go_enter Try.func31, Try.ntmps31
 go_wp2
 go_ret3
 exact ⟨rfl, rfl⟩
def alidadelaw13_read.f (k : Nat) (a0 : ByteArray) (a1 : Int) : Option ((List S51) × Int × Int) :=
 (budget_May.f 0 0 0 a1).bind fun b => if b = true then (lex_Words.f k a0).bind fun t => if t.2.2 = 0 then (if t.1.length ≤ 65536 then some (rdL a1 (a0.size : Int) t.1 [(0, [])]) else none) else some ([], t.2.1, t.2.2) else some ([], 0, 2)
theorem alidadelaw13_read.mono (k : Nat) (a0 : ByteArray) (a1 : Int) : LeO (alidadelaw13_read.f k a0 a1) (alidadelaw13_read.f (k + 1) a0 a1) := by
 unfold alidadelaw13_read.f
 exact LeO.bind (LeO.refl _) (fun _ => LeO.ite (LeO.bind (lex_Words.mono _ _) (fun _ => LeO.refl _)) (LeO.refl _))
theorem alidadelaw13_read.calls (k : Nat) (a0 : ByteArray) (a1 : Int) (r1 : List (S51)) (r2 : Int) (r3 : Int) (w : World) (h : alidadelaw13_read.f k a0 a1 = some (r1, r2, r3)) :
  Calls Try.prog 23 #[.string a0, .int .i64 a1] w fun e w' => ∃ v0_ : Value, e = .returned (.tuple #[v0_, .int .i64 r2, .int .i64 r3]) ∧ Kd.R k51 51 w' w.heap.size (fun _ => True) v0_ r1 ∧ Below w.heap.size w w' := by
 unfold alidadelaw13_read.f at h
 obtain ⟨b, hb, h⟩ := Option.bind_eq_some_iff.mp h
 cases b with
 | false =>
  have h' := Option.some.inj h
  simp only [Prod.mk.injEq] at h'
  obtain ⟨rfl, rfl, rfl⟩ := h'
  have HN := Aside0.mk (New_no a1 w hb)
  clear h hb
  go_enter Try.func23, Try.ntmps23
  go_wp2_with (first | (go_at_call 30; refine HN.out.mono ?_; rintro e w1 ⟨rfl, hb1⟩) | (go_at_call 31; refine (sexp_Read_nil a0 _).mono ?_; rintro e w2 ⟨rfl, rfl⟩))
  go_ret3
  exact ⟨_, rfl, Kd.R_nil _ _ _ _ _, hb1⟩
 | true =>
  rw [if_pos rfl] at h
  obtain ⟨⟨ws, at_, e_⟩, hW, h⟩ := Option.bind_eq_some_iff.mp h
  have HN := Aside0.mk (New_calls a1 w hb)
  by_cases c : e_ = 0
  ·subst c
   rw [if_pos rfl] at h
   by_cases c2 : ws.length ≤ 65536
   ·rw [if_pos c2] at h
    have HH := Aside0.mk (Option.some.inj h)
    have HR := Aside0.mk (fun g W hm hB => sexp_Read_calls k a0 a1 ws at_ w.heap.size g W hm hB hW c2 _ rfl)
    clear h hb hW c2
    go_enter Try.func23, Try.ntmps23
    go_wp2_with (first | (go_at_call 30; refine HN.out.mono ?_; rintro e w1 ⟨⟨g, rfl, hg, hm⟩, hb1⟩) | (go_at_call 31; refine (HR.out _ _ hm hg).mono ?_; rintro e w2 ⟨v, rfl, hr2, hb2⟩))
    go_ret3
    rw [HH.out] at hr2
    exact ⟨v, by rw [HH.out]; rfl, hr2, hb1.trans hb2⟩
   ·rw [if_neg c2] at h
    cases h
  ·rw [if_neg c] at h
   have h' := Option.some.inj h
   simp only [Prod.mk.injEq] at h'
   obtain ⟨rfl, rfl, rfl⟩ := h'
   have HR := Aside0.mk (fun g W (hB : w.heap.size ≤ W.heap.size) => sexp_Read_err k a0 ws at_ e_ g w.heap.size W hB hW c)
   clear h hb hW c
   go_enter Try.func23, Try.ntmps23
   go_wp2_with (first | (go_at_call 30; refine HN.out.mono ?_; rintro e w1 ⟨⟨g, rfl, hg, hm⟩, hb1⟩) | (go_at_call 31; refine (HR.out _ _ hb1.size).mono ?_; rintro e w2 ⟨rfl, hb2⟩))
   go_ret3
   exact ⟨_, rfl, Kd.R_nil _ _ _ _ _, hb1.trans hb2⟩

end Go.Proofs.Ytgikmpgpccfiiaa.PSxp
