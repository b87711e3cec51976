-- A text of the seat Ytejlgahkekgceaa, written by a program of this session (drive.py).
import Derived.Test.YtejlgahkekgceaaPDivx0
import Derived.Test.YtejlgahkekgceaaPDivx1
import Derived.Test.YtejlgahkekgceaaPDivx2
import Derived.Test.YtejlgahkekgceaaPDivx3
import Derived.Test.YtejlgahkekgceaaPDivx4
import Derived.Test.YtejlgahkekgceaaPDivx6
import Derived.Test.YtejlgahkekgceaaPDivx7
import Derived.Test.YtejlgahkekgceaaPDivx8
import Derived.Test.YtejlgahkekgceaaPDivx10
import Derived.Test.YtejlgahkekgceaaGPDivx11toPDivx13
import Derived.Test.YtejlgahkekgceaaGPDivx11toPDivx13
import Derived.Test.YtejlgahkekgceaaGPDivx11toPDivx13
import Derived.Test.YtejlgahkekgceaaPDivx14
import Derived.Test.YtejlgahkekgceaaGBitstoPDivx16
import Derived.Test.YtejlgahkekgceaaGBitstoPDivx16
import Derived.Test.YtejlgahkekgceaaPDivx18
import Derived.Test.YtejlgahkekgceaaVal
import Derived.Laws.BitsLemmas
import Derived.WalkSpells
import Derived.Lib.ItoaNum
import Derived.IntWalk
import Derived.StillTailTactics
namespace Go.Proofs.Ytejlgahkekgceaa.PDiv
open Go.RowKit Go.Proofs.YtejlgahkekgceaaW.PrintWords Go.Proofs.YtejlgahkekgceaaW.PrintLast Go.Proofs.YtejlgahkekgceaaW.PrintMore
attribute [local go_sem] max2_int min2_int max_two min_two max_three min_three max_four min_four   -- for this text's walks alone
set_option linter.unusedVariables false
set_option linter.unusedSimpArgs false

-- BY HAND: alidade/div.DivMod: function 12
-- IMPORT Derived.Test.YtejlgahkekgceaaVal
-- IMPORT Derived.Laws.BitsLemmas
-- IMPORT Derived.WalkSpells
-- IMPORT Derived.Lib.ItoaNum
-- IMPORT Derived.IntWalk
-- IMPORT Derived.StillTailTactics
/-! #### one block of limbs, known whole -/
def Blk (w : World) (g : Nat) (l : List Int) : Prop := w.heap[g]? = some (.cells (l.map (Value.int .u32)).toArray 23 (0, 0))
/-- nothing but block g is another one -/
structure Only (g : Nat) (w w' : World) : Prop where
  os : w'.os = w.os
  tape : w'.tape = w.tape
  output : w'.output = w.output
  size : w'.heap.size = w.heap.size
  rest : ∀ k, k ≠ g → w'.heap[k]? = w.heap[k]?
theorem Only.refl (g : Nat) (w : World) : Only g w w := ⟨rfl, rfl, rfl, rfl, fun _ _ => rfl⟩
theorem Only.trans_ {g : Nat} {a b c : World} (h : Only g a b) (k : Only g b c) : Only g a c := ⟨k.os.trans h.os, k.tape.trans h.tape, k.output.trans h.output, k.size.trans h.size, fun i hi => (k.rest i hi).trans (h.rest i hi)⟩
theorem Only.drewN {g : Nat} {a b : World} (h : Only g a b) (n : Nat) : Only g a (b.drewN n) := ⟨h.os, h.tape, h.output, h.size, h.rest⟩
theorem Only.set_ {g : Nat} {a b : World} (h : Only g a b) (j : Nat) (v : Value) : Only g a (b.setCell ⟨g, j, none⟩ v) :=
  h.trans_ ⟨rfl, rfl, rfl, by simp [World.setCell], fun k hk => Below.heap_setCell _ _ _ _ (by simpa using hk)⟩
theorem Only.below {g N : Nat} {a b : World} (h : Only g a b) (hN : N ≤ g) : Below N a b := ⟨h.os, h.tape, h.output, Nat.le_of_eq h.size.symm, fun k hk => h.rest k (by omega)⟩
theorem Only.blk {g g2 : Nat} {a b : World} {l : List Int} (h : Only g a b) (hb : Blk a g2 l) (hne : g2 ≠ g) : Blk b g2 l := (h.rest g2 hne).trans hb
theorem Blk.cell {w : World} {g : Nat} {l : List Int} (h : Blk w g l) {j : Nat} (hj : j < l.length) : w.cell? ⟨g, j, none⟩ = some (.int .u32 (l.getD j 0)) := by
  unfold World.cell?
  rw [show w.heap[(⟨g, j, none⟩ : Addr).block]? = _ from h]
  simp [List.getD_eq_getElem?_getD, List.getElem?_eq_getElem hj, hj]
theorem Blk.frozen {w : World} {g : Nat} {l : List Int} (h : Blk w g l) (j : Nat) : w.frozen? ⟨g, j, none⟩ = false := by
  unfold World.frozen?
  rw [show w.heap[(⟨g, j, none⟩ : Addr).block]? = _ from h]
  simp
theorem Blk.drewN {w : World} {g : Nat} {l : List Int} (h : Blk w g l) (n : Nat) : Blk (w.drewN n) g l := h
theorem Blk.lt {w : World} {g : Nat} {l : List Int} (h : Blk w g l) : g < w.heap.size := (Array.getElem?_eq_some_iff.1 h).1
theorem Blk.set_ {w : World} {g : Nat} {l : List Int} (h : Blk w g l) (j : Nat) (x : Int) : Blk (w.setCell ⟨g, j, none⟩ (.int .u32 x)) g (l.set j x) := by
  unfold Blk at *
  have hg := (Array.getElem?_eq_some_iff.1 h).1
  simp only [World.setCell, Array.getElem?_modify, if_true]
  rw [h]
  simp [List.map_set]
theorem dm_val_set : ∀ (l : List Int) (p : Nat) (v : Int), p < l.length → YtejlgahkekgceaaV.val (l.set p v) + YtejlgahkekgceaaV.B ^ p * (l.getD p 0).toNat = YtejlgahkekgceaaV.val l + YtejlgahkekgceaaV.B ^ p * v.toNat
  | [], _, _, h => by simp at h
  | x :: l, 0, v, _ => by simp [YtejlgahkekgceaaV.val]; omega
  | x :: l, p + 1, v, h => by
    have ih := dm_val_set l p v (by simpa using h)
    simp only [List.set_cons_succ, YtejlgahkekgceaaV.val, List.getD_cons_succ, Nat.pow_succ]
    have h2 := congrArg (fun z => YtejlgahkekgceaaV.B * z) ih
    simp only [Nat.mul_add] at h2
    rw [Nat.mul_comm (YtejlgahkekgceaaV.B ^ p), Nat.mul_assoc, Nat.mul_assoc]
    generalize YtejlgahkekgceaaV.B * (YtejlgahkekgceaaV.B ^ p * (l.getD p 0).toNat) = c at *
    generalize YtejlgahkekgceaaV.B * (YtejlgahkekgceaaV.B ^ p * v.toNat) = d at *
    omega
theorem dm_ok_set {l : List Int} (h : YtejlgahkekgceaaV.ok l = true) (p : Nat) {v : Int} (h0 : 0 ≤ v) (h1 : v < 4294967296) : YtejlgahkekgceaaV.ok (l.set p v) = true := by
  simp only [YtejlgahkekgceaaV.ok, List.all_eq_true, Bool.and_eq_true, decide_eq_true_eq] at h ⊢
  intro x hx
  rcases List.mem_or_eq_of_mem_set hx with h2 | rfl
  · exact h x h2
  · exact ⟨h0, h1⟩
theorem dm_getD_set_ne {l : List Int} {p j : Nat} (v : Int) (h : p ≠ j) : (l.set p v).getD j 0 = l.getD j 0 := by
  rw [List.getD_eq_getElem?_getD, List.getD_eq_getElem?_getD, List.getElem?_set_ne h]
/-- one limb taken off -/
theorem tk_step {l cur vl : List Int} {i k q cr le x y P d b2 : Nat} (hv : YtejlgahkekgceaaV.val cur + YtejlgahkekgceaaV.B ^ i * (q * YtejlgahkekgceaaV.val (vl.take k)) = YtejlgahkekgceaaV.val l + YtejlgahkekgceaaV.B ^ (i + k) * (cr + le)) (hy : cur.getD (i + k) 0 = (y : Int)) (hlt : i + k < cur.length) (hx : vl.getD k 0 = (x : Int)) (hP : q * x + cr = P) (hd : d + P % 4294967296 + le = y + 4294967296 * b2) :
    YtejlgahkekgceaaV.val (cur.set (i + k) (d : Int)) + YtejlgahkekgceaaV.B ^ i * (q * YtejlgahkekgceaaV.val (vl.take (k + 1))) = YtejlgahkekgceaaV.val l + YtejlgahkekgceaaV.B ^ (i + (k + 1)) * (P / 4294967296 + b2) := by
  have h1 := dm_val_set cur (i + k) (d : Int) hlt
  rw [hy, Int.toNat_natCast, Int.toNat_natCast] at h1
  have h2 := YtejlgahkekgceaaV.val_take_succ vl k
  rw [hx, Int.toNat_natCast] at h2
  have key : d + le + (q * x + cr) = y + YtejlgahkekgceaaV.B * (P / 4294967296 + b2) := by simp only [YtejlgahkekgceaaV.B]; omega
  have k2 := congrArg (fun z => YtejlgahkekgceaaV.B ^ (i + k) * z) key
  simp only [Nat.mul_add] at k2
  rw [h2, show i + (k + 1) = i + k + 1 by omega, Nat.pow_succ, Nat.mul_assoc]
  simp only [Nat.mul_add] at hv ⊢
  have e : YtejlgahkekgceaaV.B ^ i * (q * (YtejlgahkekgceaaV.B ^ k * x)) = YtejlgahkekgceaaV.B ^ (i + k) * (q * x) := by rw [Nat.pow_add, Nat.mul_left_comm q, Nat.mul_assoc]
  rw [e]
  omega
/-- the last limb -/
theorem tk_last {l cur vl : List Int} {i n q cr le y d b2 : Nat} (hv : YtejlgahkekgceaaV.val cur + YtejlgahkekgceaaV.B ^ i * (q * YtejlgahkekgceaaV.val vl) = YtejlgahkekgceaaV.val l + YtejlgahkekgceaaV.B ^ (i + n) * (cr + le)) (hy : cur.getD (i + n) 0 = (y : Int)) (hlt : i + n < cur.length) (hd : d + cr + le = y + 4294967296 * b2) :
    YtejlgahkekgceaaV.val (cur.set (i + n) (d : Int)) + YtejlgahkekgceaaV.B ^ i * (q * YtejlgahkekgceaaV.val vl) = YtejlgahkekgceaaV.val l + YtejlgahkekgceaaV.B ^ (i + n + 1) * b2 := by
  have h1 := dm_val_set cur (i + n) (d : Int) hlt
  rw [hy, Int.toNat_natCast, Int.toNat_natCast] at h1
  have key : d + (cr + le) = y + YtejlgahkekgceaaV.B * b2 := by simp only [YtejlgahkekgceaaV.B]; omega
  have k2 := congrArg (fun z => YtejlgahkekgceaaV.B ^ (i + n) * z) key
  simp only [Nat.mul_add] at k2
  rw [Nat.pow_succ, Nat.mul_assoc]
  simp only [Nat.mul_add] at hv ⊢
  omega
theorem bk_step {l cur vl : List Int} {i k c x y d c2 : Nat} (hv : YtejlgahkekgceaaV.val cur + YtejlgahkekgceaaV.B ^ (i + k) * c = YtejlgahkekgceaaV.val l + YtejlgahkekgceaaV.B ^ i * YtejlgahkekgceaaV.val (vl.take k)) (hy : cur.getD (i + k) 0 = (y : Int)) (hlt : i + k < cur.length) (hx : vl.getD k 0 = (x : Int)) (hd : d + 4294967296 * c2 = y + x + c) :
    YtejlgahkekgceaaV.val (cur.set (i + k) (d : Int)) + YtejlgahkekgceaaV.B ^ (i + (k + 1)) * c2 = YtejlgahkekgceaaV.val l + YtejlgahkekgceaaV.B ^ i * YtejlgahkekgceaaV.val (vl.take (k + 1)) := by
  have h1 := dm_val_set cur (i + k) (d : Int) hlt
  rw [hy, Int.toNat_natCast, Int.toNat_natCast] at h1
  have h2 := YtejlgahkekgceaaV.val_take_succ vl k
  rw [hx, Int.toNat_natCast] at h2
  have key : d + YtejlgahkekgceaaV.B * c2 = y + x + c := by simp only [YtejlgahkekgceaaV.B]; omega
  have k2 := congrArg (fun z => YtejlgahkekgceaaV.B ^ (i + k) * z) key
  simp only [Nat.mul_add] at k2
  rw [h2, show i + (k + 1) = i + k + 1 by omega, Nat.pow_succ, Nat.mul_assoc, Nat.mul_add]
  have e : YtejlgahkekgceaaV.B ^ i * (YtejlgahkekgceaaV.B ^ k * x) = YtejlgahkekgceaaV.B ^ (i + k) * x := by rw [Nat.pow_add, Nat.mul_assoc]
  rw [e]
  omega
theorem bk_last {l cur vl : List Int} {i n c y d c2 : Nat} (hv : YtejlgahkekgceaaV.val cur + YtejlgahkekgceaaV.B ^ (i + n) * c = YtejlgahkekgceaaV.val l + YtejlgahkekgceaaV.B ^ i * YtejlgahkekgceaaV.val vl) (hy : cur.getD (i + n) 0 = (y : Int)) (hlt : i + n < cur.length) (hd : d + 4294967296 * c2 = y + c) :
    YtejlgahkekgceaaV.val (cur.set (i + n) (d : Int)) + YtejlgahkekgceaaV.B ^ (i + n + 1) * c2 = YtejlgahkekgceaaV.val l + YtejlgahkekgceaaV.B ^ i * YtejlgahkekgceaaV.val vl := by
  have h1 := dm_val_set cur (i + n) (d : Int) hlt
  rw [hy, Int.toNat_natCast, Int.toNat_natCast] at h1
  have key : d + YtejlgahkekgceaaV.B * c2 = y + c := by simp only [YtejlgahkekgceaaV.B]; omega
  have k2 := congrArg (fun z => YtejlgahkekgceaaV.B ^ (i + n) * z) key
  simp only [Nat.mul_add] at k2
  rw [Nat.pow_succ, Nat.mul_assoc]
  omega
theorem dm_sub32 {x y c : Nat} (hx : x < 4294967296) (hy : y < 4294967296) (hc : c ≤ 1) : ∃ d2 c2 : Nat, bits_Sub32.f (x : Int) (y : Int) (c : Int) = some ((d2 : Int), (c2 : Int)) ∧ d2 < 4294967296 ∧ c2 ≤ 1 ∧ d2 + y + c = x + 4294967296 * c2 := by
  by_cases h : x < y + c
  · refine ⟨x + 4294967296 - y - c, 1, ?_, by omega, by omega, by omega⟩
    unfold bits_Sub32.f
    rw [if_pos ⟨by omega, by omega, by omega⟩, if_pos (by omega)]
    congr 2
    omega
  · refine ⟨x - y - c, 0, ?_, by omega, by omega, by omega⟩
    unfold bits_Sub32.f
    rw [if_pos ⟨by omega, by omega, by omega⟩, if_neg (by omega)]
    congr 2
    omega
def TkPost (g i n : Nat) (l vl : List Int) (q : Nat) (w : World) (e : Ending) (w' : World) : Prop := ∃ (b : Nat) (l' : List Int), e = .returned (.bool (decide (0 < b))) ∧ b ≤ 1 ∧ Blk w' g l' ∧ Only g w w' ∧ l'.length = l.length ∧ YtejlgahkekgceaaV.ok l' = true ∧ (∀ j, i + n + 1 ≤ j → l'.getD j 0 = l.getD j 0) ∧
      YtejlgahkekgceaaV.val l' + YtejlgahkekgceaaV.B ^ i * (q * YtejlgahkekgceaaV.val vl) = YtejlgahkekgceaaV.val l + YtejlgahkekgceaaV.B ^ (i + n + 1) * b
set_option maxRecDepth 100000 in
set_option maxHeartbeats 8000000 in
theorem take_win (g i n c c1 : Nat) (l vl : List Int) (A1 : Option Addr) (q : Nat) (w : World) (hb : Blk w g l) (hn : n = vl.length) (hi : i + n + 1 ≤ l.length) (hl : l.length ≤ 16777216) (ol : YtejlgahkekgceaaV.ok l = true) (ov : YtejlgahkekgceaaV.ok vl = true) (hq : q < 4294967296) (hc : n + 1 ≤ c) (hc1 : vl.length ≤ c1)
    (hr : ∀ W', Only g w W' → Kd.C (Kd.int .u32) W' A1 vl.length vl) :
    Calls Try.prog 32 #[.slice (some ⟨g, i, none⟩) (n + 1) c, .slice A1 vl.length c1, .int .u64 q] w (TkPost g i n l vl q w) := by
  have HB := Aside0.mk (And.intro hb (And.intro ol ov))
  have HR := Aside0.mk hr
  have HN := Aside0.mk hn
  have hn2 : vl.length < n + 1 := by omega
  have hn3 : n ≤ vl.length := by omega
  clear hb hr ol ov hn
  go_enter Try.func32, Try.ntmps32
  go_wp2
  go_loopw [7, 8, 14] (fun cv lv iv wr => ∃ (k cr le : Nat) (cur : List Int), k ≤ vl.length ∧ iv = .int .i64 k ∧ cv = .int .u32 cr ∧ lv = .int .u32 le ∧ cr < 4294967296 ∧ le ≤ 1 ∧
      Aside0 (Blk wr g cur ∧ Only g w wr ∧ YtejlgahkekgceaaV.ok cur = true ∧ cur.length = l.length ∧ (∀ j, i + k ≤ j → cur.getD j 0 = l.getD j 0) ∧ YtejlgahkekgceaaV.val cur + YtejlgahkekgceaaV.B ^ i * (q * YtejlgahkekgceaaV.val (vl.take k)) = YtejlgahkekgceaaV.val l + YtejlgahkekgceaaV.B ^ (i + k) * (cr + le))) (fun _ _ iv _ => vl.length - (intOf iv).toNat)
  case atStart => exact ⟨0, 0, 0, l, by omega, rfl, rfl, rfl, by omega, by omega, ⟨HB.out.1, Only.refl _ _, HB.out.2.1, rfl, fun _ _ => rfl, by simp [YtejlgahkekgceaaV.val]⟩⟩
  case round =>
    obtain ⟨k, cr, le, cur, hk, rfl, rfl, rfl, hcr, hle, HI⟩ := hrel
    by_cases hlt : k < vl.length
    · have hp : i + k < cur.length := by have := HI.out.2.2.2.1; omega
      have hxo := YtejlgahkekgceaaV.ok_get HB.out.2.2 k
      have hyo := YtejlgahkekgceaaV.ok_get HI.out.2.2.1 (i + k)
      obtain ⟨x, hx⟩ := Int.eq_ofNat_of_zero_le hxo.1
      obtain ⟨y, hy⟩ := Int.eq_ofNat_of_zero_le hyo.1
      rw [hx] at hxo
      rw [hy] at hyo
      obtain ⟨ad, rfl, g0⟩ := Kd.at_int (HR.out _ HI.out.2.1) (k : Int) (by omega) (by omega)
      have g1 := HI.out.1.cell hp
      have g2 := HI.out.1.frozen (i + k)
      rw [hy] at g1
      rw [show (k : Int).toNat = k from Int.toNat_natCast k, show rd vl (k : Int) = (x : Int) by unfold rd; rw [Int.toNat_natCast]; exact hx] at g0
      have hm1 : q * x ≤ 4294967295 * 4294967295 := Nat.mul_le_mul (by omega) (by omega)
      have ew : IntKind.u64.wrap ((q : Int) * (x : Int)) = ((q * x : Nat) : Int) := by
        rw [d_wraps _ (by rw [← Int.natCast_mul]; omega) (by rw [← Int.natCast_mul]; omega), ← Int.natCast_mul]
      obtain ⟨P, hP⟩ : ∃ P, q * x + cr = P := ⟨_, rfl⟩
      have hPb : P < 18446744073709551616 := by omega
      have ew2 : IntKind.u64.wrap (IntKind.u64.wrap ((q : Int) * (x : Int)) + (cr : Int)) = (P : Int) := by
        rw [ew, d_wraps _ (by omega) (by omega), ← hP]; omega
      have ew3 : IntKind.u64.wrap ((q : Int) * (x : Int) + (cr : Int)) = (P : Int) := by
        rw [← Int.natCast_mul, d_wraps _ (by omega) (by omega), ← hP]; omega
      have ew4 : (q : Int) * (x : Int) + (cr : Int) = (P : Int) := by
        rw [← Int.natCast_mul, ← hP]; omega
      have hPm : P % 4294967296 < 4294967296 := Nat.mod_lt _ (by decide)
      have hPd : P / 4294967296 < 4294967296 := by omega
      obtain ⟨d, b2, hs, hd, hb2, hd2⟩ := dm_sub32 (x := y) (y := P % 4294967296) (c := le) (by omega) (by omega) hle
      have eq1 : ((P % 4294967296 : Nat) : Int) = (P : Int) % 4294967296 := by omega
      rw [eq1] at hs
      have HS := Aside0.mk hs
      have HST := Aside0.mk (tk_step HI.out.2.2.2.2.2 hy hp hx hP hd2)
      clear hs hy hx hP hd2 hm1 eq1 ew
      go_wp2_with (go_at_call 56; (refine (bits_Sub32.calls _ _ _ _ _ _ HS.out).mono ?_); rintro e w' ⟨rfl, ⟨nd, rfl⟩⟩)
      go_roundw
      case rel =>
        exact ⟨k + 1, P / 4294967296, b2, cur.set (i + k) (d : Int), by omega, by go_num, by go_num, rfl, hPd, hb2, ⟨(HI.out.1.drewN nd).set_ _ _, (HI.out.2.1.drewN nd).set_ _ _, dm_ok_set HI.out.2.2.1 _ (by omega) (by omega), by rw [List.length_set]; exact HI.out.2.2.2.1,
          fun j hj => by rw [dm_getD_set_ne _ (by omega)]; exact HI.out.2.2.2.2.1 j (by omega), HST.out⟩⟩
      case measure => simp [intOf]; omega
    · obtain rfl : k = vl.length := by omega
      have hp : i + vl.length < cur.length := by have := HI.out.2.2.2.1; omega
      have hyo := YtejlgahkekgceaaV.ok_get HI.out.2.2.1 (i + vl.length)
      obtain ⟨y, hy⟩ := Int.eq_ofNat_of_zero_le hyo.1
      rw [hy] at hyo
      have g1 := HI.out.1.cell hp
      have g2 := HI.out.1.frozen (i + vl.length)
      rw [hy] at g1
      obtain ⟨d, b2, hs, hd, hb2, hd2⟩ := dm_sub32 (x := y) (y := cr) (c := le) (by omega) (by omega) hle
      have HS := Aside0.mk hs
      have hv := HI.out.2.2.2.2.2
      rw [List.take_length] at hv
      have HST := Aside0.mk (tk_last hv hy hp hd2)
      clear hs hy hd2 hv
      go_wp2_with (go_at_call 56; (refine (bits_Sub32.calls _ _ _ _ _ _ HS.out).mono ?_); rintro e w' ⟨rfl, ⟨nd, rfl⟩⟩)
      go_ret
      refine ⟨b2, cur.set (i + vl.length) (d : Int), ?_, hb2, (HI.out.1.drewN nd).set_ _ _, (HI.out.2.1.drewN nd).set_ _ _, by rw [List.length_set]; exact HI.out.2.2.2.1, dm_ok_set HI.out.2.2.1 _ (by omega) (by omega), fun j hj => ?_, ?_⟩
      · rfl
      · have := HN.out
        rw [dm_getD_set_ne _ (by omega)]; exact HI.out.2.2.2.2.1 j (by omega)
      · rw [HN.out]; exact HST.out
theorem dm_strip_take {l : List Int} {m : Nat} (hm : m + 1 ≤ l.length) (h0 : l.getD m 0 = 0) (hs : YtejlgahkekgceaaV.strip (l.take (m + 1)) = YtejlgahkekgceaaV.strip l) : YtejlgahkekgceaaV.strip (l.take m) = YtejlgahkekgceaaV.strip l := by
  rw [List.take_succ_eq_append_getElem (by omega)] at hs
  rw [List.getD_eq_getElem?_getD, List.getElem?_eq_getElem (by omega)] at h0
  have h1 : l[m] = 0 := h0
  rw [h1, YtejlgahkekgceaaV.strip_snoc_zero] at hs
  exact hs
theorem dm_strip_stop {l : List Int} {m : Nat} (hm : m + 1 ≤ l.length) (h0 : l.getD m 0 ≠ 0) (hs : YtejlgahkekgceaaV.strip (l.take (m + 1)) = YtejlgahkekgceaaV.strip l) : YtejlgahkekgceaaV.strip l = l.take (m + 1) := by
  rw [← hs, List.take_succ_eq_append_getElem (by omega), YtejlgahkekgceaaV.strip_snoc]
  rw [List.getD_eq_getElem?_getD, List.getElem?_eq_getElem (by omega)] at h0
  exact h0
def dm_lenOf_ : Value → Nat
  | .slice _ n _ => n
  | _ => 0
set_option maxRecDepth 100000 in
set_option maxHeartbeats 4000000 in
theorem cut_read (A : Option Addr) (c : Nat) (l : List Int) (w : World) (hr : Kd.C (Kd.int .u32) w A l.length l) (hc : l.length ≤ c) :
    Calls Try.prog 34 #[.slice A l.length c] w fun e w' => e = .returned (.slice A (YtejlgahkekgceaaV.strip l).length c) ∧ w' = w := by
  have hm := hr.2.1
  obtain ⟨i0, hi, hz0, hz1, hz2⟩ := info_parts info23
  have HR := Aside0.mk hr
  have hrun : ∀ (W : World) (n : Nat) (j : Int), n ≤ c → 0 ≤ j → j ≤ n → (Instr.slice 22 (.slice A n c) none (some (.int .i64 j)) none).run Try.prog W = .ok (.slice A j.toNat c) W := fun W n j hn h0 h1 => by
    have hel : Try.prog.elem 22 = 23 := by simp [Program.elem, Try.underlying22]
    have hu : Try.prog.underlying 22 = some (.slice (Try.prog.elem 22)) := by rw [hel]; exact Try.underlying22
    have ha : (A.map fun x => x.add 0) = A := by cases A <;> simp [Addr.add]
    rw [run_slice_h W 22 A n c hu .i64 j h0 (by omega), hel]
    simp [sizeOf, typeInfo, hi, hz1, sliced, Result.andThen, ha]
  clear hr
  go_enter Try.func34, Try.ntmps34
  go_wp2
  go_loop [0] (fun v => ∃ m : Nat, m ≤ l.length ∧ v = .slice A m c ∧ Aside0 (YtejlgahkekgceaaV.strip (l.take m) = YtejlgahkekgceaaV.strip l)) (fun v => dm_lenOf_ v)
  case atStart => exact ⟨l.length, Nat.le_refl _, rfl, ⟨by rw [List.take_length]⟩⟩
  case round =>
    obtain ⟨m, hml, rfl, HS⟩ := hrel
    by_cases h0 : m = 0
    · subst h0
      have hfin := Aside0.mk (show 0 = (YtejlgahkekgceaaV.strip l).length by rw [← HS.out]; rfl)
      clear hrun HS
      go_wp2
      go_ret
      exact ⟨by rw [← hfin.out]; rfl, rfl⟩
    · obtain ⟨q, rfl⟩ : ∃ q, m = q + 1 := ⟨m - 1, by omega⟩
      obtain ⟨ad, rfl, g0⟩ := Kd.at_int HR.out (q : Int) (by omega) (by omega)
      rw [show (q : Int).toNat = q from Int.toNat_natCast q, show rd l (q : Int) = l.getD q 0 by unfold rd; rw [Int.toNat_natCast]] at g0
      have d1 : decide (0 < q + 1) = true := decide_eq_true (by omega)
      have d2 : decide (0 < (q : Int) + 1) = true := decide_eq_true (by omega)
      have hw : IntKind.i64.wrap (((q + 1 : Nat) : Int) - 1) = (q : Int) := by simp only [IntKind.wrap, IntKind.bits, IntKind.signed]; simp; omega
      have hr1 : ∀ W : World, (Instr.slice 22 (.slice (some ad) (q + 1) c) none (some (.int .i64 (q : Int))) none).run Try.prog W = .ok (.slice (some ad) q c) W := fun W => by
        have := hrun W (q + 1) (q : Int) (by omega) (by omega) (by omega)
        rw [Int.toNat_natCast] at this
        exact this
      clear hrun
      by_cases hx : l.getD q 0 = 0
      · rw [hx] at g0
        have hst := Aside0.mk (dm_strip_take hml hx HS.out)
        have hq2 : q ≤ l.length := by omega
        clear hx HS
        go_wp2
        go_round
        case rel => exact ⟨q, hq2, rfl, hst⟩
        case measure => simp [dm_lenOf_]
      · have hst := Aside0.mk (dm_strip_stop hml hx HS.out)
        have hl : (YtejlgahkekgceaaV.strip l).length = q + 1 := by rw [hst.out, List.length_take]; omega
        have HL := Aside0.mk hl
        obtain ⟨x, hxe⟩ : ∃ x, l.getD q 0 = x := ⟨_, rfl⟩
        rw [hxe] at g0 hx
        have hb : (x == 0) = false := beq_eq_false_iff_ne.2 hx
        clear hl HS hst hxe hx
        go_wp2
        go_ret
        exact ⟨by rw [HL.out]; rfl, rfl⟩
def BkPost (g i n : Nat) (l vl : List Int) (w : World) (e : Ending) (w' : World) : Prop := ∃ (b : Nat) (l' : List Int), e = .returned (.tuple #[]) ∧ b ≤ 1 ∧ Blk w' g l' ∧ Only g w w' ∧ l'.length = l.length ∧ YtejlgahkekgceaaV.ok l' = true ∧ (∀ j, i + n + 1 ≤ j → l'.getD j 0 = l.getD j 0) ∧
      YtejlgahkekgceaaV.val l' + YtejlgahkekgceaaV.B ^ (i + n + 1) * b = YtejlgahkekgceaaV.val l + YtejlgahkekgceaaV.B ^ i * YtejlgahkekgceaaV.val vl
theorem dm_add32 {x y c : Nat} (hx : x < 4294967296) (hy : y < 4294967296) (hc : c ≤ 1) : ∃ d2 c2 : Nat, bits_Add32.f (x : Int) (y : Int) (c : Int) = some ((d2 : Int), (c2 : Int)) ∧ d2 < 4294967296 ∧ c2 ≤ 1 ∧ d2 + 4294967296 * c2 = x + y + c := by
  refine ⟨(x + y + c) % 4294967296, (x + y + c) / 4294967296, ?_, Nat.mod_lt _ (by decide), by omega, by omega⟩
  unfold bits_Add32.f
  rw [d_wraps (x : Int) (by omega) (by omega), d_wraps (y : Int) (by omega) (by omega), d_wraps (c : Int) (by omega) (by omega), d_wraps ((x : Int) + (y : Int)) (by omega) (by omega), d_wraps _ (by omega) (by omega)]
  congr 2 <;> omega
set_option maxRecDepth 100000 in
set_option maxHeartbeats 8000000 in
theorem back_win (g i n c c1 : Nat) (l vl : List Int) (A1 : Option Addr) (w : World) (hb : Blk w g l) (hn : n = vl.length) (hi : i + n + 1 ≤ l.length) (hl : l.length ≤ 16777216) (ol : YtejlgahkekgceaaV.ok l = true) (ov : YtejlgahkekgceaaV.ok vl = true) (hc : n + 1 ≤ c) (hc1 : vl.length ≤ c1)
    (hr : ∀ W', Only g w W' → Kd.C (Kd.int .u32) W' A1 vl.length vl) :
    Calls Try.prog 33 #[.slice (some ⟨g, i, none⟩) (n + 1) c, .slice A1 vl.length c1] w (BkPost g i n l vl w) := by
  have HB := Aside0.mk (And.intro hb (And.intro ol ov))
  have HR := Aside0.mk hr
  have HN := Aside0.mk hn
  have hn2 : vl.length < n + 1 := by omega
  have hn3 : n ≤ vl.length := by omega
  clear hb hr ol ov hn
  go_enter Try.func33, Try.ntmps33
  go_wp2
  go_loopw [4, 9] (fun lv iv wr => ∃ (k le : Nat) (cur : List Int), k ≤ vl.length ∧ iv = .int .i64 k ∧ lv = .int .u32 le ∧ le ≤ 1 ∧
      Aside0 (Blk wr g cur ∧ Only g w wr ∧ YtejlgahkekgceaaV.ok cur = true ∧ cur.length = l.length ∧ (∀ j, i + k ≤ j → cur.getD j 0 = l.getD j 0) ∧ YtejlgahkekgceaaV.val cur + YtejlgahkekgceaaV.B ^ (i + k) * le = YtejlgahkekgceaaV.val l + YtejlgahkekgceaaV.B ^ i * YtejlgahkekgceaaV.val (vl.take k))) (fun _ iv _ => vl.length - (intOf iv).toNat)
  case atStart => exact ⟨0, 0, l, by omega, rfl, rfl, by omega, ⟨HB.out.1, Only.refl _ _, HB.out.2.1, rfl, fun _ _ => rfl, by simp [YtejlgahkekgceaaV.val]⟩⟩
  case round =>
    obtain ⟨k, le, cur, hk, rfl, rfl, hle, HI⟩ := hrel
    by_cases hlt : k < vl.length
    · have hp : i + k < cur.length := by have := HI.out.2.2.2.1; omega
      have hxo := YtejlgahkekgceaaV.ok_get HB.out.2.2 k
      have hyo := YtejlgahkekgceaaV.ok_get HI.out.2.2.1 (i + k)
      obtain ⟨x, hx⟩ := Int.eq_ofNat_of_zero_le hxo.1
      obtain ⟨y, hy⟩ := Int.eq_ofNat_of_zero_le hyo.1
      rw [hx] at hxo
      rw [hy] at hyo
      obtain ⟨ad, rfl, g0⟩ := Kd.at_int (HR.out _ HI.out.2.1) (k : Int) (by omega) (by omega)
      have g1 := HI.out.1.cell hp
      have g2 := HI.out.1.frozen (i + k)
      rw [hy] at g1
      rw [show (k : Int).toNat = k from Int.toNat_natCast k, show rd vl (k : Int) = (x : Int) by unfold rd; rw [Int.toNat_natCast]; exact hx] at g0
      obtain ⟨d, b2, hs, hd, hb2, hd2⟩ := dm_add32 (x := y) (y := x) (c := le) (by omega) (by omega) hle
      have HS := Aside0.mk hs
      have HST := Aside0.mk (bk_step HI.out.2.2.2.2.2 hy hp hx hd2)
      clear hs hy hx hd2
      go_wp2_with (go_at_call 48; (refine (bits_Add32.calls _ _ _ _ _ _ HS.out).mono ?_); rintro e w' ⟨rfl, ⟨nd, rfl⟩⟩)
      go_roundw
      case rel =>
        exact ⟨k + 1, b2, cur.set (i + k) (d : Int), by omega, by go_num, rfl, hb2, ⟨(HI.out.1.drewN nd).set_ _ _, (HI.out.2.1.drewN nd).set_ _ _, dm_ok_set HI.out.2.2.1 _ (by omega) (by omega), by rw [List.length_set]; exact HI.out.2.2.2.1,
          fun j hj => by rw [dm_getD_set_ne _ (by omega)]; exact HI.out.2.2.2.2.1 j (by omega), HST.out⟩⟩
      case measure => simp [intOf]; omega
    · obtain rfl : k = vl.length := by omega
      have hp : i + vl.length < cur.length := by have := HI.out.2.2.2.1; omega
      have hyo := YtejlgahkekgceaaV.ok_get HI.out.2.2.1 (i + vl.length)
      obtain ⟨y, hy⟩ := Int.eq_ofNat_of_zero_le hyo.1
      rw [hy] at hyo
      have g1 := HI.out.1.cell hp
      have g2 := HI.out.1.frozen (i + vl.length)
      rw [hy] at g1
      have hv := HI.out.2.2.2.2.2
      rw [List.take_length] at hv
      have HST := Aside0.mk (bk_last (d := (y + le) % 4294967296) (c2 := (y + le) / 4294967296) hv hy hp (by omega))
      have hdm : (y + le) % 4294967296 < 4294967296 := Nat.mod_lt _ (by decide)
      have hb2 : (y + le) / 4294967296 ≤ 1 := by omega
      have E1 := Aside0.mk (show ((y : Int) + (le : Int)) % 4294967296 = (((y + le) % 4294967296 : Nat) : Int) by omega)
      clear hy hv hdm
      go_wp2
      refine bodyPost_ret (results_none rfl _ _ _) rfl ?_
      have hdm : (y + le) % 4294967296 < 4294967296 := Nat.mod_lt _ (by decide)
      rw [E1.out]
      refine ⟨(y + le) / 4294967296, cur.set (i + vl.length) (((y + le) % 4294967296 : Nat) : Int), rfl, hb2, HI.out.1.set_ _ _, HI.out.2.1.set_ _ _, by rw [List.length_set]; exact HI.out.2.2.2.1, dm_ok_set HI.out.2.2.1 _ (by omega) (by omega), fun j hj => ?_, ?_⟩
      · have := HN.out
        rw [dm_getD_set_ne _ (by omega)]; exact HI.out.2.2.2.2.1 j (by omega)
      · rw [HN.out]; exact HST.out
/-! #### the plain part: limbs of a quotient -/
theorem gA {q S E V X M Bb : Nat} (h1 : V < (S + 1) * E) (h2 : M * E ≤ X) (h3 : q * S ≤ M) (h4 : q < Bb) (h5 : Bb * E ≤ V) (hE : 0 < E) : q * V < X + V := by
  have a1 := Nat.mul_le_mul_left q (Nat.le_of_lt h1)
  have a2 := Nat.mul_le_mul_right E h3
  have a3 := Nat.mul_lt_mul_of_pos_right h4 hE
  rw [show q * ((S + 1) * E) = q * S * E + q * E by rw [Nat.add_mul, Nat.one_mul, Nat.mul_add, Nat.mul_assoc]] at a1
  omega
theorem gB {q S E V X M : Nat} (h1 : S * E ≤ V) (h2 : X < (M + 1) * E) (h3 : M + 1 ≤ q * S) : X < q * V := by
  have a1 := Nat.mul_le_mul_left q h1
  have a2 := Nat.mul_le_mul_right E h3
  rw [← Nat.mul_assoc] at a1
  omega
theorem gC {p S E V X M T Bb : Nat} (h1 : V < (S + 1) * E) (h2 : M * E ≤ X) (h3 : p * S + Bb ≤ T * Bb) (h4 : p ≤ Bb) (h5 : T * Bb ≤ M) : p * V ≤ X := by
  have a1 := Nat.mul_le_mul_left p (Nat.le_of_lt h1)
  have a2 := Nat.mul_le_mul_right E h3
  have a3 := Nat.mul_le_mul_right E h4
  have a4 := Nat.mul_le_mul_right E h5
  rw [show p * ((S + 1) * E) = p * S * E + p * E by rw [Nat.add_mul, Nat.one_mul, Nat.mul_add, Nat.mul_assoc]] at a1
  rw [Nat.add_mul] at a2
  omega
theorem gQ {q Q V X : Nat} (h1 : X < (Q + 1) * V) (h : q * V ≤ X) : q ≤ Q := by
  refine Nat.le_of_not_lt fun h2 => ?_
  have := Nat.mul_le_mul_right V (show Q + 1 ≤ q from h2)
  omega
theorem gQ' {q Q V X : Nat} (h1 : Q * V ≤ X) (h : X < q * V) : Q < q := by
  refine Nat.lt_of_not_le fun h2 => ?_
  have := Nat.mul_le_mul_right V h2
  omega
theorem gloop_spec {v1 v0 u0 T E V X Q : Nat} (hv1 : 2147483648 ≤ v1) (hv1b : v1 < 4294967296) (hv0 : v0 < 4294967296) (hE : 0 < E)
    (hV1 : (v1 * 4294967296 + v0) * E ≤ V) (hV2 : V < (v1 * 4294967296 + v0 + 1) * E) (hX1 : (T * 4294967296 + u0) * E ≤ X) (hX2 : X < (T * 4294967296 + u0 + 1) * E) (hXV : X < 4294967296 * V)
    (hQ1 : Q * V ≤ X) (hQ2 : X < (Q + 1) * V) : ∀ (n q r : Nat), q * v1 + r = T → Q ≤ q → q ≤ 4294967297 → r < 4294967296 → 4294967296 ≤ r + n * v1 → Q ≤ gloop v1 v0 u0 n q r ∧ gloop v1 v0 u0 n q r ≤ Q + 1 ∧ gloop v1 v0 u0 n q r < 4294967296 := by
  have hQb : Q < 4294967296 := gQ' hQ1 hXV
  have hBV : 4294967296 * E ≤ V := by
    have := Nat.mul_le_mul_right E (show 4294967296 ≤ v1 * 4294967296 + v0 by omega)
    omega
  intro n
  induction n with
  | zero => intro q r _ _ _ hr hf; omega
  | succ n ih =>
    intro q r hT hq hqb hr hf
    have hqS : q * (v1 * 4294967296 + v0) + r * 4294967296 = T * 4294967296 + q * v0 := by
      rw [← hT, Nat.mul_add, ← Nat.mul_assoc, Nat.add_mul]; omega
    rw [gloop]
    by_cases h1 : q / 4294967296 = 0 ∧ q * v0 ≤ r * 4294967296 + u0
    · rw [if_pos h1]
      have hqlt : q < 4294967296 := by omega
      have := gA hV2 hX1 (show q * (v1 * 4294967296 + v0) ≤ T * 4294967296 + u0 by omega) hqlt hBV hE
      refine ⟨hq, ?_, hqlt⟩
      have h2 : q < Q + 2 := by
        refine Nat.lt_of_not_le fun h3 => ?_
        have a := Nat.mul_le_mul_right V h3
        rw [Nat.add_mul] at a hQ2
        omega
      omega
    · rw [if_neg h1]
      have hq1 : Q + 1 ≤ q := by
        by_cases h2 : q < 4294967296
        · have h3 : r * 4294967296 + u0 < q * v0 := by
            refine Nat.lt_of_not_le fun h3 => h1 ⟨by omega, h3⟩
          exact gQ' hQ1 (gB hV1 hX2 (by omega))
        · omega
      obtain ⟨p, rfl⟩ : ∃ p, q = p + 1 := ⟨q - 1, by omega⟩
      have hT2 : p * v1 + (r + v1) = T := by rw [← hT, Nat.add_mul]; omega
      by_cases h2 : (r + v1) / 4294967296 = 0
      · rw [if_pos h2]
        exact ih p (r + v1) hT2 (by omega) (by omega) (by omega) (by rw [Nat.add_mul] at hf; omega)
      · rw [if_neg h2, Nat.add_sub_cancel]
        have hpS : p * (v1 * 4294967296 + v0) + (r + v1) * 4294967296 = T * 4294967296 + p * v0 := by
          rw [← hT2, Nat.mul_add, ← Nat.mul_assoc, Nat.add_mul (p * v1)]; omega
        have hp0 : p * v0 ≤ 4294967296 * 4294967295 := Nat.mul_le_mul (by omega) (by omega)
        have := gQ hQ2 (gC (p := p) (T := T) (Bb := 4294967296) hV2 hX1 (by omega) (by omega) (by omega))
        omega
/-- the guess, of the first limbs: it is the quotient, or one more -/
theorem guess_spec {v1 v0 u0 T E V X : Nat} (hv1 : 2147483648 ≤ v1) (hv1b : v1 < 4294967296) (hv0 : v0 < 4294967296) (hu0 : u0 < 4294967296) (hE : 0 < E)
    (hV1 : (v1 * 4294967296 + v0) * E ≤ V) (hV2 : V < (v1 * 4294967296 + v0 + 1) * E) (hX1 : (T * 4294967296 + u0) * E ≤ X) (hX2 : X < (T * 4294967296 + u0 + 1) * E) (hXV : X < 4294967296 * V) :
    X / V ≤ gloop v1 v0 u0 4294967296 (T / v1) (T % v1) ∧ gloop v1 v0 u0 4294967296 (T / v1) (T % v1) ≤ X / V + 1 ∧ gloop v1 v0 u0 4294967296 (T / v1) (T % v1) < 4294967296 := by
  have hBV : 4294967296 * E ≤ V := by
    have := Nat.mul_le_mul_right E (show 4294967296 ≤ v1 * 4294967296 + v0 by omega)
    omega
  have hVp : 0 < V := by omega
  have hQ1 : X / V * V ≤ X := Nat.div_mul_le_self _ _
  have hQ2 : X < (X / V + 1) * V := by
    have := Nat.div_add_mod X V
    have h2 := Nat.mod_lt X hVp
    rw [Nat.add_mul, Nat.mul_comm (X / V)]; omega
  have hm := Nat.mod_lt T (show 0 < v1 by omega)
  have hdm := Nat.div_add_mod T v1
  generalize X / V = Q at *
  have hQS : Q * (v1 * 4294967296 + v0) ≤ T * 4294967296 + u0 := by
    have a1 := Nat.mul_le_mul_left Q hV1
    rw [← Nat.mul_assoc] at a1
    exact Nat.le_of_lt_succ (Nat.lt_of_mul_lt_mul_right (a := E) (Nat.lt_of_le_of_lt (Nat.le_trans a1 hQ1) hX2))
  have hq0 : Q ≤ T / v1 := by
    rw [Nat.le_div_iff_mul_le (by omega)]
    rw [Nat.mul_add, ← Nat.mul_assoc] at hQS
    omega
  have hqb : T / v1 ≤ 4294967297 := by
    have a0 : (v1 * 4294967296 + v0 + 1) * 4294967296 * E = 4294967296 * ((v1 * 4294967296 + v0 + 1) * E) := by rw [Nat.mul_comm (v1 * 4294967296 + v0 + 1) 4294967296, Nat.mul_assoc]
    have a1 : (T * 4294967296 + u0) * E < (v1 * 4294967296 + v0 + 1) * 4294967296 * E := by
      rw [a0]
      exact Nat.lt_of_le_of_lt hX1 (Nat.lt_of_lt_of_le hXV (Nat.mul_le_mul_left _ (Nat.le_of_lt hV2)))
    have a2 := Nat.lt_of_mul_lt_mul_right a1
    have a3 : T < v1 * 4294967296 + v0 + 1 := by omega
    have a4 : T / v1 < 4294967298 := Nat.div_lt_of_lt_mul (by omega)
    omega
  exact gloop_spec hv1 hv1b hv0 hE hV1 hV2 hX1 hX2 hXV hQ1 hQ2 4294967296 (T / v1) (T % v1) (by rw [Nat.mul_comm]; exact hdm) hq0 hqb (by omega) (by have := Nat.mul_le_mul_left 4294967296 (show 1 ≤ v1 by omega); omega)
theorem limb_le (l : List Int) (j : Nat) : YtejlgahkekgceaaV.B ^ j * (l.getD j 0).toNat ≤ YtejlgahkekgceaaV.val l := by
  have h1 := YtejlgahkekgceaaV.val_take_succ l j
  have h2 : YtejlgahkekgceaaV.val (l.take (j + 1)) ≤ YtejlgahkekgceaaV.val l := by
    have := YtejlgahkekgceaaV.val_append (l.take (j + 1)) (l.drop (j + 1))
    rw [List.take_append_drop] at this
    omega
  omega
theorem high_zero {l : List Int} {p : Nat} (h : YtejlgahkekgceaaV.val l < YtejlgahkekgceaaV.B ^ p) (ho : YtejlgahkekgceaaV.ok l = true) (j : Nat) (hj : p ≤ j) : l.getD j 0 = 0 := by
  have h1 := limb_le l j
  have h2 : YtejlgahkekgceaaV.B ^ p ≤ YtejlgahkekgceaaV.B ^ j := Nat.pow_le_pow_right (by decide) hj
  have h3 := YtejlgahkekgceaaV.ok_get ho j
  rcases Nat.eq_zero_or_pos (l.getD j 0).toNat with h4 | h4
  · omega
  · have := Nat.le_mul_of_pos_right (YtejlgahkekgceaaV.B ^ j) h4
    omega
theorem val_take_high {l : List Int} {p : Nat} (h : ∀ j, p ≤ j → l.getD j 0 = 0) : YtejlgahkekgceaaV.val (l.take p) = YtejlgahkekgceaaV.val l := by
  have key : ∀ d, YtejlgahkekgceaaV.val (l.take (p + d)) = YtejlgahkekgceaaV.val (l.take p) := by
    intro d
    induction d with
    | zero => rfl
    | succ d ih => rw [← Nat.add_assoc, YtejlgahkekgceaaV.val_take_succ, h _ (by omega), ih]; rfl
  have := key l.length
  rw [List.take_of_length_le (by omega)] at this
  exact this.symm
theorem val_lt_high {l : List Int} {p : Nat} (ho : YtejlgahkekgceaaV.ok l = true) (h : ∀ j, p ≤ j → l.getD j 0 = 0) : YtejlgahkekgceaaV.val l < YtejlgahkekgceaaV.B ^ p := by
  rw [← val_take_high h]
  refine Nat.lt_of_lt_of_le (YtejlgahkekgceaaV.val_lt (YtejlgahkekgceaaV.ok_take ho p)) (Nat.pow_le_pow_right (by decide) ?_)
  rw [List.length_take]; omega
/-- a list by its last two limbs below n -/
theorem top2 {l : List Int} {n a0 a1 : Nat} (h0 : l.getD n 0 = (a0 : Int)) (h1 : l.getD (n + 1) 0 = (a1 : Int)) : YtejlgahkekgceaaV.val (l.take (n + 2)) = YtejlgahkekgceaaV.val (l.take n) + YtejlgahkekgceaaV.B ^ n * (a1 * YtejlgahkekgceaaV.B + a0) := by
  rw [show n + 2 = n + 1 + 1 by omega, YtejlgahkekgceaaV.val_take_succ, YtejlgahkekgceaaV.val_take_succ, h0, h1, Int.toNat_natCast, Int.toNat_natCast, Nat.pow_succ, Nat.mul_add, Nat.mul_assoc, Nat.mul_comm a1]
  omega
/-- one limb of the quotient: what is taken off, and given back if need be -/
theorem quot_nat {a a1 D P Q R b : Nat} (hD : 0 < D) (hQ : a / D = Q) (h1 : Q ≤ R) (h2 : R ≤ Q + 1) (hb : b ≤ 1) (h3 : a1 + D * R = a + P * b) (h4 : a1 < P) :
    (b = 0 → R = Q ∧ a1 + D * Q = a ∧ a1 < D) ∧ (b = 1 → R = Q + 1 ∧ ∀ a2 c : Nat, a2 < P → c ≤ 1 → a2 + P * c = a1 + D → a2 + D * Q = a ∧ a2 < D) := by
  have hdm := Nat.div_add_mod a D
  have hml := Nat.mod_lt a hD
  rw [hQ] at hdm
  generalize a % D = m at *
  have eR : D * (Q + 1) = D * Q + D := by rw [Nat.mul_add, Nat.mul_one]
  clear hQ
  have hR : R = Q ∨ R = Q + 1 := by omega
  refine ⟨fun hb0 => ?_, fun hb1 => ?_⟩
  · subst hb0
    rw [Nat.mul_zero] at h3
    rcases hR with rfl | rfl
    · exact ⟨rfl, by omega, by omega⟩
    · rw [eR] at h3; omega
  · subst hb1
    rw [Nat.mul_one] at h3
    rcases hR with rfl | rfl
    · omega
    · refine ⟨rfl, fun a2 c h5 hc h6 => ?_⟩
      rw [eR] at h3
      rcases Nat.eq_zero_or_pos c with hc0 | hc0
      · subst hc0; rw [Nat.mul_zero] at h6; omega
      · obtain rfl : c = 1 := by omega
        rw [Nat.mul_one] at h6
        exact ⟨by omega, by omega⟩
/-! #### the walk of DivMod -/
theorem dm_w64 {z : Int} (h : -4611686018427387904 ≤ z ∧ z ≤ 4611686018427387904) : wrap64 z = z := by unfold wrap64; omega
theorem lz_n {n : Nat} (h : n ≤ 32) : wrap64 (32 - (n : Int)) = ((32 - n : Nat) : Int) := by rw [dm_w64 (by omega)]; omega
theorem top_shift {x : Nat} (h0 : 0 < x) (hx : x < 4294967296) : ∃ s : Nat, s < 32 ∧ bits_LeadingZeros32.f (x : Int) = some (s : Int) ∧ 2147483648 ≤ x * 2 ^ s ∧ (x + 1) * 2 ^ s ≤ 4294967296 := by
  obtain ⟨h1, h2, h3⟩ := Lib.bitLenAux_bounds 64 x (by omega) (by omega)
  have h4 := Lib.bitLen_le x 32 (by omega) (by omega)
  unfold Lib.bitLen at h4
  have hf : bits_LeadingZeros32.f (x : Int) = some (wrap64 (32 - (Lib.bitLenAux 64 x : Int))) := by
    unfold bits_LeadingZeros32.f bits_Len32.f Lib.bitLen
    rw [if_pos (by omega), Option.bind_some, Int.toNat_natCast]
  generalize Lib.bitLenAux 64 x = n at *
  refine ⟨32 - n, by omega, ?_, ?_, ?_⟩
  · rw [hf, lz_n h4]
  · have := Nat.mul_le_mul_right (2 ^ (32 - n)) h2
    rw [← Nat.pow_add, show n - 1 + (32 - n) = 31 by omega, show (2 : Nat) ^ 31 = 2147483648 by decide] at this
    exact this
  · have := Nat.mul_le_mul_right (2 ^ (32 - n)) (show x + 1 ≤ 2 ^ n from h3)
    rw [← Nat.pow_add, show n + (32 - n) = 32 by omega, show (2 : Nat) ^ 32 = 4294967296 by decide] at this
    exact this
/-- the divisor, moved so that its first bit is 1 -/
theorem top_val {l : List Int} {n x s : Nat} (ho : YtejlgahkekgceaaV.ok l = true) (hl : l.length = n + 1) (hx : l.getD n 0 = (x : Int)) (h1 : 2147483648 ≤ x * 2 ^ s) (h2 : (x + 1) * 2 ^ s ≤ 4294967296) :
    (YtejlgahkekgceaaV.toL (YtejlgahkekgceaaV.val l * 2 ^ s)).length = n + 1 ∧ YtejlgahkekgceaaV.val l * 2 ^ s < YtejlgahkekgceaaV.B ^ (n + 1) ∧ ∃ v1 : Nat, (YtejlgahkekgceaaV.toL (YtejlgahkekgceaaV.val l * 2 ^ s)).getD n 0 = (v1 : Int) ∧ 2147483648 ≤ v1 ∧ v1 < 4294967296 := by
  have e1 := YtejlgahkekgceaaV.val_take_succ l n
  rw [List.take_of_length_le (by omega), hx, Int.toNat_natCast] at e1
  have e2 := YtejlgahkekgceaaV.val_lt (YtejlgahkekgceaaV.ok_take ho n)
  rw [List.length_take, Nat.min_eq_left (by omega)] at e2
  have hP : 0 < YtejlgahkekgceaaV.B ^ n := Nat.pow_pos (by decide)
  have hlt : YtejlgahkekgceaaV.val l * 2 ^ s < YtejlgahkekgceaaV.B ^ (n + 1) := by
    rw [Nat.pow_succ, Nat.mul_comm _ YtejlgahkekgceaaV.B]
    have a1 : YtejlgahkekgceaaV.val l < (x + 1) * YtejlgahkekgceaaV.B ^ n := by rw [Nat.add_mul, Nat.mul_comm x]; omega
    have a2 := Nat.mul_lt_mul_of_pos_right a1 (Nat.two_pow_pos s)
    have a3 := Nat.mul_le_mul_right (YtejlgahkekgceaaV.B ^ n) h2
    rw [Nat.mul_right_comm] at a2
    exact Nat.lt_of_lt_of_le a2 a3
  have hge : 2147483648 * YtejlgahkekgceaaV.B ^ n ≤ YtejlgahkekgceaaV.val l * 2 ^ s := by
    have a1 : x * YtejlgahkekgceaaV.B ^ n ≤ YtejlgahkekgceaaV.val l := by rw [Nat.mul_comm x]; omega
    have a2 := Nat.mul_le_mul_right (2 ^ s) a1
    have a3 := Nat.mul_le_mul_right (YtejlgahkekgceaaV.B ^ n) h1
    rw [Nat.mul_right_comm] at a2
    exact Nat.le_trans a3 a2
  have hlen : (YtejlgahkekgceaaV.toL (YtejlgahkekgceaaV.val l * 2 ^ s)).length = n + 1 := by
    have b1 := YtejlgahkekgceaaV.toL_length_le.2 hlt
    have b2 : ¬ (YtejlgahkekgceaaV.toL (YtejlgahkekgceaaV.val l * 2 ^ s)).length ≤ n := fun h => by
      have := YtejlgahkekgceaaV.toL_length_le.1 h
      have := Nat.le_mul_of_pos_left (YtejlgahkekgceaaV.B ^ n) (show 0 < 2147483648 by decide)
      omega
    omega
  refine ⟨hlen, hlt, ?_⟩
  have hk := YtejlgahkekgceaaV.toL_ok (YtejlgahkekgceaaV.val l * 2 ^ s)
  have e3 := YtejlgahkekgceaaV.val_take_succ (YtejlgahkekgceaaV.toL (YtejlgahkekgceaaV.val l * 2 ^ s)) n
  have e4 := YtejlgahkekgceaaV.val_lt (YtejlgahkekgceaaV.ok_take hk n)
  have e5 := YtejlgahkekgceaaV.ok_get hk n
  rw [List.take_of_length_le (by omega), YtejlgahkekgceaaV.val_toL] at e3
  rw [List.length_take, Nat.min_eq_left (by omega)] at e4
  obtain ⟨v1, hv1⟩ := Int.eq_ofNat_of_zero_le e5.1
  rw [hv1] at e3 e5
  rw [Int.toNat_natCast] at e3
  refine ⟨v1, hv1, ?_, by omega⟩
  refine Nat.le_of_lt_succ (Nat.lt_of_mul_lt_mul_left (a := YtejlgahkekgceaaV.B ^ n) ?_)
  rw [Nat.mul_comm _ 2147483648, Nat.succ_eq_add_one, Nat.mul_add]
  omega
theorem blk_new (w : World) (c : Nat) : Blk (w.alloc (.cells (madeCells #[.int .u32 0] c) 23)) w.heap.size (List.replicate c 0) := by
  have h := heap_alloc_new w (.cells (madeCells #[.int .u32 0] c) 23)
  have e : madeCells #[Value.int .u32 0] c = ((List.replicate c (0 : Int)).map (Value.int .u32)).toArray := by
    apply Array.toList_inj.1
    apply List.ext_getElem
    · simp [size_madeCells]
    · intro i h1 h2
      simp [madeCells, Nat.mod_one]
  unfold Blk
  rw [h, e]
theorem dm_zeros (q j : Nat) : (List.replicate q (0 : Int)).getD j 0 = 0 := by
  rw [List.getD_eq_getElem?_getD]
  rcases Nat.lt_or_ge j q with h | h
  · simp [h]
  · rw [List.getElem?_eq_none (by simpa using h)]; rfl
theorem dm_zeros_ok (q : Nat) : YtejlgahkekgceaaV.ok (List.replicate q 0) = true := by
  simp only [YtejlgahkekgceaaV.ok, List.all_eq_true]
  intro x hx
  rw [List.eq_of_mem_replicate hx]; decide
theorem dm_zeros_val (q : Nat) : YtejlgahkekgceaaV.val (List.replicate q 0) = 0 := by
  induction q with
  | zero => rfl
  | succ q ih => rw [List.replicate_succ, YtejlgahkekgceaaV.val, ih]; rfl
theorem uf_step {l0 cur : List Int} {k r x y s : Nat} (hv : YtejlgahkekgceaaV.val cur + YtejlgahkekgceaaV.B ^ k * r = YtejlgahkekgceaaV.val (l0.take k) * 2 ^ s) (hx : l0.getD k 0 = (x : Int)) (hz : cur.getD k 0 = 0) (hk : k < cur.length) (hy : r + x * 2 ^ s = y) :
    YtejlgahkekgceaaV.val (cur.set k ((y % 4294967296 : Nat) : Int)) + YtejlgahkekgceaaV.B ^ (k + 1) * (y / 4294967296) = YtejlgahkekgceaaV.val (l0.take (k + 1)) * 2 ^ s := by
  have h1 := dm_val_set cur k ((y % 4294967296 : Nat) : Int) hk
  rw [hz, Int.toNat_natCast] at h1
  have h2 := YtejlgahkekgceaaV.val_take_succ l0 k
  rw [hx, Int.toNat_natCast] at h2
  have key : y % 4294967296 + YtejlgahkekgceaaV.B * (y / 4294967296) = r + x * 2 ^ s := by rw [hy]; simp only [YtejlgahkekgceaaV.B]; omega
  have k2 := congrArg (fun z => YtejlgahkekgceaaV.B ^ k * z) key
  simp only [Nat.mul_add] at k2
  rw [h2, Nat.add_mul, Nat.pow_succ, Nat.mul_assoc, Nat.mul_assoc]
  simp only [Int.toNat_zero, Nat.mul_zero, Nat.add_zero] at h1
  omega
theorem uf_last {l0 cur : List Int} {r s : Nat} (hv : YtejlgahkekgceaaV.val cur + YtejlgahkekgceaaV.B ^ l0.length * r = YtejlgahkekgceaaV.val (l0.take l0.length) * 2 ^ s) (hz : cur.getD l0.length 0 = 0) (hk : l0.length < cur.length) :
    YtejlgahkekgceaaV.val (cur.set l0.length (r : Int)) = YtejlgahkekgceaaV.val l0 * 2 ^ s := by
  have h1 := dm_val_set cur l0.length (r : Int) hk
  rw [hz, Int.toNat_natCast] at h1
  simp only [Int.toNat_zero, Nat.mul_zero, Nat.add_zero] at h1
  rw [List.take_length] at hv
  omega
def DmPost (w : World) (q r : List Int) (x : Int) (e : Ending) (w' : World) : Prop := ∃ v0_ v1_ : Value, e = .returned (.tuple #[v0_, v1_, .int .i64 x]) ∧ Kd.R (Kd.int .u32) 23 w' w.heap.size (fun k_ => some k_ ≠ (v1_ : Value).ownBlock) v0_ q ∧ Kd.R (Kd.int .u32) 23 w' w.heap.size (fun k_ => some k_ ≠ (v0_ : Value).ownBlock) v1_ r ∧ Below w.heap.size w w'
theorem top3 {u : List Int} {k u2 u1 u0 : Nat} (g0 : u.getD k 0 = (u0 : Int)) (g1 : u.getD (k + 1) 0 = (u1 : Int)) (g2 : u.getD (k + 2) 0 = (u2 : Int)) : YtejlgahkekgceaaV.val (u.take (k + 3)) = YtejlgahkekgceaaV.val (u.take k) + YtejlgahkekgceaaV.B ^ k * ((u2 * 4294967296 + u1) * 4294967296 + u0) := by
  have h1 := top2 (n := k) g0 g1
  have h2 := YtejlgahkekgceaaV.val_take_succ u (k + 2)
  rw [g2, Int.toNat_natCast] at h2
  rw [show k + 3 = k + 2 + 1 by omega, h2, h1, Nat.pow_succ, Nat.pow_succ]
  generalize YtejlgahkekgceaaV.B ^ k = P
  simp only [YtejlgahkekgceaaV.B]
  have e : (u2 * 4294967296 + u1) * 4294967296 + u0 = (u1 * 4294967296 + u0) + 4294967296 * (4294967296 * u2) := by omega
  rw [e, Nat.mul_add P (u1 * 4294967296 + u0) (4294967296 * (4294967296 * u2)), Nat.add_assoc, Nat.mul_assoc, Nat.mul_assoc]
theorem dm_vals {vl : List Int} {n v1 v0 : Nat} (ov : YtejlgahkekgceaaV.ok vl = true) (hlen : vl.length = n + 2) (h0 : vl.getD n 0 = (v0 : Int)) (h1 : vl.getD (n + 1) 0 = (v1 : Int)) :
    (v1 * 4294967296 + v0) * YtejlgahkekgceaaV.B ^ n ≤ YtejlgahkekgceaaV.val vl ∧ YtejlgahkekgceaaV.val vl < (v1 * 4294967296 + v0 + 1) * YtejlgahkekgceaaV.B ^ n := by
  have e1 := top2 (n := n) h0 h1
  rw [List.take_of_length_le (by omega)] at e1
  have e2 := YtejlgahkekgceaaV.val_lt (YtejlgahkekgceaaV.ok_take ov n)
  rw [List.length_take, Nat.min_eq_left (by omega)] at e2
  simp only [YtejlgahkekgceaaV.B] at e1 e2 ⊢
  generalize 4294967296 ^ n = P at *
  rw [Nat.mul_comm P] at e1
  rw [Nat.add_mul _ 1]
  omega
theorem dm_guess {u vl : List Int} {i n v1 v0 u2 u1 u0 : Nat} (ou : YtejlgahkekgceaaV.ok u = true) (ov : YtejlgahkekgceaaV.ok vl = true) (hlen : vl.length = n + 2) (h0 : vl.getD n 0 = (v0 : Int)) (h1 : vl.getD (n + 1) 0 = (v1 : Int)) (g0 : u.getD (i + n) 0 = (u0 : Int)) (g1 : u.getD (i + n + 1) 0 = (u1 : Int)) (g2 : u.getD (i + n + 2) 0 = (u2 : Int)) (hv : 2147483648 ≤ v1) (hvb : v1 < 4294967296) (hv0 : v0 < 4294967296) (hu0 : u0 < 4294967296) (hl : i + n + 3 ≤ u.length)
    (hu : YtejlgahkekgceaaV.val u < YtejlgahkekgceaaV.val vl * YtejlgahkekgceaaV.B ^ (i + 1)) :
    YtejlgahkekgceaaV.val u / (YtejlgahkekgceaaV.B ^ i * YtejlgahkekgceaaV.val vl) ≤ gloop v1 v0 u0 4294967296 ((u2 * 4294967296 + u1) / v1) ((u2 * 4294967296 + u1) % v1) ∧ gloop v1 v0 u0 4294967296 ((u2 * 4294967296 + u1) / v1) ((u2 * 4294967296 + u1) % v1) ≤ YtejlgahkekgceaaV.val u / (YtejlgahkekgceaaV.B ^ i * YtejlgahkekgceaaV.val vl) + 1 ∧ gloop v1 v0 u0 4294967296 ((u2 * 4294967296 + u1) / v1) ((u2 * 4294967296 + u1) % v1) < 4294967296 := by
  obtain ⟨a1, a2⟩ := dm_vals ov hlen h0 h1
  have b0 := YtejlgahkekgceaaV.val_lt ov
  rw [hlen] at b0
  have b1 : YtejlgahkekgceaaV.val u < YtejlgahkekgceaaV.B ^ (i + n + 3) := by
    refine Nat.lt_of_lt_of_le hu ?_
    have := Nat.mul_le_mul_right (YtejlgahkekgceaaV.B ^ (i + 1)) (Nat.le_of_lt b0)
    rw [← Nat.pow_add, show n + 2 + (i + 1) = i + n + 3 by omega] at this
    exact this
  have b2 := val_take_high (high_zero b1 ou)
  have b3 := top3 (k := i + n) g0 g1 g2
  rw [b2] at b3
  have b4 := YtejlgahkekgceaaV.val_lt (YtejlgahkekgceaaV.ok_take ou (i + n))
  rw [List.length_take, Nat.min_eq_left (by omega)] at b4
  have eP : YtejlgahkekgceaaV.B ^ (i + n) = YtejlgahkekgceaaV.B ^ n * YtejlgahkekgceaaV.B ^ i := by rw [Nat.pow_add, Nat.mul_comm]
  rw [eP] at b3 b4
  have hI : 0 < YtejlgahkekgceaaV.B ^ i := Nat.pow_pos (by decide)
  have hE : 0 < YtejlgahkekgceaaV.B ^ n := Nat.pow_pos (by decide)
  have hu' : YtejlgahkekgceaaV.val u < 4294967296 * YtejlgahkekgceaaV.val vl * YtejlgahkekgceaaV.B ^ i := by
    rw [Nat.pow_succ, ← Nat.mul_assoc, Nat.mul_comm (YtejlgahkekgceaaV.val vl * YtejlgahkekgceaaV.B ^ i), ← Nat.mul_assoc] at hu
    exact hu
  rw [← Nat.div_div_eq_div_mul]
  clear hu b0 b1 b2 eP
  generalize YtejlgahkekgceaaV.B ^ i = I at *
  generalize YtejlgahkekgceaaV.B ^ n = E at *
  generalize YtejlgahkekgceaaV.val (u.take (i + n)) = lo at *
  generalize YtejlgahkekgceaaV.val u = U at *
  generalize YtejlgahkekgceaaV.val vl = V at *
  have key : ∀ M, U = lo + E * I * M → M * E ≤ U / I ∧ U / I < (M + 1) * E := by
    intro M hM
    have e1 : E * I * M = M * E * I := by rw [Nat.mul_comm (E * I), ← Nat.mul_assoc]
    have e2 : (M + 1) * E * I = M * E * I + E * I := by rw [Nat.add_mul, Nat.one_mul, Nat.add_mul]
    refine ⟨?_, ?_⟩
    · rw [Nat.le_div_iff_mul_le hI, hM, e1]; exact Nat.le_add_left _ _
    · rw [Nat.div_lt_iff_lt_mul hI, hM, e1, e2, Nat.add_comm]; exact Nat.add_lt_add_left b4 _
  obtain ⟨k1, k2⟩ := key _ b3
  exact guess_spec (E := E) hv hvb hv0 hu0 hE a1 a2 k1 k2 (by rw [Nat.div_lt_iff_lt_mul hI]; exact hu')
structure DS (w2 W : World) (gq : Nat) (vl : List Int) (U0 m L rr : Nat) (u q : List Int) : Prop where
  below : Below w2.heap.size w2 W
  bu : Blk W w2.heap.size u
  bq : Blk W gq q
  ou : YtejlgahkekgceaaV.ok u = true
  lu : u.length = m + 1
  oq : YtejlgahkekgceaaV.ok q = true
  lq : q.length = L
  zq : ∀ j, j < rr → q.getD j 0 = 0
  eq : YtejlgahkekgceaaV.val vl * YtejlgahkekgceaaV.val q + YtejlgahkekgceaaV.val u = U0
  lt : YtejlgahkekgceaaV.val u < YtejlgahkekgceaaV.val vl * YtejlgahkekgceaaV.B ^ rr
theorem dm_slice3 (W : World) (g i m L : Nat) (hi : i ≤ m) (hm : m ≤ L) (h0 : i < m) :
    (Instr.slice 22 (.slice (some ⟨g, 0, none⟩) L L) (some (.int .i64 (i : Int))) (some (.int .i64 (m : Int))) (some (.int .i64 (m : Int)))).run Try.prog W = .ok (.slice (some ⟨g, i, none⟩) (m - i) (m - i)) W := by
  obtain ⟨i0, hi0, hz0, hz1, hz2⟩ := info_parts info23
  have hel : Try.prog.elem 22 = 23 := by simp [Program.elem, Try.underlying22]
  have hu : Try.prog.underlying 22 = some (.slice (Try.prog.elem 22)) := by rw [hel]; exact Try.underlying22
  rw [run_slice_lhm W 22 (some ⟨g, 0, none⟩) L L hu .i64 .i64 .i64 (i : Int) (m : Int) (m : Int) (by omega) (by omega) (by omega) (by omega), hel]
  have hne : ¬ m = i := by omega
  have ha : (⟨g, 0, none⟩ : Addr).add i = ⟨g, i, none⟩ := by
    unfold Addr.add
    by_cases h : i = 0
    · subst h; simp
    · simp [h]
  simp [sizeOf, typeInfo, hi0, hz1, sliced, Result.andThen, hne, ha]
theorem dm_slice0 (W : World) (g m L : Nat) (hm : m ≤ L) :
    (Instr.slice 22 (.slice (some ⟨g, 0, none⟩) L L) none (some (.int .i64 (m : Int))) (some (.int .i64 (m : Int)))).run Try.prog W = .ok (.slice (some ⟨g, 0, none⟩) m m) W := by
  obtain ⟨i0, hi0, hz0, hz1, hz2⟩ := info_parts info23
  have hel : Try.prog.elem 22 = 23 := by simp [Program.elem, Try.underlying22]
  have hu : Try.prog.underlying 22 = some (.slice (Try.prog.elem 22)) := by rw [hel]; exact Try.underlying22
  rw [run_slice_hm W 22 (some ⟨g, 0, none⟩) L L hu .i64 .i64 (m : Int) (m : Int) (by omega) (by omega) (by omega), hel]
  simp [sizeOf, typeInfo, hi0, hz1, sliced, Result.andThen, Addr.add]
/-- behind one round of the long loop -/
theorem ds_step {w2 W : World} {gq : Nat} {vl u q u2 : List Int} {U0 m L i Q : Nat} (h : DS w2 W gq vl U0 m L (i + 1) u q) (hi : i < L) (hQ : Q < 4294967296) (hval : YtejlgahkekgceaaV.val u2 + YtejlgahkekgceaaV.B ^ i * YtejlgahkekgceaaV.val vl * Q = YtejlgahkekgceaaV.val u) (hlt : YtejlgahkekgceaaV.val u2 < YtejlgahkekgceaaV.val vl * YtejlgahkekgceaaV.B ^ i) :
    YtejlgahkekgceaaV.val vl * YtejlgahkekgceaaV.val (q.set i (Q : Int)) + YtejlgahkekgceaaV.val u2 = U0 := by
  have h1 := dm_val_set q i (Q : Int) (by rw [h.lq]; exact hi)
  rw [h.zq i (by omega), Int.toNat_natCast] at h1
  simp only [Int.toNat_zero, Nat.mul_zero, Nat.add_zero] at h1
  have h2 := h.eq
  rw [h1, Nat.mul_add]
  have e : YtejlgahkekgceaaV.val vl * (YtejlgahkekgceaaV.B ^ i * Q) = YtejlgahkekgceaaV.B ^ i * YtejlgahkekgceaaV.val vl * Q := by rw [← Nat.mul_assoc, Nat.mul_comm (YtejlgahkekgceaaV.val vl)]
  rw [e]
  omega
theorem addr_lit (g j : Nat) : (⟨g, 0, none⟩ : Addr).add j = ⟨g, j, none⟩ := by
  unfold Addr.add
  by_cases h : j = 0
  · subst h; simp
  · simp [h]
theorem blk_C {W : World} {g m : Nat} {l : List Int} (h : Blk W g l) (hm : m ≤ l.length) (hl : l.length ≤ 16777216) : Kd.C (Kd.int .u32) W (some ⟨g, 0, none⟩) m (l.take m) := by
  refine Kd.C_of_reads (h1 := fun _ => rfl) (d := (0 : Int)) ⟨by rw [List.length_take]; omega, by omega, fun _ => ⟨⟨g, 0, none⟩, rfl, fun j hj => ?_⟩⟩
  rw [addr_lit, h.cell (by omega)]
  congr 2
  rw [List.getD_eq_getElem?_getD, List.getD_eq_getElem?_getD, List.getElem?_take, if_pos hj]
theorem dm_strip_prefix (n : Nat) : ∀ l : List Int, l.length = n → ∃ m, m ≤ l.length ∧ YtejlgahkekgceaaV.strip l = l.take m := by
  induction n with
  | zero =>
    intro l hl
    obtain rfl := List.length_eq_zero_iff.1 hl
    exact ⟨0, by simp, rfl⟩
  | succ n ih =>
    intro l hl
    rcases YtejlgahkekgceaaV.strip_cases l with h | ⟨a, rfl, h⟩
    · exact ⟨l.length, Nat.le_refl _, by rw [h, List.take_length]⟩
    · obtain ⟨m, h1, h2⟩ := ih a (by simpa using hl)
      exact ⟨m, by simp; omega, by rw [h, h2, List.take_append_of_le_length h1]⟩
theorem blk_R {W : World} {g L base : Nat} {q : List Int} (h : Blk W g q) (hL : q.length = L) (hl : L ≤ 16777216) (hb : base ≤ g) : Kd.R (Kd.int .u32) 23 W base (fun k => k = g) (.slice (some ⟨g, 0, none⟩) (YtejlgahkekgceaaV.strip q).length L) (YtejlgahkekgceaaV.strip q) := by
  obtain ⟨m, h1, h2⟩ := dm_strip_prefix q.length q rfl
  refine Kd.R_of_own ⟨by simp [encs], .inr ⟨g, L, _, rfl, hb, h, ?_, by unfold maxLen; omega, by simp [hL], ?_⟩⟩ (fun k hk => ?_)
  · rw [h2, List.length_take]; omega
  · rw [h2]
    simp only [Nat.mul_one, encs, List.length_take]
    rw [Nat.min_eq_left h1, ← List.map_take]
  · simpa [Value.ownBlock] using hk.symm
theorem dm_final {vq vu A Bv s : Nat} (h : Bv * 2 ^ s * vq + vu = A * 2 ^ s) (hlt : vu < Bv * 2 ^ s) : vq = A / Bv ∧ vu / 2 ^ s = A % Bv := by
  have hp := Nat.two_pow_pos s
  have hD : 0 < Bv * 2 ^ s := by omega
  have h1 : A * 2 ^ s / (Bv * 2 ^ s) = vq := by
    rw [← h, Nat.mul_add_div hD, Nat.div_eq_of_lt hlt, Nat.add_zero]
  have h2 : A * 2 ^ s % (Bv * 2 ^ s) = vu := by
    rw [← h, Nat.mul_add_mod, Nat.mod_eq_of_lt hlt]
  rw [Nat.mul_div_mul_right _ _ hp] at h1
  rw [Nat.mul_mod_mul_right] at h2
  exact ⟨h1.symm, by rw [← h2, Nat.mul_div_cancel _ hp]⟩
theorem dm_shr {v N s : Nat} (hv : v < YtejlgahkekgceaaV.B ^ N) (hN : N ≤ 65536) (hs : s < 32) : nat_Shr.f (YtejlgahkekgceaaV.toL v) (s : Int) = some (YtejlgahkekgceaaV.toL (v / 2 ^ s)) := by
  unfold nat_Shr.f YtejlgahkekgceaaV.shrS
  rw [if_pos ⟨YtejlgahkekgceaaV.toL_ok _, by omega⟩]
  have hm : YtejlgahkekgceaaV.may (YtejlgahkekgceaaV.toL v) = true := YtejlgahkekgceaaV.may_iff.2 ⟨Nat.le_trans (YtejlgahkekgceaaV.toL_length_le.2 hv) hN, YtejlgahkekgceaaV.toL_norm v⟩
  rw [hm, decide_eq_true (show (0 : Int) ≤ (s : Int) by omega)]
  by_cases h0 : v = 0
  · subst h0
    rw [YtejlgahkekgceaaV.toL_zero, Nat.zero_div, YtejlgahkekgceaaV.toL_zero, decide_eq_false (by simp; omega)]; rfl
  · have hne : (YtejlgahkekgceaaV.toL v).length ≠ 0 := fun e => h0 (by
      have := List.length_eq_zero_iff.1 e
      rw [← YtejlgahkekgceaaV.val_toL v, this]; rfl)
    rw [decide_eq_true (show (s : Int) / 32 < ((YtejlgahkekgceaaV.toL v).length : Int) by omega)]
    simp only [Bool.and_self, if_true, Int.toNat_natCast, YtejlgahkekgceaaV.val_toL]
set_option maxRecDepth 100000 in
set_option maxHeartbeats 16000000 in
theorem div_main (A0 : Option Addr) (c0 : Nat) (l0 : List Int) (A1 : Option Addr) (c1 : Nat) (l1 : List Int) (w : World) (hr0 : Kd.C (Kd.int .u32) w A0 l0.length l0) (hc0 : l0.length ≤ c0) (hr1 : Kd.C (Kd.int .u32) w A1 l1.length l1) (hc1 : l1.length ≤ c1) (o0 : YtejlgahkekgceaaV.ok l0 = true) (o1 : YtejlgahkekgceaaV.ok l1 = true) (m0 : YtejlgahkekgceaaV.may l0 = true) (m1 : YtejlgahkekgceaaV.may l1 = true) (h2 : 2 ≤ l1.length) (hge : YtejlgahkekgceaaV.val l1 ≤ YtejlgahkekgceaaV.val l0) :
    Calls Try.prog 12 #[.slice A0 l0.length c0, .slice A1 l1.length c1] w (DmPost w (YtejlgahkekgceaaV.toL (YtejlgahkekgceaaV.val l0 / YtejlgahkekgceaaV.val l1)) (YtejlgahkekgceaaV.toL (YtejlgahkekgceaaV.val l0 % YtejlgahkekgceaaV.val l1)) 0) := by
  have len0 := YtejlgahkekgceaaV.may_length m0
  have len1 := YtejlgahkekgceaaV.may_length m1
  have HM0 := Aside0.mk (nat_May.calls A0 c0 l0 true w hr0 hc0 (by rw [nat_May_val _ (by omega), m0]))
  have HM1 := Aside0.mk (fun n => nat_May.calls A1 c1 l1 true (w.drewN n) (Kd.C_drewN hr1 n) hc1 (by rw [nat_May_val _ (by omega), m1]))
  obtain ⟨cr, hcr⟩ : ∃ cr, cr = YtejlgahkekgceaaV.cmpS l0 l1 := ⟨_, rfl⟩
  have hcr0 : 0 ≤ cr := by
    rw [hcr]; unfold YtejlgahkekgceaaV.cmpS; rw [m0, m1]
    simp only [Bool.and_self, if_true]
    unfold YtejlgahkekgceaaV.cmpN; rw [if_neg (by omega)]; split <;> decide
  have HCM := Aside0.mk (fun n => nat_Cmp.calls A0 c0 l0 A1 c1 l1 cr (w.drewN n) (Kd.C_drewN hr0 n) hc0 (Kd.C_drewN hr1 n) hc1 (by unfold nat_Cmp.f; rw [if_pos ⟨o0, o1⟩, hcr]))
  have HR0 := Aside0.mk hr0
  have HR1 := Aside0.mk hr1
  have HOK := Aside0.mk (And.intro o0 (And.intro o1 (And.intro m0 (And.intro m1 hge))))
  obtain ⟨n, hn⟩ : ∃ n, l1.length = n + 2 := ⟨l1.length - 2, by omega⟩
  obtain ⟨x, hx⟩ := Int.eq_ofNat_of_zero_le (YtejlgahkekgceaaV.ok_get o1 (n + 1)).1
  have hxb := YtejlgahkekgceaaV.ok_get o1 (n + 1)
  have hx0 : l1.getD (n + 1) 0 ≠ 0 := by
    have h1 := YtejlgahkekgceaaV.may_norm m1
    refine h1 _ ?_
    rw [List.getLast?_eq_getElem?, hn, show n + 2 - 1 = n + 1 by omega, List.getD_eq_getElem?_getD]
    rw [List.getElem?_eq_getElem (by omega)]; rfl
  rw [hx] at hxb hx0
  obtain ⟨s, hs, hlz, hs1, hs2⟩ := top_shift (x := x) (by omega) (by omega)
  obtain ⟨hvl, hvb, v1, hv1, hv1a, hv1b⟩ := top_val o1 hn hx hs1 hs2
  have hxp : 0 < x := by omega
  have HN := Aside0.mk hn
  have HX := Aside0.mk hx
  have HLZ := Aside0.mk hlz
  have HV := Aside0.mk (And.intro hvl (And.intro hvb hv1))
  have d1 : ((l1.length : Int) == 0) = false := beq_eq_false_iff_ne.2 (by omega)
  have d2 : ((l1.length : Int) == 1) = false := beq_eq_false_iff_ne.2 (by omega)
  have d3 : (l1.length == 0) = false := beq_eq_false_iff_ne.2 (by omega)
  have d4 : (l1.length == 1) = false := beq_eq_false_iff_ne.2 (by omega)
  have d5 : decide (cr < 0) = false := decide_eq_false (by omega)
  clear hr0 hr1 o0 o1 m0 m1 hcr hge hn hx hlz hvl hvb hv1 hx0 hs1 hs2 hxb
  go_enter Try.func12, Try.ntmps12
  go_wp2_with fail
  refine HM0.out.mono ?_
  rintro e w1 ⟨rfl, ⟨nd, rfl⟩⟩
  go_wp2_with fail
  refine (HM1.out _).mono ?_
  rintro e w1 ⟨rfl, ⟨nd2, rfl⟩⟩
  go_wp2_with fail
  refine (HCM.out _).mono ?_
  rintro e w1 ⟨rfl, hb1⟩
  have HB1 := Aside0.mk ((pw_below_drewN (Below.refl w.heap.size w) (nd + nd2)).trans hb1)
  clear hb1
  obtain ⟨ad1, hA1, g0⟩ := Kd.at_int (Kd.C_below HR1.out HB1.out) ((n + 1 : Nat) : Int) (by omega) (by have := HN.out; omega)
  subst hA1
  rw [show ((n + 1 : Nat) : Int).toNat = n + 1 from Int.toNat_natCast _, show rd l1 ((n + 1 : Nat) : Int) = (x : Int) by unfold rd; rw [Int.toNat_natCast]; exact HX.out] at g0
  have g1 : w1.cell? (ad1.add (l1.length - 1)) = some (.int .u32 (x : Int)) := by rw [show l1.length - 1 = n + 1 by have := HN.out; omega]; exact g0
  have g2 : w1.cell? (ad1.add ((l1.length : Int) - 1).toNat) = some (.int .u32 (x : Int)) := by rw [show ((l1.length : Int) - 1).toNat = n + 1 by have := HN.out; omega]; exact g0
  have hnl : n + 1 < l1.length := by have := HN.out; omega
  go_wp2_with fail
  refine (bits_LeadingZeros32.calls _ _ _ HLZ.out).mono ?_
  rintro e w2 ⟨rfl, ⟨nd3, rfl⟩⟩
  go_wp2_with fail
  have hshl : nat_Shl.f l1 (s : Int) = some (YtejlgahkekgceaaV.toL (YtejlgahkekgceaaV.val l1 * 2 ^ s)) := by
    unfold nat_Shl.f YtejlgahkekgceaaV.shlS
    rw [if_pos ⟨HOK.out.2.1, by omega⟩, HOK.out.2.2.2.1, decide_eq_true (show l1 ≠ [] from fun e => by rw [e] at h2; simp at h2), decide_eq_true (show (0 : Int) ≤ (s : Int) by omega), decide_eq_true (show (s : Int) ≤ 2097152 by omega)]
    simp only [Bool.and_self, if_true, Int.toNat_natCast]
    unfold YtejlgahkekgceaaV.fit
    rw [if_pos (by rw [HV.out.1]; have := HN.out; omega)]
  have HSH := Aside0.mk hshl
  clear hshl
  obtain ⟨vl, hvl⟩ : ∃ vl, vl = YtejlgahkekgceaaV.toL (YtejlgahkekgceaaV.val l1 * 2 ^ s) := ⟨_, rfl⟩
  rw [← hvl] at HSH HV
  have HVL := Aside0.mk hvl
  clear hvl
  refine (nat_Shl.calls _ _ l1 (s : Int) vl _ (Kd.C_drewN (Kd.C_below HR1.out HB1.out) _) hc1 HSH.out).mono ?_
  rintro e w2 ⟨v0_, rfl, hRv, hb2⟩
  have HB2 := Aside0.mk ((pw_below_drewN HB1.out nd3).trans (hb2.mono HB1.out.size))
  clear hb2
  obtain ⟨Av, cv, rfl⟩ := Kd.R_slice hRv
  have HCv := Aside0.mk (Kd.R_reads' hRv)
  clear hRv
  obtain ⟨cs, hcs⟩ : ∃ cs, cs = madeCells #[Value.int .u32 0] (l0.length + 1) := ⟨_, rfl⟩
  have hmk : ∀ W : World, (Instr.makeSlice 22 (.int .i64 ((l0.length : Int) + 1)) (.int .i64 ((l0.length : Int) + 1))).run Try.prog W = .ok (.slice (some ⟨W.heap.size, 0, none⟩) (l0.length + 1) (l0.length + 1)) (W.alloc (.cells cs 23)) := fun W => by
    have := make_run W (l0.length + 1) (l0.length + 1) (Nat.le_refl _) (by omega)
    rw [← hcs] at this
    exact this
  have HCS := Aside0.mk hcs
  clear hcs g0 g1 g2
  go_wp2_with fail
  clear hmk
  go_loopw [13, 74] (fun rv iv wr => ∃ (k r : Nat) (cur : List Int), k ≤ l0.length ∧ iv = .int .i64 k ∧ rv = .int .u64 r ∧ r < 2147483648 ∧
      Aside0 (Below w2.heap.size w2 wr ∧ Blk wr w2.heap.size cur ∧ YtejlgahkekgceaaV.ok cur = true ∧ cur.length = l0.length + 1 ∧ (∀ j, k ≤ j → cur.getD j 0 = 0) ∧ r < 2 ^ s ∧ YtejlgahkekgceaaV.val cur + YtejlgahkekgceaaV.B ^ k * r = YtejlgahkekgceaaV.val (l0.take k) * 2 ^ s)) (fun _ iv _ => l0.length - (intOf iv).toNat)
  case atStart =>
    refine ⟨0, 0, List.replicate (l0.length + 1) 0, by omega, rfl, rfl, by omega, ⟨below_alloc (Below.refl _ _) _, ?_, dm_zeros_ok _, by simp, fun j _ => dm_zeros _ _, Nat.two_pow_pos s, ?_⟩⟩
    · rw [HCS.out]; exact blk_new w2 (l0.length + 1)
    · rw [dm_zeros_val]; simp [YtejlgahkekgceaaV.val]
  case round =>
    obtain ⟨k, r, cur, hk, rfl, rfl, hr, HI⟩ := hrel
    by_cases hlt : k < l0.length
    · have hxo := YtejlgahkekgceaaV.ok_get HOK.out.1 k
      obtain ⟨y0, hy0⟩ := Int.eq_ofNat_of_zero_le hxo.1
      rw [hy0] at hxo
      obtain ⟨ad, rfl, g0⟩ := Kd.at_int (Kd.C_below HR0.out (HB2.out.trans (HI.out.1.mono HB2.out.size))) (k : Int) (by omega) (by omega)
      rw [show (k : Int).toNat = k from Int.toNat_natCast k, show rd l0 (k : Int) = (y0 : Int) by unfold rd; rw [Int.toNat_natCast]; exact hy0] at g0
      have hp : k < cur.length := by have := HI.out.2.2.2.1; omega
      have g1 := HI.out.2.1.cell hp
      have g2 := HI.out.2.1.frozen k
      obtain ⟨hor, hb1, hb2⟩ := or_shl (r := (r : Int)) (x := (y0 : Int)) hs (by omega) (by rw [Int.toNat_natCast]; exact HI.out.2.2.2.2.2.1) (by omega) (by omega)
      obtain ⟨y, hy⟩ : ∃ y : Nat, r + y0 * 2 ^ s = y := ⟨_, rfl⟩
      have hyi : (r : Int) + (y0 : Int) * 2 ^ s = (y : Int) := by rw [← hy]; simp
      rw [hyi] at hor hb1 hb2
      have hyb : y < 9223372036854775808 := by omega
      have hrb : y / 4294967296 < 2147483648 := by omega
      have hst := Aside0.mk (uf_step HI.out.2.2.2.2.2.2 hy0 (HI.out.2.2.2.2.1 k (Nat.le_refl _)) hp hy)
      have hrs := Aside0.mk (show y / 4294967296 < 2 ^ s by
        rw [Nat.div_lt_iff_lt_mul (by decide)]
        have h1 := HI.out.2.2.2.2.2.1
        have h3 := Nat.mul_le_mul_right (2 ^ s) (show y0 + 1 ≤ 4294967296 by omega)
        rw [Nat.add_mul, Nat.mul_comm 4294967296] at h3
        omega)
      have HLT := Aside0.mk hp
      have hyo : y0 < 4294967296 := by omega
      have hym : y % 4294967296 < 4294967296 := Nat.mod_lt _ (by decide)
      clear hy hyi hb1 hb2 hy0 hxo hp
      go_wp2_with fail
      go_roundw
      case rel =>
        exact ⟨k + 1, y / 4294967296, cur.set k ((y % 4294967296 : Nat) : Int), by omega, by go_num, by go_num, hrb, ⟨HI.out.1.setCell (Nat.le_refl _) _, HI.out.2.1.set_ _ _, dm_ok_set HI.out.2.2.1 _ (by omega) (by omega), by rw [List.length_set]; exact HI.out.2.2.2.1,
          fun j hj => by rw [dm_getD_set_ne _ (by omega)]; exact HI.out.2.2.2.2.1 j (by omega), hrs.out, hst.out⟩⟩
      case measure => simp [intOf]; omega
    · obtain rfl : k = l0.length := by omega
      have hp : l0.length < cur.length := by have := HI.out.2.2.2.1; omega
      have g1 := HI.out.2.1.cell hp
      have g2 := HI.out.2.1.frozen l0.length
      have hst := uf_last HI.out.2.2.2.2.2.2 (HI.out.2.2.2.2.1 _ (Nat.le_refl _)) hp
      obtain ⟨ul, hul⟩ : ∃ ul, ul = cur.set l0.length (r : Int) := ⟨_, rfl⟩
      have hrm : r % 4294967296 = r := by omega
      have hrm2 : (r : Int) % 4294967296 = (r : Int) := by omega
      rw [← hul] at hst
      have hvn : vl.length = n + 2 := HV.out.1
      have hvm : vl.length ≤ l0.length := by
        have h1 := HV.out.1
        have h3 := HN.out
        rw [h1, ← h3]
        refine Nat.le_of_not_lt fun h4 => ?_
        have h5 := YtejlgahkekgceaaV.val_lt HOK.out.1
        have h6 : YtejlgahkekgceaaV.B ^ l0.length ≤ YtejlgahkekgceaaV.B ^ (n + 1) := Nat.pow_le_pow_right (by decide) (by omega)
        have h7 := limb_le l1 (n + 1)
        rw [HX.out, Int.toNat_natCast] at h7
        have h8 := HOK.out.2.2.2.2
        have h9 : 0 < x := hxp
        have := Nat.le_mul_of_pos_right (YtejlgahkekgceaaV.B ^ (n + 1)) h9
        omega
      obtain ⟨L, hL⟩ : ∃ L, l0.length - vl.length + 1 = L := ⟨_, rfl⟩
      obtain ⟨cs2, hcs2⟩ : ∃ cs, cs = madeCells #[Value.int .u32 0] L := ⟨_, rfl⟩
      have hmk2 : ∀ W : World, (Instr.makeSlice 22 (.int .i64 ((l0.length : Int) - (vl.length : Int) + 1)) (.int .i64 ((l0.length : Int) - (vl.length : Int) + 1))).run Try.prog W = .ok (.slice (some ⟨W.heap.size, 0, none⟩) L L) (W.alloc (.cells cs2 23)) := fun W => by
        have := make_run W L L (Nat.le_refl _) (by omega)
        rw [← hcs2, show (L : Int) = (l0.length : Int) - (vl.length : Int) + 1 by omega] at this
        exact this
      have HCS2 := Aside0.mk hcs2
      have HL := Aside0.mk hL
      have HVN := Aside0.mk hvn
      have HU := Aside0.mk (And.intro hul hst)
      have hLm : L ≤ 65536 := by omega
      have hL1 : 1 ≤ L := by omega
      clear hcs2 hL hvn hul hst hp hrm
      go_wp2_with fail
      obtain ⟨gq, hgq⟩ : ∃ gq, gq = wr.heap.size := ⟨_, rfl⟩
      have hgu : w2.heap.size < gq := by rw [hgq]; exact HI.out.2.1.lt
      have HS0 := Aside0.mk (show DS w2 ((wr.setCell ⟨w2.heap.size, l0.length, none⟩ (.int .u32 (r : Int))).alloc (.cells cs2 23)) gq vl (YtejlgahkekgceaaV.val l0 * 2 ^ s) l0.length L L ul (List.replicate L 0) from ⟨below_alloc (HI.out.1.setCell (Nat.le_refl _) _) _, by
          rw [HU.out.1]
          have h1 := HI.out.2.1.set_ l0.length (r : Int)
          exact (Below.heap_alloc _ _ _ h1.lt).trans h1, by
          rw [hgq, HCS2.out]
          have h1 := blk_new (wr.setCell ⟨w2.heap.size, l0.length, none⟩ (.int .u32 (r : Int))) L
          rw [show (wr.setCell ⟨w2.heap.size, l0.length, none⟩ (.int .u32 (r : Int))).heap.size = wr.heap.size by simp [World.setCell]] at h1
          exact h1, by
          rw [HU.out.1]; exact dm_ok_set HI.out.2.2.1 _ (by omega) (by omega), by
          rw [HU.out.1, List.length_set]; exact HI.out.2.2.2.1, dm_zeros_ok L, by simp, fun j _ => dm_zeros _ _, by
          rw [dm_zeros_val, Nat.mul_zero, Nat.zero_add]; exact HU.out.2, by
          rw [HU.out.2]
          have h1 := YtejlgahkekgceaaV.val_lt HOK.out.1
          have h3 := limb_le l1 (n + 1)
          rw [HX.out, Int.toNat_natCast] at h3
          have h4 := Nat.le_mul_of_pos_right (YtejlgahkekgceaaV.B ^ (n + 1)) hxp
          have h5 := Nat.mul_le_mul_right (YtejlgahkekgceaaV.B ^ L) (Nat.le_trans h4 h3)
          rw [← Nat.pow_add, show n + 1 + L = l0.length by have e1 := HL.out; have e2 := HVN.out; omega] at h5
          have h6 := Nat.mul_lt_mul_of_pos_right (Nat.lt_of_lt_of_le h1 h5) (Nat.two_pow_pos s)
          rw [Nat.mul_right_comm] at h6
          rw [HVL.out, YtejlgahkekgceaaV.val_toL]
          exact h6⟩)
      rw [← hgq]
      clear hgq hmk2 hrm2
      have KV := Aside0.mk (fun W (hW : Below w2.heap.size w2 W) => Kd.C_below HCv.out.2.2 hW)
      go_loopw [17] (fun iv wl => ∃ rr : Nat, rr ≤ L ∧ iv = .int .i64 ((rr : Int) - 1) ∧ Aside0 (∃ u q, DS w2 wl gq vl (YtejlgahkekgceaaV.val l0 * 2 ^ s) l0.length L rr u q)) (fun iv _ => (intOf iv + 1).toNat)
      case atStart => exact ⟨L, Nat.le_refl _, rfl, ⟨_, _, HS0.out⟩⟩
      case round =>
        clear HS0 HI
        obtain ⟨rr, hrr, rfl, HI⟩ := hrel
        rcases rr with _ | i
        · obtain ⟨u, q, hds⟩ := HI.out
          have HD := Aside0.mk hds
          clear hds HI
          have hvp : vl.length ≤ l0.length + 1 := by omega
          rw [show ((0 : Nat) : Int) - 1 = -1 by omega]
          obtain ⟨wz, hwz⟩ : ∃ wz, wz = wr := ⟨_, rfl⟩
          rw [← hwz] at HD ⊢
          have hcq := cut_read (some ⟨gq, 0, none⟩) L q
          rw [HD.out.lq] at hcq
          have hlu := HD.out.lu
          have hVe : YtejlgahkekgceaaV.val vl = YtejlgahkekgceaaV.val l1 * 2 ^ s := by rw [HVL.out, YtejlgahkekgceaaV.val_toL]
          have hub : YtejlgahkekgceaaV.val u < YtejlgahkekgceaaV.B ^ vl.length := by
            have h1 := HD.out.lt
            rw [Nat.pow_zero, Nat.mul_one] at h1
            refine Nat.lt_trans h1 (YtejlgahkekgceaaV.val_lt ?_)
            rw [HVL.out]; exact YtejlgahkekgceaaV.toL_ok _
          have hutl : (u.take vl.length).length = vl.length := by rw [List.length_take]; omega
          have hcu := cut_read (some ⟨w2.heap.size, 0, none⟩) vl.length (u.take vl.length)
          rw [hutl] at hcu
          have hus : YtejlgahkekgceaaV.strip (u.take vl.length) = YtejlgahkekgceaaV.toL (YtejlgahkekgceaaV.val u) := by
            rw [YtejlgahkekgceaaV.strip_toL (YtejlgahkekgceaaV.ok_take HD.out.ou _), val_take_high (high_zero hub HD.out.ou)]
          have hqs : YtejlgahkekgceaaV.strip q = YtejlgahkekgceaaV.toL (YtejlgahkekgceaaV.val q) := YtejlgahkekgceaaV.strip_toL HD.out.oq
          have hqC : Kd.C (Kd.int .u32) wz.drew (some ⟨gq, 0, none⟩) L q := by
            have h1 := blk_C (W := wz.drew) (m := L) HD.out.bq (by rw [HD.out.lq]; exact Nat.le_refl _) (by rw [HD.out.lq]; omega)
            rw [List.take_of_length_le (by rw [HD.out.lq]; exact Nat.le_refl _)] at h1
            exact h1
          have huC : Kd.C (Kd.int .u32) wz.drew (some ⟨w2.heap.size, 0, none⟩) vl.length (u.take vl.length) := blk_C (W := wz.drew) HD.out.bu (by omega) (by omega)
          obtain ⟨mu, hmu1, hmu2⟩ := dm_strip_prefix _ (u.take vl.length) rfl
          have huC2 : Kd.C (Kd.int .u32) wz.drew (some ⟨w2.heap.size, 0, none⟩) (YtejlgahkekgceaaV.strip (u.take vl.length)).length (YtejlgahkekgceaaV.strip (u.take vl.length)) := by
            rw [hmu2, List.take_take, List.length_take]
            have h1 := blk_C (W := wz.drew) (m := min mu vl.length) HD.out.bu (by omega) (by omega)
            rw [show min (min mu vl.length) u.length = min mu vl.length by omega]
            exact h1
          have HQ := Aside0.mk (hcq wz.drew hqC (Nat.le_refl _))
          have HUC := Aside0.mk (hcu wz.drew huC (Nat.le_refl _))
          have sl0 := fun W => dm_slice0 W w2.heap.size vl.length (l0.length + 1) hvp
          obtain ⟨ut, hut⟩ : ∃ ut, ut = YtejlgahkekgceaaV.strip (u.take vl.length) := ⟨_, rfl⟩
          obtain ⟨qt, hqt⟩ : ∃ qt, qt = YtejlgahkekgceaaV.strip q := ⟨_, rfl⟩
          rw [← hut] at HUC huC2 hus
          rw [← hqt] at HQ hqs
          have hutl2 : ut.length ≤ vl.length := by rw [hut]; exact Nat.le_trans (YtejlgahkekgceaaV.strip_length_le _) (by omega)
          have HF := dm_final (vq := YtejlgahkekgceaaV.val q) (vu := YtejlgahkekgceaaV.val u) (A := YtejlgahkekgceaaV.val l0) (Bv := YtejlgahkekgceaaV.val l1) (s := s) (by rw [← hVe]; exact HD.out.eq) (by rw [← hVe]; have h1 := HD.out.lt; rw [Nat.pow_zero, Nat.mul_one] at h1; exact h1)
          have HSR := Aside0.mk (show nat_Shr.f ut (s : Int) = some (YtejlgahkekgceaaV.toL (YtejlgahkekgceaaV.val u / 2 ^ s)) by rw [hus]; exact dm_shr hub (by omega) hs)
          have KF := Aside0.mk (And.intro HF (And.intro hqs (And.intro hqt huC2)))
          clear hcq hcu hlu hVe hub hutl hus hqs hqC huC hmu1 hmu2 hut hqt HF hwz huC2
          go_wp2_with fail
          go_still_tail 8, (by kernel_rfl)
          still_call HQ.out
          repeat still_step
          still_call HUC.out
          repeat still_step
          refine wpStill_nil ?_
          change wpList _ _ _ _ _ wz.drew
          obtain ⟨wy, hwy⟩ : ∃ wy, wy = wz.drew := ⟨_, rfl⟩
          have huC3 := KF.out.2.2.2
          rw [← hwy] at huC3 ⊢
          have HWY := Aside0.mk hwy
          clear hwy sl0
          go_wp2_with fail
          refine (nat_Shr.calls _ _ ut (s : Int) _ wy huC3 hutl2 HSR.out).mono ?_
          rintro e w6 ⟨v1_, rfl, hR6, hb6⟩
          go_wp2_with fail
          go_ret3
          have hbz : Below w.heap.size w wz := HB2.out.trans (HD.out.below.mono HB2.out.size)
          have hby : Below w.heap.size w wy := by rw [HWY.out]; exact hbz.drew
          have hsz : wz.heap.size ≤ wy.heap.size := by rw [HWY.out]; exact Nat.le_refl _
          have hgl := HD.out.bq.lt
          have hgw : w.heap.size ≤ gq := by have := HB2.out.size; omega
          have hb7 : Below w.heap.size w w6 := hby.trans (hb6.mono hby.size)
          have hq6 : Blk w6 gq q := (hb6.block gq (by omega)).trans (by rw [HWY.out]; exact HD.out.bq)
          obtain ⟨hf1, hf2⟩ := KF.out.1
          have hv1b := Kd.R_bound hR6
          refine ⟨.slice (some ⟨gq, 0, none⟩) qt.length L, v1_, rfl, ?_, ?_, hb7⟩
          · rw [← hf1, ← KF.out.2.1, KF.out.2.2.1]
            refine Kd.R_mono (blk_R hq6 HD.out.lq (by omega) hgw) (fun k hk e => ?_)
            have h1 := (hv1b.1 k e.symm).2.1
            omega
          · rw [← hf2]
            refine Kd.R_mono (Kd.R_lower hv1b hby.size) (fun k hk e => ?_)
            have h1 : k = gq := by simpa [Value.ownBlock] using e
            have h3 := hk.2.1
            omega
        · obtain ⟨u, q, hds⟩ := HI.out
          have HD := Aside0.mk hds
          clear hds HI
          rw [show ((i + 1 : Nat) : Int) - 1 = (i : Int) by omega]
          have hN := HVN.out
          have hLL := HL.out
          obtain ⟨p2, hp2⟩ : ∃ p, p = i + vl.length := ⟨_, rfl⟩
          obtain ⟨p1, hp1⟩ : ∃ p, p = i + n + 1 := ⟨_, rfl⟩
          obtain ⟨p0, hp0⟩ : ∃ p, p = i + n := ⟨_, rfl⟩
          obtain ⟨b1, hb1⟩ : ∃ p, p = n + 1 := ⟨_, rfl⟩
          have hlu := HD.out.lu
          obtain ⟨y2, hy2⟩ := Int.eq_ofNat_of_zero_le (YtejlgahkekgceaaV.ok_get HD.out.ou (i + n + 2)).1
          obtain ⟨y1, hy1⟩ := Int.eq_ofNat_of_zero_le (YtejlgahkekgceaaV.ok_get HD.out.ou (i + n + 1)).1
          obtain ⟨y0, hy0⟩ := Int.eq_ofNat_of_zero_le (YtejlgahkekgceaaV.ok_get HD.out.ou (i + n)).1
          have okv : YtejlgahkekgceaaV.ok vl = true := by rw [HVL.out]; exact YtejlgahkekgceaaV.toL_ok _
          obtain ⟨v0, hv0⟩ := Int.eq_ofNat_of_zero_le (YtejlgahkekgceaaV.ok_get okv n).1
          have hyb2 := (YtejlgahkekgceaaV.ok_get HD.out.ou (i + n + 2)).2
          have hyb1 := (YtejlgahkekgceaaV.ok_get HD.out.ou (i + n + 1)).2
          have hyb0 := (YtejlgahkekgceaaV.ok_get HD.out.ou (i + n)).2
          have hvb0 := (YtejlgahkekgceaaV.ok_get okv n).2
          rw [hy2] at hyb2
          rw [hy1] at hyb1
          rw [hy0] at hyb0
          rw [hv0] at hvb0
          have hgs := dm_guess HD.out.ou okv hN hv0 HV.out.2.2 hy0 hy1 hy2 hv1a hv1b (by omega) (by omega) (by omega) HD.out.lt
          obtain ⟨R, hR⟩ : ∃ R, gloop v1 v0 y0 4294967296 ((y2 * 4294967296 + y1) / v1) ((y2 * 4294967296 + y1) % v1) = R := ⟨_, rfl⟩
          rw [hR] at hgs
          have HG := Aside0.mk hgs
          have hRb := hgs.2.2
          have HGU := Aside0.mk (fun W => guess_of y2 y1 y0 v1 v0 _ _ R (by omega) (by omega) (by omega) hv1b (by omega) (by omega) ⟨rfl⟩ ⟨rfl⟩ ⟨hR⟩ W)
          obtain ⟨av, hav, gv1⟩ := Kd.at_int (KV.out _ HD.out.below) ((n + 1 : Nat) : Int) (by omega) (by omega)
          subst hav
          obtain ⟨av2, hav2, gv0⟩ := Kd.at_int (KV.out _ HD.out.below) ((n : Nat) : Int) (by omega) (by omega)
          obtain rfl : av = av2 := by injection hav2
          rw [show ((n + 1 : Nat) : Int).toNat = b1 by rw [hb1]; exact Int.toNat_natCast _, show rd vl ((n + 1 : Nat) : Int) = (v1 : Int) by unfold rd; rw [Int.toNat_natCast]; exact HV.out.2.2] at gv1
          rw [show ((n : Nat) : Int).toNat = n from Int.toNat_natCast _, show rd vl ((n : Nat) : Int) = (v0 : Int) by unfold rd; rw [Int.toNat_natCast]; exact hv0] at gv0
          have gu2 := HD.out.bu.cell (j := i + n + 2) (by omega)
          have gu1 := HD.out.bu.cell (j := i + n + 1) (by omega)
          have gu0 := HD.out.bu.cell (j := i + n) (by omega)
          rw [hy2, show i + n + 2 = p2 by omega] at gu2
          rw [hy1, ← hp1] at gu1
          rw [hy0, ← hp0] at gu0
          have sl : ∀ W : World, (Instr.slice 22 (.slice (some ⟨w2.heap.size, 0, none⟩) (l0.length + 1) (l0.length + 1)) (some (.int .i64 (i : Int))) (some (.int .i64 ((p2 : Int) + 1))) (some (.int .i64 ((p2 : Int) + 1)))).run Try.prog W = .ok (.slice (some ⟨w2.heap.size, i, none⟩) (vl.length + 1) (vl.length + 1)) W := fun W => by
            have h := dm_slice3 W w2.heap.size i (p2 + 1) (l0.length + 1) (by omega) (by omega) (by omega)
            rw [show p2 + 1 - i = vl.length + 1 by omega, show ((p2 + 1 : Nat) : Int) = (p2 : Int) + 1 by omega] at h
            exact h
          have bb1 : (p2 : Int) < (l0.length : Int) + 1 := by omega
          have bb2 : (p1 : Int) < (l0.length : Int) + 1 := by omega
          have bb3 : (p0 : Int) < (l0.length : Int) + 1 := by omega
          have bb4 : (b1 : Int) < (vl.length : Int) := by omega
          have bb5 : (n : Int) < (vl.length : Int) := by omega
          have bc1 : p2 < l0.length + 1 := by omega
          have bc2 : p1 < l0.length + 1 := by omega
          have bc3 : p0 < l0.length + 1 := by omega
          have bc4 : b1 < vl.length := by omega
          have bc5 : n < vl.length := by omega
          have su1 : (i : Int) + (vl.length : Int) = (p2 : Int) := by omega
          have su2 : (p2 : Int) - 1 = (p1 : Int) := by omega
          have su3 : (p2 : Int) - 2 = (p0 : Int) := by omega
          have su4 : (vl.length : Int) - 1 = (b1 : Int) := by omega
          have su5 : (vl.length : Int) - 2 = (n : Int) := by omega
          have sw1 : IntKind.i64.wrap ((i : Int) + (vl.length : Int)) = (p2 : Int) := by rw [su1]; exact IntWalk.i64_in _ (by omega)
          have sw2 : IntKind.i64.wrap ((p2 : Int) - 1) = (p1 : Int) := by rw [su2]; exact IntWalk.i64_in _ (by omega)
          have sw3 : IntKind.i64.wrap ((p2 : Int) - 2) = (p0 : Int) := by rw [su3]; exact IntWalk.i64_in _ (by omega)
          have sw4 : IntKind.i64.wrap ((vl.length : Int) - 1) = (b1 : Int) := by rw [su4]; exact IntWalk.i64_in _ (by omega)
          have sw5 : IntKind.i64.wrap ((vl.length : Int) - 2) = (n : Int) := by rw [su5]; exact IntWalk.i64_in _ (by omega)
          have HPP := Aside0.mk (And.intro hp2 (And.intro hp1 (And.intro hp0 (And.intro hb1 (And.intro hN hLL)))))
          have HOV := Aside0.mk okv
          have hvc := HCv.out.2.1
          clear hp2 hp1 hp0 hb1 hN hLL hlu hy2 hy1 hy0 hv0 hgs hR okv hav2
          go_wp2_with fail
          go_quiet ((go_at_call 31; exact Calls.quiet_of ((HGU.out _).mono fun e w' ⟨h1, ⟨m, h2⟩⟩ => ⟨h1, m, h2⟩)))
          clear sw1 sw2 sw3 sw4 sw5
          go_wp2_with fail
          obtain ⟨wq, hwq⟩ : ∃ wq, wq = wr.drewN nq := ⟨_, rfl⟩
          rw [← hwq]
          have HQ := Aside0.mk (show DS w2 wq gq vl (YtejlgahkekgceaaV.val l0 * 2 ^ s) l0.length L (i + 1) u q by
            rw [hwq]
            exact ⟨pw_below_drewN HD.out.below _, HD.out.bu.drewN _, HD.out.bq.drewN _, HD.out.ou, HD.out.lu, HD.out.oq, HD.out.lq, HD.out.zq, HD.out.eq, HD.out.lt⟩)
          clear hwq HD HGU gv1 gv0 gu2 gu1 gu0
          refine (take_win w2.heap.size i vl.length (vl.length + 1) cv u vl (some av) R wq HQ.out.bu rfl (by have := HQ.out.lu; omega) (by have := HQ.out.lu; omega) HQ.out.ou HOV.out hRb (Nat.le_refl _) hvc (fun W' h => KV.out _ (HQ.out.below.trans (h.below (Nat.le_refl _))))).mono ?_
          rintro e w4 ⟨b, t1, rfl, hb, hbk, hon, hlt1, hok1, hhi1, hval1⟩
          have hVp : 0 < YtejlgahkekgceaaV.val vl := by
            have h1 := limb_le vl (n + 1)
            rw [HV.out.2.2, Int.toNat_natCast] at h1
            have h3 := Nat.mul_pos (Nat.pow_pos (by decide) : 0 < YtejlgahkekgceaaV.B ^ (n + 1)) (show 0 < v1 by omega)
            omega
          have hVlt := YtejlgahkekgceaaV.val_lt HOV.out
          have hPb : YtejlgahkekgceaaV.val u < YtejlgahkekgceaaV.B ^ (i + vl.length + 1) := by
            refine Nat.lt_of_lt_of_le HQ.out.lt ?_
            have h1 := Nat.mul_le_mul_right (YtejlgahkekgceaaV.B ^ (i + 1)) (Nat.le_of_lt hVlt)
            rw [← Nat.pow_add, show vl.length + (i + 1) = i + vl.length + 1 by omega] at h1
            exact h1
          have huz := high_zero hPb HQ.out.ou
          have ht1 : YtejlgahkekgceaaV.val t1 < YtejlgahkekgceaaV.B ^ (i + vl.length + 1) := val_lt_high hok1 (fun j hj => by rw [hhi1 j hj]; exact huz j hj)
          have e1 : YtejlgahkekgceaaV.B ^ i * (R * YtejlgahkekgceaaV.val vl) = YtejlgahkekgceaaV.B ^ i * YtejlgahkekgceaaV.val vl * R := by rw [Nat.mul_comm R, Nat.mul_assoc]
          rw [e1] at hval1
          have e2 : YtejlgahkekgceaaV.val vl * YtejlgahkekgceaaV.B ^ i = YtejlgahkekgceaaV.B ^ i * YtejlgahkekgceaaV.val vl := Nat.mul_comm _ _
          obtain ⟨k0, k1⟩ := quot_nat (Nat.mul_pos (Nat.pow_pos (by decide)) hVp) rfl HG.out.1 HG.out.2.1 hb hval1 ht1
          have hQb : YtejlgahkekgceaaV.val u / (YtejlgahkekgceaaV.B ^ i * YtejlgahkekgceaaV.val vl) < 4294967296 := Nat.lt_of_le_of_lt HG.out.1 hRb
          obtain ⟨Q, hQ⟩ : ∃ Q, Q = YtejlgahkekgceaaV.val u / (YtejlgahkekgceaaV.B ^ i * YtejlgahkekgceaaV.val vl) := ⟨_, rfl⟩
          rw [← hQ] at k0 k1 hQb
          clear hQ
          have hbq := hon.blk HQ.out.bq (by omega)
          have hbl := HQ.out.below.trans (hon.below (Nat.le_refl _))
          have gq1 := hbq.cell (j := i) (by rw [HQ.out.lq]; omega)
          have gq2 := hbq.frozen i
          have hiL : i < L := by omega
          rcases (show b = 0 ∨ b = 1 by omega) with rfl | rfl
          · obtain ⟨rfl, k2, k3⟩ := k0 rfl
            have hfin := Aside0.mk (show DS w2 (w4.setCell ⟨gq, i, none⟩ (.int .u32 (R : Int))) gq vl (YtejlgahkekgceaaV.val l0 * 2 ^ s) l0.length L i t1 (q.set i (R : Int)) from
              ⟨hbl.setCell (by simp; omega) _, (Only.set_ (Only.refl gq w4) i _).blk hbk (by omega), hbq.set_ _ _, hok1, by rw [hlt1]; exact HQ.out.lu, dm_ok_set HQ.out.oq _ (by omega) (by omega), by rw [List.length_set]; exact HQ.out.lq,
                fun j hj => by rw [dm_getD_set_ne _ (by omega)]; exact HQ.out.zq j (by omega), ds_step HQ.out hiL hQb k2 (by rw [e2]; exact k3), by rw [e2]; exact k3⟩)
            have hrm : (R : Int) % 4294967296 = (R : Int) := by omega
            clear k1 k2 k3 hval1 ht1 huz hPb e1 e2 hbk hon hlt1 hok1 hhi1 hbq hbl hVp hVlt
            go_wp2_with fail
            go_roundw
            case rel => exact ⟨i, by omega, rfl, ⟨_, _, hfin.out⟩⟩
            case measure => simp [intOf]
          · obtain ⟨hRQ, k2⟩ := k1 rfl
            subst hRQ
            go_wp2_with fail
            refine (back_win w2.heap.size i vl.length (vl.length + 1) cv t1 vl (some av) w4 hbk rfl (by rw [hlt1]; have := HQ.out.lu; omega) (by rw [hlt1]; have := HQ.out.lu; omega) hok1 HOV.out (Nat.le_refl _) hvc (fun W' h => KV.out _ (hbl.trans (h.below (Nat.le_refl _))))).mono ?_
            rintro e w5 ⟨ov, t2, rfl, hov, hbk2, hon2, hlt2, hok2, hhi2, hval2⟩
            have ht2 : YtejlgahkekgceaaV.val t2 < YtejlgahkekgceaaV.B ^ (i + vl.length + 1) := val_lt_high hok2 (fun j hj => by rw [hhi2 j hj, hhi1 j hj]; exact huz j hj)
            obtain ⟨k3, k4⟩ := k2 _ _ ht2 hov hval2
            have hbq2 := hon2.blk hbq (by omega)
            have hbl2 := hbl.trans (hon2.below (Nat.le_refl _))
            have gq3 := hbq2.cell (j := i) (by rw [HQ.out.lq]; omega)
            have gq4 := hbq2.frozen i
            have hfin := Aside0.mk (show DS w2 (w5.setCell ⟨gq, i, none⟩ (.int .u32 (Q : Int))) gq vl (YtejlgahkekgceaaV.val l0 * 2 ^ s) l0.length L i t2 (q.set i (Q : Int)) from
              ⟨hbl2.setCell (by simp; omega) _, (Only.set_ (Only.refl gq w5) i _).blk hbk2 (by omega), hbq2.set_ _ _, hok2, by rw [hlt2, hlt1]; exact HQ.out.lu, dm_ok_set HQ.out.oq _ (by omega) (by omega), by rw [List.length_set]; exact HQ.out.lq,
                fun j hj => by rw [dm_getD_set_ne _ (by omega)]; exact HQ.out.zq j (by omega), ds_step HQ.out hiL hQb k3 (by rw [e2]; exact k4), by rw [e2]; exact k4⟩)
            have hrm : (Q : Int) % 4294967296 = (Q : Int) := by omega
            have hrs : (Q : Int) + 1 - 1 = (Q : Int) := by omega
            clear k0 k1 k2 k3 k4 hval1 hval2 ht1 ht2 huz hPb e1 e2 hbk hon hlt1 hok1 hhi1 hbq hbl hbk2 hon2 hlt2 hok2 hhi2 hbq2 hbl2 hVp hVlt gq1 gq2
            go_wp2_with fail
            go_roundw
            case rel => exact ⟨i, by omega, rfl, ⟨_, _, hfin.out⟩⟩
            case measure => simp [intOf]
theorem dm_val_drop {l : List Int} (i : Nat) : YtejlgahkekgceaaV.val (l.drop i) = (l.getD i 0).toNat + YtejlgahkekgceaaV.B * YtejlgahkekgceaaV.val (l.drop (i + 1)) := by
  by_cases h : i < l.length
  · rw [List.drop_eq_getElem_cons h, YtejlgahkekgceaaV.val, List.getD_eq_getElem?_getD, List.getElem?_eq_getElem h]; rfl
  · rw [List.drop_of_length_le (by omega), List.drop_of_length_le (by omega), List.getD_eq_getElem?_getD, List.getElem?_eq_none (by omega)]; rfl
theorem dcut_go : ∀ (n : Nat) (l : List Int) (k : Nat), l.length = n → n < k → n ≤ 4611686018427387904 → div_cut.l0 k l = some (YtejlgahkekgceaaV.strip l) := by
  intro n
  induction n with
  | zero =>
    intro l k hn hk hm
    obtain ⟨k, rfl⟩ : ∃ m, k = m + 1 := ⟨k - 1, by omega⟩
    have : l = [] := List.length_eq_zero_iff.1 hn
    subst this
    rfl
  | succ n ih =>
    intro l k hn hk hm
    obtain ⟨k, rfl⟩ : ∃ m, k = m + 1 := ⟨k - 1, by omega⟩
    rcases YtejlgahkekgceaaV.snoc_cases l with rfl | ⟨a, x, rfl⟩
    · simp at hn
    · have hla : a.length = n := by simpa using hn
      have hL : ((a ++ [x]).length : Int) = (n : Int) + 1 := by rw [hn]; rfl
      have hw : wrap64 ((n : Int) + 1 - 1) = (n : Int) := by rw [dm_w64 (z := (n : Int) + 1 - 1) (by omega)]; omega
      have hrd : rd (a ++ [x]) (n : Int) = x := by
        unfold rd
        rw [Int.toNat_natCast, ← hla, List.getD_eq_getElem?_getD, List.getElem?_append_right (Nat.le_refl _)]
        simp
      have htk : (a ++ [x]).take ((n : Int)).toNat = a := by
        rw [Int.toNat_natCast, ← hla]; simp
      simp only [div_cut.l0]
      rw [hL, hw, if_pos (by omega), if_pos (by omega), if_pos (by omega), hrd]
      by_cases hx : x = 0
      · rw [if_pos hx, if_pos (by omega), htk, ih a k hla (by omega) (by omega), hx, YtejlgahkekgceaaV.strip_snoc_zero]
      · rw [if_neg hx, YtejlgahkekgceaaV.strip_snoc hx]
theorem dcut_f {l : List Int} {k : Nat} (hk : l.length < k) (hm : l.length ≤ 4611686018427387904) : div_cut.f k l = some (YtejlgahkekgceaaV.strip l) := dcut_go l.length l k rfl hk hm
/-- a quotient by one limb, limb by limb -/
theorem small_go {a : List Int} {x : Nat} (oa : YtejlgahkekgceaaV.ok a = true) (hx : 0 < x) (hxb : x < 4294967296) (la : a.length ≤ 1000000) : ∀ (rr r k : Nat) (q : List Int), rr ≤ a.length → r < x → q.length = a.length → YtejlgahkekgceaaV.ok q = true → (∀ j, j < rr → q.getD j 0 = 0) → YtejlgahkekgceaaV.val (a.drop rr) = x * YtejlgahkekgceaaV.val (q.drop rr) + r → a.length + 2 + rr ≤ k →
    div_Small.l0 k a (x : Int) q (r : Int) ((rr : Int) - 1) = some (YtejlgahkekgceaaV.toL (YtejlgahkekgceaaV.val a / x), ((YtejlgahkekgceaaV.val a % x : Nat) : Int), 0) := by
  intro rr
  induction rr with
  | zero =>
    intro r k q _ hr hl oq _ hv hk
    obtain ⟨k, rfl⟩ : ∃ m, k = m + 1 := ⟨k - 1, by omega⟩
    rw [List.drop_zero, List.drop_zero] at hv
    simp only [div_Small.l0]
    rw [if_neg (by omega), dcut_f (by omega) (by omega), Option.bind_some, YtejlgahkekgceaaV.strip_toL oq]
    have e1 : YtejlgahkekgceaaV.val a / x = YtejlgahkekgceaaV.val q := by rw [hv, Nat.mul_add_div hx, Nat.div_eq_of_lt hr, Nat.add_zero]
    have e2 : YtejlgahkekgceaaV.val a % x = r := by rw [hv, Nat.mul_add_mod, Nat.mod_eq_of_lt hr]
    rw [e1, e2]
  | succ i ih =>
    intro r k q hrr hr hl oq hz hv hk
    obtain ⟨k, rfl⟩ : ∃ m, k = m + 1 := ⟨k - 1, by omega⟩
    have hyo := YtejlgahkekgceaaV.ok_get oa i
    obtain ⟨y, hy⟩ := Int.eq_ofNat_of_zero_le hyo.1
    rw [hy] at hyo
    have hqd : (r * 4294967296 + y) / x < 4294967296 := Nat.div_lt_of_lt_mul (by
      have h1 := Nat.mul_le_mul_right 4294967296 (show r + 1 ≤ x from hr)
      rw [Nat.add_mul] at h1
      omega)
    have hm := Nat.mod_lt (r * 4294967296 + y) hx
    have hdm := Nat.div_add_mod (r * 4294967296 + y) x
    have hd : bits_Div32.f (r : Int) (y : Int) (x : Int) = some ((((r * 4294967296 + y) / x : Nat) : Int), (((r * 4294967296 + y) % x : Nat) : Int)) := by
      unfold bits_Div32.f
      rw [if_pos ⟨by omega, by omega, by omega⟩]
      simp
    generalize (r * 4294967296 + y) / x = Q at *
    generalize (r * 4294967296 + y) % x = M at *
    have h1 := dm_val_drop (l := a) i
    have h2 := dm_val_drop (l := q.set i (Q : Int)) i
    have h3 : (q.set i (Q : Int)).drop (i + 1) = q.drop (i + 1) := by rw [List.drop_set_of_lt (by omega)]
    have h4 : (q.set i (Q : Int)).getD i 0 = (Q : Int) := by
      rw [List.getD_eq_getElem?_getD, List.getElem?_set_self (by omega)]; rfl
    rw [hy, Int.toNat_natCast] at h1
    rw [h3, h4, Int.toNat_natCast] at h2
    have hh := ih M k (q.set i (Q : Int)) (by omega) hm (by rw [List.length_set]; exact hl) (dm_ok_set oq _ (by omega) (by omega)) (fun j hj => by rw [dm_getD_set_ne _ (by omega)]; exact hz j (by omega)) (by
      rw [h1, h2, hv, Nat.mul_add, Nat.mul_add, ← Nat.mul_assoc x, Nat.mul_comm x YtejlgahkekgceaaV.B, Nat.mul_assoc]
      generalize x * YtejlgahkekgceaaV.val (q.drop (i + 1)) = Z
      generalize x * Q = XQ at *
      simp only [YtejlgahkekgceaaV.B]
      omega) (by omega)
    rw [← hh]
    simp only [div_Small.l0]
    rw [show ((i + 1 : Nat) : Int) - 1 = (i : Int) by omega, if_pos (by omega), if_pos (by omega), if_pos (by omega), show rd a (i : Int) = (y : Int) by unfold rd; rw [Int.toNat_natCast]; exact hy, hd, Option.bind_some, if_pos (by omega), Int.toNat_natCast, dm_w64 (z := (i : Int) - 1) (by omega)]
theorem small_val {a : List Int} {x k : Nat} (oa : YtejlgahkekgceaaV.ok a = true) (ma : YtejlgahkekgceaaV.may a = true) (hx : 0 < x) (hxb : x < 4294967296) (hk : 1000000 ≤ k) : div_Small.f k a (x : Int) = some (YtejlgahkekgceaaV.toL (YtejlgahkekgceaaV.val a / x), ((YtejlgahkekgceaaV.val a % x : Nat) : Int), 0) := by
  have la := YtejlgahkekgceaaV.may_length ma
  unfold div_Small.f
  rw [nat_May_val _ (by omega), ma, Option.bind_some, if_pos rfl, if_neg (by omega), if_pos (by omega), Int.toNat_natCast, if_pos (by omega), dm_w64 (z := (a.length : Int) - 1) (by omega)]
  exact small_go oa hx hxb (by omega) a.length 0 k (List.replicate a.length 0) (Nat.le_refl _) hx (by simp) (dm_zeros_ok _) (fun j _ => dm_zeros _ _) (by simp [YtejlgahkekgceaaV.val]) (by omega)
theorem dm_of {u k : Nat} (hk : 3 ≤ k) (h1 : u < 4294967296) : nat_Of.f k (u : Int) = some (YtejlgahkekgceaaV.toL u) := by
  unfold nat_Of.f
  have e1 : (u : Int) % 4294967296 = (u : Int) := by omega
  have e2 : ((u : Int) / 4294967296) % 4294967296 = 0 := by omega
  rw [e1, e2]
  have ho : YtejlgahkekgceaaV.ok [(u : Int), 0] = true := by
    rw [YtejlgahkekgceaaV.ok_cons]; refine ⟨by omega, ?_⟩; rw [YtejlgahkekgceaaV.ok_cons]; exact ⟨by omega, rfl⟩
  have hv : YtejlgahkekgceaaV.val [(u : Int), 0] = u := by simp [YtejlgahkekgceaaV.val]
  have hc : nat_cut.f k [(u : Int), 0] = some (YtejlgahkekgceaaV.toL u) := by
    have h := nat_cut_l0_val [(u : Int), 0] k (by simp; omega) (by simp)
    unfold nat_cut.f
    rw [h, YtejlgahkekgceaaV.cut_fit ho, hv]
    unfold YtejlgahkekgceaaV.fit
    rw [if_pos (Nat.le_trans (YtejlgahkekgceaaV.toL_length_le.2 (show u < YtejlgahkekgceaaV.B ^ 1 by simp only [YtejlgahkekgceaaV.B]; omega)) (by omega))]
  rw [hc]; rfl
theorem dm_two {w W W' : World} {u v : Value} {p q : List Int} {b1 : Nat} {ok1 ok2 : Nat → Prop} (h1 : Kd.R (Kd.int .u32) 23 W w.heap.size ok1 u p) (h2 : Kd.R (Kd.int .u32) 23 W' b1 ok2 v q) (hb : Below W.heap.size W W') (hb1 : W.heap.size ≤ b1) (hw : w.heap.size ≤ W.heap.size) :
    Kd.R (Kd.int .u32) 23 W' w.heap.size (fun k_ => some k_ ≠ v.ownBlock) u p ∧ Kd.R (Kd.int .u32) 23 W' w.heap.size (fun k_ => some k_ ≠ u.ownBlock) v q := by
  have g1 := Kd.R_bound h1
  have g2 := Kd.R_bound h2
  refine ⟨Kd.R_mono (Kd.R_below (Kd.R_bound h1) hb) (fun k hk e => ?_), Kd.R_mono (Kd.R_lower (Kd.R_bound h2) (by omega)) (fun k hk e => ?_)⟩
  · have a1 := (g2.1 k e.symm).2.1
    have a2 := hk.2.2.1
    omega
  · have a1 := (g1.1 k e.symm).2.2.1
    have a2 := hk.2.1
    omega
theorem dm_nils {w w' : World} {x : Int} (hb : Below w.heap.size w w') : DmPost w [] [] x (.returned (.tuple #[.slice none 0 0, .slice none 0 0, .int .i64 x])) w' :=
  ⟨_, _, rfl, Kd.R_nil _ _ _ _ _, Kd.R_nil _ _ _ _ _, hb⟩
set_option maxRecDepth 100000 in
set_option maxHeartbeats 8000000 in
theorem div_no (A0 : Option Addr) (c0 : Nat) (l0 : List Int) (A1 : Option Addr) (c1 : Nat) (l1 : List Int) (w : World) (hr0 : Kd.C (Kd.int .u32) w A0 l0.length l0) (hc0 : l0.length ≤ c0) (hr1 : Kd.C (Kd.int .u32) w A1 l1.length l1) (hc1 : l1.length ≤ c1) (hno : (YtejlgahkekgceaaV.may l0 && YtejlgahkekgceaaV.may l1) = false) :
    Calls Try.prog 12 #[.slice A0 l0.length c0, .slice A1 l1.length c1] w (DmPost w [] [] 4) := by
  have HM0 := Aside0.mk (nat_May.calls A0 c0 l0 (YtejlgahkekgceaaV.may l0) w hr0 hc0 (nat_May_val _ hr0.2.1))
  have HM1 := Aside0.mk (fun n => nat_May.calls A1 c1 l1 (YtejlgahkekgceaaV.may l1) (w.drewN n) (Kd.C_drewN hr1 n) hc1 (nat_May_val _ hr1.2.1))
  clear hr0 hr1
  cases h0 : YtejlgahkekgceaaV.may l0 with
  | false =>
    rw [h0] at HM0
    clear h0 hno HM1
    go_enter Try.func12, Try.ntmps12
    go_wp2_with fail
    refine HM0.out.mono ?_
    rintro e w1 ⟨rfl, ⟨nd, rfl⟩⟩
    go_wp2_with fail
    go_ret3
    exact dm_nils (pw_below_drewN (Below.refl _ _) _)
  | true =>
    rw [h0, Bool.true_and] at hno
    rw [h0] at HM0
    rw [hno] at HM1
    clear h0 hno
    go_enter Try.func12, Try.ntmps12
    go_wp2_with fail
    refine HM0.out.mono ?_
    rintro e w1 ⟨rfl, ⟨nd, rfl⟩⟩
    go_wp2_with fail
    refine (HM1.out _).mono ?_
    rintro e w1 ⟨rfl, ⟨nd2, rfl⟩⟩
    go_wp2_with fail
    go_ret3
    exact dm_nils (pw_below_drewN (Below.refl _ _) _)
set_option maxRecDepth 100000 in
set_option maxHeartbeats 8000000 in
theorem div_zero (A0 : Option Addr) (c0 : Nat) (l0 : List Int) (A1 : Option Addr) (c1 : Nat) (l1 : List Int) (w : World) (hr0 : Kd.C (Kd.int .u32) w A0 l0.length l0) (hc0 : l0.length ≤ c0) (hr1 : Kd.C (Kd.int .u32) w A1 l1.length l1) (hc1 : l1.length ≤ c1) (m0 : YtejlgahkekgceaaV.may l0 = true) (hz : l1 = []) :
    Calls Try.prog 12 #[.slice A0 l0.length c0, .slice A1 l1.length c1] w (DmPost w [] [] 41) := by
  subst hz
  have HM0 := Aside0.mk (nat_May.calls A0 c0 l0 true w hr0 hc0 (by rw [nat_May_val _ hr0.2.1, m0]))
  have HM1 := Aside0.mk (fun n => nat_May.calls A1 c1 [] true (w.drewN n) (Kd.C_drewN hr1 n) hc1 (by rw [nat_May_val _ hr1.2.1]; rfl))
  clear hr0 hr1 m0
  go_enter Try.func12, Try.ntmps12
  go_wp2_with fail
  refine HM0.out.mono ?_
  rintro e w1 ⟨rfl, ⟨nd, rfl⟩⟩
  go_wp2_with fail
  refine (HM1.out _).mono ?_
  rintro e w1 ⟨rfl, ⟨nd2, rfl⟩⟩
  go_wp2_with fail
  go_ret3
  exact dm_nils (pw_below_drewN (Below.refl _ _) _)
set_option maxRecDepth 100000 in
set_option maxHeartbeats 8000000 in
theorem div_limb (A0 : Option Addr) (c0 : Nat) (l0 : List Int) (A1 : Option Addr) (c1 : Nat) (x : Nat) (w : World) (hr0 : Kd.C (Kd.int .u32) w A0 l0.length l0) (hc0 : l0.length ≤ c0) (hr1 : Kd.C (Kd.int .u32) w A1 1 [(x : Int)]) (hc1 : 1 ≤ c1) (o0 : YtejlgahkekgceaaV.ok l0 = true) (m0 : YtejlgahkekgceaaV.may l0 = true) (hx : 0 < x) (hxb : x < 4294967296) :
    Calls Try.prog 12 #[.slice A0 l0.length c0, .slice A1 1 c1] w (DmPost w (YtejlgahkekgceaaV.toL (YtejlgahkekgceaaV.val l0 / x)) (YtejlgahkekgceaaV.toL (YtejlgahkekgceaaV.val l0 % x)) 0) := by
  have HM0 := Aside0.mk (nat_May.calls A0 c0 l0 true w hr0 hc0 (by rw [nat_May_val _ hr0.2.1, m0]))
  have hm1 : YtejlgahkekgceaaV.may [(x : Int)] = true := by
    rw [YtejlgahkekgceaaV.may_iff]
    exact ⟨by simp, fun y hy => by simp at hy; omega⟩
  have HM1 := Aside0.mk (fun n => nat_May.calls A1 c1 [(x : Int)] true (w.drewN n) (Kd.C_drewN hr1 n) hc1 (by rw [nat_May_val [(x : Int)] (by simp), hm1]))
  have HS := Aside0.mk (fun n => div_Small.calls 1000000 A0 c0 l0 (x : Int) _ _ _ (w.drewN n) (Kd.C_drewN hr0 n) hc0 (small_val o0 m0 hx hxb (Nat.le_refl _)))
  obtain ⟨ad, rfl, g0⟩ := Kd.at_int hr1 0 (by omega) (by omega)
  have g1 : w.cell? ad = some (.int .u32 (x : Int)) := by
    have : (ad.add (0 : Int).toNat) = ad := by simp [Addr.add]
    rw [this] at g0
    exact g0
  have hmb := Nat.mod_lt (YtejlgahkekgceaaV.val l0) hx
  obtain ⟨M, hM⟩ : ∃ M, YtejlgahkekgceaaV.val l0 % x = M := ⟨_, rfl⟩
  rw [hM] at HS hmb ⊢
  have HO := Aside0.mk (fun W => nat_Of.calls 3 (M : Int) _ W (dm_of (Nat.le_refl _) (by omega)))
  clear hr0 hr1 o0 m0 g0 hM hm1
  go_enter Try.func12, Try.ntmps12
  go_wp2_with fail
  refine HM0.out.mono ?_
  rintro e w1 ⟨rfl, ⟨nd, rfl⟩⟩
  go_wp2_with fail
  refine (HM1.out _).mono ?_
  rintro e w1 ⟨rfl, ⟨nd2, rfl⟩⟩
  go_wp2_with fail
  refine (HS.out _).mono ?_
  rintro e w1 ⟨v0_, rfl, hR, hb⟩
  have KR := Aside0.mk (And.intro hR hb)
  clear hR hb
  go_wp2_with fail
  refine (HO.out _).mono ?_
  rintro e w2 ⟨v1_, rfl, hR2, hb2⟩
  have KR2 := Aside0.mk (And.intro hR2 hb2)
  clear hR2 hb2
  go_wp2_with fail
  go_ret3
  have hb := (pw_below_drewN (Below.refl w.heap.size w) (nd + nd2)).trans KR.out.2
  obtain ⟨r1, r2⟩ := dm_two (w := w) KR.out.1 KR2.out.1 KR2.out.2 (Nat.le_refl _) hb.size
  exact ⟨v0_, v1_, rfl, r1, r2, hb.trans (KR2.out.2.mono hb.size)⟩
theorem dm_append_no (w : World) (t ty e : TypeId) (i : TypeInfo) (ht : Try.prog.underlying t = some (.slice e)) (hi : Try.prog.info? e = some i) (A : Option Addr) (c : Nat) : (Builtin.append_ #[t, t] ty #[.slice none 0 0, .slice A 0 c]).run Try.prog w = .ok (.slice none 0 0) w := by
  cases A with
  | none => simp [Builtin.append_, run_underlying ht, sizeOf, typeInfo, hi, Builtin.lenOf, Builtin.firstCells]
  | some ad => simp [Builtin.append_, run_underlying ht, sizeOf, typeInfo, hi, Builtin.lenOf, Builtin.firstCells, loadCells, loadCellsFrom]
theorem dm_list_append_no (w : World) {ops : Array Oper} {rest : List Oper} {o : Oper} {a : Act} {Q : Exit → Act → World → Prop} (hg : o.guard = none) (s x : Operand) (t : TypeId) (hop : o.op = Op.call { callee := Callee.builtin Builtin.append, args := #[s, x], argTypes := #[t, t] }) (e : TypeId) (i : TypeInfo) (h1 : Try.prog.underlying t = some (.slice e)) (h2 : Try.prog.info? e = some i) (hs : a.eval s = .slice none 0 0) (A : Option Addr) (c : Nat) (hx : a.eval x = .slice A 0 c) (hK : wpList Try.prog ops Q rest (a.put o.dst (.slice none 0 0)) w) : wpList Try.prog ops Q (o :: rest) a w := by
  refine wpList_plain hg fun K hK' => ?_
  have hrun := dm_append_no w t o.type e i h1 h2 A c
  unfold Oper.wp
  simp [execOp, hop, resolve, invoke, builtin, hs, hx, hrun, Result.andThen]
  exact hK' _ _ hK
set_option maxRecDepth 100000 in
set_option maxHeartbeats 8000000 in
theorem div_less (A0 : Option Addr) (c0 : Nat) (l0 : List Int) (A1 : Option Addr) (c1 : Nat) (l1 : List Int) (w : World) (hr0 : Kd.C (Kd.int .u32) w A0 l0.length l0) (hc0 : l0.length ≤ c0) (hr1 : Kd.C (Kd.int .u32) w A1 l1.length l1) (hc1 : l1.length ≤ c1) (o0 : YtejlgahkekgceaaV.ok l0 = true) (o1 : YtejlgahkekgceaaV.ok l1 = true) (m0 : YtejlgahkekgceaaV.may l0 = true) (m1 : YtejlgahkekgceaaV.may l1 = true) (h2 : 2 ≤ l1.length) (hlt : YtejlgahkekgceaaV.val l0 < YtejlgahkekgceaaV.val l1) :
    Calls Try.prog 12 #[.slice A0 l0.length c0, .slice A1 l1.length c1] w (DmPost w [] l0 0) := by
  have len0 := YtejlgahkekgceaaV.may_length m0
  have len1 := YtejlgahkekgceaaV.may_length m1
  have HM0 := Aside0.mk (nat_May.calls A0 c0 l0 true w hr0 hc0 (by rw [nat_May_val _ (by omega), m0]))
  have HM1 := Aside0.mk (fun n => nat_May.calls A1 c1 l1 true (w.drewN n) (Kd.C_drewN hr1 n) hc1 (by rw [nat_May_val _ (by omega), m1]))
  have hcr : YtejlgahkekgceaaV.cmpS l0 l1 = -1 := by
    unfold YtejlgahkekgceaaV.cmpS; rw [m0, m1]
    simp only [Bool.and_self, if_true]
    unfold YtejlgahkekgceaaV.cmpN; rw [if_pos hlt]
  have HCM := Aside0.mk (fun n => nat_Cmp.calls A0 c0 l0 A1 c1 l1 (-1) (w.drewN n) (Kd.C_drewN hr0 n) hc0 (Kd.C_drewN hr1 n) hc1 (by unfold nat_Cmp.f; rw [if_pos ⟨o0, o1⟩, hcr]))
  have HR0 := Aside0.mk hr0
  have d1 : ((l1.length : Int) == 0) = false := beq_eq_false_iff_ne.2 (by omega)
  have d2 : ((l1.length : Int) == 1) = false := beq_eq_false_iff_ne.2 (by omega)
  have d3 : (l1.length == 0) = false := beq_eq_false_iff_ne.2 (by omega)
  have d4 : (l1.length == 1) = false := beq_eq_false_iff_ne.2 (by omega)
  obtain ⟨i0, hi, hz0, hz1, hz2⟩ := info_parts info23
  have h63 := hr0.2.1
  clear hr0 hr1 o0 o1 m0 m1 hcr hlt
  go_enter Try.func12, Try.ntmps12
  go_wp2_with fail
  refine HM0.out.mono ?_
  rintro e w1 ⟨rfl, ⟨nd, rfl⟩⟩
  go_wp2_with fail
  refine (HM1.out _).mono ?_
  rintro e w1 ⟨rfl, ⟨nd2, rfl⟩⟩
  go_wp2_with fail
  refine (HCM.out _).mono ?_
  rintro e w1 ⟨rfl, hb1⟩
  have HB1 := Aside0.mk ((pw_below_drewN (Below.refl w.heap.size w) (nd + nd2)).trans hb1)
  clear hb1
  by_cases hl0 : l0 = []
  · subst hl0
    go_wp2_with (at_builtin; refine dm_list_append_no w1 rfl _ _ 22 rfl 23 i0 Try.underlying22 hi rfl A0 c0 rfl ?_)
    go_ret3
    exact dm_nils HB1.out
  · have hpos := List.length_pos_iff.2 hl0
    obtain ⟨ad, rfl, g0⟩ := Kd.at_int (Kd.C_below HR0.out HB1.out) 0 (by omega) (by omega)
    have HC1 := Kd.reads_of_C (d := (0 : Int)) (Kd.C_below HR0.out HB1.out)
    obtain ⟨ad2, ha2, hcells⟩ := HC1.2.2 hpos
    obtain rfl : ad = ad2 := by injection ha2
    have HCC := Aside0.mk hcells
    clear g0 HC1 ha2 hcells
    have hn2 : ∀ j u, (encs (Value.int .u32) l0)[j]? = some u → w1.cell? (ad.add j) = some u := by
      intro j u hu
      simp only [encs, List.getElem?_map, Option.map_eq_some_iff] at hu
      obtain ⟨z, hz, rfl⟩ := hu
      have hj : j < l0.length := (List.getElem?_eq_some_iff.1 hz).1
      have := HCC.out j hj
      rw [List.getD_eq_getElem?_getD, hz] at this
      exact this
    have HN2 := Aside0.mk hn2
    clear hn2
    go_wp2_with (at_builtin; refine wpList_append_grows w1 rfl _ _ 22 rfl 23 i0 (.int .u32 0) 1 4 Try.underlying22 hi hz0 hz1 hz2 rfl (by omega) none 0 0 [] rfl (fun _ => ⟨rfl, rfl⟩) rfl (fun b h => by cases h) ad l0.length c0 (encs (Value.int .u32) l0) rfl ?n1 HN2.out ?n3 ?n4 ?n5 ?n6 ?_; (case n1 => simp [encs]); (case n3 => intro u hu; simp [encs] at hu; obtain ⟨z, _, rfl⟩ := hu; rfl); (case n4 => omega); (case n5 => unfold maxLen; omega); (case n6 => omega); intro v' w2 hown hgrow; have KW := Aside0.mk (And.intro hown hgrow); clear hown hgrow)
    go_ret3
    have hown := KW.out.1
    rw [List.nil_append, Nat.zero_add] at hown
    have hr : Kd.R (Kd.int .u32) 23 w2 w1.heap.size (fun _ => True) v' l0 := Kd.R_of_own hown (fun _ _ => trivial)
    have hb := HB1.out.grown KW.out.2 HB1.out.size (fun k hk => by cases hk)
    exact ⟨_, _, rfl, Kd.R_nil _ _ _ _ _, Kd.R_mono (Kd.R_lower hr HB1.out.size) (fun _ _ => by simp [Value.ownBlock]), hb⟩
def divS (a b : List Int) : List Int × List Int × Int :=
  if (YtejlgahkekgceaaV.may a && YtejlgahkekgceaaV.may b) = true then if b = [] then ([], [], 41) else (YtejlgahkekgceaaV.toL (YtejlgahkekgceaaV.val a / YtejlgahkekgceaaV.val b), YtejlgahkekgceaaV.toL (YtejlgahkekgceaaV.val a % YtejlgahkekgceaaV.val b), 0) else ([], [], 4)
def div_DivMod.f (l0 : List Int) (l1 : List Int) : Option (List Int × List Int × Int) := if YtejlgahkekgceaaV.ok l0 = true ∧ YtejlgahkekgceaaV.ok l1 = true then some (divS l0 l1) else none
theorem div_DivMod.calls (A0 : Option Addr) (c0 : Nat) (l0 : List Int) (A1 : Option Addr) (c1 : Nat) (l1 : List Int) (r1 : List Int) (r2 : List Int) (r3 : Int) (w : World) (hr0 : Kd.C (Kd.int .u32) w A0 l0.length l0) (hc0 : l0.length ≤ c0) (hr1 : Kd.C (Kd.int .u32) w A1 l1.length l1) (hc1 : l1.length ≤ c1) (h : div_DivMod.f l0 l1 = some (r1, r2, r3)) :
    Calls Try.prog 12 #[.slice A0 l0.length c0, .slice A1 l1.length c1] w fun e w' => ∃ v0_ v1_ : Value, e = .returned (.tuple #[v0_, v1_, .int .i64 r3]) ∧ Kd.R (Kd.int .u32) 23 w' w.heap.size (fun k_ => some k_ ≠ (v1_ : Value).ownBlock) v0_ r1 ∧ Kd.R (Kd.int .u32) 23 w' w.heap.size (fun k_ => some k_ ≠ (v0_ : Value).ownBlock) v1_ r2 ∧ Below w.heap.size w w' := by
  unfold div_DivMod.f at h
  by_cases ho : YtejlgahkekgceaaV.ok l0 = true ∧ YtejlgahkekgceaaV.ok l1 = true
  case neg => rw [if_neg ho] at h; cases h
  rw [if_pos ho] at h
  injection h with h
  unfold divS at h
  obtain ⟨o0, o1⟩ := ho
  by_cases hm : (YtejlgahkekgceaaV.may l0 && YtejlgahkekgceaaV.may l1) = true
  case neg =>
    rw [if_neg hm] at h
    obtain ⟨rfl, rfl, rfl⟩ : [] = r1 ∧ [] = r2 ∧ (4 : Int) = r3 := by simpa using h
    exact div_no A0 c0 l0 A1 c1 l1 w hr0 hc0 hr1 hc1 (by simpa using hm)
  rw [if_pos hm] at h
  obtain ⟨m0, m1⟩ : YtejlgahkekgceaaV.may l0 = true ∧ YtejlgahkekgceaaV.may l1 = true := by simpa using hm
  by_cases hz : l1 = []
  · rw [if_pos hz] at h
    obtain ⟨rfl, rfl, rfl⟩ : [] = r1 ∧ [] = r2 ∧ (41 : Int) = r3 := by simpa using h
    exact div_zero A0 c0 l0 A1 c1 l1 w hr0 hc0 hr1 hc1 m0 hz
  rw [if_neg hz] at h
  obtain ⟨rfl, rfl, rfl⟩ : YtejlgahkekgceaaV.toL (YtejlgahkekgceaaV.val l0 / YtejlgahkekgceaaV.val l1) = r1 ∧ YtejlgahkekgceaaV.toL (YtejlgahkekgceaaV.val l0 % YtejlgahkekgceaaV.val l1) = r2 ∧ (0 : Int) = r3 := by simpa using h
  by_cases h2 : 2 ≤ l1.length
  · by_cases hlt : YtejlgahkekgceaaV.val l0 < YtejlgahkekgceaaV.val l1
    · have := div_less A0 c0 l0 A1 c1 l1 w hr0 hc0 hr1 hc1 o0 o1 m0 m1 h2 hlt
      rw [Nat.div_eq_of_lt hlt, Nat.mod_eq_of_lt hlt, YtejlgahkekgceaaV.toL_of_may o0 m0, YtejlgahkekgceaaV.toL_zero]
      exact this
    · exact div_main A0 c0 l0 A1 c1 l1 w hr0 hc0 hr1 hc1 o0 o1 m0 m1 h2 (by omega)
  · obtain ⟨y, rfl⟩ : ∃ y, l1 = [y] := by
      cases l1 with
      | nil => exact absurd rfl hz
      | cons y t => cases t with
        | nil => exact ⟨y, rfl⟩
        | cons z t => simp at h2
    obtain ⟨hy, _⟩ := YtejlgahkekgceaaV.ok_cons.1 o1
    have hy0 : y ≠ 0 := YtejlgahkekgceaaV.may_norm m1 y (by simp)
    obtain ⟨x, rfl⟩ : ∃ x : Nat, y = (x : Int) := ⟨y.toNat, by omega⟩
    have hv : YtejlgahkekgceaaV.val [(x : Int)] = x := by
      unfold YtejlgahkekgceaaV.val
      simp [YtejlgahkekgceaaV.val]
    rw [hv]
    exact div_limb A0 c0 l0 A1 c1 x w hr0 hc0 hr1 hc1 o0 m0 (by omega) (by omega)

end Go.Proofs.Ytejlgahkekgceaa.PDiv
