-- A text of the seat Ytgikmpgpccfiiaa, written by a program of this session (drive.py).
import Derived.Test.YtgikmpgpccfiiaaPSxpx0
import Derived.Test.YtgikmpgpccfiiaaGPSxpx27toPSxpx32
import Derived.Shelf.Strings.BuilderK
import Derived.Shelf.Strings.OnBuilder
namespace Go.Proofs.Ytgikmpgpccfiiaa.PSxp
open Go.RowKit Go.Proofs.YtgikmpgpccfiiaaW.PrintWords Go.Proofs.YtgikmpgpccfiiaaW.PrintLast Go.Proofs.YtgikmpgpccfiiaaW.PrintMore
attribute [local go_sem] max2_int min2_int max_two min_two max_three min_three max_four min_four   -- for this text's walks alone
set_option linter.unusedVariables false
set_option linter.unusedSimpArgs false

-- BY HAND: alidade/sexp.Show: function 37
-- IMPORT Derived.Shelf.Strings.BuilderK
-- IMPORT Derived.Shelf.Strings.OnBuilder
def bRen : Go.Shelf.Ren := ⟨fun | 156 => 54 | 165 => 68 | 166 => 69 | 167 => 75 | 169 => 61 | 240 => 78 | 241 => 79 | 276 => 84 | 277 => 85 | n => n, fun | 31 => 37 | 9 => 9 | 3 => 3 | 4 => 4 | 0 => 0 | 20 => 20 | 72 => 103 | 76 => 112 | 70 => 101 | 37 => 36 | 75 => 111 | 127 => 120 | 164 => 126 | 5 => 5 | 80 => 105 | n => n, fun | n => n⟩
theorem bLays : Go.Proofs.Lays.n156 Try.prog bRen := {
 mixed := by kernel_rfl
 f156 := Try.func54.trans (congrArg some (by kernel_rfl))
 f165 := Try.func68.trans (congrArg some (by kernel_rfl))
 f166 := Try.func69.trans (congrArg some (by kernel_rfl))
 f169 := Try.func61.trans (congrArg some (by kernel_rfl))
 f240 := Try.func78.trans (congrArg some (by kernel_rfl))
 f241 := Try.func79.trans (congrArg some (by kernel_rfl))
 f276 := Try.func84.trans (congrArg some (by kernel_rfl))
 f277 := Try.func85.trans (congrArg some (by kernel_rfl))
 t0 := Try.underlying0
 a0 := Try.isAgg0
 z0 := Try.sizeOf0
 v0 := Try.zeroValue0
 t3 := Try.underlying3
 a3 := Try.isAgg3
 z3 := Try.sizeOf3
 v3 := Try.zeroValue3
 t4 := Try.underlying4
 a4 := Try.isAgg4
 z4 := Try.sizeOf4
 v4 := Try.zeroValue4
 t9 := Try.underlying9
 a9 := Try.isAgg9
 z9 := Try.sizeOf9
 v9 := Try.zeroValue9
 t20 := Try.underlying20
 a20 := Try.isAgg20
 z20 := Try.sizeOf20
 v20 := Try.zeroValue20
 t31 := Try.underlying37
 a31 := Try.isAgg37
 z31 := Try.sizeOf37
 v31 := Try.zeroValue37
 t37 := Try.underlying36
 a37 := Try.isAgg36
 z37 := Try.sizeOf36
 v37 := Try.zeroValue36
 t70 := Try.underlying101
 a70 := Try.isAgg101
 z70 := Try.sizeOf101
 v70 := Try.zeroValue101
 t72 := Try.underlying103
 a72 := Try.isAgg103
 z72 := Try.sizeOf103
 v72 := Try.zeroValue103
 t75 := Try.underlying111
 a75 := Try.isAgg111
 z75 := Try.sizeOf111
 v75 := Try.zeroValue111
 t76 := Try.underlying112
 a76 := Try.isAgg112
 z76 := Try.sizeOf112
 v76 := Try.zeroValue112
 t127 := Try.underlying120
 a127 := Try.isAgg120
 z127 := Try.sizeOf120
 v127 := Try.zeroValue120
 t164 := Try.underlying126
 a164 := Try.isAgg126
 z164 := Try.sizeOf126
 v164 := Try.zeroValue126 }
theorem bExtra : Go.Proofs.Builder.Extra Try.prog bRen := {
 sizeBuilder := by kernel_rfl
 liesBuilder := by kernel_rfl
 t5 := Try.underlying5
 a5 := Try.isAgg5
 z5 := Try.sizeOf5
 v5 := Try.zeroValue5
 infoByte := by kernel_rfl
 cellsByte := by kernel_rfl
 sizeByte := by kernel_rfl
 neB5 := by decide }
theorem bL166 : Go.Proofs.Lays.n166 Try.prog bRen := { bLays with }
theorem bL169 : Go.Proofs.Lays.n169 Try.prog bRen := { bLays with }
theorem bL167 : Go.Proofs.Lays.n167 Try.prog bRen := { bLays with
 f167 := Try.func75.trans (congrArg some (by kernel_rfl))
 t5 := Try.underlying5
 a5 := Try.isAgg5
 z5 := Try.sizeOf5
 v5 := Try.zeroValue5 }
theorem b_WriteString (B b : Nat) (bs : List Value) (s : ByteArray) (w : World) (h : Go.Lib.IsBuilderF 103 5 B b bs w) (hlen : bs.length + s.size ≤ 140737488355328) (hBw : B ≤ w.heap.size) :
  Calls Try.prog 69 #[.pointer (some ⟨b, 0, none⟩), .string s] w fun e w' => e = .returned (.tuple #[.int .i64 s.size, .nilIface]) ∧ (Go.Lib.IsBuilderF 103 5 B b (bs ++ Go.Lib.strCells s) w' ∧ Below B w w' ∧ Go.Lib.OthersKept 5 (some b) w w') :=
 (Go.Proofs.Any.Builder_WriteString_k bL166 bExtra B b bs s w h hlen hBw).mono fun e w' ⟨h1, h2, h3, h4⟩ => ⟨h1, .inr h2, h3, h4⟩
theorem b_WriteByte (B b : Nat) (bs : List Value) (c : Int) (w : World) (h : Go.Lib.IsBuilderF 103 5 B b bs w) (hlen : bs.length + 1 ≤ 140737488355328) (hBw : B ≤ w.heap.size) :
  Calls Try.prog 75 #[.pointer (some ⟨b, 0, none⟩), .int .u8 c] w fun e w' => e = .returned .nilIface ∧ (Go.Lib.IsBuilderF 103 5 B b (bs ++ [.int .u8 c]) w' ∧ Below B w w' ∧ Go.Lib.OthersKept 5 (some b) w w') :=
 (Go.Proofs.Any.Builder_WriteByte_k bL167 bExtra B b bs c w h hlen hBw).mono fun e w' ⟨h1, h2, h3, h4⟩ => ⟨h1, .inr h2, h3, h4⟩
theorem b_String (B b : Nat) (l : List UInt8) (w : World) (h : Go.Lib.IsBuilderF 103 5 B b (Go.Lib.byteCells l) w) (hBw : B ≤ w.heap.size) :
  Calls Try.prog 61 #[.pointer (some ⟨b, 0, none⟩)] w fun e w' => e = .returned (.string ⟨l.toArray⟩) ∧ (Go.Lib.IsBuilderF 103 5 B b (Go.Lib.byteCells l) w' ∧ Below B w w' ∧ Go.Lib.OthersKept 5 (some b) w w') :=
 Go.Proofs.Any.Builder_String_any_k bL169 bExtra B b l w h hBw
/-! ### what is shown -/
mutual
def sexp_writeL : Nat → S51 → Option (List UInt8)
 | 0, _ => none
 | k + 1, x => if x.f0 = 0 then (sexp_writeKids k true x.f3).bind fun bs => some (x.f2.data.toList ++ ([40] ++ (bs ++ [41]))) else some x.f2.data.toList
def sexp_writeKids : Nat → Bool → List S51 → Option (List UInt8)
 | 0, _, _ => none
 | _ + 1, _, [] => some []
 | k + 1, first, x :: r => (sexp_writeL k x).bind fun a => (sexp_writeKids k false r).bind fun b => some ((if first = true then [] else [32]) ++ (a ++ b))
end
theorem sexp_write_mono : ∀ k, (∀ x, LeO (sexp_writeL k x) (sexp_writeL (k + 1) x)) ∧ (∀ f l, LeO (sexp_writeKids k f l) (sexp_writeKids (k + 1) f l))
 | 0 => ⟨fun _ r h => by simp [sexp_writeL] at h, fun _ _ r h => by simp [sexp_writeKids] at h⟩
 | k + 1 => by
  obtain ⟨ih0, ih1⟩ := sexp_write_mono k
  refine ⟨fun x => ?_, fun f l => ?_⟩
  ·unfold sexp_writeL
   exact LeO.ite (LeO.bind (ih1 _ _) (fun _ => LeO.refl _)) (LeO.refl _)
  ·cases l with
   | nil => unfold sexp_writeKids; exact LeO.refl _
   | cons x r =>
    unfold sexp_writeKids
    exact LeO.bind (ih0 _) (fun _ => LeO.bind (ih1 _ _) (fun _ => LeO.refl _))
theorem byteCells_app (a b : List UInt8) : Go.Lib.byteCells (a ++ b) = Go.Lib.byteCells a ++ Go.Lib.byteCells b := by simp [Go.Lib.byteCells]
theorem kept_blk {w w' : World} {b k : Nat} {cs : Array Value} {t : TypeId} {fz : Nat × Nat} (h : Go.Lib.OthersKept 5 (some b) w w') (hk : w.heap[k]? = some (.cells cs t fz)) (hb : k ≠ b) (ht : t ≠ 5) : w'.heap[k]? = some (.cells cs t fz) :=
 h k _ hk (fun e => hb (by injection e)) (fun c f e => ht (by injection e))
set_option maxRecDepth 100000 in
set_option maxHeartbeats 8000000 in
theorem sexp_write_calls (k : Nat) : ∀ (x : S51) (A3 : Option Addr) (c3 : Nat) (out bs : List UInt8) (W0 w : World) (b : Nat), sexp_writeL k x = some out → Kd.C k51 W0 A3 x.f3.length x.f3 → x.f3.length ≤ c3 → Below W0.heap.size W0 w → Go.Lib.IsBuilderF 103 5 W0.heap.size b (Go.Lib.byteCells bs) w → bs.length + out.length ≤ 140737488355328 →
  Calls Try.prog 60 #[.pointer (some ⟨b, 0, none⟩), .agg #[.int .u8 x.f0, .int .i64 x.f1, .string x.f2, .slice A3 x.f3.length c3]] w fun e w' => e = .returned (.tuple #[]) ∧ Go.Lib.IsBuilderF 103 5 W0.heap.size b (Go.Lib.byteCells (bs ++ out)) w' ∧ Below W0.heap.size W0 w' ∧ Go.Lib.OthersKept 5 (some b) w w' := by
 induction k using Nat.strongRecOn with
 | _ k ih =>
 intro x A3 c3 out bs W0 w b h hC hc hb0 hB hlen
 cases k with
 | zero => exact absurd h (by simp [sexp_writeL])
 | succ k =>
 rw [sexp_writeL] at h
 obtain ⟨n, hn⟩ : ∃ n, n = w.heap.size := ⟨_, rfl⟩
 have hbox : (w.alloc (.cells #[.int .u8 x.f0, .int .i64 x.f1, .string x.f2, .slice A3 x.f3.length c3] 51)).heap[n]? = some (.cells #[.int .u8 x.f0, .int .i64 x.f1, .string x.f2, .slice A3 x.f3.length c3] 51 (0, 0)) := by rw [hn]; exact blk_new w _
 have hblt : b < w.heap.size := by
  rcases hB with hB | hB
  ·exact hB.lt
  ·exact hB.lt
 have hnb : n ≠ b := by omega
 have hsz := hb0.size
 have hB1 := Go.Lib.IsBuilderF.alloc hB (.cells #[.int .u8 x.f0, .int .i64 x.f1, .string x.f2, .slice A3 x.f3.length c3] 51)
 have hbel := hb0.alloc hsz (.cells #[.int .u8 x.f0, .int .i64 x.f1, .string x.f2, .slice A3 x.f3.length c3] 51)
 have hkp := (Go.Lib.OthersKept.refl 5 (some b) w).alloc (.cells #[.int .u8 x.f0, .int .i64 x.f1, .string x.f2, .slice A3 x.f3.length c3] 51)
 have HIH := Aside0.mk ih
 have HN := Aside0.mk hnb
 have hlt : bs.length + x.f2.size ≤ 140737488355328 := by
  by_cases c : x.f0 = 0
  ·rw [if_pos c] at h
   obtain ⟨q, _, hq⟩ := Option.bind_eq_some_iff.mp h
   have hq' := Option.some.inj hq
   have : out.length = x.f2.size + (1 + (q.length + 1)) := by
    rw [← hq', List.length_append, List.length_append, List.length_append, List.length_singleton, List.length_singleton]
    rfl
   omega
  ·rw [if_neg c] at h
   have hq' := Option.some.inj h
   have : out.length = x.f2.size := by rw [← hq']; rfl
   omega
 have HW1 := Aside0.mk (b_WriteString W0.heap.size b (Go.Lib.byteCells bs) x.f2 _ hB1 (by rw [Go.Lib.byteCells_length]; exact hlt) hbel.size)
 clear ih hnb hlt hB1
 go_enter Try.func60, Try.ntmps60
 go_upto_region 1 with (fail)
 rw [← hn]
 generalize hw0 : w.alloc (.cells #[.int .u8 x.f0, .int .i64 x.f1, .string x.f2, .slice A3 x.f3.length c3] 51) = w0 at hbox hbel hkp HW1 ⊢
 have a2 : w0.cell? ⟨n, 2, none⟩ = some (.string x.f2) := (blk_cell hbox 2).trans rfl
 have HBOX := Aside0.mk hbox
 have HBEL := Aside0.mk hbel
 have HKP := Aside0.mk hkp
 have HH := Aside0.mk h
 have HC := Aside0.mk hC
 have HC3 := Aside0.mk hc
 have HLEN := Aside0.mk hlen
 clear hw0 hbox hbel hkp h hC hc hlen hb0 hB hsz hblt hn
 go_upto_region 2 with (go_at_call 69; refine HW1.out.mono ?_; rintro e w1 ⟨rfl, hB2, hb2, hk2⟩)
 have e1 : Go.Lib.byteCells bs ++ Go.Lib.strCells x.f2 = Go.Lib.byteCells (bs ++ x.f2.data.toList) := by rw [byteCells_app]; rfl
 rw [e1] at hB2
 have hbx1 := kept_blk hk2 HBOX.out HN.out (by decide)
 have a0 : w1.cell? ⟨n, 0, none⟩ = some (.int .u8 x.f0) := (blk_cell hbx1 0).trans rfl
 have HB2 := Aside0.mk hB2
 have HBE2 := Aside0.mk (HBEL.out.trans hb2)
 have HK2 := Aside0.mk (HKP.out.trans hk2)
 have HBX1 := Aside0.mk hbx1
 have hh := HH.out
 clear hB2 hb2 hk2 hbx1 e1 a2 HW1
 by_cases c : x.f0 = 0
 ·rw [if_pos c] at hh
  obtain ⟨q, hq, hh⟩ := Option.bind_eq_some_iff.mp hh
  have hout := Option.some.inj hh
  have c0 : (x.f0 != 0) = false := bne_eq_false_iff_eq.mpr c
  have HQ := Aside0.mk hq
  have HOUT := Aside0.mk hout
  have hl : bs.length + (x.f2.data.toList.length + (1 + (q.length + 1))) ≤ 140737488355328 := by
   have := HLEN.out
   rw [← hout, List.length_append, List.length_append, List.length_append, List.length_singleton, List.length_singleton] at this
   exact this
  have HL := Aside0.mk hl
  have HW2 := Aside0.mk (b_WriteByte W0.heap.size b (Go.Lib.byteCells (bs ++ x.f2.data.toList)) 40 w1 HB2.out (by rw [Go.Lib.byteCells_length, List.length_append]; omega) HBE2.out.size)
  clear c hq hh hout hl HH
  go_upto_region 4 with (go_at_call 75; refine HW2.out.mono ?_; rintro e w2 ⟨rfl, hB3, hb3, hk3⟩)
  have e1 : Go.Lib.byteCells (bs ++ x.f2.data.toList) ++ [.int .u8 40] = Go.Lib.byteCells (bs ++ x.f2.data.toList ++ [40]) := by rw [byteCells_app (bs ++ x.f2.data.toList)]; rfl
  rw [e1] at hB3
  have hbx2 := kept_blk hk3 HBX1.out HN.out (by decide)
  have a3 : w2.cell? ⟨n, 3, none⟩ = some (.slice A3 x.f3.length c3) := (blk_cell hbx2 3).trans rfl
  have HB3 := Aside0.mk hB3
  have HBE3 := Aside0.mk (HBE2.out.trans hb3)
  have HK3 := Aside0.mk (HK2.out.trans hk3)
  clear hB3 hb3 hk3 hbx2 e1 a0 HW2 HB2 HBE2 HK2
  go_wp2
  go_loopw [18] (fun i wr => ∃ (j : Int) (kq : Nat) (dn rest : List UInt8), i = .int .i64 j ∧ Aside0 (0 ≤ j ∧ j ≤ (x.f3.length : Int)) ∧ Aside0 (kq ≤ k) ∧ Aside0 (sexp_writeKids kq (decide (j = 0)) (x.f3.drop j.toNat) = some rest) ∧ Aside0 (q = dn ++ rest) ∧ Aside0 (Go.Lib.IsBuilderF 103 5 W0.heap.size b (Go.Lib.byteCells (bs ++ x.f2.data.toList ++ [40] ++ dn)) wr) ∧ Aside0 (Below W0.heap.size W0 wr) ∧ Aside0 (Go.Lib.OthersKept 5 (some b) w wr)) (fun i _ => x.f3.length - (intOf i).toNat)
  case atStart => exact ⟨0, k, [], q, rfl, ⟨by omega⟩, ⟨Nat.le_refl _⟩, HQ, ⟨rfl⟩, ⟨by rw [List.append_nil]; exact HB3.out⟩, HBE3, HK3⟩
  case round =>
   obtain ⟨j, kq, dn, rest, rfl, hj, hk, hr, hd, hBr, hbr, hkr⟩ := hrel
   clear HB3 HBE3 HK3 a3
   cases kq with
   | zero => exact absurd hr.out (by simp [sexp_writeKids])
   | succ kq =>
   have hr' := hr.out
   by_cases c : j < (x.f3.length : Int)
   ·have p0 : 0 ≤ j := hj.out.1
    have hjl : j.toNat < x.f3.length := by omega
    obtain ⟨ad, A4, c4, e0, h00, h01, h02, h03, hl3, hg3⟩ := at_T51 HC.out j p0 c
    subst e0
    have hy : rd_T51 x.f3 j = x.f3[j.toNat] := by
     unfold rd_T51
     rw [List.getD_eq_getElem?_getD, List.getElem?_eq_getElem hjl]; rfl
    rw [List.drop_eq_getElem_cons hjl, ← hy, sexp_writeKids] at hr'
    obtain ⟨y, hyy⟩ : ∃ y, y = rd_T51 x.f3 j := ⟨_, rfl⟩
    rw [← hyy] at hr' h00 h01 h02 h03 hl3 hg3
    obtain ⟨oa, ha, hr'⟩ := Option.bind_eq_some_iff.mp hr'
    obtain ⟨ob, hob, hr'⟩ := Option.bind_eq_some_iff.mp hr'
    have hrest := Option.some.inj hr'
    replace h00 := (hbr.out.cell (World.block_lt_of_cell? W0 _ h00)).trans h00
    replace h01 := (hbr.out.cell (World.block_lt_of_cell? W0 _ h01)).trans h01
    replace h02 := (hbr.out.cell (World.block_lt_of_cell? W0 _ h02)).trans h02
    replace h03 := (hbr.out.cell (World.block_lt_of_cell? W0 _ h03)).trans h03
    have hrl : q.length = dn.length + ((if decide (j = 0) = true then ([] : List UInt8) else [32]).length + (oa.length + ob.length)) := by rw [hd.out, List.length_append, ← hrest, List.length_append, List.length_append]
    have c' : decide (j < (x.f3.length : Int)) = true := decide_eq_true c
    have HCJ := Aside0.mk c
    have HREST := Aside0.mk hrest
    have HOB := Aside0.mk hob
    have HA4 := Aside0.mk (And.intro ha (And.intro hg3 hl3))
    have HRL := Aside0.mk hrl
    have hw : wrap64 (j + 1) = j + 1 := by have := HC.out.2.1; have := hj.out; unfold wrap64; omega
    have HWJ := Aside0.mk hw
    replace c := eq_true c
    replace p0 := eq_true p0
    clear hr' ha hob hrest hrl hw hy hyy hg3 hl3 hr
    go_upto_region 7 with (fail)
    have hblt : b < wr.heap.size := by
     rcases hBr.out with hB | hB
     ·exact hB.lt
     ·exact hB.lt
    obtain ⟨nk, hnk⟩ : ∃ nk, nk = wr.heap.size := ⟨_, rfl⟩
    have hbox : (wr.alloc (.cells #[.int .u8 y.f0, .int .i64 y.f1, .string y.f2, .slice A4 y.f3.length c4] 51)).heap[nk]? = some (.cells #[.int .u8 y.f0, .int .i64 y.f1, .string y.f2, .slice A4 y.f3.length c4] 51 (0, 0)) := by rw [hnk]; exact blk_new wr _
    have HNK := Aside0.mk (show nk ≠ b by omega)
    have HB5 := Aside0.mk (Go.Lib.IsBuilderF.alloc hBr.out (.cells #[.int .u8 y.f0, .int .i64 y.f1, .string y.f2, .slice A4 y.f3.length c4] 51))
    have HBE5 := Aside0.mk (hbr.out.alloc hbr.out.size (.cells #[.int .u8 y.f0, .int .i64 y.f1, .string y.f2, .slice A4 y.f3.length c4] 51))
    have HK5 := Aside0.mk (hkr.out.alloc (.cells #[.int .u8 y.f0, .int .i64 y.f1, .string y.f2, .slice A4 y.f3.length c4] 51))
    rw [← hnk]
    clear h00 h01 h02 h03 hblt hnk
    generalize hwk : wr.alloc (.cells #[.int .u8 y.f0, .int .i64 y.f1, .string y.f2, .slice A4 y.f3.length c4] 51) = wk at hbox HB5 HBE5 HK5 ⊢
    have HBX5 := Aside0.mk hbox
    clear hwk hbox
    by_cases cz : j = 0
    case' pos =>
     have cz1 : decide (j > 0) = false := decide_eq_false (by omega)
     have cz2 : (0 < j) = False := eq_false (by omega)
     obtain ⟨pre, hpre⟩ : ∃ pre : List UInt8, pre = [] := ⟨_, rfl⟩
     have HPRE := Aside0.mk (show (if decide (j = 0) = true then ([] : List UInt8) else [32]) = pre by rw [hpre, decide_eq_true cz]; rfl)
     have HB6 : Aside0 (Go.Lib.IsBuilderF 103 5 W0.heap.size b (Go.Lib.byteCells (bs ++ x.f2.data.toList ++ [40] ++ dn ++ pre)) wk) := Aside0.mk (by rw [hpre, List.append_nil]; exact HB5.out)
     clear cz hpre HB5
     go_upto_region 9 with (fail)
    case' neg =>
     have cz1 : decide (j > 0) = true := decide_eq_true (by have := hj.out; omega)
     have cz2 : (0 < j) = True := eq_true (by have := hj.out; omega)
     obtain ⟨pre, hpre⟩ : ∃ pre : List UInt8, pre = [32] := ⟨_, rfl⟩
     have HPRE := Aside0.mk (show (if decide (j = 0) = true then ([] : List UInt8) else [32]) = pre by rw [hpre, decide_eq_false cz]; rfl)
     have HW5 := Aside0.mk (b_WriteByte W0.heap.size b (Go.Lib.byteCells (bs ++ x.f2.data.toList ++ [40] ++ dn)) 32 wk HB5.out (by
      rw [Go.Lib.byteCells_length, List.length_append, List.length_append, List.length_append, List.length_singleton]
      have := HL.out
      have h2 := HRL.out
      rw [HPRE.out, hpre, List.length_singleton] at h2
      omega) HBE5.out.size)
     clear cz
     go_upto_region 9 with (go_at_call 75; refine HW5.out.mono ?_; rintro e w3 ⟨rfl, hB4, hb4, hk4⟩)
     have e1 : Go.Lib.byteCells (bs ++ x.f2.data.toList ++ [40] ++ dn) ++ [.int .u8 32] = Go.Lib.byteCells (bs ++ x.f2.data.toList ++ [40] ++ dn ++ pre) := by rw [byteCells_app (bs ++ x.f2.data.toList ++ [40] ++ dn), hpre]; rfl
     rw [e1] at hB4
     have HB6 := Aside0.mk hB4
     have hbx6 := kept_blk hk4 HBX5.out HNK.out (by decide)
     have hbe6 := HBE5.out.trans hb4
     have hk6 := HK5.out.trans hk4
     clear HBX5 HBE5 HK5 HB5 hpre e1 hB4 hb4 hk4 HW5
     have HBX5 := Aside0.mk hbx6
     have HBE5 := Aside0.mk hbe6
     have HK5 := Aside0.mk hk6
     clear hbx6 hbe6 hk6
     generalize w3 = wk at *
    all_goals
     have b0 : wk.cell? ⟨nk, 0, none⟩ = some (.int .u8 y.f0) := (blk_cell HBX5.out 0).trans rfl
     have b1 : wk.cell? ⟨nk, 1, none⟩ = some (.int .i64 y.f1) := (blk_cell HBX5.out 1).trans rfl
     have b2 : wk.cell? ⟨nk, 2, none⟩ = some (.string y.f2) := (blk_cell HBX5.out 2).trans rfl
     have b3 : wk.cell? ⟨nk, 3, none⟩ = some (.slice A4 y.f3.length c4) := (blk_cell HBX5.out 3).trans rfl
     have HCALL := Aside0.mk (HIH.out kq (by have := hk.out; omega) y A4 c4 oa (bs ++ x.f2.data.toList ++ [40] ++ dn ++ pre) W0 wk b HA4.out.1 HA4.out.2.1 HA4.out.2.2 HBE5.out HB6.out (by
      have h1 := HL.out
      have h2 := HRL.out
      rw [HPRE.out] at h2
      simp only [List.length_append, List.length_singleton]
      omega))
     go_wp2_with (go_at_call 60; refine HCALL.out.mono ?_; rintro e w5 ⟨rfl, hB7, hb7, hk7⟩)
     have hjt : (j + 1).toNat = j.toNat + 1 := by have := hj.out; omega
     have hne : decide (j + 1 = 0) = false := decide_eq_false (by have := hj.out; omega)
     have HF := Aside0.mk (And.intro hjt hne)
     have HB8 := Aside0.mk hB7
     have HK8 := Aside0.mk (HK5.out.trans hk7)
     have HBE8 := Aside0.mk hb7
     clear hjt hne hB7 hb7 hk7 b0 b1 b2 b3
     go_roundw
     case rel => exact ⟨j + 1, kq, dn ++ pre ++ oa, ob, by rw [HWJ.out], ⟨by have := hj.out; have := HCJ.out; omega⟩, ⟨by have := hk.out; omega⟩, ⟨by rw [HF.out.1, HF.out.2]; exact HOB.out⟩, ⟨by rw [hd.out, ← HREST.out, HPRE.out]; simp only [List.append_assoc]⟩, ⟨by have := HB8.out; simpa only [List.append_assoc] using this⟩, HBE8, HK8⟩
     case measure =>
      simp [intOf]
      rw [HWJ.out]
      have := hj.out
      have := HCJ.out
      omega
   ·have c' : decide (j < (x.f3.length : Int)) = false := decide_eq_false c
    have hdr : x.f3.drop j.toNat = [] := List.drop_eq_nil_of_le (by have := hj.out; omega)
    rw [hdr, sexp_writeKids] at hr'
    have hre := Option.some.inj hr'
    have hqd : q = dn := by rw [hd.out, ← hre, List.append_nil]
    have HQD := Aside0.mk hqd
    have HW4 := Aside0.mk (b_WriteByte W0.heap.size b (Go.Lib.byteCells (bs ++ x.f2.data.toList ++ [40] ++ dn)) 41 wr hBr.out (by rw [Go.Lib.byteCells_length, List.length_append, List.length_append, List.length_append, ← hqd, List.length_singleton]; have := HL.out; omega) hbr.out.size)
    replace c := eq_false c
    clear hr' hdr hre hqd
    go_wp2_with (go_at_call 75; refine HW4.out.mono ?_; rintro e w3 ⟨rfl, hB4, hb4, hk4⟩)
    go_end0
    refine ⟨rfl, ?_, hbr.out.trans hb4, hkr.out.trans hk4⟩
    have e1 : Go.Lib.byteCells (bs ++ x.f2.data.toList ++ [40] ++ dn) ++ [.int .u8 41] = Go.Lib.byteCells (bs ++ out) := by
     rw [← HOUT.out, HQD.out]
     have : bs ++ (x.f2.data.toList ++ ([40] ++ (dn ++ [41]))) = (bs ++ x.f2.data.toList ++ [40] ++ dn) ++ [41] := by simp [List.append_assoc]
     rw [this, byteCells_app (bs ++ x.f2.data.toList ++ [40] ++ dn)]
     rfl
    rw [e1] at hB4
    exact hB4
 ·rw [if_neg c] at hh
  have hout := Option.some.inj hh
  have c0 : (x.f0 != 0) = true := bne_iff_ne.mpr c
  have HOUT := Aside0.mk hout
  clear c hh hout
  go_wp2
  refine bodyPost_ret (results_none rfl _ _ _) rfl ?_
  exact ⟨rfl, by rw [← HOUT.out]; exact HB2.out, HBE2.out, HK2.out⟩
/-! ### Show -/
def sexp_Show.f (k : Nat) (a0_0 : Int) (a0_1 : Int) (a0_2 : ByteArray) (l0_3 : List (S51)) : Option ByteArray :=
 (sexp_May.f k a0_0 a0_1 a0_2 l0_3).bind fun m => if m = true then (sexp_writeL k ⟨a0_0, a0_1, a0_2, l0_3⟩).bind fun out => if out.length ≤ 140737488355328 then some ⟨out.toArray⟩ else none else some ⟨#[]⟩
theorem sexp_Show.mono (a0_0 : Int) (a0_1 : Int) (a0_2 : ByteArray) (l0_3 : List (S51)) (k : Nat) : LeO (sexp_Show.f k a0_0 a0_1 a0_2 l0_3) (sexp_Show.f (k + 1) a0_0 a0_1 a0_2 l0_3) :=
 LeO.bind (sexp_May.mono _ _ _ _ _) (fun _ => LeO.ite (LeO.bind ((sexp_write_mono k).1 _) (fun _ => LeO.refl _)) (LeO.refl _))
set_option maxRecDepth 100000 in
set_option maxHeartbeats 8000000 in
theorem sexp_Show.calls (k : Nat) (a0_0 : Int) (a0_1 : Int) (a0_2 : ByteArray) (A0_3 : Option Addr) (c0_3 : Nat) (l0_3 : List (S51)) (r : ByteArray) (w : World) (hr0_3 : Kd.C k51 w A0_3 l0_3.length l0_3) (hc0_3 : l0_3.length ≤ c0_3) (h : sexp_Show.f k a0_0 a0_1 a0_2 l0_3 = some r) :
  Calls Try.prog 37 #[.agg #[.int .u8 a0_0, .int .i64 a0_1, .string a0_2, .slice A0_3 l0_3.length c0_3]] w fun e w' => e = .returned (.string r) ∧ Below w.heap.size w w' := by
 rw [sexp_Show.f] at h
 obtain ⟨m, hm, h⟩ := Option.bind_eq_some_iff.mp h
 have HA := Aside0.mk (fun (o : Obj) => (Below.refl w.heap.size w).alloc (Nat.le_refl _) o)
 have HX := Aside0.mk (fun W (hW : Below w.heap.size w W) => sexp_May.calls k a0_0 a0_1 a0_2 A0_3 c0_3 l0_3 m W (Kd.C_below hr0_3 hW) hc0_3 hm)
 have HR := Aside0.mk (And.intro hr0_3 hc0_3)
 have HH := Aside0.mk h
 clear h hm hr0_3 hc0_3
 obtain ⟨n, hn⟩ : ∃ n, n = w.heap.size := ⟨_, rfl⟩
 have HB0 := Aside0.mk (blk_new w (.cells #[.int .u8 a0_0, .int .i64 a0_1, .string a0_2, .slice A0_3 l0_3.length c0_3] 51))
 go_enter Try.func37, Try.ntmps37
 go_upto_region 1 with (fail)
 rw [← hn] at HB0 ⊢
 generalize hw0 : w.alloc (.cells #[.int .u8 a0_0, .int .i64 a0_1, .string a0_2, .slice A0_3 l0_3.length c0_3] 51) = w0 at HB0 ⊢
 have HBE := Aside0.mk (hw0 ▸ HA.out (.cells #[.int .u8 a0_0, .int .i64 a0_1, .string a0_2, .slice A0_3 l0_3.length c0_3] 51) : Below w.heap.size w w0)
 have HN := Aside0.mk hn
 have HNL := Aside0.mk (show n < w0.heap.size by rw [← hw0, hn, World.size_alloc]; omega)
 have a0 : w0.cell? ⟨n, 0, none⟩ = some (.int .u8 a0_0) := (blk_cell HB0.out 0).trans rfl
 have a1 : w0.cell? ⟨n, 1, none⟩ = some (.int .i64 a0_1) := (blk_cell HB0.out 1).trans rfl
 have a2 : w0.cell? ⟨n, 2, none⟩ = some (.string a0_2) := (blk_cell HB0.out 2).trans rfl
 have a3 : w0.cell? ⟨n, 3, none⟩ = some (.slice A0_3 l0_3.length c0_3) := (blk_cell HB0.out 3).trans rfl
 clear hw0 HA hn
 cases m with
 | false =>
  go_wp2_with (go_at_call 24; refine (HX.out _ HBE.out).mono ?_; rintro e w1 ⟨rfl, hb1⟩)
  go_ret
  have := HH.out
  rw [if_neg (by decide)] at this
  obtain rfl := Option.some.inj this
  exact ⟨rfl, below_step HBE.out hb1⟩
 | true =>
  have hh := HH.out
  rw [if_pos rfl] at hh
  obtain ⟨out, hout, hh⟩ := Option.bind_eq_some_iff.mp hh
  by_cases hl : out.length ≤ 140737488355328
  ·rw [if_pos hl] at hh
   obtain rfl := Option.some.inj hh
   have HL := Aside0.mk hl
   have HO := Aside0.mk hout
   clear hh hl hout HH
   try clear hh
   try clear h
   go_upto_region 3 with (go_at_call 24; refine (HX.out _ HBE.out).mono ?_; rintro e w1 ⟨rfl, hb1⟩)
   have HBE1 := Aside0.mk (below_step HBE.out hb1)
   have hbx1 : w1.heap[n]? = some (.cells #[.int .u8 a0_0, .int .i64 a0_1, .string a0_2, .slice A0_3 l0_3.length c0_3] 51 (0, 0)) := (hb1.block n HNL.out).trans HB0.out
   have hnb : n < w1.heap.size := Nat.lt_of_lt_of_le HNL.out hb1.size
   have hB : Go.Lib.IsBuilderF 103 5 w1.heap.size w1.heap.size (Go.Lib.byteCells []) (w1.alloc (.cells #[.pointer none, .slice none 0 0] 103)) := (Go.Lib.fresh_isBuilder 103 5 w1).elim (fun h => .inl (.of h)) (fun h => .inr (.of h))
   have hbx2 : (w1.alloc (.cells #[.pointer none, .slice none 0 0] 103)).heap[n]? = some (.cells #[.int .u8 a0_0, .int .i64 a0_1, .string a0_2, .slice A0_3 l0_3.length c0_3] 51 (0, 0)) := (Below.heap_alloc w1 _ n hnb).trans hbx1
   have hB2 : Below w1.heap.size w1 (w1.alloc (.cells #[.pointer none, .slice none 0 0] 103)) := (Below.refl _ _).alloc (Nat.le_refl _) _
   have hC := Kd.C_below HR.out.1 HBE1.out
   go_upto_region 4 with (fail)
   generalize hw2 : w1.alloc (.cells #[.pointer none, .slice none 0 0] 103) = w2 at hB hbx2 hB2 ⊢
   have HCALL : Aside0 (Calls Try.prog 60 #[.pointer (some ⟨w1.heap.size, 0, none⟩), .agg #[.int .u8 a0_0, .int .i64 a0_1, .string a0_2, .slice A0_3 l0_3.length c0_3]] w2 fun e w' => e = .returned (.tuple #[]) ∧ Go.Lib.IsBuilderF 103 5 w1.heap.size w1.heap.size (Go.Lib.byteCells ([] ++ out)) w' ∧ Below w1.heap.size w1 w' ∧ Go.Lib.OthersKept 5 (some w1.heap.size) w2 w') := Aside0.mk (sexp_write_calls k ⟨a0_0, a0_1, a0_2, l0_3⟩ A0_3 c0_3 out [] w1 w2 w1.heap.size HO.out hC HR.out.2 hB2 hB (by rw [List.length_nil]; have := HL.out; omega))
   have b0 : w2.cell? ⟨n, 0, none⟩ = some (.int .u8 a0_0) := (blk_cell hbx2 0).trans rfl
   have b1 : w2.cell? ⟨n, 1, none⟩ = some (.int .i64 a0_1) := (blk_cell hbx2 1).trans rfl
   have b2 : w2.cell? ⟨n, 2, none⟩ = some (.string a0_2) := (blk_cell hbx2 2).trans rfl
   have b3 : w2.cell? ⟨n, 3, none⟩ = some (.slice A0_3 l0_3.length c0_3) := (blk_cell hbx2 3).trans rfl
   have HB2 := Aside0.mk hB2
   clear hw2 hbx1 hnb hB hbx2 hB2 hC a0 a1 a2 a3 hb1
   go_upto_region 5 with (go_at_call 60; refine HCALL.out.mono ?_; rintro e w3 ⟨rfl, hB3, hb3, hk3⟩)
   have HS := Aside0.mk (b_String w1.heap.size w1.heap.size ([] ++ out) w3 hB3 hb3.size)
   clear HCALL b0 b1 b2 b3 hk3 hB3
   go_wp2_with (go_at_call 61; refine HS.out.mono ?_; rintro e w4 ⟨rfl, hB4, hb4, hk4⟩)
   go_ret
   exact ⟨rfl, below_step HBE1.out (hb3.trans hb4)⟩
  ·rw [if_neg hl] at hh
   exact absurd hh (by simp)

end Go.Proofs.Ytgikmpgpccfiiaa.PSxp
