/- SexpReads: walks by hand (Spent). -/
import Derived.Test.YtgikmpgpccfiiaaPSxpx0
import Derived.Test.YtgikmpgpccfiiaaPSxpx25
namespace Go.Proofs.Ytgikmpgpccfiiaa.PSxp
open Go.RowKit Go.Proofs.YtgikmpgpccfiiaaW.PrintWords Go.Proofs.YtgikmpgpccfiiaaW.PrintLast Go.Proofs.YtgikmpgpccfiiaaW.PrintMore
attribute [local go_sem] max2_int min2_int max_two min_two max_three min_three max_four min_four   -- for this text's walks alone
set_option linter.unusedVariables false
set_option linter.unusedSimpArgs false
/-! ### what a meter has spent -/
def mcy (deep sp : Int) (y : Value) : Array Value := #[.int .i64 0, .int .i64 0, .int .i64 0, .int .i64 deep, .int .i64 0, .int .i64 0, .int .i64 0, .int .i64 sp, y]
def rdM (deep len : Int) : Int → List S32 → List (Int × List S51) → ((List S51) × Int × Int) × Int
 | sp, [], fs => if 1 < fs.length then (([], len, 4), sp) else (((fs.headD (0, [])).2, 0, 0), sp)
 | sp, w :: ws, fs =>
  if w.f0 = 1 then (if (fs.length : Int) > deep then (([], w.f1, 46), sp) else rdM deep len (mx sp (fs.length : Int)) ws (fs ++ [(w.f1, [])]))
  else if w.f0 = 2 then (if fs.length = 1 then (([], w.f1, 4), sp) else rdM deep len sp ws (addK fs.dropLast ⟨0, (fs.getLastD (0, [])).1, ⟨#[]⟩, (fs.getLastD (0, [])).2⟩))
  else rdM deep len sp ws (addK fs ⟨w.f0, w.f1, w.f3, []⟩)
theorem use_spent (g : Nat) (n deep sp : Int) (s : ByteArray) (w : World) (hm : w.heap[g]? = some (.cells (mc deep sp) 98 (0, 0))) (hle : n ≤ deep) :
  Calls Try.prog 74 #[.pointer (some ⟨g, 0, none⟩), .string s, .pointer (some ⟨g, 7, none⟩), .int .i64 n, .int .i64 deep] w fun e w' => e = .returned (.int .i64 0) ∧ ∃ (m : Nat), w' = (w.setCell ⟨g, 7, none⟩ (.int .i64 (mx sp n))).drewN m := by
 have h7 : w.cell? ⟨g, 7, none⟩ = some (.int .i64 sp) := (blk_cell hm 7).trans rfl
 have f7 := blk_frozen hm 7
 have c : decide (n > deep) = false := decide_eq_false (by omega)
 obtain ⟨s1, hs1⟩ : ∃ s1, (if sp < n then n else sp) = s1 := ⟨_, rfl⟩
 have HS1 := Aside0.mk (show mx sp n = s1 from hs1)
 clear hm hle
 go_enter Try.func74, Try.ntmps74
 go_wp2
 all_goals
  go_ret
  exact ⟨rfl, 0, by rw [HS1.out]; rfl⟩
theorem use_nos (g : Nat) (n deep sp : Int) (s : ByteArray) (B : Nat) (w : World) (hm : w.heap[g]? = some (.cells (mc deep sp) 98 (0, 0))) (hB : B ≤ g) (hle : deep < n) :
  Calls Try.prog 74 #[.pointer (some ⟨g, 0, none⟩), .string s, .pointer (some ⟨g, 7, none⟩), .int .i64 n, .int .i64 deep] w fun e w' => e = .returned (.int .i64 46) ∧ (∃ y : Value, w'.heap[g]? = some (.cells (mcy deep sp y) 98 (0, 0))) ∧ Below B w w' ∧ ∀ k, k < w.heap.size → k ≠ g → w'.heap[k]? = w.heap[k]? := by
 have h8 : w.cell? ⟨g, 8, none⟩ = some (.pointer none) := (blk_cell hm 8).trans rfl
 have f8 := blk_frozen hm 8
 have hg : g < w.heap.size := blk_lt hm
 have HB := Aside0.mk (((Below.refl B w).setCell (p := ⟨g, 8, none⟩) hB (.pointer (some ⟨w.heap.size, 0, none⟩))).alloc (by simp [World.setCell]; omega) (.cells #[.string s, .int .i64 deep] 124))
 have HMM := Aside0.mk hm
 have c : decide (n > deep) = true := decide_eq_true (by omega)
 clear hm hle
 go_enter Try.func74, Try.ntmps74
 go_wp2
 go_ret
 refine ⟨rfl, ⟨_, blk_alloc (blk_put HMM.out 8 _ rfl) _⟩, HB.out, fun k hk hne => ?_⟩
 rw [Below.heap_alloc _ _ _ (by simpa [World.setCell] using hk)]
 exact heap_setCell_other w _ k _ hne
set_option maxRecDepth 100000 in
set_option maxHeartbeats 2000000 in
theorem Deep_spent (g : Nat) (n deep sp : Int) (B : Nat) (w : World) (hm : w.heap[g]? = some (.cells (mc deep sp) 98 (0, 0))) (hB : B ≤ g) (hle : n ≤ deep) :
  Calls Try.prog 59 #[.pointer (some ⟨g, 0, none⟩), .int .i64 n] w fun e w' => e = .returned (.int .i64 0) ∧ w'.heap[g]? = some (.cells (mc deep (mx sp n)) 98 (0, 0)) ∧ (∀ k, k ≠ g → w'.heap[k]? = w.heap[k]?) ∧ w'.heap.size = w.heap.size ∧ Below B w w' := by
 have HM := Aside0.mk hm
 have HR := Aside0.mk (ready_calls g deep sp w hm)
 clear hm
 go_enter Try.func59, Try.ntmps59
 go_upto_region 4 with (first | (go_at_call 73; refine HR.out.mono ?_; rintro e w' ⟨rfl, ⟨nd, rfl⟩⟩))
 have hmz : (w.drewN nd).heap[g]? = some (.cells (mc deep sp) 98 (0, 0)) := HM.out
 generalize hwz : w.drewN nd = wz at hmz ⊢
 have HZ := Aside0.mk (show wz.heap = w.heap ∧ Below B w wz by rw [← hwz]; exact ⟨rfl, rfl, rfl, rfl, Nat.le_refl _, fun _ _ => rfl⟩)
 clear hwz
 have h3 : wz.cell? ⟨g, 3, none⟩ = some (.int .i64 deep) := (blk_cell hmz 3).trans rfl
 have HU := Aside0.mk (fun s => use_spent g n deep sp s wz.drew hmz hle)
 have HMZ := Aside0.mk hmz
 clear hmz
 go_still_tail 11, (by kernel_rfl)
 repeat still_step
 try (refine wpStill_nil ?_)
 change wpList _ _ _ _ _ wz.drew
 go_wp2_with (first | (go_at_call 74; refine (HU.out _).mono ?_; rintro e w' ⟨rfl, m, rfl⟩))
 go_ret
 have hlt := blk_lt HMZ.out
 refine ⟨rfl, ?_, fun k hk => ?_, ?_, ?_⟩
 ·show ((wz.drew.setCell ⟨g, 7, none⟩ (.int .i64 (mx sp n))).heap)[g]? = _
  exact heap_setCell_same wz.drew g 7 (mc deep sp) 98 _ HMZ.out
 ·show ((wz.drew.setCell ⟨g, 7, none⟩ (.int .i64 (mx sp n))).heap)[k]? = _
  rw [heap_setCell_other _ _ k _ hk]
  show wz.heap[k]? = _
  rw [HZ.out.1]
 ·show ((wz.drew.setCell ⟨g, 7, none⟩ (.int .i64 (mx sp n))).heap).size = _
  rw [← HZ.out.1]
  simp [World.setCell]
 ·have h := HZ.out.2.setCell (p := ⟨g, 7, none⟩) hB (.int .i64 (mx sp n))
  exact ⟨h.os, h.tape, h.output, h.size, h.block⟩
set_option maxRecDepth 100000 in
set_option maxHeartbeats 2000000 in
theorem Deep_nos (g : Nat) (n deep sp : Int) (B : Nat) (w : World) (hm : w.heap[g]? = some (.cells (mc deep sp) 98 (0, 0))) (hB : B ≤ g) (hle : deep < n) :
  Calls Try.prog 59 #[.pointer (some ⟨g, 0, none⟩), .int .i64 n] w fun e w' => e = .returned (.int .i64 46) ∧ (∃ y : Value, w'.heap[g]? = some (.cells (mcy deep sp y) 98 (0, 0))) ∧ Below B w w' ∧ ∀ k, k < w.heap.size → k ≠ g → w'.heap[k]? = w.heap[k]? := by
 have HM := Aside0.mk hm
 have HR := Aside0.mk (ready_calls g deep sp w hm)
 clear hm
 go_enter Try.func59, Try.ntmps59
 go_upto_region 4 with (first | (go_at_call 73; refine HR.out.mono ?_; rintro e w' ⟨rfl, ⟨nd, rfl⟩⟩))
 have hmz : (w.drewN nd).heap[g]? = some (.cells (mc deep sp) 98 (0, 0)) := HM.out
 generalize hwz : w.drewN nd = wz at hmz ⊢
 have HZ := Aside0.mk (show wz.heap = w.heap ∧ Below B w wz by rw [← hwz]; exact ⟨rfl, rfl, rfl, rfl, Nat.le_refl _, fun _ _ => rfl⟩)
 clear hwz
 have h3 : wz.cell? ⟨g, 3, none⟩ = some (.int .i64 deep) := (blk_cell hmz 3).trans rfl
 have HU := Aside0.mk (fun s => use_nos g n deep sp s B wz.drew hmz hB hle)
 clear hmz
 go_still_tail 11, (by kernel_rfl)
 repeat still_step
 try (refine wpStill_nil ?_)
 change wpList _ _ _ _ _ wz.drew
 go_wp2_with (first | (go_at_call 74; refine (HU.out _).mono ?_; rintro e w' ⟨rfl, hy, hb, hkp⟩))
 go_ret
 refine ⟨rfl, hy, HZ.out.2.drew.trans (hb.mono (Nat.le_refl _)), fun k hk hne => ?_⟩
 have hk' : k < wz.drew.heap.size := by show k < wz.heap.size; rw [HZ.out.1]; exact hk
 rw [hkp k hk' hne]
 show wz.heap[k]? = _
 rw [HZ.out.1]
/-- What a round of the loop keeps. -/
structure Rm (w wr : World) (B g : Nat) (deep sp : Int) (vW : Value) (ws : List S32) (vO : Value) (fs : List Fr) (n : Nat) : Prop where
 below : Below B w wr
 stk : Stk wr B vO fs
 met : wr.heap[g]? = some (.cells (mc deep sp) 98 (0, 0))
 row : k32.R 32 wr B (fun _ => True) vW ws
 pos : 0 < fs.length
 few : fs.length ≤ n + 1
 low : ∀ f ∈ fs, f.L.length ≤ n
theorem Rm.node {w wq wx w3 : World} {B g gO nO cO nI g1 k1 n : Nat} {deep sp : Int} {vW : Value} {ws : List S32} {fi : List Fr} {fl : Fr} {X : S51} {c0 c1 c2 c3 : Value}
  (h : Rm w wq B g deep sp vW ws (.slice (some ⟨gO, 0, none⟩) nO cO) (fi ++ [fl]) n) (hx : wx.heap = wq.heap) (hb3 : Below B w w3) (hB1 : B ≤ g1)
  (hS : Stk wx B (.slice (some ⟨gO, 0, none⟩) nO cO) (fi ++ [fl])) (hI : nI = fi.length)
  (hS5 : Stk ((put4 w3 g1 (fl.L.length * 4) c0 c1 c2 c3).setCell ⟨gO, nI * 4 + 3, none⟩ (.slice (some ⟨g1, 0, none⟩) (fl.L.length + 1) k1)) B (.slice (some ⟨gO, 0, none⟩) nO cO) (fi ++ [⟨fl.at_, .slice (some ⟨g1, 0, none⟩) (fl.L.length + 1) k1, fl.L ++ [X]⟩]))
  (hg3 : wx.grownBy w3 fl.v.ownBlock) (hat : some g1 = fl.v.ownBlock ∨ ∃ b, some g1 = some b ∧ wx.heap.size ≤ b) :
  Rm w ((put4 w3 g1 (fl.L.length * 4) c0 c1 c2 c3).setCell ⟨gO, nI * 4 + 3, none⟩ (.slice (some ⟨g1, 0, none⟩) (fl.L.length + 1) k1)) B g deep sp vW ws (.slice (some ⟨gO, 0, none⟩) nO cO) (fi ++ [⟨fl.at_, .slice (some ⟨g1, 0, none⟩) (fl.L.length + 1) k1, fl.L ++ [X]⟩]) (n + 1) := by
 subst hI
 have hfl : (fi ++ [fl])[fi.length]? = some fl := by rw [List.getElem?_append_right (Nat.le_refl _), Nat.sub_self]; rfl
 obtain ⟨cO', hcO⟩ := own_typed hS.own gO rfl
 have hty : ∀ k, fl.v.ownBlock = some k → ∃ cells, wx.heap[k]? = some (.cells cells 51 (0, 0)) := fun k hk => by
  obtain ⟨inner, ho⟩ := Kd.R_own (hS.row fi.length fl hfl)
  exact own_typed ho k hk
 have key : ∀ (k : Nat) (cells : Array Value) (t : TypeId), wx.heap[k]? = some (Obj.cells cells t (0, 0)) → t ≠ 51 → ((put4 w3 g1 (fl.L.length * 4) c0 c1 c2 c3).setCell ⟨gO, fi.length * 4 + 3, none⟩ (.slice (some ⟨g1, 0, none⟩) (fl.L.length + 1) k1)).heap[k]? = wx.heap[k]? := by
  intro k cells t hk ht
  have hkl := blk_lt hk
  have hkv : some k ≠ fl.v.ownBlock := fun e => by
   obtain ⟨cs, hc⟩ := hty k e.symm
   exact blk_ne hk hc ht rfl
  have hk1 : k ≠ g1 := by
   rintro rfl
   rcases hat with hat | ⟨b, hb, hle⟩
   ·exact hkv hat
   ·injection hb with hb
    omega
  rw [heap_setCell_other _ ⟨gO, fi.length * 4 + 3, none⟩ k _ (blk_ne hk hcO ht), put4_other _ _ _ _ _ _ _ _ hk1]
  exact hg3.block k hkl hkv
 have hBO : B ≤ gO := own_base hS.own gO rfl
 have hsp := h.met
 refine ⟨?_, hS5, ?_, ?_, by simp, ?_, fun f hf => ?_⟩
 ·unfold put4
  exact ((((hb3.setCell (p := ⟨g1, _, none⟩) hB1 _).setCell (p := ⟨g1, _, none⟩) hB1 _).setCell (p := ⟨g1, _, none⟩) hB1 _).setCell (p := ⟨g1, _, none⟩) hB1 _).setCell (p := ⟨gO, _, none⟩) hBO _
 ·rw [← hx] at hsp
  rw [key g _ 98 hsp (by decide)]
  exact hsp
 ·refine R_keepT (w := wx) ?_ (by decide) (fun k _ ⟨cs, hc⟩ => key k cs 32 hc (by decide))
  exact R_keepT h.row (by decide) (fun k _ _ => by rw [hx])
 ·have h1 := h.few
  rw [List.length_append, List.length_singleton] at h1 ⊢
  omega
 ·rcases List.mem_append.1 hf with hf | hf
  ·have := h.low f (List.mem_append_left _ hf)
   omega
  ·rw [List.mem_singleton.1 hf]
   have := h.low fl (by simp)
   show (fl.L ++ [X]).length ≤ n + 1
   rw [List.length_append, List.length_singleton]
   omega
theorem Rm.pop {w wr : World} {B g gO nO cO n : Nat} {deep sp : Int} {vW : Value} {ws : List S32} {fi : List Fr} {fl : Fr} (h : Rm w wr B g deep sp vW ws (.slice (some ⟨gO, 0, none⟩) nO cO) (fi ++ [fl]) n) (hn : nO = fi.length + 1) (hp : 0 < fi.length) :
  Rm w wr B g deep sp vW ws (.slice (some ⟨gO, 0, none⟩) fi.length cO) fi n ∧ k51.R 51 wr B (fun k => some k ≠ some gO ∧ ∀ f ∈ fi, some k ≠ f.v.ownBlock) fl.v fl.L := by
 obtain ⟨h1, h2⟩ := h.stk.pop hn
 have h3 := h.few
 rw [List.length_append, List.length_singleton] at h3
 refine ⟨⟨h.below, h1, h.met, h.row, hp, by omega, fun f hf => h.low f (List.mem_append_left _ hf)⟩, Kd.R_mono h2 (fun k hk => ⟨hk.1, fun f hf => ?_⟩)⟩
 obtain ⟨i, hi⟩ := List.getElem?_of_mem hf
 exact hk.2 i f hi (by have := (List.getElem?_eq_some_iff.1 hi).1; omega)
theorem Rm.step {w wr wz : World} {B g : Nat} {deep sp : Int} {vW : Value} {ws : List S32} {vO : Value} {fs : List Fr} {n : Nat} (h : Rm w wr B g deep sp vW ws vO fs n) (hb : Below wr.heap.size wr wz) (hB : B ≤ wr.heap.size) : Rm w wz B g deep sp vW ws vO fs n := by
 have hm := h.met
 exact ⟨h.below.trans (hb.mono hB), h.stk.below hb, (hb.block g (blk_lt hm)).trans hm, Kd.R_below h.row hb, h.pos, h.few, h.low⟩
set_option maxRecDepth 100000 in
set_option maxHeartbeats 16000000 in
theorem sexp_Read_spent (k : Nat) (s : ByteArray) (deep : Int) (ws : List S32) (at_ : Int) (B g : Nat) (w : World) (hm : w.heap[g]? = some (.cells (mc deep 0) 98 (0, 0))) (hB : B ≤ g) (h : lex_Words.f k s = some (ws, at_, 0)) (hlen : ws.length ≤ 65536)
  (res : ((List S51) × Int × Int) × Int) (hres : res = rdM deep (s.size : Int) 0 ws [(0, [])]) :
  Calls Try.prog 31 #[.string s, .pointer (some ⟨g, 0, none⟩)] w fun e w' => ∃ v : Value, e = .returned (.tuple #[v, .int .i64 res.1.2.1, .int .i64 res.1.2.2]) ∧ k51.R 51 w' B (fun _ => True) v res.1.1 ∧ (∃ y : Value, w'.heap[g]? = some (.cells (mcy deep res.2 y) 98 (0, 0))) ∧ Below B w w' := by
 have HRES := Aside0.mk hres
 clear hres
 have HM := Aside0.mk hm
 have hBw : B ≤ w.heap.size := by have := blk_lt hm; omega
 have HBW := Aside0.mk hBw
 have HW := Aside0.mk (lex_Words.calls k s ws at_ 0 w h)
 clear hm hBw h
 go_enter Try.func31, Try.ntmps31
 go_upto_region 4 with (first | (go_at_call 14; refine HW.out.mono ?_; rintro e w1 ⟨vW, rfl, hRW, hb1⟩))
 obtain ⟨AW, cW, rfl⟩ := Kd.R_slice hRW
 have HRW := Aside0.mk (Kd.R_lower hRW HBW.out)
 have hb1' : Below B w w1 := hb1.mono HBW.out
 have hm1 : w1.heap[g]? = some (.cells (mc deep 0) 98 (0, 0)) := (hb1.block g (blk_lt HM.out)).trans HM.out
 have HB1 := Aside0.mk hb1'
 have HM1 := Aside0.mk hm1
 clear hRW hb1 hb1' hm1
 go_upto_region 7 with (fail)
 have hst : Stk (w1.alloc (.cells #[.int .u8 0, .int .i64 0, .string (⟨#[]⟩ : ByteArray), .slice none 0 0] 51)) B (.slice (some ⟨w1.heap.size, 0, none⟩) 1 1) [⟨0, .slice none 0 0, []⟩] := by
  refine ⟨World.ownsRow_lit (base := B) (e := 51) (size := 4) w1 _ 1 (by have := HB1.out.size; have := HBW.out; omega) (by simp [maxLen]) (by rfl), fun i f hf => ?_⟩
  cases i with
  | zero =>
   obtain rfl := Option.some.inj hf
   exact Kd.R_nil _ _ _ _ _
  | succ i => cases hf
 have HR0 := Aside0.mk (⟨HB1.out.alloc (by have := HB1.out.size; have := HBW.out; omega) _, hst, blk_alloc HM1.out _, Kd.R_below HRW.out ((Below.refl _ _).alloc (Nat.le_refl _) _), by simp, by simp, fun f hf => by rw [List.mem_singleton.1 hf]; exact Nat.le_refl _⟩ : Rm w (w1.alloc (.cells #[.int .u8 0, .int .i64 0, .string (⟨#[]⟩ : ByteArray), .slice none 0 0] 51)) B g deep 0 (.slice AW ws.length cW) ws (.slice (some ⟨w1.heap.size, 0, none⟩) 1 1) [⟨0, .slice none 0 0, []⟩] 0)
 clear hst
 go_wp2
 go_loopw [8, 30] (fun v8 v30 wr => ∃ (j : Int) (gO cO : Nat) (fs : List Fr) (sp : Int), v8 = .slice (some ⟨gO, 0, none⟩) fs.length cO ∧ v30 = .int .i64 j ∧ Aside0 (0 ≤ j ∧ j ≤ (ws.length : Int)) ∧ Aside0 (Rm w wr B g deep sp (.slice AW ws.length cW) ws (.slice (some ⟨gO, 0, none⟩) fs.length cO) fs j.toNat) ∧ Aside0 (res = rdM deep (s.size : Int) sp (ws.drop j.toNat) (frl fs))) (fun _ i _ => ws.length - (intOf i).toNat)
 case atStart => exact ⟨0, w1.heap.size, 1, [⟨0, .slice none 0 0, []⟩], 0, rfl, rfl, ⟨by omega⟩, HR0, HRES⟩
 case round =>
  obtain ⟨j, gO, cO, fs, sp, rfl, rfl, hj, hR, hE⟩ := hrel
  clear HR0 HRES HM1 HB1 HRW
  by_cases c : j < (ws.length : Int)
  ·have p0 : 0 ≤ j := hj.out.1
   have hjl : j.toNat < ws.length := by omega
   obtain ⟨ad, e0, h00, h01, h02, h03⟩ := at_T32 (Kd.R_reads' hR.out.row).2.2 j p0 c
   subst e0
   obtain ⟨x, hx⟩ : ∃ x, x = rd_T32 ws j := ⟨_, rfl⟩
   rw [← hx] at h00 h01 h02 h03
   have hdr : ws.drop j.toNat = x :: ws.drop (j.toNat + 1) := by
    rw [List.drop_eq_getElem_cons hjl, hx]
    unfold rd_T32
    rw [List.getD_eq_getElem?_getD, List.getElem?_eq_getElem hjl]; rfl
   have hE' := hE.out
   rw [hdr, rdM] at hE'
   have HE2 := Aside0.mk hE'
   have HX := Aside0.mk hx
   have hw : wrap64 (j + 1) = j + 1 := by have := hj.out; unfold wrap64; omega
   have HWJ := Aside0.mk hw
   have c' : decide (j < (ws.length : Int)) = true := decide_eq_true c
   have HC := Aside0.mk c
   replace c := eq_true c
   replace p0 := eq_true p0
   clear hE hE' hdr hx hw
   go_upto_region 12 with (fail)
   have hBr : B ≤ wr.heap.size := by have := hR.out.below.size; have := HBW.out; omega
   have hbz : Below wr.heap.size wr ((wr.alloc (.cells #[.int .u8 x.f0, .int .i64 x.f1, .int .i64 x.f2, .string x.f3] 32)).alloc (.cells #[.int .u8 x.f0, .int .i64 x.f1, .string x.f3, .slice none 0 0] 51)) := ((Below.refl _ _).alloc (Nat.le_refl _) _).alloc (by simp) _
   have hq1 : ((wr.alloc (.cells #[.int .u8 x.f0, .int .i64 x.f1, .int .i64 x.f2, .string x.f3] 32)).alloc (.cells #[.int .u8 x.f0, .int .i64 x.f1, .string x.f3, .slice none 0 0] 51)).heap[wr.heap.size]? = some (.cells #[.int .u8 x.f0, .int .i64 x.f1, .int .i64 x.f2, .string x.f3] 32 (0, 0)) := blk_alloc (blk_new wr _) _
   have hq2 : ((wr.alloc (.cells #[.int .u8 x.f0, .int .i64 x.f1, .int .i64 x.f2, .string x.f3] 32)).alloc (.cells #[.int .u8 x.f0, .int .i64 x.f1, .string x.f3, .slice none 0 0] 51)).heap[wr.heap.size + 1]? = some (.cells #[.int .u8 x.f0, .int .i64 x.f1, .string x.f3, .slice none 0 0] 51 (0, 0)) := by
    have := blk_new (wr.alloc (.cells #[.int .u8 x.f0, .int .i64 x.f1, .int .i64 x.f2, .string x.f3] 32)) (.cells #[.int .u8 x.f0, .int .i64 x.f1, .string x.f3, .slice none 0 0] 51)
    simpa using this
   generalize hb1 : wr.heap.size = b1 at hq1 hq2 ⊢
   generalize hb2 : b1 + 1 = b2 at hq2 ⊢
   generalize hwz : ((wr.alloc (.cells #[.int .u8 x.f0, .int .i64 x.f1, .int .i64 x.f2, .string x.f3] 32)).alloc (.cells #[.int .u8 x.f0, .int .i64 x.f1, .string x.f3, .slice none 0 0] 51)) = wz at hbz hq1 hq2 ⊢
   have HRz := Aside0.mk (hR.out.step hbz hBr)
   have HB12 := Aside0.mk (And.intro hb1 hb2)
   have HQ1 := Aside0.mk hq1
   have HQ2 := Aside0.mk hq2
   have HBz := Aside0.mk hbz
   clear hbz hq1 hq2 hwz hb1 hb2 h00 h01 h02 h03
   by_cases ck1 : x.f0 = 1
   ·have ck1b : (x.f0 == 1) = true := beq_iff_eq.mpr ck1
    have hE1 := HE2.out
    rw [if_pos ck1, frl_len] at hE1
    by_cases cd : (fs.length : Int) > deep
    ·rw [if_pos cd] at hE1
     have HE3 := Aside0.mk hE1
     have hsp := HRz.out.met
     have HD := Aside0.mk (Deep_nos g (fs.length : Int) deep sp B wz hsp hB (by omega))
     clear hE1 cd ck1 HE2
     go_upto_region 15 with (go_at_call 59; refine HD.out.mono ?_; rintro e w2 ⟨rfl, hy, hbw2, hkp⟩)
     have hne : b1 ≠ g := blk_ne HQ1.out hsp (by decide)
     have hq1 : w2.heap[b1]? = _ := (hkp b1 (blk_lt HQ1.out) hne).trans HQ1.out
     have h1 : w2.cell? ⟨b1, 1, none⟩ = some (.int .i64 x.f1) := (blk_cell hq1 1).trans rfl
     have HB2 := Aside0.mk (HRz.out.below.trans hbw2)
     have HY := Aside0.mk hy
     clear hq1 hkp hbw2 hsp hy
     go_wp2
     go_quiet (fail)
     go_wp2
     go_ret3
     exact ⟨_, by rw [HE3.out]; rfl, by rw [HE3.out]; exact Kd.R_nil _ _ _ _ _, by rw [HE3.out]; exact HY.out, ⟨HB2.out.os, HB2.out.tape, HB2.out.output, HB2.out.size, HB2.out.block⟩⟩
    ·rw [if_neg cd, ← frl_snoc fs ⟨x.f1, .slice none 0 0, []⟩] at hE1
     have HE3 := Aside0.mk hE1
     have hsp := HRz.out.met
     have HD := Aside0.mk (Deep_spent g (fs.length : Int) deep sp B wz hsp hB (by omega))
     clear hE1 cd ck1 HE2
     go_upto_region 15 with (go_at_call 59; refine HD.out.mono ?_; rintro e w2 ⟨rfl, hm2, hk2, hz2, hbw2⟩)
     have hne : b1 ≠ g := blk_ne HQ1.out hsp (by decide)
     have hq1 : w2.heap[b1]? = _ := (hk2 b1 hne).trans HQ1.out
     have h1 : w2.cell? ⟨b1, 1, none⟩ = some (.int .i64 x.f1) := (blk_cell hq1 1).trans rfl
     have hst2 : Stk w2 B (.slice (some ⟨gO, 0, none⟩) fs.length cO) fs := HRz.out.stk.keep (fun k _ ⟨cs, hc⟩ => hk2 k (blk_ne hc hsp (by decide)))
     have hrow2 : k32.R 32 w2 B (fun _ => True) (.slice (some ad) ws.length cW) ws := R_keepT HRz.out.row (by decide) (fun k _ ⟨cs, hc⟩ => hk2 k (blk_ne hc hsp (by decide)))
     have HST := Aside0.mk hst2
     have HROW := Aside0.mk hrow2
     have HM2 := Aside0.mk hm2
     have HB2 := Aside0.mk (HRz.out.below.trans hbw2)
     have hB2 : B ≤ w2.heap.size := by rw [hz2]; have := HBz.out.size; omega
     have HBS := Aside0.mk hB2
     clear hq1 hk2 hz2 hbw2 hsp hst2 hrow2 hm2 hB2
     go_wp2_with ((with_reducible refine gate_builtin (b := .append) (xs := #[.tmp 56, .tmp 60]) rfl ?_); at_builtin; refine print_append_cells (w0 := w) B rfl (.tmp 56) (.tmp 60) 46 51 (.agg #[.int .u8 0, .int .i64 0, .string (⟨#[]⟩ : ByteArray), .slice none 0 0]) 4 56 rfl Try.underlying46 infoNode rfl (by decide) (by decide) (.slice (some ⟨gO, 0, none⟩) fs.length cO) fs.length (frs fs) (Fr.cells ⟨x.f1, .slice none 0 0, []⟩) rfl rfl rfl ?aO HST.out.own HB2.out HBS.out ?aL ?_; (case aO => intro u hu; simp [Fr.cells] at hu; rcases hu with rfl | rfl | rfl | rfl <;> rfl); (case aL => have := HRz.out.few; have := HC.out; omega); intro v1 w3 hown hb3 hg3 hat)
     obtain ⟨g1, c1, rfl⟩ : ∃ g1 c1, v1 = .slice (some ⟨g1, 0, none⟩) (fs.length + 1) c1 := by
      rcases hown.2 with ⟨_, h0⟩ | ⟨g', cap, cur, hv, _⟩
      ·omega
      ·exact ⟨g', cap, hv⟩
     have hjt : (j + 1).toNat = j.toNat + 1 := by have := hj.out; omega
     have hsp' := HM2.out
     have hst3 := HST.out.push x.f1 hown hg3 hat
     have hl3 : (fs ++ [(⟨x.f1, .slice none 0 0, []⟩ : Fr)]).length = fs.length + 1 := by rw [List.length_append, List.length_singleton]
     have hrd : Rm w w3 B g deep (mx sp (fs.length : Int)) (.slice (some ad) ws.length cW) ws (.slice (some ⟨g1, 0, none⟩) (fs ++ [(⟨x.f1, .slice none 0 0, []⟩ : Fr)]).length c1) (fs ++ [⟨x.f1, .slice none 0 0, []⟩]) (j + 1).toNat := by
      refine ⟨hb3, by rw [hl3]; exact hst3, (hg3.block g (blk_lt hsp') (own_ne HST.out.own hsp' (by decide))).trans hsp', R_keepT HROW.out (by decide) (fun k hk ⟨cs, hc⟩ => hg3.block k hk (own_ne HST.out.own hc (by decide))), by omega, ?_, fun f hf => ?_⟩
      ·rw [hl3, hjt]; have := HRz.out.few; omega
      ·rw [hjt]
       rcases List.mem_append.1 hf with hf | hf
       ·have := HRz.out.low f hf; omega
       ·rw [List.mem_singleton.1 hf]; exact Nat.zero_le _
     have HRD := Aside0.mk hrd
     have HJT := Aside0.mk hjt
     have HL3 := Aside0.mk hl3
     clear hjt hsp' hst3 hl3 hrd hown hb3 hg3 hat
     go_roundw
     case rel => exact ⟨j + 1, g1, c1, _, _, by rw [HL3.out], by rw [HWJ.out], ⟨by have := hj.out; have := HC.out; omega⟩, HRD, ⟨by rw [HJT.out]; exact HE3.out⟩⟩
     case measure =>
      simp [intOf]
      rw [HWJ.out]
      have := hj.out
      have := HC.out
      omega
   ·have ck1b : (x.f0 == 1) = false := beq_eq_false_iff_ne.mpr ck1
    have hE1 := HE2.out
    rw [if_neg ck1, frl_len] at hE1
    have hgb2 : gO ≠ b2 ∧ ∀ f ∈ fs, ∀ k, f.v.ownBlock = some k → k ≠ b2 := by
     have h12 := HB12.out
     refine ⟨by have := own_lt hR.out.stk.own gO rfl; omega, fun f hf k hk => ?_⟩
     obtain ⟨i, hi⟩ := List.getElem?_of_mem hf
     have := Kd.R_lt (hR.out.stk.row i f hi) k hk
     omega
    by_cases ck2 : x.f0 = 2
    case' pos =>
     have ck2b : (x.f0 == 2) = true := beq_iff_eq.mpr ck2
     rw [if_pos ck2] at hE1
     obtain ⟨fI, fL, hfs⟩ : ∃ fi fl, fs = fi ++ [fl] := ⟨fs.dropLast, fs.getLast (by intro e; have := HRz.out.pos; rw [e] at this; simp at this), (List.dropLast_concat_getLast _).symm⟩
     obtain ⟨nL, hnL⟩ : ∃ nI : Nat, nI = fI.length := ⟨_, rfl⟩
     have hfl : fs.length = nL + 1 := by rw [hfs, List.length_append, List.length_singleton, hnL]
     by_cases cl1 : fs.length = 1
     ·rw [if_pos cl1] at hE1
      have HE3 := Aside0.mk hE1
      have h1 : wz.cell? ⟨b1, 1, none⟩ = some (.int .i64 x.f1) := (blk_cell HQ1.out 1).trans rfl
      have c1a : ((fs.length : Int) == 1) = true := beq_iff_eq.mpr (by omega)
      have c1b : (fs.length == 1) = true := beq_iff_eq.mpr cl1
      have HB2 := Aside0.mk HRz.out.below
      have HM9 := Aside0.mk (show wz.heap[g]? = some (.cells (mcy deep sp (.pointer none)) 98 (0, 0)) from HRz.out.met)
      clear hE1 ck1 ck2 HE2 hfs hfl hnL hgb2 HRz
      go_wp2
      go_quiet (fail)
      go_wp2
      go_ret3
      exact ⟨_, by rw [HE3.out]; rfl, by rw [HE3.out]; exact Kd.R_nil _ _ _ _ _, by rw [HE3.out]; exact ⟨_, blk_drewN HM9.out _⟩, ⟨HB2.out.os, HB2.out.tape, HB2.out.output, HB2.out.size, HB2.out.block⟩⟩
     have hnp : 0 < nL := by have := HRz.out.pos; omega
     obtain ⟨fi, fl, hfi⟩ : ∃ fi fl, fI = fi ++ [fl] := ⟨fI.dropLast, fI.getLast (by intro e; rw [e] at hnL; simp at hnL; omega), (List.dropLast_concat_getLast _).symm⟩
     obtain ⟨nI, hnI⟩ : ∃ nI : Nat, nI = fi.length := ⟨_, rfl⟩
     have hLI : nL = nI + 1 := by rw [hnL, hfi, List.length_append, List.length_singleton, hnI]
     have e1 : (frl (fI ++ [fL])).dropLast = frl fI := by rw [frl_snoc, List.dropLast_concat]
     have e2 : (frl (fI ++ [fL])).getLastD (0, []) = (fL.at_, fL.L) := by rw [frl_snoc]; simp
     rw [if_neg cl1, hfs, e1, e2, hfi, frl_snoc, addK_snoc] at hE1
     have c1a : ((fs.length : Int) == 1) = false := beq_eq_false_iff_ne.mpr (by omega)
     have c1b : (fs.length == 1) = false := beq_eq_false_iff_ne.mpr cl1
     have hlow := HRz.out.few
     have hw1 : wrap64 ((fs.length : Int) - 1) = (nL : Int) := by rw [hfl]; have := HC.out; unfold wrap64; omega
     have hw2 : wrap64 ((nL : Int) - 1) = (nI : Int) := by rw [hLI]; have := HC.out; unfold wrap64; omega
     have q1 : (0 ≤ (nL : Int)) = True := eq_true (by omega)
     have q2 : ((nL : Int) < (fs.length : Int)) = True := eq_true (by omega)
     have q3 : (nL < fs.length) = True := eq_true (by omega)
     have r1 : (0 ≤ (nI : Int)) = True := eq_true (by omega)
     have r2 : ((nI : Int) < (nL : Int)) = True := eq_true (by omega)
     have r3 : (nI < nL) = True := eq_true (by omega)
     have hfLg : fs[nL]? = some fL := by rw [hfs, hnL, List.getElem?_append_right (Nat.le_refl _), Nat.sub_self]; rfl
     obtain ⟨A3, c3, hv3⟩ := Kd.R_slice (HRz.out.stk.row nL fL hfLg)
     obtain ⟨n3, hn3⟩ : ∃ n3, n3 = fL.L.length := ⟨_, rfl⟩
     rw [← hn3] at hv3
     have d0 : wz.cell? ⟨gO, nL * 4, none⟩ = some (.int .u8 0) := HRz.out.stk.cell hfLg (j := 0) rfl
     have d1 : wz.cell? ⟨gO, nL * 4 + 1, none⟩ = some (.int .i64 fL.at_) := HRz.out.stk.cell hfLg (j := 1) rfl
     have d2 : wz.cell? ⟨gO, nL * 4 + 2, none⟩ = some (.string (⟨#[]⟩ : ByteArray)) := HRz.out.stk.cell hfLg (j := 2) rfl
     have d3 : wz.cell? ⟨gO, nL * 4 + 3, none⟩ = some (.slice A3 n3 c3) := by have := HRz.out.stk.cell hfLg (j := 3) (u := fL.v) rfl; rw [this, hv3]
     have s0 : wz.cell? ⟨b2, 0, none⟩ = some (.int .u8 x.f0) := (blk_cell HQ2.out 0).trans rfl
     have s1 : wz.cell? ⟨b2, 1, none⟩ = some (.int .i64 x.f1) := (blk_cell HQ2.out 1).trans rfl
     have s2 : wz.cell? ⟨b2, 2, none⟩ = some (.string x.f3) := (blk_cell HQ2.out 2).trans rfl
     have s3 : wz.cell? ⟨b2, 3, none⟩ = some (.slice none 0 0) := (blk_cell HQ2.out 3).trans rfl
     have f0 := blk_frozen HQ2.out 0
     have f1 := blk_frozen HQ2.out 1
     have f2 := blk_frozen HQ2.out 2
     have f3 := blk_frozen HQ2.out 3
     obtain ⟨i0, hi0, _, hsz, _⟩ := info_parts infoNode
     have hcO := own_le HRz.out.stk.own
     have hcut := cut_to (P := Try.prog) 46 51 .i64 Try.underlying46 hi0 (some ⟨gO, 0, none⟩) fs.length cO (nL : Int) (by omega) (by omega) hcO
     rw [Int.toNat_natCast] at hcut
     obtain ⟨X, hX⟩ : ∃ X : S51, X = ⟨0, fL.at_, ⟨#[]⟩, fL.L⟩ := ⟨_, rfl⟩
     have HE3 : Aside0 (res = rdM deep (s.size : Int) sp (ws.drop (j.toNat + 1)) (frl fi ++ [(fl.at_, fl.L ++ [X])])) := Aside0.mk (by rw [hX]; exact hE1)
     have HNI := Aside0.mk hnI
     have HNO := Aside0.mk (show nL = (fi ++ [fl]).length by rw [← hfi, hnL])
     have HZ2 := Aside0.mk (And.intro hfs (And.intro hfi (And.intro hnL (And.intro hfl (And.intro hv3 (And.intro hX (And.intro hgb2 hn3)))))))
     clear hE1 ck1 ck2 HE2 hfs hfi hfl hnI hnL hgb2 hX hv3 hn3 hLI hlow hnp hfLg hcO hi0 hsz e1 e2 cl1
     go_upto_region 23 with (fail)
     have hge : wr.heap.size ≤ b2 := by have := HB12.out; omega
     have hbq : Below wr.heap.size wr ((((wz.setCell ⟨b2, 0, none⟩ (.int .u8 0)).setCell ⟨b2, 1, none⟩ (.int .i64 fL.at_)).setCell ⟨b2, 2, none⟩ (.string (⟨#[]⟩ : ByteArray))).setCell ⟨b2, 3, none⟩ (.slice A3 n3 c3)) := below_set (below_set (below_set (below_set HBz.out hge) hge) hge) hge
     have hbx : ((((wz.setCell ⟨b2, 0, none⟩ (.int .u8 0)).setCell ⟨b2, 1, none⟩ (.int .i64 fL.at_)).setCell ⟨b2, 2, none⟩ (.string (⟨#[]⟩ : ByteArray))).setCell ⟨b2, 3, none⟩ (.slice A3 n3 c3)).heap[b2]? = some (.cells #[.int .u8 0, .int .i64 fL.at_, .string (⟨#[]⟩ : ByteArray), .slice A3 n3 c3] 51 (0, 0)) := blk_set (blk_set (blk_set (blk_set HQ2.out 0 _) 1 _) 2 _) 3 _
     generalize hwq : ((((wz.setCell ⟨b2, 0, none⟩ (.int .u8 0)).setCell ⟨b2, 1, none⟩ (.int .i64 fL.at_)).setCell ⟨b2, 2, none⟩ (.string (⟨#[]⟩ : ByteArray))).setCell ⟨b2, 3, none⟩ (.slice A3 n3 c3)) = wq at hbq hbx ⊢
     obtain ⟨hfs, hfi, hnL, hfl, hv3, hX, hgb2, hn3⟩ := HZ2.out
     have hRf : Rm w wr B g deep sp (.slice (some ad) ws.length cW) ws (.slice (some ⟨gO, 0, none⟩) fs.length cO) (fI ++ [fL]) j.toNat := by rw [← hfs]; exact hR.out
     obtain ⟨hRp, hRL⟩ := hRf.pop (by rw [hfl, hnL]) (by rw [← hnL]; have := r3; simp at this; omega)
     have HRq := Aside0.mk (show Rm w wq B g deep sp (.slice (some ad) ws.length cW) ws (.slice (some ⟨gO, 0, none⟩) nL cO) (fi ++ [fl]) j.toNat by rw [← hfi, hnL]; exact hRp.step hbq hBr)
     have HP : Aside0 (k51.M wq B (fun k => some k ≠ some gO ∧ ∀ f ∈ fi ++ [fl], some k ≠ f.v.ownBlock) X [.int .u8 X.f0, .int .i64 X.f1, .string X.f2, .slice A3 n3 c3]) := Aside0.mk (by
      have h1 := Kd.R_below hRL hbq
      rw [hv3] at h1
      rw [hX, ← hfi]
      exact k51_mkM _ _ _ _ h1)
     have HBX : Aside0 (wq.heap[b2]? = some (.cells #[.int .u8 X.f0, .int .i64 X.f1, .string X.f2, .slice A3 n3 c3] 51 (0, 0))) := Aside0.mk (by rw [hX]; exact hbx)
     have HGB := Aside0.mk (show gO ≠ b2 ∧ ∀ f ∈ fi ++ [fl], ∀ k, f.v.ownBlock = some k → k ≠ b2 from ⟨hgb2.1, fun f hf => hgb2.2 f (by rw [hfs, hfi]; exact List.mem_append_left _ hf)⟩)
     clear HBz
     have HBz := Aside0.mk hbq
     clear hbq hbx hwq hfs hfi hfl hv3 hX hgb2 hn3 hRf hRp hRL hge d0 d1 d2 d3 s0 s1 s2 s3 f0 f1 f2 f3 hcut HZ2 HRz HQ1 HQ2
     clear hnL
     generalize nL = nO at *
    case' neg =>
     obtain ⟨fi, fl, hfs⟩ : ∃ fi fl, fs = fi ++ [fl] := ⟨fs.dropLast, fs.getLast (by intro e; have := HRz.out.pos; rw [e] at this; simp at this), (List.dropLast_concat_getLast _).symm⟩
     obtain ⟨nI, hnI⟩ : ∃ nI : Nat, nI = fi.length := ⟨_, rfl⟩
     have hfl : fs.length = nI + 1 := by rw [hfs, List.length_append, List.length_singleton, hnI]
     have ck2b : (x.f0 == 2) = false := beq_eq_false_iff_ne.mpr ck2
     rw [if_neg ck2, hfs, frl_snoc, addK_snoc] at hE1
     have HE3 : Aside0 (res = rdM deep (s.size : Int) sp (ws.drop (j.toNat + 1)) (frl fi ++ [(fl.at_, fl.L ++ [(⟨x.f0, x.f1, x.f3, []⟩ : S51)])])) := Aside0.mk hE1
     have hw1 : wrap64 ((fs.length : Int) - 1) = (nI : Int) := by rw [hfl]; have := HRz.out.few; have := HC.out; have := hfl; unfold wrap64; omega
     have q1 : (0 ≤ (nI : Int)) = True := eq_true (by omega)
     have q2 : ((nI : Int) < (fs.length : Int)) = True := eq_true (by omega)
     have q3 : (nI < fs.length) = True := eq_true (by omega)
     have HNI := Aside0.mk hnI
     have HRq := Aside0.mk (show Rm w wz B g deep sp (.slice (some ad) ws.length cW) ws (.slice (some ⟨gO, 0, none⟩) fs.length cO) (fi ++ [fl]) j.toNat by rw [← hfs]; exact HRz.out)
     have HGB := Aside0.mk (show gO ≠ b2 ∧ ∀ f ∈ fi ++ [fl], ∀ k, f.v.ownBlock = some k → k ≠ b2 by rw [← hfs]; exact hgb2)
     obtain ⟨X, hX⟩ : ∃ X : S51, X = ⟨x.f0, x.f1, x.f3, []⟩ := ⟨_, rfl⟩
     obtain ⟨A3, n3, c3, hv3⟩ : ∃ (A3 : Option Addr) (n3 c3 : Nat), (.slice A3 n3 c3 : Value) = .slice none 0 0 := ⟨none, 0, 0, rfl⟩
     have HBX : Aside0 (wz.heap[b2]? = some (.cells #[.int .u8 X.f0, .int .i64 X.f1, .string X.f2, .slice A3 n3 c3] 51 (0, 0))) := Aside0.mk (by rw [hX, hv3]; exact HQ2.out)
     have HP : Aside0 (k51.M wz B (fun k => some k ≠ some gO ∧ ∀ f ∈ fi ++ [fl], some k ≠ f.v.ownBlock) X [.int .u8 X.f0, .int .i64 X.f1, .string X.f2, .slice A3 n3 c3]) := Aside0.mk (by rw [hv3]; exact k51_mkM _ _ _ _ (by rw [hX]; exact Kd.R_nil _ _ _ _ _))
     rw [← hX] at HE3
     have HNO := Aside0.mk (show fs.length = (fi ++ [fl]).length by rw [← hfs])
     clear hE1 ck1 ck2 HE2 hfs hfl hnI hgb2 hX hv3 HRz
     go_upto_region 23 with (fail)
     generalize hwq : wz = wq at *
     clear hwq
     generalize fs.length = nO at *
    all_goals
     have HBw_ := Aside0.mk (show B ≤ wq.heap.size by have := HBz.out.size; omega)
     have hfl : (fi ++ [fl])[nI]? = some fl := by rw [HNI.out, List.getElem?_append_right (Nat.le_refl _), Nat.sub_self]; rfl
     obtain ⟨Ak, ck, hfv⟩ := Kd.R_slice (HRq.out.stk.row nI fl hfl)
     have h3 : wq.cell? ⟨gO, nI * 4 + 3, none⟩ = some (.slice Ak fl.L.length ck) := by have := HRq.out.stk.cell hfl (j := 3) (u := fl.v) rfl; rw [this, hfv]
     have x0 : wq.cell? ⟨b2, 0, none⟩ = some (.int .u8 X.f0) := (blk_cell HBX.out 0).trans rfl
     have x1 : wq.cell? ⟨b2, 1, none⟩ = some (.int .i64 X.f1) := (blk_cell HBX.out 1).trans rfl
     have x2 : wq.cell? ⟨b2, 2, none⟩ = some (.string X.f2) := (blk_cell HBX.out 2).trans rfl
     have x3 : wq.cell? ⟨b2, 3, none⟩ = some (.slice A3 n3 c3) := (blk_cell HBX.out 3).trans rfl
     have HFV := Aside0.mk hfv
     have HFL := Aside0.mk hfl
     clear hfv hfl
     refine start_ (n := 13) (S := fun w' => w'.cell? ⟨gO, nI * 4 + 3, none⟩ = some (.slice Ak fl.L.length ck) ∧ w'.cell? ⟨b2, 0, none⟩ = some (.int .u8 X.f0) ∧ w'.cell? ⟨b2, 1, none⟩ = some (.int .i64 X.f1) ∧ w'.cell? ⟨b2, 2, none⟩ = some (.string X.f2) ∧ w'.cell? ⟨b2, 3, none⟩ = some (.slice A3 n3 c3)) (ds := [7, 9, 12]) #[false, false, false, false, false, false, false, false, false, false, false, false, false] (by kernel_rfl) rfl rfl ⟨h3, x0, x1, x2, x3⟩ (fun hHeld => ?_)
     clear h3 x0 x1 x2 x3
     generalize hwx : World.drew wq = wx at hHeld ⊢
     have HX := Aside0.mk (show wx.heap = wq.heap ∧ Below wq.heap.size wq wx by rw [← hwx]; exact ⟨rfl, rfl, rfl, rfl, Nat.le_refl _, fun _ _ => rfl⟩)
     clear hwx
     refine pure_ (i := 0) (N := some 83) (v := ?_) (a' := ?_) #[true, false, false, false, false, false, false, false, false, false, false, false, false] rfl rfl (by kernel_rfl) (fun _ _ _ h => h) (Or.inl ⟨by rfl, ?_⟩) ?_ ?_
     rotate_left
     ·intro w'
      go_simp
      with_reducible rfl
     rotate_left
     ·simp only [Act.put, List.setIfInBounds_toArray, List.set_cons_zero, List.set_cons_succ, i64_w, i32_w]
      rfl
     refine pure_ (i := 1) (N := some 84) (v := ?_) (a' := ?_) #[true, true, false, false, false, false, false, false, false, false, false, false, false] rfl rfl (by kernel_rfl) (fun _ _ _ h => h) (Or.inl ⟨by rfl, ?_⟩) ?_ ?_
     rotate_left
     ·intro w'
      go_simp
      with_reducible rfl
     rotate_left
     ·simp only [Act.put, List.setIfInBounds_toArray, List.set_cons_zero, List.set_cons_succ, i64_w, i32_w]
      rfl
     refine pure_ (i := 2) (N := some 85) (v := ?_) (a' := ?_) #[true, true, true, false, false, false, false, false, false, false, false, false, false] rfl rfl (by kernel_rfl) (fun _ _ _ h => h) (Or.inl ⟨by rfl, ?_⟩) ?_ ?_
     rotate_left
     ·intro w'
      go_simp
      with_reducible rfl
     rotate_left
     ·simp only [Act.put, List.setIfInBounds_toArray, List.set_cons_zero, List.set_cons_succ, i64_w, i32_w]
      rfl
     refine take_ (i := 3) (N := some 86) (v := ?_) (a' := ?_) #[true, true, true, true, false, false, false, false, false, false, false, false, false] rfl rfl (by kernel_rfl) (fun _ _ _ h => h) (Or.inl ⟨by rfl, ?_⟩) hHeld ?_ ?_
     rotate_left
     ·intro w' hw'
      obtain ⟨hw0_, hw1_, hw2_, hw3_, hw4_⟩ := hw'
      go_simp
      with_reducible rfl
     rotate_left
     ·simp only [Act.put, List.setIfInBounds_toArray, List.set_cons_zero, List.set_cons_succ, i64_w, i32_w]
      rfl
     refine take_ (i := 4) (N := some 87) (v := ?_) (a' := ?_) #[true, true, true, true, true, false, false, false, false, false, false, false, false] rfl rfl (by kernel_rfl) (fun _ _ _ h => h) (Or.inl ⟨by rfl, ?_⟩) hHeld ?_ ?_
     rotate_left
     ·intro w' hw'
      obtain ⟨hw0_, hw1_, hw2_, hw3_, hw4_⟩ := hw'
      go_simp
      with_reducible rfl
     rotate_left
     ·simp only [Act.put, List.setIfInBounds_toArray, List.set_cons_zero, List.set_cons_succ, i64_w, i32_w]
      rfl
     refine pure_ (i := 5) (N := some 88) (v := ?_) (a' := ?_) #[true, true, true, true, true, true, false, false, false, false, false, false, false] rfl rfl (by kernel_rfl) (fun _ _ _ h => h) (Or.inl ⟨by rfl, ?_⟩) ?_ ?_
     rotate_left
     ·intro w'
      go_simp
      with_reducible rfl
     rotate_left
     ·simp only [Act.put, List.setIfInBounds_toArray, List.set_cons_zero, List.set_cons_succ, i64_w, i32_w]
      rfl
     refine one_ (i := 6) (N := some 89) #[true, true, true, true, true, true, true, false, false, false, false, false, false] rfl rfl (by kernel_rfl) (by decide) (fun K hK => ?_)
     refine run_step_ (v := .slice (some ⟨wx.heap.size, 0, none⟩) 1 1) (w1 := wx.alloc (.cells #[.int .u8 0, .int .i64 0, .string (⟨#[]⟩ : ByteArray), .slice none 0 0] 51)) (by rfl) rfl ?hr ?_
     case hr => first | (go_simp; done) | (go_simp; rfl)
     have ha : Below wx.heap.size wx (wx.alloc (.cells #[.int .u8 0, .int .i64 0, .string (⟨#[]⟩ : ByteArray), .slice none 0 0] 51)) := (Below.refl _ _).alloc (Nat.le_refl _) _
     refine hK.out _ _ ⟨ha.cell (World.block_lt_of_cell? wx _ hHeld.1) |>.trans hHeld.1, ha.cell (World.block_lt_of_cell? wx _ hHeld.2.1) |>.trans hHeld.2.1, ha.cell (World.block_lt_of_cell? wx _ hHeld.2.2.1) |>.trans hHeld.2.2.1, ha.cell (World.block_lt_of_cell? wx _ hHeld.2.2.2.1) |>.trans hHeld.2.2.2.1, ha.cell (World.block_lt_of_cell? wx _ hHeld.2.2.2.2) |>.trans hHeld.2.2.2.2⟩ (fun _ => ?_)
     clear hK K ha
     refine norm_ (a' := ?_) ?_ ?_
     rotate_left
     ·show Act.put _ (some 89) _ = _
      simp only [Act.put, List.setIfInBounds_toArray, List.set_cons_zero, List.set_cons_succ, i64_w, i32_w]
      rfl
     have hstx : Stk wx B (.slice (some ⟨gO, 0, none⟩) nO cO) (fi ++ [fl]) := HRq.out.stk.below HX.out.2
     obtain ⟨hok0, inner, hown0, hrep0⟩ := hstx.row nI fl HFL.out
     have hbx : Below B w wx := HRq.out.below.trans (HX.out.2.mono (by have := HBw_.out; omega))
     have hBx : B ≤ wx.heap.size := by rw [HX.out.1]; exact HBw_.out
     rw [HFV.out] at hown0
     have HOWN0 := Aside0.mk hown0
     have HBX2 := Aside0.mk hbx
     have HBX3 := Aside0.mk hBx
     have HSTX := Aside0.mk hstx
     have HREP := Aside0.mk (And.intro hok0 hrep0)
     clear hown0 hbx hBx hstx hok0 hrep0
     refine last_ (i := 7) (N := some 90) #[true, true, true, true, true, true, true, true, false, false, false, false, false] rfl rfl (by kernel_rfl) (by decide) (fun K hK => ?_)
     refine step_append_cells (w0 := w) B (by rfl) (.tmp 86) (.tmp 89) 46 51 (.agg #[.int .u8 0, .int .i64 0, .string (⟨#[]⟩ : ByteArray), .slice none 0 0]) 4 56 rfl Try.underlying46 infoNode rfl (by decide) (by decide) (.slice Ak fl.L.length ck) fl.L.length inner [.int .u8 0, .int .i64 0, .string (⟨#[]⟩ : ByteArray), .slice none 0 0] rfl rfl rfl ?aO HOWN0.out HBX2.out HBX3.out ?aL ?_
     case aO => intro u hu; simp at hu; rcases hu with rfl | rfl | rfl | rfl <;> rfl
     case aL => have := HRq.out.low fl (by simp); have := HC.out; omega
     intro v1 w3 hown3 hb3 hg3 hat
     refine hK.out _ _ ?_
     clear hK K
     refine norm_ (a' := ?_) ?_ ?_
     rotate_left
     ·show Act.put _ (some 90) _ = _
      simp only [Act.put, List.setIfInBounds_toArray, List.set_cons_zero, List.set_cons_succ, i64_w, i32_w]
      rfl
     obtain ⟨g1, c1, hv1⟩ : ∃ g1 c1, v1 = .slice (some ⟨g1, 0, none⟩) (fl.L.length + 1) c1 := by
      rcases hown3.2 with ⟨_, h0⟩ | ⟨g', cap, cur, hv, _⟩
      ·omega
      ·exact ⟨g', cap, hv⟩
     subst hv1
     obtain ⟨m, hm⟩ : ∃ m, m = fl.L.length := ⟨_, rfl⟩
     have q4 : (0 ≤ (m : Int)) = True := eq_true (by omega)
     have q5 : ((m : Int) < ((m + 1 : Nat) : Int)) = True := eq_true (by omega)
     have q6 : (m < m + 1) = True := eq_true (by omega)
     have q7 : ((m : Int) < (m : Int) + 1) = True := eq_true (by omega)
     rw [← hm] at hown3 ⊢
     have HMM := Aside0.mk hm
     clear hm
     have hgO3 : some gO ≠ (Value.slice Ak fl.L.length ck).ownBlock := by rw [← HFV.out]; exact fun e => ((HSTX.out.row nI fl HFL.out).1 gO e.symm).1 rfl
     have hgne : g1 ≠ gO := by
      intro e
      rcases hat with hat | ⟨b, hb, hle⟩
      ·exact hgO3 (by rw [← hat, e]; rfl)
      ·have h1 : g1 = b := by injection hb
       have := own_lt HSTX.out.own gO rfl
       omega
     obtain ⟨cur1, hc1⟩ := own_typed hown3 g1 rfl
     obtain ⟨curO, hcO⟩ : ∃ cells, w3.heap[gO]? = some (.cells cells 51 (0, 0)) := by
      obtain ⟨cells, hc⟩ := own_typed HSTX.out.own gO rfl
      exact ⟨cells, (hg3.block gO (own_lt HSTX.out.own gO rfl) hgO3).trans hc⟩
     have hil : inner.length = m * 4 := by have := hown3.1; rw [List.length_append] at this; have e : ([.int .u8 0, .int .i64 0, .string (⟨#[]⟩ : ByteArray), .slice none 0 0] : List Value).length = 4 := rfl; omega
     have e0 : w3.cell? ⟨g1, m * 4, none⟩ = some (.int .u8 0) := own_cell hown3 (by rw [List.getElem?_append_right (by omega), hil]; rw [Nat.sub_self]; rfl)
     have e1 : w3.cell? ⟨g1, m * 4 + 1, none⟩ = some (.int .i64 0) := own_cell hown3 (by rw [List.getElem?_append_right (by omega), hil]; rw [Nat.add_sub_cancel_left]; rfl)
     have e2 : w3.cell? ⟨g1, m * 4 + 2, none⟩ = some (.string (⟨#[]⟩ : ByteArray)) := own_cell hown3 (by rw [List.getElem?_append_right (by omega), hil]; rw [Nat.add_sub_cancel_left]; rfl)
     have e3 : w3.cell? ⟨g1, m * 4 + 3, none⟩ = some (.slice none 0 0) := own_cell hown3 (by rw [List.getElem?_append_right (by omega), hil]; rw [Nat.add_sub_cancel_left]; rfl)
     have hO3 : w3.cell? ⟨gO, nI * 4 + 3, none⟩ = some fl.v := by
      have h1 := HSTX.out.cell HFL.out (j := 3) (u := fl.v) rfl
      rw [← h1]
      exact World.cell?_of_block (hg3.block gO (own_lt HSTX.out.own gO rfl) hgO3)
     have HST2 := Aside0.mk (fun (hnO : nO = (fi ++ [fl]).length) => Stk.node (X := X) (c0 := .int .u8 X.f0) (c1 := .int .i64 X.f1) (c2 := .string X.f2) (c3 := (.slice A3 n3 c3)) HSTX.out hnO HNI.out HREP.out.1 HREP.out.2 (Kd.M_below_ HP.out HX.out.2) (by rw [HMM.out] at hown3; exact hown3) (by rw [HFV.out]; exact hg3) (by rw [HFV.out]; exact hat))
     have HG3 := Aside0.mk hg3
     have HAT := Aside0.mk hat
     have HB1_ := Aside0.mk (own_base hown3 g1 rfl)
     have HB3 := Aside0.mk hb3
     have HGN := Aside0.mk hgne
     have HC1 := Aside0.mk hc1
     have HCO := Aside0.mk hcO
     have HE03 := Aside0.mk (And.intro e0 (And.intro e1 (And.intro e2 e3)))
     have HO3 := Aside0.mk hO3
     clear hown3 hg3 hb3 hat hgO3 hgne hc1 hcO hil e0 e1 e2 e3 hO3
     refine pure_ (i := 8) (N := some 91) (v := ?_) (a' := ?_) #[true, true, true, true, true, true, true, true, true, false, false, false, false] rfl rfl (by kernel_rfl) (fun _ _ _ h => h) (Or.inl ⟨by rfl, ?_⟩) ?_ ?_
     rotate_left
     ·intro w'
      go_simp
      with_reducible rfl
     rotate_left
     ·simp only [Act.put, List.setIfInBounds_toArray, List.set_cons_zero, List.set_cons_succ, i64_w, i32_w]
      rfl
     refine pure_ (i := 10) (N := some 92) (v := ?_) (a' := ?_) #[true, true, true, true, true, true, true, true, true, false, true, false, false] rfl rfl (by kernel_rfl) (fun _ _ _ h => h) (Or.inl ⟨by rfl, ?_⟩) ?_ ?_
     rotate_left
     ·intro w'
      go_simp
      with_reducible rfl
     rotate_left
     ·simp only [Act.put, List.setIfInBounds_toArray, List.set_cons_zero, List.set_cons_succ, i64_w, i32_w]
      rfl
     refine pure_ (i := 11) (N := some 93) (v := ?_) (a' := ?_) #[true, true, true, true, true, true, true, true, true, false, true, true, false] rfl rfl (by kernel_rfl) (fun _ _ _ h => h) (Or.inl ⟨by rfl, ?_⟩) ?_ ?_
     rotate_left
     ·intro w'
      go_simp
      with_reducible rfl
     rotate_left
     ·simp only [Act.put, List.setIfInBounds_toArray, List.set_cons_zero, List.set_cons_succ, i64_w, i32_w]
      rfl
     refine join_ (σ := Unit) 0 #[true, true, true, true, true, true, true, true, true, true, true, true, true] (fun _ => []) (fun _ w' => w' = (put4 w3 g1 (m * 4) (.int .u8 X.f0) (.int .i64 X.f1) (.string X.f2) (.slice A3 n3 c3)).setCell ⟨gO, nI * 4 + 3, none⟩ (.slice (some ⟨g1, 0, none⟩) (m + 1) c1)) ?_ ?_
     rotate_left
     ·intro hCont
      refine two_last_ (i := 9) (j := 12) (Ni := none) (Nj := none) #[true, true, true, true, true, true, true, true, true, true, true, true, false] #[true, true, true, true, true, true, true, true, true, false, true, true, true] rfl rfl rfl rfl (by kernel_rfl) (by decide) (by decide) (fun K hK => ?_) (fun K hK => ?_)
      ·obtain ⟨e0, e1, e2, e3⟩ := HE03.out
       have f0 := blk_frozen HC1.out (m * 4)
       have f1 := blk_frozen HC1.out (m * 4 + 1)
       have f2 := blk_frozen HC1.out (m * 4 + 2)
       have f3 := blk_frozen HC1.out (m * 4 + 3)
       refine skip_ (w1 := put4 w3 g1 (m * 4) (.int .u8 X.f0) (.int .i64 X.f1) (.string X.f2) (.slice A3 n3 c3)) (by rfl) rfl ?_ ?_
       ·unfold put4
        go_simp
       refine hK.out _ _ ?_
       clear hK K
       have hO4 : (put4 w3 g1 (m * 4) (.int .u8 X.f0) (.int .i64 X.f1) (.string X.f2) (.slice A3 n3 c3)).heap[gO]? = some (.cells curO 51 (0, 0)) := (put4_other _ _ _ _ _ _ _ _ (fun e => HGN.out e.symm)).trans HCO.out
       have h4 : (put4 w3 g1 (m * 4) (.int .u8 X.f0) (.int .i64 X.f1) (.string X.f2) (.slice A3 n3 c3)).cell? ⟨gO, nI * 4 + 3, none⟩ = some fl.v := (World.cell?_of_block (hO4.trans HCO.out.symm)).trans HO3.out
       have f4 := blk_frozen hO4 (nI * 4 + 3)
       clear hO4 e0 e1 e2 e3 f0 f1 f2 f3
       generalize hw4 : put4 w3 g1 (m * 4) (.int .u8 X.f0) (.int .i64 X.f1) (.string X.f2) (.slice A3 n3 c3) = w4 at h4 f4 hCont ⊢
       refine last_ (i := 12) (N := none) #[true, true, true, true, true, true, true, true, true, true, true, true, true] rfl rfl (by kernel_rfl) (by decide) (fun K hK => ?_)
       refine skip_ (w1 := w4.setCell ⟨gO, nI * 4 + 3, none⟩ (.slice (some ⟨g1, 0, none⟩) (m + 1) c1)) (by rfl) rfl ?_ ?_
       ·go_simp
       refine hK.out _ _ ?_
       clear hK K
       exact norm_ (by simp only [putAll]) (hCont () _ rfl)
      ·have hO3 := HO3.out
       have f4 := blk_frozen HCO.out (nI * 4 + 3)
       refine skip_ (w1 := w3.setCell ⟨gO, nI * 4 + 3, none⟩ (.slice (some ⟨g1, 0, none⟩) (m + 1) c1)) (by rfl) rfl ?_ ?_
       ·go_simp
       refine hK.out _ _ ?_
       clear hK K
       have hC4 : (w3.setCell ⟨gO, nI * 4 + 3, none⟩ (.slice (some ⟨g1, 0, none⟩) (m + 1) c1)).heap[g1]? = some (.cells cur1 51 (0, 0)) := (heap_setCell_other _ _ g1 _ HGN.out).trans HC1.out
       obtain ⟨e0, e1, e2, e3⟩ := HE03.out
       have k0 : (w3.setCell ⟨gO, nI * 4 + 3, none⟩ (.slice (some ⟨g1, 0, none⟩) (m + 1) c1)).cell? ⟨g1, m * 4, none⟩ = some (.int .u8 0) := (World.cell?_of_block (hC4.trans HC1.out.symm)).trans e0
       have f0 := blk_frozen hC4 (m * 4)
       have k1 : (w3.setCell ⟨gO, nI * 4 + 3, none⟩ (.slice (some ⟨g1, 0, none⟩) (m + 1) c1)).cell? ⟨g1, m * 4 + 1, none⟩ = some (.int .i64 0) := (World.cell?_of_block (hC4.trans HC1.out.symm)).trans e1
       have f1 := blk_frozen hC4 (m * 4 + 1)
       have k2 : (w3.setCell ⟨gO, nI * 4 + 3, none⟩ (.slice (some ⟨g1, 0, none⟩) (m + 1) c1)).cell? ⟨g1, m * 4 + 2, none⟩ = some (.string (⟨#[]⟩ : ByteArray)) := (World.cell?_of_block (hC4.trans HC1.out.symm)).trans e2
       have f2 := blk_frozen hC4 (m * 4 + 2)
       have k3 : (w3.setCell ⟨gO, nI * 4 + 3, none⟩ (.slice (some ⟨g1, 0, none⟩) (m + 1) c1)).cell? ⟨g1, m * 4 + 3, none⟩ = some (.slice none 0 0) := (World.cell?_of_block (hC4.trans HC1.out.symm)).trans e3
       have f3 := blk_frozen hC4 (m * 4 + 3)
       rw [put4_comm _ _ _ _ _ _ _ ⟨gO, nI * 4 + 3, none⟩ _ HGN.out] at hCont
       clear hC4 e0 e1 e2 e3 hO3 f4
       generalize hw4 : w3.setCell ⟨gO, nI * 4 + 3, none⟩ (.slice (some ⟨g1, 0, none⟩) (m + 1) c1) = w4 at k0 k1 k2 k3 f0 f1 f2 f3 hCont ⊢
       refine last_ (i := 9) (N := none) #[true, true, true, true, true, true, true, true, true, true, true, true, true] rfl rfl (by kernel_rfl) (by decide) (fun K hK => ?_)
       refine skip_ (w1 := put4 w4 g1 (m * 4) (.int .u8 X.f0) (.int .i64 X.f1) (.string X.f2) (.slice A3 n3 c3)) (by rfl) rfl ?_ ?_
       ·unfold put4
        go_simp
       refine hK.out _ _ ?_
       clear hK K
       exact norm_ (by simp only [putAll]) (hCont () _ rfl)
     rintro _ w5 hw5
     refine norm_ (a' := ?_) ?_ ?_
     rotate_left
     ·simp only [putAll]
      rfl
     have hgo : some g1 = fl.v.ownBlock ∨ ∃ b, some g1 = some b ∧ wx.heap.size ≤ b := by have := HAT.out; rw [HFV.out]; exact this
     have hg3 : wx.grownBy w3 fl.v.ownBlock := by rw [HFV.out]; exact HG3.out
     have hrd := HRq.out.node (X := X) HX.out.1 HB3.out HB1_.out HSTX.out HNI.out (HST2.out HNO.out) hg3 hgo
     rw [← HMM.out, ← hw5] at hrd
     have hjt : (j + 1).toNat = j.toNat + 1 := by have := hj.out; omega
     rw [← hjt] at hrd
     have HE4 := HE3.out
     rw [← hjt, ← frl_snoc fi ⟨fl.at_, .slice (some ⟨g1, 0, none⟩) (m + 1) c1, fl.L ++ [X]⟩] at HE4
     have HE5 := Aside0.mk HE4
     have hl5 : nO = (fi ++ [(⟨fl.at_, .slice (some ⟨g1, 0, none⟩) (m + 1) c1, fl.L ++ [X]⟩ : Fr)]).length := by rw [HNO.out]; simp
     rw [hl5] at hrd
     have HRD := Aside0.mk hrd
     have HL5 := Aside0.mk hl5
     have HJT := Aside0.mk hjt
     clear hgo hg3 hrd hjt HE4 hw5 hl5
     refine done_ (by kernel_rfl) ?_
     go_wp2
     go_roundw
     case rel => exact ⟨j + 1, gO, cO, _, _, by rw [HL5.out], by rw [HWJ.out], ⟨by have := hj.out; have := HC.out; omega⟩, HRD, HE5⟩
     case measure =>
      simp [intOf]
      rw [HWJ.out]
      have := hj.out
      have := HC.out
      omega
  ·have c' : decide (j < (ws.length : Int)) = false := decide_eq_false c
   have hn : ws.drop j.toNat = [] := List.drop_eq_nil_of_le (by have := hj.out; omega)
   replace c := eq_false c
   have hE' := hE.out
   rw [hn] at hE'
   obtain ⟨f0, hf0⟩ : ∃ f0, fs[0]? = some f0 := ⟨_, List.getElem?_eq_getElem hR.out.pos⟩
   by_cases c2 : 1 < fs.length
   ·have e2 : res = (([], (s.size : Int), 4), sp) := by
     rw [hE', rdM, if_pos (by unfold frl; rw [List.length_map]; exact c2)]
    have HE2 := Aside0.mk e2
    have c2a : decide ((fs.length : Int) > 1) = true := decide_eq_true (by omega)
    have c2b : decide (1 < fs.length) = true := decide_eq_true (by omega)
    replace c2 := eq_true c2
    clear hE hE' e2 hn
    go_wp2
    go_ret3
    exact ⟨_, by rw [HE2.out]; rfl, by rw [HE2.out]; exact Kd.R_nil _ _ _ _ _, by rw [HE2.out]; exact ⟨_, hR.out.met⟩, hR.out.below⟩
   ·have e2 : res = ((f0.L, 0, 0), sp) := by
     rw [hE', rdM, if_neg (by unfold frl; rw [List.length_map]; exact c2)]
     cases fs with
     | nil => cases hf0
     | cons a b => obtain rfl := Option.some.inj hf0; rfl
    have HE2 := Aside0.mk e2
    have c2a : decide ((fs.length : Int) > 1) = false := decide_eq_false (by omega)
    have c2b : decide (1 < fs.length) = false := decide_eq_false (by omega)
    have c2c : (0 < fs.length) = True := eq_true hR.out.pos
    have h3 : wr.cell? ⟨gO, 3, none⟩ = some f0.v := by
     have := hR.out.stk.cell hf0 (j := 3) rfl
     simpa using this
    have hr0 := Aside0.mk (hR.out.stk.row 0 f0 hf0)
    replace c2 := eq_false c2
    clear hE hE' e2 hn hf0
    go_wp2
    go_ret3
    exact ⟨f0.v, by rw [HE2.out]; rfl, by rw [HE2.out]; exact Kd.R_mono hr0.out (fun _ _ => trivial), by rw [HE2.out]; exact ⟨_, hR.out.met⟩, hR.out.below⟩
theorem sexp_Read_errs (k : Nat) (s : ByteArray) (ws : List S32) (at_ e_ : Int) (g B : Nat) (w : World) (deep : Int) (hm : w.heap[g]? = some (.cells (mc deep 0) 98 (0, 0))) (hB : B ≤ w.heap.size) (h : lex_Words.f k s = some (ws, at_, e_)) (he : e_ ≠ 0) :
  Calls Try.prog 31 #[.string s, .pointer (some ⟨g, 0, none⟩)] w fun e w' => e = .returned (.tuple #[.slice none 0 0, .int .i64 at_, .int .i64 e_]) ∧ w'.heap[g]? = some (.cells (mcy deep 0 (.pointer none)) 98 (0, 0)) ∧ Below B w w' := by
 have HW := Aside0.mk (lex_Words.calls k s ws at_ e_ w h)
 have HBW := Aside0.mk hB
 have c1 : (e_ != 0) = true := bne_iff_ne.mpr he
 have HM := Aside0.mk hm
 clear h he hB hm
 go_enter Try.func31, Try.ntmps31
 go_wp2_with (go_at_call 14; refine HW.out.mono ?_; rintro e w1 ⟨vW, rfl, hRW, hb1⟩)
 go_ret3
 exact ⟨rfl, blk_below HM.out hb1, hb1.mono HBW.out⟩
end Go.Proofs.Ytgikmpgpccfiiaa.PSxp
