/- SexpReads: walks by hand (Rr). -/
import Derived.Test.YtgikmpgpccfiiaaPSxpx0
import Derived.Test.YtgikmpgpccfiiaaSxNd
import Derived.Test.YtgikmpgpccfiiaaPSxpx25
import Derived.Test.YtgikmpgpccfiiaaPSxpx21
namespace Go.Proofs.Ytgikmpgpccfiiaa.PSxp
open Go.RowKit Go.Proofs.YtgikmpgpccfiiaaW.PrintWords Go.Proofs.YtgikmpgpccfiiaaW.PrintLast Go.Proofs.YtgikmpgpccfiiaaW.PrintMore
attribute [local go_sem] max2_int min2_int max_two min_two max_three min_three max_four min_four   -- for this text's walks alone
set_option linter.unusedVariables false
set_option linter.unusedSimpArgs false
theorem results_tmp4 {fn : Func} {t u v x : Tmp} (h : fn.results = #[.tmp t, .tmp u, .tmp v, .tmp x]) (tmps : Array Value) (P : Program) (w : World) :
  (results fn tmps).run P w = .ok (.tuple #[tmps.getD t undef, tmps.getD u undef, tmps.getD v undef, tmps.getD x undef]) w := by
 simp [results, h]
def refFin (size : Int) (ws : List S31) (z : List S90 × Nat × Int × Int × Int) : List S90 × Int × Int × Int :=
 if z.2.2.2.2 = 0 then (if z.2.1 < ws.length then ([], (if (4 : Int) ≠ 0 ∧ (rd_T31 ws (z.2.1 : Int)).f1 < 0 then size else (rd_T31 ws (z.2.1 : Int)).f1), z.2.2.1, 4) else (z.1, 0, z.2.2.1, 0))
 else ([], (if z.2.2.2.2 ≠ 0 ∧ z.2.2.2.1 < 0 then size else z.2.2.2.1), z.2.2.1, z.2.2.2.2)
def alidaderef13_Read.f (k : Nat) (a0 : ByteArray) (a1 : Int) : Option ((List S90) × Int × Int × Int) :=
 (alidaderef12_Words.f k a0).bind fun t => if t.2.2 = 0 then (rnodes k t.1 a1 0 [] 0 0 0 0).bind fun z => some (refFin (a0.size : Int) t.1 z) else some ([], t.2.1, 0, t.2.2)
set_option maxRecDepth 100000 in
set_option maxHeartbeats 16000000 in
theorem alidaderef13_Read.calls (k : Nat) (s : ByteArray) (most : Int) (r : List S90 × Int × Int × Int) (w : World) (h : alidaderef13_Read.f k s most = some r) :
  Calls Try.prog 29 #[.string s, .int .i64 most] w fun e w' => ∃ v : Value, e = .returned (.tuple #[v, .int .i64 r.2.1, .int .i64 r.2.2.1, .int .i64 r.2.2.2]) ∧ Kd.R k90 90 w' w.heap.size (fun _ => True) v r.1 ∧ Below w.heap.size w w' := by
 unfold alidaderef13_Read.f at h
 obtain ⟨⟨ws, at_, e_⟩, hW, h⟩ := Option.bind_eq_some_iff.mp h
 dsimp only at h
 have HW := Aside0.mk (alidaderef12_Words.calls k s ws at_ e_ w hW)
 clear hW
 by_cases ce : e_ = 0
 ·rw [if_pos ce] at h
  subst ce
  obtain ⟨⟨out, I, D, At, E⟩, hz, h⟩ := Option.bind_eq_some_iff.mp h
  have HR := Aside0.mk (Option.some.inj h)
  have HZ := Aside0.mk hz
  clear h hz
  go_enter Try.func29, Try.ntmps29
  go_upto_region 4 with (first | (go_at_call 13; refine HW.out.mono ?_; rintro e w1 ⟨vW, rfl, hRW, hb1⟩))
  obtain ⟨A, c, rfl⟩ := Kd.R_slice hRW
  have HB1 := Aside0.mk hb1
  have HRW := Aside0.mk (Kd.R_reads' hRW).2.2
  have hAlt : ∀ ad, A = some ad → ad.block < w1.heap.size := fun ad e => Kd.R_lt hRW ad.block (by rw [e]; rfl)
  have HAL := Aside0.mk hAlt
  clear hRW hb1 hAlt
  go_upto_region 5 with (fail)
  have hx : (w1.alloc (.cells #[.slice A ws.length c, .int .i64 0, .int .i64 most, .int .i64 0, .int .i64 0, .int .i64 0] 93)).heap[w1.heap.size]? = some (.cells (rc A ws.length c ((0 : Nat) : Int) most 0 0 0) 93 (0, 0)) := blk_new w1 _
  have hb2 : Below w1.heap.size w1 (w1.alloc (.cells #[.slice A ws.length c, .int .i64 0, .int .i64 most, .int .i64 0, .int .i64 0, .int .i64 0] 93)) := (Below.refl _ _).alloc (Nat.le_refl _) _
  have HG1 := Aside0.mk (show w.heap.size ≤ w1.heap.size from HB1.out.size)
  obtain ⟨g, hg⟩ : ∃ g, g = w1.heap.size := ⟨_, rfl⟩
  rw [← hg] at hx hb2
  rw [← hg]
  generalize hw2 : w1.alloc (.cells #[.slice A ws.length c, .int .i64 0, .int .i64 most, .int .i64 0, .int .i64 0, .int .i64 0] 93) = w2 at hx hb2 ⊢
  have HWS := Aside0.mk (Kd.C_below HRW.out (by rw [hg] at hb2; exact hb2))
  have HA := Aside0.mk (fun (ad : Addr) (e : A = some ad) => show ad.block ≠ g by have := HAL.out ad e; omega)
  have HG2 := Aside0.mk (show g < w2.heap.size from blk_lt hx)
  have HB2 := Aside0.mk hb2
  have HB1' := Aside0.mk (HB1.out.trans (hb2.mono (by rw [hg]; exact HG1.out)))
  replace HG1 := Aside0.mk (show w.heap.size ≤ g by rw [hg]; exact HG1.out)
  have HC := Aside0.mk (nodes_calls g A c ws most g (Nat.le_refl _) HA.out k 0 0 0 0 0 (out, I, D, At, E) w2 hx HWS.out HZ.out)
  replace HB1 := HB1'
  clear hx hb2 hw2 hg HZ HRW HAL HB1'
  go_upto_region 6 with (first | (go_at_call 57; refine HC.out.mono ?_; rintro e w3 ⟨v, rfl, hr3, hm3, hk3, hb3⟩))
  have HR3 := Aside0.mk hr3
  have HM3 := Aside0.mk hm3
  have HK3 := Aside0.mk hk3
  have HB3 := Aside0.mk hb3
  clear hr3 hm3 hk3 hb3 HC
  have g0 : w3.cell? ⟨g, 0, none⟩ = some (.slice A ws.length c) := (blk_cell HM3.out 0).trans rfl
  have g1 : w3.cell? ⟨g, 1, none⟩ = some (.int .i64 (I : Int)) := (blk_cell HM3.out 1).trans rfl
  have g5 : w3.cell? ⟨g, 5, none⟩ = some (.int .i64 E) := (blk_cell HM3.out 5).trans rfl
  have f5 := blk_frozen HM3.out 5
  unfold refFin at HR
  dsimp only at HR
  by_cases cE : E = 0
  ·have cEb : (E == 0) = true := beq_iff_eq.mpr cE
   have HR' := HR.out
   rw [if_pos cE] at HR'
   by_cases cI : I < ws.length
   ·rw [if_pos cI] at HR'
    replace HR := Aside0.mk HR'
    have cIb : decide (I < ws.length) = true := decide_eq_true cI
    have p0 : (0 : Int) ≤ (I : Int) := by omega
    have q0 : (I : Int) < (ws.length : Int) := by omega
    clear HR' cE
    go_upto_region 8 with (fail)
    have HX0 := Aside0.mk (HB3.out.setCell (p := ⟨g, 5, none⟩) (Nat.le_refl _) (.int .i64 4))
    have HX1 := Aside0.mk (HK3.out.set_ 5 (.int .i64 4))
    have HX3 := Aside0.mk (show (w3.setCell ⟨g, 5, none⟩ (.int .i64 4)).heap[g]? = some (.cells (rc A ws.length c (I : Int) most D At 4) 93 (0, 0)) from blk_put HM3.out 5 _ rfl)
    generalize hw4 : w3.setCell ⟨g, 5, none⟩ (.int .i64 4) = w4 at HX0 HX1 HX3 ⊢
    clear hw4 g0 g1 g5 f5 HB3 HK3 HM3 HR3
    obtain ⟨ad, ead, h00, h01, h02, h03⟩ := at_T31 (wC_keep HWS.out HX1.out HA.out) (I : Int) p0 q0
    obtain ⟨x, hx⟩ : ∃ x, x = rd_T31 ws (I : Int) := ⟨_, rfl⟩
    rw [← hx] at HR h00 h01 h02 h03
    rw [Int.toNat_natCast] at h00 h01 h02 h03
    have HX := Aside0.mk hx
    clear hx cI
    subst ead
    replace p0 := eq_true p0
    replace q0 := eq_true q0
    have y1 : w4.cell? ⟨g, 1, none⟩ = some (.int .i64 (I : Int)) := (blk_cell HX3.out 1).trans rfl
    have y4 : w4.cell? ⟨g, 4, none⟩ = some (.int .i64 At) := (blk_cell HX3.out 4).trans rfl
    have fr4 := blk_frozen HX3.out 4
    go_upto_region 9 with (fail)
    have HW0 := Aside0.mk (HX0.out.setCell (p := ⟨g, 4, none⟩) (Nat.le_refl _) (.int .i64 x.f1))
    have HW3 := Aside0.mk (show (w4.setCell ⟨g, 4, none⟩ (.int .i64 x.f1)).heap[g]? = some (.cells (rc (some ad) ws.length c (I : Int) most D x.f1 4) 93 (0, 0)) from blk_put HX3.out 4 _ rfl)
    generalize hw5 : w4.setCell ⟨g, 4, none⟩ (.int .i64 x.f1) = w5 at HW0 HW3 ⊢
    clear hw5 h00 h01 h02 h03 y1 y4 fr4 HX0 HX1 HX3
    have hEn : (4 : Int) ≠ 0 := by decide
    have g3 : w5.cell? ⟨g, 3, none⟩ = some (.int .i64 D) := (blk_cell HW3.out 3).trans rfl
    have g4 : w5.cell? ⟨g, 4, none⟩ = some (.int .i64 (x.f1)) := (blk_cell HW3.out 4).trans rfl
    have g5 : w5.cell? ⟨g, 5, none⟩ = some (.int .i64 (4)) := (blk_cell HW3.out 5).trans rfl
    have f4 := blk_frozen HW3.out 4
    by_cases cn : x.f1 < 0
    ·have cnb : decide (x.f1 < 0) = true := decide_eq_true cn
     have HRR := HR.out
     rw [if_pos ⟨hEn, cn⟩] at HRR
     replace HRR := Aside0.mk HRR
     clear cn hEn
     go_upto_region 11 with (fail)
     have HV0 := Aside0.mk (HW0.out.setCell (p := ⟨g, 4, none⟩) (Nat.le_refl _) (.int .i64 (s.size : Int)))
     have HV3 := Aside0.mk (show (w5.setCell ⟨g, 4, none⟩ (.int .i64 (s.size : Int))).heap[g]? = some (.cells (rc (some ad) ws.length c (I : Int) most D (s.size : Int) (4)) 93 (0, 0)) from blk_put HW3.out 4 _ rfl)
     generalize hwv : w5.setCell ⟨g, 4, none⟩ (.int .i64 (s.size : Int)) = wv at HV0 HV3 ⊢
     clear hwv g3 g4 g5 f4 HW0 HW3
     have g3 : wv.cell? ⟨g, 3, none⟩ = some (.int .i64 D) := (blk_cell HV3.out 3).trans rfl
     have g4 : wv.cell? ⟨g, 4, none⟩ = some (.int .i64 (s.size : Int)) := (blk_cell HV3.out 4).trans rfl
     have g5 : wv.cell? ⟨g, 5, none⟩ = some (.int .i64 (4)) := (blk_cell HV3.out 5).trans rfl
     go_wp2
     go_quiet (fail)
     go_wp2
     (try simp only [Exit.inBlock, Exit.then])
     refine bodyPost_ret (results_tmp4 rfl _ _ _) rfl ?_
     rw [← HRR.out]
     exact ⟨_, rfl, Kd.R_nil _ _ _ _ _, pw_below_drewN (HB1.out.trans (HV0.out.mono HG1.out)) _⟩
    ·have cnb : decide (x.f1 < 0) = false := decide_eq_false cn
     have HRR := HR.out
     rw [if_neg (fun h => cn h.2)] at HRR
     replace HRR := Aside0.mk HRR
     clear cn hEn
     go_wp2
     go_quiet (fail)
     go_wp2
     (try simp only [Exit.inBlock, Exit.then])
     refine bodyPost_ret (results_tmp4 rfl _ _ _) rfl ?_
     rw [← HRR.out]
     exact ⟨_, rfl, Kd.R_nil _ _ _ _ _, pw_below_drewN (HB1.out.trans (HW0.out.mono HG1.out)) _⟩
   ·rw [if_neg cI] at HR'
    replace HR := Aside0.mk HR'
    have cIb : decide (I < ws.length) = false := decide_eq_false cI
    have cEn : (E != 0) = false := bne_eq_false_iff_eq.mpr cE
    have g3 : w3.cell? ⟨g, 3, none⟩ = some (.int .i64 D) := (blk_cell HM3.out 3).trans rfl
    clear HR' cE cI
    go_wp2
    go_quiet (fail)
    go_wp2
    (try simp only [Exit.inBlock, Exit.then])
    refine bodyPost_ret (results_tmp4 rfl _ _ _) rfl ?_
    rw [← HR.out]
    exact ⟨_, rfl, Kd.R_drewN (Kd.R_lower HR3.out (Nat.le_of_lt (Nat.lt_of_le_of_lt HG1.out HG2.out))) _, pw_below_drewN (HB1.out.trans (HB3.out.mono HG1.out)) _⟩
  ·have cEb : (E == 0) = false := beq_eq_false_iff_ne.mpr cE
   have cEn : (E != 0) = true := bne_iff_ne.mpr cE
   have hEn : E ≠ 0 := cE
   have HR' := HR.out
   rw [if_neg cE] at HR'
   replace HR := Aside0.mk HR'
   have HW0 := HB3
   have HW3 := HM3
   clear HR' cE
   go_upto_region 9 with (fail)
   clear g0 g1 g5 f5
   have g3 : w3.cell? ⟨g, 3, none⟩ = some (.int .i64 D) := (blk_cell HW3.out 3).trans rfl
   have g4 : w3.cell? ⟨g, 4, none⟩ = some (.int .i64 (At)) := (blk_cell HW3.out 4).trans rfl
   have g5 : w3.cell? ⟨g, 5, none⟩ = some (.int .i64 (E)) := (blk_cell HW3.out 5).trans rfl
   have f4 := blk_frozen HW3.out 4
   by_cases cn : At < 0
   ·have cnb : decide (At < 0) = true := decide_eq_true cn
    have HRR := HR.out
    rw [if_pos ⟨hEn, cn⟩] at HRR
    replace HRR := Aside0.mk HRR
    clear cn hEn
    go_upto_region 11 with (fail)
    have HV0 := Aside0.mk (HW0.out.setCell (p := ⟨g, 4, none⟩) (Nat.le_refl _) (.int .i64 (s.size : Int)))
    have HV3 := Aside0.mk (show (w3.setCell ⟨g, 4, none⟩ (.int .i64 (s.size : Int))).heap[g]? = some (.cells (rc A ws.length c (I : Int) most D (s.size : Int) (E)) 93 (0, 0)) from blk_put HW3.out 4 _ rfl)
    generalize hwv : w3.setCell ⟨g, 4, none⟩ (.int .i64 (s.size : Int)) = wv at HV0 HV3 ⊢
    clear hwv g3 g4 g5 f4 HW0 HW3
    have g3 : wv.cell? ⟨g, 3, none⟩ = some (.int .i64 D) := (blk_cell HV3.out 3).trans rfl
    have g4 : wv.cell? ⟨g, 4, none⟩ = some (.int .i64 (s.size : Int)) := (blk_cell HV3.out 4).trans rfl
    have g5 : wv.cell? ⟨g, 5, none⟩ = some (.int .i64 (E)) := (blk_cell HV3.out 5).trans rfl
    go_wp2
    go_quiet (fail)
    go_wp2
    (try simp only [Exit.inBlock, Exit.then])
    refine bodyPost_ret (results_tmp4 rfl _ _ _) rfl ?_
    rw [← HRR.out]
    exact ⟨_, rfl, Kd.R_nil _ _ _ _ _, pw_below_drewN (HB1.out.trans (HV0.out.mono HG1.out)) _⟩
   ·have cnb : decide (At < 0) = false := decide_eq_false cn
    have HRR := HR.out
    rw [if_neg (fun h => cn h.2)] at HRR
    replace HRR := Aside0.mk HRR
    clear cn hEn
    go_wp2
    go_quiet (fail)
    go_wp2
    (try simp only [Exit.inBlock, Exit.then])
    refine bodyPost_ret (results_tmp4 rfl _ _ _) rfl ?_
    rw [← HRR.out]
    exact ⟨_, rfl, Kd.R_nil _ _ _ _ _, pw_below_drewN (HB1.out.trans (HW0.out.mono HG1.out)) _⟩
 ·rw [if_neg ce] at h
  obtain rfl := Option.some.inj h
  have ceb : (e_ != 0) = true := bne_iff_ne.mpr ce
  clear h ce
  go_enter Try.func29, Try.ntmps29
  go_wp2_with (first | (go_at_call 13; refine HW.out.mono ?_; rintro e w1 ⟨vW, rfl, hRW, hb1⟩; have HB1 := Aside0.mk hb1; clear hRW hb1))
  (try simp only [Exit.inBlock, Exit.then])
  refine bodyPost_ret (results_tmp4 rfl _ _ _) rfl ?_
  exact ⟨_, rfl, Kd.R_nil _ _ _ _ _, HB1.out⟩
end Go.Proofs.Ytgikmpgpccfiiaa.PSxp
