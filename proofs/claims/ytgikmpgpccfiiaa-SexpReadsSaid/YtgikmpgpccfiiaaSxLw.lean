/- SexpReads: walks by hand (Lw). -/
import Derived.Test.YtgikmpgpccfiiaaPSxpx0
import Derived.Test.YtgikmpgpccfiiaaSxRr
import Derived.Test.YtgikmpgpccfiiaaSxSp
import Derived.Test.YtgikmpgpccfiiaaSxSpent
import Derived.Test.YtgikmpgpccfiiaaPSxpx31
import Derived.Test.YtgikmpgpccfiiaaPSxpx34
import Derived.Test.YtgikmpgpccfiiaaPSxpx35
import Derived.Test.YtgikmpgpccfiiaaPSxpx23
namespace Go.Proofs.Ytgikmpgpccfiiaa.PSxp
open Go.RowKit Go.Proofs.YtgikmpgpccfiiaaW.PrintWords Go.Proofs.YtgikmpgpccfiiaaW.PrintLast Go.Proofs.YtgikmpgpccfiiaaW.PrintMore
attribute [local go_sem] max2_int min2_int max_two min_two max_three min_three max_four min_four   -- for this text's walks alone
set_option linter.unusedVariables false
set_option linter.unusedSimpArgs false
/-! ### the law's walk -/
theorem infoB65 : (Try.prog.info? 65).map (·.size) = some 4 := by kernel_rfl
theorem Spent_calls (g : Nat) (deep sp : Int) (y : Value) (w : World) (hm : w.heap[g]? = some (.cells (mcy deep sp y) 98 (0, 0))) :
  Calls Try.prog 32 #[.pointer (some ⟨g, 0, none⟩)] w fun e w' => e = .returned (.agg #[.int .i64 0, .int .i64 0, .int .i64 0, .int .i64 sp]) ∧ Below w.heap.size w w' := by
 have HM := Aside0.mk hm
 clear hm
 go_enter Try.func32, Try.ntmps32
 go_upto_region 1 with (fail)
 have hb : (w.alloc (.cells #[.int .i64 0, .int .i64 0, .int .i64 0, .int .i64 0] 65)).heap[w.heap.size]? = some (.cells #[.int .i64 0, .int .i64 0, .int .i64 0, .int .i64 0] 65 (0, 0)) := blk_new w _
 have hm1 := blk_alloc HM.out (.cells #[.int .i64 0, .int .i64 0, .int .i64 0, .int .i64 0] 65)
 have HB := Aside0.mk ((Below.refl w.heap.size w).alloc (Nat.le_refl _) (.cells #[.int .i64 0, .int .i64 0, .int .i64 0, .int .i64 0] 65))
 obtain ⟨b, hbe⟩ : ∃ b, b = w.heap.size := ⟨_, rfl⟩
 have HBE := Aside0.mk hbe
 rw [← hbe] at hb ⊢
 generalize hw1 : w.alloc (.cells #[.int .i64 0, .int .i64 0, .int .i64 0, .int .i64 0] 65) = w1 at hb hm1 HB ⊢
 clear hw1 hbe HM
 have h4 : w1.cell? ⟨g, 4, none⟩ = some (.int .i64 0) := (blk_cell hm1 4).trans rfl
 have h5 : w1.cell? ⟨g, 5, none⟩ = some (.int .i64 0) := (blk_cell hm1 5).trans rfl
 have h6 : w1.cell? ⟨g, 6, none⟩ = some (.int .i64 0) := (blk_cell hm1 6).trans rfl
 have h7 : w1.cell? ⟨g, 7, none⟩ = some (.int .i64 sp) := (blk_cell hm1 7).trans rfl
 have b0 : w1.cell? ⟨b, 0, none⟩ = some (.int .i64 0) := (blk_cell hb 0).trans rfl
 have b1 : w1.cell? ⟨b, 1, none⟩ = some (.int .i64 0) := (blk_cell hb 1).trans rfl
 have b2 : w1.cell? ⟨b, 2, none⟩ = some (.int .i64 0) := (blk_cell hb 2).trans rfl
 have b3 : w1.cell? ⟨b, 3, none⟩ = some (.int .i64 0) := (blk_cell hb 3).trans rfl
 have f0 := blk_frozen hb 0
 have f1 := blk_frozen hb 1
 have f2 := blk_frozen hb 2
 have f3 := blk_frozen hb 3
 have HBK := Aside0.mk hb
 clear hb hm1
 go_wp2
 (try simp only [Exit.inBlock, Exit.then])
 refine bodyPost_ret (results_single rfl (.cell b 65 #[.int .i64 0, .int .i64 0, .int .i64 0, .int .i64 sp] (0, 0) _ rfl (blk_put (blk_put (blk_put (blk_put HBK.out 0 _ rfl) 1 _ rfl) 2 _ rfl) 3 _ rfl) Try.underlying65 rfl infoB65 .nil)) rfl ?_
 have hle : w.heap.size ≤ b := Nat.le_of_eq HBE.out.symm
 exact ⟨rfl, (((HB.out.setCell (p := ⟨b, 0, none⟩) hle _).setCell (p := ⟨b, 1, none⟩) hle _).setCell (p := ⟨b, 2, none⟩) hle _).setCell (p := ⟨b, 3, none⟩) hle _⟩
set_option maxRecDepth 100000 in
theorem run_field65 (a b c e : Int) (W : World) : (Instr.field 65 (.agg #[.int .i64 a, .int .i64 b, .int .i64 c, .int .i64 e]) 3).run Try.prog W = .ok (.int .i64 e) W := by
 have hu65 := Try.underlying65
 go_simp
 rfl
/-- What is read is known. -/
def readIs (k : Nat) (s : ByteArray) (d : Nat) (L : List S51) (place f most : Int) : Prop :=
 ∃ (ws : List S32) (at_ e_ : Int), lex_Words.f k s = some (ws, at_, e_) ∧ ((e_ = 0 ∧ ws.length ≤ 65536 ∧ rdM (d : Int) (s.size : Int) 0 ws [(0, [])] = ((L, place, f), most)) ∨ (e_ ≠ 0 ∧ L = [] ∧ place = at_ ∧ f = e_ ∧ most = 0))
theorem Read_any {k : Nat} {s : ByteArray} {d : Nat} {L : List S51} {place f most : Int} (h : readIs k s d L place f most) (B g : Nat) (w : World) (hm : w.heap[g]? = some (.cells (mc (d : Int) 0) 98 (0, 0))) (hB : B ≤ g) :
  Calls Try.prog 31 #[.string s, .pointer (some ⟨g, 0, none⟩)] w fun e w' => ∃ v : Value, e = .returned (.tuple #[v, .int .i64 place, .int .i64 f]) ∧ k51.R 51 w' B (fun _ => True) v L ∧ (∃ y : Value, w'.heap[g]? = some (.cells (mcy (d : Int) most y) 98 (0, 0))) ∧ Below B w w' := by
 obtain ⟨ws, at_, e_, hw, ⟨rfl, hl, hr⟩ | ⟨he, rfl, rfl, rfl, rfl⟩⟩ := h
 ·exact sexp_Read_spent k s (d : Int) ws at_ B g w hm hB hw hl ((L, place, f), most) hr.symm
 ·refine (sexp_Read_errs k s ws place f g B w (d : Int) hm (by have := blk_lt hm; omega) hw he).mono ?_
  rintro e w' ⟨rfl, h1, h2⟩
  exact ⟨_, rfl, Kd.R_nil _ _ _ _ _, ⟨_, h1⟩, h2⟩
def readsOk (k : Nat) (s : ByteArray) (d : Nat) : Prop :=
 ∃ (want tl : List S90) (L : List S51) (place most f : Int), alidaderef13_Read.f k s (d : Int) = some (want, place, most, f) ∧ budget_May.f 0 0 0 (d : Int) = some true ∧ readIs k s d L place f most ∧
  alidadelaw13_told.f k L = some tl ∧ alidaderef13_Exact.f k tl want = some true ∧ alidadelaw13_awake.f k = some true
set_option maxRecDepth 100000 in
set_option maxHeartbeats 16000000 in
theorem SexpReads_calls (k : Nat) (s : ByteArray) (a : Int) (d : Nat) (hd : wrap64 (Int.tmod (IntKind.u64.wrap a) 65537) = (d : Int)) (hs : (s.size : Int) ≤ 2000) (h : readsOk k s d) (w : World) :
  Calls Try.prog 9 #[.string s, .int .i64 a] w fun e w' => e = .returned (.bool true) ∧ Below w.heap.size w w' := by
 obtain ⟨want, tl, L, place, most, f, hRef, hMay, hRead, hTold, hExact, hAwake⟩ := h
 have HREF := Aside0.mk (alidaderef13_Read.calls k s (d : Int) (want, place, most, f) w hRef)
 have HNEW := Aside0.mk (fun W => New_calls (d : Int) W hMay)
 have HREAD := Aside0.mk (fun B g W hm hB => Read_any hRead B g W hm hB)
 have HTOLD := Aside0.mk (fun A c W hr hc => alidadelaw13_told.calls k A c L tl W hr hc hTold)
 have HEX := Aside0.mk (fun A c A1 c1 W h0 h1 h2 h3 => alidaderef13_Exact.calls k A c tl A1 c1 want true W h0 h1 h2 h3 hExact)
 have HAW := Aside0.mk (fun W => alidadelaw13_awake.calls k true W hAwake)
 have hfld := run_field65 0 0 0 most
 have c0 : decide (2000 < (s.size : Int)) = false := decide_eq_false (by omega)
 clear hRef hMay hRead hTold hExact hAwake hs
 go_enter Try.func9, Try.ntmps9
 go_upto_region 5 with (first | (go_at_call 29; refine HREF.out.mono ?_; rintro e w1 ⟨vW, rfl, hrW, hb1⟩))
 obtain ⟨AW, cW, rfl⟩ := Kd.R_slice hrW
 have HRW := Aside0.mk hrW
 have HB := Aside0.mk hb1
 clear hrW hb1 HREF
 go_wp2
 go_loopw [9] (fun i wr => ∃ j : Nat, i = .int .i64 (j : Int) ∧ Aside0 (j ≤ 2) ∧ Aside0 (Kd.R k90 90 wr w.heap.size (fun _ => True) (.slice AW want.length cW) want) ∧ Aside0 (Below w.heap.size w wr)) (fun i _ => 2 - (intOf i).toNat)
 case atStart => exact ⟨0, rfl, ⟨by omega⟩, HRW, HB⟩
 case round =>
  clear HRW HB
  obtain ⟨j, rfl, hj, HRW, HB⟩ := hrel
  by_cases cj : j < 2
  ·have c' : decide ((j : Int) < 2) = true := decide_eq_true (by omega)
   have CJ := Aside0.mk cj
   have hw : wrap64 ((j : Int) + 1) = (j : Int) + 1 := by unfold wrap64; omega
   have HW := Aside0.mk hw
   clear cj hw
   go_upto_region 9 with (first | (go_at_call 30; refine (HNEW.out _).mono ?_; rintro e w1 ⟨⟨g, rfl, hg, hm⟩, hb1⟩))
   have HR := Aside0.mk (HREAD.out wr.heap.size g w1 hm hg)
   have HB1 := Aside0.mk hb1
   clear hg hm hb1
   go_upto_region 10 with (first | (go_at_call 31; refine HR.out.mono ?_; rintro e w2 ⟨v, rfl, hr2, ⟨y, hy⟩, hb2⟩))
   obtain ⟨A2, c2, rfl⟩ := Kd.R_slice hr2
   have HR2 := Aside0.mk hr2
   have HY2 := Aside0.mk hy
   have HB2 := Aside0.mk (HB1.out.trans hb2)
   clear hr2 hy hb2 HR HB1
   have hkind : (L.length ≤ c2 ∧ Kd.C k51 w2 A2 L.length L) := ⟨(Kd.R_reads' HR2.out).2.1, (Kd.R_reads' HR2.out).2.2⟩
   have HT := Aside0.mk (HTOLD.out A2 c2 w2 hkind.2 hkind.1)
   clear hkind
   go_wp2_with (first | (go_at_call 28; refine HT.out.mono ?_; rintro e w3 ⟨v3, rfl, hr3, hb3⟩; obtain ⟨A3, c3, rfl⟩ := Kd.R_slice hr3; have HX := Aside0.mk (HEX.out A3 c3 AW cW w3 (Kd.R_reads' hr3).2.2 (Kd.R_reads' hr3).2.1 (Kd.C_below (Kd.R_reads' HRW.out).2.2 (HB2.out.trans (hb3.mono HB2.out.size))) (Kd.R_reads' HRW.out).2.1); have HB3 := Aside0.mk (HB2.out.trans (hb3.mono HB2.out.size)); have HY3 := Aside0.mk (blk_below HY2.out hb3); have HR3 := Aside0.mk (Kd.R_below HR2.out hb3); clear hr3 hb3) | (go_at_call 27; refine HX.out.mono ?_; rintro e w4 ⟨rfl, hb4⟩; have HS := Aside0.mk (Spent_calls g (d : Int) most y w4 (blk_below HY3.out hb4)); have HB4 := Aside0.mk (HB3.out.trans (hb4.mono HB3.out.size)); have HR4 := Aside0.mk (Kd.R_below HR3.out hb4); clear hb4) | (go_at_call 32; refine HS.out.mono ?_; rintro e w5 ⟨rfl, hb5⟩; have HB5 := Aside0.mk (HB4.out.trans (hb5.mono HB4.out.size)); have HSP := Aside0.mk (spoil_calls wr.heap.size w5 _ L _ w5 (Nat.lt_succ_self _) (Kd.R_below HR4.out hb5) (Spo.refl _ _)); clear hb5) | (go_at_call 33; refine HSP.out.mono ?_; rintro e w6 ⟨rfl, hs6⟩; have HB6 := Aside0.mk (HB5.out.trans hs6.below); clear hs6))
   go_roundw
   case rel => exact ⟨j + 1, by rw [HW.out]; rfl, ⟨CJ.out⟩, ⟨Kd.R_below HRW.out HB6.out⟩, ⟨HB.out.trans (HB6.out.mono HB.out.size)⟩⟩
   case measure =>
    show 2 - (intOf (.int .i64 (wrap64 ((j : Int) + 1)))).toNat < 2 - (intOf (.int .i64 (j : Int))).toNat
    rw [HW.out]
    show 2 - ((j : Int) + 1).toNat < 2 - ((j : Int)).toNat
    have := CJ.out
    clear HW
    omega
  ·have c' : decide ((j : Int) < 2) = false := decide_eq_false (by omega)
   clear cj
   go_wp2_with (first | (go_at_call 22; refine (HAW.out _).mono ?_; rintro e w1 ⟨rfl, hb1⟩))
   go_ret
   exact ⟨rfl, HB.out.trans (hb1.mono HB.out.size)⟩
set_option maxRecDepth 100000 in
theorem SexpReads_long (k : Nat) (s : ByteArray) (a : Int) (hs : ¬ (s.size : Int) ≤ 2000) (hAwake : alidadelaw13_awake.f k = some true) (w : World) :
  Calls Try.prog 9 #[.string s, .int .i64 a] w fun e w' => e = .returned (.bool true) ∧ Below w.heap.size w w' := by
 have HAW := Aside0.mk (fun W => alidadelaw13_awake.calls k true W hAwake)
 have c0 : decide (2000 < (s.size : Int)) = true := decide_eq_true (by omega)
 clear hAwake hs
 go_enter Try.func9, Try.ntmps9
 go_wp2_with (first | (go_at_call 22; refine (HAW.out _).mono ?_; rintro e w1 ⟨rfl, hb1⟩))
 go_ret
 exact ⟨rfl, hb1⟩
end Go.Proofs.Ytgikmpgpccfiiaa.PSxp
