/- SexpReads: walks by hand (Nd). -/
import Derived.Test.YtgikmpgpccfiiaaPSxpx0
import Derived.Test.YtgikmpgpccfiiaaPSxpx25
namespace Go.Proofs.Ytgikmpgpccfiiaa.PSxp
open Go.RowKit Go.Proofs.YtgikmpgpccfiiaaW.PrintWords Go.Proofs.YtgikmpgpccfiiaaW.PrintLast Go.Proofs.YtgikmpgpccfiiaaW.PrintMore
attribute [local go_sem] max2_int min2_int max_two min_two max_three min_three max_four min_four   -- for this text's walks alone
set_option linter.unusedVariables false
set_option linter.unusedSimpArgs false
/-! ### the document's reader -/
def rc (A : Option Addr) (n c : Nat) (I M D At E : Int) : Array Value := #[.slice A n c, .int .i64 I, .int .i64 M, .int .i64 D, .int .i64 At, .int .i64 E]
def rnodes : Nat → List S31 → Int → Int → List S90 → Nat → Int → Int → Int → Option (List S90 × Nat × Int × Int × Int)
 | 0, _, _, _, _, _, _, _, _ => none
 | k + 1, ws, M, deep, out, I, D, At, E =>
  if E = 0 then (if I < ws.length then (if (rd_T31 ws (I : Int)).f0 = 2 then some (out, I, D, At, E) else
   (if out.length < 1000000 ∧ I < 1000000000 ∧ (0 ≤ deep ∧ deep < 1000000000) then
    (if (rd_T31 ws (I : Int)).f0 = 1 then
     (if deep + 1 > M then some ([], I + 1, D, (rd_T31 ws (I : Int)).f1, 46)
     else (rnodes k ws M (deep + 1) [] (I + 1) (mx D (deep + 1)) At E).bind fun z =>
      if z.2.1 < 1000000000 then rnodes k ws M deep (out ++ [⟨0, (rd_T31 ws (I : Int)).f1, ⟨#[]⟩, z.1⟩]) (z.2.1 + 1) z.2.2.1 (if z.2.2.2.2 = 0 ∧ ws.length ≤ z.2.1 then -1 else z.2.2.2.1) (if z.2.2.2.2 = 0 ∧ ws.length ≤ z.2.1 then 4 else z.2.2.2.2) else none)
    else rnodes k ws M deep (out ++ [⟨(rd_T31 ws (I : Int)).f0, (rd_T31 ws (I : Int)).f1, (rd_T31 ws (I : Int)).f3, []⟩]) (I + 1) D At E) else none)) else some (out, I, D, At, E)) else some (out, I, D, At, E)
theorem wC_keep {w w1 : World} {g : Nat} {A : Option Addr} {ws : List S31} (h : Kd.C k31 w A ws.length ws) (hk : KeepBut w w1 g none) (hA : ∀ ad, A = some ad → ad.block ≠ g) : Kd.C k31 w1 A ws.length ws :=
 ⟨h.1, h.2.1, fun hn => by
  obtain ⟨ad, e, hc⟩ := h.2.2 hn
  refine ⟨ad, e, fun j p hj => ?_⟩
  obtain ⟨c, hs, hr, hcell⟩ := hc j p hj
  refine ⟨c, hs, ?_, fun i u hu => keep_cell hk (hcell i u hu) (by rw [add_block]; exact hA ad e)⟩
  obtain rfl := k31_open hr
  exact k31_mk w1 p⟩
theorem R_setg {w : World} {base g : Nat} {v : Value} {xs : List S90} (h : Kd.R k90 90 w base (fun _ => True) v xs) (hg : g < base) (j : Nat) (u : Value) : Kd.R k90 90 (w.setCell ⟨g, j, none⟩ u) base (fun _ => True) v xs :=
 Kd.R_mono (Kd.R_far (p := ⟨g, j, none⟩) (Kd.R_bound h) (fun k hk => by have := hk.2.1; show k ≠ g; omega) u) (fun _ _ => trivial)
theorem R_keepg {w w1 : World} {base g : Nat} {v : Value} {xs : List S90} (h : Kd.R k90 90 w base (fun _ => True) v xs) (hg : g < base) (hk : KeepBut w w1 g none) : Kd.R k90 90 w1 base (fun _ => True) v xs :=
 Kd.R_mono (Kd.R_keep (Kd.R_bound h) hk (fun k hk => by have := hk.2.1; omega)) (fun _ _ => trivial)
theorem keep_then {w w4 w5 : World} {g : Nat} (h : KeepBut w w4 g none) (hb : Below w.heap.size w4 w5) : KeepBut w w5 g none :=
 ⟨Nat.le_trans h.1 hb.size, fun i hi hne hr => (hb.block i hi).trans (h.2 i hi hne hr)⟩
theorem infoN90 : (Try.prog.info? 90).map (fun i => (i.zero, i.size, i.bytes)) = some (some (.agg #[(.int .u8 0), (.int .i64 0), (.string ⟨#[]⟩), (.slice none 0 0)]), 4, 56) := by kernel_rfl
set_option maxRecDepth 100000 in
set_option maxHeartbeats 16000000 in
theorem nodes_calls (g : Nat) (A : Option Addr) (c : Nat) (ws : List S31) (M : Int) (B : Nat) (hB : B ≤ g) (hA : ∀ ad, A = some ad → ad.block ≠ g) (k : Nat) : ∀ (deep : Int) (I : Nat) (D At E : Int) (res : List S90 × Nat × Int × Int × Int) (w : World),
  w.heap[g]? = some (.cells (rc A ws.length c I M D At E) 93 (0, 0)) → Kd.C k31 w A ws.length ws → rnodes k ws M deep [] I D At E = some res →
  Calls Try.prog 57 #[.pointer (some ⟨g, 0, none⟩), .int .i64 deep] w fun e w' => ∃ v, e = .returned v ∧ Kd.R k90 90 w' w.heap.size (fun _ => True) v res.1 ∧ w'.heap[g]? = some (.cells (rc A ws.length c res.2.1 M res.2.2.1 res.2.2.2.1 res.2.2.2.2) 93 (0, 0)) ∧ KeepBut w w' g none ∧ Below B w w' := by
 induction k using Nat.strongRecOn with
 | _ k ih =>
 intro deep I D At E res w hm hws h
 have IH := Aside0.mk ih
 have HWS := Aside0.mk hws
 have HM := Aside0.mk hm
 have HH := Aside0.mk h
 have hgl : g < w.heap.size := blk_lt hm
 have HGL := Aside0.mk hgl
 clear ih hws hm h hgl
 go_enter Try.func57, Try.ntmps57
 go_wp2
 go_loopg [5] k (fun kq v5 w' => ∃ (out : List S90) (I : Nat) (D At E : Int), Aside0 (rnodes kq ws M deep out I D At E = some res) ∧ Aside0 (kq ≤ k) ∧ Aside0 (Kd.R k90 90 w' w.heap.size (fun _ => True) v5 out) ∧ Aside0 (w'.heap[g]? = some (.cells (rc A ws.length c I M D At E) 93 (0, 0))) ∧ Aside0 (KeepBut w w' g none) ∧ Aside0 (Below B w w'))
 case atStart => exact ⟨[], I, D, At, E, HH, ⟨Nat.le_refl _⟩, ⟨Kd.R_nil _ _ _ _ _⟩, HM, ⟨KeepBut.refl _ _ _⟩, ⟨Below.refl _ _⟩⟩
 case round =>
  clear HH HM
  obtain ⟨out, I, D, At, E, HA, HK1, HO, HM, HK, HB⟩ := hrel
  cases gk with
  | zero => exact absurd HA.out (by simp [rnodes])
  | succ k1 =>
  have H := HA.out
  clear HA
  unfold rnodes at H
  have h0 : wr.cell? ⟨g, 0, none⟩ = some (.slice A ws.length c) := (blk_cell HM.out 0).trans rfl
  have h1 : wr.cell? ⟨g, 1, none⟩ = some (.int .i64 (I : Int)) := (blk_cell HM.out 1).trans rfl
  have h5 : wr.cell? ⟨g, 5, none⟩ = some (.int .i64 E) := (blk_cell HM.out 5).trans rfl
  by_cases cE : E = 0
  ·rw [if_pos cE] at H
   have cEb : (E == 0) = true := beq_iff_eq.mpr cE
   by_cases cI : I < ws.length
   ·rw [if_pos cI] at H
    have cIb : decide ((I : Int) < (ws.length : Int)) = true := decide_eq_true (by omega)
    have p0 : (0 : Int) ≤ (I : Int) := by omega
    have q0 : (I : Int) < (ws.length : Int) := by omega
    obtain ⟨ad, ead, h00, h01, h02, h03⟩ := at_T31 (wC_keep HWS.out HK.out hA) (I : Int) p0 q0
    obtain ⟨x, hx⟩ : ∃ x, x = rd_T31 ws (I : Int) := ⟨_, rfl⟩
    rw [← hx] at H h00 h01 h02 h03
    rw [Int.toNat_natCast] at h00 h01 h02 h03
    have HX := Aside0.mk hx
    clear hx cI
    subst ead
    by_cases c2 : x.f0 = 2
    ·rw [if_pos c2] at H
     have HR := Aside0.mk (Option.some.inj H)
     have c2b : (x.f0 != 2) = false := bne_eq_false_iff_eq.mpr c2
     clear H c2 cE
     replace p0 := eq_true p0
     replace q0 := eq_true q0
     go_wp2
     go_quiet (fail)
     go_wp2
     go_ret
     rw [← HR.out]
     exact ⟨_, rfl, Kd.R_drewN HO.out _, blk_drewN HM.out _, HK.out, pw_below_drewN HB.out _⟩
    ·rw [if_neg c2] at H
     have c2b : (x.f0 != 2) = true := bne_iff_ne.mpr c2
     by_cases cg : out.length < 1000000 ∧ I < 1000000000 ∧ (0 ≤ deep ∧ deep < 1000000000)
     ·rw [if_pos cg] at H
      have CG := Aside0.mk cg
      have hw1 : wrap64 ((I : Int) + 1) = (I : Int) + 1 := by have := cg.2.1; unfold wrap64; omega
      have hw2 : wrap64 (deep + 1) = deep + 1 := by have := cg.2.2; unfold wrap64; omega
      have HH := Aside0.mk H
      clear cg c2 H cE
      replace p0 := eq_true p0
      replace q0 := eq_true q0
      go_wp2
      go_quiet (fail)
      go_wp2
      have g0 : (wr.drewN nq).drew.cell? ⟨g, 0, none⟩ = some (.slice (some ad) ws.length c) := h0
      have g1 : (wr.drewN nq).drew.cell? ⟨g, 1, none⟩ = some (.int .i64 (I : Int)) := h1
      have k0 : (wr.drewN nq).drew.cell? (ad.add (I * 4)) = some (.int .u8 x.f0) := h00
      have k1 : (wr.drewN nq).drew.cell? ⟨(ad.add (I * 4)).block, (ad.add (I * 4)).off + 1, none⟩ = some (.int .i64 x.f1) := h01
      have k2 : (wr.drewN nq).drew.cell? ⟨(ad.add (I * 4)).block, (ad.add (I * 4)).off + 2, none⟩ = some (.int .i64 x.f2) := h02
      have k3 : (wr.drewN nq).drew.cell? ⟨(ad.add (I * 4)).block, (ad.add (I * 4)).off + 3, none⟩ = some (.string x.f3) := h03
      clear h0 h1 h5 h00 h01 h02 h03
      refine start_ (n := 12) (S := fun w' => w'.cell? ⟨g, 0, none⟩ = some (.slice (some ad) ws.length c) ∧ w'.cell? ⟨g, 1, none⟩ = some (.int .i64 (I : Int)) ∧ w'.cell? (ad.add (I * 4)) = some (.int .u8 x.f0) ∧ w'.cell? ⟨(ad.add (I * 4)).block, (ad.add (I * 4)).off + 1, none⟩ = some (.int .i64 x.f1) ∧ w'.cell? ⟨(ad.add (I * 4)).block, (ad.add (I * 4)).off + 2, none⟩ = some (.int .i64 x.f2) ∧ w'.cell? ⟨(ad.add (I * 4)).block, (ad.add (I * 4)).off + 3, none⟩ = some (.string x.f3)) (ds := [11]) #[false, false, false, false, false, false, false, false, false, false, false, false] (by kernel_rfl) rfl rfl ⟨g0, g1, k0, k1, k2, k3⟩ (fun hHeld => ?_)
      generalize hwx : World.drew (wr.drewN nq) = wx at hHeld ⊢
      have HXH := Aside0.mk (show wx.heap = wr.heap by rw [← hwx]; rfl)
      have HXB := Aside0.mk (show Below wr.heap.size wr wx by rw [← hwx]; exact ⟨rfl, rfl, rfl, Nat.le_refl _, fun _ _ => rfl⟩)
      clear hwx g0 g1 k0 k1 k2 k3
      refine pure_ (i := 0) (N := some 39) (v := ?_) (a' := ?_) #[true, false, false, false, false, false, false, false, false, false, false, false] rfl rfl (by kernel_rfl) (fun _ _ _ h => h) (Or.inl ⟨by rfl, ?_⟩) ?_ ?_
      rotate_left
      ·intro w'
       go_simp
       with_reducible rfl
      rotate_left
      ·simp only [Act.put, List.setIfInBounds_toArray, List.set_cons_zero, List.set_cons_succ, i64_w, i32_w]
       rfl
      refine pure_ (i := 1) (N := some 40) (v := ?_) (a' := ?_) #[true, true, false, false, false, false, false, false, false, false, false, false] rfl rfl (by kernel_rfl) (fun _ _ _ h => h) (Or.inl ⟨by rfl, ?_⟩) ?_ ?_
      rotate_left
      ·intro w'
       go_simp
       with_reducible rfl
      rotate_left
      ·simp only [Act.put, List.setIfInBounds_toArray, List.set_cons_zero, List.set_cons_succ, i64_w, i32_w]
       rfl
      refine pure_ (i := 2) (N := some 41) (v := ?_) (a' := ?_) #[true, true, true, false, false, false, false, false, false, false, false, false] rfl rfl (by kernel_rfl) (fun _ _ _ h => h) (Or.inl ⟨by rfl, ?_⟩) ?_ ?_
      rotate_left
      ·intro w'
       go_simp
       with_reducible rfl
      rotate_left
      ·simp only [Act.put, List.setIfInBounds_toArray, List.set_cons_zero, List.set_cons_succ, i64_w, i32_w]
       rfl
      refine take_ (i := 3) (N := some 42) (v := ?_) (a' := ?_) #[true, true, true, true, false, false, false, false, false, false, false, false] rfl rfl (by kernel_rfl) (fun _ _ _ h => h) (Or.inl ⟨by rfl, ?_⟩) hHeld ?_ ?_
      rotate_left
      ·intro w' hw'
       obtain ⟨hw0_, hw1_, hw2_, hw3_, hw4_, hw5_⟩ := hw'
       go_simp
       with_reducible rfl
      rotate_left
      ·simp only [Act.put, List.setIfInBounds_toArray, List.set_cons_zero, List.set_cons_succ, i64_w, i32_w]
       rfl
      refine pure_ (i := 4) (N := some 43) (v := ?_) (a' := ?_) #[true, true, true, true, true, false, false, false, false, false, false, false] rfl rfl (by kernel_rfl) (fun _ _ _ h => h) (Or.inl ⟨by rfl, ?_⟩) ?_ ?_
      rotate_left
      ·intro w'
       go_simp
       with_reducible rfl
      rotate_left
      ·simp only [Act.put, List.setIfInBounds_toArray, List.set_cons_zero, List.set_cons_succ, i64_w, i32_w]
       rfl
      refine pure_ (i := 5) (N := some 44) (v := ?_) (a' := ?_) #[true, true, true, true, true, true, false, false, false, false, false, false] rfl rfl (by kernel_rfl) (fun _ _ _ h => h) (Or.inl ⟨by rfl, ?_⟩) ?_ ?_
      rotate_left
      ·intro w'
       go_simp
       with_reducible rfl
      rotate_left
      ·simp only [Act.put, List.setIfInBounds_toArray, List.set_cons_zero, List.set_cons_succ, i64_w, i32_w]
       rfl
      refine pure_ (i := 6) (N := some 45) (v := ?_) (a' := ?_) #[true, true, true, true, true, true, true, false, false, false, false, false] rfl rfl (by kernel_rfl) (fun _ _ _ h => h) (Or.inl ⟨by rfl, ?_⟩) ?_ ?_
      rotate_left
      ·intro w'
       go_simp
       with_reducible rfl
      rotate_left
      ·simp only [Act.put, List.setIfInBounds_toArray, List.set_cons_zero, List.set_cons_succ, i64_w, i32_w]
       rfl
      refine take_ (i := 7) (N := some 46) (v := ?_) (a' := ?_) #[true, true, true, true, true, true, true, true, false, false, false, false] rfl rfl (by kernel_rfl) (fun _ _ _ h => h) (Or.inl ⟨by rfl, ?_⟩) hHeld ?_ ?_
      rotate_left
      ·intro w' hw'
       obtain ⟨hw0_, hw1_, hw2_, hw3_, hw4_, hw5_⟩ := hw'
       go_simp
       with_reducible rfl
      rotate_left
      ·simp only [Act.put, List.setIfInBounds_toArray, List.set_cons_zero, List.set_cons_succ, i64_w, i32_w]
       rfl
      refine pure_ (i := 8) (N := some 47) (v := ?_) (a' := ?_) #[true, true, true, true, true, true, true, true, true, false, false, false] rfl rfl (by kernel_rfl) (fun _ _ _ h => h) (Or.inl ⟨by rfl, ?_⟩) ?_ ?_
      rotate_left
      ·intro w'
       go_simp
       with_reducible rfl
      rotate_left
      ·simp only [Act.put, List.setIfInBounds_toArray, List.set_cons_zero, List.set_cons_succ, i64_w, i32_w]
       rfl
      refine take_ (i := 9) (N := some 48) (v := ?_) (a' := ?_) #[true, true, true, true, true, true, true, true, true, true, false, false] rfl rfl (by kernel_rfl) (fun _ _ _ h => h) (Or.inl ⟨by rfl, ?_⟩) hHeld ?_ ?_
      rotate_left
      ·intro w' hw'
       obtain ⟨hw0_, hw1_, hw2_, hw3_, hw4_, hw5_⟩ := hw'
       go_simp
       with_reducible rfl
      rotate_left
      ·simp only [Act.put, List.setIfInBounds_toArray, List.set_cons_zero, List.set_cons_succ, i64_w, i32_w]
       rfl
      refine one_ (i := 10) (N := some 6) #[true, true, true, true, true, true, true, true, true, true, true, false] rfl rfl (by kernel_rfl) (by decide) (fun K hK => ?_)
      refine run_step_ (v := .pointer (some ⟨wx.heap.size, 0, none⟩)) (w1 := wx.alloc (.cells #[.int .u8 0, .int .i64 0, .int .i64 0, .string (⟨#[]⟩ : ByteArray)] 31)) (by rfl) rfl ?hr ?_
      case hr => first | (go_simp; done) | (go_simp; rfl)
      have ha : Below wx.heap.size wx (wx.alloc (.cells #[.int .u8 0, .int .i64 0, .int .i64 0, .string (⟨#[]⟩ : ByteArray)] 31)) := (Below.refl _ _).alloc (Nat.le_refl _) _
      refine hK.out _ _ ⟨pw_cell_below ha hHeld.1, pw_cell_below ha hHeld.2.1, pw_cell_below ha hHeld.2.2.1, pw_cell_below ha hHeld.2.2.2.1, pw_cell_below ha hHeld.2.2.2.2.1, pw_cell_below ha hHeld.2.2.2.2.2⟩ (fun hHeld2 => ?_)
      clear hK K ha
      refine norm_ (a' := ?_) ?_ ?_
      rotate_left
      ·show Act.put _ (some 6) _ = _
       simp only [Act.put, List.setIfInBounds_toArray, List.set_cons_zero, List.set_cons_succ, i64_w, i32_w]
       rfl
      have hbx : (wx.alloc (.cells #[.int .u8 0, .int .i64 0, .int .i64 0, .string (⟨#[]⟩ : ByteArray)] 31)).heap[wx.heap.size]? = some (.cells #[.int .u8 0, .int .i64 0, .int .i64 0, .string (⟨#[]⟩ : ByteArray)] 31 (0, 0)) := blk_new wx _
      obtain ⟨wy, hwy⟩ : ∃ wy, wy = wx.alloc (.cells #[.int .u8 0, .int .i64 0, .int .i64 0, .string (⟨#[]⟩ : ByteArray)] 31) := ⟨_, rfl⟩
      obtain ⟨b, hb⟩ : ∃ b, b = wx.heap.size := ⟨_, rfl⟩
      have hby := Aside0.mk (show Below wx.heap.size wx wy by rw [hwy]; exact (Below.refl _ _).alloc (Nat.le_refl _) _)
      rw [← hwy, ← hb] at hbx
      rw [← hwy, ← hb]
      have HBB := Aside0.mk hb
      clear hwy hb
      have f0 := blk_frozen hbx 0
      have f1 := blk_frozen hbx 1
      have f2 := blk_frozen hbx 2
      have f3 := blk_frozen hbx 3
      have e0 : wy.cell? ⟨b, 0, none⟩ = some (.int .u8 0) := (blk_cell hbx 0).trans rfl
      have e1 : wy.cell? ⟨b, 1, none⟩ = some (.int .i64 0) := (blk_cell hbx 1).trans rfl
      have e2 : wy.cell? ⟨b, 2, none⟩ = some (.int .i64 0) := (blk_cell hbx 2).trans rfl
      have e3 : wy.cell? ⟨b, 3, none⟩ = some (.string (⟨#[]⟩ : ByteArray)) := (blk_cell hbx 3).trans rfl
      have HBX := Aside0.mk hbx
      clear hbx hHeld
      refine last_ (i := 11) (N := none) #[true, true, true, true, true, true, true, true, true, true, true, true] rfl rfl (by kernel_rfl) (by decide) (fun K hK => ?_)
      refine skip_ (w1 := (((wy.setCell ⟨b, 0, none⟩ (.int .u8 x.f0)).setCell ⟨b, 1, none⟩ (.int .i64 x.f1)).setCell ⟨b, 2, none⟩ (.int .i64 x.f2)).setCell ⟨b, 3, none⟩ (.string x.f3)) (by rfl) rfl ?_ ?_
      ·go_simp
      refine hK.out _ _ ?_
      clear hK K
      refine done_ (by kernel_rfl) ?_
      have hwb : b = wr.heap.size := by rw [HBB.out, HXH.out]
      have hBz : Below wr.heap.size wr ((((wy.setCell ⟨b, 0, none⟩ (.int .u8 x.f0)).setCell ⟨b, 1, none⟩ (.int .i64 x.f1)).setCell ⟨b, 2, none⟩ (.int .i64 x.f2)).setCell ⟨b, 3, none⟩ (.string x.f3)) :=
       ((((below_step HXB.out hby.out).setCell (p := ⟨b, 0, none⟩) (Nat.le_of_eq hwb.symm) _).setCell (p := ⟨b, 1, none⟩) (Nat.le_of_eq hwb.symm) _).setCell (p := ⟨b, 2, none⟩) (Nat.le_of_eq hwb.symm) _).setCell (p := ⟨b, 3, none⟩) (Nat.le_of_eq hwb.symm) _
      have hQz : ((((wy.setCell ⟨b, 0, none⟩ (.int .u8 x.f0)).setCell ⟨b, 1, none⟩ (.int .i64 x.f1)).setCell ⟨b, 2, none⟩ (.int .i64 x.f2)).setCell ⟨b, 3, none⟩ (.string x.f3)).heap[b]? = some (.cells #[.int .u8 x.f0, .int .i64 x.f1, .int .i64 x.f2, .string x.f3] 31 (0, 0)) :=
       blk_put (blk_put (blk_put (blk_put HBX.out 0 _ rfl) 1 _ rfl) 2 _ rfl) 3 _ rfl
      generalize hwz : (((wy.setCell ⟨b, 0, none⟩ (.int .u8 x.f0)).setCell ⟨b, 1, none⟩ (.int .i64 x.f1)).setCell ⟨b, 2, none⟩ (.int .i64 x.f2)).setCell ⟨b, 3, none⟩ (.string x.f3) = wz at hBz hQz ⊢
      have hgr : w.heap.size ≤ wr.heap.size := HK.out.1
      have hbg : b ≠ g := by have := HGL.out; omega
      have hMz := blk_below HM.out hBz
      have HBG := Aside0.mk hbg
      have HZ0 := Aside0.mk (HB.out.trans (hBz.mono (show B ≤ wr.heap.size by have := HGL.out; omega)))
      have HZ1 := Aside0.mk (keep_then HK.out (hBz.mono hgr))
      have HZ2 := Aside0.mk (Kd.R_below HO.out hBz)
      have HZ3 := Aside0.mk hMz
      have HZ4 := Aside0.mk hQz
      clear hwz hBz hQz hMz hgr hbg hwb f0 f1 f2 f3 e0 e1 e2 e3 hHeld2 HBX hby HXB HXH HBB HO HK HB HM
      have h1 : wz.cell? ⟨g, 1, none⟩ = some (.int .i64 (I : Int)) := (blk_cell HZ3.out 1).trans rfl
      have f1 := blk_frozen HZ3.out 1
      go_upto_region 5 with (fail)
      have hI1 : (I : Int) + 1 = ((I + 1 : Nat) : Int) := by omega
      have HY0 := Aside0.mk (HZ0.out.setCell (p := ⟨g, 1, none⟩) hB (.int .i64 ((I : Int) + 1)))
      have HY1 := Aside0.mk (HZ1.out.set_ 1 (.int .i64 ((I : Int) + 1)))
      have HY2 := Aside0.mk (R_setg HZ2.out HGL.out 1 (.int .i64 ((I : Int) + 1)))
      have HY3 := Aside0.mk (show (wz.setCell ⟨g, 1, none⟩ (.int .i64 ((I : Int) + 1))).heap[g]? = some (.cells (rc (some ad) ws.length c ((I + 1 : Nat) : Int) M D At E) 93 (0, 0)) from blk_put HZ3.out 1 _ (by rw [hI1]; rfl))
      have HY4 := Aside0.mk (show (wz.setCell ⟨g, 1, none⟩ (.int .i64 ((I : Int) + 1))).heap[b]? = _ from (heap_setCell_other wz ⟨g, 1, none⟩ b _ HBG.out).trans HZ4.out)
      generalize hw4 : wz.setCell ⟨g, 1, none⟩ (.int .i64 ((I : Int) + 1)) = w4 at HY0 HY1 HY2 HY3 HY4 ⊢
      clear hw4 hI1 h1 f1 HZ0 HZ1 HZ2 HZ3 HZ4
      have y0 : w4.cell? ⟨b, 0, none⟩ = some (.int .u8 x.f0) := (blk_cell HY4.out 0).trans rfl
      have y1 : w4.cell? ⟨b, 1, none⟩ = some (.int .i64 x.f1) := (blk_cell HY4.out 1).trans rfl
      have y3 : w4.cell? ⟨b, 3, none⟩ = some (.string x.f3) := (blk_cell HY4.out 3).trans rfl
      by_cases c1 : x.f0 = 1
      ·have H2 := HH.out
       rw [if_pos c1] at H2
       have c1b : (x.f0 != 1) = false := bne_eq_false_iff_eq.mpr c1
       by_cases cm : deep + 1 > M
       ·rw [if_pos cm] at H2
        have HR := Aside0.mk (Option.some.inj H2)
        have cmb : decide (M < deep + 1) = true := decide_eq_true (by omega)
        have h2 : w4.cell? ⟨g, 2, none⟩ = some (.int .i64 M) := (blk_cell HY3.out 2).trans rfl
        have h5 : w4.cell? ⟨g, 5, none⟩ = some (.int .i64 E) := (blk_cell HY3.out 5).trans rfl
        have f5 := blk_frozen HY3.out 5
        clear H2 cm HH
        go_upto_region 9 with (fail)
        have HX0 := Aside0.mk (HY0.out.setCell (p := ⟨g, 5, none⟩) hB (.int .i64 46))
        have HX1 := Aside0.mk (HY1.out.set_ 5 (.int .i64 46))
        have HX3 := Aside0.mk (show (w4.setCell ⟨g, 5, none⟩ (.int .i64 46)).heap[g]? = some (.cells (rc (some ad) ws.length c ((I + 1 : Nat) : Int) M D At 46) 93 (0, 0)) from blk_put HY3.out 5 _ rfl)
        have HX4 := Aside0.mk (show (w4.setCell ⟨g, 5, none⟩ (.int .i64 46)).heap[b]? = _ from (heap_setCell_other w4 ⟨g, 5, none⟩ b _ HBG.out).trans HY4.out)
        generalize hw6 : w4.setCell ⟨g, 5, none⟩ (.int .i64 46) = w6 at HX0 HX1 HX3 HX4 ⊢
        clear hw6 h2 h5 f5 y0 y1 y3 HY0 HY1 HY2 HY3 HY4
        have z1 : w6.cell? ⟨b, 1, none⟩ = some (.int .i64 x.f1) := (blk_cell HX4.out 1).trans rfl
        have h4 : w6.cell? ⟨g, 4, none⟩ = some (.int .i64 At) := (blk_cell HX3.out 4).trans rfl
        have f4 := blk_frozen HX3.out 4
        go_wp2
        go_ret
        rw [← HR.out]
        exact ⟨_, rfl, Kd.R_nil _ _ _ _ _, blk_put HX3.out 4 _ rfl, HX1.out.set_ 4 _, HX0.out.setCell (p := ⟨g, 4, none⟩) hB _⟩
       ·rw [if_neg cm] at H2
        obtain ⟨z, hz, H3⟩ := Option.bind_eq_some_iff.mp H2
        obtain ⟨kids, I2, D2, At2, E2⟩ := z
        dsimp only at H3
        by_cases ci2 : I2 < 1000000000
        ·rw [if_pos ci2] at H3
         have cmb : decide (M < deep + 1) = false := decide_eq_false (by omega)
         obtain ⟨D1, hD1⟩ : ∃ D1, (if D < deep + 1 then deep + 1 else D) = D1 := ⟨_, rfl⟩
         rw [show mx D (deep + 1) = D1 from hD1] at hz
         have h2 : w4.cell? ⟨g, 2, none⟩ = some (.int .i64 M) := (blk_cell HY3.out 2).trans rfl
         have h3 : w4.cell? ⟨g, 3, none⟩ = some (.int .i64 D) := (blk_cell HY3.out 3).trans rfl
         have f3 := blk_frozen HY3.out 3
         have HN := Aside0.mk H3
         have HZ := Aside0.mk hz
         have HI2 := Aside0.mk ci2
         clear H2 H3 hz ci2 cm HH
         go_upto_region 12 with (fail)
         have HX0 := Aside0.mk (HY0.out.setCell (p := ⟨g, 3, none⟩) hB (.int .i64 D1))
         have HX1 := Aside0.mk (HY1.out.set_ 3 (.int .i64 D1))
         have HX2 := Aside0.mk (R_setg HY2.out HGL.out 3 (.int .i64 D1))
         have HX3 := Aside0.mk (show (w4.setCell ⟨g, 3, none⟩ (.int .i64 D1)).heap[g]? = some (.cells (rc (some ad) ws.length c ((I + 1 : Nat) : Int) M D1 At E) 93 (0, 0)) from blk_put HY3.out 3 _ rfl)
         have HX4 := Aside0.mk (show (w4.setCell ⟨g, 3, none⟩ (.int .i64 D1)).heap[b]? = _ from (heap_setCell_other w4 ⟨g, 3, none⟩ b _ HBG.out).trans HY4.out)
         generalize hw7 : w4.setCell ⟨g, 3, none⟩ (.int .i64 D1) = w7 at HX0 HX1 HX2 HX3 HX4 ⊢
         clear hw7 hD1 h2 h3 f3 y0 y1 y3 HY0 HY1 HY2 HY3 HY4
         have HC := Aside0.mk (IH.out k1 (by have := HK1.out; omega) (deep + 1) (I + 1) D1 At E (kids, I2, D2, At2, E2) w7 HX3.out (wC_keep HWS.out HX1.out hA) HZ.out)
         go_upto_region 13 with (go_at_call 57; refine HC.out.mono ?_; rintro e w8 ⟨v7, rfl, hr8, hm8, hk8, hb8⟩)
         obtain ⟨A7, c7, e7⟩ := Kd.R_slice hr8
         subst e7
         have HG7 := Aside0.mk (show g < w7.heap.size from blk_lt HX3.out)
         have HL7 := Aside0.mk (show w.heap.size ≤ w7.heap.size from HX1.out.1)
         have HF7 := Aside0.mk (fun (k_ : Nat) (hk_ : w7.heap.size ≤ k_) => Kd.fresh' (Kd.R_lt HX2.out) k_ hk_)
         have HR8 := Aside0.mk hr8
         have HM8 := Aside0.mk hm8
         have HQ8 := Aside0.mk ((hk8.2 b (blk_lt HX4.out) HBG.out (by simp)).trans HX4.out)
         have HO8 := Aside0.mk (R_keepg HX2.out HGL.out hk8)
         have HK8 := Aside0.mk (HX1.out.trans hk8 (.inl rfl))
         have HB8 := Aside0.mk (HX0.out.trans hb8)
         clear hr8 hm8 hk8 hb8 HX0 HX1 HX2 HX3 HX4 HC HZ
         have g0 : w8.cell? ⟨g, 0, none⟩ = some (.slice (some ad) ws.length c) := (blk_cell HM8.out 0).trans rfl
         have g1 : w8.cell? ⟨g, 1, none⟩ = some (.int .i64 (I2 : Int)) := (blk_cell HM8.out 1).trans rfl
         have g4 : w8.cell? ⟨g, 4, none⟩ = some (.int .i64 At2) := (blk_cell HM8.out 4).trans rfl
         have g5 : w8.cell? ⟨g, 5, none⟩ = some (.int .i64 E2) := (blk_cell HM8.out 5).trans rfl
         have f4 := blk_frozen HM8.out 4
         have f5 := blk_frozen HM8.out 5
         by_cases c5 : E2 = 0
         ·have c5b : (E2 == 0) = true := beq_iff_eq.mpr c5
          by_cases c6 : ws.length ≤ I2
          ·have c6b : decide (ws.length ≤ I2) = true := decide_eq_true c6
           have HN3 := HN.out
           rw [if_pos ⟨c5, c6⟩, if_pos ⟨c5, c6⟩] at HN3
           replace HN3 := Aside0.mk HN3
           clear c5 c6 HN
           go_quiet (fail)
           go_upto_region 16 with (fail)
           have HW0 := Aside0.mk (((pw_below_drewN HB8.out nq).setCell (p := ⟨g, 5, none⟩) hB (.int .i64 4)).setCell (p := ⟨g, 4, none⟩) hB (.int .i64 (-1)))
           have HW1 := Aside0.mk ((((show KeepBut w (w8.drewN nq) g none from HK8.out).set_ 5 (.int .i64 4)).set_ 4 (.int .i64 (-1))))
           have HW2 := Aside0.mk (R_setg (R_setg (Kd.R_drewN HO8.out nq) HGL.out 5 (.int .i64 4)) HGL.out 4 (.int .i64 (-1)))
           have HW5 := Aside0.mk (R_setg (R_setg (Kd.R_drewN HR8.out nq) HG7.out 5 (.int .i64 4)) HG7.out 4 (.int .i64 (-1)))
           have HW3 := Aside0.mk (show (((w8.drewN nq).setCell ⟨g, 5, none⟩ (.int .i64 4)).setCell ⟨g, 4, none⟩ (.int .i64 (-1))).heap[g]? = some (.cells (rc (some ad) ws.length c (I2 : Int) M D2 (-1) (4)) 93 (0, 0)) from blk_put (blk_put (blk_drewN HM8.out nq) 5 _ rfl) 4 _ rfl)
           have HW4 := Aside0.mk (show (((w8.drewN nq).setCell ⟨g, 5, none⟩ (.int .i64 4)).setCell ⟨g, 4, none⟩ (.int .i64 (-1))).heap[b]? = some (.cells #[.int .u8 x.f0, .int .i64 x.f1, .int .i64 x.f2, .string x.f3] 31 (0, 0)) from (heap_setCell_other ((w8.drewN nq).setCell ⟨g, 5, none⟩ (.int .i64 4)) ⟨g, 4, none⟩ b (.int .i64 (-1)) HBG.out).trans ((heap_setCell_other (w8.drewN nq) ⟨g, 5, none⟩ b (.int .i64 4) HBG.out).trans (blk_drewN HQ8.out nq)))
           generalize hwW : ((w8.drewN nq).setCell ⟨g, 5, none⟩ (.int .i64 4)).setCell ⟨g, 4, none⟩ (.int .i64 (-1)) = W at HW0 HW1 HW2 HW3 HW4 HW5 ⊢
           clear hwW g0 g1 g4 g5 f4 f5 HB8 HK8 HO8 HR8 HM8 HQ8
           have hwI := Aside0.mk (show wrap64 ((I2 : Int) + 1) = (I2 : Int) + 1 by have := HI2.out; unfold wrap64; omega)
           have hwI' := hwI.out
           have h1 : W.cell? ⟨g, 1, none⟩ = some (.int .i64 (I2 : Int)) := (blk_cell HW3.out 1).trans rfl
           have f1 := blk_frozen HW3.out 1
           go_upto_region 17 with (fail)
           have hI2 : (I2 : Int) + 1 = ((I2 + 1 : Nat) : Int) := by omega
           have HV0 := Aside0.mk (HW0.out.setCell (p := ⟨g, 1, none⟩) hB (.int .i64 ((I2 : Int) + 1)))
           have HV1 := Aside0.mk (HW1.out.set_ 1 (.int .i64 ((I2 : Int) + 1)))
           have HV2 := Aside0.mk (R_setg HW2.out HGL.out 1 (.int .i64 ((I2 : Int) + 1)))
           have HV5 := Aside0.mk (R_setg HW5.out HG7.out 1 (.int .i64 ((I2 : Int) + 1)))
           have HV3 := Aside0.mk (show (W.setCell ⟨g, 1, none⟩ (.int .i64 ((I2 : Int) + 1))).heap[g]? = some (.cells (rc (some ad) ws.length c ((I2 + 1 : Nat) : Int) M D2 (-1) (4)) 93 (0, 0)) from blk_put HW3.out 1 _ (by rw [hI2]; rfl))
           have HV4 := Aside0.mk (show (W.setCell ⟨g, 1, none⟩ (.int .i64 ((I2 : Int) + 1))).heap[b]? = _ from (heap_setCell_other W ⟨g, 1, none⟩ b _ HBG.out).trans HW4.out)
           generalize hwv : W.setCell ⟨g, 1, none⟩ (.int .i64 ((I2 : Int) + 1)) = wv at HV0 HV1 HV2 HV3 HV4 HV5 ⊢
           clear hwv hI2 h1 f1 hwI' HW0 HW1 HW2 HW3 HW4 HW5
           have y1 : wv.cell? ⟨b, 1, none⟩ = some (.int .i64 x.f1) := (blk_cell HV4.out 1).trans rfl
           go_wp2_with ((with_reducible refine gate_builtin (b := .append) (xs := #[.tmp 128, .tmp 133]) rfl ?_); (try (refine gate_guard (by rfl) ?_; dsimp only)); at_builtin; refine Kd.R_append k90 (w0 := wv) w.heap.size rfl (.tmp 128) (.tmp 133) 57 90 (.agg #[(.int .u8 0), (.int .i64 0), (.string ⟨#[]⟩), (.slice none 0 0)]) 56 rfl Try.underlying57 infoN90 rfl (by decide) (by omega) u5 out (⟨0, x.f1, ⟨#[]⟩, kids⟩ : S90) [.int .u8 0, .int .i64 x.f1, .string (⟨#[]⟩ : ByteArray), .slice A7 kids.length c7] (fun _ => True) (fun k_ => some k_ ≠ (u5 : Value).ownBlock) rfl rfl ?aP (fun _ hk => ⟨trivial, hk⟩) ?aF ?aO ?aB ?aS ?aL ?_; (case aP => exact k90_mkM _ _ _ (⟨0, x.f1, ⟨#[]⟩, kids⟩ : S90) (Kd.R_mono (Kd.R_lower (Kd.R_bound HV5.out) HL7.out) (fun k_ hk_ => HF7.out k_ hk_.2.1))); (case aF => exact (fun _ _ => trivial)); (case aO => exact HV2.out); (case aB => exact Below.refl _ _); (case aS => exact HV1.out.1); (case aL => have := CG.out.1; omega); intro v1 wn ho hb hg hat; have HO5 := Aside0.mk ho; have HB5 := Aside0.mk hb; clear ho hb hg hat)
           go_roundg k1
           case measure => have := HK1.out; omega
           case rel => exact ⟨_, I2 + 1, D2, -1, 4, HN3, ⟨by have := HK1.out; omega⟩, HO5, ⟨(HB5.out.block g HGL.out).trans HV3.out⟩, ⟨keep_then HV1.out HB5.out⟩, ⟨HV0.out.trans (HB5.out.mono (by have := HGL.out; omega))⟩⟩
          ·have c6b : decide (ws.length ≤ I2) = false := decide_eq_false c6
           have HN3 := HN.out
           rw [if_neg (fun h => c6 h.2), if_neg (fun h => c6 h.2)] at HN3
           replace HN3 := Aside0.mk HN3
           clear c5 c6 HN
           go_quiet (fail)
           go_upto_region 16 with (fail)
           have HW0 := Aside0.mk (pw_below_drewN HB8.out nq)
           have HW1 := Aside0.mk ((show KeepBut w (w8.drewN nq) g none from HK8.out))
           have HW2 := Aside0.mk (Kd.R_drewN HO8.out nq)
           have HW5 := Aside0.mk (Kd.R_drewN HR8.out nq)
           have HW3 := Aside0.mk (show (w8.drewN nq).heap[g]? = some (.cells (rc (some ad) ws.length c (I2 : Int) M D2 (At2) (E2)) 93 (0, 0)) from blk_drewN HM8.out nq)
           have HW4 := Aside0.mk (show (w8.drewN nq).heap[b]? = some (.cells #[.int .u8 x.f0, .int .i64 x.f1, .int .i64 x.f2, .string x.f3] 31 (0, 0)) from blk_drewN HQ8.out nq)
           generalize hwW : w8.drewN nq = W at HW0 HW1 HW2 HW3 HW4 HW5 ⊢
           clear hwW g0 g1 g4 g5 f4 f5 HB8 HK8 HO8 HR8 HM8 HQ8
           have hwI := Aside0.mk (show wrap64 ((I2 : Int) + 1) = (I2 : Int) + 1 by have := HI2.out; unfold wrap64; omega)
           have hwI' := hwI.out
           have h1 : W.cell? ⟨g, 1, none⟩ = some (.int .i64 (I2 : Int)) := (blk_cell HW3.out 1).trans rfl
           have f1 := blk_frozen HW3.out 1
           go_upto_region 17 with (fail)
           have hI2 : (I2 : Int) + 1 = ((I2 + 1 : Nat) : Int) := by omega
           have HV0 := Aside0.mk (HW0.out.setCell (p := ⟨g, 1, none⟩) hB (.int .i64 ((I2 : Int) + 1)))
           have HV1 := Aside0.mk (HW1.out.set_ 1 (.int .i64 ((I2 : Int) + 1)))
           have HV2 := Aside0.mk (R_setg HW2.out HGL.out 1 (.int .i64 ((I2 : Int) + 1)))
           have HV5 := Aside0.mk (R_setg HW5.out HG7.out 1 (.int .i64 ((I2 : Int) + 1)))
           have HV3 := Aside0.mk (show (W.setCell ⟨g, 1, none⟩ (.int .i64 ((I2 : Int) + 1))).heap[g]? = some (.cells (rc (some ad) ws.length c ((I2 + 1 : Nat) : Int) M D2 (At2) (E2)) 93 (0, 0)) from blk_put HW3.out 1 _ (by rw [hI2]; rfl))
           have HV4 := Aside0.mk (show (W.setCell ⟨g, 1, none⟩ (.int .i64 ((I2 : Int) + 1))).heap[b]? = _ from (heap_setCell_other W ⟨g, 1, none⟩ b _ HBG.out).trans HW4.out)
           generalize hwv : W.setCell ⟨g, 1, none⟩ (.int .i64 ((I2 : Int) + 1)) = wv at HV0 HV1 HV2 HV3 HV4 HV5 ⊢
           clear hwv hI2 h1 f1 hwI' HW0 HW1 HW2 HW3 HW4 HW5
           have y1 : wv.cell? ⟨b, 1, none⟩ = some (.int .i64 x.f1) := (blk_cell HV4.out 1).trans rfl
           go_wp2_with ((with_reducible refine gate_builtin (b := .append) (xs := #[.tmp 128, .tmp 133]) rfl ?_); (try (refine gate_guard (by rfl) ?_; dsimp only)); at_builtin; refine Kd.R_append k90 (w0 := wv) w.heap.size rfl (.tmp 128) (.tmp 133) 57 90 (.agg #[(.int .u8 0), (.int .i64 0), (.string ⟨#[]⟩), (.slice none 0 0)]) 56 rfl Try.underlying57 infoN90 rfl (by decide) (by omega) u5 out (⟨0, x.f1, ⟨#[]⟩, kids⟩ : S90) [.int .u8 0, .int .i64 x.f1, .string (⟨#[]⟩ : ByteArray), .slice A7 kids.length c7] (fun _ => True) (fun k_ => some k_ ≠ (u5 : Value).ownBlock) rfl rfl ?aP (fun _ hk => ⟨trivial, hk⟩) ?aF ?aO ?aB ?aS ?aL ?_; (case aP => exact k90_mkM _ _ _ (⟨0, x.f1, ⟨#[]⟩, kids⟩ : S90) (Kd.R_mono (Kd.R_lower (Kd.R_bound HV5.out) HL7.out) (fun k_ hk_ => HF7.out k_ hk_.2.1))); (case aF => exact (fun _ _ => trivial)); (case aO => exact HV2.out); (case aB => exact Below.refl _ _); (case aS => exact HV1.out.1); (case aL => have := CG.out.1; omega); intro v1 wn ho hb hg hat; have HO5 := Aside0.mk ho; have HB5 := Aside0.mk hb; clear ho hb hg hat)
           go_roundg k1
           case measure => have := HK1.out; omega
           case rel => exact ⟨_, I2 + 1, D2, At2, E2, HN3, ⟨by have := HK1.out; omega⟩, HO5, ⟨(HB5.out.block g HGL.out).trans HV3.out⟩, ⟨keep_then HV1.out HB5.out⟩, ⟨HV0.out.trans (HB5.out.mono (by have := HGL.out; omega))⟩⟩
         ·have c5b : (E2 == 0) = false := beq_eq_false_iff_ne.mpr c5
          have HN3 := HN.out
          rw [if_neg (fun h => c5 h.1), if_neg (fun h => c5 h.1)] at HN3
          replace HN3 := Aside0.mk HN3
          clear c5 HN
          go_quiet (fail)
          go_upto_region 16 with (fail)
          have HW0 := Aside0.mk (pw_below_drewN HB8.out nq)
          have HW1 := Aside0.mk ((show KeepBut w (w8.drewN nq) g none from HK8.out))
          have HW2 := Aside0.mk (Kd.R_drewN HO8.out nq)
          have HW5 := Aside0.mk (Kd.R_drewN HR8.out nq)
          have HW3 := Aside0.mk (show (w8.drewN nq).heap[g]? = some (.cells (rc (some ad) ws.length c (I2 : Int) M D2 (At2) (E2)) 93 (0, 0)) from blk_drewN HM8.out nq)
          have HW4 := Aside0.mk (show (w8.drewN nq).heap[b]? = some (.cells #[.int .u8 x.f0, .int .i64 x.f1, .int .i64 x.f2, .string x.f3] 31 (0, 0)) from blk_drewN HQ8.out nq)
          generalize hwW : w8.drewN nq = W at HW0 HW1 HW2 HW3 HW4 HW5 ⊢
          clear hwW g0 g1 g4 g5 f4 f5 HB8 HK8 HO8 HR8 HM8 HQ8
          have hwI := Aside0.mk (show wrap64 ((I2 : Int) + 1) = (I2 : Int) + 1 by have := HI2.out; unfold wrap64; omega)
          have hwI' := hwI.out
          have h1 : W.cell? ⟨g, 1, none⟩ = some (.int .i64 (I2 : Int)) := (blk_cell HW3.out 1).trans rfl
          have f1 := blk_frozen HW3.out 1
          go_upto_region 17 with (fail)
          have hI2 : (I2 : Int) + 1 = ((I2 + 1 : Nat) : Int) := by omega
          have HV0 := Aside0.mk (HW0.out.setCell (p := ⟨g, 1, none⟩) hB (.int .i64 ((I2 : Int) + 1)))
          have HV1 := Aside0.mk (HW1.out.set_ 1 (.int .i64 ((I2 : Int) + 1)))
          have HV2 := Aside0.mk (R_setg HW2.out HGL.out 1 (.int .i64 ((I2 : Int) + 1)))
          have HV5 := Aside0.mk (R_setg HW5.out HG7.out 1 (.int .i64 ((I2 : Int) + 1)))
          have HV3 := Aside0.mk (show (W.setCell ⟨g, 1, none⟩ (.int .i64 ((I2 : Int) + 1))).heap[g]? = some (.cells (rc (some ad) ws.length c ((I2 + 1 : Nat) : Int) M D2 (At2) (E2)) 93 (0, 0)) from blk_put HW3.out 1 _ (by rw [hI2]; rfl))
          have HV4 := Aside0.mk (show (W.setCell ⟨g, 1, none⟩ (.int .i64 ((I2 : Int) + 1))).heap[b]? = _ from (heap_setCell_other W ⟨g, 1, none⟩ b _ HBG.out).trans HW4.out)
          generalize hwv : W.setCell ⟨g, 1, none⟩ (.int .i64 ((I2 : Int) + 1)) = wv at HV0 HV1 HV2 HV3 HV4 HV5 ⊢
          clear hwv hI2 h1 f1 hwI' HW0 HW1 HW2 HW3 HW4 HW5
          have y1 : wv.cell? ⟨b, 1, none⟩ = some (.int .i64 x.f1) := (blk_cell HV4.out 1).trans rfl
          go_wp2_with ((with_reducible refine gate_builtin (b := .append) (xs := #[.tmp 128, .tmp 133]) rfl ?_); (try (refine gate_guard (by rfl) ?_; dsimp only)); at_builtin; refine Kd.R_append k90 (w0 := wv) w.heap.size rfl (.tmp 128) (.tmp 133) 57 90 (.agg #[(.int .u8 0), (.int .i64 0), (.string ⟨#[]⟩), (.slice none 0 0)]) 56 rfl Try.underlying57 infoN90 rfl (by decide) (by omega) u5 out (⟨0, x.f1, ⟨#[]⟩, kids⟩ : S90) [.int .u8 0, .int .i64 x.f1, .string (⟨#[]⟩ : ByteArray), .slice A7 kids.length c7] (fun _ => True) (fun k_ => some k_ ≠ (u5 : Value).ownBlock) rfl rfl ?aP (fun _ hk => ⟨trivial, hk⟩) ?aF ?aO ?aB ?aS ?aL ?_; (case aP => exact k90_mkM _ _ _ (⟨0, x.f1, ⟨#[]⟩, kids⟩ : S90) (Kd.R_mono (Kd.R_lower (Kd.R_bound HV5.out) HL7.out) (fun k_ hk_ => HF7.out k_ hk_.2.1))); (case aF => exact (fun _ _ => trivial)); (case aO => exact HV2.out); (case aB => exact Below.refl _ _); (case aS => exact HV1.out.1); (case aL => have := CG.out.1; omega); intro v1 wn ho hb hg hat; have HO5 := Aside0.mk ho; have HB5 := Aside0.mk hb; clear ho hb hg hat)
          go_roundg k1
          case measure => have := HK1.out; omega
          case rel => exact ⟨_, I2 + 1, D2, At2, E2, HN3, ⟨by have := HK1.out; omega⟩, HO5, ⟨(HB5.out.block g HGL.out).trans HV3.out⟩, ⟨keep_then HV1.out HB5.out⟩, ⟨HV0.out.trans (HB5.out.mono (by have := HGL.out; omega))⟩⟩
        ·rw [if_neg ci2] at H3
         cases H3
      ·have H2 := HH.out
       rw [if_neg c1] at H2
       have c1b : (x.f0 != 1) = true := bne_iff_ne.mpr c1
       have H3 := Aside0.mk H2
       clear H2 c1
       go_wp2_with ((with_reducible refine gate_builtin (b := .append) (xs := #[.tmp 59, .tmp 67]) rfl ?_); (try (refine gate_guard (by rfl) ?_; dsimp only)); at_builtin; refine Kd.R_append k90 (w0 := w4) w.heap.size rfl (.tmp 59) (.tmp 67) 57 90 (.agg #[(.int .u8 0), (.int .i64 0), (.string ⟨#[]⟩), (.slice none 0 0)]) 56 rfl Try.underlying57 infoN90 rfl (by decide) (by omega) u5 out (⟨x.f0, x.f1, x.f3, []⟩ : S90) [.int .u8 x.f0, .int .i64 x.f1, .string x.f3, .slice none 0 0] (fun _ => True) (fun _ => False) rfl rfl ?aP (fun _ hk => hk.elim) ?aF ?aO ?aB ?aS ?aL ?_; (case aP => exact k90_mkM _ _ _ (⟨x.f0, x.f1, x.f3, []⟩ : S90) (Kd.R_nil _ _ _ _ _)); (case aF => exact (fun _ _ => trivial)); (case aO => exact HY2.out); (case aB => exact Below.refl _ _); (case aS => exact HY1.out.1); (case aL => have := CG.out.1; omega); intro v1 w5 ho hb hg hat; have HO5 := Aside0.mk ho; have HB5 := Aside0.mk hb; clear ho hb hg hat)
       go_roundg k1
       case measure => have := HK1.out; omega
       case rel => exact ⟨_, I + 1, D, At, E, H3, ⟨by have := HK1.out; omega⟩, HO5, ⟨(HB5.out.block g HGL.out).trans HY3.out⟩, ⟨keep_then HY1.out HB5.out⟩, ⟨HY0.out.trans (HB5.out.mono (by have := HGL.out; omega))⟩⟩
     ·rw [if_neg cg] at H
      cases H
   ·rw [if_neg cI] at H
    have HR := Aside0.mk (Option.some.inj H)
    have cIb : decide (I < ws.length) = false := decide_eq_false (by omega)
    clear H cI cE
    go_wp2
    go_quiet (fail)
    go_wp2
    go_ret
    rw [← HR.out]
    exact ⟨_, rfl, Kd.R_drewN HO.out _, blk_drewN HM.out _, HK.out, pw_below_drewN HB.out _⟩
  ·rw [if_neg cE] at H
   have HR := Aside0.mk (Option.some.inj H)
   have cEb : (E == 0) = false := beq_eq_false_iff_ne.mpr cE
   clear H cE
   go_wp2
   go_quiet (fail)
   go_wp2
   go_ret
   rw [← HR.out]
   exact ⟨_, rfl, Kd.R_drewN HO.out _, blk_drewN HM.out _, HK.out, pw_below_drewN HB.out _⟩
end Go.Proofs.Ytgikmpgpccfiiaa.PSxp
