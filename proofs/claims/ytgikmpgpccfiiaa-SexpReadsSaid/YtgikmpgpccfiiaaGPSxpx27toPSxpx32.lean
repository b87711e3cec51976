/- Texts of the seat Ytgikmpgpccfiiaa that belong together, joined. -/
import Derived.Test.YtgikmpgpccfiiaaPSxpx0
import Derived.Test.YtgikmpgpccfiiaaPSxpx11
-- A text of the seat Ytgikmpgpccfiiaa, written by a program of this session (drive.py).
namespace Go.Proofs.Ytgikmpgpccfiiaa.PSxp
open Go.RowKit Go.Proofs.YtgikmpgpccfiiaaW.PrintWords Go.Proofs.YtgikmpgpccfiiaaW.PrintLast Go.Proofs.YtgikmpgpccfiiaaW.PrintMore
attribute [local go_sem] max2_int min2_int max_two min_two max_three min_three max_four min_four   -- for this text's walks alone
set_option linter.unusedVariables false
set_option linter.unusedSimpArgs false

-- BY HAND: alidade/sexp.May: function 24
mutual
def sexp_May.f : Nat → Int → Int → ByteArray → List (S51) → Option Bool
 | 0, _, _, _, _ => none
 | k + 1, a, _, t, l => if a = 0 then (if t.toList = ([] : List UInt8) then (sexp_May.g k l).bind fun x => some (!x) else some false)
   else if a = 1 then some false else if a = 2 then some false else if (l.length : Int) = 0 then (lex_Kind.f k t).bind fun x => some (x == a) else some false
/-- Is there one in a list that may not be? -/
def sexp_May.g : Nat → List (S51) → Option Bool
 | 0, _ => none
 | _ + 1, [] => some false
 | k + 1, x :: r => (sexp_May.f k x.f0 x.f1 x.f2 x.f3).bind fun b => if b = true then sexp_May.g k r else some true
end
theorem sexp_May.mono_l : ∀ k, (∀ a b t l, LeO (sexp_May.f k a b t l) (sexp_May.f (k + 1) a b t l)) ∧ (∀ l, LeO (sexp_May.g k l) (sexp_May.g (k + 1) l))
 | 0 => ⟨fun _ _ _ _ r h => by simp [sexp_May.f] at h, fun _ r h => by simp [sexp_May.g] at h⟩
 | k + 1 => by
  obtain ⟨ih0, ih1⟩ := sexp_May.mono_l k
  refine ⟨fun a b t l => ?_, fun l => ?_⟩
  ·unfold sexp_May.f
   exact LeO.ite (LeO.ite (LeO.bind (ih1 _) (fun _ => LeO.refl _)) (LeO.refl _)) (LeO.ite (LeO.refl _) (LeO.ite (LeO.refl _) (LeO.ite (LeO.bind (lex_Kind.mono _ _) (fun _ => LeO.refl _)) (LeO.refl _))))
  ·cases l with
   | nil => unfold sexp_May.g; exact LeO.refl _
   | cons x r => 
    unfold sexp_May.g
    exact LeO.bind (ih0 _ _ _ _) (fun _ => LeO.ite (ih1 _) (LeO.refl _))
theorem sexp_May.mono (a0 : Int) (a1 : Int) (a2 : ByteArray) (a3 : List (S51)) (k : Nat) : LeO (sexp_May.f k a0 a1 a2 a3) (sexp_May.f (k + 1) a0 a1 a2 a3) := (sexp_May.mono_l k).1 a0 a1 a2 a3
set_option maxHeartbeats 2000000 in
theorem sexp_May1_calls (x : S51) (A3 : Option Addr) (c3 : Nat) (bb : Bool) (w : World)
  (ih : ∀ W, Below w.heap.size w W → Calls Try.prog 24 #[.agg #[.int .u8 x.f0, .int .i64 x.f1, .string x.f2, .slice A3 x.f3.length c3]] W fun e w' => e = .returned (.bool bb) ∧ Below W.heap.size W w') :
  Calls Try.prog 56 #[.agg #[.int .u8 x.f0, .int .i64 x.f1, .string x.f2, .slice A3 x.f3.length c3]] w fun e w' => e = .returned (.bool (!bb)) ∧ Below w.heap.size w w' := by
 have HI := Aside0.mk ih
 have HA := Aside0.mk (fun (o : Obj) => (Below.refl w.heap.size w).alloc (Nat.le_refl _) o)
 clear ih
 go_enter Try.func56, Try.ntmps56
 go_wp2_with (go_at_call 24; refine (HI.out _ (HA.out _)).mono ?_; rintro e w' ⟨rfl, hb⟩)
 go_ret
 exact ⟨rfl, below_step (HA.out _) hb⟩
set_option maxRecDepth 100000 in
set_option maxHeartbeats 8000000 in
theorem sexp_May_index (k : Nat)
  (ih : ∀ j, j < k → ∀ (a0_0 : Int) (a0_1 : Int) (a0_2 : ByteArray) (A0_3 : Option Addr) (c0_3 : Nat) (l0_3 : List (S51)) (r : Bool) (w : World) (hr0_3 : Kd.C k51 w A0_3 l0_3.length l0_3) (hc0_3 : l0_3.length ≤ c0_3) (h : sexp_May.f j a0_0 a0_1 a0_2 l0_3 = some r),
   Calls Try.prog 24 #[.agg #[.int .u8 a0_0, .int .i64 a0_1, .string a0_2, .slice A0_3 l0_3.length c0_3]] w fun e w' => e = .returned (.bool r) ∧ Below w.heap.size w w')
  (A0 : Option Addr) (c0 : Nat) (l0 : List S51) (b : Bool) (w : World) (hr0 : Kd.C k51 w A0 l0.length l0) (hc0 : l0.length ≤ c0) (h : sexp_May.g k l0 = some b) :
  Calls Try.prog 70 #[.slice A0 l0.length c0, .func (.func 56) #[] #[]] w fun e w' => ∃ i : Int, e = .returned (.int .i64 i) ∧ decide (i ≥ 0) = b ∧ Below w.heap.size w w' := by
 have HB := Aside0.mk (Below.refl w.heap.size w)
 have HI := Aside0.mk ih
 have HG := Aside0.mk h
 clear ih h
 go_enter Try.func70, Try.ntmps70
 go_wp2
 go_loopw [8] (fun i wr => ∃ (j : Int) (kq : Nat), i = .int .i64 j ∧ Aside0 (0 ≤ j ∧ j ≤ (l0.length : Int)) ∧ Aside0 (kq ≤ k) ∧ Aside0 (sexp_May.g kq (l0.drop j.toNat) = some b) ∧ Aside0 (Below w.heap.size w wr)) (fun i _ => l0.length - (intOf i).toNat)
 case atStart => exact ⟨0, k, rfl, ⟨by omega⟩, ⟨Nat.le_refl _⟩, HG, HB⟩
 case round =>
  obtain ⟨j, kq, rfl, hj, hk, hg, hb⟩ := hrel
  have hG := hg.out
  cases kq with
  | zero => exact absurd hG (by simp [sexp_May.g])
  | succ kq =>
   by_cases c : j < (l0.length : Int)
   ·have p0 : 0 ≤ j := hj.out.1
    have hjl : j.toNat < l0.length := by omega
    obtain ⟨ad0, A3, c3, e0, h00, h01, h02, h03, hl3, hg3⟩ := at_T51 (Kd.C_below hr0 hb.out) j p0 c
    subst e0
    have hx : rd_T51 l0 j = l0[j.toNat] := by
     unfold rd_T51
     rw [List.getD_eq_getElem?_getD, List.getElem?_eq_getElem hjl]; rfl
    rw [List.drop_eq_getElem_cons hjl, ← hx, sexp_May.g] at hG
    obtain ⟨bb, hf, hG⟩ := Option.bind_eq_some_iff.mp hG
    have HF := Aside0.mk (fun W (hW : Below wr.heap.size wr W) => HI.out kq (by have := hk.out; omega) _ _ _ A3 c3 _ bb W (Kd.C_below hg3 hW) hl3 hf)
    have HM := Aside0.mk (sexp_May1_calls (rd_T51 l0 j) A3 c3 bb wr HF.out)
    have c' : decide (j < (l0.length : Int)) = true := decide_eq_true c
    have HC := Aside0.mk c
    have HG2 := Aside0.mk hG
    have hw : wrap64 (j + 1) = j + 1 := by have := hr0.2.1; have := hj.out; have := HC.out; unfold wrap64; omega
    have HW := Aside0.mk hw
    replace c := eq_true c
    replace p0 := eq_true p0
    clear hw hG hf HF hx hg hl3 hg3
    cases bb with
    | true =>
     go_wp2_with (go_at_call 56; refine (HM.out).mono ?_; rintro e w' ⟨rfl, hb2⟩)
     go_roundw
     case rel => exact ⟨_, kq, rfl, ⟨by rw [HW.out]; have := hj.out; have := HC.out; omega⟩, ⟨by have := hk.out; omega⟩, ⟨by rw [HW.out, show (j + 1).toNat = j.toNat + 1 by have := hj.out; omega]; exact HG2.out⟩, ⟨below_step hb.out hb2⟩⟩
     case measure =>
      simp [intOf]
      rw [HW.out]
      have := hj.out
      have := HC.out
      omega
    | false =>
     go_wp2_with (go_at_call 56; refine (HM.out).mono ?_; rintro e w' ⟨rfl, hb2⟩)
     go_ret
     refine ⟨j, rfl, ?_, below_step hb.out hb2⟩
     have e : b = true := by
      have := HG2.out
      simpa using this.symm
     rw [e]
     exact decide_eq_true hj.out.1
   ·have c' : decide (j < (l0.length : Int)) = false := decide_eq_false c
    have he : l0.drop j.toNat = [] := List.drop_eq_nil_of_le (by omega)
    rw [he, sexp_May.g] at hG
    have HG2 := Aside0.mk (Option.some.inj hG)
    replace c := eq_false c
    clear hG he hg
    go_wp2
    go_ret
    exact ⟨-1, rfl, by rw [← HG2.out]; rfl, hb.out⟩
theorem sexp_May_contains (A0 : Option Addr) (c0 n : Nat) (b : Bool) (w : World)
  (hX : Calls Try.prog 70 #[.slice A0 n c0, .func (.func 56) #[] #[]] w fun e w' => ∃ i : Int, e = .returned (.int .i64 i) ∧ decide (i ≥ 0) = b ∧ Below w.heap.size w w') :
  Calls Try.prog 55 #[.slice A0 n c0, .func (.func 56) #[] #[]] w fun e w' => e = .returned (.bool b) ∧ Below w.heap.size w w' := by
 have HX := Aside0.mk hX
 clear hX
 go_enter Try.func55, Try.ntmps55
 go_wp2_with (first | (go_at_call 70; refine HX.out.mono ?_; rintro e w' ⟨i, rfl, hdi, hb⟩))
 go_ret
 exact ⟨by first | rfl | rw [hdi], hb⟩
set_option maxHeartbeats 4000000 in
theorem sexp_May.calls (k : Nat) : ∀ (a0_0 : Int) (a0_1 : Int) (a0_2 : ByteArray) (A0_3 : Option Addr) (c0_3 : Nat) (l0_3 : List (S51)) (r : Bool) (w : World) (hr0_3 : Kd.C k51 w A0_3 l0_3.length l0_3) (hc0_3 : l0_3.length ≤ c0_3) (h : sexp_May.f k a0_0 a0_1 a0_2 l0_3 = some r),
  Calls Try.prog 24 #[.agg #[.int .u8 a0_0, .int .i64 a0_1, .string a0_2, .slice A0_3 l0_3.length c0_3]] w fun e w' => e = .returned (.bool r) ∧ Below w.heap.size w w' := by
 induction k using Nat.strongRecOn with
 | _ k ih =>
 intro a0_0 a0_1 a0_2 A0_3 c0_3 l0_3 r w hr0_3 hc0_3 h
 cases k with
 | zero => exact absurd h (by simp [sexp_May.f])
 | succ k =>
 rw [sexp_May.f] at h
 have HA := Aside0.mk (fun (o : Obj) => (Below.refl w.heap.size w).alloc (Nat.le_refl _) o)
 by_cases c0 : a0_0 = 0
 ·rw [if_pos c0] at h
  have c0b0 : (a0_0 == 0) = true := beq_iff_eq.mpr c0
  have c0b1 : (a0_0 != 0) = false := bne_eq_false_iff_eq.mpr c0
  by_cases c1 : a0_2.toList = ([] : List UInt8)
  ·rw [if_pos c1] at h
   obtain ⟨x, hx, h⟩ := Option.bind_eq_some_iff.mp h
   obtain rfl := Option.some.inj h
   have HX := Aside0.mk (fun W (hW : Below w.heap.size w W) => sexp_May_contains A0_3 c0_3 l0_3.length x W (sexp_May_index k (fun j hj => ih j (by omega)) A0_3 c0_3 l0_3 x W (Kd.C_below hr0_3 hW) hc0_3 hx))
   have c1b0 : (a0_2.toList == ([] : List UInt8)) = true := beq_iff_eq.mpr c1
   have c1b1 : (a0_2.toList != ([] : List UInt8)) = false := bne_eq_false_iff_eq.mpr c1
   clear ih h hx c0 c1 hr0_3
   go_enter Try.func24, Try.ntmps24
   go_wp2_with (first | (go_at_call 55; refine (HX.out _ (HA.out _)).mono ?_; rintro e w' ⟨rfl, hb⟩))
   go_ret
   exact ⟨rfl, below_step (HA.out _) hb⟩
  ·rw [if_neg c1] at h
   obtain rfl := Option.some.inj h
   have c1b0 : (a0_2.toList == ([] : List UInt8)) = false := beq_eq_false_iff_ne.mpr c1
   have c1b1 : (a0_2.toList != ([] : List UInt8)) = true := bne_iff_ne.mpr c1
   clear ih h c0 c1 hr0_3
   go_enter Try.func24, Try.ntmps24
   go_wp2
   go_ret
   exact ⟨rfl, HA.out _⟩
 ·rw [if_neg c0] at h
  have c0b0 : (a0_0 == 0) = false := beq_eq_false_iff_ne.mpr c0
  have c0b1 : (a0_0 != 0) = true := bne_iff_ne.mpr c0
  by_cases c1 : a0_0 = 1
  ·rw [if_pos c1] at h
   obtain rfl := Option.some.inj h
   have c1b1 : (a0_0 != 1) = false := bne_eq_false_iff_eq.mpr c1
   clear ih h c0 c1 hr0_3
   go_enter Try.func24, Try.ntmps24
   go_wp2
   go_quiet (fail)
   go_wp2
   go_ret
   exact ⟨rfl, by repeat (first | exact HA.out _ | apply below_drew1 | apply pw_below_drewN)⟩
  ·rw [if_neg c1] at h
   have c1b1 : (a0_0 != 1) = true := bne_iff_ne.mpr c1
   by_cases c2 : a0_0 = 2
   ·rw [if_pos c2] at h
    obtain rfl := Option.some.inj h
    have c2b1 : (a0_0 != 2) = false := bne_eq_false_iff_eq.mpr c2
    clear ih h c0 c1 c2 hr0_3
    go_enter Try.func24, Try.ntmps24
    go_wp2
    go_quiet (fail)
    go_wp2
    go_ret
    exact ⟨rfl, by repeat (first | exact HA.out _ | apply below_drew1 | apply pw_below_drewN)⟩
   ·rw [if_neg c2] at h
    have c2b1 : (a0_0 != 2) = true := bne_iff_ne.mpr c2
    by_cases c3 : (l0_3.length : Int) = 0
    ·rw [if_pos c3] at h
     obtain ⟨x, hx, h⟩ := Option.bind_eq_some_iff.mp h
     obtain rfl := Option.some.inj h
     have HX := Aside0.mk (fun W => lex_Kind.calls k a0_2 x W hx)
     have c3b0 : ((l0_3.length : Int) == 0) = true := beq_iff_eq.mpr c3
     have c3b2 : l0_3 = [] := List.eq_nil_of_length_eq_zero (by omega)
     clear ih h hx c0 c1 c2 hr0_3
     go_enter Try.func24, Try.ntmps24
     go_wp2
     go_quiet ((go_at_call 15; exact Calls.quiet_of ((HX.out _).mono fun e w' ⟨h1, ⟨m, h2⟩⟩ => ⟨h1, m, h2⟩)))
     go_wp2
     go_ret
     exact ⟨rfl, by repeat (first | exact HA.out _ | apply below_drew1 | apply pw_below_drewN)⟩
    ·rw [if_neg c3] at h
     obtain rfl := Option.some.inj h
     have c3b0 : ((l0_3.length : Int) == 0) = false := beq_eq_false_iff_ne.mpr c3
     have c3b1 : ¬ (l0_3 = []) := fun e => c3 (by rw [e]; rfl)
     clear ih h c0 c1 c2 c3 hr0_3
     go_enter Try.func24, Try.ntmps24
     go_wp2
     go_quiet (fail)
     go_wp2
     go_ret
     exact ⟨rfl, by repeat (first | exact HA.out _ | apply below_drew1 | apply pw_below_drewN)⟩

end Go.Proofs.Ytgikmpgpccfiiaa.PSxp

-- A text of the seat Ytgikmpgpccfiiaa, written by a program of this session (drive.py).
namespace Go.Proofs.Ytgikmpgpccfiiaa.PSxp
open Go.RowKit Go.Proofs.YtgikmpgpccfiiaaW.PrintWords Go.Proofs.YtgikmpgpccfiiaaW.PrintLast Go.Proofs.YtgikmpgpccfiiaaW.PrintMore
attribute [local go_sem] max2_int min2_int max_two min_two max_three min_three max_four min_four   -- for this text's walks alone
set_option linter.unusedVariables false
set_option linter.unusedSimpArgs false

/-! ### alidadelaw13_stands: function 26 -/
mutual
def alidadelaw13_stands.l0 : Nat → ByteArray → List (S51) → Int → Int → Option (Int × Bool)
 | 0, _, _, _, _ => none
 | k + 1, x0, x1, x2, x8 => if x8 < (x1.length : Int) then (if 0 ≤ x8 then (if ((rd_T51 x1 x8).f1) < x2 then (alidadelaw13_stands.j1 k x0 x1 x8 true ((rd_T51 x1 x8).f0) ((rd_T51 x1 x8).f1) ((rd_T51 x1 x8).f2) ((rd_T51 x1 x8).f3)) else (alidadelaw13_stands.j1 k x0 x1 x8 (decide (((rd_T51 x1 x8).f1) ≥ (x0.size : Int))) ((rd_T51 x1 x8).f0) ((rd_T51 x1 x8).f1) ((rd_T51 x1 x8).f2) ((rd_T51 x1 x8).f3))) else (none)) else (some (x2, true))
def alidadelaw13_stands.j1 : Nat → ByteArray → List (S51) → Int → Bool → Int → Int → ByteArray → List (S51) → Option (Int × Bool)
 | 0, _, _, _, _, _, _, _, _ => none
 | k + 1, x0, x1, x8, x32, x236000, x236001, x236002, x236003 => if x32 = true then (some (0, false)) else (if x236000 = 0 then ((alidadelaw13_stands.f k x0 x236003 (wrap64 (x236001 + 1))).bind fun bt236 => (if bt236.2 = true then (if 0 ≤ x236001 then (if x236001 < (x0.size : Int) then (alidadelaw13_stands.j2 k x0 x1 x8 bt236.1 ((bt x0 x236001) != 40)) else (none)) else (none)) else (alidadelaw13_stands.j2 k x0 x1 x8 bt236.1 true))) else (if (wrap64 ((x0.size : Int) - x236001)) < (x236002.size : Int) then (some (0, false)) else (if 0 ≤ x236001 then (if x236001 ≤ (wrap64 (x236001 + (x236002.size : Int))) then (if (wrap64 (x236001 + (x236002.size : Int))) ≤ (x0.size : Int) then (if (x0.extract (x236001 : Int).toNat ((wrap64 (x236001 + (x236002.size : Int))) : Int).toNat).toList = x236002.toList then (if x236002.toList = ([] : List UInt8) then (some (0, false)) else (alidadelaw13_stands.l0 k x0 x1 (wrap64 (x236001 + (x236002.size : Int))) (wrap64 (x8 + 1)))) else (some (0, false))) else (none)) else (none)) else (none))))
def alidadelaw13_stands.j2 : Nat → ByteArray → List (S51) → Int → Int → Bool → Option (Int × Bool)
 | 0, _, _, _, _, _ => none
 | k + 1, x0, x1, x8, x10, x54 => if x54 = true then (some (0, false)) else (alidadelaw13_stands.l0 k x0 x1 x10 (wrap64 (x8 + 1)))
def alidadelaw13_stands.f : Nat → ByteArray → List (S51) → Int → Option (Int × Bool)
 | 0, _, _, _ => none
 | k + 1, a0, l1, a2 => alidadelaw13_stands.l0 k a0 l1 a2 0
end
end Go.Proofs.Ytgikmpgpccfiiaa.PSxp
