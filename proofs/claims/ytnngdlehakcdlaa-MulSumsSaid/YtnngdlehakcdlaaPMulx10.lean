-- A text of the seat Ytnngdlehakcdlaa, written by a program of this session (drive.py).
import Derived.Test.YtnngdlehakcdlaaPMulx0
import Derived.Test.YtnngdlehakcdlaaPMulx1
import Derived.Test.YtnngdlehakcdlaaVal
import Derived.RangeFuncBox
namespace Go.Proofs.Ytnngdlehakcdlaa.PMul
open Go.RowKit Go.Proofs.YtnngdlehakcdlaaW.PrintWords Go.Proofs.YtnngdlehakcdlaaW.PrintLast Go.Proofs.YtnngdlehakcdlaaW.PrintMore
attribute [local go_sem] max2_int min2_int max_two min_two max_three min_three max_four min_four   -- for this text's walks alone
set_option linter.unusedVariables false
set_option linter.unusedSimpArgs false

-- BY HAND: alidade/nat.may: function 39
-- IMPORT Derived.Test.YtnngdlehakcdlaaVal
-- IMPORT Derived.RangeFuncBox
theorem nat_May_val (l : List Int) (h : l.length ≤ 9223372036854775807) : nat_May.f l = some (YtnngdlehakcdlaaV.may l) := by
  unfold nat_May.f YtnngdlehakcdlaaV.may rd
  by_cases h1 : (l.length : Int) ≤ 65536
  · rw [if_pos h1]
    by_cases h2 : (l.length : Int) = 0
    · rw [if_pos h2]
      have : l.length = 0 := by omega
      simp [this]
    · rw [if_neg h2]
      have hw : wrap64 ((l.length : Int) - 1) = (l.length : Int) - 1 := by unfold wrap64; omega
      rw [hw, if_pos (by omega), if_pos (by omega)]
      have h3 : ((l.length : Int) - 1).toNat = l.length - 1 := by omega
      rw [h3]
      have h4 : decide (l.length ≤ 65536) = true := decide_eq_true (by omega)
      have h5 : decide (l.length = 0) = false := decide_eq_false (by omega)
      rw [h4, h5]; simp
  · rw [if_neg h1]
    have h4 : decide (l.length ≤ 65536) = false := decide_eq_false (by omega)
    rw [h4]; rfl
set_option maxHeartbeats 1000000 in
theorem nat_may_1.calls (A0 : Option Addr) (c0 : Nat) (l0 : List Int) (w : World) (hr0 : Kd.C (Kd.int .u32) w A0 l0.length l0) (hc0 : l0.length ≤ c0) :
    Calls Try.prog 58 #[.slice A0 l0.length c0] w fun e w' => e = .returned (.bool (!YtnngdlehakcdlaaV.may l0)) ∧ Drawn0 w w' := by
  have HM := nat_May.calls A0 c0 l0 (YtnngdlehakcdlaaV.may l0) w hr0 hc0 (nat_May_val l0 hr0.2.1)
  generalize YtnngdlehakcdlaaV.may l0 = r at HM ⊢
  go_enter Try.func58, Try.ntmps58
  go_wp2_with (go_at_call 31; refine HM.mono ?_; rintro e w' ⟨rfl, ⟨nd, rfl⟩⟩)
  go_ret
  exact ⟨rfl, ⟨nd, rfl⟩⟩
theorem drawn_cell {w w' : World} (h : Drawn0 w w') (a : Addr) : w'.cell? a = w.cell? a := by
  obtain ⟨n, rfl⟩ := h
  rfl
theorem drawn_trans {w w1 w2 : World} (h : Drawn0 w w1) (k : Drawn0 w1 w2) : Drawn0 w w2 := by
  obtain ⟨n, rfl⟩ := h
  obtain ⟨m, rfl⟩ := k
  exact ⟨⟨n + m, World.drewN_drewN ..⟩⟩
theorem Kd.C_drawn {α : Type} {d : Kd α} {w w' : World} {A : Option Addr} {n : Nat} {xs : List α} (h : d.C w A n xs) (hd : Drawn0 w w') : d.C w' A n xs := Kd.C_below h hd.below
def nat_may_which (r0 r1 : Bool) : Int := if r0 = false then 0 else if r1 = false then 1 else -1
set_option maxHeartbeats 2000000 in
theorem nat_may_index (A0 : Option Addr) (c0 : Nat) (l0 : List Int) (A1 : Option Addr) (c1 : Nat) (l1 : List Int) (b : Nat) (w : World)
    (hb0 : w.cell? ⟨b, 0, none⟩ = some (.slice A0 l0.length c0)) (hb1 : w.cell? ⟨b, 1, none⟩ = some (.slice A1 l1.length c1))
    (hr0 : Kd.C (Kd.int .u32) w A0 l0.length l0) (hc0 : l0.length ≤ c0) (hr1 : Kd.C (Kd.int .u32) w A1 l1.length l1) (hc1 : l1.length ≤ c1) :
    Calls Try.prog 63 #[.slice (some ⟨b, 0, none⟩) 2 2, .func (.func 58) #[] #[]] w fun e w' => e = .returned (.int .i64 (nat_may_which (YtnngdlehakcdlaaV.may l0) (YtnngdlehakcdlaaV.may l1))) ∧ Drawn0 w w' := by
  have H0 := fun W (h : Drawn0 w W) => nat_may_1.calls A0 c0 l0 W (Kd.C_drawn hr0 h) hc0
  have H1 := fun W (h : Drawn0 w W) => nat_may_1.calls A1 c1 l1 W (Kd.C_drawn hr1 h) hc1
  generalize YtnngdlehakcdlaaV.may l0 = r0 at H0 ⊢
  generalize YtnngdlehakcdlaaV.may l1 = r1 at H1 ⊢
  have K0 := Aside0.mk H0
  have K1 := Aside0.mk H1
  have K2 := Aside0.mk hb0
  have K3 := Aside0.mk hb1
  clear H0 H1 hb0 hb1 hr0 hr1 hc0 hc1
  go_enter Try.func63, Try.ntmps63
  go_wp2
  go_loopw [8] (fun i wr => ∃ k : Nat, k ≤ 2 ∧ i = .int .i64 k ∧ Aside0 (1 ≤ k → r0 = true) ∧ Aside0 (2 ≤ k → r1 = true) ∧ Aside0 (Drawn0 w wr)) (fun i _ => 2 - (intOf i).toNat)
  case atStart => exact ⟨0, by omega, rfl, ⟨by omega⟩, ⟨by omega⟩, ⟨Drawn0.refl _⟩⟩
  case round =>
    obtain ⟨k, hk, rfl, P0, P1, HD⟩ := hrel
    match k, hk, P0, P1 with
    | 0, _, _, _ =>
      have hcell := (drawn_cell HD.out ⟨b, 0, none⟩).trans K2.out
      cases r0 with
      | false =>
        go_wp2_with (go_at_call 58; refine (K0.out _ HD.out).mono ?_; rintro e w' ⟨rfl, HD2⟩)
        go_ret
        exact ⟨rfl, drawn_trans HD.out HD2⟩
      | true =>
        go_wp2_with (go_at_call 58; refine (K0.out _ HD.out).mono ?_; rintro e w' ⟨rfl, HD2⟩)
        go_roundw
        case rel => exact ⟨1, by omega, by rfl, ⟨by simp⟩, ⟨by omega⟩, ⟨drawn_trans HD.out HD2⟩⟩
        case measure => simp [intOf]
    | 1, _, P0, _ =>
      have hcell := (drawn_cell HD.out ⟨b, 1, none⟩).trans K3.out
      obtain rfl : r0 = true := P0.out (by omega)
      cases r1 with
      | false =>
        go_wp2_with (go_at_call 58; refine (K1.out _ HD.out).mono ?_; rintro e w' ⟨rfl, HD2⟩)
        go_ret
        exact ⟨rfl, drawn_trans HD.out HD2⟩
      | true =>
        go_wp2_with (go_at_call 58; refine (K1.out _ HD.out).mono ?_; rintro e w' ⟨rfl, HD2⟩)
        go_roundw
        case rel => exact ⟨2, by omega, by rfl, ⟨by simp⟩, ⟨by simp⟩, ⟨drawn_trans HD.out HD2⟩⟩
        case measure => simp [intOf]
    | 2, _, P0, P1 =>
      obtain rfl : r0 = true := P0.out (by omega)
      obtain rfl : r1 = true := P1.out (by omega)
      go_wp2
      go_ret
      exact ⟨rfl, HD.out⟩
set_option maxHeartbeats 2000000 in
theorem nat_may.two (A0 : Option Addr) (c0 : Nat) (l0 : List Int) (A1 : Option Addr) (c1 : Nat) (l1 : List Int) (b : Nat) (w : World)
    (hb0 : w.cell? ⟨b, 0, none⟩ = some (.slice A0 l0.length c0)) (hb1 : w.cell? ⟨b, 1, none⟩ = some (.slice A1 l1.length c1))
    (hr0 : Kd.C (Kd.int .u32) w A0 l0.length l0) (hc0 : l0.length ≤ c0) (hr1 : Kd.C (Kd.int .u32) w A1 l1.length l1) (hc1 : l1.length ≤ c1) :
    Calls Try.prog 39 #[.slice (some ⟨b, 0, none⟩) 2 2] w fun e w' => e = .returned (.bool (YtnngdlehakcdlaaV.may l0 && YtnngdlehakcdlaaV.may l1)) ∧ Drawn0 w w' := by
  have HI := nat_may_index A0 c0 l0 A1 c1 l1 b w hb0 hb1 hr0 hc0 hr1 hc1
  have HK := Aside0.mk HI
  clear HI hb0 hb1 hr0 hc0 hr1 hc1
  generalize YtnngdlehakcdlaaV.may l0 = r0 at HK ⊢
  generalize YtnngdlehakcdlaaV.may l1 = r1 at HK ⊢
  cases r0 <;> cases r1
  all_goals
    go_enter Try.func39, Try.ntmps39
    go_wp2_with (first | (go_at_call 63; refine HK.out.mono ?_; rintro e w' ⟨rfl, ⟨nd, rfl⟩⟩; simp only [nat_may_which, if_true, if_false]) | go_in)
    go_ret
    exact ⟨rfl, ⟨nd, rfl⟩⟩
/-- 'may(a, b)', the two in a box of their own. -/
theorem may2 {w : World} {A0 : Option Addr} {c0 : Nat} {l0 : List Int} {A1 : Option Addr} {c1 : Nat} {l1 : List Int} (hr0 : Kd.C (Kd.int .u32) w A0 l0.length l0) (hc0 : l0.length ≤ c0) (hr1 : Kd.C (Kd.int .u32) w A1 l1.length l1) (hc1 : l1.length ≤ c1) :
    Calls Try.prog 39 #[.slice (some ⟨w.heap.size, 0, none⟩) 2 2] (w.alloc (.cells #[.slice A0 l0.length c0, .slice A1 l1.length c1] 22)) fun e w' => e = .returned (.bool (YtnngdlehakcdlaaV.may l0 && YtnngdlehakcdlaaV.may l1)) ∧ Drawn0 (w.alloc (.cells #[.slice A0 l0.length c0, .slice A1 l1.length c1] 22)) w' := by
  have hn := World.alloc_heap_new w (.cells #[.slice A0 l0.length c0, .slice A1 l1.length c1] 22)
  refine nat_may.two A0 c0 l0 A1 c1 l1 w.heap.size _ ?_ ?_ (Kd.C_alloc hr0 _) hc0 (Kd.C_alloc hr1 _) hc1
  · unfold World.cell?; rw [hn]; rfl
  · unfold World.cell?; rw [hn]; rfl

end Go.Proofs.Ytnngdlehakcdlaa.PMul
