-- A text of the seat Ythdhpihfbggbbaa, written by a program of this session (drive.py).
import Derived.Test.YthdhpihfbggbbaaGNatFulltoPNatx1
import Derived.Test.YthdhpihfbggbbaaGPNatx2toPNatx3
import Derived.Test.YthdhpihfbggbbaaGPNatx2toPNatx3
import Derived.Test.YthdhpihfbggbbaaPNatx6
import Derived.Test.YthdhpihfbggbbaaVal
import Derived.RangeFuncBox
import Derived.RangeFuncNested
import Derived.RangeFuncLeaves
import Derived.RangeFuncCalls
import Derived.Shelf.Abstract
import Derived.OwnWalkIn
import Derived.TacticsInMore
import Derived.LoopNIn
import Derived.LoopIn
namespace Go.Proofs.Ythdhpihfbggbbaa.PNat
open Go.RowKit Go.Proofs.YthdhpihfbggbbaaW.PrintWords Go.Proofs.YthdhpihfbggbbaaW.PrintLast Go.Proofs.YthdhpihfbggbbaaW.PrintMore
attribute [local go_sem] max2_int min2_int max_two min_two max_three min_three max_four min_four   -- for this text's walks alone
set_option linter.unusedVariables false
set_option linter.unusedSimpArgs false

-- BY HAND: alidade/nat.Cmp: function 15
-- IMPORT Derived.Test.YthdhpihfbggbbaaVal
-- IMPORT Derived.RangeFuncBox
-- IMPORT Derived.RangeFuncNested
-- IMPORT Derived.RangeFuncLeaves
-- IMPORT Derived.RangeFuncCalls
-- IMPORT Derived.Shelf.Abstract
-- IMPORT Derived.OwnWalkIn
-- IMPORT Derived.TacticsInMore
-- IMPORT Derived.LoopNIn
-- IMPORT Derived.LoopIn
theorem KeepsOthers.drewN_ (W : World) (n : Nat) : KeepsOthers W (W.drewN n) := ⟨Nat.le_refl _, fun _ _ h _ => h⟩
section
open Go.Shelf
attribute [local go_sem] Oper.semAt_some
/-- The indices that have come, from the last one down. -/
def IsBack {L : Nat} (pre : List (Fin L)) : Prop := ∀ (j : Nat) (h : j < pre.length), (pre[j]).val + j + 1 = L
theorem isBack_nil {L : Nat} : IsBack ([] : List (Fin L)) := fun j h => absurd h (by simp)
theorem isBack_snoc {L : Nat} {pre : List (Fin L)} (h : IsBack pre) (x : Fin L) (hx : x.val + pre.length + 1 = L) : IsBack (pre ++ [x]) := by
  intro j hj
  rcases Nat.lt_or_ge j pre.length with h1 | h1
  · rw [List.getElem_append_left h1]; exact h j h1
  · have : j = pre.length := by simp at hj; omega
    subst this
    rw [List.getElem_append_right (Nat.le_refl _)]
    simpa using hx
def bEnc (l0 : List Int) {L : Nat} (x : Fin L) : Array Value := #[.int .i64 (x.val : Int), .int .u32 (l0.getD x.val 0)]
set_option maxRecDepth 100000 in
set_option maxHeartbeats 4000000 in
theorem back1_in (F : Fence) (n : Nat) (hf : F.fn 52) (hro : F.round = none) (hn : 1 ≤ n) (l B0 n₀ : Nat) (A0 : Option Addr) (c0 L : Nat) (l0 : List Int) (J Jx : List (Fin L) → World → Prop)
    (hY : ∀ pre x W, J pre W → pre.length < L → YieldAt F (n - 1) Try.prog l (bEnc l0 x) W fun e W' =>
      (e = .returned (.bool true) ∧ J (pre ++ [x]) W' ∧ KpB n₀ B0 B0 W W') ∨ (e = .returned (.bool false) ∧ Jx (pre ++ [x]) W'))
    (W : World) (hb0 : Boxed W B0 22 (.slice A0 L c0)) (hr0 : ∀ W', Below n₀ W W' → Kd.C (Kd.int .u32) W' A0 L l0) (h0 : J [] W) :
    CallsIn F n Try.prog 52 #[.func (.yield l) #[] #[], .pointer (some ⟨B0, 0, none⟩)] W fun e W' => (∃ v, e = .returned v) ∧
      ((∃ ys, (IsBack ys ∧ ys.length = L) ∧ J ys W') ∨ (∃ pre : List (Fin L), IsBack pre ∧ Jx pre W')) := by
  have hm0 := (hr0 W (Below.refl _ _)).2.1
  have K0 := Aside0.mk hr0
  have K2 := Aside0.mk hY
  clear hr0 hY
  have hc0 := hb0.cell
  have X0 := Aside0.mk hb0
  clear hb0
  cases L with
  | zero =>
    refine callsIn_of_wp Try.func52 rfl hf ?_ hro
    simp only [Try.ntmps52, List.size_toArray, List.length_cons, List.length_nil, Nat.reduceAdd, Nat.reduceSub, Array.replicate_succ, Array.replicate_zero, List.push_toArray, List.append_toArray, List.nil_append, List.cons_append]
    gi_wp2
    gi_loopw [3] (fun i wr => i = .int .i64 (-1) ∧ J [] wr) (fun _ _ => 0)
    case atStart => exact ⟨rfl, h0⟩
    case round =>
      obtain ⟨rfl, hJs⟩ := hrel
      gi_wp2
      go_end0
      exact ⟨⟨_, rfl⟩, .inl ⟨_, ⟨isBack_nil, rfl⟩, hJs⟩⟩
  | succ L =>
    refine callsIn_of_wp Try.func52 rfl hf ?_ hro
    simp only [Try.ntmps52, List.size_toArray, List.length_cons, List.length_nil, Nat.reduceAdd, Nat.reduceSub, Array.replicate_succ, Array.replicate_zero, List.push_toArray, List.append_toArray, List.nil_append, List.cons_append]
    gi_wp2
    clear hc0
    gi_loopw [3] (fun i wr => ∃ pre : List (Fin (L + 1)), Aside0 (IsBack pre) ∧ J pre wr ∧ Aside0 (KpB n₀ B0 B0 W wr) ∧ ((∃ m : Nat, i = .int .i64 (m : Int) ∧ Aside0 (m + pre.length = L)) ∨ (i = .int .i64 (-1) ∧ Aside0 (pre.length = L + 1))))
      (fun i _ => (intOf i + 1).toNat)
    case atStart => exact ⟨[], ⟨isBack_nil⟩, h0, ⟨Below.refl _ _, fun _ h => h, fun _ h => h⟩, .inl ⟨L, by simp, ⟨rfl⟩⟩⟩
    case round =>
      obtain ⟨pre, hback, hJs, hnx, ⟨m, rfl, hlen⟩ | ⟨rfl, hlen⟩⟩ := hrel
      · have hmL : m < L + 1 := by have := hlen.out; omega
        have hb0 := (hnx.out.box0 _ X0.out).cell
        obtain ⟨a0, rfl, g0⟩ := Kd.at_int (K0.out _ hnx.out.below) (m : Int) (by omega) (by omega)
        obtain ⟨fn, tmps, assign, body, hy, hR⟩ := K2.out _ ⟨m, hmL⟩ wr hJs (by have := hlen.out; omega)
        have hgo := Aside0.mk (isBack_snoc hback.out ⟨m, hmL⟩ (by have := hlen.out; simp; omega))
        simp only [bEnc] at hy
        simp only [Int.toNat_natCast, rd] at g0
        generalize l0.getD m 0 = x0 at hy g0
        have HR := Aside0.mk hR
        clear hR
        gi_wp2
        refine HR.out.mono ?_
        rintro e W3 (⟨rfl, hJ3, hk3⟩ | ⟨rfl, hJx3⟩)
        · gi_wp2
          go_roundw
          case rel =>
            refine ⟨_, hgo, hJ3, ⟨hnx.out.trans_ hk3⟩, ?_⟩
            cases m with
            | zero => exact .inr ⟨by simp, ⟨by have := hlen.out; simp; omega⟩⟩
            | succ m => exact .inl ⟨m, by simp, ⟨by have := hlen.out; simp; omega⟩⟩
          case measure => simp [intOf]
        · gi_wp2
          refine bodyPost_ret (results_none rfl _ _ _) rfl ?_
          exact ⟨⟨_, rfl⟩, .inr ⟨_, hgo.out, hJx3⟩⟩
      · gi_wp2
        go_end0
        exact ⟨⟨_, rfl⟩, .inl ⟨_, ⟨hback.out, hlen.out⟩, hJs⟩⟩
theorem back_stops (F : Fence) (n : Nat) (hf : F.fn 52) (hro : F.round = none) (hn : 1 ≤ n) (B0 n₀ : Nat) (A0 : Option Addr) (c0 L : Nat) (l0 : List Int) (w : World) (hn₀ : n₀ ≤ w.heap.size)
    (hb0 : Boxed w B0 22 (.slice A0 L c0)) (hr0 : ∀ W', Below n₀ w W' → Kd.C (Kd.int .u32) W' A0 L l0) :
    SeqStopsK F n Try.prog 52 #[.pointer (some ⟨B0, 0, none⟩)] (fun x : Fin L => bEnc l0 x) (KpB n₀ B0 B0) (fun ys => IsBack ys ∧ ys.length = L) (fun pre => IsBack pre) L w := fun l J Jx W hW _ _ hY h0 =>
  back1_in F n hf hro hn l B0 n₀ A0 c0 L l0 J Jx hY W ((hW.block B0 hb0.lt).trans hb0) (fun W' h => hr0 W' ((hW.mono hn₀).trans h)) h0
set_option maxHeartbeats 1000000 in
theorem back_in (F : Fence) (n : Nat) (hf : F.fn 42) (hro : F.round = none) (v0 : Value) (h0 : v0.oneCell' = true) (w : World) :
    CallsIn F n Try.prog 42 #[v0] w fun e w' => e = .returned (.func (.func 52) #[] #[.pointer (some ⟨w.heap.size, 0, none⟩)]) ∧ w' = w.alloc (.cells #[v0] 22) := by
  refine callsIn_of_wp Try.func42 rfl hf ?_ hro
  simp only [Try.ntmps42, List.size_toArray, List.length_cons, List.length_nil, Nat.reduceAdd, Nat.reduceSub, Array.replicate_succ, Array.replicate_zero, List.push_toArray, List.append_toArray, List.nil_append, List.cons_append]
  gi_wp2
  go_ret
  exact ⟨rfl, rfl⟩
end
/-! plain -/
theorem val_split (l : List Int) (m : Nat) (hm : m < l.length) : YthdhpihfbggbbaaV.val l = YthdhpihfbggbbaaV.val (l.take m) + YthdhpihfbggbbaaV.B ^ m * (l.getD m 0).toNat + YthdhpihfbggbbaaV.B ^ (m + 1) * YthdhpihfbggbbaaV.val (l.drop (m + 1)) := by
  have h := YthdhpihfbggbbaaV.val_append (l.take (m + 1)) (l.drop (m + 1))
  rw [List.take_append_drop, List.length_take, Nat.min_eq_left (by omega), YthdhpihfbggbbaaV.val_take_succ] at h
  exact h
theorem cmp_at {a b : List Int} (ha : YthdhpihfbggbbaaV.ok a = true) (hb : YthdhpihfbggbbaaV.ok b = true) (hl : a.length = b.length) (m : Nat) (hm : m < a.length) (hd : a.getD m 0 ≠ b.getD m 0) (he : ∀ k, m < k → k < a.length → a.getD k 0 = b.getD k 0) :
    YthdhpihfbggbbaaV.cmpN (YthdhpihfbggbbaaV.val a) (YthdhpihfbggbbaaV.val b) = if a.getD m 0 < b.getD m 0 then -1 else 1 := by
  have e : a.drop (m + 1) = b.drop (m + 1) := by
    apply List.ext_getElem
    · simp [hl]
    · intro i h1 h2
      have h3 := he (m + 1 + i) (by omega) (by simp at h1; omega)
      rw [List.getD_eq_getElem?_getD, List.getD_eq_getElem?_getD, List.getElem?_eq_getElem (by simp at h1; omega), List.getElem?_eq_getElem (by simp at h2; omega)] at h3
      simpa using h3
  have va := val_split a m hm
  have vb := val_split b m (hl ▸ hm)
  have la := YthdhpihfbggbbaaV.val_lt (YthdhpihfbggbbaaV.ok_take ha m)
  have lb := YthdhpihfbggbbaaV.val_lt (YthdhpihfbggbbaaV.ok_take hb m)
  rw [List.length_take, Nat.min_eq_left (by omega)] at la
  rw [List.length_take, Nat.min_eq_left (by omega)] at lb
  rw [e] at va
  have xa := YthdhpihfbggbbaaV.ok_get ha m
  have xb := YthdhpihfbggbbaaV.ok_get hb m
  generalize YthdhpihfbggbbaaV.B ^ (m + 1) * YthdhpihfbggbbaaV.val (b.drop (m + 1)) = z at va vb
  generalize hp : YthdhpihfbggbbaaV.B ^ m = p at va vb la lb
  generalize a.getD m 0 = x at *
  generalize b.getD m 0 = y at *
  unfold YthdhpihfbggbbaaV.cmpN
  by_cases c : x < y
  · have h : p * x.toNat + p ≤ p * y.toNat := by
      have := Nat.mul_le_mul_left p (show x.toNat + 1 ≤ y.toNat by omega)
      rw [Nat.mul_add] at this; omega
    rw [if_pos c, if_pos (by omega)]
  · have h : p * y.toNat + p ≤ p * x.toNat := by
      have := Nat.mul_le_mul_left p (show y.toNat + 1 ≤ x.toNat by omega)
      rw [Nat.mul_add] at this; omega
    rw [if_neg c, if_neg (by omega), if_neg (by omega)]
theorem cmp_all {a b : List Int} (hl : a.length = b.length) (he : ∀ k, k < a.length → a.getD k 0 = b.getD k 0) : YthdhpihfbggbbaaV.cmpN (YthdhpihfbggbbaaV.val a) (YthdhpihfbggbbaaV.val b) = 0 := by
  have e : a = b := by
    apply List.ext_getElem hl
    intro i h1 h2
    have h3 := he i h1
    rw [List.getD_eq_getElem?_getD, List.getD_eq_getElem?_getD, List.getElem?_eq_getElem h1, List.getElem?_eq_getElem h2] at h3
    simpa using h3
  rw [e]; unfold YthdhpihfbggbbaaV.cmpN; simp
theorem norm_val_ge {l : List Int} (ho : YthdhpihfbggbbaaV.ok l = true) (hn : YthdhpihfbggbbaaV.norm l) (h : l ≠ []) : YthdhpihfbggbbaaV.B ^ (l.length - 1) ≤ YthdhpihfbggbbaaV.val l := by
  rcases YthdhpihfbggbbaaV.snoc_cases l with rfl | ⟨a, x, rfl⟩
  · exact absurd rfl h
  · have hx := hn x (by simp)
    have hx2 := (YthdhpihfbggbbaaV.ok_cons.1 (YthdhpihfbggbbaaV.ok_append.1 ho).2).1
    rw [YthdhpihfbggbbaaV.val_snoc, List.length_append, List.length_singleton, Nat.add_sub_cancel]
    have := Nat.mul_le_mul_left (YthdhpihfbggbbaaV.B ^ a.length) (show 1 ≤ x.toNat by omega)
    omega
theorem val_lt_of_length {a b : List Int} (ha : YthdhpihfbggbbaaV.ok a = true) (hb : YthdhpihfbggbbaaV.ok b = true) (nb : YthdhpihfbggbbaaV.norm b) (hl : a.length < b.length) : YthdhpihfbggbbaaV.val a < YthdhpihfbggbbaaV.val b := by
  have h1 := YthdhpihfbggbbaaV.val_lt ha
  have h2 := norm_val_ge hb nb (by intro h; rw [h] at hl; simp at hl)
  have h3 : YthdhpihfbggbbaaV.B ^ a.length ≤ YthdhpihfbggbbaaV.B ^ (b.length - 1) := Nat.pow_le_pow_right (by decide) (by omega)
  omega
def nat_Cmp.f (l0 : List Int) (l1 : List Int) : Option Int := if YthdhpihfbggbbaaV.ok l0 = true ∧ YthdhpihfbggbbaaV.ok l1 = true then some (YthdhpihfbggbbaaV.cmpS l0 l1) else none
theorem cmp_int_of (x y : Int) (w : World) : Calls Try.prog 41 #[.int .i64 x, .int .i64 y] w fun e w' => e = .returned (.int .i64 (if x < y then -1 else if x = y then 0 else 1)) ∧ Drawn0 w w' := by
  refine cmp_Compare_int.calls x y _ w ?_
  simp only [cmp_Compare_int.f, cmp_isNaN_int.f, Option.bind_some, bne_self_eq_false, Bool.false_eq_true, if_false]
  by_cases h : x < y
  · rw [if_pos h, if_pos h]
  · rw [if_neg h, if_neg h]
    by_cases h2 : x = y
    · rw [if_neg (by omega), if_pos h2]
    · rw [if_pos (by omega), if_neg h2]
theorem cmp_u32_of (x y : Int) (w : World) : Calls Try.prog 43 #[.int .u32 x, .int .u32 y] w fun e w' => e = .returned (.int .i64 (if x < y then -1 else if x = y then 0 else 1)) ∧ Drawn0 w w' := by
  refine cmp_Compare_uint32.calls x y _ w ?_
  simp only [cmp_Compare_uint32.f, cmp_isNaN_uint32.f, Option.bind_some, bne_self_eq_false, Bool.false_eq_true, if_false]
  by_cases h : x < y
  · rw [if_pos h, if_pos h]
  · rw [if_neg h, if_neg h]
    by_cases h2 : x = y
    · rw [if_neg (by omega), if_pos h2]
    · rw [if_pos (by omega), if_neg h2]
set_option maxRecDepth 100000 in
set_option maxHeartbeats 4000000 in
theorem nat_Cmp_no (A0 : Option Addr) (c0 : Nat) (l0 : List Int) (A1 : Option Addr) (c1 : Nat) (l1 : List Int) (w : World) (hr0 : Kd.C (Kd.int .u32) w A0 l0.length l0) (hc0 : l0.length ≤ c0) (hr1 : Kd.C (Kd.int .u32) w A1 l1.length l1) (hc1 : l1.length ≤ c1) (hno : (YthdhpihfbggbbaaV.may l0 && YthdhpihfbggbbaaV.may l1) = false) :
    Calls Try.prog 15 #[.slice A0 l0.length c0, .slice A1 l1.length c1] w fun e w' => e = .returned (.int .i64 0) ∧ Below w.heap.size w w' := by
  have HM := may2 (w := (w.alloc (.cells #[.slice A1 l1.length c1] 22)).alloc (.cells #[.int .i64 0] 3)) (Kd.C_alloc (Kd.C_alloc hr0 _) _) hc0 (Kd.C_alloc (Kd.C_alloc hr1 _) _) hc1
  rw [hno] at HM
  simp only [World.size_alloc] at HM
  have H := Aside0.mk HM
  have bR := Boxed.new (w.alloc (.cells #[.slice A1 l1.length c1] 22)) 3 (.int .i64 0)
  rw [World.size_alloc] at bR
  clear HM hr0 hc0 hr1 hc1 hno
  have hcr := bR.cell
  have hfr := bR.frozen
  go_enter Try.func15, Try.ntmps15
  go_wp2_with (go_at_call 36; refine H.out.mono ?_; rintro e w' ⟨rfl, ⟨nd, rfl⟩⟩)
  have hend := (Boxed.set (.int .i64 0) (show Boxed ((((w.alloc (.cells #[.slice A1 l1.length c1] 22)).alloc (.cells #[.int .i64 0] 3)).alloc (.cells #[.slice A0 l0.length c0, .slice A1 l1.length c1] 22)).drewN nd) (w.heap.size + 1) 3 (.int .i64 0) from bR.alloc _)).cell
  exact bodyPost_ret (v := .int .i64 0) (by simp [results, Try.results15, go_sem, hend]) rfl ⟨rfl, (pw_below_drewN (below_alloc (below_alloc (below_alloc (Below.refl _ _) _) _) _) nd).setCell (p := ⟨w.heap.size + 1, 0, none⟩) (by simp) _⟩
set_option maxRecDepth 100000 in
set_option maxHeartbeats 4000000 in
theorem nat_Cmp_len (A0 : Option Addr) (c0 : Nat) (l0 : List Int) (A1 : Option Addr) (c1 : Nat) (l1 : List Int) (w : World) (hr0 : Kd.C (Kd.int .u32) w A0 l0.length l0) (hc0 : l0.length ≤ c0) (hr1 : Kd.C (Kd.int .u32) w A1 l1.length l1) (hc1 : l1.length ≤ c1) (hyes : (YthdhpihfbggbbaaV.may l0 && YthdhpihfbggbbaaV.may l1) = true) (hne : l0.length ≠ l1.length) :
    Calls Try.prog 15 #[.slice A0 l0.length c0, .slice A1 l1.length c1] w fun e w' => e = .returned (.int .i64 (if (l0.length : Int) < l1.length then -1 else if (l0.length : Int) = l1.length then 0 else 1)) ∧ Below w.heap.size w w' := by
  have HM := may2 (w := (w.alloc (.cells #[.slice A1 l1.length c1] 22)).alloc (.cells #[.int .i64 0] 3)) (Kd.C_alloc (Kd.C_alloc hr0 _) _) hc0 (Kd.C_alloc (Kd.C_alloc hr1 _) _) hc1
  rw [hyes] at HM
  simp only [World.size_alloc] at HM
  have H := Aside0.mk HM
  have HC := Aside0.mk (fun W => cmp_int_of (l0.length : Int) (l1.length : Int) W)
  generalize (if (l0.length : Int) < l1.length then -1 else if (l0.length : Int) = l1.length then 0 else (1 : Int)) = r at HC ⊢
  have bR := Boxed.new (w.alloc (.cells #[.slice A1 l1.length c1] 22)) 3 (.int .i64 0)
  rw [World.size_alloc] at bR
  have bP := (Boxed.new w 22 (.slice A1 l1.length c1)).alloc (.cells #[.int .i64 0] 3)
  have q1 : ((l0.length : Int) == (l1.length : Int)) = false := beq_eq_false_iff_ne.2 (by omega)
  have q2 : (l0.length == l1.length) = false := beq_eq_false_iff_ne.2 hne
  have q3 : ((l0.length : Int) != (l1.length : Int)) = true := by rw [bne, q1]; rfl
  have q4 : (l0.length != l1.length) = true := by rw [bne, q2]; rfl
  clear HM hr0 hc0 hr1 hc1 hyes
  have hcr := bR.cell
  have hfr := bR.frozen
  have hcp := bP.cell
  go_enter Try.func15, Try.ntmps15
  go_wp2_with (first | (go_at_call 36; refine H.out.mono ?_; rintro e w' ⟨rfl, ⟨nd, rfl⟩⟩) | (go_at_call 41; refine (HC.out _).mono ?_; rintro e w' ⟨rfl, ⟨nd2, rfl⟩⟩))
  have hend := (Boxed.set (.int .i64 r) (show Boxed ((((w.alloc (.cells #[.slice A1 l1.length c1] 22)).alloc (.cells #[.int .i64 0] 3)).alloc (.cells #[.slice A0 l0.length c0, .slice A1 l1.length c1] 22)).drewN (nd + nd2)) (w.heap.size + 1) 3 (.int .i64 0) from bR.alloc _)).cell
  exact bodyPost_ret (v := .int .i64 r) (by simp [results, Try.results15, go_sem, hend]) rfl ⟨rfl, (pw_below_drewN (below_alloc (below_alloc (below_alloc (Below.refl w.heap.size w) _) _) _) (nd + nd2)).setCell (p := ⟨w.heap.size + 1, 0, none⟩) (Nat.le_succ _) _⟩
section
open Go.Shelf
attribute [local go_sem] Oper.semAt_some
set_option maxRecDepth 100000 in
set_option maxHeartbeats 8000000 in
theorem nat_Cmp_eq (A0 : Option Addr) (c0 : Nat) (l0 : List Int) (A1 : Option Addr) (c1 : Nat) (l1 : List Int) (w : World) (hr0 : Kd.C (Kd.int .u32) w A0 l0.length l0) (hc0 : l0.length ≤ c0) (hr1 : Kd.C (Kd.int .u32) w A1 l1.length l1) (hc1 : l1.length ≤ c1) (hyes : (YthdhpihfbggbbaaV.may l0 && YthdhpihfbggbbaaV.may l1) = true) (hlen : l0.length = l1.length) (o0 : YthdhpihfbggbbaaV.ok l0 = true) (o1 : YthdhpihfbggbbaaV.ok l1 = true) :
    Calls Try.prog 15 #[.slice A0 l0.length c0, .slice A1 l1.length c1] w fun e w' => e = .returned (.int .i64 (YthdhpihfbggbbaaV.cmpN (YthdhpihfbggbbaaV.val l0) (YthdhpihfbggbbaaV.val l1))) ∧ Below w.heap.size w w' := by
  have HM := may2 (w := (w.alloc (.cells #[.slice A1 l1.length c1] 22)).alloc (.cells #[.int .i64 0] 3)) (Kd.C_alloc (Kd.C_alloc hr0 _) _) hc0 (Kd.C_alloc (Kd.C_alloc hr1 _) _) hc1
  rw [hyes] at HM
  simp only [World.size_alloc] at HM
  obtain ⟨L, hL⟩ : ∃ L, L = l0.length := ⟨_, rfl⟩
  have hL1 : L = l1.length := hL.trans hlen
  have hcmp : ∀ m : Nat, m < L → l0.getD m 0 ≠ l1.getD m 0 → (∀ k, m < k → k < L → l0.getD k 0 = l1.getD k 0) → YthdhpihfbggbbaaV.cmpN (YthdhpihfbggbbaaV.val l0) (YthdhpihfbggbbaaV.val l1) = if l0.getD m 0 < l1.getD m 0 then -1 else if l0.getD m 0 = l1.getD m 0 then 0 else 1 := fun m h1 h2 h3 => by
    rw [cmp_at o0 o1 hlen m (hL ▸ h1) h2 (fun k h4 h5 => h3 k h4 (hL ▸ h5)), if_neg h2]
  have hall : (∀ k, k < L → l0.getD k 0 = l1.getD k 0) → YthdhpihfbggbbaaV.cmpN (YthdhpihfbggbbaaV.val l0) (YthdhpihfbggbbaaV.val l1) = 0 := fun h => cmp_all hlen (fun k hk => h k (hL ▸ hk))
  rw [← hL] at hr0 hc0
  rw [← hL1] at hr1 hc1
  rw [← hL, ← hL1] at HM ⊢
  have H := Aside0.mk HM
  have HA := Aside0.mk hall
  have HP := Aside0.mk hcmp
  have HR0 := Aside0.mk hr0
  have HR1 := Aside0.mk hr1
  generalize YthdhpihfbggbbaaV.cmpN (YthdhpihfbggbbaaV.val l0) (YthdhpihfbggbbaaV.val l1) = r at HA HP ⊢
  have hLm := hr0.2.1
  have bR := Boxed.new (w.alloc (.cells #[.slice A1 L c1] 22)) 3 (.int .i64 0)
  rw [World.size_alloc] at bR
  have bP := (Boxed.new w 22 (.slice A1 L c1)).alloc (.cells #[.int .i64 0] 3)
  clear HM hr0 hc0 hr1 hc1 hyes hlen hcmp hall hL hL1 o0 o1
  have hcr := bR.cell
  have hfr := bR.frozen
  have hcp := bP.cell
  refine (callsIn_wide (n := 6)).1 ?_
  refine callsIn_of_wp_marks Try.func15 rfl trivial ?_ rfl
  simp only [Try.ntmps15, List.size_toArray, List.length_cons, List.length_nil, Nat.reduceAdd, Nat.reduceSub, Array.replicate_succ, Array.replicate_zero, List.push_toArray, List.append_toArray, List.nil_append, List.cons_append]
  gi_wp2_with (first | (refine ⟨trivial, ?_⟩; gi_at_call 36; refine (callsIn_wide.2 H.out).mono ?_; rintro e w' ⟨rfl, ⟨nd, rfl⟩⟩) | (refine ⟨trivial, ?_⟩; gi_at_call 42; refine (back_in Fence.wide _ trivial rfl _ rfl _).mono ?_; rintro e w' ⟨rfl, rfl⟩))
  have bO := (bR.alloc (.cells #[.slice A0 L c0, .slice A1 L c1] 22))
  have bO2 : Boxed (((((w.alloc (.cells #[.slice A1 L c1] 22)).alloc (.cells #[.int .i64 0] 3)).alloc (.cells #[.slice A0 L c0, .slice A1 L c1] 22)).drewN nd).alloc (.cells #[.slice A0 L c0] 22)) (w.heap.size + 1) 3 (.int .i64 0) := Boxed.alloc (show Boxed ((((w.alloc (.cells #[.slice A1 L c1] 22)).alloc (.cells #[.int .i64 0] 3)).alloc (.cells #[.slice A0 L c0, .slice A1 L c1] 22)).drewN nd) (w.heap.size + 1) 3 (.int .i64 0) from bO) _
  have bP2 : Boxed (((((w.alloc (.cells #[.slice A1 L c1] 22)).alloc (.cells #[.int .i64 0] 3)).alloc (.cells #[.slice A0 L c0, .slice A1 L c1] 22)).drewN nd).alloc (.cells #[.slice A0 L c0] 22)) w.heap.size 22 (.slice A1 L c1) := Boxed.alloc (show Boxed ((((w.alloc (.cells #[.slice A1 L c1] 22)).alloc (.cells #[.int .i64 0] 3)).alloc (.cells #[.slice A0 L c0, .slice A1 L c1] 22)).drewN nd) w.heap.size 22 (.slice A1 L c1) from bP.alloc _) _
  have bK := Boxed.new ((((w.alloc (.cells #[.slice A1 L c1] 22)).alloc (.cells #[.int .i64 0] 3)).alloc (.cells #[.slice A0 L c0, .slice A1 L c1] 22)).drewN nd) 22 (.slice A0 L c0)
  have eK : ((((w.alloc (.cells #[.slice A1 L c1] 22)).alloc (.cells #[.int .i64 0] 3)).alloc (.cells #[.slice A0 L c0, .slice A1 L c1] 22)).drewN nd).heap.size = w.heap.size + 1 + 1 + 1 := by simp
  rw [eK] at bK
  have hB0 : Below w.heap.size w (((((w.alloc (.cells #[.slice A1 L c1] 22)).alloc (.cells #[.int .i64 0] 3)).alloc (.cells #[.slice A0 L c0, .slice A1 L c1] 22)).drewN nd).alloc (.cells #[.slice A0 L c0] 22)) := below_alloc (pw_below_drewN (below_alloc (below_alloc (below_alloc (Below.refl _ _) _) _) _) nd) _
  obtain ⟨W0, hW0⟩ : ∃ W0, W0 = (((((w.alloc (.cells #[.slice A1 L c1] 22)).alloc (.cells #[.int .i64 0] 3)).alloc (.cells #[.slice A0 L c0, .slice A1 L c1] 22)).drewN nd).alloc (.cells #[.slice A0 L c0] 22)) := ⟨_, rfl⟩
  have hsz : W0.heap.size = w.heap.size + 4 := by rw [hW0]; simp
  rw [← hW0] at bO2 bP2 bK hB0 ⊢
  clear hW0 bO eK H hcr hfr hcp bR bP
  have hst := back_stops Fence.wide (6 - 1) trivial rfl (by omega) (w.heap.size + 1 + 1 + 1) w.heap.size A0 c0 L l0 W0 hB0.size bK (fun W' hb => Kd.C_below HR0.out (hB0.trans hb))
  refine wpIn_rangeFunc_ownG rfl (by omega) (gf := 52) (lb := #[.pointer (some ⟨w.heap.size + 1 + 1 + 1, 0, none⟩)]) rfl trivial (enters_of Try.func52 (by kernel_rfl) rfl)
    hst (fun h k => h.trans_ k) (KpB.put_ hB0.size) (Below.refl _ _) (fun _ => rfl)
    (fun pre W => (∀ y ∈ pre, l0.getD y.val 0 = l1.getD y.val 0) ∧ Boxed W w.heap.size 22 (.slice A1 L c1) ∧ Boxed W (w.heap.size + 1) 3 (.int .i64 0) ∧ Boxed W (w.heap.size + 3) 22 (.slice A0 L c0) ∧ Below w.heap.size w W)
    (fun c pre W => (c = .ret ∧ ∃ ini last, pre = ini ++ [last] ∧ (∀ y ∈ ini, l0.getD y.val 0 = l1.getD y.val 0) ∧ l0.getD last.val 0 ≠ l1.getD last.val 0 ∧ Boxed W (w.heap.size + 1) 3 (.int .i64 (if l0.getD last.val 0 < l1.getD last.val 0 then -1 else if l0.getD last.val 0 = l1.getD last.val 0 then 0 else 1))) ∧ Below w.heap.size w W)
    (fun s A B row hs hg hr => ⟨hs.1, boxed_own _ _ (fun _ : Unit => Value.slice A1 L c1) () A B row hs.2.1 hg (fun r e => (hr r e).2), boxed_own _ _ (fun _ : Unit => Value.int .i64 0) () A B row hs.2.2.1 hg (fun r e => (hr r e).2), boxed_own _ _ (fun _ : Unit => Value.slice A0 L c0) () A B row hs.2.2.2.1 hg (fun r e => (hr r e).2), ownFrom_below (β := Unit) (Nat.le_refl _) (show w.heap.size ≤ W0.heap.size by rw [hsz]; omega) () A B row hs.2.2.2.2 hg hr⟩)
    (fun c s A B row hs hg hr => by
      obtain ⟨⟨hc, ini, last, e1, e2, e3, e4⟩, hb⟩ := hs
      exact ⟨⟨hc, ini, last, e1, e2, e3, boxed_own _ _ (fun _ : Unit => Value.int .i64 _) () A B row e4 hg (fun r e => (hr r e).2)⟩, ownFrom_below (β := Unit) (Nat.le_refl _) (show w.heap.size ≤ W0.heap.size by rw [hsz]; omega) () A B row hb hg hr⟩)
    ⟨by simp, bP2, bO2, bK, hB0⟩
    (fun x => { tmps := #[.slice A0 L c0, .slice A1 L c1, undef, .pointer (some ⟨w.heap.size, 0, none⟩), .pointer (some ⟨w.heap.size + 1, 0, none⟩), .int .i64 (x.val : Int), .int .u32 (l0.getD x.val 0), .slice A0 L c0, .slice A1 L c1, .slice (some ⟨w.heap.size + 1 + 1, 0, none⟩) 2 2, .bool true, .bool false, .slice A0 L c0, .int .i64 L, .slice A1 L c1, .int .i64 L, .bool false, undef, undef, undef, undef, undef, .slice A0 L c0, .func (.func 52) #[] #[.pointer (some ⟨w.heap.size + 1 + 1 + 1, 0, none⟩)], .int .i64 (x.val : Int), .int .u32 (l0.getD x.val 0), undef, undef, undef, undef, undef, undef, undef, undef, undef, undef, undef, undef], defers := [] }) ?assign ?body ?done ?stop
  case assign =>
    intro l x W K hK
    simp only [bEnc]
    generalize l0.getD x.val 0 = x0 at hK ⊢
    gi_wp2
    exact hK
  case body =>
    rintro l pre ⟨x, hx⟩ W ⟨hp, h1, h2, h3, hB⟩ hlt
    obtain ⟨a1, rfl, g1⟩ := Kd.at_int (Kd.C_below HR1.out hB) (x : Int) (by omega) (by omega)
    simp only [Int.toNat_natCast, rd] at g1
    dsimp only
    have e0 : ∃ v, v = l0.getD x 0 := ⟨_, rfl⟩
    have e1 : ∃ v, v = l1.getD x 0 := ⟨_, rfl⟩
    obtain ⟨v0, e0⟩ := e0
    obtain ⟨v1, e1⟩ := e1
    rw [← e1] at g1
    rw [← e0]
    have E0 := Aside0.mk e0
    have E1 := Aside0.mk e1
    have hc1 := h1.cell
    have hc2 := h2.cell
    have hf2 := h2.frozen
    have KB := Aside0.mk (And.intro hp (And.intro h1 (And.intro h2 (And.intro h3 hB))))
    clear hp h1 h2 h3 hB e0 e1 hst bO2 bP2 bK hB0
    by_cases hne : v0 = v1
    · subst hne
      gi_wp2
      obtain ⟨k0, k1, k2, k3, k4⟩ := KB.out
      refine ⟨KeepsFrom.refl _ _, ⟨Below.refl _ _, fun _ h => h, fun _ h => h⟩, ?_, k1, k2, k3, k4⟩
      intro y hy
      rcases List.mem_append.1 hy with hy | hy
      · exact k0 y hy
      · have : y = ⟨x, hx⟩ := by simpa using hy
        subst this
        exact E0.out.symm.trans E1.out
    · obtain ⟨q, hq⟩ : ∃ q : Int, q = if v0 < v1 then -1 else if v0 = v1 then 0 else 1 := ⟨_, rfl⟩
      have HC := Aside0.mk (fun W => cmp_u32_of v0 v1 W)
      rw [← hq] at HC
      have HQ := Aside0.mk hq
      clear hq
      gi_wp2_with (refine ⟨trivial, ?_⟩; gi_at_call 43; refine (CallsIn.inRound l (callsIn_wide.2 (HC.out _))).mono ?_; rintro e w' ⟨rfl, ⟨nd2, rfl⟩⟩)
      obtain ⟨k0, k1, k2, k3, k4⟩ := KB.out
      refine ⟨((KeepsOthers.drewN_ W nd2).trans (KeepsOthers.setCell _ _ _)).from _, ⟨rfl, pre, ⟨x, hx⟩, rfl, k0, ?_, ?_⟩, (pw_below_drewN k4 nd2).setCell (p := ⟨w.heap.size + 1, 0, none⟩) (by simp) _⟩
      · show l0.getD x 0 ≠ l1.getD x 0
        rw [← E0.out, ← E1.out]; exact hne
      · show Boxed _ _ _ (.int .i64 (if l0.getD x 0 < l1.getD x 0 then -1 else if l0.getD x 0 = l1.getD x 0 then 0 else 1))
        rw [← E0.out, ← E1.out, ← HQ.out]
        exact Boxed.set _ (show Boxed (W.drewN nd2) _ _ _ from k2)
  case done =>
    rintro D ys W hD ⟨hbk, hyl⟩ ⟨hp, h1, h2, h3, hB⟩ hK
    have hc2 := h2.cell
    have hf2 := h2.frozen
    have HD := Aside0.mk (And.intro hp (And.intro hbk (And.intro hyl (And.intro h2 (And.intro hB hK)))))
    clear hp hbk hyl h1 h2 h3 hB hK hst bO2 bP2 bK hB0
    gi_wp2
    obtain ⟨hp, hbk, hyl, h2, hB, hK⟩ := HD.out
    have hr : r = 0 := HA.out (fun k hk => by
      have hj : L - 1 - k < ys.length := by omega
      have h5 := hbk (L - 1 - k) hj
      have h6 := hp ys[L - 1 - k] (List.getElem_mem hj)
      rw [show (ys[L - 1 - k]).val = k by omega] at h6
      exact h6)
    have hK' := (KeepsOthers.setCell W ⟨w.heap.size + 1, 0, none⟩ (.int .i64 0)).same D _ hK rfl
    refine ⟨by simp, .inl ⟨_, _, rfl, run_takeDeferred hK', ?_⟩⟩
    have hc5 := cell_kept (h2.set (.int .i64 0)).cell (grownBy_putObj' _ D (.deferred none)) (fun r e => by cases e; exact ⟨_, hK', rfl⟩)
    refine ⟨.int .i64 0, ?_, by rw [hr], (hB.setCell (p := ⟨w.heap.size + 1, 0, none⟩) (by simp) _).trans (belowK_b (w := w) (Nat.le_refl _) _ D _ _ (by omega) hK' rfl rfl)⟩
    simp [results, Try.f15, go_sem, hc5]
  case stop =>
    rintro D c pre W hD hbk ⟨⟨rfl, ini, last, rfl, e2, e3, e4⟩, hB⟩ hK
    gi_wp2
    refine ⟨by simp, .inl ⟨_, _, rfl, run_takeDeferred hK, ?_⟩⟩
    have hc5 := cell_kept e4.cell (grownBy_putObj' _ D (.deferred none)) (fun r e => by cases e; exact ⟨_, hK, rfl⟩)
    have hlast := hbk ini.length (by simp)
    rw [List.getElem_append_right (Nat.le_refl _)] at hlast
    simp only [Nat.sub_self, List.getElem_cons_zero] at hlast
    have hr := HP.out last.val last.isLt e3 (fun k h4 h5 => by
      have hj : L - 1 - k < ini.length := by omega
      have h6 := hbk (L - 1 - k) (by simp; omega)
      rw [List.getElem_append_left hj] at h6
      have h7 := e2 ini[L - 1 - k] (List.getElem_mem hj)
      rw [show (ini[L - 1 - k]).val = k by omega] at h7
      exact h7)
    rw [← hr] at hc5
    refine ⟨.int .i64 r, ?_, rfl, hB.trans (belowK_b (w := w) (Nat.le_refl _) W D _ _ (by omega) hK rfl rfl)⟩
    simp [results, Try.f15, go_sem, hc5]
end
theorem nat_Cmp.calls (A0 : Option Addr) (c0 : Nat) (l0 : List Int) (A1 : Option Addr) (c1 : Nat) (l1 : List Int) (r : Int) (w : World) (hr0 : Kd.C (Kd.int .u32) w A0 l0.length l0) (hc0 : l0.length ≤ c0) (hr1 : Kd.C (Kd.int .u32) w A1 l1.length l1) (hc1 : l1.length ≤ c1) (h : nat_Cmp.f l0 l1 = some r) :
    Calls Try.prog 15 #[.slice A0 l0.length c0, .slice A1 l1.length c1] w fun e w' => e = .returned (.int .i64 r) ∧ Below w.heap.size w w' := by
  unfold nat_Cmp.f at h
  by_cases hok : YthdhpihfbggbbaaV.ok l0 = true ∧ YthdhpihfbggbbaaV.ok l1 = true
  · rw [if_pos hok] at h
    obtain rfl := Option.some.inj h
    unfold YthdhpihfbggbbaaV.cmpS
    cases hm : (YthdhpihfbggbbaaV.may l0 && YthdhpihfbggbbaaV.may l1) with
    | false =>
      rw [if_neg (by simp)]
      exact nat_Cmp_no A0 c0 l0 A1 c1 l1 w hr0 hc0 hr1 hc1 hm
    | true =>
      rw [if_pos rfl]
      have hm' := hm
      simp only [Bool.and_eq_true] at hm'
      by_cases hl : l0.length = l1.length
      · exact nat_Cmp_eq A0 c0 l0 A1 c1 l1 w hr0 hc0 hr1 hc1 hm hl hok.1 hok.2
      · have h2 := nat_Cmp_len A0 c0 l0 A1 c1 l1 w hr0 hc0 hr1 hc1 hm hl
        have e : YthdhpihfbggbbaaV.cmpN (YthdhpihfbggbbaaV.val l0) (YthdhpihfbggbbaaV.val l1) = if (l0.length : Int) < l1.length then -1 else if (l0.length : Int) = l1.length then 0 else 1 := by
          unfold YthdhpihfbggbbaaV.cmpN
          by_cases c : l0.length < l1.length
          · have := val_lt_of_length hok.1 hok.2 (YthdhpihfbggbbaaV.may_norm hm'.2) c
            rw [if_pos this, if_pos (by omega)]
          · have := val_lt_of_length hok.2 hok.1 (YthdhpihfbggbbaaV.may_norm hm'.1) (show l1.length < l0.length by omega)
            rw [if_neg (by omega), if_neg (by omega), if_neg (by omega), if_neg (by omega)]
        rw [e]
        exact h2
  · rw [if_neg hok] at h
    cases h

end Go.Proofs.Ythdhpihfbggbbaa.PNat
