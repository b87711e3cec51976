/- Texts of the seat Ytgikmpgpccfiiaa that belong together, joined. -/
import Derived.Test.YtgikmpgpccfiiaaPSxpx0
import Derived.Test.YtgikmpgpccfiiaaGPSxpx4toPSxpx8
import Derived.StillTail
import Derived.OrdersIn
import Derived.TacticsIn
import Derived.OwnWalkIn
-- A text of the seat Ytgikmpgpccfiiaa, written by a program of this session (drive.py).
namespace Go.Proofs.Ytgikmpgpccfiiaa.PSxp
open Go.RowKit Go.Proofs.YtgikmpgpccfiiaaW.PrintWords Go.Proofs.YtgikmpgpccfiiaaW.PrintLast Go.Proofs.YtgikmpgpccfiiaaW.PrintMore
attribute [local go_sem] max2_int min2_int max_two min_two max_three min_three max_four min_four   -- for this text's walks alone
set_option linter.unusedVariables false
set_option linter.unusedSimpArgs false

/-! ### lex_gap: function 65 -/
def lex_gap.l0 : Nat → ByteArray → Int → Option (Int)
 | 0, _, _ => none
 | k + 1, x0, x3 => if x3 < (x0.size : Int) then (if 0 ≤ x3 then (if (bt x0 x3) = 59 then (if x3 ≤ (x0.size : Int) then ((strings_IndexByte.f (x0.extract (x3 : Int).toNat x0.size) 10).bind fun t121 => (if t121 ≥ 0 then (lex_gap.l0 k x0 (wrap64 (x3 + t121))) else (some (x0.size : Int)))) else (none)) else (if (bt x0 x3) = 32 then (lex_gap.l0 k x0 (wrap64 (x3 + 1))) else (if (bt x0 x3) = 9 then (lex_gap.l0 k x0 (wrap64 (x3 + 1))) else (if (bt x0 x3) = 13 then (lex_gap.l0 k x0 (wrap64 (x3 + 1))) else (if (bt x0 x3) = 10 then (lex_gap.l0 k x0 (wrap64 (x3 + 1))) else (some x3)))))) else (none)) else (some x3)
def lex_gap.f (k : Nat) (a0 : ByteArray) : Option (Int) := lex_gap.l0 k a0 0
theorem lex_gap.mono_l : ∀ k, (∀ y0 y1, LeO (lex_gap.l0 k y0 y1) (lex_gap.l0 (k + 1) y0 y1))
 | 0 => fun _ _ r h => by simp [lex_gap.l0] at h
 | k + 1 => by
  have ih0 := lex_gap.mono_l k
  ·intro y0 y1
   unfold lex_gap.l0
   repeat' first
   | (with_reducible exact ih0 _ _)
   | (with_reducible exact LeO.refl _)
   | (with_reducible exact LeO.none _)
   | (with_reducible refine LeO.ite ?_ ?_)
   | (with_reducible refine LeO.bind ?_ (fun _ => ?_))
   | exact ih0 _ _
   | exact LeO.none _
   | refine LeO.ite ?_ ?_
   | refine LeO.bind ?_ (fun _ => ?_)
theorem lex_gap.mono : ∀ a0 k, LeO (lex_gap.f k a0) (lex_gap.f (k + 1) a0) := by
 intro a0 k
 have ih0 := lex_gap.mono_l k
 unfold lex_gap.f
 repeat' first
   | (with_reducible exact ih0 _ _)
   | (with_reducible exact LeO.refl _)
   | (with_reducible exact LeO.none _)
   | (with_reducible refine LeO.ite ?_ ?_)
   | (with_reducible refine LeO.bind ?_ (fun _ => ?_))
   | exact ih0 _ _
   | exact LeO.none _
   | refine LeO.ite ?_ ?_
   | refine LeO.bind ?_ (fun _ => ?_)
set_option maxHeartbeats 8000000 in
set_option maxRecDepth 100000 in
theorem lex_gap.calls (k : Nat) (a0 : ByteArray) (r : Int) (w : World) (h : lex_gap.f k a0 = some r) :
  Calls Try.prog 65 #[.string a0] w fun e w' => e = .returned (.int .i64 r) ∧ Drawn0 w w' := by
 have H : (lex_gap.l0 k a0 0) = some r := h
 clear h
 have H' := Aside0.mk H
 clear H
 go_enter Try.func65, Try.ntmps65
 go_wp2
 go_loopg [3] k (fun kq v3 w' => ∃ (x3_1 : Int), v3 = .int .i64 x3_1 ∧ Aside0 (lex_gap.l0 kq a0 x3_1 = some r) ∧ Aside0 (kq ≤ k) ∧ Drawn0 w w')
 case atStart => exact ⟨(0), (by first | rfl | (simp; done) | (simp [*]; done)), H', ⟨Nat.le_refl _⟩, by repeat (first | exact Drawn0.refl _ | apply Drawn0.step)⟩
 case round =>
  clear H'
  obtain ⟨x3_1, rfl, HA, HK1, ⟨m1, rfl⟩⟩ := hrel
  cases gk with
  | zero => exact absurd HA.out (by simp [lex_gap.l0])
  | succ k1 =>
   have H := HA.out
   clear HA
   simp only [lex_gap.l0] at H
   by_cases c2 : x3_1 < (a0.size : Int)
   ·rw [if_pos c2] at H
    have c2b0 : decide (x3_1 < (a0.size : Int)) = true := decide_eq_true c2
    clear c2
    by_cases c3 : 0 ≤ x3_1
    ·rw [if_pos c3] at H
     have c3b0 : decide (0 ≤ x3_1) = true := decide_eq_true c3
     clear c3
     by_cases c5 : (bt a0 x3_1) = 59
     ·rw [if_pos c5] at H
      have c5b0 : ((bt a0 x3_1) == 59) = true := beq_iff_eq.mpr c5
      have c5b1 : ((bt a0 x3_1) != 59) = false := bne_eq_false_iff_eq.mpr c5
      clear c5
      have c6b0 := eq_true (of_decide_eq_true (by first | (with_reducible assumption) | assumption) : 0 ≤ x3_1)
      by_cases c7 : x3_1 ≤ (a0.size : Int)
      ·rw [if_pos c7] at H
       have c7b0 := eq_true c7
       have c7b1 : decide (x3_1 ≤ (a0.size : Int)) = true := decide_eq_true c7
       clear c7
       replace H := Option.bind_eq_some_iff.mp H
       obtain ⟨t121, A80, H⟩ := H
       replace H : (if t121 ≥ 0 then (lex_gap.l0 k1 a0 (wrap64 (x3_1 + t121))) else (some (a0.size : Int))) = some r := H
       have A8 := Aside0.mk A80
       clear A80
       by_cases c9 : t121 ≥ 0
       ·rw [if_pos c9] at H
        have c9b0 : decide (0 ≤ t121) = true := decide_eq_true c9
        clear c9
        have H' := Aside0.mk H
        clear H
        have p4 : 0 ≤ (x3_1 : Int) := of_decide_eq_true (by first | (with_reducible assumption) | assumption)
        have q4 : x3_1 < (a0.size : Int) := of_decide_eq_true (by first | (with_reducible assumption) | assumption)
        have hx4 := bt_at a0 x3_1
        replace p4 := eq_true p4
        replace q4 := eq_true q4
        go_wp2_with (first | ((with_reducible refine gate_callee (f := 76) rfl ?_); refine goesL_ (some 18) rfl rfl Try.func76 (by kernel_rfl) rfl #[.string (a0.extract (x3_1 : Int).toNat a0.size), .int .u8 10] rfl (by (try simp only [List.map_toArray, List.map_cons, List.map_nil]); first | done | rfl | (simp only [List.length_drop, List.length_take]; rfl)) ?_; (with_reducible refine (strings_IndexByte.calls (a0.extract (x3_1 : Int).toNat a0.size) 10 t121 _ A8.out).mono ?_); rintro e w' ⟨rfl, ⟨nd, rfl⟩⟩; refine ⟨_, rfl, ?_⟩))
        go_roundg k1
        case measure => have := HK1.out; omega
        case rel => exact ⟨(wrap64 (x3_1 + t121)), (by first | rfl | (simp; done) | (simp [*]; done)), H', ⟨by have := HK1.out; omega⟩, by repeat (first | exact Drawn0.refl _ | apply Drawn0.step)⟩
       ·rw [if_neg c9] at H
        have c9b0 : decide (0 ≤ t121) = false := decide_eq_false c9
        clear c9
        obtain rfl := Option.some.inj H
        have p4 : 0 ≤ (x3_1 : Int) := of_decide_eq_true (by first | (with_reducible assumption) | assumption)
        have q4 : x3_1 < (a0.size : Int) := of_decide_eq_true (by first | (with_reducible assumption) | assumption)
        have hx4 := bt_at a0 x3_1
        replace p4 := eq_true p4
        replace q4 := eq_true q4
        go_wp2_with (first | ((with_reducible refine gate_callee (f := 76) rfl ?_); refine goesL_ (some 18) rfl rfl Try.func76 (by kernel_rfl) rfl #[.string (a0.extract (x3_1 : Int).toNat a0.size), .int .u8 10] rfl (by (try simp only [List.map_toArray, List.map_cons, List.map_nil]); first | done | rfl | (simp only [List.length_drop, List.length_take]; rfl)) ?_; (with_reducible refine (strings_IndexByte.calls (a0.extract (x3_1 : Int).toNat a0.size) 10 t121 _ A8.out).mono ?_); rintro e w' ⟨rfl, ⟨nd, rfl⟩⟩; refine ⟨_, rfl, ?_⟩))
        go_ret
        exact ⟨by first | rfl | (simp; done) | (simp [*]; done), by repeat (first | exact Drawn0.refl _ | apply Drawn0.step)⟩
      ·rw [if_neg c7] at H
       exact absurd H (by simp)
     ·rw [if_neg c5] at H
      have c5b0 : ((bt a0 x3_1) == 59) = false := beq_eq_false_iff_ne.mpr c5
      have c5b1 : ((bt a0 x3_1) != 59) = true := bne_iff_ne.mpr c5
      by_cases c10 : (bt a0 x3_1) = 32
      ·rw [if_pos c10] at H
       have c10b0 : ((bt a0 x3_1) == 32) = true := beq_iff_eq.mpr c10
       have c10b1 : ((bt a0 x3_1) != 32) = false := bne_eq_false_iff_eq.mpr c10
       clear c10
       have H' := Aside0.mk H
       clear H
       have p4 : 0 ≤ (x3_1 : Int) := of_decide_eq_true (by first | (with_reducible assumption) | assumption)
       have q4 : x3_1 < (a0.size : Int) := of_decide_eq_true (by first | (with_reducible assumption) | assumption)
       have hx4 := bt_at a0 x3_1
       replace p4 := eq_true p4
       replace q4 := eq_true q4
       go_wp2
       go_roundg k1
       case measure => have := HK1.out; omega
       case rel => exact ⟨(wrap64 (x3_1 + 1)), (by first | rfl | (simp; done) | (simp [*]; done)), H', ⟨by have := HK1.out; omega⟩, by repeat (first | exact Drawn0.refl _ | apply Drawn0.step)⟩
      ·rw [if_neg c10] at H
       have c10b0 : ((bt a0 x3_1) == 32) = false := beq_eq_false_iff_ne.mpr c10
       have c10b1 : ((bt a0 x3_1) != 32) = true := bne_iff_ne.mpr c10
       by_cases c11 : (bt a0 x3_1) = 9
       ·rw [if_pos c11] at H
        have c11b0 : ((bt a0 x3_1) == 9) = true := beq_iff_eq.mpr c11
        have c11b1 : ((bt a0 x3_1) != 9) = false := bne_eq_false_iff_eq.mpr c11
        clear c11
        have H' := Aside0.mk H
        clear H
        have p4 : 0 ≤ (x3_1 : Int) := of_decide_eq_true (by first | (with_reducible assumption) | assumption)
        have q4 : x3_1 < (a0.size : Int) := of_decide_eq_true (by first | (with_reducible assumption) | assumption)
        have hx4 := bt_at a0 x3_1
        replace p4 := eq_true p4
        replace q4 := eq_true q4
        go_wp2
        go_roundg k1
        case measure => have := HK1.out; omega
        case rel => exact ⟨(wrap64 (x3_1 + 1)), (by first | rfl | (simp; done) | (simp [*]; done)), H', ⟨by have := HK1.out; omega⟩, by repeat (first | exact Drawn0.refl _ | apply Drawn0.step)⟩
       ·rw [if_neg c11] at H
        have c11b0 : ((bt a0 x3_1) == 9) = false := beq_eq_false_iff_ne.mpr c11
        have c11b1 : ((bt a0 x3_1) != 9) = true := bne_iff_ne.mpr c11
        by_cases c12 : (bt a0 x3_1) = 13
        ·rw [if_pos c12] at H
         have c12b0 : ((bt a0 x3_1) == 13) = true := beq_iff_eq.mpr c12
         have c12b1 : ((bt a0 x3_1) != 13) = false := bne_eq_false_iff_eq.mpr c12
         clear c12
         have H' := Aside0.mk H
         clear H
         have p4 : 0 ≤ (x3_1 : Int) := of_decide_eq_true (by first | (with_reducible assumption) | assumption)
         have q4 : x3_1 < (a0.size : Int) := of_decide_eq_true (by first | (with_reducible assumption) | assumption)
         have hx4 := bt_at a0 x3_1
         replace p4 := eq_true p4
         replace q4 := eq_true q4
         go_wp2
         go_roundg k1
         case measure => have := HK1.out; omega
         case rel => exact ⟨(wrap64 (x3_1 + 1)), (by first | rfl | (simp; done) | (simp [*]; done)), H', ⟨by have := HK1.out; omega⟩, by repeat (first | exact Drawn0.refl _ | apply Drawn0.step)⟩
        ·rw [if_neg c12] at H
         have c12b0 : ((bt a0 x3_1) == 13) = false := beq_eq_false_iff_ne.mpr c12
         have c12b1 : ((bt a0 x3_1) != 13) = true := bne_iff_ne.mpr c12
         by_cases c13 : (bt a0 x3_1) = 10
         ·rw [if_pos c13] at H
          have c13b0 : ((bt a0 x3_1) == 10) = true := beq_iff_eq.mpr c13
          have c13b1 : ((bt a0 x3_1) != 10) = false := bne_eq_false_iff_eq.mpr c13
          clear c13
          have H' := Aside0.mk H
          clear H
          have p4 : 0 ≤ (x3_1 : Int) := of_decide_eq_true (by first | (with_reducible assumption) | assumption)
          have q4 : x3_1 < (a0.size : Int) := of_decide_eq_true (by first | (with_reducible assumption) | assumption)
          have hx4 := bt_at a0 x3_1
          replace p4 := eq_true p4
          replace q4 := eq_true q4
          go_wp2
          go_roundg k1
          case measure => have := HK1.out; omega
          case rel => exact ⟨(wrap64 (x3_1 + 1)), (by first | rfl | (simp; done) | (simp [*]; done)), H', ⟨by have := HK1.out; omega⟩, by repeat (first | exact Drawn0.refl _ | apply Drawn0.step)⟩
         ·rw [if_neg c13] at H
          have c13b0 : ((bt a0 x3_1) == 10) = false := beq_eq_false_iff_ne.mpr c13
          have c13b1 : ((bt a0 x3_1) != 10) = true := bne_iff_ne.mpr c13
          obtain rfl := Option.some.inj H
          have p4 : 0 ≤ (x3_1 : Int) := of_decide_eq_true (by first | (with_reducible assumption) | assumption)
          have q4 : x3_1 < (a0.size : Int) := of_decide_eq_true (by first | (with_reducible assumption) | assumption)
          have hx4 := bt_at a0 x3_1
          replace p4 := eq_true p4
          replace q4 := eq_true q4
          go_wp2
          go_ret
          exact ⟨by first | rfl | (simp; done) | (simp [*]; done), by repeat (first | exact Drawn0.refl _ | apply Drawn0.step)⟩
    ·rw [if_neg c3] at H
     exact absurd H (by simp)
   ·rw [if_neg c2] at H
    have c2b0 : decide (x3_1 < (a0.size : Int)) = false := decide_eq_false c2
    clear c2
    obtain rfl := Option.some.inj H
    go_wp2
    go_ret
    exact ⟨by first | rfl | (simp; done) | (simp [*]; done), by repeat (first | exact Drawn0.refl _ | apply Drawn0.step)⟩

end Go.Proofs.Ytgikmpgpccfiiaa.PSxp

/- A region that draws its order and calls no Go function, inside a fence: it goes as outside. -/
namespace Go.Proofs.YtgikmpgpccfiiaaV
open Go
def plainOp : Op → Bool
 | .move _ | .assign _ | .pick .. | .alloc .. | .box .. | .buildSlice .. | .load .. | .store .. | .binOp .. | .unOp .. | .convert .. | .makeSlice .. | .slice .. | .fieldAddr .. | .indexAddr .. | .index .. | .extract .. => true
 | .call c => match c.callee with
  | .builtin .len => true
  | .builtin .append => true
  | .builtin .max => true
  | _ => false
 | _ => false
def NoEnter (o : Oper) : Prop := ∀ (ρ : Operand → Value) (P : Program) (w : World) (n : Next) (w' : World), (execOp ρ o).run P w = .ok n w' → (∃ v, n = .value v) ∨ n = .skip
theorem noEnter_v {P : Program} {w w' : World} {n : Next} (s : Sem Value) (h : ((do pure (.value (← s))) : Sem Next).run P w = .ok n w') : (∃ v, n = .value v) ∨ n = .skip := by
 simp only [Sem.run_bind] at h
 cases hs : s.run P w with
 | ok v w1 => rw [hs] at h; simp [Result.andThen] at h; exact .inl ⟨v, h.1.symm⟩
 | halt x w1 => rw [hs] at h; simp [Result.andThen] at h
theorem noEnter_u {P : Program} {w w' : World} {n : Next} (s : Sem Unit) (h : ((do s; pure .skip) : Sem Next).run P w = .ok n w') : (∃ v, n = .value v) ∨ n = .skip := by
 simp only [Sem.run_bind] at h
 cases hs : s.run P w with
 | ok v w1 => rw [hs] at h; simp [Result.andThen] at h; exact .inr h.1.symm
 | halt x w1 => rw [hs] at h; simp [Result.andThen] at h
theorem noEnter_r {w' : World} {n : Next} {r : Result Value} (h : (r.andThen fun a w' => Result.ok (Next.value a) w') = Result.ok n w') : (∃ v, n = .value v) ∨ n = .skip := by
 cases r with
 | ok v w1 => simp [Result.andThen] at h; exact .inl ⟨v, h.1.symm⟩
 | halt x w1 => simp [Result.andThen] at h
theorem noEnter_plain {o : Oper} (ho : plainOp o.op = true) : NoEnter o := by
 intro ρ P w n w' h
 unfold execOp at h
 cases e : o.op with
 | call c =>
  rw [e] at ho h
  obtain ⟨callee, args, ts⟩ := c
  cases callee with
  | builtin b =>
   cases b <;> first | (exfalso; simp [plainOp] at ho; done) | skip
   all_goals
    simp only [resolve, invoke, Sem.run_bind, Sem.run_pure, Result.andThen_ok, builtin] at h
    exact noEnter_r h
  | _ => exfalso; simp [plainOp] at ho
 | pick c a b =>
  rw [e] at h
  simp only [Sem.run_bind] at h
  cases hs : (asBool (ρ c)).run P w with
  | ok v w1 => rw [hs] at h; simp [Result.andThen] at h; exact .inl ⟨_, h.1.symm⟩
  | halt x w1 => rw [hs] at h; simp [Result.andThen] at h
 | move x => rw [e] at h; simp at h; exact .inl ⟨_, h.1.symm⟩
 | assign x => rw [e] at h; simp at h; exact .inl ⟨_, h.1.symm⟩
 | store t a x => rw [e] at h; exact noEnter_u _ h
 | alloc => rw [e] at h; exact noEnter_v _ h
 | box => rw [e] at h; exact noEnter_v _ h
 | buildSlice => rw [e] at h; exact noEnter_v _ h
 | load => rw [e] at h; exact noEnter_v _ h
 | binOp => rw [e] at h; exact noEnter_v _ h
 | unOp => rw [e] at h; exact noEnter_v _ h
 | convert => rw [e] at h; exact noEnter_v _ h
 | makeSlice => rw [e] at h; exact noEnter_v _ h
 | slice => rw [e] at h; exact noEnter_v _ h
 | fieldAddr => rw [e] at h; exact noEnter_v _ h
 | indexAddr => rw [e] at h; exact noEnter_v _ h
 | index => rw [e] at h; exact noEnter_v _ h
 | extract => rw [e] at h; exact noEnter_v _ h
 | _ => exfalso; rw [e] at ho; simp [plainOp] at ho
theorem about_plain {o : Oper} (ho : plainOp o.op = true) (P : Program) (w : World) (ρ : Operand → Value) : o.about P w ρ = none := by
 unfold Oper.about
 cases e : o.op with
 | call c =>
  rw [e] at ho
  obtain ⟨callee, args, ts⟩ := c
  cases callee with
  | builtin b => simp [resolve, Target.leads, Sem.run_pure]
  | _ => exfalso; simp [plainOp] at ho
 | _ => rfl
theorem semAt_plainOp {o : Oper} (ho : plainOp o.op = true) (F : Fence) (ρ : Operand → Value) : o.semAt F.round ρ = execOp ρ o :=
 Oper.semAt_plain F ρ o (fun c h => by rw [h] at ho; simp [plainOp] at ho)
section
variable {F : Fence} {n : Nat} {P : Program} {ops : Array Oper} {Q : Exit → Act → World → Prop} {md : Region.Mode}
theorem wpOpIn_of {i : Nat} {K K' : Act → World → Prop} {a : Act} {w : World} (hp : ∀ o, ops[i]? = some o → plainOp o.op = true) (hQ : ¬ LetsOut Q) (hK : ∀ a w, K a w → K' a w) (h : wpOp P ops Q i K a w) : wpOpIn F n P ops Q i K' a w := by
 unfold wpOp at h
 unfold wpOpIn
 cases ho : ops[i]? with
 | none => rw [ho] at h; exact hK _ _ h
 | some o =>
  rw [ho] at h
  have hpo := hp o ho
  simp only at h ⊢
  by_cases hw : Region.wanted o (yielded ops a.tmps) = true
  ·rw [if_pos hw] at h ⊢
   rcases h with h | h
   ·unfold Oper.wp at h
    unfold Oper.wpIn
    refine ⟨fun f hf => (by rw [about_plain hpo] at hf; cases hf), ?_⟩
    rw [semAt_plainOp hpo]
    cases hr : (execOp a.eval o).run P w with
    | ok nx w1 =>
     rw [hr] at h
     rcases noEnter_plain hpo _ _ _ _ _ hr with ⟨v, rfl⟩ | rfl
     ·exact hK _ _ h
     ·exact hK _ _ h
    | halt x w1 =>
     rw [hr] at h
     cases x with
     | panic v => exact h
     | _ => exact h.elim
   ·exact absurd h.2 hQ
  ·rw [if_neg hw] at h ⊢
   exact ⟨fun f hf => (by rw [about_plain hpo] at hf; cases hf), hK _ _ h⟩
theorem wpAnyIn_of (hp : ∀ (i : Nat) (o : Oper), ops[i]? = some o → plainOp o.op = true) (hQ : ¬ LetsOut Q) : ∀ (fuel : Nat) (listed : Array Bool) (a : Act) (w : World), wpAny P md ops Q fuel listed a w → wpAnyIn F n P md ops Q fuel listed a w
 | 0, _, _, _, h => h
 | fuel + 1, _, _, _, h => ⟨h.1, fun i hi => wpOpIn_of (hp i) hQ (fun a w h2 => wpAnyIn_of hp hQ fuel _ a w h2) (h.2 i hi)⟩
theorem plain_all {l : List Oper} (h : (l.all fun o => plainOp o.op) = true) : ∀ (i : Nat) (o : Oper), l.toArray[i]? = some o → plainOp o.op = true := by
 intro i o ho
 rw [List.all_eq_true] at h
 apply h
 simp only [List.getElem?_toArray] at ho
 exact List.mem_of_getElem? ho
end
end Go.Proofs.YtgikmpgpccfiiaaV
