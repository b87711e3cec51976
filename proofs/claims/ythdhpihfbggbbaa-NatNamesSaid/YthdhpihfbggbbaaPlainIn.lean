/- A region that draws its order and calls no Go function, inside a fence: it goes as outside. -/
import Derived.StillTail
import Derived.OrdersIn
import Derived.TacticsIn
import Derived.OwnWalkIn
namespace Go.Proofs.YthdhpihfbggbbaaV
open Go
def plainOp : Op → Bool
  | .move _ | .assign _ | .pick .. | .alloc .. | .box .. | .buildSlice .. | .load .. | .store .. | .binOp .. | .unOp .. | .convert .. | .makeSlice .. | .slice .. | .fieldAddr .. | .indexAddr .. | .index .. | .extract .. => true
  | .call c => match c.callee with
    | .builtin .len => true
    | .builtin .append => true
    | .builtin .max => true
    | _ => false
  | _ => false
def NoEnter (o : Oper) : Prop := ∀ (ρ : Operand → Value) (P : Program) (w : World) (n : Next) (w' : World), (execOp ρ o).run P w = .ok n w' → (∃ v, n = .value v) ∨ n = .skip
theorem noEnter_v {P : Program} {w w' : World} {n : Next} (s : Sem Value) (h : ((do pure (.value (← s))) : Sem Next).run P w = .ok n w') : (∃ v, n = .value v) ∨ n = .skip := by
  simp only [Sem.run_bind] at h
  cases hs : s.run P w with
  | ok v w1 => rw [hs] at h; simp [Result.andThen] at h; exact .inl ⟨v, h.1.symm⟩
  | halt x w1 => rw [hs] at h; simp [Result.andThen] at h
theorem noEnter_u {P : Program} {w w' : World} {n : Next} (s : Sem Unit) (h : ((do s; pure .skip) : Sem Next).run P w = .ok n w') : (∃ v, n = .value v) ∨ n = .skip := by
  simp only [Sem.run_bind] at h
  cases hs : s.run P w with
  | ok v w1 => rw [hs] at h; simp [Result.andThen] at h; exact .inr h.1.symm
  | halt x w1 => rw [hs] at h; simp [Result.andThen] at h
theorem noEnter_r {w' : World} {n : Next} {r : Result Value} (h : (r.andThen fun a w' => Result.ok (Next.value a) w') = Result.ok n w') : (∃ v, n = .value v) ∨ n = .skip := by
  cases r with
  | ok v w1 => simp [Result.andThen] at h; exact .inl ⟨v, h.1.symm⟩
  | halt x w1 => simp [Result.andThen] at h
theorem noEnter_plain {o : Oper} (ho : plainOp o.op = true) : NoEnter o := by
  intro ρ P w n w' h
  unfold execOp at h
  cases e : o.op with
  | call c =>
    rw [e] at ho h
    obtain ⟨callee, args, ts⟩ := c
    cases callee with
    | builtin b =>
      cases b <;> first | (exfalso; simp [plainOp] at ho; done) | skip
      all_goals
        simp only [resolve, invoke, Sem.run_bind, Sem.run_pure, Result.andThen_ok, builtin] at h
        exact noEnter_r h
    | _ => exfalso; simp [plainOp] at ho
  | pick c a b =>
    rw [e] at h
    simp only [Sem.run_bind] at h
    cases hs : (asBool (ρ c)).run P w with
    | ok v w1 => rw [hs] at h; simp [Result.andThen] at h; exact .inl ⟨_, h.1.symm⟩
    | halt x w1 => rw [hs] at h; simp [Result.andThen] at h
  | move x => rw [e] at h; simp at h; exact .inl ⟨_, h.1.symm⟩
  | assign x => rw [e] at h; simp at h; exact .inl ⟨_, h.1.symm⟩
  | store t a x => rw [e] at h; exact noEnter_u _ h
  | alloc => rw [e] at h; exact noEnter_v _ h
  | box => rw [e] at h; exact noEnter_v _ h
  | buildSlice => rw [e] at h; exact noEnter_v _ h
  | load => rw [e] at h; exact noEnter_v _ h
  | binOp => rw [e] at h; exact noEnter_v _ h
  | unOp => rw [e] at h; exact noEnter_v _ h
  | convert => rw [e] at h; exact noEnter_v _ h
  | makeSlice => rw [e] at h; exact noEnter_v _ h
  | slice => rw [e] at h; exact noEnter_v _ h
  | fieldAddr => rw [e] at h; exact noEnter_v _ h
  | indexAddr => rw [e] at h; exact noEnter_v _ h
  | index => rw [e] at h; exact noEnter_v _ h
  | extract => rw [e] at h; exact noEnter_v _ h
  | _ => exfalso; rw [e] at ho; simp [plainOp] at ho
theorem about_plain {o : Oper} (ho : plainOp o.op = true) (P : Program) (w : World) (ρ : Operand → Value) : o.about P w ρ = none := by
  unfold Oper.about
  cases e : o.op with
  | call c =>
    rw [e] at ho
    obtain ⟨callee, args, ts⟩ := c
    cases callee with
    | builtin b => simp [resolve, Target.leads, Sem.run_pure]
    | _ => exfalso; simp [plainOp] at ho
  | _ => rfl
theorem semAt_plainOp {o : Oper} (ho : plainOp o.op = true) (F : Fence) (ρ : Operand → Value) : o.semAt F.round ρ = execOp ρ o :=
  Oper.semAt_plain F ρ o (fun c h => by rw [h] at ho; simp [plainOp] at ho)
section
variable {F : Fence} {n : Nat} {P : Program} {ops : Array Oper} {Q : Exit → Act → World → Prop} {md : Region.Mode}
theorem wpOpIn_of {i : Nat} {K K' : Act → World → Prop} {a : Act} {w : World} (hp : ∀ o, ops[i]? = some o → plainOp o.op = true) (hQ : ¬ LetsOut Q) (hK : ∀ a w, K a w → K' a w) (h : wpOp P ops Q i K a w) : wpOpIn F n P ops Q i K' a w := by
  unfold wpOp at h
  unfold wpOpIn
  cases ho : ops[i]? with
  | none => rw [ho] at h; exact hK _ _ h
  | some o =>
    rw [ho] at h
    have hpo := hp o ho
    simp only at h ⊢
    by_cases hw : Region.wanted o (yielded ops a.tmps) = true
    · rw [if_pos hw] at h ⊢
      rcases h with h | h
      · unfold Oper.wp at h
        unfold Oper.wpIn
        refine ⟨fun f hf => (by rw [about_plain hpo] at hf; cases hf), ?_⟩
        rw [semAt_plainOp hpo]
        cases hr : (execOp a.eval o).run P w with
        | ok nx w1 =>
          rw [hr] at h
          rcases noEnter_plain hpo _ _ _ _ _ hr with ⟨v, rfl⟩ | rfl
          · exact hK _ _ h
          · exact hK _ _ h
        | halt x w1 =>
          rw [hr] at h
          cases x with
          | panic v => exact h
          | _ => exact h.elim
      · exact absurd h.2 hQ
    · rw [if_neg hw] at h ⊢
      exact ⟨fun f hf => (by rw [about_plain hpo] at hf; cases hf), hK _ _ h⟩
theorem wpAnyIn_of (hp : ∀ (i : Nat) (o : Oper), ops[i]? = some o → plainOp o.op = true) (hQ : ¬ LetsOut Q) : ∀ (fuel : Nat) (listed : Array Bool) (a : Act) (w : World), wpAny P md ops Q fuel listed a w → wpAnyIn F n P md ops Q fuel listed a w
  | 0, _, _, _, h => h
  | fuel + 1, _, _, _, h => ⟨h.1, fun i hi => wpOpIn_of (hp i) hQ (fun a w h2 => wpAnyIn_of hp hQ fuel _ a w h2) (h.2 i hi)⟩
theorem plain_all {l : List Oper} (h : (l.all fun o => plainOp o.op) = true) : ∀ (i : Nat) (o : Oper), l.toArray[i]? = some o → plainOp o.op = true := by
  intro i o ho
  rw [List.all_eq_true] at h
  apply h
  simp only [List.getElem?_toArray] at ho
  exact List.mem_of_getElem? ho
theorem wp_region_still_tail_drew {id : Nat} {a : Act} {w : World} {l : List Oper} (m : Nat) (hm : P.follows .mixedOrders = true) (hB : Region.lexTailB .any l.toArray m = true)
    (h : wpStill P l.toArray w.drew (fun a' => wpList P l.toArray Q (l.drop m) a' w.drew) (l.take m) a) : (Code.region id l.toArray true).wp P Q a w := wp_region_still_tail m hm hB h
theorem wpIn_region_still_tail {id : Nat} {a : Act} {w : World} {l : List Oper} (m : Nat) (hm : P.follows .mixedOrders = true) (hp : (l.all fun o => plainOp o.op) = true) (hQ : ¬ LetsOut Q) (hB : Region.lexTailB .any l.toArray m = true)
    (h : wpStill P l.toArray w.drew (fun a' => wpList P l.toArray Q (l.drop m) a' w.drew) (l.take m) a) : (Code.region id l.toArray true).wpIn F n P Q a w := by
  replace h : wpStill P l.toArray { w with drawn := w.drawn + 1 } (fun a' => wpList P l.toArray Q (l.drop m) a' { w with drawn := w.drawn + 1 }) (l.take m) a := h
  simp only [Region.lexTailB, Bool.and_eq_true, decide_eq_true_eq] at hB
  obtain ⟨⟨⟨⟨hsel, hn⟩, hs⟩, hc⟩, hlex⟩ := hB
  have hn' : m < l.length := by simpa using hn
  have htl : (l.take m).length = m := by simp; omega
  have hdl : (l.drop m).length = l.toArray.size - m := by simp
  have inv0 : HeadInv .any l.toArray m (Array.replicate l.toArray.size false) :=
    ⟨by simp, fun j oj _ hl => (by rw [getD_replicate_false] at hl; cases hl), fun t _ ht => getD_in (by simpa using ht) (getD_replicate_false _ _)⟩
  have H := wpAnyL_lex (md := .any) (g := l.toArray.size - m) hsel hs hc hn (l.take m) 0 _ a (fun j hj => by
    have hj' : j < m := by rw [htl] at hj; exact hj
    simp [hj']) (by simpa using htl) inv0 (by rw [htl]; exact hlex) h
  refine wpIn_region_any hm (wpAnyIn_of (plain_all hp) hQ _ _ _ _ ?_)
  have := wpAny_of_head (Q' := Q) (g := l.toArray.size - m) (fun listed a' hL => by
    have := wpAny_of_seq (md := .any) (Q' := Q) (l.drop m) m listed a' { w with drawn := w.drawn + 1 } (fun j => by simp [List.getElem?_drop]) (by rw [hdl]; exact hL.1) hL.2
    rwa [hdl] at this) _ _ _ H
  rw [htl, show m + (l.toArray.size - m) = l.toArray.size by omega] at this
  exact this
end
end Go.Proofs.YthdhpihfbggbbaaV
