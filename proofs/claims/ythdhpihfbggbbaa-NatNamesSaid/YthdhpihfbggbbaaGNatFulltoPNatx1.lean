/- Texts of the seat Ythdhpihfbggbbaa that belong together, joined. -/
import Derived.Test.YthdhpihfbggbbaaWWords
import Derived.ArgAppend
import Derived.Test.YthdhpihfbggbbaaProg
import Derived.Below
import Derived.Deep.Draws
import Derived.Deep.AppendLies
import Derived.Maps.AppendAt
import Derived.OwnWalk
import Derived.Laws.BytesArg
import Derived.Laws.MakeOwn
import Derived.Laws.OwnMore
import Derived.Deep.OwnRows
import Derived.Tactics
import Derived.Lib.ConvBytes
import Derived.Laws.Slices
import Derived.WalkKit
import Derived.KernelRfl
import Derived.RowKit3
import Derived.Deep.LoopGhost
import Derived.Deep.QuietTactic
import Derived.BigQuiet
import Derived.WideLaws
import Derived.Deep.DeepCutAuto
import Derived.Deep.CutBlock
import Derived.Deep.RegionHeld3
import Derived.Laws.Rows
import Derived.Lib.AppendStr
import Derived.Laws.IdiomCopy
import Derived.OrdersHeld
import Derived.Laws.BitsLemmas
import Derived.RowKit
import Derived.Test.YthdhpihfbggbbaaWLast
import Derived.Test.YthdhpihfbggbbaaWTab
import Derived.Test.YthdhpihfbggbbaaWFour
import Derived.Test.YthdhpihfbggbbaaWQPut
import Derived.Test.YthdhpihfbggbbaaWApart
import Derived.Test.YthdhpihfbggbbaaWArr
import Derived.Test.YthdhpihfbggbbaaWZeros
import Derived.Test.YthdhpihfbggbbaaWFoot
import Derived.Test.YthdhpihfbggbbaaWKept
import Derived.Test.YthdhpihfbggbbaaWShare
import Derived.Test.YthdhpihfbggbbaaWN
import Derived.Test.YthdhpihfbggbbaaWFootNe
import Derived.Test.YthdhpihfbggbbaaWAt
import Derived.Test.YthdhpihfbggbbaaWEqStruct
import Derived.Test.YthdhpihfbggbbaaWRepsOne
import Derived.Test.YthdhpihfbggbbaaWInv
import Derived.Test.YthdhpihfbggbbaaWInvWords
import Derived.Test.YthdhpihfbggbbaaWGuard
import Derived.Test.YthdhpihfbggbbaaWNEv
import Derived.Test.YthdhpihfbggbbaaWMore
/- Two laws for the walk: a slice cut to its length and its capacity, and an element appended to it: new memory. -/
namespace Go.Proofs.YthdhpihfbggbbaaW.PrintWords
open Go.RowKit
theorem cut_full (t e : TypeId) (kh km : IntKind) {P : Program} {i : TypeInfo} (ht : P.underlying t = some (.slice e)) (hi : P.info? e = some i) (A : Option Addr) (n c : Nat) (j : Int) (h0 : 0 ≤ j) (hm : j ≤ n) (hc : n ≤ c) :
    ∀ W : World, (Instr.slice t (.slice A n c) none (some (.int kh j)) (some (.int km j))).run P W = .ok (.slice A j.toNat j.toNat) W := by
  intro W
  have hel : P.elem t = e := by simp [Program.elem, ht]
  have hu : P.underlying t = some (.slice (P.elem t)) := by rw [hel]; exact ht
  have ha : (A.map fun x => x.add 0) = A := by cases A <;> simp [Addr.add]
  rw [run_slice_hm W t A n c hu kh km j j h0 (Int.le_refl _) (by omega), hel]
  simp [sizeOf, typeInfo, hi, sliced, Result.andThen, ha]
section
variable {P : Program} {ops : Array Oper} {rest : List Oper} {o : Oper} {a : Act} {Q : Exit → Act → World → Prop}
theorem Kd.R_append_full (k : IntKind) {w0 W : World} (base : Nat) (hgd : o.guard = none) (s x : Operand) (t e : TypeId) (z : Value) (bytes : Nat)
    (ho : o.op = .call { callee := .builtin .append, args := #[s, x], argTypes := #[t, t] })
    (ht : P.underlying t = some (.slice e)) (hinfo : (P.info? e).map (fun i => (i.zero, i.size, i.bytes)) = some (some z, 1, bytes)) (hz : z.cells.size = 1) (hb0 : 0 < bytes)
    (A : Option Addr) (n : Nat) (xs : List Int) (p : Int) (ok : Nat → Prop) (hs : a.eval s = .slice A n n) (hx : a.eval x = .slice (some ⟨W.heap.size, 0, none⟩) 1 1)
    (HC : (Kd.int k).C W A n xs) (hfresh : ∀ k, W.heap.size ≤ k → ok k) (HB : Below base w0 W) (hbase : base ≤ W.heap.size) (hl : (xs.length + 1) * bytes ≤ 140737488355328)
    (h : ∀ v1 w1, (Kd.int k).R e w1 base ok v1 (xs ++ [p]) → Below base w0 w1 → W.grownBy w1 (Value.slice none 0 0).ownBlock → (v1.ownBlock = (Value.slice none 0 0).ownBlock ∨ ∃ b, v1.ownBlock = some b ∧ W.heap.size ≤ b) → wpList P ops Q rest (a.put o.dst v1) w1) :
    wpList P ops Q (o :: rest) a (W.alloc (.cells [Value.int k p].toArray e)) := by
  obtain ⟨i0, hi, hzz⟩ := Option.map_eq_some_iff.1 hinfo
  simp only [Prod.mk.injEq] at hzz
  obtain ⟨hz0, hz1, hz2⟩ := hzz
  have hR : ReadsOf (Value.int k) 0 W A n xs := Kd.reads_of_C (h1 := fun _ => rfl) HC
  have hR2 := hR
  obtain ⟨hxl, hn63, hcell⟩ := hR
  have hlen : n + 1 ≤ 140737488355328 := by
    have := Nat.le_mul_of_pos_right (xs.length + 1) hb0
    omega
  have hnone : A = none → n = 0 ∧ n = 0 := by
    intro hA
    rcases Nat.eq_zero_or_pos n with h0 | h0
    · exact ⟨h0, h0⟩
    · obtain ⟨ad, e1, _⟩ := hcell (by omega)
      rw [hA] at e1
      cases e1
  have hbl : ∀ b, A = some b → ∀ j u, (encs (Value.int k) xs)[j]? = some u → (W.alloc (.cells [Value.int k p].toArray e)).cell? (b.add j) = some u := by
    intro b hb j u hj
    have hj' : j < xs.length := by
      have := (List.getElem?_eq_some_iff.1 hj).1
      rwa [encs_length] at this
    obtain ⟨ad, e1, hc⟩ := hcell (by omega)
    rw [hb] at e1
    obtain rfl := Option.some.inj e1
    rw [encs_get (d := 0) xs j hj'] at hj
    have hc2 := hc j (by omega)
    rw [← Option.some.inj hj]
    exact pw_cell_below (Below.alloc (Below.refl _ _) (Nat.le_refl _) _) hc2
  refine wpList_append_grows (W.alloc (.cells [Value.int k p].toArray e)) hgd s x t ho e i0 z 1 bytes ht hi hz0 hz1 hz2 hz Nat.one_pos A n n (encs (Value.int k) xs) hs hnone (by rw [encs_length]; omega) hbl
    ⟨W.heap.size, 0, none⟩ 1 1 [Value.int k p] hx rfl (by simpa using World.news_of_block (cs := [Value.int k p].toArray) (t := e) (fr := (0, 0)) (heap_alloc_new W (.cells [Value.int k p].toArray e))) (by simp [Value.oneCell']) (by omega) (by simp only [maxLen]; omega) (by rw [← hxl]; exact hl) ?_
  intro v1 w1 hown hg
  have hb : ∀ k1, v1.ownBlock = some k1 → W.heap.size ≤ k1 := by
    intro k1 hk1
    have := own_base hown k1 hk1
    simp at this
    omega
  have hbb : base ≤ (W.alloc (.cells [Value.int k p].toArray e)).heap.size := by simp; omega
  refine h v1 w1 (Kd.R_lower (Kd.R_of_own (base := (W.alloc (.cells [Value.int k p].toArray e)).heap.size) (h1 := fun _ => rfl) (ok := ok) ?_ (fun k1 hk1 => hfresh k1 (hb k1 hk1))) hbb) ((HB.alloc hbase _).grown hg (by simp; omega) (fun _ e_ => by cases e_)) (World.grownBy.trans (World.grownBy_alloc W _ _) hg) ?_
  · rw [List.length_append, List.length_singleton, hxl, encs_append]
    exact hown
  · cases hv : v1.ownBlock with
    | none => exact .inl rfl
    | some b => exact .inr ⟨b, rfl, hb b hv⟩
end
section
variable {P : Program} {ops : Array Oper} {o : Oper} {a : Act} {Q : Exit → Act → World → Prop} {Kc : Act → World → Prop}
theorem Kd.R_append_full_step (k : IntKind) {w0 W : World} (base : Nat) (hw : Region.wanted o (yielded ops a.tmps) = true) (s x : Operand) (t e : TypeId) (z : Value) (bytes : Nat)
    (ho : o.op = .call { callee := .builtin .append, args := #[s, x], argTypes := #[t, t] })
    (ht : P.underlying t = some (.slice e)) (hinfo : (P.info? e).map (fun i => (i.zero, i.size, i.bytes)) = some (some z, 1, bytes)) (hz : z.cells.size = 1) (hb0 : 0 < bytes)
    (A : Option Addr) (n : Nat) (xs : List Int) (p : Int) (ok : Nat → Prop) (hs : a.eval s = .slice A n n) (hx : a.eval x = .slice (some ⟨W.heap.size, 0, none⟩) 1 1)
    (HC : (Kd.int k).C W A n xs) (hfresh : ∀ k, W.heap.size ≤ k → ok k) (HB : Below base w0 W) (hbase : base ≤ W.heap.size) (hl : (xs.length + 1) * bytes ≤ 140737488355328)
    (h : ∀ v1 w1, (Kd.int k).R e w1 base ok v1 (xs ++ [p]) → Below base w0 w1 → W.grownBy w1 (Value.slice none 0 0).ownBlock → (v1.ownBlock = (Value.slice none 0 0).ownBlock ∨ ∃ b, v1.ownBlock = some b ∧ W.heap.size ≤ b) → Kc (a.put o.dst v1) w1) :
    if Region.wanted o (yielded ops a.tmps) = true then Oper.wp P o a (W.alloc (.cells [Value.int k p].toArray e)) Kc Q else Kc (a.put o.dst undef) (W.alloc (.cells [Value.int k p].toArray e)) := by
  obtain ⟨i0, hi, hzz⟩ := Option.map_eq_some_iff.1 hinfo
  simp only [Prod.mk.injEq] at hzz
  obtain ⟨hz0, hz1, hz2⟩ := hzz
  have hR : ReadsOf (Value.int k) 0 W A n xs := Kd.reads_of_C (h1 := fun _ => rfl) HC
  have hR2 := hR
  obtain ⟨hxl, hn63, hcell⟩ := hR
  have hlen : n + 1 ≤ 140737488355328 := by
    have := Nat.le_mul_of_pos_right (xs.length + 1) hb0
    omega
  have hnone : A = none → n = 0 ∧ n = 0 := by
    intro hA
    rcases Nat.eq_zero_or_pos n with h0 | h0
    · exact ⟨h0, h0⟩
    · obtain ⟨ad, e1, _⟩ := hcell (by omega)
      rw [hA] at e1
      cases e1
  have hbl : ∀ b, A = some b → ∀ j u, (encs (Value.int k) xs)[j]? = some u → (W.alloc (.cells [Value.int k p].toArray e)).cell? (b.add j) = some u := by
    intro b hb j u hj
    have hj' : j < xs.length := by
      have := (List.getElem?_eq_some_iff.1 hj).1
      rwa [encs_length] at this
    obtain ⟨ad, e1, hc⟩ := hcell (by omega)
    rw [hb] at e1
    obtain rfl := Option.some.inj e1
    rw [encs_get (d := 0) xs j hj'] at hj
    have hc2 := hc j (by omega)
    rw [← Option.some.inj hj]
    exact pw_cell_below (Below.alloc (Below.refl _ _) (Nat.le_refl _) _) hc2
  rw [if_pos hw]
  have hrun : ∃ v1 w1, (Builtin.append_ #[t, t] o.type #[.slice A n n, .slice (some ⟨W.heap.size, 0, none⟩) 1 1]).run P (W.alloc (.cells [Value.int k p].toArray e)) = .ok v1 w1 ∧ w1.ownsRow (W.alloc (.cells [Value.int k p].toArray e)).heap.size e 1 v1 (n + 1) (encs (Value.int k) xs ++ [Value.int k p]) ∧ (W.alloc (.cells [Value.int k p].toArray e)).grownBy w1 none := by
    have hnews : ∀ j u, [Value.int k p][j]? = some u → (W.alloc (.cells [Value.int k p].toArray e)).cell? ((⟨W.heap.size, 0, none⟩ : Addr).add j) = some u := by simpa using World.news_of_block (cs := [Value.int k p].toArray) (t := e) (fr := (0, 0)) (heap_alloc_new W (.cells [Value.int k p].toArray e))
    cases A with
    | some b =>
      obtain ⟨v', w', hrun, r1, r2⟩ := run_append_arg_grows (P := P) (W.alloc (.cells [Value.int k p].toArray e)) t o.type e i0 z 1 bytes ht hi hz0 hz1 hz2 hz Nat.one_pos b n n (encs (Value.int k) xs) (by rw [encs_length]; omega) (hbl b rfl) ⟨W.heap.size, 0, none⟩ 1 1 [Value.int k p] rfl hnews (by omega) (by simp only [maxLen]; omega) (by rw [← hxl]; exact hl)
      exact ⟨v', w', hrun, r1, r2⟩
    | none =>
      obtain ⟨rfl, _⟩ := hnone rfl
      obtain rfl : xs = [] := List.eq_nil_of_length_eq_zero hxl
      obtain ⟨v', w', hrun, r1, r2, _⟩ := run_append_own (P := P) (W.alloc (.cells [Value.int k p].toArray e)) (W.alloc (.cells [Value.int k p].toArray e)).heap.size t o.type e i0 z 1 bytes ht hi hz0 hz1 hz2 hz Nat.one_pos (.slice none 0 0) 0 [] (World.ownsRow_nil _ _ e 1) ⟨W.heap.size, 0, none⟩ 1 1 [Value.int k p] rfl hnews (by simp [Value.oneCell']) (by simp only [maxLen]; omega) (by simpa using hl) (Nat.le_refl _)
      exact ⟨v', w', hrun, r1, r2⟩
  obtain ⟨v1, w1, hr, hown, hg⟩ := hrun
  unfold Oper.wp execOp
  simp only [ho, resolve, invoke, builtin, Sem.run_bind, Sem.run_pure, Result.andThen_ok, List.map_toArray, List.map_cons, List.map_nil, hs, hx, hr]
  have hb : ∀ k1, v1.ownBlock = some k1 → W.heap.size ≤ k1 := by
    intro k1 hk1
    have := own_base hown k1 hk1
    simp at this
    omega
  have hbb : base ≤ (W.alloc (.cells [Value.int k p].toArray e)).heap.size := by simp; omega
  refine h v1 w1 (Kd.R_lower (Kd.R_of_own (base := (W.alloc (.cells [Value.int k p].toArray e)).heap.size) (h1 := fun _ => rfl) (ok := ok) ?_ (fun k1 hk1 => hfresh k1 (hb k1 hk1))) hbb) ((HB.alloc hbase _).grown hg (by simp; omega) (fun _ e_ => by cases e_)) (World.grownBy.trans (World.grownBy_alloc W _ _) hg) ?_
  · rw [List.length_append, List.length_singleton, hxl, encs_append]
    exact hown
  · cases hv : v1.ownBlock with
    | none => exact .inl rfl
    | some b => exact .inr ⟨b, rfl, hb b hv⟩
end
/-- a new row behind a call, and what stands below -/
theorem Kd.arm_new {α : Type} {d : Kd α} {e : Nat} {ok : Nat → Prop} {v : Value} {xs : List α} {w W w' : World} (ho : d.R e w' W.heap.size ok v xs) (hb : Below W.heap.size W w') (HB : Below w.heap.size w W) : Aside0 (d.R e w' w.heap.size ok v xs) ∧ Aside0 (Below w.heap.size w w') :=
  ⟨Aside0.mk (Kd.R_lower ho (below_size HB)), Aside0.mk (below_step HB hb)⟩
end Go.Proofs.YthdhpihfbggbbaaW.PrintWords

-- A text of the seat Ythdhpihfbggbbaa, written by a program of this session (drive.py).
namespace Go.Proofs.Ythdhpihfbggbbaa.PNat
open Go.RowKit Go.Proofs.YthdhpihfbggbbaaW.PrintWords Go.Proofs.YthdhpihfbggbbaaW.PrintLast Go.Proofs.YthdhpihfbggbbaaW.PrintMore
attribute [local go_sem] max2_int min2_int max_two min_two max_three min_three max_four min_four   -- for this text's walks alone
set_option linter.unusedVariables false
set_option linter.unusedSimpArgs false



def errW : Option Int → Value
  | none => .nilIface
  | some c => .iface 0 (.int .i64 c)
theorem errW_none : errW none = .nilIface := rfl
theorem errW_some (c : Int) : errW (some c) = .iface 0 (.int .i64 c) := rfl

theorem info37 : (Try.prog.info? 37).map (fun i => (i.zero, i.size, i.bytes)) = some (some (.int .u32 0), 1, 4) := by kernel_rfl
-- the values' own types

end Go.Proofs.Ythdhpihfbggbbaa.PNat

-- A text of the seat Ythdhpihfbggbbaa, written by a program of this session (drive.py).
namespace Go.Proofs.Ythdhpihfbggbbaa.PNat
open Go.RowKit Go.Proofs.YthdhpihfbggbbaaW.PrintWords Go.Proofs.YthdhpihfbggbbaaW.PrintLast Go.Proofs.YthdhpihfbggbbaaW.PrintMore
attribute [local go_sem] max2_int min2_int max_two min_two max_three min_three max_four min_four   -- for this text's walks alone
set_option linter.unusedVariables false
set_option linter.unusedSimpArgs false

/-! ### nat_May: function 11 -/
def nat_May.f (l0 : List Int) : Option (Bool) := if (l0.length : Int) ≤ 65536 then (if (l0.length : Int) = 0 then (some true) else (if 0 ≤ (wrap64 ((l0.length : Int) - 1)) then (if (wrap64 ((l0.length : Int) - 1)) < (l0.length : Int) then (some ((rd l0 (wrap64 ((l0.length : Int) - 1))) != 0)) else (none)) else (none))) else (some false)
set_option maxHeartbeats 8000000 in
set_option maxRecDepth 100000 in
theorem nat_May.calls (A0 : Option Addr) (c0 : Nat) (l0 : List Int) (r : Bool) (w : World) (hr0 : Kd.C (Kd.int .u32) w A0 l0.length l0) (hc0 : l0.length ≤ c0) (h : nat_May.f l0 = some r) :
    Calls Try.prog 11 #[.slice A0 l0.length c0] w fun e w' => e = .returned (.bool r) ∧ Drawn0 w w' := by
  have HR0 := Aside0.mk hr0
  have HC0 := Aside0.mk hc0
  clear hr0 hc0
  have H : (if (l0.length : Int) ≤ 65536 then (if (l0.length : Int) = 0 then (some true) else (if 0 ≤ (wrap64 ((l0.length : Int) - 1)) then (if (wrap64 ((l0.length : Int) - 1)) < (l0.length : Int) then (some ((rd l0 (wrap64 ((l0.length : Int) - 1))) != 0)) else (none)) else (none))) else (some false)) = some r := h
  clear h
  by_cases c2 : (l0.length : Int) ≤ 65536
  · rw [if_pos c2] at H
    have c2b0 : decide ((l0.length : Int) ≤ 65536) = true := decide_eq_true c2
    have c2b1 : decide (l0.length ≤ 65536) = true := decide_eq_true (by omega)
    clear c2
    by_cases c3 : (l0.length : Int) = 0
    · rw [if_pos c3] at H
      have c3b0 : ((l0.length : Int) == 0) = true := beq_iff_eq.mpr c3
      have c3b1 : ((l0.length : Int) != 0) = false := bne_eq_false_iff_eq.mpr c3
      clear c3
      obtain rfl := Option.some.inj H
      go_enter Try.func11, Try.ntmps11
      go_wp2
      go_ret
      exact ⟨by first | rfl | (simp; done) | (simp [*]; done), by repeat (first | exact Drawn0.refl _ | apply Drawn0.step)⟩
    · rw [if_neg c3] at H
      have c3b0 : ((l0.length : Int) == 0) = false := beq_eq_false_iff_ne.mpr c3
      have c3b1 : ((l0.length : Int) != 0) = true := bne_iff_ne.mpr c3
      have c3b2 : ¬ (l0 = []) := fun h_ => c3 (by rw [h_]; rfl)
      obtain ⟨ji4, hji4⟩ : ∃ j_ : Int, (wrap64 ((l0.length : Int) - 1)) = j_ := ⟨_, rfl⟩
      replace H : (if 0 ≤ (ji4) then (if (ji4) < (l0.length : Int) then (some ((rd l0 (ji4)) != 0)) else (none)) else (none)) = some r := by first | (rw [hji4] at H; exact H) | (simp only [hji4] at H ⊢; exact H)
      have hji4w : (IntKind.i64.wrap ((l0.length : Int) - 1)) = ji4 := (i64_w _).trans hji4
      by_cases c5 : 0 ≤ (ji4)
      · rw [if_pos c5] at H
        have c5b0 : decide (0 ≤ (ji4)) = true := decide_eq_true c5
        clear c5
        by_cases c6 : (ji4) < (l0.length : Int)
        · rw [if_pos c6] at H
          have c6b0 : decide ((ji4) < (l0.length : Int)) = true := decide_eq_true c6
          clear c6
          obtain rfl := Option.some.inj H
          have p101 : 0 ≤ ((ji4) : Int) := of_decide_eq_true (by first | (with_reducible assumption) | assumption)
          have q101 : (ji4) < (l0.length : Int) := of_decide_eq_true (by first | (with_reducible assumption) | assumption)
          obtain ⟨ad101, e101, hx101_0⟩ := Kd.at_int HR0.out (ji4) p101 q101
          cases e101
          replace p101 := eq_true p101
          replace q101 := eq_true q101
          go_enter Try.func11, Try.ntmps11
          go_wp2
          go_ret
          exact ⟨by first | rfl | (simp; done) | (simp only [← hji4] <;> (first | rfl | simp)) | (simp [*]; done), by repeat (first | exact Drawn0.refl _ | apply Drawn0.step)⟩
        · rw [if_neg c6] at H
          exact absurd H (by simp)
      · rw [if_neg c5] at H
        exact absurd H (by simp)
  · rw [if_neg c2] at H
    have c2b0 : decide ((l0.length : Int) ≤ 65536) = false := decide_eq_false c2
    have c2b1 : decide (l0.length ≤ 65536) = false := decide_eq_false (by omega)
    clear c2
    obtain rfl := Option.some.inj H
    go_enter Try.func11, Try.ntmps11
    go_wp2
    go_ret
    exact ⟨by first | rfl | (simp; done) | (simp [*]; done), by repeat (first | exact Drawn0.refl _ | apply Drawn0.step)⟩

-- NOT PRINTED: function 54 (slices_IndexFunc_uint32_uint32)

-- NOT PRINTED: function 48 (slices_ContainsFunc_uint32_uint32)

end Go.Proofs.Ythdhpihfbggbbaa.PNat
