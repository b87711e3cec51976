/- SexpBack: what is shown of nodes that may be, one behind the other, is read as they are, each where it is written. -/
import Derived.Test.YtgikmpgpccfiiaaSxBackR
import Derived.Test.YtgikmpgpccfiiaaPSxpx39
import Derived.KernelRfl
namespace Go.Proofs.Ytgikmpgpccfiiaa.Pure
open Go.RowKit Go.Proofs.Ytgikmpgpccfiiaa.PSxp Go.Proofs.YtgikmpgpccfiiaaW.PrintWords Go.Proofs.YtgikmpgpccfiiaaW.PrintLast Go.Proofs.YtgikmpgpccfiiaaT
set_option linter.unusedVariables false
theorem awake_ok : alidadelaw13_awake.f 60 = some true := by kernel_rfl
theorem awake_tells : Tells (fun k => alidadelaw13_awake.f k) true := Tells.fixed 60 alidadelaw13_awake.mono awake_ok
theorem bl_append (a b : ByteArray) : bl (a ++ b) = bl a ++ bl b := by
  unfold bl
  rw [ByteArray.data_append, Array.toList_append]
theorem wrL_snoc (x : S51) : ∀ (l : List S51) (b : Bool), wrL b (l ++ [x]) = wrL b l ++ ((if (b && l.isEmpty) = true then [] else [32]) ++ wrN x)
  | [], b => by rw [List.nil_append, wrL_cons, wrL_nil, wrL_nil, List.append_nil, List.nil_append, List.isEmpty_nil, Bool.and_true]
  | y :: l, b => by rw [List.cons_append, wrL_cons, wrL_cons, wrL_snoc x l false, List.isEmpty_cons, Bool.and_false, Bool.false_and, List.append_assoc, List.append_assoc]
theorem pnL_snoc (x : S51) : ∀ (l : List S51) (b : Bool) (n : Nat), pnL n b (l ++ [x]) = pnL n b l ++ [pnN (n + (wrL b l).length + if (b && l.isEmpty) = true then 0 else 1) x]
  | [], b, n => by rw [List.nil_append, pnL_cons, pnL_nil, pnL_nil, wrL_nil, List.length_nil, Nat.add_zero, List.isEmpty_nil, Bool.and_true]; rfl
  | y :: l, b, n => by
    rw [List.cons_append, pnL_cons, pnL_cons, pnL_snoc x l false, wrL_cons, List.isEmpty_cons, Bool.and_false, Bool.false_and, List.cons_append, List.length_append, List.length_append, sep_len]
    rw [show n + (if b = true then 0 else 1) + (wrN y).length + (wrL false l).length = n + ((if b = true then 0 else 1) + ((wrN y).length + (wrL false l).length)) by omega]
theorem mayL_snoc (x : S51) : ∀ (l : List S51), mayL (l ++ [x]) = (mayL l && mayN x)
  | [] => by simp [mayL]
  | y :: l => by rw [List.cons_append, mayL, mayL, mayL_snoc x l, Bool.and_assoc]
theorem pnL_at : ∀ (l : List S51) (n : Nat) (b : Bool) (j : Nat), j < l.length → ∃ q, rd_T51 (pnL n b l) (j : Int) = pnN q (rd_T51 l (j : Int))
  | [], n, b, j, h => by simp at h
  | x :: r, n, b, 0, h => by rw [pnL_cons]; exact ⟨_, rfl⟩
  | x :: r, n, b, j + 1, h => by
    rw [List.length_cons] at h
    obtain ⟨q, hq⟩ := pnL_at r ((n + if b = true then 0 else 1) + (wrN x).length) false j (by omega)
    refine ⟨q, ?_⟩
    rw [pnL_cons]
    unfold rd_T51 at hq ⊢
    rw [Int.toNat_natCast] at hq ⊢
    rw [List.getD_cons_succ, List.getD_cons_succ]
    exact hq
theorem rd_map : ∀ (l : List S51) (j : Nat), j < l.length → rd (l.map (fun y => y.f1)) (j : Int) = (rd_T51 l (j : Int)).f1
  | [], j, h => by simp at h
  | x :: r, 0, h => rfl
  | x :: r, j + 1, h => by
    rw [List.length_cons] at h
    have := rd_map r j (by omega)
    unfold rd rd_T51 at this ⊢
    rw [Int.toNat_natCast] at this ⊢
    rw [List.map_cons, List.getD_cons_succ, List.getD_cons_succ]
    exact this
theorem back_l1 {l : List S51} {c : Nat} (h : Sml l c) (hc : c ≤ 3000) (hm : mayL l = true) (hms : ∀ x ∈ l, mayN x = true) : ∀ (r : List S51) (j : Nat), l.drop j = r → Tells (fun k => alidadelaw13_SexpBack.l1 k l ((pnL 0 true l).map (fun y => y.f1)) (pnL 0 true l) (j : Int)) true
  | [], j, hd => by
    have := nd_end hd
    exact Tells.step (fun k => (by rw [alidadelaw13_SexpBack.l1, if_neg (show ¬ (j : Int) < (l.length : Int) by omega)])) (Tells.const _)
  | x :: r, j, hd => by
    obtain ⟨hj, hx, hd2⟩ := nd_at hd
    have hlen := h.len
    have hxm : x ∈ l := List.mem_of_mem_drop (i := j) (by rw [hd]; exact List.mem_cons_self ..)
    obtain ⟨q, hq⟩ := pnL_at l 0 true j hj
    have hp := pnL_len l 0 true
    rw [hx] at hq
    refine Tells.step (fun k => (by rw [alidadelaw13_SexpBack.l1, if_pos (show (j : Int) < (l.length : Int) by omega), if_pos (show (0 : Int) ≤ (j : Int) by omega), if_pos (show (j : Int) < ((pnL 0 true l).length : Int) by omega), hx, hq, rd_map _ j (by omega), hq, w1 (show j ≤ 140737488351232 by omega)])) ?_
    refine Tells.bind (h.same.1 x hxm (hms x hxm) q) ?_
    refine Tells.of (fun k => (by rw [if_pos rfl, if_pos (show (j : Int) < (((pnL 0 true l).map (fun y => y.f1)).length : Int) by rw [List.length_map]; omega), if_pos rfl])) ?_
    exact back_l1 h hc hm hms r (j + 1) hd2
theorem mayL_all : ∀ (l : List S51), mayL l = true → ∀ x ∈ l, mayN x = true
  | [], _, x, hx => by cases hx
  | y :: l, h, x, hx => by
    rw [mayL, Bool.and_eq_true] at h
    rcases List.mem_cons.1 hx with rfl | hx
    · exact h.1
    · exact mayL_all l h.2 x hx
theorem back_end {l : List S51} {c : Nat} (h : Sml l c) (hc : c ≤ 3000) {s : ByteArray} (hs : bl s = wrL true l) (hz : s.size ≤ 60001) (hm : mayL l = true) : Tells (fun k => alidadelaw13_SexpBack.l0 k l s ((pnL 0 true l).map (fun y => y.f1)) ((dpL l : Nat) : Int) ((l.length : Nat) : Int)) true := by
  have hd := h.dp
  refine Tells.step (fun k => (by rw [alidadelaw13_SexpBack.l0, if_neg (show ¬ ((l.length : Nat) : Int) < (l.length : Int) by omega)])) ?_
  have hr := read_tells (s := s) (by omega) (d := dpL l) (by omega)
  rw [h.back hs hm (Nat.le_refl _)] at hr
  refine Tells.bind hr ?_
  refine Tells.of (fun k => (by rw [if_pos rfl, if_pos rfl])) ?_
  refine Tells.step (fun k => (by rw [alidadelaw13_SexpBack.j2, if_neg (show ¬ (((pnL 0 true l).length : Int) != (l.length : Int)) = true by rw [pnL_len]; simp)])) ?_
  exact back_l1 h hc hm (mayL_all l hm) l 0 rfl
theorem back_l0 {L : List S51} {c : Nat} (h : Sml L c) (hc : c ≤ 3000) : ∀ (r T : List S51) (s : ByteArray), L = T ++ r → bl s = wrL true T → s.size ≤ 60001 → mayL T = true →
    Tells (fun k => alidadelaw13_SexpBack.l0 k L s ((pnL 0 true T).map (fun y => y.f1)) ((dpL T : Nat) : Int) ((T.length : Nat) : Int)) true
  | [], T, s, hL, hs, hz, hm => by
    rw [List.append_nil] at hL
    subst hL
    exact back_end h hc hs hz hm
  | x :: r, T, s, hL, hs, hz, hm => by
    have hlen := h.len
    have hTl : T.length < L.length := by rw [hL, List.length_append, List.length_cons]; omega
    have hx : rd_T51 L ((T.length : Nat) : Int) = x := by
      unfold rd_T51
      rw [Int.toNat_natCast, hL, List.getD_eq_getElem?_getD, List.getElem?_append_right (Nat.le_refl _), Nat.sub_self]; rfl
    have hxm : x ∈ L := by rw [hL]; simp
    have hL2 : L = (T ++ [x]) ++ r := by rw [hL, List.append_assoc]; rfl
    refine Tells.step (fun k => (by rw [alidadelaw13_SexpBack.l0, if_pos (show ((T.length : Nat) : Int) < (L.length : Int) by omega), if_pos (show (0 : Int) ≤ ((T.length : Nat) : Int) by omega), hx])) ?_
    refine Tells.bind (h.show hc x hxm) ?_
    refine Tells.bind (h.may.1 x hxm) ?_
    cases hmx : mayN x with
    | false =>
      exact Tells.of (g := fun _ => some true) (fun k => (by rw [if_neg (show ¬ (false = true) by simp), if_neg (show ¬ (false = true) by simp), if_pos (show (⟨#[]⟩ : ByteArray).toList = ([] : List UInt8) by rw [bl_toList]; rfl)])) (Tells.const _)
    | true =>
      obtain ⟨t, ht⟩ : ∃ t : ByteArray, t = (⟨(wrN x).toArray⟩ : ByteArray) := ⟨_, rfl⟩
      have hb : bl t = wrN x := by rw [ht]; unfold bl; simp
      have hne : ¬ t.toList = ([] : List UInt8) := by rw [bl_toList, hb]; exact wrN_ne hmx
      have htz := bl_size t
      obtain ⟨g1, a, g2, g3⟩ := h.mem x hxm
      have e1 := wrN_len g1
      have e2 := g2.wlen true
      rw [← hb] at e1
      refine Tells.of (fun k => (by rw [if_pos rfl, ← ht, if_pos rfl, if_neg hne, wadd (show s.size + t.size ≤ 140737488351232 by omega)])) ?_
      by_cases c1 : ((s.size + t.size : Nat) : Int) > 60000
      · exact Tells.of (g := fun _ => some true) (fun k => (by rw [if_pos c1])) (Tells.const _)
      · have hpl : ((pnL 0 true T).map (fun y => y.f1)).length < 17592186044416 := by rw [List.length_map, pnL_len]; omega
        have hm2 : mayL (T ++ [x]) = true := by rw [mayL_snoc, hm, hmx]; rfl
        have hd2 : mx ((dpL T : Nat) : Int) ((dpN x : Nat) : Int) = ((dpL (T ++ [x]) : Nat) : Int) := by
          rw [mx_nat, dpL_app, dpL_cons, dpL_nil, Nat.max_zero]
        have hl2 : wrap64 (((T.length : Nat) : Int) + 1) = (((T ++ [x]).length : Nat) : Int) := by rw [w1 (by omega), List.length_append, List.length_singleton]
        cases hT : T with
        | nil =>
          subst hT
          have hs0 : s.size = 0 := by rw [bl_size, hs, wrL_nil]; rfl
          refine Tells.of (fun k => (by rw [if_neg c1, if_neg (show ¬ ((([] : List S51).length : Nat) : Int) > 0 by simp), if_pos hpl, if_pos (show s.size + t.size ≤ 9223372036854775807 by omega)])) ?_
          refine Tells.bind (h.depth hc x hxm) ?_
          have := back_l0 h hc r ([] ++ [x]) (s ++ t) hL2 (by rw [bl_append, hs, hb, wrL_snoc]; rfl) (by rw [ByteArray.size_append]; omega) hm2
          rw [← hd2, ← hl2, pnL_snoc, List.map_append, wrL_nil, pnN_eq] at this
          rw [hs0]
          exact this
        | cons y z =>
          have hTne : T.isEmpty = false := by rw [hT]; rfl
          have hT0 : ((T.length : Nat) : Int) > 0 := by rw [hT, List.length_cons]; omega
          rw [← hT]
          refine Tells.of (fun k => (by rw [if_neg c1, if_pos hT0, if_pos (show s.size + 1 ≤ 9223372036854775807 by omega), if_pos hpl, if_pos (show (s ++ (⟨#[32]⟩ : ByteArray)).size + t.size ≤ 9223372036854775807 by rw [ByteArray.size_append, show (⟨#[32]⟩ : ByteArray).size = 1 from rfl]; omega)])) ?_
          refine Tells.bind (h.depth hc x hxm) ?_
          have := back_l0 h hc r (T ++ [x]) ((s ++ (⟨#[32]⟩ : ByteArray)) ++ t) hL2 (by rw [bl_append, bl_append, hs, hb, wrL_snoc, hTne]; simp [bl]) (by rw [ByteArray.size_append, ByteArray.size_append, show (⟨#[32]⟩ : ByteArray).size = 1 from rfl]; omega) hm2
          rw [← hd2, ← hl2, pnL_snoc, List.map_append, hTne] at this
          have e5 : (((s ++ (⟨#[32]⟩ : ByteArray)).size : Nat) : Int) = (pnN (0 + (wrL true T).length + if (true && false) = true then 0 else 1) x).f1 := by
            rw [pnN_eq, ByteArray.size_append, show (⟨#[32]⟩ : ByteArray).size = 1 from rfl, if_neg (by simp), ← hs, ← bl_size, Nat.zero_add]
          rw [e5]
          exact this
theorem SexpBack {l : List S51} (h : Okl l) : ∃ k, alidadelaw13_SexpBack.f k l = some true := by
  refine Tells.ex (f := fun k => alidadelaw13_SexpBack.f k l) ?_
  have hj0 : Tells (fun k => alidadelaw13_SexpBack.j0 k l true) true := by
    refine Tells.step (fun k => (by rw [alidadelaw13_SexpBack.j0, if_pos rfl])) ?_
    exact Tells.bind awake_tells (Tells.const _)
  unfold alidadelaw13_SexpBack.f
  by_cases c0 : (l.length : Int) > 100
  · exact Tells.of (fun k => if_pos c0) hj0
  · refine Tells.of (fun k => if_neg c0) ?_
    refine Tells.bind (large_tells h) ?_
    by_cases c1 : ((lgR l 0 : Nat) : Int) ≥ 3000
    · exact Tells.of (fun k => if_pos c1) hj0
    · refine Tells.of (fun k => if_neg c1) ?_
      refine Tells.bind awake_tells ?_
      refine Tells.step (fun k => (by rw [alidadelaw13_SexpBack.j0, if_neg (by simp)])) ?_
      obtain ⟨c, hs, hc⟩ := h.sml 0 (by omega)
      have := back_l0 hs (by omega) l [] (⟨#[]⟩ : ByteArray) rfl rfl (by decide) (by rw [mayL])
      exact this
end Go.Proofs.Ytgikmpgpccfiiaa.Pure
