/- SexpReads: what the document's reader tells is what the stack tells, and how deep it was. -/
import Derived.Test.YtgikmpgpccfiiaaSxTold
import Derived.Test.YtgikmpgpccfiiaaSxLw
namespace Go.Proofs.YtgikmpgpccfiiaaT
open Go.RowKit Go.Proofs.Ytgikmpgpccfiiaa.PSxp Go.Proofs.YtgikmpgpccfiiaaW.PrintWords Go.Proofs.YtgikmpgpccfiiaaW.PrintLast
set_option linter.unusedVariables false
/-- The stack, its top first, with what was spent. -/
def rdT (deep len : Int) : Int → List S32 → List (Int × List S51) → (List S51 × Int × Int) × Int
 | sp, [], gs => if 1 < gs.length then (([], len, 4), sp) else (((gs.headD (0, [])).2, 0, 0), sp)
 | sp, _ :: _, [] => (([], 0, 0), sp)
 | sp, w :: ws, (a, l) :: gs =>
  if w.f0 = 1 then (if ((gs.length + 1 : Nat) : Int) > deep then (([], w.f1, 46), sp) else rdT deep len (mx sp ((gs.length + 1 : Nat) : Int)) ws ((w.f1, []) :: (a, l) :: gs))
  else if w.f0 = 2 then (match gs with | [] => (([], w.f1, 4), sp) | (b, m) :: gs => rdT deep len sp ws ((b, m ++ [⟨0, a, ⟨#[]⟩, l⟩]) :: gs))
  else rdT deep len sp ws ((a, l ++ [⟨w.f0, w.f1, w.f3, []⟩]) :: gs)
theorem rdT_open {deep len sp a : Int} {w : S32} {ws : List S32} {l : List S51} {gs : List (Int × List S51)} (h : w.f0 = 1) (hd : ¬ ((gs.length + 1 : Nat) : Int) > deep) : rdT deep len sp (w :: ws) ((a, l) :: gs) = rdT deep len (mx sp ((gs.length + 1 : Nat) : Int)) ws ((w.f1, []) :: (a, l) :: gs) := by
 unfold rdT
 rw [if_pos h, if_neg hd]
 cases ws <;> rfl
theorem rdT_deep {deep len sp a : Int} {w : S32} {ws : List S32} {l : List S51} {gs : List (Int × List S51)} (h : w.f0 = 1) (hd : ((gs.length + 1 : Nat) : Int) > deep) : rdT deep len sp (w :: ws) ((a, l) :: gs) = (([], w.f1, 46), sp) := by
 unfold rdT
 rw [if_pos h, if_pos hd]
theorem rdT_close {deep len sp a b : Int} {w : S32} {ws : List S32} {l m : List S51} {gs : List (Int × List S51)} (h : w.f0 = 2) : rdT deep len sp (w :: ws) ((a, l) :: (b, m) :: gs) = rdT deep len sp ws ((b, m ++ [⟨0, a, ⟨#[]⟩, l⟩]) :: gs) := by
 unfold rdT
 rw [if_neg (by omega), if_pos h]
 cases ws <;> rfl
theorem rdT_word {deep len sp a : Int} {w : S32} {ws : List S32} {l : List S51} {gs : List (Int × List S51)} (h1 : w.f0 ≠ 1) (h2 : w.f0 ≠ 2) : rdT deep len sp (w :: ws) ((a, l) :: gs) = rdT deep len sp ws ((a, l ++ [⟨w.f0, w.f1, w.f3, []⟩]) :: gs) := by
 unfold rdT
 rw [if_neg h1, if_neg h2]
 cases ws <;> rfl
theorem rdT_rev (deep len : Int) : ∀ (ws : List S32) (sp a : Int) (l : List S51) (gs : List (Int × List S51)), rdM deep len sp ws (gs.reverse ++ [(a, l)]) = rdT deep len sp ws ((a, l) :: gs) := by
 intro ws
 induction ws with
 | nil =>
  intro sp a l gs
  unfold rdM rdT
  cases gs with
  | nil => rfl
  | cons g gs => rw [if_pos (by simp), if_pos (by simp)]
 | cons w ws ih =>
  intro sp a l gs
  unfold rdM rdT
  have hlen : (gs.reverse ++ [(a, l)]).length = gs.length + 1 := by simp
  rw [hlen]
  by_cases c1 : w.f0 = 1
  ·rw [if_pos c1, if_pos c1]
   by_cases c : ((gs.length + 1 : Nat) : Int) > deep
   ·rw [if_pos c, if_pos c]
   ·rw [if_neg c, if_neg c]
    have := ih (mx sp ((gs.length + 1 : Nat) : Int)) w.f1 [] ((a, l) :: gs)
    rw [List.reverse_cons] at this
    exact this
  ·rw [if_neg c1, if_neg c1]
   by_cases c2 : w.f0 = 2
   ·rw [if_pos c2, if_pos c2]
    cases gs with
    | nil => rfl
    | cons g gs =>
     obtain ⟨b, m⟩ := g
     rw [if_neg (by simp)]
     have e1 : (((b, m) :: gs).reverse ++ [(a, l)]).dropLast = gs.reverse ++ [(b, m)] := by rw [List.dropLast_concat, List.reverse_cons]
     have e2 : (((b, m) :: gs).reverse ++ [(a, l)]).getLastD (0, []) = (a, l) := by simp [List.getLastD_eq_getLast?]
     rw [e1, e2, addK_snoc]
     exact ih sp b _ gs
   ·rw [if_neg c2, if_neg c2, addK_snoc]
    exact ih sp a _ gs
theorem rdT_fst (deep len : Int) : ∀ (ws : List S32) (sp : Int) (gs : List (Int × List S51)), (rdT deep len sp ws gs).1 = rdR deep len ws gs := by
 intro ws
 induction ws with
 | nil => intro sp gs; unfold rdT rdR; split <;> rfl
 | cons w ws ih =>
  intro sp gs
  cases gs with
  | nil => unfold rdT rdR; rfl
  | cons g gs =>
   obtain ⟨a, l⟩ := g
   unfold rdT rdR
   by_cases c1 : w.f0 = 1
   ·rw [if_pos c1, if_pos c1]
    by_cases c : ((gs.length + 1 : Nat) : Int) > deep
    ·rw [if_pos c, if_pos c]
    ·rw [if_neg c, if_neg c]; exact ih _ _
   ·rw [if_neg c1, if_neg c1]
    by_cases c2 : w.f0 = 2
    ·rw [if_pos c2, if_pos c2]
     cases gs with
     | nil => rfl
     | cons g gs => obtain ⟨b, m⟩ := g; exact ih _ _
    ·rw [if_neg c2, if_neg c2]; exact ih _ _
theorem tlL_app : ∀ (l m : List S51), tlL (l ++ m) = tlL l ++ tlL m
 | [], m => by rw [List.nil_append, tlL, List.nil_append]
 | x :: l, m => by rw [List.cons_append, tlL, tlL, tlL_app l m, List.cons_append]
theorem cv_at {ws : List S32} {I : Nat} {w : S32} {r : List S32} (h : ws.drop I = w :: r) : I < ws.length ∧ rd_T31 (ws.map cv) (I : Int) = cv w ∧ ws.drop (I + 1) = r := by
 have hI : I < ws.length := by
  rcases Nat.lt_or_ge I ws.length with c | c
  ·exact c
  ·rw [List.drop_eq_nil_of_le c] at h; cases h
 rw [List.drop_eq_getElem_cons hI] at h
 injection h with e1 e2
 refine ⟨hI, ?_, e2⟩
 unfold rd_T31
 rw [Int.toNat_natCast, List.getD_eq_getElem?_getD, List.getElem?_map, List.getElem?_eq_getElem hI, e1]; rfl
/-- What a call of the reader tells, beside the stack. -/
def NdOk (M len : Int) (ws : List S32) (a : Int) (gs : List (Int × List S51)) (R : (List S51 × Int × Int) × Int) (z : List S90 × Nat × Int × Int × Int) : Prop :=
 (z.2.2.2.2 = 0 ∧ z.2.2.2.1 = 0 ∧ z.2.1 ≤ ws.length ∧ (∀ w r, ws.drop z.2.1 = w :: r → w.f0 = 2) ∧ ∃ l', z.1 = tlL l' ∧ l'.length ≤ z.2.1 ∧ R = rdT M len z.2.2.1 (ws.drop z.2.1) ((a, l') :: gs))
 ∨ (z.2.2.2.2 = 46 ∧ 0 ≤ z.2.2.2.1 ∧ R = (([], z.2.2.2.1, 46), z.2.2.1))
 ∨ (z.2.2.2.2 = 4 ∧ z.2.2.2.1 = -1 ∧ R = (([], len, 4), z.2.2.1))
theorem rn_stop {ws : List S31} {M deep : Int} {out : List S90} {I : Nat} {D At E : Int} (h : E ≠ 0) : Tells (fun k => rnodes k ws M deep out I D At E) (out, I, D, At, E) :=
 Tells.step (g := fun _ => some (out, I, D, At, E)) (fun k => (by rw [rnodes, if_neg h])) (Tells.const _)
theorem nodes_spec {M len : Int} {ws : List S32} (hpos : ∀ x ∈ ws, 0 ≤ x.f1) (hlen : ws.length ≤ 100000) : ∀ (m I : Nat) (D a : Int) (l : List S51) (gs : List (Int × List S51)), ws.length - I ≤ m → I ≤ ws.length → l.length ≤ I → gs.length ≤ I →
  ∃ z, Tells (fun k => rnodes k (ws.map cv) M (gs.length : Int) (tlL l) I D 0 0) z ∧ I ≤ z.2.1 ∧ z.2.1 ≤ I + 2 * (ws.length - I) + 1 ∧ NdOk M len ws a gs (rdT M len D (ws.drop I) ((a, l) :: gs)) z := by
 intro m
 induction m with
 | zero =>
  intro I D a l gs hm hI hl hg
  obtain rfl : I = ws.length := by omega
  refine ⟨(tlL l, ws.length, D, 0, 0), Tells.step (g := fun _ => some (tlL l, ws.length, D, 0, 0)) (fun k => (by rw [rnodes, if_pos rfl, if_neg (by rw [List.length_map]; omega)])) (Tells.const _), Nat.le_refl _, by dsimp only; omega, .inl ⟨rfl, rfl, Nat.le_refl _, fun w r h => ?_, l, rfl, hl, rfl⟩⟩
  dsimp only at h
  rw [List.drop_length] at h
  cases h
 | succ m ih =>
  intro I D a l gs hm hI hl hg
  cases hd : ws.drop I with
  | nil =>
   have hI2 : I = ws.length := by
    have := congrArg List.length hd
    rw [List.length_drop] at this
    have e : ws.length - I = 0 := this
    omega
   refine ⟨(tlL l, I, D, 0, 0), Tells.step (g := fun _ => some (tlL l, I, D, 0, 0)) (fun k => (by rw [rnodes, if_pos rfl, if_neg (by rw [List.length_map]; omega)])) (Tells.const _), Nat.le_refl _, by dsimp only; omega, .inl ⟨rfl, rfl, hI, fun w r h => ?_, l, rfl, hl, by dsimp only; rw [hd]⟩⟩
   dsimp only at h
   rw [hd] at h
   cases h
  | cons w r =>
   obtain ⟨hIl, hw, hd2⟩ := cv_at hd
   have hwm : w ∈ ws := List.mem_of_mem_drop (i := I) (by rw [hd]; exact List.mem_cons_self ..)
   have hlm : I < (ws.map cv).length := by rw [List.length_map]; exact hIl
   have hguard : (tlL l).length < 1000000 ∧ I < 1000000000 ∧ (0 ≤ (gs.length : Int) ∧ (gs.length : Int) < 1000000000) := by rw [tlL_len]; omega
   have hcv : (cv w).f0 = w.f0 ∧ (cv w).f1 = w.f1 ∧ (cv w).f3 = w.f3 := ⟨rfl, rfl, rfl⟩
   by_cases c2 : w.f0 = 2
   ·refine ⟨(tlL l, I, D, 0, 0), Tells.step (g := fun _ => some (tlL l, I, D, 0, 0)) (fun k => (by rw [rnodes, if_pos rfl, if_pos hlm, hw, if_pos (show (cv w).f0 = 2 from c2)])) (Tells.const _), Nat.le_refl _, by dsimp only; omega, .inl ⟨rfl, rfl, hI, fun w' r' h => ?_, l, rfl, hl, by dsimp only; rw [hd]⟩⟩
    dsimp only at h
    rw [hd] at h
    injection h with e1 e2
    rw [← e1]; exact c2
   ·by_cases c1 : w.f0 = 1
    ·by_cases cm : (gs.length : Int) + 1 > M
     ·refine ⟨([], I + 1, D, w.f1, 46), Tells.step (g := fun _ => some ([], I + 1, D, w.f1, 46)) (fun k => (by rw [rnodes, if_pos rfl, if_pos hlm, hw, if_neg (show ¬ (cv w).f0 = 2 from c2), if_pos hguard, if_pos (show (cv w).f0 = 1 from c1), if_pos cm]; rfl)) (Tells.const _), by dsimp only; omega, by dsimp only; omega, .inr (.inl ⟨rfl, hpos w hwm, ?_⟩)⟩
      dsimp only
      rw [rdT_deep c1 (by omega)]
     ·obtain ⟨z, hz, hz1, hz2, hz3⟩ := ih (I + 1) (mx D ((gs.length : Int) + 1)) w.f1 [] ((a, l) :: gs) (by omega) (by omega) (Nat.zero_le _) (by rw [List.length_cons]; omega)
      obtain ⟨kids, I2, D2, At2, E2⟩ := z
      dsimp only at hz1 hz2
      have e0 : rdT M len D (w :: r) ((a, l) :: gs) = rdT M len (mx D ((gs.length : Int) + 1)) (ws.drop (I + 1)) ((w.f1, []) :: (a, l) :: gs) := by
       rw [rdT_open c1 (by omega), hd2, show ((gs.length + 1 : Nat) : Int) = (gs.length : Int) + 1 by omega]
      have hz' : Tells (fun k => rnodes k (ws.map cv) M ((gs.length : Int) + 1) [] (I + 1) (mx D ((gs.length : Int) + 1)) 0 0) (kids, I2, D2, At2, E2) := by
       have h1 := hz
       rw [show tlL ([] : List S51) = [] by rw [tlL], List.length_cons, show ((gs.length + 1 : Nat) : Int) = (gs.length : Int) + 1 by omega] at h1
       exact h1
      have open_ : ∀ (z' : List S90 × Nat × Int × Int × Int), Tells (fun k => rnodes k (ws.map cv) M (gs.length : Int) (tlL l ++ [⟨0, w.f1, ⟨#[]⟩, kids⟩]) (I2 + 1) D2 (if E2 = 0 ∧ (ws.map cv).length ≤ I2 then -1 else At2) (if E2 = 0 ∧ (ws.map cv).length ≤ I2 then 4 else E2)) z' →
        Tells (fun k => rnodes k (ws.map cv) M (gs.length : Int) (tlL l) I D 0 0) z' := by
       intro z' h
       refine Tells.step (fun k => (by rw [rnodes, if_pos rfl, if_pos hlm, hw, if_neg (show ¬ (cv w).f0 = 2 from c2), if_pos hguard, if_pos (show (cv w).f0 = 1 from c1), if_neg cm])) ?_
       refine Tells.bind hz' ?_
       exact Tells.of (fun k => if_pos (show I2 < 1000000000 by omega)) h
      rw [e0]
      rcases hz3 with ⟨h1, h2, h3, h4, lk, h5, h6, h7⟩ | ⟨h1, h2, h3⟩ | ⟨h1, h2, h3⟩
      ·dsimp only at h1 h2 h3 h4 h5 h6 h7
       subst h1 h2
       by_cases cI : ws.length ≤ I2
       ·obtain rfl : I2 = ws.length := by omega
        have hh : (0 : Int) = 0 ∧ (ws.map cv).length ≤ ws.length := ⟨rfl, by rw [List.length_map]; exact Nat.le_refl _⟩
        refine ⟨_, open_ _ (by rw [if_pos hh, if_pos hh]; exact rn_stop (by decide)), by dsimp only; omega, by dsimp only; omega, .inr (.inr ⟨rfl, rfl, ?_⟩)⟩
        rw [h7, List.drop_length, rdT, if_pos (by simp)]
       ·have hh : ¬ ((0 : Int) = 0 ∧ (ws.map cv).length ≤ I2) := fun h => cI (by rw [← List.length_map (f := cv)]; exact h.2)
        cases hd3 : ws.drop I2 with
        | nil =>
         have := congrArg List.length hd3
         rw [List.length_drop] at this
         have e : ws.length - I2 = 0 := this
         omega
        | cons w2 r2 =>
         obtain ⟨hI3, _, hd4⟩ := cv_at hd3
         have hw2 := h4 w2 r2 hd3
         obtain ⟨z', q0, q1, q2, q3⟩ := ih (I2 + 1) D2 a (l ++ [⟨0, w.f1, ⟨#[]⟩, lk⟩]) gs (by omega) (by omega) (by rw [List.length_append, List.length_singleton]; omega) (by omega)
         have e5 : tlL l ++ [⟨0, w.f1, ⟨#[]⟩, kids⟩] = tlL (l ++ [⟨0, w.f1, ⟨#[]⟩, lk⟩]) := by rw [tlL_app, tlL, tlL, tlN_eq, h5]
         refine ⟨z', open_ _ (by rw [if_neg hh, if_neg hh, e5]; exact q0), by omega, by omega, ?_⟩
         rw [h7, hd3, rdT_close hw2, ← hd4]
         exact q3
      ·dsimp only at h1 h2 h3
       subst h1
       have hh : ¬ ((46 : Int) = 0 ∧ (ws.map cv).length ≤ I2) := fun h => absurd h.1 (by decide)
       refine ⟨_, open_ _ (by rw [if_neg hh, if_neg hh]; exact rn_stop (by decide)), by dsimp only; omega, by dsimp only; omega, .inr (.inl ⟨rfl, h2, h3⟩)⟩
      ·dsimp only at h1 h2 h3
       subst h1 h2
       have hh : ¬ ((4 : Int) = 0 ∧ (ws.map cv).length ≤ I2) := fun h => absurd h.1 (by decide)
       refine ⟨_, open_ _ (by rw [if_neg hh, if_neg hh]; exact rn_stop (by decide)), by dsimp only; omega, by dsimp only; omega, .inr (.inr ⟨rfl, rfl, h3⟩)⟩
    ·obtain ⟨z', q0, q1, q2, q3⟩ := ih (I + 1) D a (l ++ [⟨w.f0, w.f1, w.f3, []⟩]) gs (by omega) (by omega) (by rw [List.length_append, List.length_singleton]; omega) (by omega)
     have e5 : tlL l ++ [⟨(cv w).f0, (cv w).f1, (cv w).f3, []⟩] = tlL (l ++ [⟨w.f0, w.f1, w.f3, []⟩]) := by rw [tlL_app, tlL, tlL, tlN_eq, tlL]; rfl
     refine ⟨z', Tells.step (fun k => (by rw [rnodes, if_pos rfl, if_pos hlm, hw, if_neg (show ¬ (cv w).f0 = 2 from c2), if_pos hguard, if_neg (show ¬ (cv w).f0 = 1 from c1), e5])) q0, by omega, by omega, ?_⟩
     rw [rdT_word c1 c2, ← hd2]
     exact q3
end Go.Proofs.YtgikmpgpccfiiaaT
