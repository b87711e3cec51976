/- SexpReads: what is read, where something is wrong, and how deep it was, are the document's. -/
import Derived.Test.YtgikmpgpccfiiaaSxNodes
import Derived.KernelRfl
namespace Go.Proofs.Ytgikmpgpccfiiaa.Pure
open Go.RowKit Go.Proofs.Ytgikmpgpccfiiaa.PSxp Go.Proofs.YtgikmpgpccfiiaaW.PrintWords Go.Proofs.YtgikmpgpccfiiaaW.PrintLast Go.Proofs.YtgikmpgpccfiiaaT
set_option linter.unusedVariables false
theorem awake_ok : alidadelaw13_awake.f 60 = some true := by kernel_rfl
theorem awake_tells : Tells (fun k => alidadelaw13_awake.f k) true := Tells.fixed 60 alidadelaw13_awake.mono awake_ok
theorem rdT_none {deep len sp a : Int} {w : S32} {ws : List S32} {l : List S51} (h : w.f0 = 2) : rdT deep len sp (w :: ws) [(a, l)] = (([], w.f1, 4), sp) := by
 unfold rdT
 rw [if_neg (by omega), if_pos h]
theorem fin_ok {M len : Int} {ws : List S32} (hpos : ∀ x ∈ ws, 0 ≤ x.f1) {R : (List S51 × Int × Int) × Int} {z : List S90 × Nat × Int × Int × Int} (h : NdOk M len ws 0 [] R z) :
  ∃ L : List S51, (refFin len (ws.map cv) z).1 = tlL L ∧ R = ((L, (refFin len (ws.map cv) z).2.1, (refFin len (ws.map cv) z).2.2.2), (refFin len (ws.map cv) z).2.2.1) := by
 obtain ⟨out, I, D, At, E⟩ := z
 unfold refFin
 dsimp only
 rcases h with ⟨h1, h2, h3, h4, l', h5, h6, h7⟩ | ⟨h1, h2, h3⟩ | ⟨h1, h2, h3⟩
 ·dsimp only at h1 h2 h3 h4 h5 h6 h7
  rw [if_pos h1]
  by_cases c : I < (ws.map cv).length
  ·rw [if_pos c]
   rw [List.length_map] at c
   cases hd : ws.drop I with
   | nil =>
    have := congrArg List.length hd
    rw [List.length_drop] at this
    have e : ws.length - I = 0 := this
    omega
   | cons w r =>
    obtain ⟨_, hw, _⟩ := cv_at hd
    have hwm : w ∈ ws := List.mem_of_mem_drop (i := I) (by rw [hd]; exact List.mem_cons_self ..)
    have hp := hpos w hwm
    refine ⟨[], by rw [tlL], ?_⟩
    rw [h7, hd, rdT_none (h4 w r hd), hw, if_neg (show ¬ ((4 : Int) ≠ 0 ∧ (cv w).f1 < 0) from fun h => absurd h.2 (by show ¬ w.f1 < 0; omega))]
    rfl
  ·rw [if_neg c]
   rw [List.length_map] at c
   obtain rfl : I = ws.length := by omega
   refine ⟨l', h5, ?_⟩
   rw [h7, List.drop_length, rdT, if_neg (by simp)]
   rfl
 ·dsimp only at h1 h2 h3
  subst h1
  rw [if_neg (by decide), if_neg (show ¬ ((46 : Int) ≠ 0 ∧ At < 0) from fun h => absurd h.2 (by omega))]
  exact ⟨[], by rw [tlL], h3⟩
 ·dsimp only at h1 h2 h3
  subst h1 h2
  rw [if_neg (by decide), if_pos (show (4 : Int) ≠ 0 ∧ (-1 : Int) < 0 from ⟨by decide, by decide⟩)]
  exact ⟨[], by rw [tlL], h3⟩
theorem both {s : ByteArray} (hs : s.size ≤ 2000) (d : Nat) : Tells (fun k => alidadelaw13_told.f k (rdO s d).1) (tlL (rdO s d).1) ∧ Tells (fun k => alidaderef13_Exact.f k (tlL (rdO s d).1) (tlL (rdO s d).1)) true := by
 have key : ∀ (l : List S51) (e : Nat), St s l 0 e → Tells (fun k => alidadelaw13_told.f k l) (tlL l) ∧ Tells (fun k => alidaderef13_Exact.f k (tlL l) (tlL l)) true := fun l e h => by
  have := h.end_le (Nat.zero_le _)
  exact ⟨(h.told (by omega)).1, h.exact (by omega)⟩
 rcases rdO_good s d with ⟨l, e, h1, h2, _⟩ | ⟨a, _, h | ⟨h, _⟩⟩
 ·rw [h1]; exact key l e h2
 ·rw [h]; exact key [] 0 (.nil 0)
 ·rw [h]; exact key [] 0 (.nil 0)
theorem SexpReads {s : ByteArray} (hs : s.size ≤ 2000) {d : Nat} (hd : d ≤ 65536) : ∃ k, readsOk k s d := by
 have hw := words_tells (s := s) (by omega)
 rw [if_neg (by omega)] at hw
 have hr := rwords_tells (s := s) (by omega)
 rw [if_neg (by omega)] at hr
 have hb := both hs d
 have hlen := pcs_len s s.size (sk false (bl s))
 obtain ⟨e1, e2⟩ := resL_eq (pcs s s.size (sk false (bl s)))
 obtain ⟨n0, k0⟩ := hw
 obtain ⟨n2, k2⟩ := hb.1
 obtain ⟨n3, k3⟩ := hb.2
 obtain ⟨n4, k4⟩ := awake_tells
 cases hf : (pcs s s.size (sk false (bl s))).find? (fun x => x.f0 == 0) with
 | some x =>
  have hL : lex_resL (pcs s s.size (sk false (bl s))) = ([], x.f1, 4) := by unfold lex_resL; rw [hf]
  have hO : rdO s d = ([], x.f1, 4) := by unfold rdO; rw [hf]
  have hR : refR [] (pcs s s.size (sk false (bl s))) = ([], x.f1, 4) := by
   rw [hL] at e1 e2
   exact Prod.ext (by rw [← e1]; rfl) e2.symm
  rw [hR] at hr
  have hRd : Tells (fun k => alidaderef13_Read.f k s (d : Int)) (([] : List S90), x.f1, (0 : Int), (4 : Int)) := by
   refine Tells.bind hr ?_
   exact Tells.of (fun k => if_neg (show ¬ (4 : Int) = 0 by decide)) (Tells.const _)
  obtain ⟨n1, k1⟩ := hRd
  refine ⟨n0 + n1 + n2 + n3 + n4, [], tlL (rdO s d).1, (rdO s d).1, x.f1, 0, 4, k1 _ (by omega), bmay hd, ⟨[], x.f1, 4, by rw [← hL]; exact k0 _ (by omega), .inr ⟨by decide, by rw [hO], rfl, rfl, rfl⟩⟩, k2 _ (by omega), ?_, k4 _ (by omega)⟩
  have h := k3 (n0 + n1 + n2 + n3 + n4) (by omega)
  dsimp only at h
  rw [hO] at h ⊢
  rw [show tlL ([] : List S51) = [] by rw [tlL]] at h ⊢
  exact h
 | none =>
  have hL : lex_resL (pcs s s.size (sk false (bl s))) = (pcs s s.size (sk false (bl s)), 0, 0) := by unfold lex_resL; rw [hf]
  have hpos : ∀ x ∈ pcs s s.size (sk false (bl s)), 0 ≤ x.f1 := fun x hx => by
   obtain ⟨a, h1, _⟩ := pcs_at _ _ x hx
   omega
  obtain ⟨ps, hps⟩ : ∃ ps, ps = pcs s s.size (sk false (bl s)) := ⟨_, rfl⟩
  have hR : refR [] ps = (ps.map cv, 0, 0) := by
   rw [← hps] at hL e1 e2
   rw [hL] at e1 e2
   exact Prod.ext e1.symm e2.symm
  rw [← hps] at hL hpos hlen hr hf
  rw [hR] at hr
  obtain ⟨z, hz, _, _, hok⟩ := nodes_spec (M := (d : Int)) (len := (s.size : Int)) hpos (by omega) ps.length 0 0 0 [] [] (Nat.sub_le _ _) (Nat.zero_le _) (Nat.le_refl _) (Nat.le_refl _)
  rw [show tlL ([] : List S51) = [] by rw [tlL]] at hz
  obtain ⟨L, g1, g2⟩ := fin_ok hpos hok
  rw [List.drop_zero] at g2
  have hO : rdO s d = (rdT (d : Int) (s.size : Int) 0 ps [(0, [])]).1 := by
   rw [rdT_fst]
   unfold rdO
   rw [← hps, hf]
  have hOL : (rdO s d).1 = L := by rw [hO, g2]
  rw [hOL] at k2 k3
  have hM : rdM (d : Int) (s.size : Int) 0 ps [(0, [])] = rdT (d : Int) (s.size : Int) 0 ps [(0, [])] := rdT_rev _ _ ps 0 0 [] []
  have hRd : Tells (fun k => alidaderef13_Read.f k s (d : Int)) (refFin (s.size : Int) (ps.map cv) z) := by
   refine Tells.bind hr ?_
   refine Tells.of (fun k => if_pos (show (0 : Int) = 0 from rfl)) ?_
   exact Tells.bind hz (Tells.const _)
  obtain ⟨n1, k1⟩ := hRd
  refine ⟨n0 + n1 + n2 + n3 + n4, (refFin (s.size : Int) (ps.map cv) z).1, tlL L, L, (refFin (s.size : Int) (ps.map cv) z).2.1, (refFin (s.size : Int) (ps.map cv) z).2.2.1, (refFin (s.size : Int) (ps.map cv) z).2.2.2, k1 _ (by omega), bmay hd, ⟨ps, 0, 0, by rw [← hL, hps]; exact k0 _ (by omega), .inl ⟨rfl, by omega, by rw [hM]; exact g2⟩⟩, k2 _ (by omega), by rw [g1]; exact k3 _ (by omega), k4 _ (by omega)⟩
end Go.Proofs.Ytgikmpgpccfiiaa.Pure
