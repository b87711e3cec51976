/- LexParted: with whatever parts words between the words of a text its words are the same. -/
import Derived.Test.YtgikmpgpccfiiaaLexCut
import Derived.Test.YtgikmpgpccfiiaaPLexx27
namespace Go.Proofs.Ytgikmpgpccfiiaa.Pure
open Go.RowKit Go.Proofs.Ytgikmpgpccfiiaa.PLex Go.Proofs.YtgikmpgpccfiiaaW.PrintWords Go.Proofs.YtgikmpgpccfiiaaW.PrintLast Go.Proofs.YtgikmpgpccfiiaaT
set_option linter.unusedVariables false
section
variable {β : Type} {r : β}
theorem ip {c : Prop} [Decidable c] {f g : Nat → Option β} (hc : c) (h : Tells f r) : Tells (fun k => if c then f k else g k) r := by
  obtain ⟨n, hn⟩ := h
  exact ⟨n, fun k hk => by
    show (if c then f k else g k) = some r
    rw [if_pos hc]; exact hn k hk⟩
theorem ino {c : Prop} [Decidable c] {f g : Nat → Option β} (hc : ¬ c) (h : Tells g r) : Tells (fun k => if c then f k else g k) r := by
  obtain ⟨n, hn⟩ := h
  exact ⟨n, fun k hk => by
    show (if c then f k else g k) = some r
    rw [if_neg hc]; exact hn k hk⟩
end
theorem bl_append (a b : ByteArray) : bl (a ++ b) = bl a ++ bl b := by
  unfold bl
  rw [ByteArray.data_append, Array.toList_append]
/-- A text, as bytes, has these words. -/
def Parses : List UInt8 → List (List UInt8) → Prop
  | l, [] => sk false l = l.length
  | l, p :: T => ∃ g r, l = g ++ (p ++ r) ∧ sk false l = g.length ∧ p.length = max (tk (p ++ r)) 1 ∧ Parses r T
theorem parses_pcs {t : ByteArray} : ∀ (T : List (List UInt8)) (l : List UInt8) (n m : Nat), Parses l T → (bl t).drop n = l → n ≤ t.size → t.size - n ≤ m → (pcs t m (n + sk false l)).map (fun x => bl x.f3) = T
  | [], l, n, m, h, hl, hn, hm => by
    have h' : sk false l = l.length := h
    have e : l.length = t.size - n := by rw [← hl, List.length_drop, ← bl_size]
    rw [pcs_end (by omega)]; rfl
  | p :: T, l, n, m, h, hl, hn, hm => by
    obtain ⟨g, r, e, h0, h1, h2⟩ := h
    have el : l.length = t.size - n := by rw [← hl, List.length_drop, ← bl_size]
    have el2 : l.length = g.length + (p.length + r.length) := by rw [e, List.length_append, List.length_append]
    obtain ⟨m, rfl⟩ : ∃ k, m = k + 1 := ⟨m - 1, by omega⟩
    have hd : (bl t).drop (n + g.length) = p ++ r := by rw [← List.drop_drop, hl, e, List.drop_left]
    have hd2 : (bl t).drop (n + g.length + p.length) = r := by rw [← List.drop_drop, hd, List.drop_left]
    have hp : pend t (n + g.length) = n + g.length + p.length := by unfold pend; rw [hd]; omega
    have hb : bl (t.extract (n + g.length) (n + g.length + p.length)) = p := by
      rw [bl_extract, hd, Nat.add_sub_cancel_left, List.take_left]
    rw [h0, pcs, if_pos (by omega), hp, hd2, List.map_cons, parses_pcs T r (n + g.length + p.length) m h2 hd2 (by omega) (by omega)]
    show bl (t.extract (n + g.length) (n + g.length + p.length)) :: T = p :: T
    rw [hb]
theorem pcs_kinds {s : ByteArray} : ∀ (m n : Nat) (x : S32), x ∈ pcs s m n → x.f0 = kindL (bl x.f3)
  | 0, n, x, h => by cases h
  | m + 1, n, x, h => by
    unfold pcs at h
    by_cases c : n < s.size
    · rw [if_pos c] at h
      rcases List.mem_cons.1 h with rfl | h
      · rfl
      · exact pcs_kinds m _ x h
    · rw [if_neg c] at h; cases h
/-! ### pieces -/
theorem tk_app {p S : List UInt8} (h : ∀ x ∈ p, wc x = true) : tk (p ++ S) = p.length + tk S := by
  induction p with
  | nil => simp
  | cons c p ih =>
    have hc : wc c = true := h c (List.mem_cons_self ..)
    have := ih (fun x hx => h x (List.mem_cons_of_mem _ hx))
    unfold tk at this ⊢
    rw [List.cons_append, List.takeWhile_cons_of_pos hc, List.length_cons, this, List.length_cons]; omega
theorem tk_cons0 {c : UInt8} {l : List UInt8} (h : wc c = false) : tk (c :: l) = 0 := by
  unfold tk; rw [List.takeWhile_cons_of_neg (by simp [h])]; rfl
theorem tk_cons1 {c : UInt8} {l : List UInt8} (h : wc c = true) : tk (c :: l) = tk l + 1 := by
  unfold tk; rw [List.takeWhile_cons_of_pos h, List.length_cons]
theorem tk_all : ∀ (l : List UInt8), ∀ x ∈ l.take (tk l), wc x = true
  | [], x, h => by simp [tk] at h
  | c :: l, x, h => by
    cases hc : wc c with
    | false => rw [tk_cons0 hc] at h; simp at h
    | true =>
      rw [tk_cons1 hc, List.take_succ_cons] at h
      rcases List.mem_cons.1 h with rfl | h
      · exact hc
      · exact tk_all l x h
theorem tk_drop0 : ∀ (l : List UInt8), tk (l.drop (tk l)) = 0
  | [] => rfl
  | c :: l => by
    cases hc : wc c with
    | false => rw [tk_cons0 hc, List.drop_zero, tk_cons0 hc]
    | true => rw [tk_cons1 hc, List.drop_succ_cons]; exact tk_drop0 l
theorem first_ok {c : UInt8} {r : List UInt8} (h : sk false (c :: r) = 0) (S : List UInt8) : sk false (c :: S) = 0 := by
  rw [sk_false] at h ⊢
  by_cases e : c = 59
  · rw [if_pos e] at h; omega
  · rw [if_neg e] at h ⊢
    by_cases d : Go.Proofs.YtgikmpgpccfiiaaT.blank c = true
    · rw [if_pos d] at h; omega
    · rw [if_neg d]
theorem piece_parse {r0 S : List UInt8} (hne : r0 ≠ []) (h0 : sk false r0 = 0) (hS : tk r0 > 0 → tk S = 0) :
    sk false (r0.take (max (tk r0) 1) ++ S) = 0 ∧ (r0.take (max (tk r0) 1)).length = max (tk (r0.take (max (tk r0) 1) ++ S)) 1 ∧ (tk r0 = 0 → tk (r0.take (max (tk r0) 1) ++ S) = 0) := by
  cases r0 with
  | nil => exact absurd rfl hne
  | cons c r =>
    cases hc : wc c with
    | false =>
      rw [tk_cons0 hc]
      have e : (c :: r).take (max 0 1) = [c] := rfl
      rw [e, List.cons_append, List.nil_append, tk_cons0 hc]
      exact ⟨first_ok h0 S, rfl, fun _ => rfl⟩
    | true =>
      have h1 := tk_cons1 (l := r) hc
      have hm : max (tk (c :: r)) 1 = tk (c :: r) := by omega
      rw [hm]
      have hall := tk_all (c :: r)
      have hlen : ((c :: r).take (tk (c :: r))).length = tk (c :: r) := by
        rw [List.length_take]; have := tk_le (c :: r); omega
      have ht := tk_app (S := S) hall
      rw [hS (by omega), hlen] at ht
      refine ⟨?_, by rw [ht, hlen]; omega, fun h => by omega⟩
      rw [h1, List.take_succ_cons, List.cons_append]
      exact first_ok h0 _
/-! ### what is put between -/
def gapsB : List ByteArray := [(⟨#[]⟩ : ByteArray), (⟨#[32]⟩ : ByteArray), (⟨#[10]⟩ : ByteArray), (⟨#[9, 13, 10]⟩ : ByteArray), (⟨#[59, 120, 10]⟩ : ByteArray), (⟨#[32, 59, 32, 40, 97, 10, 10]⟩ : ByteArray), (⟨#[59, 59, 10, 59, 10]⟩ : ByteArray)]
def gb (n : Nat) : ByteArray := rdOf ByteArray.empty gapsB (n : Int)
theorem seven {n : Nat} (h : n < 7) : bl (gb n) = [] ∧ n = 0 ∨ bl (gb n) = [32] ∨ bl (gb n) = [10] ∨ bl (gb n) = [9, 13, 10] ∨ bl (gb n) = [59, 120, 10] ∨ bl (gb n) = [32, 59, 32, 40, 97, 10, 10] ∨ bl (gb n) = [59, 59, 10, 59, 10] := by
  rcases (by omega : n = 0 ∨ n = 1 ∨ n = 2 ∨ n = 3 ∨ n = 4 ∨ n = 5 ∨ n = 6) with rfl | rfl | rfl | rfl | rfl | rfl | rfl
  · exact .inl ⟨rfl, rfl⟩
  · exact .inr (.inl rfl)
  · exact .inr (.inr (.inl rfl))
  · exact .inr (.inr (.inr (.inl rfl)))
  · exact .inr (.inr (.inr (.inr (.inl rfl))))
  · exact .inr (.inr (.inr (.inr (.inr (.inl rfl)))))
  · exact .inr (.inr (.inr (.inr (.inr (.inr rfl)))))
theorem gap_sk {n : Nat} (h : n < 7) (R : List UInt8) : sk false (bl (gb n) ++ R) = (bl (gb n)).length + sk false R := by
  have b1 : Go.Proofs.YtgikmpgpccfiiaaT.blank 32 = true := by decide
  have b2 : Go.Proofs.YtgikmpgpccfiiaaT.blank 10 = true := by decide
  have b3 : Go.Proofs.YtgikmpgpccfiiaaT.blank 9 = true := by decide
  have b4 : Go.Proofs.YtgikmpgpccfiiaaT.blank 13 = true := by decide
  rcases seven h with ⟨e, _⟩ | e | e | e | e | e | e <;> rw [e] <;>
    simp only [List.cons_append, List.nil_append, sk_false, sk_true, b1, b2, b3, b4, List.length_cons, List.length_nil, if_true, if_false, reduceIte, (by decide : ¬ (32 : UInt8) = 59), (by decide : ¬ (10 : UInt8) = 59), (by decide : ¬ (9 : UInt8) = 59), (by decide : ¬ (13 : UInt8) = 59), (by decide : ¬ (120 : UInt8) = 10), (by decide : ¬ (32 : UInt8) = 10), (by decide : ¬ (40 : UInt8) = 10), (by decide : ¬ (97 : UInt8) = 10), (by decide : ¬ (59 : UInt8) = 10)] <;> omega
theorem gap_tk {n : Nat} (h : n < 7) (h0 : n ≠ 0) (R : List UInt8) : tk (bl (gb n) ++ R) = 0 := by
  rcases seven h with ⟨e, e0⟩ | e | e | e | e | e | e
  · exact absurd e0 h0
  all_goals
    rw [e, List.cons_append]
    exact tk_cons0 (by decide)
theorem gap_len {n : Nat} (h : n < 7) : (bl (gb n)).length ≤ 7 := by
  rcases seven h with ⟨e, _⟩ | e | e | e | e | e | e <;> rw [e] <;> decide
def endB : ByteArray := ⟨#[59, 32, 116, 104, 101, 32, 101, 110, 100]⟩
theorem end_sk : sk false (bl endB) = 9 := by decide
theorem end_tk : tk (bl endB) = 0 := by decide
theorem w255 {w : List Int} (hwf : ∀ x ∈ w, 0 ≤ x ∧ x ≤ 255) (q : Nat) (hq : q < w.length) : ∃ n : Nat, n < 7 ∧ Int.tmod (wrap64 (rd w (q : Int))) (gapsB.length : Int) = (n : Int) := by
  have hv : rd w (q : Int) = w[q] := by
    unfold rd
    rw [Int.toNat_natCast, List.getD_eq_getElem?_getD, List.getElem?_eq_getElem hq]; rfl
  obtain ⟨h0, h1⟩ := hwf w[q] (List.getElem_mem hq)
  rw [hv]
  generalize w[q] = v at h0 h1
  have hw : wrap64 v = v := by unfold wrap64; omega
  have h7 : (gapsB.length : Int) = 7 := rfl
  rw [hw, h7, Int.tmod_eq_emod_of_nonneg h0]
  exact ⟨(v % 7).toNat, by omega, by omega⟩
theorem sameW_of : ∀ {x y : List S32}, x.map (fun z => bl z.f3) = y.map (fun z => bl z.f3) → (∀ z ∈ x, z.f0 = kindL (bl z.f3)) → (∀ z ∈ y, z.f0 = kindL (bl z.f3)) → sameW x y = true
  | [], [], _, _, _ => rfl
  | [], b :: y, h, _, _ => by cases h
  | a :: x, [], h, _, _ => by cases h
  | a :: x, b :: y, h, hx, hy => by
    rw [List.map_cons, List.map_cons] at h
    injection h with h1 h2
    have e : bl a.f3 = bl b.f3 := h1
    have ea := hx a (List.mem_cons_self ..)
    have eb := hy b (List.mem_cons_self ..)
    rw [sameW, sameW_of h2 (fun z hz => hx z (List.mem_cons_of_mem _ hz)) (fun z hz => hy z (List.mem_cons_of_mem _ hz)), Bool.and_true, ea, eb, e, beq_self_eq_true, Bool.true_and, bl_inj e]
    exact beq_self_eq_true _
/-- what is asked at the end -/
def Fin (X : List S32) (t : ByteArray) : Prop := Tells (fun k => (lex_Words.f k t).bind fun b => (if b.2.2 = 0 then ((lex_Same.f X b.1).bind fun t248 => (some t248)) else (none))) true
theorem bsz (a : ByteArray) : a.size = (bl a).length := bl_size a
theorem app_size (a b : ByteArray) : (a ++ b).size = a.size + b.size := by rw [bl_size, bl_append, List.length_append, ← bl_size, ← bl_size]
theorem parted_end {X : List S32} {w : List Int} (hw : 0 < w.length) (hwf : ∀ x ∈ w, 0 ≤ x ∧ x ≤ 255) {j frm : Nat} (hj : j = X.length) :
    ∃ S : List UInt8, Parses S ((X.drop j).map (fun x => bl x.f3)) ∧ tk S = 0 ∧ S.length ≤ 16 ∧
      ∀ (O t : ByteArray), bl t = bl O ++ S → O.size + S.length ≤ 1000000 → Fin X t → Tells (fun k => alidadelaw12_LexParted.l0 k w X gapsB O (frm : Int) (j : Int)) true := by
  obtain ⟨n, hn, en⟩ := w255 hwf 0 hw
  have hg := gap_len hn
  have hE : (bl endB).length = 9 := rfl
  refine ⟨bl (gb n) ++ bl endB, ?_, ?_, by rw [List.length_append]; omega, fun O t ht hz hf => ?_⟩
  · rw [hj, List.drop_length, List.map_nil]
    show sk false _ = _
    rw [gap_sk hn, end_sk, List.length_append, hE]
  · by_cases c : n = 0
    · rcases seven hn with ⟨e, _⟩ | e | e | e | e | e | e
      · rw [e, List.nil_append]; exact end_tk
      all_goals (rw [e, List.cons_append]; exact tk_cons0 (by decide))
    · exact gap_tk hn c _
  · rw [List.length_append] at hz
    have e1 : t = (O ++ gb n) ++ endB := bl_inj (by rw [ht, bl_append, bl_append, List.append_assoc])
    rw [e1] at hf
    have s1 := bl_size (gb n)
    have s2 := app_size O (gb n)
    refine Tells.step (fun k => (by rw [alidadelaw12_LexParted.l0])) (ino (by omega) (ip (by omega) (ino (by decide) ?_)))
    have en' : Int.tmod (wrap64 (rd w 0)) (gapsB.length : Int) = (n : Int) := en
    rw [en']
    have h7 : (gapsB.length : Int) = 7 := rfl
    have hgb : rdOf ByteArray.empty gapsB (n : Int) = gb n := rfl
    rw [hgb]
    exact ip (by omega) (ip (by omega) (ip (by omega) (ip (by omega) hf)))
set_option maxHeartbeats 4000000 in
theorem parted_l0 {s : ByteArray} (hs : s.size ≤ 3000) {X : List S32} (hX : X.length ≤ 3000) {w : List Int} (hw : 0 < w.length) (hwf : ∀ x ∈ w, 0 ≤ x ∧ x ≤ 255) :
    ∀ (m n j frm : Nat) (pw : Bool), s.size - n ≤ m → n ≤ s.size → n = frm + sk false ((bl s).drop frm) → X.drop j = pcs s m n → j ≤ X.length → (pw = true → 0 < j ∧ tk ((bl s).drop frm) = 0) →
    ∃ S : List UInt8, Parses S ((X.drop j).map (fun x => bl x.f3)) ∧ (pw = true → tk S = 0) ∧ S.length ≤ 7 * (X.length - j) + (s.size - n) + 16 ∧
      ∀ (O t : ByteArray), bl t = bl O ++ S → O.size + S.length ≤ 1000000 → Fin X t → Tells (fun k => alidadelaw12_LexParted.l0 k w X gapsB O (frm : Int) (j : Int)) true := by
  intro m
  induction m with
  | zero =>
    intro n j frm pw hm hn hf hd hj hpw
    have hl := congrArg List.length hd
    rw [List.length_drop] at hl
    have hl2 : X.length - j = 0 := hl
    obtain ⟨S, h1, h2, h3, h4⟩ := parted_end (X := X) (frm := frm) hw hwf (j := j) (by omega)
    exact ⟨S, h1, fun _ => h2, by omega, h4⟩
  | succ m ih =>
    intro n j frm pw hm hn hf hd hj hpw
    by_cases c : n < s.size
    · have h1 := pend_le c
      have h2 := next_le (s := s) (n := pend s n) h1.2
      obtain ⟨x, hx⟩ : ∃ x : S32, x = ⟨kindL (bl (s.extract n (pend s n))), (n : Int), ((pend s n : Nat) : Int), s.extract n (pend s n)⟩ := ⟨_, rfl⟩
      rw [pcs, if_pos c, ← hx] at hd
      have hjl : j < X.length := by
        rcases Nat.lt_or_ge j X.length with h | h
        · exact h
        · rw [List.drop_eq_nil_of_le h] at hd; cases hd
      have hxj : X[j] = x ∧ X.drop (j + 1) = pcs s m (pend s n + sk false ((bl s).drop (pend s n))) := by
        rw [List.drop_eq_getElem_cons hjl] at hd
        injection hd with e1 e2
        exact ⟨e1, e2⟩
      have hr : rd_T32 X (j : Int) = x := by
        unfold rd_T32
        rw [Int.toNat_natCast, List.getD_eq_getElem?_getD, List.getElem?_eq_getElem hjl, hxj.1]; rfl
      have f1 : x.f1 = (n : Int) := by rw [hx]
      have f2 : x.f2 = ((pend s n : Nat) : Int) := by rw [hx]
      have f3 : x.f3 = s.extract n (pend s n) := by rw [hx]
      obtain ⟨r0, hr0⟩ : ∃ r0, r0 = (bl s).drop n := ⟨_, rfl⟩
      have hr0l : r0.length = s.size - n := by rw [hr0, List.length_drop, ← bl_size]
      have hne : r0 ≠ [] := by
        intro e
        rw [e] at hr0l
        simp at hr0l
        omega
      have h0 : sk false r0 = 0 := by
        have := sk_drop ((bl s).drop frm) false
        rw [List.drop_drop, ← hf, ← hr0] at this
        exact this
      have hpe : pend s n = n + max (tk r0) 1 := by unfold pend; rw [← hr0]; omega
      have hp : bl x.f3 = r0.take (max (tk r0) 1) := by
        rw [f3, bl_extract, ← hr0, hpe, Nat.add_sub_cancel_left]
      obtain ⟨S, i1, i2, i3, i4⟩ := ih (pend s n + sk false ((bl s).drop (pend s n))) (j + 1) (pend s n) (decide (tk r0 > 0)) (by omega) h2 rfl hxj.2 (by omega) (fun h => by
        have h' := of_decide_eq_true h
        refine ⟨by omega, ?_⟩
        have := tk_drop0 r0
        rw [hr0, List.drop_drop, ← hr0] at this
        rw [hpe, show max (tk r0) 1 = tk r0 by omega]
        exact this)
      obtain ⟨p1, p2, p3⟩ := piece_parse (S := S) hne h0 (fun h => i2 (decide_eq_true h))
      rw [← hp] at p1 p2 p3
      have hqlt : j % w.length < w.length := Nat.mod_lt _ hw
      obtain ⟨κ, hκ, eκ0⟩ := w255 hwf (j % w.length) hqlt
      have eκ := Aside0.mk eκ0
      clear eκ0
      have eq1 : Aside0 (Int.tmod (j : Int) (w.length : Int) = ((j % w.length : Nat) : Int)) := Aside0.mk (by rw [Int.tmod_eq_emod_of_nonneg (by omega)]; rfl)
      obtain ⟨τ, hτ⟩ : ∃ τ, τ = if κ = 0 ∧ n > frm ∧ j > 0 then 1 else κ := ⟨_, rfl⟩
      have hτ7 : τ < 7 := by rw [hτ]; split <;> omega
      have hfn : frm ≤ n := by omega
      have hgl := gap_len hτ7
      have hsz3 : (bl x.f3).length = pend s n - n := by rw [← bl_size, f3, ex_size s h1.2]
      refine ⟨bl (gb τ) ++ (bl x.f3 ++ S), ?_, ?_, ?_, fun O t ht hz hfin => ?_⟩
      · rw [List.drop_eq_getElem_cons hjl, hxj.1, List.map_cons]
        exact ⟨bl (gb τ), S, rfl, by rw [gap_sk hτ7, p1, Nat.add_zero], p2, i1⟩
      · intro hp1
        obtain ⟨k1, k2⟩ := hpw hp1
        by_cases e : τ = 0
        · have hno : ¬ (κ = 0 ∧ n > frm ∧ j > 0) := by
            intro h; rw [if_pos h] at hτ; omega
          rw [if_neg hno] at hτ
          have hnf : n = frm := by
            rcases Nat.lt_or_ge frm n with h | h
            · exact absurd ⟨by omega, h, k1⟩ hno
            · omega
          rw [← hnf, ← hr0] at k2
          rcases seven hτ7 with ⟨g, _⟩ | g | g | g | g | g | g
          · rw [g, List.nil_append]; exact p3 k2
          all_goals (rw [g, List.cons_append]; exact tk_cons0 (by decide))
        · exact gap_tk hτ7 e _
      · rw [List.length_append, List.length_append, hsz3]
        omega
      · rw [List.length_append, List.length_append] at hz
        have s1 := bl_size (gb τ)
        have s2 := app_size O (gb τ)
        have s3 := app_size (O ++ gb τ) x.f3
        have s4 := bl_size x.f3
        have hn2 := i4 ((O ++ gb τ) ++ x.f3) t (by rw [ht, bl_append, bl_append, List.append_assoc, List.append_assoc]) (by omega) hfin
        have h7 : (gapsB.length : Int) = 7 := rfl
        have hj2 : Aside0 (wrap64 ((j : Int) + 1) = ((j + 1 : Nat) : Int)) := Aside0.mk (w1 (by omega))
        refine Tells.step (fun k => (by rw [alidadelaw12_LexParted.l0, eq1.out, eκ.out, hr, f1, f2, hj2.out])) (ip (by omega) (ino (by omega) (ip (by omega) (ip (by omega) (ino (by decide) ?_)))))
        have hgk : rdOf ByteArray.empty gapsB (κ : Int) = gb κ := rfl
        have hg1 : rdOf ByteArray.empty gapsB 1 = gb 1 := rfl
        rw [hgk, hg1]
        by_cases c0 : κ = 0
        · refine ip (by omega) (ip (by omega) ?_)
          by_cases c1 : n > frm
          · refine ip (by omega) ?_
            by_cases c2 : j > 0
            · rw [if_pos ⟨c0, c1, c2⟩] at hτ
              rw [hτ] at hn2 s1 s2 s3 hz
              exact ip (by omega) (ip (by omega) (ip (by omega) (ip (by omega) hn2)))
            · rw [if_neg (fun h => c2 h.2.2)] at hτ
              rw [hτ] at hn2 s1 s2 s3 hz
              exact ino (by omega) (ip (by omega) (ip (by omega) (ip (by omega) (ip (by omega) hn2))))
          · rw [if_neg (fun h => c1 h.2.1)] at hτ
            rw [hτ] at hn2 s1 s2 s3 hz
            exact ino (by omega) (ip (by omega) (ip (by omega) (ip (by omega) (ip (by omega) hn2))))
        · rw [if_neg (fun h => c0 h.1)] at hτ
          rw [hτ] at hn2 s1 s2 s3 hz
          exact ino (by omega) (ip (by omega) (ip (by omega) (ip (by omega) (ip (by omega) (ip (by omega) hn2)))))
    · have hd2 : X.drop j = [] := by rw [hd, pcs, if_neg c]
      have hl := congrArg List.length hd2
      rw [List.length_drop] at hl
      have hl2 : X.length - j = 0 := hl
      obtain ⟨S, h1, h2, h3, h4⟩ := parted_end (X := X) (frm := frm) hw hwf (j := j) (by omega)
      exact ⟨S, h1, fun _ => h2, by omega, h4⟩
theorem LexParted : alidadelaw12_LexParted.Pure := by
  intro s w h0 hm hl hwf
  refine Tells.ex (f := fun k => alidadelaw12_LexParted.f k s w) ?_
  unfold alidadelaw12_LexParted.f
  have hT : Tells (fun k => alidadelaw12_LexParted.j0 k s w true) true := Tells.step (fun k => (by rw [alidadelaw12_LexParted.j0])) (ip rfl (Tells.bind works_tells (Tells.const _)))
  refine Tells.bind works_tells (ip rfl ?_)
  by_cases c0 : s.size > 3000
  · exact ip (by omega) hT
  refine ino (by omega) ?_
  by_cases c1 : w.length > 3000
  · exact ip (by omega) hT
  refine ino (by omega) ?_
  by_cases c2 : w.length = 0
  · have e : ((w.length : Int) == 0) = true := by rw [c2]; rfl
    rw [e]; exact hT
  have e : ((w.length : Int) == 0) = false := beq_eq_false_iff_ne.mpr (by omega)
  rw [e]
  refine Tells.step (fun k => (by rw [alidadelaw12_LexParted.j0])) (ino (by decide) ?_)
  have hw255 : ∀ x ∈ w, 0 ≤ x ∧ x ≤ 255 := fun x hx => by
    have := hwf x hx
    simp only [Lit.wf] at this
    simp at this
    have m0 : IntKind.u8.min = 0 := rfl
    have m1 : IntKind.u8.max = 255 := rfl
    omega
  have hg := sk_le (bl s) false
  rw [← bl_size] at hg
  have hlen := pcs_len s s.size (sk false (bl s))
  cases hf : (pcs s s.size (sk false (bl s))).find? (fun x => x.f0 == 0) with
  | some x =>
    have hwd := words_tells h0
    rw [if_neg (by omega)] at hwd
    unfold lex_resL at hwd
    rw [hf] at hwd
    replace hwd : Tells (fun k => lex_Words.f k s) (([], x.f1, 4) : List S32 × Int × Int) := hwd
    exact Tells.bind hwd (ino (show ¬ ((4 : Int) = 0) by decide) (Tells.const _))
  | none =>
    refine Tells.bind (ok_words (by omega) hf) (ip rfl ?_)
    obtain ⟨S, i1, _, i3, i4⟩ := parted_l0 (s := s) (by omega) (X := pcs s s.size (sk false (bl s))) (by omega) (w := w) (by omega) hw255 s.size (sk false (bl s)) 0 0 false (by omega) hg (by rw [List.drop_zero]; omega) rfl (Nat.zero_le _) (fun h => by cases h)
    rw [List.drop_zero] at i1
    obtain ⟨t, ht⟩ : ∃ t : ByteArray, bl t = S := ⟨⟨S.toArray⟩, by unfold bl; simp⟩
    have htl : t.size = S.length := by rw [bl_size, ht]
    have hts : t.size ≤ 65536 := by omega
    have hpc := parses_pcs (t := t) _ S 0 t.size i1 (by rw [List.drop_zero, ht]) (Nat.zero_le _) (by omega)
    rw [Nat.zero_add, ← ht] at hpc
    have hsame := sameW_of hpc.symm (fun z hz => pcs_kinds _ _ z hz) (fun z hz => pcs_kinds _ _ z hz)
    have hnone : (pcs t t.size (sk false (bl t))).find? (fun x => x.f0 == 0) = none := by
      rw [List.find?_eq_none]
      intro y hy e
      have ey := pcs_kinds _ _ y hy
      have hm : bl y.f3 ∈ (pcs t t.size (sk false (bl t))).map (fun x => bl x.f3) := List.mem_map.2 ⟨y, hy, rfl⟩
      rw [hpc] at hm
      obtain ⟨x, hx, ex⟩ := List.mem_map.1 hm
      have ex0 := pcs_kinds _ _ x hx
      have := List.find?_eq_none.1 hf x hx
      rw [ex0, ex, ← ey] at this
      exact this e
    have hfin : Fin (pcs s s.size (sk false (bl s))) t := by
      unfold Fin
      refine Tells.bind (ok_words hts hnone) (ip rfl ?_)
      refine Tells.of (fun k => (by rw [lex_Same.f, hsame, Option.bind_some])) (Tells.const _)
    exact i4 ByteArray.empty t (by rw [ht]; rfl) (by have : ByteArray.empty.size = 0 := rfl; omega) hfin
end Go.Proofs.Ytgikmpgpccfiiaa.Pure
