/- Texts that are cut: what parts words in them, and their pieces. -/
import Derived.Test.YtgikmpgpccfiiaaLexText
import Derived.Test.YtgikmpgpccfiiaaPLexx24
import Derived.KernelRfl
namespace Go.Proofs.YtgikmpgpccfiiaaT
open Go.RowKit Go.Proofs.Ytgikmpgpccfiiaa.PLex Go.Proofs.YtgikmpgpccfiiaaW.PrintWords Go.Proofs.YtgikmpgpccfiiaaW.PrintLast
set_option linter.unusedVariables false
theorem works_ok : alidadelaw12_works.f 30 = some true := by kernel_rfl
theorem works_tells : Tells (fun k => alidadelaw12_works.f k) true := Tells.fixed 30 alidadelaw12_works.mono works_ok
theorem sk_true (c : UInt8) (l : List UInt8) : sk true (c :: l) = if c = 10 then 1 + sk false l else 1 + sk true l := rfl
theorem sk_false (c : UInt8) (l : List UInt8) : sk false (c :: l) = if c = 59 then 1 + sk true l else if blank c then 1 + sk false l else 0 := rfl
theorem sk_nil (b : Bool) : sk b [] = 0 := by cases b <;> rfl
theorem sk_take : ∀ (l : List UInt8) (b : Bool) (m : Nat), sk b (l.take m) = min (sk b l) m
  | [], b, m => by simp [sk_nil]
  | c :: l, b, 0 => by simp [sk_nil]
  | c :: l, true, m + 1 => by
    rw [List.take_succ_cons, sk_true, sk_true, sk_take l true m, sk_take l false m]
    split <;> omega
  | c :: l, false, m + 1 => by
    rw [List.take_succ_cons, sk_false, sk_false, sk_take l true m, sk_take l false m]
    split
    · omega
    · split <;> omega
theorem sk_drop : ∀ (l : List UInt8) (b : Bool), sk false (l.drop (sk b l)) = 0
  | [], b => by simp [sk_nil]
  | c :: l, true => by
    rw [sk_true]
    by_cases e : c = 10
    · rw [if_pos e, Nat.add_comm, List.drop_succ_cons]; exact sk_drop l false
    · rw [if_neg e, Nat.add_comm, List.drop_succ_cons]; exact sk_drop l true
  | c :: l, false => by
    rw [sk_false]
    by_cases e : c = 59
    · rw [if_pos e, Nat.add_comm, List.drop_succ_cons]; exact sk_drop l true
    · rw [if_neg e]
      by_cases d : blank c = true
      · rw [if_pos d, Nat.add_comm, List.drop_succ_cons]; exact sk_drop l false
      · rw [if_neg d, List.drop_zero, sk_false, if_neg e, if_neg d]
theorem tk_take : ∀ (l : List UInt8) (m : Nat), tk (l.take m) = min (tk l) m
  | [], m => by simp [tk]
  | c :: l, 0 => by simp [tk]
  | c :: l, m + 1 => by
    have ih := tk_take l m
    unfold tk at ih ⊢
    rw [List.take_succ_cons]
    cases h : wc c with
    | true => rw [List.takeWhile_cons_of_pos h, List.takeWhile_cons_of_pos h, List.length_cons, List.length_cons, ih]; omega
    | false => rw [List.takeWhile_cons_of_neg (by simp [h]), List.takeWhile_cons_of_neg (by simp [h])]; simp
theorem ex_size (s : ByteArray) {a b : Nat} (h : b ≤ s.size) : (s.extract a b).size = b - a := by
  rw [bl_size, bl_extract]
  simp only [List.length_take, List.length_drop]
  rw [← bl_size]; omega
theorem pcs_end {s : ByteArray} {m n : Nat} (h : s.size ≤ n) : pcs s m n = [] := by
  cases m with
  | zero => rfl
  | succ m => rw [pcs, if_neg (by omega)]
theorem parts_true {t : ByteArray} (ht : t.size ≤ 65536) (h : sk false (bl t) = t.size) : Tells (fun k => alidadelaw12_parts.f k t) true := by
  unfold alidadelaw12_parts.f
  have hw := words_tells (s := t) (by omega)
  rw [if_neg (by omega), h, pcs_end (Nat.le_refl _)] at hw
  refine Tells.bind hw ?_
  exact Tells.of (fun k => (if_pos rfl)) (Tells.const true)
/-- What stands from a place on to the next piece parts words. -/
theorem gap_parts {s : ByteArray} (hs : s.size ≤ 65536) {a b : Nat} (hb : b ≤ s.size) (h : b = a + sk false ((bl s).drop a)) : Tells (fun k => alidadelaw12_parts.f k (s.extract a b)) true := by
  refine parts_true (by rw [ex_size s hb]; omega) ?_
  rw [ex_size s hb, bl_extract, sk_take]
  omega
theorem drop_take' (l : List UInt8) (a n : Nat) : (l.take a).drop n = (l.drop n).take (a - n) := by rw [List.drop_take]
/-- Up to its first wrong piece a text has the pieces of its beginning. -/
theorem pcs_prefix {s : ByteArray} : ∀ (m n : Nat) (x : S32), s.size - n ≤ m → n ≤ s.size → sk false ((bl s).drop n) = 0 → (pcs s m n).find? (fun x => x.f0 == 0) = some x →
    ∃ a : Nat, x.f1 = (a : Int) ∧ n ≤ a ∧ a < s.size ∧ sk false ((bl s).drop a) = 0 ∧ kindL (bl (s.extract a (pend s a))) = 0 ∧ ∀ M, a - n ≤ M → (pcs (s.extract 0 a) M n).find? (fun x => x.f0 == 0) = none := by
  intro m
  induction m with
  | zero => intro n x _ _ _ h; cases h
  | succ m ih =>
    intro n x hm hn h0 h
    by_cases c : n < s.size
    · have h1 := pend_le c
      have h2 := next_le (s := s) (n := pend s n) h1.2
      rw [pcs, if_pos c] at h
      by_cases e : kindL (bl (s.extract n (pend s n))) = 0
      · rw [List.find?_cons_of_pos (by simp [e])] at h
        have hx := Option.some.inj h
        refine ⟨n, by rw [← hx], Nat.le_refl _, c, h0, e, fun M _ => ?_⟩
        rw [pcs_end (by rw [ex_size s hn]; omega)]
        rfl
      · rw [List.find?_cons_of_neg (by simp [e])] at h
        obtain ⟨a, g1, g2, g3, g4, g5, g6⟩ := ih _ x (by omega) h2 (by rw [← List.drop_drop]; exact sk_drop _ _) h
        refine ⟨a, g1, by omega, g3, g4, g5, fun M hM => ?_⟩
        obtain ⟨M, rfl⟩ : ∃ M', M = M' + 1 := ⟨M - 1, by omega⟩
        have hsz : (s.extract 0 a).size = a := by rw [ex_size s (by omega)]; omega
        have hbl : bl (s.extract 0 a) = (bl s).take a := by rw [bl_extract, List.drop_zero, Nat.sub_zero]
        have hpe : pend (s.extract 0 a) n = pend s n := by
          have h5 : pend s n ≤ a := by omega
          unfold pend at h5 ⊢
          rw [hbl, drop_take', tk_take]
          omega
        have htx : (s.extract 0 a).extract n (pend s n) = s.extract n (pend s n) := by
          apply bl_inj
          rw [bl_extract, hbl, drop_take', List.take_take, bl_extract]
          congr 1
          omega
        have hsk : sk false ((bl (s.extract 0 a)).drop (pend s n)) = sk false ((bl s).drop (pend s n)) := by
          rw [hbl, drop_take', sk_take]
          omega
        rw [pcs, if_pos (by rw [hsz]; omega), hpe, htx, hsk, List.find?_cons_of_neg (by simp [e])]
        exact g6 M (by omega)
    · rw [pcs, if_neg c] at h
      cases h
theorem ok_words {t : ByteArray} (ht : t.size ≤ 65536) (h : (pcs t t.size (sk false (bl t))).find? (fun x => x.f0 == 0) = none) : Tells (fun k => lex_Words.f k t) (pcs t t.size (sk false (bl t)), 0, 0) := by
  have hw := words_tells (s := t) (by omega)
  rw [if_neg (by omega)] at hw
  unfold lex_resL at hw
  rw [h] at hw
  exact hw
/-- From its first wrong piece on a text is wrong at once. -/
theorem bad_words {s : ByteArray} (hs : s.size ≤ 65536) {a : Nat} (ha : a < s.size) (h0 : sk false ((bl s).drop a) = 0) (hk : kindL (bl (s.extract a (pend s a))) = 0) : Tells (fun k => lex_Words.f k (s.extract a s.size)) ([], 0, 4) := by
  have hsz : (s.extract a s.size).size = s.size - a := ex_size s (Nat.le_refl _)
  have hbl : bl (s.extract a s.size) = (bl s).drop a := by
    rw [bl_extract]
    exact List.take_of_length_le (by rw [List.length_drop, ← bl_size]; omega)
  have hw := words_tells (s := s.extract a s.size) (by omega)
  rw [if_neg (by omega), hbl, h0, hsz] at hw
  obtain ⟨m, hm⟩ : ∃ m, s.size - a = m + 1 := ⟨s.size - a - 1, by omega⟩
  have hpe : pend (s.extract a s.size) 0 = pend s a - a := by
    unfold pend
    rw [hbl, List.drop_zero]
    omega
  have h1 := pend_le (s := s) ha
  have htx : (s.extract a s.size).extract 0 (pend s a - a) = s.extract a (pend s a) := by
    apply bl_inj
    rw [bl_extract, hbl, List.drop_zero, Nat.sub_zero, bl_extract]
  rw [hm, pcs, if_pos (by omega), hpe, htx] at hw
  unfold lex_resL at hw
  rw [List.find?_cons_of_pos (by simp [hk])] at hw
  exact hw
end Go.Proofs.YtgikmpgpccfiiaaT
