/- LexNames: the closed statement of lex. -/
import Derived.Test.YtgikmpgpccfiiaaLexCut
import Derived.Test.YtgikmpgpccfiiaaPLexx31
namespace Go.Proofs.Ytgikmpgpccfiiaa.Pure
open Go.RowKit Go.Proofs.Ytgikmpgpccfiiaa.PLex Go.Proofs.YtgikmpgpccfiiaaW.PrintWords Go.Proofs.YtgikmpgpccfiiaaW.PrintLast Go.Proofs.YtgikmpgpccfiiaaT
set_option linter.unusedVariables false
section
variable {β : Type} {r : β}
theorem ip {c : Prop} [Decidable c] {f g : Nat → Option β} (hc : c) (h : Tells f r) : Tells (fun k => if c then f k else g k) r := by
  obtain ⟨n, hn⟩ := h
  exact ⟨n, fun k hk => by
    show (if c then f k else g k) = some r
    rw [if_pos hc]; exact hn k hk⟩
theorem ino {c : Prop} [Decidable c] {f g : Nat → Option β} (hc : ¬ c) (h : Tells g r) : Tells (fun k => if c then f k else g k) r := by
  obtain ⟨n, hn⟩ := h
  exact ⟨n, fun k hk => by
    show (if c then f k else g k) = some r
    rw [if_neg hc]; exact hn k hk⟩
end
def mk (l : List UInt8) : ByteArray := ⟨l.toArray⟩
theorem bl_mk (l : List UInt8) : bl (mk l) = l := rfl
theorem mk_size (l : List UInt8) : (mk l).size = l.length := by rw [bl_size, bl_mk]
theorem bl_app (a b : ByteArray) : bl (a ++ b) = bl a ++ bl b := by
  unfold bl
  rw [ByteArray.data_append, Array.toList_append]
theorem mk_app (l : List UInt8) (s : ByteArray) : mk l ++ s = mk (l ++ bl s) := bl_inj (by rw [bl_app, bl_mk, bl_mk])
def rep (l : List UInt8) : Nat → List UInt8
  | 0 => []
  | n + 1 => l ++ rep l n
theorem rep_len (l : List UInt8) : ∀ n, (rep l n).length = n * l.length
  | 0 => by rw [Nat.zero_mul]; rfl
  | n + 1 => by rw [rep, List.length_append, rep_len l n, Nat.succ_mul, Nat.add_comm]
theorem rep_mem {l : List UInt8} {x : UInt8} : ∀ {n}, x ∈ rep l n → x ∈ l
  | 0, h => by cases h
  | n + 1, h => by
    rcases List.mem_append.1 h with h | h
    · exact h
    · exact rep_mem h
theorem sk_blanks : ∀ (l : List UInt8), (∀ x ∈ l, x = 32) → sk false l = l.length
  | [], _ => rfl
  | c :: l, h => by
    have e : c = 32 := h c (List.mem_cons_self ..)
    subst e
    rw [sk_false, if_neg (by decide), if_pos (by decide), sk_blanks l (fun x hx => h x (List.mem_cons_of_mem _ hx)), List.length_cons]
    omega
theorem copies_tells (s : ByteArray) (n : Nat) (hn : n ≤ 1000000) (h : n * s.size ≤ 1000000) : Tells (fun k => alidadelaw12_copies.f k s (n : Int)) (mk (rep (bl s) n)) := by
  have key : ∀ (m j : Nat) (acc : List UInt8), j + m = n → acc.length + m * s.size ≤ 1000000 → Tells (fun k => alidadelaw12_copies.l0 k s (n : Int) (mk acc) (j : Int)) (mk (acc ++ rep (bl s) m)) := by
    intro m
    induction m with
    | zero =>
      intro j acc hj _
      rw [rep, List.append_nil]
      refine Tells.step (fun k => (by rw [alidadelaw12_copies.l0])) (ino (by omega) (Tells.const _))
    | succ m ih =>
      intro j acc hj hl
      have e := ih (j + 1) (acc ++ bl s) (by omega) (by rw [List.length_append, ← bl_size]; rw [Nat.succ_mul] at hl; omega)
      rw [List.append_assoc] at e
      have hw : wrap64 ((j : Int) + 1) = ((j + 1 : Nat) : Int) := w1 (by omega)
      have hs : (mk acc).size = acc.length := mk_size acc
      rw [Nat.succ_mul] at hl
      refine Tells.step (fun k => (by rw [alidadelaw12_copies.l0, hw, mk_app])) (ip (by omega) (ip (by omega) e))
  exact key n 0 [] (Nat.zero_add _) (by rw [List.length_nil]; omega)
/-! ### the texts' kinds -/
def okX (x : S40) : Bool := (kindL (bl x.f0) == x.f1) && decide (x.f0.size ≤ 100000)
theorem l0_tells {r : Bool} (X : List S40) (h : X.all okX = true) (hl : X.length ≤ 1000)
    (hr : Tells (fun k => alidadelaw12_LexNames.l1 k [126, 33, 64, 36, 37, 94, 38, 42, 95, 45, 43, 61, 60, 62, 46, 63, 47, 97, 122, 65, 90] 21 0) r) :
    ∀ (m j : Nat), j + m = X.length → Tells (fun k => alidadelaw12_LexNames.l0 k X (X.length : Int) (j : Int)) r := by
  intro m
  induction m with
  | zero =>
    intro j hj
    refine Tells.step (fun k => (by rw [alidadelaw12_LexNames.l0])) (ino (by omega) ?_)
    exact hr
  | succ m ih =>
    intro j hj
    have hjl : j < X.length := by omega
    have hx : rd_T40 X (j : Int) = X[j] := by
      unfold rd_T40
      rw [Int.toNat_natCast, List.getD_eq_getElem?_getD, List.getElem?_eq_getElem hjl]; rfl
    have ho := List.all_eq_true.1 h X[j] (List.getElem_mem hjl)
    unfold okX at ho
    rw [Bool.and_eq_true] at ho
    have hk := kind_tells (s := X[j].f0) (by have := of_decide_eq_true ho.2; omega)
    rw [eq_of_beq ho.1] at hk
    have hw : wrap64 ((j : Int) + 1) = ((j + 1 : Nat) : Int) := w1 (by omega)
    refine Tells.step (fun k => (by rw [alidadelaw12_LexNames.l0, hx, hw])) (ip (by omega) (ip (by omega) (ip (by omega) (Tells.bind hk (ip rfl (ih (j + 1) (by omega)))))))
def X1 : List Int := [126, 33, 64, 36, 37, 94, 38, 42, 95, 45, 43, 61, 60, 62, 46, 63, 47, 97, 122, 65, 90]
theorem x1_kinds : ∀ j : Fin 21, lex_Kind.f 30 (strOfNums ([rd X1 (j.val : Int)] : List Int)) = some 5 := by decide +kernel
theorem l1_tells {r : Bool} (hr : Tells (fun k => alidadelaw12_LexNames.l2 k [34, 35, 39, 44, 58, 59, 91, 92, 93, 123, 124, 125, 96, 0, 127, 128, 255, 11, 12] 19 0) r) :
    ∀ (m j : Nat), j + m = 21 → Tells (fun k => alidadelaw12_LexNames.l1 k X1 21 (j : Int)) r := by
  intro m
  induction m with
  | zero =>
    intro j hj
    refine Tells.step (fun k => (by rw [alidadelaw12_LexNames.l1])) (ino (by omega) ?_)
    exact hr
  | succ m ih =>
    intro j hj
    have hl : X1.length = 21 := rfl
    have hk : Tells (fun k => lex_Kind.f k (strOfNums ([rd X1 (j : Int)] : List Int))) 5 := Tells.fixed 30 (fun k => lex_Kind.mono _ k) (x1_kinds ⟨j, by omega⟩)
    have hw : wrap64 ((j : Int) + 1) = ((j + 1 : Nat) : Int) := w1 (by omega)
    refine Tells.step (fun k => (by rw [alidadelaw12_LexNames.l1, hw])) (ip (by omega) (ip (by omega) (ip (by omega) (Tells.bind hk (ip rfl (ih (j + 1) (by omega)))))))
def X2 : List Int := [34, 35, 39, 44, 58, 59, 91, 92, 93, 123, 124, 125, 96, 0, 127, 128, 255, 11, 12]
theorem x2_kinds : ∀ j : Fin 19, lex_Kind.f 30 (strOfNums ([rd X2 (j.val : Int)] : List Int)) = some 0 := by decide +kernel
theorem x2_wrongs : ∀ j : Fin 19, rd X2 (j.val : Int) = 59 ∨ alidadelaw12_wrong.f 30 ((⟨#[32]⟩ : ByteArray) ++ strOfNums ([rd X2 (j.val : Int)] : List Int)) = some 1 := by decide +kernel
theorem x2_sizes : ∀ j : Fin 19, (strOfNums ([rd X2 (j.val : Int)] : List Int)).size = 1 := by decide +kernel
theorem wrong_at {s : ByteArray} {v : Int} (n : Nat) (h : alidadelaw12_wrong.f n s = some v) : Tells (fun k => alidadelaw12_wrong.f k s) v := Tells.fixed n (fun k => alidadelaw12_wrong.mono _ k) h
theorem join_at {l : List S32} {v : ByteArray} (n : Nat) (h : lex_Join.f n l = some v) : Tells (fun k => lex_Join.f k l) v := Tells.fixed n (fun k => lex_Join.mono _ k) h
theorem j3_tells : Tells (fun k => alidadelaw12_LexNames.j3 k false) true := by
  refine Tells.step (fun k => (by rw [alidadelaw12_LexNames.j3])) (ino (by decide) ?_)
  refine Tells.bind (ok_words (t := ⟨#[97, 40, 98, 41, 99]⟩) (by decide) (by kernel_rfl)) ?_
  have hs1 : ((⟨#[32]⟩ : ByteArray)).size = 1 := rfl
  have c1 := copies_tells (⟨#[32]⟩ : ByteArray) 256 (by omega) (by omega)
  refine Tells.bind c1 ?_
  obtain ⟨R, hR⟩ : ∃ R, R = rep (bl (⟨#[32]⟩ : ByteArray)) 256 := ⟨_, rfl⟩
  rw [← hR]
  have hRl : R.length = 256 := by
    rw [hR, rep_len]; rfl
  have hR32 : ∀ x ∈ R, x = 32 := fun x hx => by
    rw [hR] at hx
    exact List.mem_singleton.1 (rep_mem hx)
  have c2 := copies_tells (mk R) 256 (by omega) (by rw [mk_size]; omega)
  refine Tells.bind c2 ?_
  rw [bl_mk]
  obtain ⟨M, hM⟩ : ∃ M, M = mk (rep R 256) := ⟨_, rfl⟩
  rw [← hM]
  have hMl : M.size = 65536 := by rw [hM, mk_size, rep_len]; omega
  have hM32 : sk false (bl M) = M.size := by
    rw [bl_size, hM, bl_mk]
    exact sk_blanks _ (fun x hx => hR32 x (rep_mem hx))
  have hp : pcs M M.size (sk false (bl M)) = [] := pcs_end (by omega)
  have w1_ := ok_words (t := M) (by omega) (by rw [hp]; rfl)
  rw [hp] at w1_
  refine Tells.bind w1_ (ip (by omega) ?_)
  have hM2 : (M ++ (⟨#[32]⟩ : ByteArray)).size = 65537 := by rw [bl_size, bl_app, List.length_append, ← bl_size, ← bl_size]; omega
  have w2_ := words_tells (s := M ++ (⟨#[32]⟩ : ByteArray)) (by omega)
  rw [if_pos (by omega)] at w2_
  refine Tells.bind w2_ (ip (by kernel_rfl) (ip rfl (ip rfl (ip rfl (ip rfl (ip rfl (ip rfl ?_)))))))
  refine Tells.bind (join_at 30 (v := ⟨#[]⟩) (by kernel_rfl)) (ip (by rw [bl_toList]; rfl) ?_)
  refine Tells.bind (join_at 30 (v := ⟨#[]⟩) (by kernel_rfl)) (ip (by rw [bl_toList]; rfl) ?_)
  refine Tells.bind (join_at 30 (v := ⟨#[]⟩) (by kernel_rfl)) (ip (by rw [bl_toList]; rfl) ?_)
  refine Tells.bind (join_at 30 (v := ⟨#[40, 32, 41]⟩) (by kernel_rfl)) ?_
  exact Tells.of (fun k => (by rw [bl_toList]; rfl)) (Tells.const _)
theorem l2_tells : ∀ (m j : Nat), j + m = 19 → Tells (fun k => alidadelaw12_LexNames.l2 k X2 19 (j : Int)) true := by
  intro m
  induction m with
  | zero =>
    intro j hj
    refine Tells.step (fun k => (by rw [alidadelaw12_LexNames.l2])) (ino (by omega) ?_)
    refine Tells.bind (wrong_at 30 (v := -1) (by kernel_rfl)) (ip rfl ?_)
    refine Tells.bind (wrong_at 30 (v := -1) (by kernel_rfl)) (ip rfl ?_)
    refine Tells.bind (wrong_at 30 (v := -1) (by kernel_rfl)) (ip rfl ?_)
    refine Tells.bind (wrong_at 30 (v := 5) (by kernel_rfl)) (ip rfl ?_)
    refine Tells.bind (wrong_at 30 (v := -1) (by kernel_rfl)) (ip rfl ?_)
    have hs1 : ((⟨#[32]⟩ : ByteArray)).size = 1 := rfl
    have hs2 : ((⟨#[98]⟩ : ByteArray)).size = 1 := rfl
    have c1 := copies_tells (⟨#[32]⟩ : ByteArray) 9 (by omega) (by omega)
    have c2 := copies_tells (⟨#[98]⟩ : ByteArray) 65 (by omega) (by omega)
    refine Tells.bind c1 (ip (by rw [mk_size, rep_len]; decide) (Tells.bind c2 (ip (by rw [bl_size, bl_app, List.length_append, bl_mk, mk_size, rep_len, rep_len]; decide) ?_)))
    refine Tells.bind (wrong_at 200 (v := 10) (by kernel_rfl)) (ip rfl ?_)
    refine Tells.bind (wrong_at 30 (v := -1) (by kernel_rfl)) (ip rfl ?_)
    refine Tells.bind (wrong_at 30 (v := 2) (by kernel_rfl)) ?_
    exact j3_tells
  | succ m ih =>
    intro j hj
    have hl : X2.length = 19 := rfl
    have hk : Tells (fun k => lex_Kind.f k (strOfNums ([rd X2 (j : Int)] : List Int))) 0 := Tells.fixed 30 (fun k => lex_Kind.mono _ k) (x2_kinds ⟨j, by omega⟩)
    have hw : wrap64 ((j : Int) + 1) = ((j + 1 : Nat) : Int) := w1 (by omega)
    have hz : (strOfNums ([rd X2 (j : Int)] : List Int)).size = 1 := x2_sizes ⟨j, by omega⟩
    have hq : rd X2 (j : Int) = 59 ∨ alidadelaw12_wrong.f 30 ((⟨#[32]⟩ : ByteArray) ++ strOfNums ([rd X2 (j : Int)] : List Int)) = some 1 := x2_wrongs ⟨j, by omega⟩
    refine Tells.step (fun k => (by rw [alidadelaw12_LexNames.l2, hw])) (ip (by omega) (ip (by omega) (ip (by omega) ?_)))
    refine Tells.bind (g := fun _ => some [rd X2 (j : Int)]) (Tells.const _) ?_
    refine Tells.bind hk (ip rfl ?_)
    by_cases c : rd X2 (j : Int) = 59
    · exact ip c (ih (j + 1) (by omega))
    · rcases hq with hq | hq
      · exact absurd hq c
      · exact ino c (ip (by omega) (Tells.bind (wrong_at 30 hq) (ip rfl (ih (j + 1) (by omega)))))
theorem LexNames : alidadelaw12_LexNames.Pure := by
  refine Tells.ex (f := fun k => alidadelaw12_LexNames.f k) ?_
  unfold alidadelaw12_LexNames.f
  have hs1 : ((⟨#[57]⟩ : ByteArray)).size = 1 := rfl
  have hs2 : ((⟨#[97]⟩ : ByteArray)).size = 1 := rfl
  have c1 := copies_tells (⟨#[57]⟩ : ByteArray) 3000 (by omega) (by omega)
  have c2 := copies_tells (⟨#[97]⟩ : ByteArray) 64 (by omega) (by omega)
  have c3 := copies_tells (⟨#[97]⟩ : ByteArray) 65 (by omega) (by omega)
  refine Tells.bind works_tells (ip rfl (Tells.bind c1 (Tells.bind c2 (Tells.bind c3 (ip (by rw [mk_size, rep_len]; decide) (ip (by rw [mk_size, rep_len]; decide) (Tells.bind (Tells.const _) ?_)))))))
  exact l0_tells _ (by kernel_rfl) (by decide) (l1_tells (l2_tells 19 0 rfl) 21 0 rfl) 33 0 rfl
end Go.Proofs.Ytgikmpgpccfiiaa.Pure
