/- What the words' small functions compute, in plain lists of bytes: the kinds of bytes, gaps, kinds of words. -/
import Derived.Test.YtgikmpgpccfiiaaPSxpx0
import Derived.Test.YtgikmpgpccfiiaaPSxpx11
import Derived.Test.YtgikmpgpccfiiaaPSxpx13
import Derived.Lib.Strings
import Derived.Lib.Bytealg
namespace Go.Proofs.YtgikmpgpccfiiaaT
open Go.RowKit Go.Proofs.Ytgikmpgpccfiiaa.PSxp Go.Proofs.YtgikmpgpccfiiaaW.PrintWords Go.Proofs.YtgikmpgpccfiiaaW.PrintLast
set_option linter.unusedVariables false
/-- With rounds enough it tells r. -/
def Tells {α : Type} (f : Nat → Option α) (r : α) : Prop := ∃ n, ∀ k, n ≤ k → f k = some r
theorem Tells.step {α : Type} {f g : Nat → Option α} {r : α} (h : ∀ k, f (k + 1) = g k) (hg : Tells g r) : Tells f r := by
  obtain ⟨n, hn⟩ := hg
  refine ⟨n + 1, fun k hk => ?_⟩
  obtain ⟨k', rfl⟩ : ∃ k', k = k' + 1 := ⟨k - 1, by omega⟩
  rw [h]
  exact hn k' (by omega)
theorem Tells.const {α : Type} (r : α) : Tells (fun _ => some r) r := ⟨0, fun _ _ => rfl⟩
theorem Tells.of {α : Type} {f g : Nat → Option α} {r : α} (h : ∀ k, f k = g k) (hg : Tells g r) : Tells f r := by
  obtain ⟨n, hn⟩ := hg
  exact ⟨n, fun k hk => by rw [h]; exact hn k hk⟩
theorem Tells.bind {α β : Type} {g : Nat → Option α} {h : Nat → α → Option β} {x : α} {r : β} (hg : Tells g x) (hh : Tells (fun k => h k x) r) : Tells (fun k => (g k).bind (h k)) r := by
  obtain ⟨n, hn⟩ := hg
  obtain ⟨m, hm⟩ := hh
  refine ⟨max n m, fun k hk => ?_⟩
  show (g k).bind (h k) = some r
  rw [hn k (by omega), Option.bind_some]
  exact hm k (by omega)
theorem Tells.ex {α : Type} {f : Nat → Option α} {r : α} (h : Tells f r) : ∃ k, f k = some r := by
  obtain ⟨n, hn⟩ := h
  exact ⟨n, hn n (Nat.le_refl _)⟩
theorem Tells.fixed {α : Type} {f : Nat → Option α} {r : α} (n : Nat) (hm : ∀ k, LeO (f k) (f (k + 1))) (h : f n = some r) : Tells f r := by
  refine ⟨n, fun k hk => ?_⟩
  induction k with
  | zero => obtain rfl : n = 0 := by omega
            exact h
  | succ k ih =>
    by_cases e : n = k + 1
    · rw [← e]; exact h
    · exact hm k r (ih (by omega))
/-! ### Bytes -/
def bl (s : ByteArray) : List UInt8 := s.data.toList
theorem bl_size (s : ByteArray) : s.size = (bl s).length := (Array.length_toList (xs := s.data)).symm
theorem bl_toList (s : ByteArray) : s.toList = bl s := Lib.toList_data s
theorem bl_bt (s : ByteArray) {n : Nat} {c : UInt8} {r : List UInt8} (h : (bl s).drop n = c :: r) : bt s (n : Int) = (c.toNat : Int) := by
  have hn : n < (bl s).length := by
    rcases Nat.lt_or_ge n (bl s).length with h1 | h1
    · exact h1
    · rw [List.drop_eq_nil_of_le h1] at h; cases h
  have hc : (bl s)[n] = c := by
    have := List.drop_eq_getElem_cons hn
    rw [h] at this
    injection this with h1 h2
    exact h1.symm
  have hs : n < s.size := by rw [bl_size]; exact hn
  have h2 := bt_at s (n : Int) (by simpa using hs)
  rw [← h2, ← hc]
  simp [bl, ByteArray.getElem_eq_getElem_data]
theorem bl_extract (s : ByteArray) (a b : Nat) : bl (s.extract a b) = ((bl s).drop a).take (b - a) := by
  unfold bl
  rw [ByteArray.data_extract, Array.toList_extract]
theorem bl_inj {s t : ByteArray} (h : bl s = bl t) : s = t := by
  cases s; cases t
  simp only [bl] at h
  congr 1
  exact Array.toList_inj.1 h
theorem drop_pos {s : ByteArray} {n : Nat} {c : UInt8} {r : List UInt8} (h : (bl s).drop n = c :: r) : n < s.size ∧ (bl s).drop (n + 1) = r := by
  have hn : n < (bl s).length := by
    rcases Nat.lt_or_ge n (bl s).length with h1 | h1
    · exact h1
    · rw [List.drop_eq_nil_of_le h1] at h; cases h
  refine ⟨by rw [bl_size]; exact hn, ?_⟩
  rw [← List.drop_drop, h]
  rfl
theorem drop_end {s : ByteArray} {n : Nat} (h : (bl s).drop n = []) : s.size ≤ n := by
  rw [bl_size]
  exact List.drop_eq_nil_iff.1 h
theorem w1 {n : Nat} (h : n ≤ 140737488351232) : wrap64 ((n : Int) + 1) = ((n + 1 : Nat) : Int) := by unfold wrap64; omega
theorem wadd {n m : Nat} (h : n + m ≤ 140737488351232) : wrap64 ((n : Int) + (m : Int)) = ((n + m : Nat) : Int) := by unfold wrap64; omega
/-! ### The kinds of bytes -/
def dg (n : Nat) : Bool := decide (48 ≤ n) && decide (n ≤ 57)
def sg (n : Nat) : Bool := decide (97 ≤ n ∧ n ≤ 122) || decide (65 ≤ n ∧ n ≤ 90) || dg n || [126, 33, 64, 36, 37, 94, 38, 42, 95, 45, 43, 61, 60, 62, 46, 63, 47].contains n
def wt (n : Nat) : Int := if dg n then 10 else if n = 58 then 2 else if sg n then 6 else 0
theorem what_tab : ∀ n : Fin 256, lex_what.f 4 ((n.val : Nat) : Int) = some (wt n.val) := by decide +kernel
theorem and8_tab : ∀ n : Fin 256, decide (Go.bits .and .i64 (wt n.val) 8 = 0) = !dg n.val := by decide +kernel
theorem and12_tab : ∀ n : Fin 256, decide (Go.bits .and .i64 (wt n.val) 12 = 0) = !sg n.val := by decide +kernel
theorem and4_tab : ∀ n : Fin 256, decide (Go.bits .and .i64 (wt n.val) 4 = 0) = !(sg n.val && !dg n.val) := by decide +kernel
theorem wt_tab : ∀ n : Fin 256, decide (wt n.val = 0) = !(sg n.val || decide (n.val = 58)) := by decide +kernel
theorem what_tells (c : UInt8) : Tells (fun k => lex_what.f k (c.toNat : Int)) (wt c.toNat) := Tells.fixed 4 (fun k => lex_what.mono _ k) (what_tab ⟨c.toNat, c.toNat_lt⟩)
theorem and8 (c : UInt8) : (Go.bits .and .i64 (wt c.toNat) 8 = 0) ↔ dg c.toNat = false := by
  have := and8_tab ⟨c.toNat, c.toNat_lt⟩
  rw [← decide_eq_true_iff (p := Go.bits .and .i64 (wt c.toNat) 8 = 0), this]
  simp
theorem and12 (c : UInt8) : (Go.bits .and .i64 (wt c.toNat) 12 = 0) ↔ sg c.toNat = false := by
  have := and12_tab ⟨c.toNat, c.toNat_lt⟩
  rw [← decide_eq_true_iff (p := Go.bits .and .i64 (wt c.toNat) 12 = 0), this]
  simp
theorem and4 (c : UInt8) : (Go.bits .and .i64 (wt c.toNat) 4 = 0) ↔ (sg c.toNat && !dg c.toNat) = false := by
  have := and4_tab ⟨c.toNat, c.toNat_lt⟩
  rw [← decide_eq_true_iff (p := Go.bits .and .i64 (wt c.toNat) 4 = 0), this]
  show (!(sg c.toNat && !dg c.toNat)) = true ↔ _
  cases (sg c.toNat && !dg c.toNat) <;> simp
theorem wt0 (c : UInt8) : (wt c.toNat = 0) ↔ (sg c.toNat = false ∧ c.toNat ≠ 58) := by
  have := wt_tab ⟨c.toNat, c.toNat_lt⟩
  rw [← decide_eq_true_iff (p := wt c.toNat = 0), this]
  simp
end Go.Proofs.YtgikmpgpccfiiaaT
