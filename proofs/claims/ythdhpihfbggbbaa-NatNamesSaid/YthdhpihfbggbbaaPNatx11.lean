-- A text of the seat Ythdhpihfbggbbaa, written by a program of this session (drive.py).
import Derived.Test.YthdhpihfbggbbaaGNatFulltoPNatx1
import Derived.Test.YthdhpihfbggbbaaGNatFulltoPNatx1
import Derived.Test.YthdhpihfbggbbaaGPNatx2toPNatx3
import Derived.Test.YthdhpihfbggbbaaPNatx4
import Derived.Test.YthdhpihfbggbbaaPNatx5
import Derived.Test.YthdhpihfbggbbaaVal
import Derived.Laws.BitsLemmas
import Derived.WalkSpells
namespace Go.Proofs.Ythdhpihfbggbbaa.PNat
open Go.RowKit Go.Proofs.YthdhpihfbggbbaaW.PrintWords Go.Proofs.YthdhpihfbggbbaaW.PrintLast Go.Proofs.YthdhpihfbggbbaaW.PrintMore
attribute [local go_sem] max2_int min2_int max_two min_two max_three min_three max_four min_four   -- for this text's walks alone
set_option linter.unusedVariables false
set_option linter.unusedSimpArgs false

-- BY HAND: alidade/nat.Shl: function 16
-- IMPORT Derived.Test.YthdhpihfbggbbaaVal
-- IMPORT Derived.Laws.BitsLemmas
-- IMPORT Derived.WalkSpells
def nat_Shl.f (l0 : List Int) (a1 : Int) : Option (List Int) := if YthdhpihfbggbbaaV.ok l0 = true ∧ (-9223372036854775808 ≤ a1 ∧ a1 ≤ 9223372036854775807) then some (YthdhpihfbggbbaaV.shlS l0 a1) else none
theorem make_run (W : World) (l c : Nat) (hlc : l ≤ c) (hc : c ≤ 16777216) :
    (Instr.makeSlice 22 (.int .i64 (l : Int)) (.int .i64 (c : Int))).run Try.prog W = .ok (.slice (some ⟨W.heap.size, 0, none⟩) l c) (W.alloc (.cells (madeCells #[.int .u32 0] c) 37)) := by
  obtain ⟨i0, hi, hz0, hz1, hz2⟩ := info_parts info37
  have h := run_make (P := Try.prog) W 22 37 i0 (.int .u32 0) Try.underlying22 hi hz0 .i64 .i64 (l : Int) (c : Int) (by omega) (by omega) (by rw [hz2]; omega) (by omega)
  simp only [Int.toNat_natCast] at h
  rw [hz1, Nat.mul_one] at h
  exact h
theorem make_own (W : World) (base : Nat) (l c : Nat) (hlc : l ≤ c) (hc : c ≤ 16777216) (hb : base ≤ W.heap.size) :
    Kd.R (Kd.int .u32) 37 (W.alloc (.cells (madeCells #[.int .u32 0] c) 37)) base (fun _ => True) (.slice (some ⟨W.heap.size, 0, none⟩) l c) (List.replicate l 0) := by
  have h2 := World.ownsRow_lit (base := base) (e := 37) (size := 1) W (madeCells #[.int .u32 0] c) c hb (by unfold maxLen; omega) (by simp [size_madeCells])
  have h3 := own_take h2 hlc
  refine Kd.R_of_own ?_ (fun _ _ => trivial)
  have e : (madeCells #[Value.int .u32 0] c).toList.take (l * 1) = encs (Value.int .u32) (List.replicate l 0) := by
    apply List.ext_getElem
    · simp [size_madeCells, encs]; omega
    · intro i h1 h2
      simp [madeCells, encs, Nat.mod_one]
  rw [← e, List.length_replicate]
  exact h3
theorem wraps_u64 (n : Int) (h0 : 0 ≤ n) (h1 : n < 2 ^ 64) : IntKind.u64.wrap n = n := by
  simp only [IntKind.wrap, IntKind.bits, IntKind.signed]; simp; omega
theorem or_shl {r x : Int} {s : Nat} (hs : s < 32) (hr : 0 ≤ r) (hr2 : r.toNat < 2 ^ s) (hx : 0 ≤ x) (hx2 : x < 4294967296) :
    bits .or .u64 r (IntKind.u64.wrap (x * 2 ^ s)) = r + x * 2 ^ s ∧ r + x * 2 ^ s < 9223372036854775808 ∧ 0 ≤ r + x * 2 ^ s := by
  obtain ⟨R, rfl⟩ := Int.eq_ofNat_of_zero_le hr
  obtain ⟨X, rfl⟩ := Int.eq_ofNat_of_zero_le hx
  rw [Int.toNat_natCast] at hr2
  have hp : 2 ^ s ≤ 2 ^ 31 := Nat.pow_le_pow_right (by decide) (by omega)
  have hpos : 0 < 2 ^ s := Nat.two_pow_pos s
  have h1 : (X + 1) * 2 ^ s ≤ 4294967296 * 2 ^ 31 := Nat.mul_le_mul (by omega) hp
  rw [Nat.add_mul, Nat.one_mul] at h1
  have e : ((X : Int) * 2 ^ s) = ((X * 2 ^ s : Nat) : Int) := by simp
  rw [e]
  have hb : X * 2 ^ s < 2 ^ 63 := by omega
  rw [wraps_u64 _ (Int.natCast_nonneg _) (by omega)]
  have h2 := (bits_nat .u64 64 (by decide) wraps_u64 R (X * 2 ^ s) (by omega) (by omega)).2
  rw [h2, Nat.or_comm, Nat.mul_comm X, ← Nat.two_pow_add_eq_or_of_lt hr2 X]
  have h3 : 2 ^ s * X = X * 2 ^ s := Nat.mul_comm _ _
  refine ⟨by omega, by omega, by omega⟩
theorem shl_step {q s k : Nat} {l0 xs : List Int} {r x y : Int} (hs : s < 32) (ho : YthdhpihfbggbbaaV.ok l0 = true) (hx : l0.getD k 0 = x) (hr : 0 ≤ r) (hy : y = r + x * 2 ^ s)
    (h : YthdhpihfbggbbaaV.ok xs = true ∧ xs.length = q + k ∧ r.toNat < 2 ^ s ∧ YthdhpihfbggbbaaV.val xs + YthdhpihfbggbbaaV.B ^ (q + k) * r.toNat = YthdhpihfbggbbaaV.B ^ q * (YthdhpihfbggbbaaV.val (l0.take k) * 2 ^ s)) :
    YthdhpihfbggbbaaV.ok (xs ++ [y % 4294967296]) = true ∧ (xs ++ [y % 4294967296]).length = q + (k + 1) ∧ (y / 4294967296).toNat < 2 ^ s ∧ YthdhpihfbggbbaaV.val (xs ++ [y % 4294967296]) + YthdhpihfbggbbaaV.B ^ (q + (k + 1)) * (y / 4294967296).toNat = YthdhpihfbggbbaaV.B ^ q * (YthdhpihfbggbbaaV.val (l0.take (k + 1)) * 2 ^ s) := by
  obtain ⟨h1, h2, h3, h4⟩ := h
  have hx2 := YthdhpihfbggbbaaV.ok_get ho k
  rw [hx] at hx2
  obtain ⟨X, rfl⟩ := Int.eq_ofNat_of_zero_le hx2.1
  obtain ⟨R, rfl⟩ := Int.eq_ofNat_of_zero_le hr
  have ey : y = ((R + X * 2 ^ s : Nat) : Int) := by rw [hy]; simp
  rw [ey]
  clear hy ey y
  rw [Int.toNat_natCast] at h3 h4
  generalize hY : R + X * 2 ^ s = Y
  refine ⟨?_, by simp [h2]; omega, ?_, ?_⟩
  · rw [YthdhpihfbggbbaaV.ok_append]
    exact ⟨h1, by rw [YthdhpihfbggbbaaV.ok_cons]; exact ⟨by omega, rfl⟩⟩
  · have h5 : R + X * 2 ^ s < 4294967296 * 2 ^ s := by
      have := Nat.mul_le_mul_right (2 ^ s) (show X + 1 ≤ 4294967296 by omega)
      rw [Nat.add_mul, Nat.one_mul] at this
      omega
    have h6 : Y / 4294967296 < 2 ^ s := by
      rw [Nat.div_lt_iff_lt_mul (by decide)]; omega
    omega
  · rw [YthdhpihfbggbbaaV.val_snoc, h2, YthdhpihfbggbbaaV.val_take_succ, hx, Int.toNat_natCast]
    have h7 : ((Y : Int) % 4294967296).toNat = Y % 4294967296 := by omega
    have h8 : ((Y : Int) / 4294967296).toNat = Y / 4294967296 := by omega
    rw [h7, h8, show q + (k + 1) = (q + k) + 1 by omega, Nat.pow_succ, Nat.mul_assoc, Nat.add_assoc, ← Nat.mul_add]
    rw [show Y % 4294967296 + YthdhpihfbggbbaaV.B * (Y / 4294967296) = Y by simp only [YthdhpihfbggbbaaV.B]; omega]
    rw [← hY, Nat.mul_add, ← Nat.add_assoc, h4, Nat.pow_add, Nat.mul_assoc, ← Nat.mul_add, Nat.add_mul, Nat.mul_assoc]
theorem val_zeros (q : Nat) : YthdhpihfbggbbaaV.val (List.replicate q 0) = 0 := by
  induction q with
  | zero => rfl
  | succ q ih => rw [List.replicate_succ, YthdhpihfbggbbaaV.val, ih]; rfl
theorem ok_zeros (q : Nat) : YthdhpihfbggbbaaV.ok (List.replicate q 0) = true := by
  simp only [YthdhpihfbggbbaaV.ok, List.all_eq_true]
  intro x hx
  rw [List.eq_of_mem_replicate hx]; rfl
theorem shl_end {q s : Nat} {l0 xs : List Int} {r : Int} {a1 : Int} (hq : a1 = 32 * (q : Int) + s) (hm : YthdhpihfbggbbaaV.may l0 = true) (hne : l0 ≠ []) (hk : a1 ≤ 2097152) (hr : 0 ≤ r) (hr2 : r < 2147483648)
    (h : YthdhpihfbggbbaaV.ok xs = true ∧ xs.length = q + l0.length ∧ r.toNat < 2 ^ s ∧ YthdhpihfbggbbaaV.val xs + YthdhpihfbggbbaaV.B ^ (q + l0.length) * r.toNat = YthdhpihfbggbbaaV.B ^ q * (YthdhpihfbggbbaaV.val (l0.take l0.length) * 2 ^ s)) :
    YthdhpihfbggbbaaV.cut (xs ++ [r]) = YthdhpihfbggbbaaV.shlS l0 a1 := by
  obtain ⟨h1, h2, h3, h4⟩ := h
  have ho : YthdhpihfbggbbaaV.ok (xs ++ [r]) = true := by
    rw [YthdhpihfbggbbaaV.ok_append]
    exact ⟨h1, by rw [YthdhpihfbggbbaaV.ok_cons]; exact ⟨by omega, rfl⟩⟩
  unfold YthdhpihfbggbbaaV.shlS
  rw [YthdhpihfbggbbaaV.cut_fit ho, YthdhpihfbggbbaaV.val_snoc, h2, h4, List.take_length, if_pos (by simp [hm, hne]; omega)]
  congr 1
  rw [show a1.toNat = 32 * q + s by omega, Nat.pow_add, Nat.pow_mul, show (2 ^ 32 : Nat) = YthdhpihfbggbbaaV.B by rfl]
  rw [Nat.mul_comm (YthdhpihfbggbbaaV.B ^ q), Nat.mul_assoc, Nat.mul_comm (2 ^ s)]
set_option maxRecDepth 100000 in
set_option maxHeartbeats 8000000 in
theorem nat_Shl_yes (A0 : Option Addr) (c0 : Nat) (l0 : List Int) (a1 : Int) (w : World) (hr0 : Kd.C (Kd.int .u32) w A0 l0.length l0) (hc0 : l0.length ≤ c0) (hm : YthdhpihfbggbbaaV.may l0 = true) (hne : l0 ≠ []) (hk0 : 0 ≤ a1) (hk1 : a1 ≤ 2097152) (hlen : l0.length ≤ 65536) (ho : YthdhpihfbggbbaaV.ok l0 = true) :
    Calls Try.prog 16 #[.slice A0 l0.length c0, .int .i64 a1] w fun e w' => ∃ v0_ : Value, e = .returned (v0_) ∧ Kd.R (Kd.int .u32) 37 w' w.heap.size (fun _ => True) v0_ (YthdhpihfbggbbaaV.shlS l0 a1) ∧ Below w.heap.size w w' := by
  have HM := nat_May.calls A0 c0 l0 (YthdhpihfbggbbaaV.may l0) w hr0 hc0 (nat_May_val l0 hr0.2.1)
  rw [hm] at HM
  have hmay := Aside0.mk hm
  have hok := Aside0.mk ho
  have H := Aside0.mk HM
  have HR0 := Aside0.mk hr0
  obtain ⟨q, s, hq, hs1, hs2⟩ : ∃ q s : Nat, a1 = 32 * (q : Int) + s ∧ s < 32 ∧ q ≤ 65536 := ⟨(a1 / 32).toNat, (a1 % 32).toNat, by omega, by omega, by omega⟩
  have e1 : a1 / 32 = (q : Int) := by omega
  have e2 : a1 % 32 = (s : Int) := by omega
  have hmk := fun W => make_run W q (q + l0.length + 1) (by omega) (by omega)
  have hL : ((l0.length : Int) == 0) = false := beq_eq_false_iff_ne.2 (by have := List.length_pos_iff.2 hne; omega)
  have hL2 : (l0.length == 0) = false := beq_eq_false_iff_ne.2 (by have := List.length_pos_iff.2 hne; omega)
  have d1 : decide (a1 < 0) = false := decide_eq_false (by omega)
  have d2 : decide (2097152 < a1) = false := decide_eq_false (by omega)
  obtain ⟨cs, hcs⟩ : ∃ cs, cs = madeCells #[Value.int .u32 0] (q + l0.length + 1) := ⟨_, rfl⟩
  rw [← hcs] at hmk
  have HQ := Aside0.mk hq
  have HCS := Aside0.mk hcs
  have HNE := Aside0.mk hne
  have hmk2 : ∀ W : World, (Instr.makeSlice 22 (.int .i64 (a1 / 32)) (.int .i64 (a1 / 32 + (l0.length : Int) + 1))).run Try.prog W = .ok (.slice (some ⟨W.heap.size, 0, none⟩) q (q + l0.length + 1)) (W.alloc (.cells cs 37)) := fun W => by
    have h := hmk W
    rw [show ((q + l0.length + 1 : Nat) : Int) = (q : Int) + (l0.length : Int) + 1 by omega, ← e1] at h
    exact h
  clear HM hr0 hc0 hm hq hcs hmk hne ho e1
  go_enter Try.func16, Try.ntmps16
  go_wp2_with (go_at_call 11; refine H.out.mono ?_; rintro e w' ⟨rfl, ⟨nd, rfl⟩⟩)
  go_loopw [5, 6, 36] (fun out rest i wr => ∃ (k : Nat) (xs : List Int) (r : Int), k ≤ l0.length ∧ i = .int .i64 k ∧ rest = .int .u64 r ∧ 0 ≤ r ∧ r < 2147483648 ∧ Aside0 (YthdhpihfbggbbaaV.ok xs = true ∧ xs.length = q + k ∧ r.toNat < 2 ^ s ∧ YthdhpihfbggbbaaV.val xs + YthdhpihfbggbbaaV.B ^ (q + k) * r.toNat = YthdhpihfbggbbaaV.B ^ q * (YthdhpihfbggbbaaV.val (l0.take k) * 2 ^ s)) ∧ Aside0 (Kd.R (Kd.int .u32) 37 wr w.heap.size (fun _ => True) out xs) ∧ Aside0 (Below w.heap.size w wr)) (fun _ _ i _ => l0.length - (intOf i).toNat)
  case atStart =>
    refine ⟨0, List.replicate q 0, 0, by omega, rfl, rfl, by omega, by omega, ⟨ok_zeros q, by simp, ?_, ?_⟩, ⟨?_⟩, ⟨below_alloc (pw_below_drewN (Below.refl _ _) _) _⟩⟩
    · exact Nat.two_pow_pos s
    · rw [val_zeros]; simp [YthdhpihfbggbbaaV.val]
    · rw [HCS.out]
      exact make_own (w.drewN nd) w.heap.size q (q + l0.length + 1) (by omega) (by omega) (by simp)
  case round =>
    clear hmk2
    obtain ⟨k, xs, r, hk, rfl, rfl, hr1, hr2, hinv, hR, hB⟩ := hrel
    by_cases hlt : k < l0.length
    · obtain ⟨ad, rfl, g0⟩ := Kd.at_int (Kd.C_below HR0.out hB.out) (k : Int) (by omega) (by omega)
      simp only [Int.toNat_natCast, rd] at g0
      have hx := YthdhpihfbggbbaaV.ok_get hok.out k
      obtain ⟨x, hxe⟩ : ∃ x, l0.getD k 0 = x := ⟨_, rfl⟩
      rw [hxe] at g0 hx
      have HX := Aside0.mk hxe
      obtain ⟨hx1, hx2⟩ := hx
      obtain ⟨hor, hy2, hy1⟩ := or_shl hs1 hr1 hinv.out.2.2.1 hx1 hx2
      obtain ⟨y, hy⟩ : ∃ y, y = r + x * 2 ^ s := ⟨_, rfl⟩
      rw [← hy] at hor hy1 hy2
      have hst := Aside0.mk (shl_step hs1 hok.out hxe hr1 hy hinv.out)
      have hxl := Aside0.mk hinv.out.2.1
      clear hxe hy hinv
      have hb1 : y / 4294967296 < 2147483648 := by omega
      have hb2 : 0 ≤ y / 4294967296 := by omega
      go_wp2_with (at_builtin; refine Kd.R_append (Kd.int .u32) (w0 := w) w.heap.size rfl (.tmp 47) (.tmp 50) 22 37 (.int .u32 0) 4 rfl Try.underlying22 info37 rfl (by decide) (by omega) _ xs (y % 4294967296) [.int .u32 (y % 4294967296)] (fun _ => True) (fun _ => False) rfl rfl ?aP (fun _ hk => hk.elim) ?aF hR.out hB.out ?aS ?aL ?_; (case aP => exact rfl); (case aF => exact fun _ _ => trivial); (case aS => exact hB.out.size); (case aL => rw [hxl.out]; omega); intro v1 w1 ho1 hb1_ hg1_ ha1_; have hR1 := Aside0.mk ho1; have hB1 := Aside0.mk hb1_; clear ho1 hb1_ hg1_ ha1_)
      go_roundw
      case rel => exact ⟨k + 1, _, _, by omega, by simp, rfl, hb2, hb1, hst, hR1, hB1⟩
      case measure => simp [intOf]; omega
    · obtain rfl : k = l0.length := by omega
      have hfin := Aside0.mk (shl_end HQ.out hmay.out HNE.out hk1 hr1 hr2 hinv.out)
      have hxl := Aside0.mk hinv.out.2.1
      have hcut := Aside0.mk (nat_cut_val (xs ++ [r]) (by rw [List.length_append, hxl.out]; simp; omega))
      have hrm : r % 4294967296 = r := by omega
      clear hinv
      go_wp2_with (first | (at_builtin; refine Kd.R_append (Kd.int .u32) (w0 := w) w.heap.size rfl (.tmp 55) (.tmp 58) 22 37 (.int .u32 0) 4 rfl Try.underlying22 info37 rfl (by decide) (by omega) _ xs r [.int .u32 r] (fun _ => True) (fun _ => False) rfl rfl ?aP (fun _ hk => hk.elim) ?aF hR.out hB.out ?aS ?aL ?_; (case aP => exact rfl); (case aF => exact fun _ _ => trivial); (case aS => exact hB.out.size); (case aL => rw [hxl.out]; omega); intro v1 w1 ho1 hb1_ hg1_ ha1_; have hR1 := Aside0.mk ho1; have hB1 := Aside0.mk hb1_; clear ho1 hb1_ hg1_ ha1_) | (go_at_call 39; refine (nat_cut.calls _ _ _ _ _ w _ hB1.out hR1.out hcut.out).mono ?_; rintro e w3 ⟨v0, rfl, hR3, hB3, hKept⟩))
      go_ret
      refine ⟨_, rfl, ?_, hB3⟩
      rw [← hfin.out]
      exact Kd.R_mono hR3 (fun _ _ => trivial)
set_option maxHeartbeats 4000000 in
theorem nat_Shl_no (A0 : Option Addr) (c0 : Nat) (l0 : List Int) (a1 : Int) (w : World) (hr0 : Kd.C (Kd.int .u32) w A0 l0.length l0) (hc0 : l0.length ≤ c0) (hno : YthdhpihfbggbbaaV.may l0 = false ∨ l0 = [] ∨ a1 < 0 ∨ 2097152 < a1) :
    Calls Try.prog 16 #[.slice A0 l0.length c0, .int .i64 a1] w fun e w' => e = .returned (.slice none 0 0) ∧ Below w.heap.size w w' := by
  have HM := nat_May.calls A0 c0 l0 (YthdhpihfbggbbaaV.may l0) w hr0 hc0 (nat_May_val l0 hr0.2.1)
  have H := Aside0.mk HM
  clear HM hr0 hc0
  cases hm : YthdhpihfbggbbaaV.may l0 with
  | false =>
    rw [hm] at H
    clear hm hno
    go_enter Try.func16, Try.ntmps16
    go_wp2_with (go_at_call 11; refine H.out.mono ?_; rintro e w' ⟨rfl, ⟨nd, rfl⟩⟩)
    go_ret
    exact ⟨rfl, pw_below_drewN (Below.refl _ _) _⟩
  | true =>
    rw [hm] at H hno
    clear hm
    by_cases hl : l0.length = 0
    · have hL : ((l0.length : Int) == 0) = true := beq_iff_eq.2 (by omega)
      have hL2 : (l0.length == 0) = true := beq_iff_eq.2 hl
      have HL := Aside0.mk hl
      clear hno hl
      go_enter Try.func16, Try.ntmps16
      go_wp2_with (go_at_call 11; refine H.out.mono ?_; rintro e w' ⟨rfl, ⟨nd, rfl⟩⟩)
      all_goals
        go_ret
        exact ⟨rfl, pw_below_drewN (Below.refl _ _) _⟩
    · have hL : ((l0.length : Int) == 0) = false := beq_eq_false_iff_ne.2 (by omega)
      have hL2 : (l0.length == 0) = false := beq_eq_false_iff_ne.2 hl
      have hne : ¬ l0 = [] := fun h => hl (by rw [h]; rfl)
      by_cases h0 : a1 < 0
      · have d1 : decide (a1 < 0) = true := decide_eq_true h0
        clear hno
        go_enter Try.func16, Try.ntmps16
        go_wp2_with (go_at_call 11; refine H.out.mono ?_; rintro e w' ⟨rfl, ⟨nd, rfl⟩⟩)
        go_ret
        exact ⟨rfl, pw_below_drewN (Below.refl _ _) _⟩
      · have d1 : decide (a1 < 0) = false := decide_eq_false h0
        have h1 : 2097152 < a1 := by
          rcases hno with h | h | h | h
          · cases h
          · exact absurd h hne
          · exact absurd h h0
          · exact h
        have d2 : decide (2097152 < a1) = true := decide_eq_true h1
        clear hno
        go_enter Try.func16, Try.ntmps16
        go_wp2_with (go_at_call 11; refine H.out.mono ?_; rintro e w' ⟨rfl, ⟨nd, rfl⟩⟩)
        go_ret
        exact ⟨rfl, pw_below_drewN (Below.refl _ _) _⟩
theorem nat_Shl.calls (A0 : Option Addr) (c0 : Nat) (l0 : List Int) (a1 : Int) (r : List Int) (w : World) (hr0 : Kd.C (Kd.int .u32) w A0 l0.length l0) (hc0 : l0.length ≤ c0) (h : nat_Shl.f l0 a1 = some r) :
    Calls Try.prog 16 #[.slice A0 l0.length c0, .int .i64 a1] w fun e w' => ∃ v0_ : Value, e = .returned (v0_) ∧ Kd.R (Kd.int .u32) 37 w' w.heap.size (fun _ => True) v0_ r ∧ Below w.heap.size w w' := by
  unfold nat_Shl.f at h
  by_cases hok : YthdhpihfbggbbaaV.ok l0 = true ∧ (-9223372036854775808 ≤ a1 ∧ a1 ≤ 9223372036854775807)
  · rw [if_pos hok] at h
    obtain rfl := Option.some.inj h
    by_cases hy : YthdhpihfbggbbaaV.may l0 = true ∧ l0 ≠ [] ∧ 0 ≤ a1 ∧ a1 ≤ 2097152
    · exact nat_Shl_yes A0 c0 l0 a1 w hr0 hc0 hy.1 hy.2.1 hy.2.2.1 hy.2.2.2 (YthdhpihfbggbbaaV.may_length hy.1) hok.1
    · have e : YthdhpihfbggbbaaV.shlS l0 a1 = [] := by
        unfold YthdhpihfbggbbaaV.shlS
        rw [if_neg]
        intro h2
        apply hy
        simpa [and_assoc] using h2
      rw [e]
      refine (nat_Shl_no A0 c0 l0 a1 w hr0 hc0 ?_).mono fun e w' ⟨h1, h2⟩ => ⟨_, h1, Kd.R_nil _ _ _ _ _, h2⟩
      cases hm : YthdhpihfbggbbaaV.may l0 with
      | false => exact .inl rfl
      | true =>
        by_cases h1 : l0 = []
        · exact .inr (.inl h1)
        · by_cases h2 : a1 < 0
          · exact .inr (.inr (.inl h2))
          · refine .inr (.inr (.inr ?_))
            rcases Int.lt_or_le 2097152 a1 with h3 | h3
            · exact h3
            · exact absurd ⟨hm, h1, by omega, h3⟩ hy
  · rw [if_neg hok] at h
    cases h

end Go.Proofs.Ythdhpihfbggbbaa.PNat
