/- Plain numbers: a natural shifted up, and down again, is itself; shifted down, and up again, it is itself less its bits below; shifts add up. -/
import Derived.Test.YthdhpihfbggbbaaPNatx18
import Derived.Test.YthdhpihfbggbbaaNatShift
namespace Go.Proofs.Ythdhpihfbggbbaa.Pure
open Go.RowKit Go.Proofs.Ythdhpihfbggbbaa.PNat Go.Proofs.YthdhpihfbggbbaaW.PrintWords Go.Proofs.YthdhpihfbggbbaaW.PrintLast Go.Proofs.YthdhpihfbggbbaaV

theorem sub_bits (v K : Nat) : blen (v - v / 2 ^ K * 2 ^ K) ≤ K := blen_le.2 (by
  have := Nat.div_add_mod v (2 ^ K)
  rw [Nat.mul_comm] at this
  have h2 := Nat.mod_lt v (Nat.two_pow_pos K)
  omega)
theorem shifts_true {m : Nat} {l0 : List Int} {K M : Nat} (hm : m = 3000) (o0 : ok l0 = true) (h0 : l0.length ≤ 2000) (m0 : may l0 = true) (hK : K ≤ 5000) (hM : M ≤ 5000) :
    alidadelaw01_NatShifts.j1 (m + 1) l0 (K : Int) (M : Int) false = some true := by
  obtain ⟨q, hq⟩ : ∃ q, q = 2000 := ⟨_, rfl⟩
  have p0 := Sm.of (p := q) o0 (by omega)
  have p1 := Sm.mul (K := K) p0
  have p2 := Sm.mul (K := M) p1
  have p3 : Sm (val l0 / 2 ^ K) q := p0.le (Nat.div_le_self _ _)
  have hle : val l0 / 2 ^ K * 2 ^ K ≤ val l0 := Nat.div_mul_le_self _ _
  have p4 : Sm (val l0 / 2 ^ K * 2 ^ K) q := p0.le hle
  have mu := p1.may (by omega)
  have md := p3.may (by omega)
  have mb := p4.may (by omega)
  have eup : shlS l0 (K : Int) = toL (val l0 * 2 ^ K) := shlS_val m0 (by omega) p1 (by omega)
  have edn : shrS l0 (K : Int) = toL (val l0 / 2 ^ K) := shrS_val m0 o0
  have ebk : shlS (toL (val l0 / 2 ^ K)) (K : Int) = toL (val l0 / 2 ^ K * 2 ^ K) := by
    rw [shlS_val md (by omega) (by rw [val_toL]; exact p4) (by omega), val_toL]
  have esb : subS l0 (toL (val l0 / 2 ^ K * 2 ^ K)) = (toL (val l0 - val l0 / 2 ^ K * 2 ^ K), true) := by
    rw [subS_of m0 mb (by rw [val_toL]; exact hle), val_toL]
  have eud : shrS (toL (val l0 * 2 ^ K)) (K : Int) = l0 := by
    rw [shrS_val mu (toL_ok _), val_toL, Nat.mul_div_cancel _ (Nat.two_pow_pos K), toL_of_may o0 m0]
  have euu : shlS (toL (val l0 * 2 ^ K)) (M : Int) = toL (val l0 * 2 ^ K * 2 ^ M) := by
    rw [shlS_val mu (by omega) (by rw [val_toL]; exact p2) (by omega), val_toL]
  have esum : wrap64 ((K : Int) + (M : Int)) = ((K + M : Nat) : Int) := by unfold wrap64; omega
  have eus : shlS l0 ((K + M : Nat) : Int) = toL (val l0 * 2 ^ K * 2 ^ M) := by
    have hp : val l0 * 2 ^ (K + M) = val l0 * 2 ^ K * 2 ^ M := by rw [Nat.pow_add, ← Nat.mul_assoc]
    rw [shlS_val (K := K + M) (q := q + (K / 32 + 1) + (M / 32 + 1)) m0 (by omega) (by rw [hp]; exact p2) (by omega), hp]
  have edd : shrS (toL (val l0 / 2 ^ K)) (M : Int) = toL (val l0 / 2 ^ K / 2 ^ M) := by rw [shrS_val md (toL_ok _), val_toL]
  have eds : shrS l0 ((K + M : Nat) : Int) = toL (val l0 / 2 ^ K / 2 ^ M) := by rw [shrS_val (K := K + M) m0 o0, Nat.pow_add, Nat.div_div_eq_div_mul]
  have q2 : (toL (val l0 * 2 ^ K * 2 ^ M)).length ≤ q + (K / 32 + 1) + (M / 32 + 1) := p2.length
  have q3 : (toL (val l0 / 2 ^ K / 2 ^ M)).length ≤ q := (p3.le (Nat.div_le_self _ _)).length
  have hbl : blen (val l0 - val l0 / 2 ^ K * 2 ^ K) ≤ K := sub_bits _ _
  have mr : may (toL (val l0 - val l0 / 2 ^ K * 2 ^ K)) = true := (p0.le (Nat.sub_le _ _)).may (by omega)
  simp only [alidadelaw01_NatShifts.j1, Bool.false_eq_true, if_false]
  rw [shl_f o0 (by omega), shr_f o0 (by omega), eup, edn]; simp only [Option.bind_some]
  rw [shl_f (toL_ok _) (by omega), ebk]; simp only [Option.bind_some]
  rw [sub_f o0 (toL_ok _), esb]; simp only [Option.bind_some]
  rw [shr_f (toL_ok _) (by omega), eud]; simp only [Option.bind_some]
  rw [same_f (by omega) (by omega)]; simp only [Option.bind_some, decide_true, if_true]
  rw [bits_f (toL_ok _), mr, val_toL]; simp only [Option.bind_some, if_true]
  rw [if_pos (by omega), shl_f (toL_ok _) (by omega), euu]; simp only [Option.bind_some]
  rw [esum, shl_f o0 (by omega), eus]; simp only [Option.bind_some]
  rw [same_f (by omega) (by omega)]; simp only [Option.bind_some, decide_true, if_true]
  rw [shr_f (toL_ok _) (by omega), edd, shr_f o0 (by omega), eds]; simp only [Option.bind_some]
  rw [same_f (by omega) (by omega)]; simp only [Option.bind_some, decide_true, if_true]
  by_cases hl : l0.length = 0
  · rw [if_pos (by omega)]
  · rw [if_neg (by omega), bits_f (toL_ok _), mu, val_toL, bits_f o0, m0]; simp only [Option.bind_some, if_true]
    have hv : val l0 ≠ 0 := fun h => hl (by rw [(val_zero_iff o0 m0).1 h]; rfl)
    have hb0 : blen (val l0) ≤ 32 * q := p0.blen
    rw [blen_mul hv]
    have : wrap64 ((blen (val l0) : Int) + (K : Int)) = ((blen (val l0) + K : Nat) : Int) := by unfold wrap64; omega
    rw [this]; simp

theorem NatShifts : alidadelaw01_NatShifts.Pure := by
  intro l0 a1 a2 _ b0 w0 w1 w2
  have o0 := ok_of_wf w0
  have i1 := i64_of_wf w1
  have i2 := i64_of_wf w2
  obtain ⟨m, hm⟩ : ∃ m, m = 3000 := ⟨_, rfl⟩
  refine ⟨m + 1 + 1, ?_⟩
  have ht : alidadelaw01_NatShifts.j0 (m + 1 + 1) l0 a1 a2 true = some true := by
    simp only [alidadelaw01_NatShifts.j0, if_true]; rw [awake_f (by omega)]; rfl
  have ht1 : alidadelaw01_NatShifts.j1 (m + 1) l0 a1 a2 true = some true := by simp only [alidadelaw01_NatShifts.j1, if_true]
  unfold alidadelaw01_NatShifts.f
  by_cases c0 : (l0.length : Int) > 2000
  · rw [if_pos c0]; exact ht
  by_cases c1 : a1 > 5000
  · rw [if_neg c0, if_pos c1]; exact ht
  by_cases c2 : a2 > 5000
  · rw [if_neg c0, if_neg c1, if_pos c2]; exact ht
  rw [if_neg c0, if_neg c1, if_neg c2, awake_f (by omega)]
  simp only [Option.bind_some, Bool.not_true, alidadelaw01_NatShifts.j0, Bool.false_eq_true, if_false]
  rw [may_f (by omega)]
  simp only [Option.bind_some]
  cases m0 : may l0 with
  | false => exact ht1
  | true =>
    rw [if_pos rfl]
    by_cases d1 : a1 < 0
    · rw [if_pos d1]; exact ht1
    by_cases d2 : a2 < 0
    · rw [if_neg d1, decide_eq_true d2]; exact ht1
    rw [if_neg d1, decide_eq_false d2]
    obtain ⟨K, rfl⟩ := Int.eq_ofNat_of_zero_le (show 0 ≤ a1 by omega)
    obtain ⟨M, rfl⟩ := Int.eq_ofNat_of_zero_le (show 0 ≤ a2 by omega)
    exact shifts_true hm o0 (by omega) m0 (by omega) (by omega)

end Go.Proofs.Ythdhpihfbggbbaa.Pure
