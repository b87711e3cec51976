-- A text of the seat Ytgikmpgpccfiiaa, written by a program of this session (drive.py).
import Derived.Test.YtgikmpgpccfiiaaPSxpx0
namespace Go.Proofs.Ytgikmpgpccfiiaa.PSxp
open Go.RowKit Go.Proofs.YtgikmpgpccfiiaaW.PrintWords Go.Proofs.YtgikmpgpccfiiaaW.PrintLast Go.Proofs.YtgikmpgpccfiiaaW.PrintMore
attribute [local go_sem] max2_int min2_int max_two min_two max_three min_three max_four min_four   -- for this text's walks alone
set_option linter.unusedVariables false
set_option linter.unusedSimpArgs false

/-! ### alidadelaw13_stands: function 26 -/
mutual
def alidadelaw13_stands.l0 : Nat → ByteArray → List (S51) → Int → Int → Option (Int × Bool)
  | 0, _, _, _, _ => none
  | k + 1, x0, x1, x2, x8 => if x8 < (x1.length : Int) then (if 0 ≤ x8 then (if ((rd_T51 x1 x8).f1) < x2 then (alidadelaw13_stands.j1 k x0 x1 x8 true ((rd_T51 x1 x8).f0) ((rd_T51 x1 x8).f1) ((rd_T51 x1 x8).f2) ((rd_T51 x1 x8).f3)) else (alidadelaw13_stands.j1 k x0 x1 x8 (decide (((rd_T51 x1 x8).f1) ≥ (x0.size : Int))) ((rd_T51 x1 x8).f0) ((rd_T51 x1 x8).f1) ((rd_T51 x1 x8).f2) ((rd_T51 x1 x8).f3))) else (none)) else (some (x2, true))
def alidadelaw13_stands.j1 : Nat → ByteArray → List (S51) → Int → Bool → Int → Int → ByteArray → List (S51) → Option (Int × Bool)
  | 0, _, _, _, _, _, _, _, _ => none
  | k + 1, x0, x1, x8, x32, x236000, x236001, x236002, x236003 => if x32 = true then (some (0, false)) else (if x236000 = 0 then ((alidadelaw13_stands.f k x0 x236003 (wrap64 (x236001 + 1))).bind fun bt236 => (if bt236.2 = true then (if 0 ≤ x236001 then (if x236001 < (x0.size : Int) then (alidadelaw13_stands.j2 k x0 x1 x8 bt236.1 ((bt x0 x236001) != 40)) else (none)) else (none)) else (alidadelaw13_stands.j2 k x0 x1 x8 bt236.1 true))) else (if (wrap64 ((x0.size : Int) - x236001)) < (x236002.size : Int) then (some (0, false)) else (if 0 ≤ x236001 then (if x236001 ≤ (wrap64 (x236001 + (x236002.size : Int))) then (if (wrap64 (x236001 + (x236002.size : Int))) ≤ (x0.size : Int) then (if (x0.extract (x236001 : Int).toNat ((wrap64 (x236001 + (x236002.size : Int))) : Int).toNat).toList = x236002.toList then (if x236002.toList = ([] : List UInt8) then (some (0, false)) else (alidadelaw13_stands.l0 k x0 x1 (wrap64 (x236001 + (x236002.size : Int))) (wrap64 (x8 + 1)))) else (some (0, false))) else (none)) else (none)) else (none))))
def alidadelaw13_stands.j2 : Nat → ByteArray → List (S51) → Int → Int → Bool → Option (Int × Bool)
  | 0, _, _, _, _, _ => none
  | k + 1, x0, x1, x8, x10, x54 => if x54 = true then (some (0, false)) else (alidadelaw13_stands.l0 k x0 x1 x10 (wrap64 (x8 + 1)))
def alidadelaw13_stands.f : Nat → ByteArray → List (S51) → Int → Option (Int × Bool)
  | 0, _, _, _ => none
  | k + 1, a0, l1, a2 => alidadelaw13_stands.l0 k a0 l1 a2 0
end
end Go.Proofs.Ytgikmpgpccfiiaa.PSxp
