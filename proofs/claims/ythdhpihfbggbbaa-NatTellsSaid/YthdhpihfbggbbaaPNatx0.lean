-- A text of the seat Ythdhpihfbggbbaa, written by a program of this session (drive.py).
import Derived.Test.YthdhpihfbggbbaaProg
import Derived.Below
import Derived.Deep.Draws
import Derived.Deep.AppendLies
import Derived.Maps.AppendAt
import Derived.OwnWalk
import Derived.Laws.BytesArg
import Derived.Laws.MakeOwn
import Derived.Laws.OwnMore
import Derived.Deep.OwnRows
import Derived.Tactics
import Derived.Lib.ConvBytes
import Derived.Laws.Slices
import Derived.WalkKit
import Derived.KernelRfl
import Derived.RowKit3
import Derived.Deep.LoopGhost
import Derived.Deep.QuietTactic
import Derived.BigQuiet
import Derived.WideLaws
import Derived.Deep.DeepCutAuto
import Derived.Deep.CutBlock
import Derived.Deep.RegionHeld3
import Derived.Laws.Rows
import Derived.Lib.AppendStr
import Derived.ArgAppend
import Derived.Laws.IdiomCopy
import Derived.OrdersHeld
import Derived.Laws.BitsLemmas
import Derived.RowKit
import Derived.Test.YthdhpihfbggbbaaWWords
import Derived.Test.YthdhpihfbggbbaaWLast
import Derived.Test.YthdhpihfbggbbaaWTab
import Derived.Test.YthdhpihfbggbbaaWFour
import Derived.Test.YthdhpihfbggbbaaWQPut
import Derived.Test.YthdhpihfbggbbaaWApart
import Derived.Test.YthdhpihfbggbbaaWArr
import Derived.Test.YthdhpihfbggbbaaWZeros
import Derived.Test.YthdhpihfbggbbaaWFoot
import Derived.Test.YthdhpihfbggbbaaWKept
import Derived.Test.YthdhpihfbggbbaaWShare
import Derived.Test.YthdhpihfbggbbaaWN
import Derived.Test.YthdhpihfbggbbaaWFootNe
import Derived.Test.YthdhpihfbggbbaaWAt
import Derived.Test.YthdhpihfbggbbaaWEqStruct
import Derived.Test.YthdhpihfbggbbaaWRepsOne
import Derived.Test.YthdhpihfbggbbaaWInv
import Derived.Test.YthdhpihfbggbbaaWInvWords
import Derived.Test.YthdhpihfbggbbaaWGuard
import Derived.Test.YthdhpihfbggbbaaWNEv
import Derived.Test.YthdhpihfbggbbaaWMore
namespace Go.Proofs.Ythdhpihfbggbbaa.PNat
open Go.RowKit Go.Proofs.YthdhpihfbggbbaaW.PrintWords Go.Proofs.YthdhpihfbggbbaaW.PrintLast Go.Proofs.YthdhpihfbggbbaaW.PrintMore
attribute [local go_sem] max2_int min2_int max_two min_two max_three min_three max_four min_four   -- for this text's walks alone
set_option linter.unusedVariables false
set_option linter.unusedSimpArgs false



def errW : Option Int → Value
  | none => .nilIface
  | some c => .iface 0 (.int .i64 c)
theorem errW_none : errW none = .nilIface := rfl
theorem errW_some (c : Int) : errW (some c) = .iface 0 (.int .i64 c) := rfl

theorem info37 : (Try.prog.info? 37).map (fun i => (i.zero, i.size, i.bytes)) = some (some (.int .u32 0), 1, 4) := by kernel_rfl
-- the values' own types

end Go.Proofs.Ythdhpihfbggbbaa.PNat
