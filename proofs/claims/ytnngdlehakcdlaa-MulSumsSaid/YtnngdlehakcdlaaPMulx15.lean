-- A text of the seat Ytnngdlehakcdlaa, written by a program of this session (drive.py).
import Derived.Test.YtnngdlehakcdlaaPMulx0
import Derived.Test.YtnngdlehakcdlaaPMulx13
import Derived.Test.YtnngdlehakcdlaaPack
namespace Go.Proofs.Ytnngdlehakcdlaa.PMul
open Go.RowKit Go.Proofs.YtnngdlehakcdlaaW.PrintWords Go.Proofs.YtnngdlehakcdlaaW.PrintLast Go.Proofs.YtnngdlehakcdlaaW.PrintMore
attribute [local go_sem] max2_int min2_int max_two min_two max_three min_three max_four min_four   -- for this text's walks alone
set_option linter.unusedVariables false
set_option linter.unusedSimpArgs false

-- BY HAND: a pack of mul_Sum
-- IMPORT Derived.Test.YtnngdlehakcdlaaPack
def mul_Sum_2_3.f (k : Nat) (l0_0 l0_1 l1_0 l1_1 l1_2 : List Int) : Option (List Int) := mul_Sum.f k [l0_0, l0_1] [l1_0, l1_1, l1_2]
end Go.Proofs.Ytnngdlehakcdlaa.PMul
