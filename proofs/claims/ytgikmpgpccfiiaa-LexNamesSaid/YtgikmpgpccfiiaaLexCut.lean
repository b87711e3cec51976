/- Texts that are cut: what parts words in them, and their pieces. -/
import Derived.Test.YtgikmpgpccfiiaaLexText
import Derived.Test.YtgikmpgpccfiiaaPLexx0
import Derived.Test.YtgikmpgpccfiiaaPLexx11
import Derived.Test.YtgikmpgpccfiiaaPLexx13
import Derived.Test.YtgikmpgpccfiiaaPLexx15
import Derived.KernelRfl
namespace Go.Proofs.YtgikmpgpccfiiaaT
open Go.RowKit Go.Proofs.Ytgikmpgpccfiiaa.PLex Go.Proofs.YtgikmpgpccfiiaaW.PrintWords Go.Proofs.YtgikmpgpccfiiaaW.PrintLast
set_option linter.unusedVariables false
theorem works_ok : alidadelaw12_works.f 30 = some true := by kernel_rfl
theorem works_tells : Tells (fun k => alidadelaw12_works.f k) true := Tells.fixed 30 alidadelaw12_works.mono works_ok
theorem sk_false (c : UInt8) (l : List UInt8) : sk false (c :: l) = if c = 59 then 1 + sk true l else if blank c then 1 + sk false l else 0 := rfl
theorem pcs_end {s : ByteArray} {m n : Nat} (h : s.size ≤ n) : pcs s m n = [] := by
  cases m with
  | zero => rfl
  | succ m => rw [pcs, if_neg (by omega)]
theorem ok_words {t : ByteArray} (ht : t.size ≤ 65536) (h : (pcs t t.size (sk false (bl t))).find? (fun x => x.f0 == 0) = none) : Tells (fun k => lex_Words.f k t) (pcs t t.size (sk false (bl t)), 0, 0) := by
  have hw := words_tells (s := t) (by omega)
  rw [if_neg (by omega)] at hw
  unfold lex_resL at hw
  rw [h] at hw
  exact hw
end Go.Proofs.YtgikmpgpccfiiaaT
