/-
  No cell of these rows narrows 'for every input' (looked for: loops, veiled, ifaces, maps, wideKeys, modest, calm, conditions, laid).
  DERIVED. THE GIVEN ROWS OF THIS SEAT. 7 by the template 'for every input the law returns true; each argument reads behind the call as it read before'; 0 by the template 'total and deterministic' (their statements: YtejlgahkekgceaaTotals.lean).
  GIVEN WITH THE SEED: the statements are not yours to turn. If you find one false, say at which input.
  Laid BY PROGRAM, IN A SANDBOX (cutbox-rows.mjs): the forced cells as the released guide's own fill.sh prints them over the translation f599c6259df2965f… (all of the seat's roots in one cut). By AI agents, Wed Nov 11 2026. No macro, syntax, notation, axiom, sorry.
-/
import Derived.Test.YtejlgahkekgceaaChecked
import GoSem.Claim
import GoSem.ClaimJoined
import GoSem.ClaimMapViews
import Derived.JoinedTies
import Derived.KernelRfl
namespace Go.Proofs.Ytejlgahkekgceaa
/- THE CELL 'sum', in the pinned program and in every row, IS THE sha256 OF THE DUMP (.gsa) THAT YtejlgahkekgceaaProg.lean LOADS. Nothing in Lean hashes anything: it is a label: what it is worth is what the hold of that sum in a sandbox is worth. -/
noncomputable def Try.pinned : Pinned := { name := "ytejlgahkekgceaa", sum := "f599c6259df2965f6824c5f75481c0686e257146cc6e361e41f89d6f6c7c2e7f", checked := Try.checked }
namespace Rows
def none {H : Type} : Left H := { results := [], args := [] }

/-- 'alidadelaw03.DivTells': WHATEVER THE INPUT: true; the input reads as it did. -/
def divTellsSpec : ChangeSpec := { name := "divTells", fn := fun _ => fun
  | [d1, d2, d3] => { results := [.lit (.bool true)], args := [d1, d2, d3] }
  | _ => none }
def divTellsRow : OpenClaim := { program := "ytejlgahkekgceaa", sum := "f599c6259df2965f6824c5f75481c0686e257146cc6e361e41f89d6f6c7c2e7f", func := "alidade/alidadelaw03.DivTells", spec := "divTells", unfollowed := true, recurses := true, named := ["math/bits.overflowError"], apart := false }
def DivTellsSaid : Prop := divTellsRow.holds Try.pinned (OpenSpec.ofChange divTellsSpec)

/-- ITS FALSE NEIGHBOUR: 'it returns false'. Refute it at one input. -/
def divTellsWrong : ChangeSpec := { name := "divTells", fn := fun _ => fun
  | [d1, d2, d3] => { results := [.lit (.bool false)], args := [d1, d2, d3] }
  | _ => none }
def DivTellsWrongFalsely : Prop := divTellsRow.holds Try.pinned (OpenSpec.ofChange divTellsWrong)

/-- 'alidadelaw03.DivRoots': WHATEVER THE INPUT: true; the input reads as it did. -/
def divRootsSpec : ChangeSpec := { name := "divRoots", fn := fun _ => fun
  | [d] => { results := [.lit (.bool true)], args := [d] }
  | _ => none }
def divRootsRow : OpenClaim := { program := "ytejlgahkekgceaa", sum := "f599c6259df2965f6824c5f75481c0686e257146cc6e361e41f89d6f6c7c2e7f", func := "alidade/alidadelaw03.DivRoots", spec := "divRoots", unfollowed := true, recurses := true, named := ["math/bits.overflowError"], apart := false }
def DivRootsSaid : Prop := divRootsRow.holds Try.pinned (OpenSpec.ofChange divRootsSpec)

/-- ITS FALSE NEIGHBOUR: 'it returns false'. Refute it at one input. -/
def divRootsWrong : ChangeSpec := { name := "divRoots", fn := fun _ => fun
  | [d] => { results := [.lit (.bool false)], args := [d] }
  | _ => none }
def DivRootsWrongFalsely : Prop := divRootsRow.holds Try.pinned (OpenSpec.ofChange divRootsWrong)

/-- 'alidadelaw03.DivNames': WHATEVER THE INPUT: true; the input reads as it did. -/
def divNamesSpec : ChangeSpec := { name := "divNames", fn := fun _ => fun
  | [] => { results := [.lit (.bool true)], args := [] }
  | _ => none }
def divNamesRow : OpenClaim := { program := "ytejlgahkekgceaa", sum := "f599c6259df2965f6824c5f75481c0686e257146cc6e361e41f89d6f6c7c2e7f", func := "alidade/alidadelaw03.DivNames", spec := "divNames", unfollowed := true, recurses := true, named := ["math/bits.overflowError"], apart := false }
def DivNamesSaid : Prop := divNamesRow.holds Try.pinned (OpenSpec.ofChange divNamesSpec)

/-- ITS FALSE NEIGHBOUR: 'it returns false'. Refute it at one input. -/
def divNamesWrong : ChangeSpec := { name := "divNames", fn := fun _ => fun
  | [] => { results := [.lit (.bool false)], args := [] }
  | _ => none }
def DivNamesWrongFalsely : Prop := divNamesRow.holds Try.pinned (OpenSpec.ofChange divNamesWrong)

/-- 'alidadelaw03.DivParts': WHATEVER THE INPUT: true; the input reads as it did. -/
def divPartsSpec : ChangeSpec := { name := "divParts", fn := fun _ => fun
  | [d1, d2, d3, d4] => { results := [.lit (.bool true)], args := [d1, d2, d3, d4] }
  | _ => none }
def divPartsRow : OpenClaim := { program := "ytejlgahkekgceaa", sum := "f599c6259df2965f6824c5f75481c0686e257146cc6e361e41f89d6f6c7c2e7f", func := "alidade/alidadelaw03.DivParts", spec := "divParts", unfollowed := true, recurses := true, named := ["math/bits.overflowError"], apart := false }
def DivPartsSaid : Prop := divPartsRow.holds Try.pinned (OpenSpec.ofChange divPartsSpec)

/-- ITS FALSE NEIGHBOUR: 'it returns false'. Refute it at one input. -/
def divPartsWrong : ChangeSpec := { name := "divParts", fn := fun _ => fun
  | [d1, d2, d3, d4] => { results := [.lit (.bool false)], args := [d1, d2, d3, d4] }
  | _ => none }
def DivPartsWrongFalsely : Prop := divPartsRow.holds Try.pinned (OpenSpec.ofChange divPartsWrong)

/-- 'alidadelaw03.DivProducts': WHATEVER THE INPUT: true; the input reads as it did. -/
def divProductsSpec : ChangeSpec := { name := "divProducts", fn := fun _ => fun
  | [d1, d2, d3] => { results := [.lit (.bool true)], args := [d1, d2, d3] }
  | _ => none }
def divProductsRow : OpenClaim := { program := "ytejlgahkekgceaa", sum := "f599c6259df2965f6824c5f75481c0686e257146cc6e361e41f89d6f6c7c2e7f", func := "alidade/alidadelaw03.DivProducts", spec := "divProducts", unfollowed := true, recurses := true, named := ["math/bits.overflowError"], apart := false }
def DivProductsSaid : Prop := divProductsRow.holds Try.pinned (OpenSpec.ofChange divProductsSpec)

/-- ITS FALSE NEIGHBOUR: 'it returns false'. Refute it at one input. -/
def divProductsWrong : ChangeSpec := { name := "divProducts", fn := fun _ => fun
  | [d1, d2, d3] => { results := [.lit (.bool false)], args := [d1, d2, d3] }
  | _ => none }
def DivProductsWrongFalsely : Prop := divProductsRow.holds Try.pinned (OpenSpec.ofChange divProductsWrong)

/-- 'alidadelaw03.DivTwice': WHATEVER THE INPUT: true; the input reads as it did. -/
def divTwiceSpec : ChangeSpec := { name := "divTwice", fn := fun _ => fun
  | [d1, d2, d3, d4] => { results := [.lit (.bool true)], args := [d1, d2, d3, d4] }
  | _ => none }
def divTwiceRow : OpenClaim := { program := "ytejlgahkekgceaa", sum := "f599c6259df2965f6824c5f75481c0686e257146cc6e361e41f89d6f6c7c2e7f", func := "alidade/alidadelaw03.DivTwice", spec := "divTwice", unfollowed := true, recurses := true, named := ["math/bits.overflowError"], apart := false }
def DivTwiceSaid : Prop := divTwiceRow.holds Try.pinned (OpenSpec.ofChange divTwiceSpec)

/-- ITS FALSE NEIGHBOUR: 'it returns false'. Refute it at one input. -/
def divTwiceWrong : ChangeSpec := { name := "divTwice", fn := fun _ => fun
  | [d1, d2, d3, d4] => { results := [.lit (.bool false)], args := [d1, d2, d3, d4] }
  | _ => none }
def DivTwiceWrongFalsely : Prop := divTwiceRow.holds Try.pinned (OpenSpec.ofChange divTwiceWrong)

/-- 'alidadelaw03.DivSquares': WHATEVER THE INPUT: true; the input reads as it did. -/
def divSquaresSpec : ChangeSpec := { name := "divSquares", fn := fun _ => fun
  | [d1, d2] => { results := [.lit (.bool true)], args := [d1, d2] }
  | _ => none }
def divSquaresRow : OpenClaim := { program := "ytejlgahkekgceaa", sum := "f599c6259df2965f6824c5f75481c0686e257146cc6e361e41f89d6f6c7c2e7f", func := "alidade/alidadelaw03.DivSquares", spec := "divSquares", unfollowed := true, recurses := true, named := ["math/bits.overflowError"], apart := false }
def DivSquaresSaid : Prop := divSquaresRow.holds Try.pinned (OpenSpec.ofChange divSquaresSpec)

/-- ITS FALSE NEIGHBOUR: 'it returns false'. Refute it at one input. -/
def divSquaresWrong : ChangeSpec := { name := "divSquares", fn := fun _ => fun
  | [d1, d2] => { results := [.lit (.bool false)], args := [d1, d2] }
  | _ => none }
def DivSquaresWrongFalsely : Prop := divSquaresRow.holds Try.pinned (OpenSpec.ofChange divSquaresWrong)

/- THE SECOND FORM. 'bulk': how many values and letters a reading holds, each counted each time it is reached (what is shared counts as often as it is met; a slice's spare places count too). A statement '..UptoSaid' is the law's where the arguments, and the package variables that the reading takes, are together of bulk at most 1048576: NARROWER than '..Said'. Prove '..Said' where nothing that the law and all that it calls make is longer than what came in: it says more and counts as full. Else prove '..UptoSaid'. A law counts once. -/
mutual
def uptoBulk {H : Type} : DataW H → Nat
  | .lit (.string bytes) => bytes.length + 1
  | .lit _ => 1
  | .nil => 1
  | .ptr d => uptoBulk d + 1
  | .slice elems spare => uptoBulkAll elems + uptoBulkAll spare + 1
  | .agg parts => uptoBulkAll parts + 1
  | .iface _ d => uptoBulk d + 1
  | .map entries => uptoBulkEntries entries + 1
  | .held _ => 1
def uptoBulkAll {H : Type} : List (DataW H) → Nat
  | [] => 0
  | d :: r => uptoBulk d + uptoBulkAll r
def uptoBulkEntries {H : Type} : List (Lit × DataW H) → Nat
  | [] => 0
  | x :: r => uptoBulkEntry x + uptoBulkEntries r
def uptoBulkEntry {H : Type} : Lit × DataW H → Nat
  | (.string bytes, d) => bytes.length + uptoBulk d + 1
  | (_, d) => uptoBulk d + 1
 end
def uptoSmall : (H : Type) → List (DataW H) → Bool := fun _ ds => decide (uptoBulkAll ds ≤ 1048576)
def OpenSpec.upto (s : _root_.Go.ChangeSpec) : _root_.Go.OpenSpec := { _root_.Go.OpenSpec.ofChange s with cond := some uptoSmall }

/-- 'alidadelaw03.DivTells', WHERE WHAT IT READS IS OF BULK AT MOST 1048576: true; the input reads as it did. -/
def divTellsUptoRow : OpenClaim := { program := "ytejlgahkekgceaa", sum := "f599c6259df2965f6824c5f75481c0686e257146cc6e361e41f89d6f6c7c2e7f", func := "alidade/alidadelaw03.DivTells", spec := "divTells", unfollowed := true, recurses := true, named := ["math/bits.overflowError"], apart := false, narrowed := true }
def DivTellsUptoSaid : Prop := divTellsUptoRow.holds Try.pinned (OpenSpec.upto divTellsSpec)

/-- 'alidadelaw03.DivRoots', WHERE WHAT IT READS IS OF BULK AT MOST 1048576: true; the input reads as it did. -/
def divRootsUptoRow : OpenClaim := { program := "ytejlgahkekgceaa", sum := "f599c6259df2965f6824c5f75481c0686e257146cc6e361e41f89d6f6c7c2e7f", func := "alidade/alidadelaw03.DivRoots", spec := "divRoots", unfollowed := true, recurses := true, named := ["math/bits.overflowError"], apart := false, narrowed := true }
def DivRootsUptoSaid : Prop := divRootsUptoRow.holds Try.pinned (OpenSpec.upto divRootsSpec)

/-- 'alidadelaw03.DivNames', WHERE WHAT IT READS IS OF BULK AT MOST 1048576: true; the input reads as it did. -/
def divNamesUptoRow : OpenClaim := { program := "ytejlgahkekgceaa", sum := "f599c6259df2965f6824c5f75481c0686e257146cc6e361e41f89d6f6c7c2e7f", func := "alidade/alidadelaw03.DivNames", spec := "divNames", unfollowed := true, recurses := true, named := ["math/bits.overflowError"], apart := false, narrowed := true }
def DivNamesUptoSaid : Prop := divNamesUptoRow.holds Try.pinned (OpenSpec.upto divNamesSpec)

/-- 'alidadelaw03.DivParts', WHERE WHAT IT READS IS OF BULK AT MOST 1048576: true; the input reads as it did. -/
def divPartsUptoRow : OpenClaim := { program := "ytejlgahkekgceaa", sum := "f599c6259df2965f6824c5f75481c0686e257146cc6e361e41f89d6f6c7c2e7f", func := "alidade/alidadelaw03.DivParts", spec := "divParts", unfollowed := true, recurses := true, named := ["math/bits.overflowError"], apart := false, narrowed := true }
def DivPartsUptoSaid : Prop := divPartsUptoRow.holds Try.pinned (OpenSpec.upto divPartsSpec)

/-- 'alidadelaw03.DivProducts', WHERE WHAT IT READS IS OF BULK AT MOST 1048576: true; the input reads as it did. -/
def divProductsUptoRow : OpenClaim := { program := "ytejlgahkekgceaa", sum := "f599c6259df2965f6824c5f75481c0686e257146cc6e361e41f89d6f6c7c2e7f", func := "alidade/alidadelaw03.DivProducts", spec := "divProducts", unfollowed := true, recurses := true, named := ["math/bits.overflowError"], apart := false, narrowed := true }
def DivProductsUptoSaid : Prop := divProductsUptoRow.holds Try.pinned (OpenSpec.upto divProductsSpec)

/-- 'alidadelaw03.DivTwice', WHERE WHAT IT READS IS OF BULK AT MOST 1048576: true; the input reads as it did. -/
def divTwiceUptoRow : OpenClaim := { program := "ytejlgahkekgceaa", sum := "f599c6259df2965f6824c5f75481c0686e257146cc6e361e41f89d6f6c7c2e7f", func := "alidade/alidadelaw03.DivTwice", spec := "divTwice", unfollowed := true, recurses := true, named := ["math/bits.overflowError"], apart := false, narrowed := true }
def DivTwiceUptoSaid : Prop := divTwiceUptoRow.holds Try.pinned (OpenSpec.upto divTwiceSpec)

/-- 'alidadelaw03.DivSquares', WHERE WHAT IT READS IS OF BULK AT MOST 1048576: true; the input reads as it did. -/
def divSquaresUptoRow : OpenClaim := { program := "ytejlgahkekgceaa", sum := "f599c6259df2965f6824c5f75481c0686e257146cc6e361e41f89d6f6c7c2e7f", func := "alidade/alidadelaw03.DivSquares", spec := "divSquares", unfollowed := true, recurses := true, named := ["math/bits.overflowError"], apart := false, narrowed := true }
def DivSquaresUptoSaid : Prop := divSquaresUptoRow.holds Try.pinned (OpenSpec.upto divSquaresSpec)

end Rows
end Go.Proofs.Ytejlgahkekgceaa
