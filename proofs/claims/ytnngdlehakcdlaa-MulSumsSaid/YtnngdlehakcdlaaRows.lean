/-
  No cell of these rows narrows 'for every input' (looked for: loops, veiled, ifaces, maps, wideKeys, modest, calm, conditions, laid).
  DERIVED. THE GIVEN ROWS OF THIS SEAT. 7 by the template 'for every input the law returns true; each argument reads behind the call as it read before'; 0 by the template 'total and deterministic' (their statements: YtnngdlehakcdlaaTotals.lean).
  GIVEN WITH THE SEED: the statements are not yours to turn. If you find one false, say at which input.
  Laid BY PROGRAM, IN A SANDBOX (cutbox-rows.mjs): the forced cells as the released guide's own fill.sh prints them over the translation 6704992e12f415be… (all of the seat's roots in one cut). By AI agents, Wed Nov 11 2026. No macro, syntax, notation, axiom, sorry.
-/
import Derived.Test.YtnngdlehakcdlaaChecked
import GoSem.Claim
import GoSem.ClaimJoined
import GoSem.ClaimMapViews
import Derived.JoinedTies
import Derived.KernelRfl
namespace Go.Proofs.Ytnngdlehakcdlaa
/- THE CELL 'sum', in the pinned program and in every row, IS THE sha256 OF THE DUMP (.gsa) THAT YtnngdlehakcdlaaProg.lean LOADS. Nothing in Lean hashes anything: it is a label: what it is worth is what the hold of that sum in a sandbox is worth. -/
noncomputable def Try.pinned : Pinned := { name := "ytnngdlehakcdlaa", sum := "6704992e12f415bef36b4c4a9e20727c3dfe82d0e998412f377bd39f8792d669", checked := Try.checked }
namespace Rows
def none {H : Type} : Left H := { results := [], args := [] }

/-- 'alidadelaw02.MulTells': WHATEVER THE INPUT: true; the input reads as it did. -/
def mulTellsSpec : ChangeSpec := { name := "mulTells", fn := fun _ => fun
  | [d1, d2, d3, d4, d5] => { results := [.lit (.bool true)], args := [d1, d2, d3, d4, d5] }
  | _ => none }
def mulTellsRow : OpenClaim := { program := "ytnngdlehakcdlaa", sum := "6704992e12f415bef36b4c4a9e20727c3dfe82d0e998412f377bd39f8792d669", func := "alidade/alidadelaw02.MulTells", spec := "mulTells", unfollowed := true, recurses := true, apart := false }
def MulTellsSaid : Prop := mulTellsRow.holds Try.pinned (OpenSpec.ofChange mulTellsSpec)

/-- ITS FALSE NEIGHBOUR: 'it returns false'. Refute it at one input. -/
def mulTellsWrong : ChangeSpec := { name := "mulTells", fn := fun _ => fun
  | [d1, d2, d3, d4, d5] => { results := [.lit (.bool false)], args := [d1, d2, d3, d4, d5] }
  | _ => none }
def MulTellsWrongFalsely : Prop := mulTellsRow.holds Try.pinned (OpenSpec.ofChange mulTellsWrong)

/-- 'alidadelaw02.MulSums': WHATEVER THE INPUT: true; the input reads as it did. -/
def mulSumsSpec : ChangeSpec := { name := "mulSums", fn := fun _ => fun
  | [d1, d2] => { results := [.lit (.bool true)], args := [d1, d2] }
  | _ => none }
def mulSumsRow : OpenClaim := { program := "ytnngdlehakcdlaa", sum := "6704992e12f415bef36b4c4a9e20727c3dfe82d0e998412f377bd39f8792d669", func := "alidade/alidadelaw02.MulSums", spec := "mulSums", unfollowed := true, recurses := true, apart := false }
def MulSumsSaid : Prop := mulSumsRow.holds Try.pinned (OpenSpec.ofChange mulSumsSpec)

/-- ITS FALSE NEIGHBOUR: 'it returns false'. Refute it at one input. -/
def mulSumsWrong : ChangeSpec := { name := "mulSums", fn := fun _ => fun
  | [d1, d2] => { results := [.lit (.bool false)], args := [d1, d2] }
  | _ => none }
def MulSumsWrongFalsely : Prop := mulSumsRow.holds Try.pinned (OpenSpec.ofChange mulSumsWrong)

/-- 'alidadelaw02.MulRing': WHATEVER THE INPUT: true; the input reads as it did. -/
def mulRingSpec : ChangeSpec := { name := "mulRing", fn := fun _ => fun
  | [d1, d2, d3] => { results := [.lit (.bool true)], args := [d1, d2, d3] }
  | _ => none }
def mulRingRow : OpenClaim := { program := "ytnngdlehakcdlaa", sum := "6704992e12f415bef36b4c4a9e20727c3dfe82d0e998412f377bd39f8792d669", func := "alidade/alidadelaw02.MulRing", spec := "mulRing", unfollowed := true, recurses := true, apart := false }
def MulRingSaid : Prop := mulRingRow.holds Try.pinned (OpenSpec.ofChange mulRingSpec)

/-- ITS FALSE NEIGHBOUR: 'it returns false'. Refute it at one input. -/
def mulRingWrong : ChangeSpec := { name := "mulRing", fn := fun _ => fun
  | [d1, d2, d3] => { results := [.lit (.bool false)], args := [d1, d2, d3] }
  | _ => none }
def MulRingWrongFalsely : Prop := mulRingRow.holds Try.pinned (OpenSpec.ofChange mulRingWrong)

/-- 'alidadelaw02.MulPowers': WHATEVER THE INPUT: true; the input reads as it did. -/
def mulPowersSpec : ChangeSpec := { name := "mulPowers", fn := fun _ => fun
  | [d1, d2, d3, d4, d5, d6] => { results := [.lit (.bool true)], args := [d1, d2, d3, d4, d5, d6] }
  | _ => none }
def mulPowersRow : OpenClaim := { program := "ytnngdlehakcdlaa", sum := "6704992e12f415bef36b4c4a9e20727c3dfe82d0e998412f377bd39f8792d669", func := "alidade/alidadelaw02.MulPowers", spec := "mulPowers", unfollowed := true, recurses := true, apart := false }
def MulPowersSaid : Prop := mulPowersRow.holds Try.pinned (OpenSpec.ofChange mulPowersSpec)

/-- ITS FALSE NEIGHBOUR: 'it returns false'. Refute it at one input. -/
def mulPowersWrong : ChangeSpec := { name := "mulPowers", fn := fun _ => fun
  | [d1, d2, d3, d4, d5, d6] => { results := [.lit (.bool false)], args := [d1, d2, d3, d4, d5, d6] }
  | _ => none }
def MulPowersWrongFalsely : Prop := mulPowersRow.holds Try.pinned (OpenSpec.ofChange mulPowersWrong)

/-- 'alidadelaw02.MulSquares': WHATEVER THE INPUT: true; the input reads as it did. -/
def mulSquaresSpec : ChangeSpec := { name := "mulSquares", fn := fun _ => fun
  | [d1, d2] => { results := [.lit (.bool true)], args := [d1, d2] }
  | _ => none }
def mulSquaresRow : OpenClaim := { program := "ytnngdlehakcdlaa", sum := "6704992e12f415bef36b4c4a9e20727c3dfe82d0e998412f377bd39f8792d669", func := "alidade/alidadelaw02.MulSquares", spec := "mulSquares", unfollowed := true, recurses := true, apart := false }
def MulSquaresSaid : Prop := mulSquaresRow.holds Try.pinned (OpenSpec.ofChange mulSquaresSpec)

/-- ITS FALSE NEIGHBOUR: 'it returns false'. Refute it at one input. -/
def mulSquaresWrong : ChangeSpec := { name := "mulSquares", fn := fun _ => fun
  | [d1, d2] => { results := [.lit (.bool false)], args := [d1, d2] }
  | _ => none }
def MulSquaresWrongFalsely : Prop := mulSquaresRow.holds Try.pinned (OpenSpec.ofChange mulSquaresWrong)

/-- 'alidadelaw02.MulOrder': WHATEVER THE INPUT: true; the input reads as it did. -/
def mulOrderSpec : ChangeSpec := { name := "mulOrder", fn := fun _ => fun
  | [d1, d2] => { results := [.lit (.bool true)], args := [d1, d2] }
  | _ => none }
def mulOrderRow : OpenClaim := { program := "ytnngdlehakcdlaa", sum := "6704992e12f415bef36b4c4a9e20727c3dfe82d0e998412f377bd39f8792d669", func := "alidade/alidadelaw02.MulOrder", spec := "mulOrder", unfollowed := true, recurses := true, apart := false }
def MulOrderSaid : Prop := mulOrderRow.holds Try.pinned (OpenSpec.ofChange mulOrderSpec)

/-- ITS FALSE NEIGHBOUR: 'it returns false'. Refute it at one input. -/
def mulOrderWrong : ChangeSpec := { name := "mulOrder", fn := fun _ => fun
  | [d1, d2] => { results := [.lit (.bool false)], args := [d1, d2] }
  | _ => none }
def MulOrderWrongFalsely : Prop := mulOrderRow.holds Try.pinned (OpenSpec.ofChange mulOrderWrong)

/-- 'alidadelaw02.MulNames': WHATEVER THE INPUT: true; the input reads as it did. -/
def mulNamesSpec : ChangeSpec := { name := "mulNames", fn := fun _ => fun
  | [] => { results := [.lit (.bool true)], args := [] }
  | _ => none }
def mulNamesRow : OpenClaim := { program := "ytnngdlehakcdlaa", sum := "6704992e12f415bef36b4c4a9e20727c3dfe82d0e998412f377bd39f8792d669", func := "alidade/alidadelaw02.MulNames", spec := "mulNames", unfollowed := true, recurses := true, apart := false }
def MulNamesSaid : Prop := mulNamesRow.holds Try.pinned (OpenSpec.ofChange mulNamesSpec)

/-- ITS FALSE NEIGHBOUR: 'it returns false'. Refute it at one input. -/
def mulNamesWrong : ChangeSpec := { name := "mulNames", fn := fun _ => fun
  | [] => { results := [.lit (.bool false)], args := [] }
  | _ => none }
def MulNamesWrongFalsely : Prop := mulNamesRow.holds Try.pinned (OpenSpec.ofChange mulNamesWrong)

/- THE SECOND FORM. 'bulk': how many values and letters a reading holds, each counted each time it is reached (what is shared counts as often as it is met; a slice's spare places count too). A statement '..UptoSaid' is the law's where the arguments, and the package variables that the reading takes, are together of bulk at most 1048576: NARROWER than '..Said'. Prove '..Said' where nothing that the law and all that it calls make is longer than what came in: it says more and counts as full. Else prove '..UptoSaid'. A law counts once. -/
mutual
def uptoBulk {H : Type} : DataW H → Nat
  | .lit (.string bytes) => bytes.length + 1
  | .lit _ => 1
  | .nil => 1
  | .ptr d => uptoBulk d + 1
  | .slice elems spare => uptoBulkAll elems + uptoBulkAll spare + 1
  | .agg parts => uptoBulkAll parts + 1
  | .iface _ d => uptoBulk d + 1
  | .map entries => uptoBulkEntries entries + 1
  | .held _ => 1
def uptoBulkAll {H : Type} : List (DataW H) → Nat
  | [] => 0
  | d :: r => uptoBulk d + uptoBulkAll r
def uptoBulkEntries {H : Type} : List (Lit × DataW H) → Nat
  | [] => 0
  | x :: r => uptoBulkEntry x + uptoBulkEntries r
def uptoBulkEntry {H : Type} : Lit × DataW H → Nat
  | (.string bytes, d) => bytes.length + uptoBulk d + 1
  | (_, d) => uptoBulk d + 1
 end
def uptoSmall : (H : Type) → List (DataW H) → Bool := fun _ ds => decide (uptoBulkAll ds ≤ 1048576)
def OpenSpec.upto (s : _root_.Go.ChangeSpec) : _root_.Go.OpenSpec := { _root_.Go.OpenSpec.ofChange s with cond := some uptoSmall }

/-- 'alidadelaw02.MulTells', WHERE WHAT IT READS IS OF BULK AT MOST 1048576: true; the input reads as it did. -/
def mulTellsUptoRow : OpenClaim := { program := "ytnngdlehakcdlaa", sum := "6704992e12f415bef36b4c4a9e20727c3dfe82d0e998412f377bd39f8792d669", func := "alidade/alidadelaw02.MulTells", spec := "mulTells", unfollowed := true, recurses := true, apart := false, narrowed := true }
def MulTellsUptoSaid : Prop := mulTellsUptoRow.holds Try.pinned (OpenSpec.upto mulTellsSpec)

/-- 'alidadelaw02.MulSums', WHERE WHAT IT READS IS OF BULK AT MOST 1048576: true; the input reads as it did. -/
def mulSumsUptoRow : OpenClaim := { program := "ytnngdlehakcdlaa", sum := "6704992e12f415bef36b4c4a9e20727c3dfe82d0e998412f377bd39f8792d669", func := "alidade/alidadelaw02.MulSums", spec := "mulSums", unfollowed := true, recurses := true, apart := false, narrowed := true }
def MulSumsUptoSaid : Prop := mulSumsUptoRow.holds Try.pinned (OpenSpec.upto mulSumsSpec)

/-- 'alidadelaw02.MulRing', WHERE WHAT IT READS IS OF BULK AT MOST 1048576: true; the input reads as it did. -/
def mulRingUptoRow : OpenClaim := { program := "ytnngdlehakcdlaa", sum := "6704992e12f415bef36b4c4a9e20727c3dfe82d0e998412f377bd39f8792d669", func := "alidade/alidadelaw02.MulRing", spec := "mulRing", unfollowed := true, recurses := true, apart := false, narrowed := true }
def MulRingUptoSaid : Prop := mulRingUptoRow.holds Try.pinned (OpenSpec.upto mulRingSpec)

/-- 'alidadelaw02.MulPowers', WHERE WHAT IT READS IS OF BULK AT MOST 1048576: true; the input reads as it did. -/
def mulPowersUptoRow : OpenClaim := { program := "ytnngdlehakcdlaa", sum := "6704992e12f415bef36b4c4a9e20727c3dfe82d0e998412f377bd39f8792d669", func := "alidade/alidadelaw02.MulPowers", spec := "mulPowers", unfollowed := true, recurses := true, apart := false, narrowed := true }
def MulPowersUptoSaid : Prop := mulPowersUptoRow.holds Try.pinned (OpenSpec.upto mulPowersSpec)

/-- 'alidadelaw02.MulSquares', WHERE WHAT IT READS IS OF BULK AT MOST 1048576: true; the input reads as it did. -/
def mulSquaresUptoRow : OpenClaim := { program := "ytnngdlehakcdlaa", sum := "6704992e12f415bef36b4c4a9e20727c3dfe82d0e998412f377bd39f8792d669", func := "alidade/alidadelaw02.MulSquares", spec := "mulSquares", unfollowed := true, recurses := true, apart := false, narrowed := true }
def MulSquaresUptoSaid : Prop := mulSquaresUptoRow.holds Try.pinned (OpenSpec.upto mulSquaresSpec)

/-- 'alidadelaw02.MulOrder', WHERE WHAT IT READS IS OF BULK AT MOST 1048576: true; the input reads as it did. -/
def mulOrderUptoRow : OpenClaim := { program := "ytnngdlehakcdlaa", sum := "6704992e12f415bef36b4c4a9e20727c3dfe82d0e998412f377bd39f8792d669", func := "alidade/alidadelaw02.MulOrder", spec := "mulOrder", unfollowed := true, recurses := true, apart := false, narrowed := true }
def MulOrderUptoSaid : Prop := mulOrderUptoRow.holds Try.pinned (OpenSpec.upto mulOrderSpec)

/-- 'alidadelaw02.MulNames', WHERE WHAT IT READS IS OF BULK AT MOST 1048576: true; the input reads as it did. -/
def mulNamesUptoRow : OpenClaim := { program := "ytnngdlehakcdlaa", sum := "6704992e12f415bef36b4c4a9e20727c3dfe82d0e998412f377bd39f8792d669", func := "alidade/alidadelaw02.MulNames", spec := "mulNames", unfollowed := true, recurses := true, apart := false, narrowed := true }
def MulNamesUptoSaid : Prop := mulNamesUptoRow.holds Try.pinned (OpenSpec.upto mulNamesSpec)

end Rows
end Go.Proofs.Ytnngdlehakcdlaa
