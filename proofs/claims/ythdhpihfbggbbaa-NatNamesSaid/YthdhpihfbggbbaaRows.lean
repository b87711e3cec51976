/-
  No cell of these rows narrows 'for every input' (looked for: loops, veiled, ifaces, maps, wideKeys, modest, calm, conditions, laid).
  DERIVED. THE GIVEN ROWS OF THIS SEAT. 7 by the template 'for every input the law returns true; each argument reads behind the call as it read before'; 0 by the template 'total and deterministic' (their statements: YthdhpihfbggbbaaTotals.lean).
  GIVEN WITH THE SEED: the statements are not yours to turn. If you find one false, say at which input.
  Laid BY PROGRAM, IN A SANDBOX (cutbox-rows.mjs): the forced cells as the released guide's own fill.sh prints them over the translation d4fa2a73410dea66… (all of the seat's roots in one cut). By AI agents, Wed Nov 11 2026. No macro, syntax, notation, axiom, sorry.
-/
import Derived.Test.YthdhpihfbggbbaaChecked
import GoSem.Claim
import GoSem.ClaimJoined
import GoSem.ClaimMapViews
import Derived.JoinedTies
import Derived.KernelRfl
namespace Go.Proofs.Ythdhpihfbggbbaa
/- THE CELL 'sum', in the pinned program and in every row, IS THE sha256 OF THE DUMP (.gsa) THAT YthdhpihfbggbbaaProg.lean LOADS. Nothing in Lean hashes anything: it is a label: what it is worth is what the hold of that sum in a sandbox is worth. -/
noncomputable def Try.pinned : Pinned := { name := "ythdhpihfbggbbaa", sum := "d4fa2a73410dea66c0b6b8e31ce81962b59e9598b47ffe3ef8e7a56ad161d97a", checked := Try.checked }
namespace Rows
def none {H : Type} : Left H := { results := [], args := [] }

/-- 'alidadelaw01.NatSums': WHATEVER THE INPUT: true; the input reads as it did. -/
def natSumsSpec : ChangeSpec := { name := "natSums", fn := fun _ => fun
  | [d1, d2, d3] => { results := [.lit (.bool true)], args := [d1, d2, d3] }
  | _ => none }
def natSumsRow : OpenClaim := { program := "ythdhpihfbggbbaa", sum := "d4fa2a73410dea66c0b6b8e31ce81962b59e9598b47ffe3ef8e7a56ad161d97a", func := "alidade/alidadelaw01.NatSums", spec := "natSums", unfollowed := true, recurses := true, apart := false }
def NatSumsSaid : Prop := natSumsRow.holds Try.pinned (OpenSpec.ofChange natSumsSpec)

/-- ITS FALSE NEIGHBOUR: 'it returns false'. Refute it at one input. -/
def natSumsWrong : ChangeSpec := { name := "natSums", fn := fun _ => fun
  | [d1, d2, d3] => { results := [.lit (.bool false)], args := [d1, d2, d3] }
  | _ => none }
def NatSumsWrongFalsely : Prop := natSumsRow.holds Try.pinned (OpenSpec.ofChange natSumsWrong)

/-- 'alidadelaw01.NatRow': WHATEVER THE INPUT: true; the input reads as it did. -/
def natRowSpec : ChangeSpec := { name := "natRow", fn := fun _ => fun
  | [d1, d2, d3] => { results := [.lit (.bool true)], args := [d1, d2, d3] }
  | _ => none }
def natRowRow : OpenClaim := { program := "ythdhpihfbggbbaa", sum := "d4fa2a73410dea66c0b6b8e31ce81962b59e9598b47ffe3ef8e7a56ad161d97a", func := "alidade/alidadelaw01.NatRow", spec := "natRow", unfollowed := true, recurses := true, apart := false }
def NatRowSaid : Prop := natRowRow.holds Try.pinned (OpenSpec.ofChange natRowSpec)

/-- ITS FALSE NEIGHBOUR: 'it returns false'. Refute it at one input. -/
def natRowWrong : ChangeSpec := { name := "natRow", fn := fun _ => fun
  | [d1, d2, d3] => { results := [.lit (.bool false)], args := [d1, d2, d3] }
  | _ => none }
def NatRowWrongFalsely : Prop := natRowRow.holds Try.pinned (OpenSpec.ofChange natRowWrong)

/-- 'alidadelaw01.NatShifts': WHATEVER THE INPUT: true; the input reads as it did. -/
def natShiftsSpec : ChangeSpec := { name := "natShifts", fn := fun _ => fun
  | [d1, d2, d3] => { results := [.lit (.bool true)], args := [d1, d2, d3] }
  | _ => none }
def natShiftsRow : OpenClaim := { program := "ythdhpihfbggbbaa", sum := "d4fa2a73410dea66c0b6b8e31ce81962b59e9598b47ffe3ef8e7a56ad161d97a", func := "alidade/alidadelaw01.NatShifts", spec := "natShifts", unfollowed := true, recurses := true, apart := false }
def NatShiftsSaid : Prop := natShiftsRow.holds Try.pinned (OpenSpec.ofChange natShiftsSpec)

/-- ITS FALSE NEIGHBOUR: 'it returns false'. Refute it at one input. -/
def natShiftsWrong : ChangeSpec := { name := "natShifts", fn := fun _ => fun
  | [d1, d2, d3] => { results := [.lit (.bool false)], args := [d1, d2, d3] }
  | _ => none }
def NatShiftsWrongFalsely : Prop := natShiftsRow.holds Try.pinned (OpenSpec.ofChange natShiftsWrong)

/-- 'alidadelaw01.NatBits': WHATEVER THE INPUT: true; the input reads as it did. -/
def natBitsSpec : ChangeSpec := { name := "natBits", fn := fun _ => fun
  | [d1, d2] => { results := [.lit (.bool true)], args := [d1, d2] }
  | _ => none }
def natBitsRow : OpenClaim := { program := "ythdhpihfbggbbaa", sum := "d4fa2a73410dea66c0b6b8e31ce81962b59e9598b47ffe3ef8e7a56ad161d97a", func := "alidade/alidadelaw01.NatBits", spec := "natBits", unfollowed := true, recurses := true, apart := false }
def NatBitsSaid : Prop := natBitsRow.holds Try.pinned (OpenSpec.ofChange natBitsSpec)

/-- ITS FALSE NEIGHBOUR: 'it returns false'. Refute it at one input. -/
def natBitsWrong : ChangeSpec := { name := "natBits", fn := fun _ => fun
  | [d1, d2] => { results := [.lit (.bool false)], args := [d1, d2] }
  | _ => none }
def NatBitsWrongFalsely : Prop := natBitsRow.holds Try.pinned (OpenSpec.ofChange natBitsWrong)

/-- 'alidadelaw01.NatWhole': WHATEVER THE INPUT: true; the input reads as it did. -/
def natWholeSpec : ChangeSpec := { name := "natWhole", fn := fun _ => fun
  | [d] => { results := [.lit (.bool true)], args := [d] }
  | _ => none }
def natWholeRow : OpenClaim := { program := "ythdhpihfbggbbaa", sum := "d4fa2a73410dea66c0b6b8e31ce81962b59e9598b47ffe3ef8e7a56ad161d97a", func := "alidade/alidadelaw01.NatWhole", spec := "natWhole", unfollowed := true, recurses := true, apart := false }
def NatWholeSaid : Prop := natWholeRow.holds Try.pinned (OpenSpec.ofChange natWholeSpec)

/-- ITS FALSE NEIGHBOUR: 'it returns false'. Refute it at one input. -/
def natWholeWrong : ChangeSpec := { name := "natWhole", fn := fun _ => fun
  | [d] => { results := [.lit (.bool false)], args := [d] }
  | _ => none }
def NatWholeWrongFalsely : Prop := natWholeRow.holds Try.pinned (OpenSpec.ofChange natWholeWrong)

/-- 'alidadelaw01.NatTells': WHATEVER THE INPUT: true; the input reads as it did. -/
def natTellsSpec : ChangeSpec := { name := "natTells", fn := fun _ => fun
  | [d1, d2, d3] => { results := [.lit (.bool true)], args := [d1, d2, d3] }
  | _ => none }
def natTellsRow : OpenClaim := { program := "ythdhpihfbggbbaa", sum := "d4fa2a73410dea66c0b6b8e31ce81962b59e9598b47ffe3ef8e7a56ad161d97a", func := "alidade/alidadelaw01.NatTells", spec := "natTells", unfollowed := true, recurses := true, apart := false }
def NatTellsSaid : Prop := natTellsRow.holds Try.pinned (OpenSpec.ofChange natTellsSpec)

/-- ITS FALSE NEIGHBOUR: 'it returns false'. Refute it at one input. -/
def natTellsWrong : ChangeSpec := { name := "natTells", fn := fun _ => fun
  | [d1, d2, d3] => { results := [.lit (.bool false)], args := [d1, d2, d3] }
  | _ => none }
def NatTellsWrongFalsely : Prop := natTellsRow.holds Try.pinned (OpenSpec.ofChange natTellsWrong)

/-- 'alidadelaw01.NatNames': WHATEVER THE INPUT: true; the input reads as it did. -/
def natNamesSpec : ChangeSpec := { name := "natNames", fn := fun _ => fun
  | [] => { results := [.lit (.bool true)], args := [] }
  | _ => none }
def natNamesRow : OpenClaim := { program := "ythdhpihfbggbbaa", sum := "d4fa2a73410dea66c0b6b8e31ce81962b59e9598b47ffe3ef8e7a56ad161d97a", func := "alidade/alidadelaw01.NatNames", spec := "natNames", unfollowed := true, recurses := true, apart := false }
def NatNamesSaid : Prop := natNamesRow.holds Try.pinned (OpenSpec.ofChange natNamesSpec)

/-- ITS FALSE NEIGHBOUR: 'it returns false'. Refute it at one input. -/
def natNamesWrong : ChangeSpec := { name := "natNames", fn := fun _ => fun
  | [] => { results := [.lit (.bool false)], args := [] }
  | _ => none }
def NatNamesWrongFalsely : Prop := natNamesRow.holds Try.pinned (OpenSpec.ofChange natNamesWrong)

/- THE SECOND FORM. 'bulk': how many values and letters a reading holds, each counted each time it is reached (what is shared counts as often as it is met; a slice's spare places count too). A statement '..UptoSaid' is the law's where the arguments, and the package variables that the reading takes, are together of bulk at most 1048576: NARROWER than '..Said'. Prove '..Said' where nothing that the law and all that it calls make is longer than what came in: it says more and counts as full. Else prove '..UptoSaid'. A law counts once. -/
mutual
def uptoBulk {H : Type} : DataW H → Nat
  | .lit (.string bytes) => bytes.length + 1
  | .lit _ => 1
  | .nil => 1
  | .ptr d => uptoBulk d + 1
  | .slice elems spare => uptoBulkAll elems + uptoBulkAll spare + 1
  | .agg parts => uptoBulkAll parts + 1
  | .iface _ d => uptoBulk d + 1
  | .map entries => uptoBulkEntries entries + 1
  | .held _ => 1
def uptoBulkAll {H : Type} : List (DataW H) → Nat
  | [] => 0
  | d :: r => uptoBulk d + uptoBulkAll r
def uptoBulkEntries {H : Type} : List (Lit × DataW H) → Nat
  | [] => 0
  | x :: r => uptoBulkEntry x + uptoBulkEntries r
def uptoBulkEntry {H : Type} : Lit × DataW H → Nat
  | (.string bytes, d) => bytes.length + uptoBulk d + 1
  | (_, d) => uptoBulk d + 1
 end
def uptoSmall : (H : Type) → List (DataW H) → Bool := fun _ ds => decide (uptoBulkAll ds ≤ 1048576)
def OpenSpec.upto (s : _root_.Go.ChangeSpec) : _root_.Go.OpenSpec := { _root_.Go.OpenSpec.ofChange s with cond := some uptoSmall }

/-- 'alidadelaw01.NatSums', WHERE WHAT IT READS IS OF BULK AT MOST 1048576: true; the input reads as it did. -/
def natSumsUptoRow : OpenClaim := { program := "ythdhpihfbggbbaa", sum := "d4fa2a73410dea66c0b6b8e31ce81962b59e9598b47ffe3ef8e7a56ad161d97a", func := "alidade/alidadelaw01.NatSums", spec := "natSums", unfollowed := true, recurses := true, apart := false, narrowed := true }
def NatSumsUptoSaid : Prop := natSumsUptoRow.holds Try.pinned (OpenSpec.upto natSumsSpec)

/-- 'alidadelaw01.NatRow', WHERE WHAT IT READS IS OF BULK AT MOST 1048576: true; the input reads as it did. -/
def natRowUptoRow : OpenClaim := { program := "ythdhpihfbggbbaa", sum := "d4fa2a73410dea66c0b6b8e31ce81962b59e9598b47ffe3ef8e7a56ad161d97a", func := "alidade/alidadelaw01.NatRow", spec := "natRow", unfollowed := true, recurses := true, apart := false, narrowed := true }
def NatRowUptoSaid : Prop := natRowUptoRow.holds Try.pinned (OpenSpec.upto natRowSpec)

/-- 'alidadelaw01.NatShifts', WHERE WHAT IT READS IS OF BULK AT MOST 1048576: true; the input reads as it did. -/
def natShiftsUptoRow : OpenClaim := { program := "ythdhpihfbggbbaa", sum := "d4fa2a73410dea66c0b6b8e31ce81962b59e9598b47ffe3ef8e7a56ad161d97a", func := "alidade/alidadelaw01.NatShifts", spec := "natShifts", unfollowed := true, recurses := true, apart := false, narrowed := true }
def NatShiftsUptoSaid : Prop := natShiftsUptoRow.holds Try.pinned (OpenSpec.upto natShiftsSpec)

/-- 'alidadelaw01.NatBits', WHERE WHAT IT READS IS OF BULK AT MOST 1048576: true; the input reads as it did. -/
def natBitsUptoRow : OpenClaim := { program := "ythdhpihfbggbbaa", sum := "d4fa2a73410dea66c0b6b8e31ce81962b59e9598b47ffe3ef8e7a56ad161d97a", func := "alidade/alidadelaw01.NatBits", spec := "natBits", unfollowed := true, recurses := true, apart := false, narrowed := true }
def NatBitsUptoSaid : Prop := natBitsUptoRow.holds Try.pinned (OpenSpec.upto natBitsSpec)

/-- 'alidadelaw01.NatWhole', WHERE WHAT IT READS IS OF BULK AT MOST 1048576: true; the input reads as it did. -/
def natWholeUptoRow : OpenClaim := { program := "ythdhpihfbggbbaa", sum := "d4fa2a73410dea66c0b6b8e31ce81962b59e9598b47ffe3ef8e7a56ad161d97a", func := "alidade/alidadelaw01.NatWhole", spec := "natWhole", unfollowed := true, recurses := true, apart := false, narrowed := true }
def NatWholeUptoSaid : Prop := natWholeUptoRow.holds Try.pinned (OpenSpec.upto natWholeSpec)

/-- 'alidadelaw01.NatTells', WHERE WHAT IT READS IS OF BULK AT MOST 1048576: true; the input reads as it did. -/
def natTellsUptoRow : OpenClaim := { program := "ythdhpihfbggbbaa", sum := "d4fa2a73410dea66c0b6b8e31ce81962b59e9598b47ffe3ef8e7a56ad161d97a", func := "alidade/alidadelaw01.NatTells", spec := "natTells", unfollowed := true, recurses := true, apart := false, narrowed := true }
def NatTellsUptoSaid : Prop := natTellsUptoRow.holds Try.pinned (OpenSpec.upto natTellsSpec)

/-- 'alidadelaw01.NatNames', WHERE WHAT IT READS IS OF BULK AT MOST 1048576: true; the input reads as it did. -/
def natNamesUptoRow : OpenClaim := { program := "ythdhpihfbggbbaa", sum := "d4fa2a73410dea66c0b6b8e31ce81962b59e9598b47ffe3ef8e7a56ad161d97a", func := "alidade/alidadelaw01.NatNames", spec := "natNames", unfollowed := true, recurses := true, apart := false, narrowed := true }
def NatNamesUptoSaid : Prop := natNamesUptoRow.holds Try.pinned (OpenSpec.upto natNamesSpec)

end Rows
end Go.Proofs.Ythdhpihfbggbbaa
