/-
  NARROWER THAN 'FOR EVERY INPUT', by the rows' own cells (each row's printed sentence says how): SexpBack: loops.
  DERIVED. THE GIVEN ROWS OF THIS SEAT. 9 by the template 'for every input the law returns true; each argument reads behind the call as it read before'; 0 by the template 'total and deterministic' (their statements: YtgikmpgpccfiiaaTotals.lean).
  GIVEN WITH THE SEED: the statements are not yours to turn. If you find one false, say at which input.
  Laid BY PROGRAM, IN A SANDBOX (cutbox-rows.mjs): the forced cells as the released guide's own fill.sh prints them over the translation b5025c60a5d41017… (all of the seat's roots in one cut). By AI agents, Wed Nov 11 2026. No macro, syntax, notation, axiom, sorry.
-/
import Derived.Test.YtgikmpgpccfiiaaChecked
import GoSem.Claim
import GoSem.ClaimJoined
import GoSem.ClaimMapViews
import Derived.JoinedTies
import Derived.KernelRfl
namespace Go.Proofs.Ytgikmpgpccfiiaa
/- THE CELL 'sum', in the pinned program and in every row, IS THE sha256 OF THE DUMP (.gsa) THAT YtgikmpgpccfiiaaProg.lean LOADS. Nothing in Lean hashes anything: it is a label: what it is worth is what the hold of that sum in a sandbox is worth. -/
noncomputable def Try.pinned : Pinned := { name := "ytgikmpgpccfiiaa", sum := "b5025c60a5d41017cd444abed922a7fa9c9fcfaa8ef5ca9f16e0b12a65322147", checked := Try.checked }
namespace Rows
def none {H : Type} : Left H := { results := [], args := [] }

/-- 'alidadelaw12.LexWords': WHATEVER THE INPUT: true; the input reads as it did. -/
def lexWordsSpec : ChangeSpec := { name := "lexWords", fn := fun _ => fun
  | [d1, d2] => { results := [.lit (.bool true)], args := [d1, d2] }
  | _ => none }
def lexWordsRow : OpenClaim := { program := "ytgikmpgpccfiiaa", sum := "b5025c60a5d41017cd444abed922a7fa9c9fcfaa8ef5ca9f16e0b12a65322147", func := "alidade/alidadelaw12.LexWords", spec := "lexWords", inPlace := ["internal/bytealg.IndexByteString", "internal/bytealg.IndexString"], unfollowed := true, recurses := true, named := ["internal/bytealg.MaxLen"], apart := false }
def LexWordsSaid : Prop := lexWordsRow.holds Try.pinned (OpenSpec.ofChange lexWordsSpec)

/-- ITS FALSE NEIGHBOUR: 'it returns false'. Refute it at one input. -/
def lexWordsWrong : ChangeSpec := { name := "lexWords", fn := fun _ => fun
  | [d1, d2] => { results := [.lit (.bool false)], args := [d1, d2] }
  | _ => none }
def LexWordsWrongFalsely : Prop := lexWordsRow.holds Try.pinned (OpenSpec.ofChange lexWordsWrong)

/-- 'alidadelaw12.LexStand': WHATEVER THE INPUT: true; the input reads as it did. -/
def lexStandSpec : ChangeSpec := { name := "lexStand", fn := fun _ => fun
  | [d] => { results := [.lit (.bool true)], args := [d] }
  | _ => none }
def lexStandRow : OpenClaim := { program := "ytgikmpgpccfiiaa", sum := "b5025c60a5d41017cd444abed922a7fa9c9fcfaa8ef5ca9f16e0b12a65322147", func := "alidade/alidadelaw12.LexStand", spec := "lexStand", inPlace := ["internal/bytealg.IndexByteString", "internal/bytealg.IndexString"], unfollowed := true, recurses := true, named := ["internal/bytealg.MaxLen"], apart := false }
def LexStandSaid : Prop := lexStandRow.holds Try.pinned (OpenSpec.ofChange lexStandSpec)

/-- ITS FALSE NEIGHBOUR: 'it returns false'. Refute it at one input. -/
def lexStandWrong : ChangeSpec := { name := "lexStand", fn := fun _ => fun
  | [d] => { results := [.lit (.bool false)], args := [d] }
  | _ => none }
def LexStandWrongFalsely : Prop := lexStandRow.holds Try.pinned (OpenSpec.ofChange lexStandWrong)

/-- 'alidadelaw12.LexParted': WHATEVER THE INPUT: true; the input reads as it did. -/
def lexPartedSpec : ChangeSpec := { name := "lexParted", fn := fun _ => fun
  | [d1, d2] => { results := [.lit (.bool true)], args := [d1, d2] }
  | _ => none }
def lexPartedRow : OpenClaim := { program := "ytgikmpgpccfiiaa", sum := "b5025c60a5d41017cd444abed922a7fa9c9fcfaa8ef5ca9f16e0b12a65322147", func := "alidade/alidadelaw12.LexParted", spec := "lexParted", inPlace := ["internal/bytealg.IndexByteString", "internal/bytealg.IndexString"], unfollowed := true, recurses := true, named := ["internal/bytealg.MaxLen"], apart := false }
def LexPartedSaid : Prop := lexPartedRow.holds Try.pinned (OpenSpec.ofChange lexPartedSpec)

/-- ITS FALSE NEIGHBOUR: 'it returns false'. Refute it at one input. -/
def lexPartedWrong : ChangeSpec := { name := "lexParted", fn := fun _ => fun
  | [d1, d2] => { results := [.lit (.bool false)], args := [d1, d2] }
  | _ => none }
def LexPartedWrongFalsely : Prop := lexPartedRow.holds Try.pinned (OpenSpec.ofChange lexPartedWrong)

/-- 'alidadelaw12.LexNames': WHATEVER THE INPUT: true; the input reads as it did. -/
def lexNamesSpec : ChangeSpec := { name := "lexNames", fn := fun _ => fun
  | [] => { results := [.lit (.bool true)], args := [] }
  | _ => none }
def lexNamesRow : OpenClaim := { program := "ytgikmpgpccfiiaa", sum := "b5025c60a5d41017cd444abed922a7fa9c9fcfaa8ef5ca9f16e0b12a65322147", func := "alidade/alidadelaw12.LexNames", spec := "lexNames", inPlace := ["internal/bytealg.IndexByteString", "internal/bytealg.IndexString", "internal/abi.NoEscape", "internal/bytealg.MakeNoZero"], unfollowed := true, recurses := true, named := ["internal/bytealg.MaxLen"], apart := false }
def LexNamesSaid : Prop := lexNamesRow.holds Try.pinned (OpenSpec.ofChange lexNamesSpec)

/-- ITS FALSE NEIGHBOUR: 'it returns false'. Refute it at one input. -/
def lexNamesWrong : ChangeSpec := { name := "lexNames", fn := fun _ => fun
  | [] => { results := [.lit (.bool false)], args := [] }
  | _ => none }
def LexNamesWrongFalsely : Prop := lexNamesRow.holds Try.pinned (OpenSpec.ofChange lexNamesWrong)

/-- 'alidadelaw13.SexpPlaces': WHATEVER THE INPUT: true; the input reads as it did. -/
def sexpPlacesSpec : ChangeSpec := { name := "sexpPlaces", fn := fun _ => fun
  | [d1, d2] => { results := [.lit (.bool true)], args := [d1, d2] }
  | _ => none }
def sexpPlacesRow : OpenClaim := { program := "ytgikmpgpccfiiaa", sum := "b5025c60a5d41017cd444abed922a7fa9c9fcfaa8ef5ca9f16e0b12a65322147", func := "alidade/alidadelaw13.SexpPlaces", spec := "sexpPlaces", inPlace := ["internal/bytealg.IndexByteString", "internal/bytealg.IndexString", "internal/abi.NoEscape"], unfollowed := true, recurses := true, named := ["internal/bytealg.MaxLen"], apart := false }
def SexpPlacesSaid : Prop := sexpPlacesRow.holds Try.pinned (OpenSpec.ofChange sexpPlacesSpec)

/-- ITS FALSE NEIGHBOUR: 'it returns false'. Refute it at one input. -/
def sexpPlacesWrong : ChangeSpec := { name := "sexpPlaces", fn := fun _ => fun
  | [d1, d2] => { results := [.lit (.bool false)], args := [d1, d2] }
  | _ => none }
def SexpPlacesWrongFalsely : Prop := sexpPlacesRow.holds Try.pinned (OpenSpec.ofChange sexpPlacesWrong)

/-- 'alidadelaw13.SexpDeep': WHATEVER THE INPUT: true; the input reads as it did. -/
def sexpDeepSpec : ChangeSpec := { name := "sexpDeep", fn := fun _ => fun
  | [d1, d2] => { results := [.lit (.bool true)], args := [d1, d2] }
  | _ => none }
def sexpDeepRow : OpenClaim := { program := "ytgikmpgpccfiiaa", sum := "b5025c60a5d41017cd444abed922a7fa9c9fcfaa8ef5ca9f16e0b12a65322147", func := "alidade/alidadelaw13.SexpDeep", spec := "sexpDeep", inPlace := ["internal/bytealg.IndexByteString", "internal/bytealg.IndexString", "internal/abi.NoEscape"], unfollowed := true, recurses := true, named := ["internal/bytealg.MaxLen"], apart := false }
def SexpDeepSaid : Prop := sexpDeepRow.holds Try.pinned (OpenSpec.ofChange sexpDeepSpec)

/-- ITS FALSE NEIGHBOUR: 'it returns false'. Refute it at one input. -/
def sexpDeepWrong : ChangeSpec := { name := "sexpDeep", fn := fun _ => fun
  | [d1, d2] => { results := [.lit (.bool false)], args := [d1, d2] }
  | _ => none }
def SexpDeepWrongFalsely : Prop := sexpDeepRow.holds Try.pinned (OpenSpec.ofChange sexpDeepWrong)

/-- 'alidadelaw13.SexpReads': WHATEVER THE INPUT: true; the input reads as it did. -/
def sexpReadsSpec : ChangeSpec := { name := "sexpReads", fn := fun _ => fun
  | [d1, d2] => { results := [.lit (.bool true)], args := [d1, d2] }
  | _ => none }
def sexpReadsRow : OpenClaim := { program := "ytgikmpgpccfiiaa", sum := "b5025c60a5d41017cd444abed922a7fa9c9fcfaa8ef5ca9f16e0b12a65322147", func := "alidade/alidadelaw13.SexpReads", spec := "sexpReads", inPlace := ["internal/bytealg.IndexByteString", "internal/bytealg.IndexString", "internal/abi.NoEscape"], unfollowed := true, recurses := true, named := ["internal/bytealg.MaxLen"], apart := false }
def SexpReadsSaid : Prop := sexpReadsRow.holds Try.pinned (OpenSpec.ofChange sexpReadsSpec)

/-- ITS FALSE NEIGHBOUR: 'it returns false'. Refute it at one input. -/
def sexpReadsWrong : ChangeSpec := { name := "sexpReads", fn := fun _ => fun
  | [d1, d2] => { results := [.lit (.bool false)], args := [d1, d2] }
  | _ => none }
def SexpReadsWrongFalsely : Prop := sexpReadsRow.holds Try.pinned (OpenSpec.ofChange sexpReadsWrong)

/-- 'alidadelaw13.SexpNames': WHATEVER THE INPUT: true; the input reads as it did. -/
def sexpNamesSpec : ChangeSpec := { name := "sexpNames", fn := fun _ => fun
  | [] => { results := [.lit (.bool true)], args := [] }
  | _ => none }
def sexpNamesRow : OpenClaim := { program := "ytgikmpgpccfiiaa", sum := "b5025c60a5d41017cd444abed922a7fa9c9fcfaa8ef5ca9f16e0b12a65322147", func := "alidade/alidadelaw13.SexpNames", spec := "sexpNames", inPlace := ["internal/bytealg.IndexByteString", "internal/bytealg.IndexString", "internal/abi.NoEscape"], unfollowed := true, recurses := true, named := ["internal/bytealg.MaxLen"], apart := false }
def SexpNamesSaid : Prop := sexpNamesRow.holds Try.pinned (OpenSpec.ofChange sexpNamesSpec)

/-- ITS FALSE NEIGHBOUR: 'it returns false'. Refute it at one input. -/
def sexpNamesWrong : ChangeSpec := { name := "sexpNames", fn := fun _ => fun
  | [] => { results := [.lit (.bool false)], args := [] }
  | _ => none }
def SexpNamesWrongFalsely : Prop := sexpNamesRow.holds Try.pinned (OpenSpec.ofChange sexpNamesWrong)

/-- 'alidadelaw13.SexpBack': WHATEVER THE INPUT: true; the input reads as it did. -/
def sexpBackSpec : ChangeSpec := { name := "sexpBack", fn := fun _ => fun
  | [d] => { results := [.lit (.bool true)], args := [d] }
  | _ => none }
def sexpBackRow : OpenClaim := { program := "ytgikmpgpccfiiaa", sum := "b5025c60a5d41017cd444abed922a7fa9c9fcfaa8ef5ca9f16e0b12a65322147", func := "alidade/alidadelaw13.SexpBack", spec := "sexpBack", inPlace := ["internal/bytealg.IndexByteString", "internal/bytealg.IndexString", "internal/abi.NoEscape"], unfollowed := true, recurses := true, named := ["internal/bytealg.MaxLen"], loops := true, apart := false }
def SexpBackSaid : Prop := sexpBackRow.holds Try.pinned (OpenSpec.ofChange sexpBackSpec)

/-- ITS FALSE NEIGHBOUR: 'it returns false'. Refute it at one input. -/
def sexpBackWrong : ChangeSpec := { name := "sexpBack", fn := fun _ => fun
  | [d] => { results := [.lit (.bool false)], args := [d] }
  | _ => none }
def SexpBackWrongFalsely : Prop := sexpBackRow.holds Try.pinned (OpenSpec.ofChange sexpBackWrong)

/- THE SECOND FORM. 'bulk': how many values and letters a reading holds, each counted each time it is reached (what is shared counts as often as it is met; a slice's spare places count too). A statement '..UptoSaid' is the law's where the arguments, and the package variables that the reading takes, are together of bulk at most 1048576: NARROWER than '..Said'. Prove '..Said' where nothing that the law and all that it calls make is longer than what came in: it says more and counts as full. Else prove '..UptoSaid'. A law counts once. -/
mutual
def uptoBulk {H : Type} : DataW H → Nat
  | .lit (.string bytes) => bytes.length + 1
  | .lit _ => 1
  | .nil => 1
  | .ptr d => uptoBulk d + 1
  | .slice elems spare => uptoBulkAll elems + uptoBulkAll spare + 1
  | .agg parts => uptoBulkAll parts + 1
  | .iface _ d => uptoBulk d + 1
  | .map entries => uptoBulkEntries entries + 1
  | .held _ => 1
def uptoBulkAll {H : Type} : List (DataW H) → Nat
  | [] => 0
  | d :: r => uptoBulk d + uptoBulkAll r
def uptoBulkEntries {H : Type} : List (Lit × DataW H) → Nat
  | [] => 0
  | x :: r => uptoBulkEntry x + uptoBulkEntries r
def uptoBulkEntry {H : Type} : Lit × DataW H → Nat
  | (.string bytes, d) => bytes.length + uptoBulk d + 1
  | (_, d) => uptoBulk d + 1
 end
def uptoSmall : (H : Type) → List (DataW H) → Bool := fun _ ds => decide (uptoBulkAll ds ≤ 1048576)
def OpenSpec.upto (s : _root_.Go.ChangeSpec) : _root_.Go.OpenSpec := { _root_.Go.OpenSpec.ofChange s with cond := some uptoSmall }

/-- 'alidadelaw12.LexWords', WHERE WHAT IT READS IS OF BULK AT MOST 1048576: true; the input reads as it did. -/
def lexWordsUptoRow : OpenClaim := { program := "ytgikmpgpccfiiaa", sum := "b5025c60a5d41017cd444abed922a7fa9c9fcfaa8ef5ca9f16e0b12a65322147", func := "alidade/alidadelaw12.LexWords", spec := "lexWords", inPlace := ["internal/bytealg.IndexByteString", "internal/bytealg.IndexString"], unfollowed := true, recurses := true, named := ["internal/bytealg.MaxLen"], apart := false, narrowed := true }
def LexWordsUptoSaid : Prop := lexWordsUptoRow.holds Try.pinned (OpenSpec.upto lexWordsSpec)

/-- 'alidadelaw12.LexStand', WHERE WHAT IT READS IS OF BULK AT MOST 1048576: true; the input reads as it did. -/
def lexStandUptoRow : OpenClaim := { program := "ytgikmpgpccfiiaa", sum := "b5025c60a5d41017cd444abed922a7fa9c9fcfaa8ef5ca9f16e0b12a65322147", func := "alidade/alidadelaw12.LexStand", spec := "lexStand", inPlace := ["internal/bytealg.IndexByteString", "internal/bytealg.IndexString"], unfollowed := true, recurses := true, named := ["internal/bytealg.MaxLen"], apart := false, narrowed := true }
def LexStandUptoSaid : Prop := lexStandUptoRow.holds Try.pinned (OpenSpec.upto lexStandSpec)

/-- 'alidadelaw12.LexParted', WHERE WHAT IT READS IS OF BULK AT MOST 1048576: true; the input reads as it did. -/
def lexPartedUptoRow : OpenClaim := { program := "ytgikmpgpccfiiaa", sum := "b5025c60a5d41017cd444abed922a7fa9c9fcfaa8ef5ca9f16e0b12a65322147", func := "alidade/alidadelaw12.LexParted", spec := "lexParted", inPlace := ["internal/bytealg.IndexByteString", "internal/bytealg.IndexString"], unfollowed := true, recurses := true, named := ["internal/bytealg.MaxLen"], apart := false, narrowed := true }
def LexPartedUptoSaid : Prop := lexPartedUptoRow.holds Try.pinned (OpenSpec.upto lexPartedSpec)

/-- 'alidadelaw12.LexNames', WHERE WHAT IT READS IS OF BULK AT MOST 1048576: true; the input reads as it did. -/
def lexNamesUptoRow : OpenClaim := { program := "ytgikmpgpccfiiaa", sum := "b5025c60a5d41017cd444abed922a7fa9c9fcfaa8ef5ca9f16e0b12a65322147", func := "alidade/alidadelaw12.LexNames", spec := "lexNames", inPlace := ["internal/bytealg.IndexByteString", "internal/bytealg.IndexString", "internal/abi.NoEscape", "internal/bytealg.MakeNoZero"], unfollowed := true, recurses := true, named := ["internal/bytealg.MaxLen"], apart := false, narrowed := true }
def LexNamesUptoSaid : Prop := lexNamesUptoRow.holds Try.pinned (OpenSpec.upto lexNamesSpec)

/-- 'alidadelaw13.SexpPlaces', WHERE WHAT IT READS IS OF BULK AT MOST 1048576: true; the input reads as it did. -/
def sexpPlacesUptoRow : OpenClaim := { program := "ytgikmpgpccfiiaa", sum := "b5025c60a5d41017cd444abed922a7fa9c9fcfaa8ef5ca9f16e0b12a65322147", func := "alidade/alidadelaw13.SexpPlaces", spec := "sexpPlaces", inPlace := ["internal/bytealg.IndexByteString", "internal/bytealg.IndexString", "internal/abi.NoEscape"], unfollowed := true, recurses := true, named := ["internal/bytealg.MaxLen"], apart := false, narrowed := true }
def SexpPlacesUptoSaid : Prop := sexpPlacesUptoRow.holds Try.pinned (OpenSpec.upto sexpPlacesSpec)

/-- 'alidadelaw13.SexpDeep', WHERE WHAT IT READS IS OF BULK AT MOST 1048576: true; the input reads as it did. -/
def sexpDeepUptoRow : OpenClaim := { program := "ytgikmpgpccfiiaa", sum := "b5025c60a5d41017cd444abed922a7fa9c9fcfaa8ef5ca9f16e0b12a65322147", func := "alidade/alidadelaw13.SexpDeep", spec := "sexpDeep", inPlace := ["internal/bytealg.IndexByteString", "internal/bytealg.IndexString", "internal/abi.NoEscape"], unfollowed := true, recurses := true, named := ["internal/bytealg.MaxLen"], apart := false, narrowed := true }
def SexpDeepUptoSaid : Prop := sexpDeepUptoRow.holds Try.pinned (OpenSpec.upto sexpDeepSpec)

/-- 'alidadelaw13.SexpReads', WHERE WHAT IT READS IS OF BULK AT MOST 1048576: true; the input reads as it did. -/
def sexpReadsUptoRow : OpenClaim := { program := "ytgikmpgpccfiiaa", sum := "b5025c60a5d41017cd444abed922a7fa9c9fcfaa8ef5ca9f16e0b12a65322147", func := "alidade/alidadelaw13.SexpReads", spec := "sexpReads", inPlace := ["internal/bytealg.IndexByteString", "internal/bytealg.IndexString", "internal/abi.NoEscape"], unfollowed := true, recurses := true, named := ["internal/bytealg.MaxLen"], apart := false, narrowed := true }
def SexpReadsUptoSaid : Prop := sexpReadsUptoRow.holds Try.pinned (OpenSpec.upto sexpReadsSpec)

/-- 'alidadelaw13.SexpNames', WHERE WHAT IT READS IS OF BULK AT MOST 1048576: true; the input reads as it did. -/
def sexpNamesUptoRow : OpenClaim := { program := "ytgikmpgpccfiiaa", sum := "b5025c60a5d41017cd444abed922a7fa9c9fcfaa8ef5ca9f16e0b12a65322147", func := "alidade/alidadelaw13.SexpNames", spec := "sexpNames", inPlace := ["internal/bytealg.IndexByteString", "internal/bytealg.IndexString", "internal/abi.NoEscape"], unfollowed := true, recurses := true, named := ["internal/bytealg.MaxLen"], apart := false, narrowed := true }
def SexpNamesUptoSaid : Prop := sexpNamesUptoRow.holds Try.pinned (OpenSpec.upto sexpNamesSpec)

/-- 'alidadelaw13.SexpBack', WHERE WHAT IT READS IS OF BULK AT MOST 1048576: true; the input reads as it did. -/
def sexpBackUptoRow : OpenClaim := { program := "ytgikmpgpccfiiaa", sum := "b5025c60a5d41017cd444abed922a7fa9c9fcfaa8ef5ca9f16e0b12a65322147", func := "alidade/alidadelaw13.SexpBack", spec := "sexpBack", inPlace := ["internal/bytealg.IndexByteString", "internal/bytealg.IndexString", "internal/abi.NoEscape"], unfollowed := true, recurses := true, named := ["internal/bytealg.MaxLen"], loops := true, apart := false, narrowed := true }
def SexpBackUptoSaid : Prop := sexpBackUptoRow.holds Try.pinned (OpenSpec.upto sexpBackSpec)

end Rows
end Go.Proofs.Ytgikmpgpccfiiaa
