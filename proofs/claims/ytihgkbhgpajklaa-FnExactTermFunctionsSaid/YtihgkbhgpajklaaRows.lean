/-
  No cell of these rows narrows 'for every input' (looked for: loops, veiled, ifaces, maps, wideKeys, modest, calm, conditions, laid).
  DERIVED. THE GIVEN ROWS OF THIS SEAT. 12 by the template 'for every input the law returns true; each argument reads behind the call as it read before'; 0 by the template 'total and deterministic' (their statements: YtihgkbhgpajklaaTotals.lean).
  GIVEN WITH THE SEED: the statements are not yours to turn. If you find one false, say at which input.
  Laid BY PROGRAM, IN A SANDBOX (cutbox-rows.mjs): the forced cells as the released guide's own fill.sh prints them over the translation d3026f389b2f1aab… (all of the seat's roots in one cut). By AI agents, Wed Nov 11 2026. No macro, syntax, notation, axiom, sorry.
-/
import Derived.Test.YtihgkbhgpajklaaChecked
import GoSem.Claim
import GoSem.ClaimJoined
import GoSem.ClaimMapViews
import Derived.JoinedTies
import Derived.KernelRfl
namespace Go.Proofs.Ytihgkbhgpajklaa
/- THE CELL 'sum', in the pinned program and in every row, IS THE sha256 OF THE DUMP (.gsa) THAT YtihgkbhgpajklaaProg.lean LOADS. Nothing in Lean hashes anything: it is a label: what it is worth is what the hold of that sum in a sandbox is worth. -/
noncomputable def Try.pinned : Pinned := { name := "ytihgkbhgpajklaa", sum := "d3026f389b2f1aab2a67a684ec59d173da1a18bea982a2c17af47e47a46519c8", checked := Try.checked }
namespace Rows
def none {H : Type} : Left H := { results := [], args := [] }

/-- 'laws.FnExactMeetRelations': WHATEVER THE INPUT: true; the input reads as it did. -/
def fnExactMeetRelationsSpec : ChangeSpec := { name := "fnExactMeetRelations", fn := fun _ => fun
  | [d1, d2, d3] => { results := [.lit (.bool true)], args := [d1, d2, d3] }
  | _ => none }
def fnExactMeetRelationsRow : OpenClaim := { program := "ytihgkbhgpajklaa", sum := "d3026f389b2f1aab2a67a684ec59d173da1a18bea982a2c17af47e47a46519c8", func := "loop.example/g01078/laws.FnExactMeetRelations", spec := "fnExactMeetRelations", apart := false }
def FnExactMeetRelationsSaid : Prop := fnExactMeetRelationsRow.holds Try.pinned (OpenSpec.ofChange fnExactMeetRelationsSpec)

/-- ITS FALSE NEIGHBOUR: 'it returns false'. Refute it at one input. -/
def fnExactMeetRelationsWrong : ChangeSpec := { name := "fnExactMeetRelations", fn := fun _ => fun
  | [d1, d2, d3] => { results := [.lit (.bool false)], args := [d1, d2, d3] }
  | _ => none }
def FnExactMeetRelationsWrongFalsely : Prop := fnExactMeetRelationsRow.holds Try.pinned (OpenSpec.ofChange fnExactMeetRelationsWrong)

/-- 'laws.FnExactDoesKeep': WHATEVER THE INPUT: true; the input reads as it did. -/
def fnExactDoesKeepSpec : ChangeSpec := { name := "fnExactDoesKeep", fn := fun _ => fun
  | [d1, d2, d3] => { results := [.lit (.bool true)], args := [d1, d2, d3] }
  | _ => none }
def fnExactDoesKeepRow : OpenClaim := { program := "ytihgkbhgpajklaa", sum := "d3026f389b2f1aab2a67a684ec59d173da1a18bea982a2c17af47e47a46519c8", func := "loop.example/g01078/laws.FnExactDoesKeep", spec := "fnExactDoesKeep", apart := false }
def FnExactDoesKeepSaid : Prop := fnExactDoesKeepRow.holds Try.pinned (OpenSpec.ofChange fnExactDoesKeepSpec)

/-- ITS FALSE NEIGHBOUR: 'it returns false'. Refute it at one input. -/
def fnExactDoesKeepWrong : ChangeSpec := { name := "fnExactDoesKeep", fn := fun _ => fun
  | [d1, d2, d3] => { results := [.lit (.bool false)], args := [d1, d2, d3] }
  | _ => none }
def FnExactDoesKeepWrongFalsely : Prop := fnExactDoesKeepRow.holds Try.pinned (OpenSpec.ofChange fnExactDoesKeepWrong)

/-- 'laws.FnExactCloneSize': WHATEVER THE INPUT: true; the input reads as it did. -/
def fnExactCloneSizeSpec : ChangeSpec := { name := "fnExactCloneSize", fn := fun _ => fun
  | [d1, d2] => { results := [.lit (.bool true)], args := [d1, d2] }
  | _ => none }
def fnExactCloneSizeRow : OpenClaim := { program := "ytihgkbhgpajklaa", sum := "d3026f389b2f1aab2a67a684ec59d173da1a18bea982a2c17af47e47a46519c8", func := "loop.example/g01078/laws.FnExactCloneSize", spec := "fnExactCloneSize", apart := false }
def FnExactCloneSizeSaid : Prop := fnExactCloneSizeRow.holds Try.pinned (OpenSpec.ofChange fnExactCloneSizeSpec)

/-- ITS FALSE NEIGHBOUR: 'it returns false'. Refute it at one input. -/
def fnExactCloneSizeWrong : ChangeSpec := { name := "fnExactCloneSize", fn := fun _ => fun
  | [d1, d2] => { results := [.lit (.bool false)], args := [d1, d2] }
  | _ => none }
def FnExactCloneSizeWrongFalsely : Prop := fnExactCloneSizeRow.holds Try.pinned (OpenSpec.ofChange fnExactCloneSizeWrong)

/-- 'laws.FnExactIsTermFunction': WHATEVER THE INPUT: true; the input reads as it did. -/
def fnExactIsTermFunctionSpec : ChangeSpec := { name := "fnExactIsTermFunction", fn := fun _ => fun
  | [d1, d2] => { results := [.lit (.bool true)], args := [d1, d2] }
  | _ => none }
def fnExactIsTermFunctionRow : OpenClaim := { program := "ytihgkbhgpajklaa", sum := "d3026f389b2f1aab2a67a684ec59d173da1a18bea982a2c17af47e47a46519c8", func := "loop.example/g01078/laws.FnExactIsTermFunction", spec := "fnExactIsTermFunction", apart := false }
def FnExactIsTermFunctionSaid : Prop := fnExactIsTermFunctionRow.holds Try.pinned (OpenSpec.ofChange fnExactIsTermFunctionSpec)

/-- ITS FALSE NEIGHBOUR: 'it returns false'. Refute it at one input. -/
def fnExactIsTermFunctionWrong : ChangeSpec := { name := "fnExactIsTermFunction", fn := fun _ => fun
  | [d1, d2] => { results := [.lit (.bool false)], args := [d1, d2] }
  | _ => none }
def FnExactIsTermFunctionWrongFalsely : Prop := fnExactIsTermFunctionRow.holds Try.pinned (OpenSpec.ofChange fnExactIsTermFunctionWrong)

/-- 'laws.FnExactPolynomialSize': WHATEVER THE INPUT: true; the input reads as it did. -/
def fnExactPolynomialSizeSpec : ChangeSpec := { name := "fnExactPolynomialSize", fn := fun _ => fun
  | [d1, d2] => { results := [.lit (.bool true)], args := [d1, d2] }
  | _ => none }
def fnExactPolynomialSizeRow : OpenClaim := { program := "ytihgkbhgpajklaa", sum := "d3026f389b2f1aab2a67a684ec59d173da1a18bea982a2c17af47e47a46519c8", func := "loop.example/g01078/laws.FnExactPolynomialSize", spec := "fnExactPolynomialSize", apart := false }
def FnExactPolynomialSizeSaid : Prop := fnExactPolynomialSizeRow.holds Try.pinned (OpenSpec.ofChange fnExactPolynomialSizeSpec)

/-- ITS FALSE NEIGHBOUR: 'it returns false'. Refute it at one input. -/
def fnExactPolynomialSizeWrong : ChangeSpec := { name := "fnExactPolynomialSize", fn := fun _ => fun
  | [d1, d2] => { results := [.lit (.bool false)], args := [d1, d2] }
  | _ => none }
def FnExactPolynomialSizeWrongFalsely : Prop := fnExactPolynomialSizeRow.holds Try.pinned (OpenSpec.ofChange fnExactPolynomialSizeWrong)

/-- 'laws.FnExactFirstBreak': WHATEVER THE INPUT: true; the input reads as it did. -/
def fnExactFirstBreakSpec : ChangeSpec := { name := "fnExactFirstBreak", fn := fun _ => fun
  | [d1, d2, d3] => { results := [.lit (.bool true)], args := [d1, d2, d3] }
  | _ => none }
def fnExactFirstBreakRow : OpenClaim := { program := "ytihgkbhgpajklaa", sum := "d3026f389b2f1aab2a67a684ec59d173da1a18bea982a2c17af47e47a46519c8", func := "loop.example/g01078/laws.FnExactFirstBreak", spec := "fnExactFirstBreak", apart := false }
def FnExactFirstBreakSaid : Prop := fnExactFirstBreakRow.holds Try.pinned (OpenSpec.ofChange fnExactFirstBreakSpec)

/-- ITS FALSE NEIGHBOUR: 'it returns false'. Refute it at one input. -/
def fnExactFirstBreakWrong : ChangeSpec := { name := "fnExactFirstBreak", fn := fun _ => fun
  | [d1, d2, d3] => { results := [.lit (.bool false)], args := [d1, d2, d3] }
  | _ => none }
def FnExactFirstBreakWrongFalsely : Prop := fnExactFirstBreakRow.holds Try.pinned (OpenSpec.ofChange fnExactFirstBreakWrong)

/-- 'laws.FnExactSameClone': WHATEVER THE INPUT: true; the input reads as it did. -/
def fnExactSameCloneSpec : ChangeSpec := { name := "fnExactSameClone", fn := fun _ => fun
  | [d1, d2, d3] => { results := [.lit (.bool true)], args := [d1, d2, d3] }
  | _ => none }
def fnExactSameCloneRow : OpenClaim := { program := "ytihgkbhgpajklaa", sum := "d3026f389b2f1aab2a67a684ec59d173da1a18bea982a2c17af47e47a46519c8", func := "loop.example/g01078/laws.FnExactSameClone", spec := "fnExactSameClone", apart := false }
def FnExactSameCloneSaid : Prop := fnExactSameCloneRow.holds Try.pinned (OpenSpec.ofChange fnExactSameCloneSpec)

/-- ITS FALSE NEIGHBOUR: 'it returns false'. Refute it at one input. -/
def fnExactSameCloneWrong : ChangeSpec := { name := "fnExactSameClone", fn := fun _ => fun
  | [d1, d2, d3] => { results := [.lit (.bool false)], args := [d1, d2, d3] }
  | _ => none }
def FnExactSameCloneWrongFalsely : Prop := fnExactSameCloneRow.holds Try.pinned (OpenSpec.ofChange fnExactSameCloneWrong)

/-- 'laws.FnExactConstantPolymorphisms': WHATEVER THE INPUT: true; the input reads as it did. -/
def fnExactConstantPolymorphismsSpec : ChangeSpec := { name := "fnExactConstantPolymorphisms", fn := fun _ => fun
  | [d1, d2] => { results := [.lit (.bool true)], args := [d1, d2] }
  | _ => none }
def fnExactConstantPolymorphismsRow : OpenClaim := { program := "ytihgkbhgpajklaa", sum := "d3026f389b2f1aab2a67a684ec59d173da1a18bea982a2c17af47e47a46519c8", func := "loop.example/g01078/laws.FnExactConstantPolymorphisms", spec := "fnExactConstantPolymorphisms", apart := false }
def FnExactConstantPolymorphismsSaid : Prop := fnExactConstantPolymorphismsRow.holds Try.pinned (OpenSpec.ofChange fnExactConstantPolymorphismsSpec)

/-- ITS FALSE NEIGHBOUR: 'it returns false'. Refute it at one input. -/
def fnExactConstantPolymorphismsWrong : ChangeSpec := { name := "fnExactConstantPolymorphisms", fn := fun _ => fun
  | [d1, d2] => { results := [.lit (.bool false)], args := [d1, d2] }
  | _ => none }
def FnExactConstantPolymorphismsWrongFalsely : Prop := fnExactConstantPolymorphismsRow.holds Try.pinned (OpenSpec.ofChange fnExactConstantPolymorphismsWrong)

/-- 'laws.FnExactRelationOf': WHATEVER THE INPUT: true; the input reads as it did. -/
def fnExactRelationOfSpec : ChangeSpec := { name := "fnExactRelationOf", fn := fun _ => fun
  | [d1, d2, d3] => { results := [.lit (.bool true)], args := [d1, d2, d3] }
  | _ => none }
def fnExactRelationOfRow : OpenClaim := { program := "ytihgkbhgpajklaa", sum := "d3026f389b2f1aab2a67a684ec59d173da1a18bea982a2c17af47e47a46519c8", func := "loop.example/g01078/laws.FnExactRelationOf", spec := "fnExactRelationOf", inPlace := ["internal/reflectlite.ValueOf", "internal/reflectlite.Swapper", "(internal/reflectlite.Value).Len"], unfollowed := true, recurses := true, apart := false }
def FnExactRelationOfSaid : Prop := fnExactRelationOfRow.holds Try.pinned (OpenSpec.ofChange fnExactRelationOfSpec)

/-- ITS FALSE NEIGHBOUR: 'it returns false'. Refute it at one input. -/
def fnExactRelationOfWrong : ChangeSpec := { name := "fnExactRelationOf", fn := fun _ => fun
  | [d1, d2, d3] => { results := [.lit (.bool false)], args := [d1, d2, d3] }
  | _ => none }
def FnExactRelationOfWrongFalsely : Prop := fnExactRelationOfRow.holds Try.pinned (OpenSpec.ofChange fnExactRelationOfWrong)

/-- 'laws.FnExactFixPlace': WHATEVER THE INPUT: true; the input reads as it did. -/
def fnExactFixPlaceSpec : ChangeSpec := { name := "fnExactFixPlace", fn := fun _ => fun
  | [d1, d2, d3, d4] => { results := [.lit (.bool true)], args := [d1, d2, d3, d4] }
  | _ => none }
def fnExactFixPlaceRow : OpenClaim := { program := "ytihgkbhgpajklaa", sum := "d3026f389b2f1aab2a67a684ec59d173da1a18bea982a2c17af47e47a46519c8", func := "loop.example/g01078/laws.FnExactFixPlace", spec := "fnExactFixPlace", inPlace := ["internal/reflectlite.ValueOf", "internal/reflectlite.Swapper", "(internal/reflectlite.Value).Len"], unfollowed := true, recurses := true, apart := false }
def FnExactFixPlaceSaid : Prop := fnExactFixPlaceRow.holds Try.pinned (OpenSpec.ofChange fnExactFixPlaceSpec)

/-- ITS FALSE NEIGHBOUR: 'it returns false'. Refute it at one input. -/
def fnExactFixPlaceWrong : ChangeSpec := { name := "fnExactFixPlace", fn := fun _ => fun
  | [d1, d2, d3, d4] => { results := [.lit (.bool false)], args := [d1, d2, d3, d4] }
  | _ => none }
def FnExactFixPlaceWrongFalsely : Prop := fnExactFixPlaceRow.holds Try.pinned (OpenSpec.ofChange fnExactFixPlaceWrong)

/-- 'laws.FnExactTermFunctions': WHATEVER THE INPUT: true; the input reads as it did. -/
def fnExactTermFunctionsSpec : ChangeSpec := { name := "fnExactTermFunctions", fn := fun _ => fun
  | [d1, d2] => { results := [.lit (.bool true)], args := [d1, d2] }
  | _ => none }
def fnExactTermFunctionsRow : OpenClaim := { program := "ytihgkbhgpajklaa", sum := "d3026f389b2f1aab2a67a684ec59d173da1a18bea982a2c17af47e47a46519c8", func := "loop.example/g01078/laws.FnExactTermFunctions", spec := "fnExactTermFunctions", apart := false }
def FnExactTermFunctionsSaid : Prop := fnExactTermFunctionsRow.holds Try.pinned (OpenSpec.ofChange fnExactTermFunctionsSpec)

/-- ITS FALSE NEIGHBOUR: 'it returns false'. Refute it at one input. -/
def fnExactTermFunctionsWrong : ChangeSpec := { name := "fnExactTermFunctions", fn := fun _ => fun
  | [d1, d2] => { results := [.lit (.bool false)], args := [d1, d2] }
  | _ => none }
def FnExactTermFunctionsWrongFalsely : Prop := fnExactTermFunctionsRow.holds Try.pinned (OpenSpec.ofChange fnExactTermFunctionsWrong)

/-- 'laws.FnExactIsPolymorphism': WHATEVER THE INPUT: true; the input reads as it did. -/
def fnExactIsPolymorphismSpec : ChangeSpec := { name := "fnExactIsPolymorphism", fn := fun _ => fun
  | [d1, d2, d3] => { results := [.lit (.bool true)], args := [d1, d2, d3] }
  | _ => none }
def fnExactIsPolymorphismRow : OpenClaim := { program := "ytihgkbhgpajklaa", sum := "d3026f389b2f1aab2a67a684ec59d173da1a18bea982a2c17af47e47a46519c8", func := "loop.example/g01078/laws.FnExactIsPolymorphism", spec := "fnExactIsPolymorphism", apart := false }
def FnExactIsPolymorphismSaid : Prop := fnExactIsPolymorphismRow.holds Try.pinned (OpenSpec.ofChange fnExactIsPolymorphismSpec)

/-- ITS FALSE NEIGHBOUR: 'it returns false'. Refute it at one input. -/
def fnExactIsPolymorphismWrong : ChangeSpec := { name := "fnExactIsPolymorphism", fn := fun _ => fun
  | [d1, d2, d3] => { results := [.lit (.bool false)], args := [d1, d2, d3] }
  | _ => none }
def FnExactIsPolymorphismWrongFalsely : Prop := fnExactIsPolymorphismRow.holds Try.pinned (OpenSpec.ofChange fnExactIsPolymorphismWrong)

/- THE SECOND FORM. 'bulk': how many values and letters a reading holds, each counted each time it is reached (what is shared counts as often as it is met; a slice's spare places count too). A statement '..UptoSaid' is the law's where the arguments, and the package variables that the reading takes, are together of bulk at most 1048576: NARROWER than '..Said'. Prove '..Said' where nothing that the law and all that it calls make is longer than what came in: it says more and counts as full. Else prove '..UptoSaid'. A law counts once. -/
mutual
def uptoBulk {H : Type} : DataW H → Nat
  | .lit (.string bytes) => bytes.length + 1
  | .lit _ => 1
  | .nil => 1
  | .ptr d => uptoBulk d + 1
  | .slice elems spare => uptoBulkAll elems + uptoBulkAll spare + 1
  | .agg parts => uptoBulkAll parts + 1
  | .iface _ d => uptoBulk d + 1
  | .map entries => uptoBulkEntries entries + 1
  | .held _ => 1
def uptoBulkAll {H : Type} : List (DataW H) → Nat
  | [] => 0
  | d :: r => uptoBulk d + uptoBulkAll r
def uptoBulkEntries {H : Type} : List (Lit × DataW H) → Nat
  | [] => 0
  | x :: r => uptoBulkEntry x + uptoBulkEntries r
def uptoBulkEntry {H : Type} : Lit × DataW H → Nat
  | (.string bytes, d) => bytes.length + uptoBulk d + 1
  | (_, d) => uptoBulk d + 1
 end
def uptoSmall : (H : Type) → List (DataW H) → Bool := fun _ ds => decide (uptoBulkAll ds ≤ 1048576)
def OpenSpec.upto (s : _root_.Go.ChangeSpec) : _root_.Go.OpenSpec := { _root_.Go.OpenSpec.ofChange s with cond := some uptoSmall }

/-- 'laws.FnExactMeetRelations', WHERE WHAT IT READS IS OF BULK AT MOST 1048576: true; the input reads as it did. -/
def fnExactMeetRelationsUptoRow : OpenClaim := { program := "ytihgkbhgpajklaa", sum := "d3026f389b2f1aab2a67a684ec59d173da1a18bea982a2c17af47e47a46519c8", func := "loop.example/g01078/laws.FnExactMeetRelations", spec := "fnExactMeetRelations", apart := false, narrowed := true }
def FnExactMeetRelationsUptoSaid : Prop := fnExactMeetRelationsUptoRow.holds Try.pinned (OpenSpec.upto fnExactMeetRelationsSpec)

/-- 'laws.FnExactDoesKeep', WHERE WHAT IT READS IS OF BULK AT MOST 1048576: true; the input reads as it did. -/
def fnExactDoesKeepUptoRow : OpenClaim := { program := "ytihgkbhgpajklaa", sum := "d3026f389b2f1aab2a67a684ec59d173da1a18bea982a2c17af47e47a46519c8", func := "loop.example/g01078/laws.FnExactDoesKeep", spec := "fnExactDoesKeep", apart := false, narrowed := true }
def FnExactDoesKeepUptoSaid : Prop := fnExactDoesKeepUptoRow.holds Try.pinned (OpenSpec.upto fnExactDoesKeepSpec)

/-- 'laws.FnExactCloneSize', WHERE WHAT IT READS IS OF BULK AT MOST 1048576: true; the input reads as it did. -/
def fnExactCloneSizeUptoRow : OpenClaim := { program := "ytihgkbhgpajklaa", sum := "d3026f389b2f1aab2a67a684ec59d173da1a18bea982a2c17af47e47a46519c8", func := "loop.example/g01078/laws.FnExactCloneSize", spec := "fnExactCloneSize", apart := false, narrowed := true }
def FnExactCloneSizeUptoSaid : Prop := fnExactCloneSizeUptoRow.holds Try.pinned (OpenSpec.upto fnExactCloneSizeSpec)

/-- 'laws.FnExactIsTermFunction', WHERE WHAT IT READS IS OF BULK AT MOST 1048576: true; the input reads as it did. -/
def fnExactIsTermFunctionUptoRow : OpenClaim := { program := "ytihgkbhgpajklaa", sum := "d3026f389b2f1aab2a67a684ec59d173da1a18bea982a2c17af47e47a46519c8", func := "loop.example/g01078/laws.FnExactIsTermFunction", spec := "fnExactIsTermFunction", apart := false, narrowed := true }
def FnExactIsTermFunctionUptoSaid : Prop := fnExactIsTermFunctionUptoRow.holds Try.pinned (OpenSpec.upto fnExactIsTermFunctionSpec)

/-- 'laws.FnExactPolynomialSize', WHERE WHAT IT READS IS OF BULK AT MOST 1048576: true; the input reads as it did. -/
def fnExactPolynomialSizeUptoRow : OpenClaim := { program := "ytihgkbhgpajklaa", sum := "d3026f389b2f1aab2a67a684ec59d173da1a18bea982a2c17af47e47a46519c8", func := "loop.example/g01078/laws.FnExactPolynomialSize", spec := "fnExactPolynomialSize", apart := false, narrowed := true }
def FnExactPolynomialSizeUptoSaid : Prop := fnExactPolynomialSizeUptoRow.holds Try.pinned (OpenSpec.upto fnExactPolynomialSizeSpec)

/-- 'laws.FnExactFirstBreak', WHERE WHAT IT READS IS OF BULK AT MOST 1048576: true; the input reads as it did. -/
def fnExactFirstBreakUptoRow : OpenClaim := { program := "ytihgkbhgpajklaa", sum := "d3026f389b2f1aab2a67a684ec59d173da1a18bea982a2c17af47e47a46519c8", func := "loop.example/g01078/laws.FnExactFirstBreak", spec := "fnExactFirstBreak", apart := false, narrowed := true }
def FnExactFirstBreakUptoSaid : Prop := fnExactFirstBreakUptoRow.holds Try.pinned (OpenSpec.upto fnExactFirstBreakSpec)

/-- 'laws.FnExactSameClone', WHERE WHAT IT READS IS OF BULK AT MOST 1048576: true; the input reads as it did. -/
def fnExactSameCloneUptoRow : OpenClaim := { program := "ytihgkbhgpajklaa", sum := "d3026f389b2f1aab2a67a684ec59d173da1a18bea982a2c17af47e47a46519c8", func := "loop.example/g01078/laws.FnExactSameClone", spec := "fnExactSameClone", apart := false, narrowed := true }
def FnExactSameCloneUptoSaid : Prop := fnExactSameCloneUptoRow.holds Try.pinned (OpenSpec.upto fnExactSameCloneSpec)

/-- 'laws.FnExactConstantPolymorphisms', WHERE WHAT IT READS IS OF BULK AT MOST 1048576: true; the input reads as it did. -/
def fnExactConstantPolymorphismsUptoRow : OpenClaim := { program := "ytihgkbhgpajklaa", sum := "d3026f389b2f1aab2a67a684ec59d173da1a18bea982a2c17af47e47a46519c8", func := "loop.example/g01078/laws.FnExactConstantPolymorphisms", spec := "fnExactConstantPolymorphisms", apart := false, narrowed := true }
def FnExactConstantPolymorphismsUptoSaid : Prop := fnExactConstantPolymorphismsUptoRow.holds Try.pinned (OpenSpec.upto fnExactConstantPolymorphismsSpec)

/-- 'laws.FnExactRelationOf', WHERE WHAT IT READS IS OF BULK AT MOST 1048576: true; the input reads as it did. -/
def fnExactRelationOfUptoRow : OpenClaim := { program := "ytihgkbhgpajklaa", sum := "d3026f389b2f1aab2a67a684ec59d173da1a18bea982a2c17af47e47a46519c8", func := "loop.example/g01078/laws.FnExactRelationOf", spec := "fnExactRelationOf", inPlace := ["internal/reflectlite.ValueOf", "internal/reflectlite.Swapper", "(internal/reflectlite.Value).Len"], unfollowed := true, recurses := true, apart := false, narrowed := true }
def FnExactRelationOfUptoSaid : Prop := fnExactRelationOfUptoRow.holds Try.pinned (OpenSpec.upto fnExactRelationOfSpec)

/-- 'laws.FnExactFixPlace', WHERE WHAT IT READS IS OF BULK AT MOST 1048576: true; the input reads as it did. -/
def fnExactFixPlaceUptoRow : OpenClaim := { program := "ytihgkbhgpajklaa", sum := "d3026f389b2f1aab2a67a684ec59d173da1a18bea982a2c17af47e47a46519c8", func := "loop.example/g01078/laws.FnExactFixPlace", spec := "fnExactFixPlace", inPlace := ["internal/reflectlite.ValueOf", "internal/reflectlite.Swapper", "(internal/reflectlite.Value).Len"], unfollowed := true, recurses := true, apart := false, narrowed := true }
def FnExactFixPlaceUptoSaid : Prop := fnExactFixPlaceUptoRow.holds Try.pinned (OpenSpec.upto fnExactFixPlaceSpec)

/-- 'laws.FnExactTermFunctions', WHERE WHAT IT READS IS OF BULK AT MOST 1048576: true; the input reads as it did. -/
def fnExactTermFunctionsUptoRow : OpenClaim := { program := "ytihgkbhgpajklaa", sum := "d3026f389b2f1aab2a67a684ec59d173da1a18bea982a2c17af47e47a46519c8", func := "loop.example/g01078/laws.FnExactTermFunctions", spec := "fnExactTermFunctions", apart := false, narrowed := true }
def FnExactTermFunctionsUptoSaid : Prop := fnExactTermFunctionsUptoRow.holds Try.pinned (OpenSpec.upto fnExactTermFunctionsSpec)

/-- 'laws.FnExactIsPolymorphism', WHERE WHAT IT READS IS OF BULK AT MOST 1048576: true; the input reads as it did. -/
def fnExactIsPolymorphismUptoRow : OpenClaim := { program := "ytihgkbhgpajklaa", sum := "d3026f389b2f1aab2a67a684ec59d173da1a18bea982a2c17af47e47a46519c8", func := "loop.example/g01078/laws.FnExactIsPolymorphism", spec := "fnExactIsPolymorphism", apart := false, narrowed := true }
def FnExactIsPolymorphismUptoSaid : Prop := fnExactIsPolymorphismUptoRow.holds Try.pinned (OpenSpec.upto fnExactIsPolymorphismSpec)

end Rows
end Go.Proofs.Ytihgkbhgpajklaa
