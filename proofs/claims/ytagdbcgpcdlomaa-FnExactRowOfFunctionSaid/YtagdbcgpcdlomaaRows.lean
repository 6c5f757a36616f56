/-
  No cell of these rows narrows 'for every input' (looked for: loops, veiled, ifaces, maps, wideKeys, modest, calm, conditions, laid).
  DERIVED. THE GIVEN ROWS OF THIS SEAT. 12 by the template 'for every input the law returns true; each argument reads behind the call as it read before'; 0 by the template 'total and deterministic' (their statements: YtagdbcgpcdlomaaTotals.lean).
  GIVEN WITH THE SEED: the statements are not yours to turn. If you find one false, say at which input.
  Laid BY PROGRAM, IN A SANDBOX (cutbox-rows.mjs): the forced cells as the released guide's own fill.sh prints them over the translation bb0af57df28a0538… (all of the seat's roots in one cut). By AI agents, Wed Nov 11 2026. No macro, syntax, notation, axiom, sorry.
-/
import Derived.Test.YtagdbcgpcdlomaaChecked
import GoSem.Claim
import GoSem.ClaimJoined
import GoSem.ClaimMapViews
import Derived.JoinedTies
import Derived.KernelRfl
namespace Go.Proofs.Ytagdbcgpcdlomaa
/- THE CELL 'sum', in the pinned program and in every row, IS THE sha256 OF THE DUMP (.gsa) THAT YtagdbcgpcdlomaaProg.lean LOADS. Nothing in Lean hashes anything: it is a label: what it is worth is what the hold of that sum in a sandbox is worth. -/
noncomputable def Try.pinned : Pinned := { name := "ytagdbcgpcdlomaa", sum := "bb0af57df28a0538a5d49a0627c8587265583206129a334d6e7419383e8dfd98", checked := Try.checked }
namespace Rows
def none {H : Type} : Left H := { results := [], args := [] }

/-- 'laws.FnExactIsCondition': WHATEVER THE INPUT: true; the input reads as it did. -/
def fnExactIsConditionSpec : ChangeSpec := { name := "fnExactIsCondition", fn := fun _ => fun
  | [d] => { results := [.lit (.bool true)], args := [d] }
  | _ => none }
def fnExactIsConditionRow : OpenClaim := { program := "ytagdbcgpcdlomaa", sum := "bb0af57df28a0538a5d49a0627c8587265583206129a334d6e7419383e8dfd98", func := "loop.example/g01078/laws.FnExactIsCondition", spec := "fnExactIsCondition", apart := false }
def FnExactIsConditionSaid : Prop := fnExactIsConditionRow.holds Try.pinned (OpenSpec.ofChange fnExactIsConditionSpec)

/-- ITS FALSE NEIGHBOUR: 'it returns false'. Refute it at one input. -/
def fnExactIsConditionWrong : ChangeSpec := { name := "fnExactIsCondition", fn := fun _ => fun
  | [d] => { results := [.lit (.bool false)], args := [d] }
  | _ => none }
def FnExactIsConditionWrongFalsely : Prop := fnExactIsConditionRow.holds Try.pinned (OpenSpec.ofChange fnExactIsConditionWrong)

/-- 'laws.FnExactIsRelation': WHATEVER THE INPUT: true; the input reads as it did. -/
def fnExactIsRelationSpec : ChangeSpec := { name := "fnExactIsRelation", fn := fun _ => fun
  | [d1, d2] => { results := [.lit (.bool true)], args := [d1, d2] }
  | _ => none }
def fnExactIsRelationRow : OpenClaim := { program := "ytagdbcgpcdlomaa", sum := "bb0af57df28a0538a5d49a0627c8587265583206129a334d6e7419383e8dfd98", func := "loop.example/g01078/laws.FnExactIsRelation", spec := "fnExactIsRelation", apart := false }
def FnExactIsRelationSaid : Prop := fnExactIsRelationRow.holds Try.pinned (OpenSpec.ofChange fnExactIsRelationSpec)

/-- ITS FALSE NEIGHBOUR: 'it returns false'. Refute it at one input. -/
def fnExactIsRelationWrong : ChangeSpec := { name := "fnExactIsRelation", fn := fun _ => fun
  | [d1, d2] => { results := [.lit (.bool false)], args := [d1, d2] }
  | _ => none }
def FnExactIsRelationWrongFalsely : Prop := fnExactIsRelationRow.holds Try.pinned (OpenSpec.ofChange fnExactIsRelationWrong)

/-- 'laws.FnExactGraphOf': WHATEVER THE INPUT: true; the input reads as it did. -/
def fnExactGraphOfSpec : ChangeSpec := { name := "fnExactGraphOf", fn := fun _ => fun
  | [d1, d2] => { results := [.lit (.bool true)], args := [d1, d2] }
  | _ => none }
def fnExactGraphOfRow : OpenClaim := { program := "ytagdbcgpcdlomaa", sum := "bb0af57df28a0538a5d49a0627c8587265583206129a334d6e7419383e8dfd98", func := "loop.example/g01078/laws.FnExactGraphOf", spec := "fnExactGraphOf", apart := false }
def FnExactGraphOfSaid : Prop := fnExactGraphOfRow.holds Try.pinned (OpenSpec.ofChange fnExactGraphOfSpec)

/-- ITS FALSE NEIGHBOUR: 'it returns false'. Refute it at one input. -/
def fnExactGraphOfWrong : ChangeSpec := { name := "fnExactGraphOf", fn := fun _ => fun
  | [d1, d2] => { results := [.lit (.bool false)], args := [d1, d2] }
  | _ => none }
def FnExactGraphOfWrongFalsely : Prop := fnExactGraphOfRow.holds Try.pinned (OpenSpec.ofChange fnExactGraphOfWrong)

/-- 'laws.FnExactHasTuple': WHATEVER THE INPUT: true; the input reads as it did. -/
def fnExactHasTupleSpec : ChangeSpec := { name := "fnExactHasTuple", fn := fun _ => fun
  | [d1, d2, d3] => { results := [.lit (.bool true)], args := [d1, d2, d3] }
  | _ => none }
def fnExactHasTupleRow : OpenClaim := { program := "ytagdbcgpcdlomaa", sum := "bb0af57df28a0538a5d49a0627c8587265583206129a334d6e7419383e8dfd98", func := "loop.example/g01078/laws.FnExactHasTuple", spec := "fnExactHasTuple", apart := false }
def FnExactHasTupleSaid : Prop := fnExactHasTupleRow.holds Try.pinned (OpenSpec.ofChange fnExactHasTupleSpec)

/-- ITS FALSE NEIGHBOUR: 'it returns false'. Refute it at one input. -/
def fnExactHasTupleWrong : ChangeSpec := { name := "fnExactHasTuple", fn := fun _ => fun
  | [d1, d2, d3] => { results := [.lit (.bool false)], args := [d1, d2, d3] }
  | _ => none }
def FnExactHasTupleWrongFalsely : Prop := fnExactHasTupleRow.holds Try.pinned (OpenSpec.ofChange fnExactHasTupleWrong)

/-- 'laws.FnExactIsTemplate': WHATEVER THE INPUT: true; the input reads as it did. -/
def fnExactIsTemplateSpec : ChangeSpec := { name := "fnExactIsTemplate", fn := fun _ => fun
  | [d1, d2] => { results := [.lit (.bool true)], args := [d1, d2] }
  | _ => none }
def fnExactIsTemplateRow : OpenClaim := { program := "ytagdbcgpcdlomaa", sum := "bb0af57df28a0538a5d49a0627c8587265583206129a334d6e7419383e8dfd98", func := "loop.example/g01078/laws.FnExactIsTemplate", spec := "fnExactIsTemplate", apart := false }
def FnExactIsTemplateSaid : Prop := fnExactIsTemplateRow.holds Try.pinned (OpenSpec.ofChange fnExactIsTemplateSpec)

/-- ITS FALSE NEIGHBOUR: 'it returns false'. Refute it at one input. -/
def fnExactIsTemplateWrong : ChangeSpec := { name := "fnExactIsTemplate", fn := fun _ => fun
  | [d1, d2] => { results := [.lit (.bool false)], args := [d1, d2] }
  | _ => none }
def FnExactIsTemplateWrongFalsely : Prop := fnExactIsTemplateRow.holds Try.pinned (OpenSpec.ofChange fnExactIsTemplateWrong)

/-- 'laws.FnExactIsEquivalence': WHATEVER THE INPUT: true; the input reads as it did. -/
def fnExactIsEquivalenceSpec : ChangeSpec := { name := "fnExactIsEquivalence", fn := fun _ => fun
  | [d1, d2] => { results := [.lit (.bool true)], args := [d1, d2] }
  | _ => none }
def fnExactIsEquivalenceRow : OpenClaim := { program := "ytagdbcgpcdlomaa", sum := "bb0af57df28a0538a5d49a0627c8587265583206129a334d6e7419383e8dfd98", func := "loop.example/g01078/laws.FnExactIsEquivalence", spec := "fnExactIsEquivalence", apart := false }
def FnExactIsEquivalenceSaid : Prop := fnExactIsEquivalenceRow.holds Try.pinned (OpenSpec.ofChange fnExactIsEquivalenceSpec)

/-- ITS FALSE NEIGHBOUR: 'it returns false'. Refute it at one input. -/
def fnExactIsEquivalenceWrong : ChangeSpec := { name := "fnExactIsEquivalence", fn := fun _ => fun
  | [d1, d2] => { results := [.lit (.bool false)], args := [d1, d2] }
  | _ => none }
def FnExactIsEquivalenceWrongFalsely : Prop := fnExactIsEquivalenceRow.holds Try.pinned (OpenSpec.ofChange fnExactIsEquivalenceWrong)

/-- 'laws.FnExactRowObeys': WHATEVER THE INPUT: true; the input reads as it did. -/
def fnExactRowObeysSpec : ChangeSpec := { name := "fnExactRowObeys", fn := fun _ => fun
  | [d1, d2, d3] => { results := [.lit (.bool true)], args := [d1, d2, d3] }
  | _ => none }
def fnExactRowObeysRow : OpenClaim := { program := "ytagdbcgpcdlomaa", sum := "bb0af57df28a0538a5d49a0627c8587265583206129a334d6e7419383e8dfd98", func := "loop.example/g01078/laws.FnExactRowObeys", spec := "fnExactRowObeys", unfollowed := true, recurses := true, apart := false }
def FnExactRowObeysSaid : Prop := fnExactRowObeysRow.holds Try.pinned (OpenSpec.ofChange fnExactRowObeysSpec)

/-- ITS FALSE NEIGHBOUR: 'it returns false'. Refute it at one input. -/
def fnExactRowObeysWrong : ChangeSpec := { name := "fnExactRowObeys", fn := fun _ => fun
  | [d1, d2, d3] => { results := [.lit (.bool false)], args := [d1, d2, d3] }
  | _ => none }
def FnExactRowObeysWrongFalsely : Prop := fnExactRowObeysRow.holds Try.pinned (OpenSpec.ofChange fnExactRowObeysWrong)

/-- 'laws.FnExactMeetRelations': WHATEVER THE INPUT: true; the input reads as it did. -/
def fnExactMeetRelationsSpec : ChangeSpec := { name := "fnExactMeetRelations", fn := fun _ => fun
  | [d1, d2, d3] => { results := [.lit (.bool true)], args := [d1, d2, d3] }
  | _ => none }
def fnExactMeetRelationsRow : OpenClaim := { program := "ytagdbcgpcdlomaa", sum := "bb0af57df28a0538a5d49a0627c8587265583206129a334d6e7419383e8dfd98", func := "loop.example/g01078/laws.FnExactMeetRelations", spec := "fnExactMeetRelations", apart := false }
def FnExactMeetRelationsSaid : Prop := fnExactMeetRelationsRow.holds Try.pinned (OpenSpec.ofChange fnExactMeetRelationsSpec)

/-- ITS FALSE NEIGHBOUR: 'it returns false'. Refute it at one input. -/
def fnExactMeetRelationsWrong : ChangeSpec := { name := "fnExactMeetRelations", fn := fun _ => fun
  | [d1, d2, d3] => { results := [.lit (.bool false)], args := [d1, d2, d3] }
  | _ => none }
def FnExactMeetRelationsWrongFalsely : Prop := fnExactMeetRelationsRow.holds Try.pinned (OpenSpec.ofChange fnExactMeetRelationsWrong)

/-- 'laws.FnExactPatternsOf': WHATEVER THE INPUT: true; the input reads as it did. -/
def fnExactPatternsOfSpec : ChangeSpec := { name := "fnExactPatternsOf", fn := fun _ => fun
  | [d] => { results := [.lit (.bool true)], args := [d] }
  | _ => none }
def fnExactPatternsOfRow : OpenClaim := { program := "ytagdbcgpcdlomaa", sum := "bb0af57df28a0538a5d49a0627c8587265583206129a334d6e7419383e8dfd98", func := "loop.example/g01078/laws.FnExactPatternsOf", spec := "fnExactPatternsOf", unfollowed := true, recurses := true, apart := false }
def FnExactPatternsOfSaid : Prop := fnExactPatternsOfRow.holds Try.pinned (OpenSpec.ofChange fnExactPatternsOfSpec)

/-- ITS FALSE NEIGHBOUR: 'it returns false'. Refute it at one input. -/
def fnExactPatternsOfWrong : ChangeSpec := { name := "fnExactPatternsOf", fn := fun _ => fun
  | [d] => { results := [.lit (.bool false)], args := [d] }
  | _ => none }
def FnExactPatternsOfWrongFalsely : Prop := fnExactPatternsOfRow.holds Try.pinned (OpenSpec.ofChange fnExactPatternsOfWrong)

/-- 'laws.FnExactPartitionOfRelation': WHATEVER THE INPUT: true; the input reads as it did. -/
def fnExactPartitionOfRelationSpec : ChangeSpec := { name := "fnExactPartitionOfRelation", fn := fun _ => fun
  | [d1, d2] => { results := [.lit (.bool true)], args := [d1, d2] }
  | _ => none }
def fnExactPartitionOfRelationRow : OpenClaim := { program := "ytagdbcgpcdlomaa", sum := "bb0af57df28a0538a5d49a0627c8587265583206129a334d6e7419383e8dfd98", func := "loop.example/g01078/laws.FnExactPartitionOfRelation", spec := "fnExactPartitionOfRelation", apart := false }
def FnExactPartitionOfRelationSaid : Prop := fnExactPartitionOfRelationRow.holds Try.pinned (OpenSpec.ofChange fnExactPartitionOfRelationSpec)

/-- ITS FALSE NEIGHBOUR: 'it returns false'. Refute it at one input. -/
def fnExactPartitionOfRelationWrong : ChangeSpec := { name := "fnExactPartitionOfRelation", fn := fun _ => fun
  | [d1, d2] => { results := [.lit (.bool false)], args := [d1, d2] }
  | _ => none }
def FnExactPartitionOfRelationWrongFalsely : Prop := fnExactPartitionOfRelationRow.holds Try.pinned (OpenSpec.ofChange fnExactPartitionOfRelationWrong)

/-- 'laws.FnExactDoesKeep': WHATEVER THE INPUT: true; the input reads as it did. -/
def fnExactDoesKeepSpec : ChangeSpec := { name := "fnExactDoesKeep", fn := fun _ => fun
  | [d1, d2, d3] => { results := [.lit (.bool true)], args := [d1, d2, d3] }
  | _ => none }
def fnExactDoesKeepRow : OpenClaim := { program := "ytagdbcgpcdlomaa", sum := "bb0af57df28a0538a5d49a0627c8587265583206129a334d6e7419383e8dfd98", func := "loop.example/g01078/laws.FnExactDoesKeep", spec := "fnExactDoesKeep", apart := false }
def FnExactDoesKeepSaid : Prop := fnExactDoesKeepRow.holds Try.pinned (OpenSpec.ofChange fnExactDoesKeepSpec)

/-- ITS FALSE NEIGHBOUR: 'it returns false'. Refute it at one input. -/
def fnExactDoesKeepWrong : ChangeSpec := { name := "fnExactDoesKeep", fn := fun _ => fun
  | [d1, d2, d3] => { results := [.lit (.bool false)], args := [d1, d2, d3] }
  | _ => none }
def FnExactDoesKeepWrongFalsely : Prop := fnExactDoesKeepRow.holds Try.pinned (OpenSpec.ofChange fnExactDoesKeepWrong)

/-- 'laws.FnExactRowOfFunction': WHATEVER THE INPUT: true; the input reads as it did. -/
def fnExactRowOfFunctionSpec : ChangeSpec := { name := "fnExactRowOfFunction", fn := fun _ => fun
  | [d1, d2, d3] => { results := [.lit (.bool true)], args := [d1, d2, d3] }
  | _ => none }
def fnExactRowOfFunctionRow : OpenClaim := { program := "ytagdbcgpcdlomaa", sum := "bb0af57df28a0538a5d49a0627c8587265583206129a334d6e7419383e8dfd98", func := "loop.example/g01078/laws.FnExactRowOfFunction", spec := "fnExactRowOfFunction", unfollowed := true, recurses := true, apart := false }
def FnExactRowOfFunctionSaid : Prop := fnExactRowOfFunctionRow.holds Try.pinned (OpenSpec.ofChange fnExactRowOfFunctionSpec)

/-- ITS FALSE NEIGHBOUR: 'it returns false'. Refute it at one input. -/
def fnExactRowOfFunctionWrong : ChangeSpec := { name := "fnExactRowOfFunction", fn := fun _ => fun
  | [d1, d2, d3] => { results := [.lit (.bool false)], args := [d1, d2, d3] }
  | _ => none }
def FnExactRowOfFunctionWrongFalsely : Prop := fnExactRowOfFunctionRow.holds Try.pinned (OpenSpec.ofChange fnExactRowOfFunctionWrong)

/- THE SECOND FORM. 'bulk': how many values and letters a reading holds, each counted each time it is reached (what is shared counts as often as it is met; a slice's spare places count too). A statement '..UptoSaid' is the law's where the arguments, and the package variables that the reading takes, are together of bulk at most 1048576: NARROWER than '..Said'. Prove '..Said' where nothing that the law and all that it calls make is longer than what came in: it says more and counts as full. Else prove '..UptoSaid'. A law counts once. -/
mutual
def uptoBulk {H : Type} : DataW H → Nat
  | .lit (.string bytes) => bytes.length + 1
  | .lit _ => 1
  | .nil => 1
  | .ptr d => uptoBulk d + 1
  | .slice elems spare => uptoBulkAll elems + uptoBulkAll spare + 1
  | .agg parts => uptoBulkAll parts + 1
  | .iface _ d => uptoBulk d + 1
  | .map entries => uptoBulkEntries entries + 1
  | .held _ => 1
def uptoBulkAll {H : Type} : List (DataW H) → Nat
  | [] => 0
  | d :: r => uptoBulk d + uptoBulkAll r
def uptoBulkEntries {H : Type} : List (Lit × DataW H) → Nat
  | [] => 0
  | x :: r => uptoBulkEntry x + uptoBulkEntries r
def uptoBulkEntry {H : Type} : Lit × DataW H → Nat
  | (.string bytes, d) => bytes.length + uptoBulk d + 1
  | (_, d) => uptoBulk d + 1
 end
def uptoSmall : (H : Type) → List (DataW H) → Bool := fun _ ds => decide (uptoBulkAll ds ≤ 1048576)
def OpenSpec.upto (s : _root_.Go.ChangeSpec) : _root_.Go.OpenSpec := { _root_.Go.OpenSpec.ofChange s with cond := some uptoSmall }

/-- 'laws.FnExactIsCondition', WHERE WHAT IT READS IS OF BULK AT MOST 1048576: true; the input reads as it did. -/
def fnExactIsConditionUptoRow : OpenClaim := { program := "ytagdbcgpcdlomaa", sum := "bb0af57df28a0538a5d49a0627c8587265583206129a334d6e7419383e8dfd98", func := "loop.example/g01078/laws.FnExactIsCondition", spec := "fnExactIsCondition", apart := false, narrowed := true }
def FnExactIsConditionUptoSaid : Prop := fnExactIsConditionUptoRow.holds Try.pinned (OpenSpec.upto fnExactIsConditionSpec)

/-- 'laws.FnExactIsRelation', WHERE WHAT IT READS IS OF BULK AT MOST 1048576: true; the input reads as it did. -/
def fnExactIsRelationUptoRow : OpenClaim := { program := "ytagdbcgpcdlomaa", sum := "bb0af57df28a0538a5d49a0627c8587265583206129a334d6e7419383e8dfd98", func := "loop.example/g01078/laws.FnExactIsRelation", spec := "fnExactIsRelation", apart := false, narrowed := true }
def FnExactIsRelationUptoSaid : Prop := fnExactIsRelationUptoRow.holds Try.pinned (OpenSpec.upto fnExactIsRelationSpec)

/-- 'laws.FnExactGraphOf', WHERE WHAT IT READS IS OF BULK AT MOST 1048576: true; the input reads as it did. -/
def fnExactGraphOfUptoRow : OpenClaim := { program := "ytagdbcgpcdlomaa", sum := "bb0af57df28a0538a5d49a0627c8587265583206129a334d6e7419383e8dfd98", func := "loop.example/g01078/laws.FnExactGraphOf", spec := "fnExactGraphOf", apart := false, narrowed := true }
def FnExactGraphOfUptoSaid : Prop := fnExactGraphOfUptoRow.holds Try.pinned (OpenSpec.upto fnExactGraphOfSpec)

/-- 'laws.FnExactHasTuple', WHERE WHAT IT READS IS OF BULK AT MOST 1048576: true; the input reads as it did. -/
def fnExactHasTupleUptoRow : OpenClaim := { program := "ytagdbcgpcdlomaa", sum := "bb0af57df28a0538a5d49a0627c8587265583206129a334d6e7419383e8dfd98", func := "loop.example/g01078/laws.FnExactHasTuple", spec := "fnExactHasTuple", apart := false, narrowed := true }
def FnExactHasTupleUptoSaid : Prop := fnExactHasTupleUptoRow.holds Try.pinned (OpenSpec.upto fnExactHasTupleSpec)

/-- 'laws.FnExactIsTemplate', WHERE WHAT IT READS IS OF BULK AT MOST 1048576: true; the input reads as it did. -/
def fnExactIsTemplateUptoRow : OpenClaim := { program := "ytagdbcgpcdlomaa", sum := "bb0af57df28a0538a5d49a0627c8587265583206129a334d6e7419383e8dfd98", func := "loop.example/g01078/laws.FnExactIsTemplate", spec := "fnExactIsTemplate", apart := false, narrowed := true }
def FnExactIsTemplateUptoSaid : Prop := fnExactIsTemplateUptoRow.holds Try.pinned (OpenSpec.upto fnExactIsTemplateSpec)

/-- 'laws.FnExactIsEquivalence', WHERE WHAT IT READS IS OF BULK AT MOST 1048576: true; the input reads as it did. -/
def fnExactIsEquivalenceUptoRow : OpenClaim := { program := "ytagdbcgpcdlomaa", sum := "bb0af57df28a0538a5d49a0627c8587265583206129a334d6e7419383e8dfd98", func := "loop.example/g01078/laws.FnExactIsEquivalence", spec := "fnExactIsEquivalence", apart := false, narrowed := true }
def FnExactIsEquivalenceUptoSaid : Prop := fnExactIsEquivalenceUptoRow.holds Try.pinned (OpenSpec.upto fnExactIsEquivalenceSpec)

/-- 'laws.FnExactRowObeys', WHERE WHAT IT READS IS OF BULK AT MOST 1048576: true; the input reads as it did. -/
def fnExactRowObeysUptoRow : OpenClaim := { program := "ytagdbcgpcdlomaa", sum := "bb0af57df28a0538a5d49a0627c8587265583206129a334d6e7419383e8dfd98", func := "loop.example/g01078/laws.FnExactRowObeys", spec := "fnExactRowObeys", unfollowed := true, recurses := true, apart := false, narrowed := true }
def FnExactRowObeysUptoSaid : Prop := fnExactRowObeysUptoRow.holds Try.pinned (OpenSpec.upto fnExactRowObeysSpec)

/-- 'laws.FnExactMeetRelations', WHERE WHAT IT READS IS OF BULK AT MOST 1048576: true; the input reads as it did. -/
def fnExactMeetRelationsUptoRow : OpenClaim := { program := "ytagdbcgpcdlomaa", sum := "bb0af57df28a0538a5d49a0627c8587265583206129a334d6e7419383e8dfd98", func := "loop.example/g01078/laws.FnExactMeetRelations", spec := "fnExactMeetRelations", apart := false, narrowed := true }
def FnExactMeetRelationsUptoSaid : Prop := fnExactMeetRelationsUptoRow.holds Try.pinned (OpenSpec.upto fnExactMeetRelationsSpec)

/-- 'laws.FnExactPatternsOf', WHERE WHAT IT READS IS OF BULK AT MOST 1048576: true; the input reads as it did. -/
def fnExactPatternsOfUptoRow : OpenClaim := { program := "ytagdbcgpcdlomaa", sum := "bb0af57df28a0538a5d49a0627c8587265583206129a334d6e7419383e8dfd98", func := "loop.example/g01078/laws.FnExactPatternsOf", spec := "fnExactPatternsOf", unfollowed := true, recurses := true, apart := false, narrowed := true }
def FnExactPatternsOfUptoSaid : Prop := fnExactPatternsOfUptoRow.holds Try.pinned (OpenSpec.upto fnExactPatternsOfSpec)

/-- 'laws.FnExactPartitionOfRelation', WHERE WHAT IT READS IS OF BULK AT MOST 1048576: true; the input reads as it did. -/
def fnExactPartitionOfRelationUptoRow : OpenClaim := { program := "ytagdbcgpcdlomaa", sum := "bb0af57df28a0538a5d49a0627c8587265583206129a334d6e7419383e8dfd98", func := "loop.example/g01078/laws.FnExactPartitionOfRelation", spec := "fnExactPartitionOfRelation", apart := false, narrowed := true }
def FnExactPartitionOfRelationUptoSaid : Prop := fnExactPartitionOfRelationUptoRow.holds Try.pinned (OpenSpec.upto fnExactPartitionOfRelationSpec)

/-- 'laws.FnExactDoesKeep', WHERE WHAT IT READS IS OF BULK AT MOST 1048576: true; the input reads as it did. -/
def fnExactDoesKeepUptoRow : OpenClaim := { program := "ytagdbcgpcdlomaa", sum := "bb0af57df28a0538a5d49a0627c8587265583206129a334d6e7419383e8dfd98", func := "loop.example/g01078/laws.FnExactDoesKeep", spec := "fnExactDoesKeep", apart := false, narrowed := true }
def FnExactDoesKeepUptoSaid : Prop := fnExactDoesKeepUptoRow.holds Try.pinned (OpenSpec.upto fnExactDoesKeepSpec)

/-- 'laws.FnExactRowOfFunction', WHERE WHAT IT READS IS OF BULK AT MOST 1048576: true; the input reads as it did. -/
def fnExactRowOfFunctionUptoRow : OpenClaim := { program := "ytagdbcgpcdlomaa", sum := "bb0af57df28a0538a5d49a0627c8587265583206129a334d6e7419383e8dfd98", func := "loop.example/g01078/laws.FnExactRowOfFunction", spec := "fnExactRowOfFunction", unfollowed := true, recurses := true, apart := false, narrowed := true }
def FnExactRowOfFunctionUptoSaid : Prop := fnExactRowOfFunctionUptoRow.holds Try.pinned (OpenSpec.upto fnExactRowOfFunctionSpec)

end Rows
end Go.Proofs.Ytagdbcgpcdlomaa
