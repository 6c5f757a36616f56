/-
  No cell of these rows narrows 'for every input' (looked for: loops, veiled, ifaces, maps, wideKeys, modest, calm, conditions, laid).
  DERIVED. THE GIVEN ROWS OF THIS SEAT. 7 by the template 'for every input the law returns true; each argument reads behind the call as it read before'; 0 by the template 'total and deterministic' (their statements: YtpifgpciopfhjaaTotals.lean).
  GIVEN WITH THE SEED: the statements are not yours to turn. If you find one false, say at which input.
  Laid BY PROGRAM, IN A SANDBOX (cutbox-rows.mjs): the forced cells as the released guide's own fill.sh prints them over the translation cdd463d80b9ca1c0… (all of the seat's roots in one cut). By AI agents, Wed Nov 11 2026. No macro, syntax, notation, axiom, sorry.
-/
import Derived.Test.YtpifgpciopfhjaaChecked
import GoSem.Claim
import GoSem.ClaimJoined
import GoSem.ClaimMapViews
import Derived.JoinedTies
import Derived.KernelRfl
namespace Go.Proofs.Ytpifgpciopfhjaa
/- THE CELL 'sum', in the pinned program and in every row, IS THE sha256 OF THE DUMP (.gsa) THAT YtpifgpciopfhjaaProg.lean LOADS. Nothing in Lean hashes anything: it is a label: what it is worth is what the hold of that sum in a sandbox is worth. -/
noncomputable def Try.pinned : Pinned := { name := "ytpifgpciopfhjaa", sum := "cdd463d80b9ca1c09a066d83adf4c99af681f2e569f9a52e34ab8723ca6fd12d", checked := Try.checked }
namespace Rows
def none {H : Type} : Left H := { results := [], args := [] }

/-- 'laws.FnExactFullRelation': WHATEVER THE INPUT: true; the input reads as it did. -/
def fnExactFullRelationSpec : ChangeSpec := { name := "fnExactFullRelation", fn := fun _ => fun
  | [d1, d2] => { results := [.lit (.bool true)], args := [d1, d2] }
  | _ => none }
def fnExactFullRelationRow : OpenClaim := { program := "ytpifgpciopfhjaa", sum := "cdd463d80b9ca1c09a066d83adf4c99af681f2e569f9a52e34ab8723ca6fd12d", func := "loop.example/g01078/laws.FnExactFullRelation", spec := "fnExactFullRelation", apart := false }
def FnExactFullRelationSaid : Prop := fnExactFullRelationRow.holds Try.pinned (OpenSpec.ofChange fnExactFullRelationSpec)

/-- ITS FALSE NEIGHBOUR: 'it returns false'. Refute it at one input. -/
def fnExactFullRelationWrong : ChangeSpec := { name := "fnExactFullRelation", fn := fun _ => fun
  | [d1, d2] => { results := [.lit (.bool false)], args := [d1, d2] }
  | _ => none }
def FnExactFullRelationWrongFalsely : Prop := fnExactFullRelationRow.holds Try.pinned (OpenSpec.ofChange fnExactFullRelationWrong)

/-- 'laws.FnExactRelationOfPartition': WHATEVER THE INPUT: true; the input reads as it did. -/
def fnExactRelationOfPartitionSpec : ChangeSpec := { name := "fnExactRelationOfPartition", fn := fun _ => fun
  | [d1, d2] => { results := [.lit (.bool true)], args := [d1, d2] }
  | _ => none }
def fnExactRelationOfPartitionRow : OpenClaim := { program := "ytpifgpciopfhjaa", sum := "cdd463d80b9ca1c09a066d83adf4c99af681f2e569f9a52e34ab8723ca6fd12d", func := "loop.example/g01078/laws.FnExactRelationOfPartition", spec := "fnExactRelationOfPartition", apart := false }
def FnExactRelationOfPartitionSaid : Prop := fnExactRelationOfPartitionRow.holds Try.pinned (OpenSpec.ofChange fnExactRelationOfPartitionSpec)

/-- ITS FALSE NEIGHBOUR: 'it returns false'. Refute it at one input. -/
def fnExactRelationOfPartitionWrong : ChangeSpec := { name := "fnExactRelationOfPartition", fn := fun _ => fun
  | [d1, d2] => { results := [.lit (.bool false)], args := [d1, d2] }
  | _ => none }
def FnExactRelationOfPartitionWrongFalsely : Prop := fnExactRelationOfPartitionRow.holds Try.pinned (OpenSpec.ofChange fnExactRelationOfPartitionWrong)

/-- 'laws.FnExactIsCondition': WHATEVER THE INPUT: true; the input reads as it did. -/
def fnExactIsConditionSpec : ChangeSpec := { name := "fnExactIsCondition", fn := fun _ => fun
  | [d] => { results := [.lit (.bool true)], args := [d] }
  | _ => none }
def fnExactIsConditionRow : OpenClaim := { program := "ytpifgpciopfhjaa", sum := "cdd463d80b9ca1c09a066d83adf4c99af681f2e569f9a52e34ab8723ca6fd12d", func := "loop.example/g01078/laws.FnExactIsCondition", spec := "fnExactIsCondition", apart := false }
def FnExactIsConditionSaid : Prop := fnExactIsConditionRow.holds Try.pinned (OpenSpec.ofChange fnExactIsConditionSpec)

/-- ITS FALSE NEIGHBOUR: 'it returns false'. Refute it at one input. -/
def fnExactIsConditionWrong : ChangeSpec := { name := "fnExactIsCondition", fn := fun _ => fun
  | [d] => { results := [.lit (.bool false)], args := [d] }
  | _ => none }
def FnExactIsConditionWrongFalsely : Prop := fnExactIsConditionRow.holds Try.pinned (OpenSpec.ofChange fnExactIsConditionWrong)

/-- 'laws.FnExactIsRelation': WHATEVER THE INPUT: true; the input reads as it did. -/
def fnExactIsRelationSpec : ChangeSpec := { name := "fnExactIsRelation", fn := fun _ => fun
  | [d1, d2] => { results := [.lit (.bool true)], args := [d1, d2] }
  | _ => none }
def fnExactIsRelationRow : OpenClaim := { program := "ytpifgpciopfhjaa", sum := "cdd463d80b9ca1c09a066d83adf4c99af681f2e569f9a52e34ab8723ca6fd12d", func := "loop.example/g01078/laws.FnExactIsRelation", spec := "fnExactIsRelation", apart := false }
def FnExactIsRelationSaid : Prop := fnExactIsRelationRow.holds Try.pinned (OpenSpec.ofChange fnExactIsRelationSpec)

/-- ITS FALSE NEIGHBOUR: 'it returns false'. Refute it at one input. -/
def fnExactIsRelationWrong : ChangeSpec := { name := "fnExactIsRelation", fn := fun _ => fun
  | [d1, d2] => { results := [.lit (.bool false)], args := [d1, d2] }
  | _ => none }
def FnExactIsRelationWrongFalsely : Prop := fnExactIsRelationRow.holds Try.pinned (OpenSpec.ofChange fnExactIsRelationWrong)

/-- 'laws.FnExactGraphOf': WHATEVER THE INPUT: true; the input reads as it did. -/
def fnExactGraphOfSpec : ChangeSpec := { name := "fnExactGraphOf", fn := fun _ => fun
  | [d1, d2] => { results := [.lit (.bool true)], args := [d1, d2] }
  | _ => none }
def fnExactGraphOfRow : OpenClaim := { program := "ytpifgpciopfhjaa", sum := "cdd463d80b9ca1c09a066d83adf4c99af681f2e569f9a52e34ab8723ca6fd12d", func := "loop.example/g01078/laws.FnExactGraphOf", spec := "fnExactGraphOf", apart := false }
def FnExactGraphOfSaid : Prop := fnExactGraphOfRow.holds Try.pinned (OpenSpec.ofChange fnExactGraphOfSpec)

/-- ITS FALSE NEIGHBOUR: 'it returns false'. Refute it at one input. -/
def fnExactGraphOfWrong : ChangeSpec := { name := "fnExactGraphOf", fn := fun _ => fun
  | [d1, d2] => { results := [.lit (.bool false)], args := [d1, d2] }
  | _ => none }
def FnExactGraphOfWrongFalsely : Prop := fnExactGraphOfRow.holds Try.pinned (OpenSpec.ofChange fnExactGraphOfWrong)

/-- 'laws.FnExactHasTuple': WHATEVER THE INPUT: true; the input reads as it did. -/
def fnExactHasTupleSpec : ChangeSpec := { name := "fnExactHasTuple", fn := fun _ => fun
  | [d1, d2, d3] => { results := [.lit (.bool true)], args := [d1, d2, d3] }
  | _ => none }
def fnExactHasTupleRow : OpenClaim := { program := "ytpifgpciopfhjaa", sum := "cdd463d80b9ca1c09a066d83adf4c99af681f2e569f9a52e34ab8723ca6fd12d", func := "loop.example/g01078/laws.FnExactHasTuple", spec := "fnExactHasTuple", apart := false }
def FnExactHasTupleSaid : Prop := fnExactHasTupleRow.holds Try.pinned (OpenSpec.ofChange fnExactHasTupleSpec)

/-- ITS FALSE NEIGHBOUR: 'it returns false'. Refute it at one input. -/
def fnExactHasTupleWrong : ChangeSpec := { name := "fnExactHasTuple", fn := fun _ => fun
  | [d1, d2, d3] => { results := [.lit (.bool false)], args := [d1, d2, d3] }
  | _ => none }
def FnExactHasTupleWrongFalsely : Prop := fnExactHasTupleRow.holds Try.pinned (OpenSpec.ofChange fnExactHasTupleWrong)

/-- 'laws.FnExactIsTemplate': WHATEVER THE INPUT: true; the input reads as it did. -/
def fnExactIsTemplateSpec : ChangeSpec := { name := "fnExactIsTemplate", fn := fun _ => fun
  | [d1, d2] => { results := [.lit (.bool true)], args := [d1, d2] }
  | _ => none }
def fnExactIsTemplateRow : OpenClaim := { program := "ytpifgpciopfhjaa", sum := "cdd463d80b9ca1c09a066d83adf4c99af681f2e569f9a52e34ab8723ca6fd12d", func := "loop.example/g01078/laws.FnExactIsTemplate", spec := "fnExactIsTemplate", apart := false }
def FnExactIsTemplateSaid : Prop := fnExactIsTemplateRow.holds Try.pinned (OpenSpec.ofChange fnExactIsTemplateSpec)

/-- ITS FALSE NEIGHBOUR: 'it returns false'. Refute it at one input. -/
def fnExactIsTemplateWrong : ChangeSpec := { name := "fnExactIsTemplate", fn := fun _ => fun
  | [d1, d2] => { results := [.lit (.bool false)], args := [d1, d2] }
  | _ => none }
def FnExactIsTemplateWrongFalsely : Prop := fnExactIsTemplateRow.holds Try.pinned (OpenSpec.ofChange fnExactIsTemplateWrong)

/- THE SECOND FORM. 'bulk': how many values and letters a reading holds, each counted each time it is reached (what is shared counts as often as it is met; a slice's spare places count too). A statement '..UptoSaid' is the law's where the arguments, and the package variables that the reading takes, are together of bulk at most 1048576: NARROWER than '..Said'. Prove '..Said' where nothing that the law and all that it calls make is longer than what came in: it says more and counts as full. Else prove '..UptoSaid'. A law counts once. -/
mutual
def uptoBulk {H : Type} : DataW H → Nat
  | .lit (.string bytes) => bytes.length + 1
  | .lit _ => 1
  | .nil => 1
  | .ptr d => uptoBulk d + 1
  | .slice elems spare => uptoBulkAll elems + uptoBulkAll spare + 1
  | .agg parts => uptoBulkAll parts + 1
  | .iface _ d => uptoBulk d + 1
  | .map entries => uptoBulkEntries entries + 1
  | .held _ => 1
def uptoBulkAll {H : Type} : List (DataW H) → Nat
  | [] => 0
  | d :: r => uptoBulk d + uptoBulkAll r
def uptoBulkEntries {H : Type} : List (Lit × DataW H) → Nat
  | [] => 0
  | x :: r => uptoBulkEntry x + uptoBulkEntries r
def uptoBulkEntry {H : Type} : Lit × DataW H → Nat
  | (.string bytes, d) => bytes.length + uptoBulk d + 1
  | (_, d) => uptoBulk d + 1
 end
def uptoSmall : (H : Type) → List (DataW H) → Bool := fun _ ds => decide (uptoBulkAll ds ≤ 1048576)
def OpenSpec.upto (s : _root_.Go.ChangeSpec) : _root_.Go.OpenSpec := { _root_.Go.OpenSpec.ofChange s with cond := some uptoSmall }

/-- 'laws.FnExactFullRelation', WHERE WHAT IT READS IS OF BULK AT MOST 1048576: true; the input reads as it did. -/
def fnExactFullRelationUptoRow : OpenClaim := { program := "ytpifgpciopfhjaa", sum := "cdd463d80b9ca1c09a066d83adf4c99af681f2e569f9a52e34ab8723ca6fd12d", func := "loop.example/g01078/laws.FnExactFullRelation", spec := "fnExactFullRelation", apart := false, narrowed := true }
def FnExactFullRelationUptoSaid : Prop := fnExactFullRelationUptoRow.holds Try.pinned (OpenSpec.upto fnExactFullRelationSpec)

/-- 'laws.FnExactRelationOfPartition', WHERE WHAT IT READS IS OF BULK AT MOST 1048576: true; the input reads as it did. -/
def fnExactRelationOfPartitionUptoRow : OpenClaim := { program := "ytpifgpciopfhjaa", sum := "cdd463d80b9ca1c09a066d83adf4c99af681f2e569f9a52e34ab8723ca6fd12d", func := "loop.example/g01078/laws.FnExactRelationOfPartition", spec := "fnExactRelationOfPartition", apart := false, narrowed := true }
def FnExactRelationOfPartitionUptoSaid : Prop := fnExactRelationOfPartitionUptoRow.holds Try.pinned (OpenSpec.upto fnExactRelationOfPartitionSpec)

/-- 'laws.FnExactIsCondition', WHERE WHAT IT READS IS OF BULK AT MOST 1048576: true; the input reads as it did. -/
def fnExactIsConditionUptoRow : OpenClaim := { program := "ytpifgpciopfhjaa", sum := "cdd463d80b9ca1c09a066d83adf4c99af681f2e569f9a52e34ab8723ca6fd12d", func := "loop.example/g01078/laws.FnExactIsCondition", spec := "fnExactIsCondition", apart := false, narrowed := true }
def FnExactIsConditionUptoSaid : Prop := fnExactIsConditionUptoRow.holds Try.pinned (OpenSpec.upto fnExactIsConditionSpec)

/-- 'laws.FnExactIsRelation', WHERE WHAT IT READS IS OF BULK AT MOST 1048576: true; the input reads as it did. -/
def fnExactIsRelationUptoRow : OpenClaim := { program := "ytpifgpciopfhjaa", sum := "cdd463d80b9ca1c09a066d83adf4c99af681f2e569f9a52e34ab8723ca6fd12d", func := "loop.example/g01078/laws.FnExactIsRelation", spec := "fnExactIsRelation", apart := false, narrowed := true }
def FnExactIsRelationUptoSaid : Prop := fnExactIsRelationUptoRow.holds Try.pinned (OpenSpec.upto fnExactIsRelationSpec)

/-- 'laws.FnExactGraphOf', WHERE WHAT IT READS IS OF BULK AT MOST 1048576: true; the input reads as it did. -/
def fnExactGraphOfUptoRow : OpenClaim := { program := "ytpifgpciopfhjaa", sum := "cdd463d80b9ca1c09a066d83adf4c99af681f2e569f9a52e34ab8723ca6fd12d", func := "loop.example/g01078/laws.FnExactGraphOf", spec := "fnExactGraphOf", apart := false, narrowed := true }
def FnExactGraphOfUptoSaid : Prop := fnExactGraphOfUptoRow.holds Try.pinned (OpenSpec.upto fnExactGraphOfSpec)

/-- 'laws.FnExactHasTuple', WHERE WHAT IT READS IS OF BULK AT MOST 1048576: true; the input reads as it did. -/
def fnExactHasTupleUptoRow : OpenClaim := { program := "ytpifgpciopfhjaa", sum := "cdd463d80b9ca1c09a066d83adf4c99af681f2e569f9a52e34ab8723ca6fd12d", func := "loop.example/g01078/laws.FnExactHasTuple", spec := "fnExactHasTuple", apart := false, narrowed := true }
def FnExactHasTupleUptoSaid : Prop := fnExactHasTupleUptoRow.holds Try.pinned (OpenSpec.upto fnExactHasTupleSpec)

/-- 'laws.FnExactIsTemplate', WHERE WHAT IT READS IS OF BULK AT MOST 1048576: true; the input reads as it did. -/
def fnExactIsTemplateUptoRow : OpenClaim := { program := "ytpifgpciopfhjaa", sum := "cdd463d80b9ca1c09a066d83adf4c99af681f2e569f9a52e34ab8723ca6fd12d", func := "loop.example/g01078/laws.FnExactIsTemplate", spec := "fnExactIsTemplate", apart := false, narrowed := true }
def FnExactIsTemplateUptoSaid : Prop := fnExactIsTemplateUptoRow.holds Try.pinned (OpenSpec.upto fnExactIsTemplateSpec)

end Rows
end Go.Proofs.Ytpifgpciopfhjaa
