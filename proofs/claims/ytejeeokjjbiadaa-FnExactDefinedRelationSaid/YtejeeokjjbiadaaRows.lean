/-
  No cell of these rows narrows 'for every input' (looked for: loops, veiled, ifaces, maps, wideKeys, modest, calm, conditions, laid).
  DERIVED. THE GIVEN ROWS OF THIS SEAT. 12 by the template 'for every input the law returns true; each argument reads behind the call as it read before'; 0 by the template 'total and deterministic' (their statements: YtejeeokjjbiadaaTotals.lean).
  GIVEN WITH THE SEED: the statements are not yours to turn. If you find one false, say at which input.
  Laid BY PROGRAM, IN A SANDBOX (cutbox-rows.mjs): the forced cells as the released guide's own fill.sh prints them over the translation d2492346f9d9261b… (all of the seat's roots in one cut). By AI agents, Wed Nov 11 2026. No macro, syntax, notation, axiom, sorry.
-/
import Derived.Test.YtejeeokjjbiadaaChecked
import GoSem.Claim
import GoSem.ClaimJoined
import GoSem.ClaimMapViews
import Derived.JoinedTies
import Derived.KernelRfl
namespace Go.Proofs.Ytejeeokjjbiadaa
/- THE CELL 'sum', in the pinned program and in every row, IS THE sha256 OF THE DUMP (.gsa) THAT YtejeeokjjbiadaaProg.lean LOADS. Nothing in Lean hashes anything: it is a label: what it is worth is what the hold of that sum in a sandbox is worth. -/
noncomputable def Try.pinned : Pinned := { name := "ytejeeokjjbiadaa", sum := "d2492346f9d9261bafe1be719f35cc040cad4f615637a68228945648dbe36f14", checked := Try.checked }
namespace Rows
def none {H : Type} : Left H := { results := [], args := [] }

/-- 'laws.FnExactFreeAlgebra': WHATEVER THE INPUT: true; the input reads as it did. -/
def fnExactFreeAlgebraSpec : ChangeSpec := { name := "fnExactFreeAlgebra", fn := fun _ => fun
  | [d1, d2] => { results := [.lit (.bool true)], args := [d1, d2] }
  | _ => none }
def fnExactFreeAlgebraRow : OpenClaim := { program := "ytejeeokjjbiadaa", sum := "d2492346f9d9261bafe1be719f35cc040cad4f615637a68228945648dbe36f14", func := "loop.example/g01078/laws.FnExactFreeAlgebra", spec := "fnExactFreeAlgebra", inPlace := ["internal/reflectlite.ValueOf", "internal/reflectlite.Swapper", "(internal/reflectlite.Value).Len"], unfollowed := true, recurses := true, apart := false }
def FnExactFreeAlgebraSaid : Prop := fnExactFreeAlgebraRow.holds Try.pinned (OpenSpec.ofChange fnExactFreeAlgebraSpec)

/-- ITS FALSE NEIGHBOUR: 'it returns false'. Refute it at one input. -/
def fnExactFreeAlgebraWrong : ChangeSpec := { name := "fnExactFreeAlgebra", fn := fun _ => fun
  | [d1, d2] => { results := [.lit (.bool false)], args := [d1, d2] }
  | _ => none }
def FnExactFreeAlgebraWrongFalsely : Prop := fnExactFreeAlgebraRow.holds Try.pinned (OpenSpec.ofChange fnExactFreeAlgebraWrong)

/-- 'laws.FnExactFreeValue': WHATEVER THE INPUT: true; the input reads as it did. -/
def fnExactFreeValueSpec : ChangeSpec := { name := "fnExactFreeValue", fn := fun _ => fun
  | [d1, d2, d3, d4] => { results := [.lit (.bool true)], args := [d1, d2, d3, d4] }
  | _ => none }
def fnExactFreeValueRow : OpenClaim := { program := "ytejeeokjjbiadaa", sum := "d2492346f9d9261bafe1be719f35cc040cad4f615637a68228945648dbe36f14", func := "loop.example/g01078/laws.FnExactFreeValue", spec := "fnExactFreeValue", inPlace := ["internal/reflectlite.ValueOf", "internal/reflectlite.Swapper", "(internal/reflectlite.Value).Len"], unfollowed := true, recurses := true, apart := false }
def FnExactFreeValueSaid : Prop := fnExactFreeValueRow.holds Try.pinned (OpenSpec.ofChange fnExactFreeValueSpec)

/-- ITS FALSE NEIGHBOUR: 'it returns false'. Refute it at one input. -/
def fnExactFreeValueWrong : ChangeSpec := { name := "fnExactFreeValue", fn := fun _ => fun
  | [d1, d2, d3, d4] => { results := [.lit (.bool false)], args := [d1, d2, d3, d4] }
  | _ => none }
def FnExactFreeValueWrongFalsely : Prop := fnExactFreeValueRow.holds Try.pinned (OpenSpec.ofChange fnExactFreeValueWrong)

/-- 'laws.FnExactFreeOp': WHATEVER THE INPUT: true; the input reads as it did. -/
def fnExactFreeOpSpec : ChangeSpec := { name := "fnExactFreeOp", fn := fun _ => fun
  | [d1, d2, d3] => { results := [.lit (.bool true)], args := [d1, d2, d3] }
  | _ => none }
def fnExactFreeOpRow : OpenClaim := { program := "ytejeeokjjbiadaa", sum := "d2492346f9d9261bafe1be719f35cc040cad4f615637a68228945648dbe36f14", func := "loop.example/g01078/laws.FnExactFreeOp", spec := "fnExactFreeOp", inPlace := ["internal/reflectlite.ValueOf", "internal/reflectlite.Swapper", "(internal/reflectlite.Value).Len"], unfollowed := true, recurses := true, apart := false }
def FnExactFreeOpSaid : Prop := fnExactFreeOpRow.holds Try.pinned (OpenSpec.ofChange fnExactFreeOpSpec)

/-- ITS FALSE NEIGHBOUR: 'it returns false'. Refute it at one input. -/
def fnExactFreeOpWrong : ChangeSpec := { name := "fnExactFreeOp", fn := fun _ => fun
  | [d1, d2, d3] => { results := [.lit (.bool false)], args := [d1, d2, d3] }
  | _ => none }
def FnExactFreeOpWrongFalsely : Prop := fnExactFreeOpRow.holds Try.pinned (OpenSpec.ofChange fnExactFreeOpWrong)

/-- 'laws.FnExactFreeSizes': WHATEVER THE INPUT: true; the input reads as it did. -/
def fnExactFreeSizesSpec : ChangeSpec := { name := "fnExactFreeSizes", fn := fun _ => fun
  | [d] => { results := [.lit (.bool true)], args := [d] }
  | _ => none }
def fnExactFreeSizesRow : OpenClaim := { program := "ytejeeokjjbiadaa", sum := "d2492346f9d9261bafe1be719f35cc040cad4f615637a68228945648dbe36f14", func := "loop.example/g01078/laws.FnExactFreeSizes", spec := "fnExactFreeSizes", inPlace := ["internal/reflectlite.ValueOf", "internal/reflectlite.Swapper", "(internal/reflectlite.Value).Len"], unfollowed := true, recurses := true, apart := false }
def FnExactFreeSizesSaid : Prop := fnExactFreeSizesRow.holds Try.pinned (OpenSpec.ofChange fnExactFreeSizesSpec)

/-- ITS FALSE NEIGHBOUR: 'it returns false'. Refute it at one input. -/
def fnExactFreeSizesWrong : ChangeSpec := { name := "fnExactFreeSizes", fn := fun _ => fun
  | [d] => { results := [.lit (.bool false)], args := [d] }
  | _ => none }
def FnExactFreeSizesWrongFalsely : Prop := fnExactFreeSizesRow.holds Try.pinned (OpenSpec.ofChange fnExactFreeSizesWrong)

/-- 'laws.FnExactFreeGenerators': WHATEVER THE INPUT: true; the input reads as it did. -/
def fnExactFreeGeneratorsSpec : ChangeSpec := { name := "fnExactFreeGenerators", fn := fun _ => fun
  | [d1, d2] => { results := [.lit (.bool true)], args := [d1, d2] }
  | _ => none }
def fnExactFreeGeneratorsRow : OpenClaim := { program := "ytejeeokjjbiadaa", sum := "d2492346f9d9261bafe1be719f35cc040cad4f615637a68228945648dbe36f14", func := "loop.example/g01078/laws.FnExactFreeGenerators", spec := "fnExactFreeGenerators", inPlace := ["internal/reflectlite.ValueOf", "internal/reflectlite.Swapper", "(internal/reflectlite.Value).Len"], unfollowed := true, recurses := true, apart := false }
def FnExactFreeGeneratorsSaid : Prop := fnExactFreeGeneratorsRow.holds Try.pinned (OpenSpec.ofChange fnExactFreeGeneratorsSpec)

/-- ITS FALSE NEIGHBOUR: 'it returns false'. Refute it at one input. -/
def fnExactFreeGeneratorsWrong : ChangeSpec := { name := "fnExactFreeGenerators", fn := fun _ => fun
  | [d1, d2] => { results := [.lit (.bool false)], args := [d1, d2] }
  | _ => none }
def FnExactFreeGeneratorsWrongFalsely : Prop := fnExactFreeGeneratorsRow.holds Try.pinned (OpenSpec.ofChange fnExactFreeGeneratorsWrong)

/-- 'laws.FnExactFreeElements': WHATEVER THE INPUT: true; the input reads as it did. -/
def fnExactFreeElementsSpec : ChangeSpec := { name := "fnExactFreeElements", fn := fun _ => fun
  | [d1, d2] => { results := [.lit (.bool true)], args := [d1, d2] }
  | _ => none }
def fnExactFreeElementsRow : OpenClaim := { program := "ytejeeokjjbiadaa", sum := "d2492346f9d9261bafe1be719f35cc040cad4f615637a68228945648dbe36f14", func := "loop.example/g01078/laws.FnExactFreeElements", spec := "fnExactFreeElements", inPlace := ["internal/reflectlite.ValueOf", "internal/reflectlite.Swapper", "(internal/reflectlite.Value).Len"], unfollowed := true, recurses := true, apart := false }
def FnExactFreeElementsSaid : Prop := fnExactFreeElementsRow.holds Try.pinned (OpenSpec.ofChange fnExactFreeElementsSpec)

/-- ITS FALSE NEIGHBOUR: 'it returns false'. Refute it at one input. -/
def fnExactFreeElementsWrong : ChangeSpec := { name := "fnExactFreeElements", fn := fun _ => fun
  | [d1, d2] => { results := [.lit (.bool false)], args := [d1, d2] }
  | _ => none }
def FnExactFreeElementsWrongFalsely : Prop := fnExactFreeElementsRow.holds Try.pinned (OpenSpec.ofChange fnExactFreeElementsWrong)

/-- 'laws.FnExactMapFromFree': WHATEVER THE INPUT: true; the input reads as it did. -/
def fnExactMapFromFreeSpec : ChangeSpec := { name := "fnExactMapFromFree", fn := fun _ => fun
  | [d1, d2, d3] => { results := [.lit (.bool true)], args := [d1, d2, d3] }
  | _ => none }
def fnExactMapFromFreeRow : OpenClaim := { program := "ytejeeokjjbiadaa", sum := "d2492346f9d9261bafe1be719f35cc040cad4f615637a68228945648dbe36f14", func := "loop.example/g01078/laws.FnExactMapFromFree", spec := "fnExactMapFromFree", inPlace := ["internal/reflectlite.ValueOf", "internal/reflectlite.Swapper", "(internal/reflectlite.Value).Len"], unfollowed := true, recurses := true, apart := false }
def FnExactMapFromFreeSaid : Prop := fnExactMapFromFreeRow.holds Try.pinned (OpenSpec.ofChange fnExactMapFromFreeSpec)

/-- ITS FALSE NEIGHBOUR: 'it returns false'. Refute it at one input. -/
def fnExactMapFromFreeWrong : ChangeSpec := { name := "fnExactMapFromFree", fn := fun _ => fun
  | [d1, d2, d3] => { results := [.lit (.bool false)], args := [d1, d2, d3] }
  | _ => none }
def FnExactMapFromFreeWrongFalsely : Prop := fnExactMapFromFreeRow.holds Try.pinned (OpenSpec.ofChange fnExactMapFromFreeWrong)

/-- 'laws.FnExactAutomorphismOrbits': WHATEVER THE INPUT: true; the input reads as it did. -/
def fnExactAutomorphismOrbitsSpec : ChangeSpec := { name := "fnExactAutomorphismOrbits", fn := fun _ => fun
  | [d] => { results := [.lit (.bool true)], args := [d] }
  | _ => none }
def fnExactAutomorphismOrbitsRow : OpenClaim := { program := "ytejeeokjjbiadaa", sum := "d2492346f9d9261bafe1be719f35cc040cad4f615637a68228945648dbe36f14", func := "loop.example/g01078/laws.FnExactAutomorphismOrbits", spec := "fnExactAutomorphismOrbits", unfollowed := true, recurses := true, apart := false }
def FnExactAutomorphismOrbitsSaid : Prop := fnExactAutomorphismOrbitsRow.holds Try.pinned (OpenSpec.ofChange fnExactAutomorphismOrbitsSpec)

/-- ITS FALSE NEIGHBOUR: 'it returns false'. Refute it at one input. -/
def fnExactAutomorphismOrbitsWrong : ChangeSpec := { name := "fnExactAutomorphismOrbits", fn := fun _ => fun
  | [d] => { results := [.lit (.bool false)], args := [d] }
  | _ => none }
def FnExactAutomorphismOrbitsWrongFalsely : Prop := fnExactAutomorphismOrbitsRow.holds Try.pinned (OpenSpec.ofChange fnExactAutomorphismOrbitsWrong)

/-- 'laws.FnExactSemilatticeTerms': WHATEVER THE INPUT: true; the input reads as it did. -/
def fnExactSemilatticeTermsSpec : ChangeSpec := { name := "fnExactSemilatticeTerms", fn := fun _ => fun
  | [d] => { results := [.lit (.bool true)], args := [d] }
  | _ => none }
def fnExactSemilatticeTermsRow : OpenClaim := { program := "ytejeeokjjbiadaa", sum := "d2492346f9d9261bafe1be719f35cc040cad4f615637a68228945648dbe36f14", func := "loop.example/g01078/laws.FnExactSemilatticeTerms", spec := "fnExactSemilatticeTerms", apart := false }
def FnExactSemilatticeTermsSaid : Prop := fnExactSemilatticeTermsRow.holds Try.pinned (OpenSpec.ofChange fnExactSemilatticeTermsSpec)

/-- ITS FALSE NEIGHBOUR: 'it returns false'. Refute it at one input. -/
def fnExactSemilatticeTermsWrong : ChangeSpec := { name := "fnExactSemilatticeTerms", fn := fun _ => fun
  | [d] => { results := [.lit (.bool false)], args := [d] }
  | _ => none }
def FnExactSemilatticeTermsWrongFalsely : Prop := fnExactSemilatticeTermsRow.holds Try.pinned (OpenSpec.ofChange fnExactSemilatticeTermsWrong)

/-- 'laws.FnExactIsRefutation': WHATEVER THE INPUT: true; the input reads as it did. -/
def fnExactIsRefutationSpec : ChangeSpec := { name := "fnExactIsRefutation", fn := fun _ => fun
  | [d1, d2, d3] => { results := [.lit (.bool true)], args := [d1, d2, d3] }
  | _ => none }
def fnExactIsRefutationRow : OpenClaim := { program := "ytejeeokjjbiadaa", sum := "d2492346f9d9261bafe1be719f35cc040cad4f615637a68228945648dbe36f14", func := "loop.example/g01078/laws.FnExactIsRefutation", spec := "fnExactIsRefutation", unfollowed := true, recurses := true, apart := false }
def FnExactIsRefutationSaid : Prop := fnExactIsRefutationRow.holds Try.pinned (OpenSpec.ofChange fnExactIsRefutationSpec)

/-- ITS FALSE NEIGHBOUR: 'it returns false'. Refute it at one input. -/
def fnExactIsRefutationWrong : ChangeSpec := { name := "fnExactIsRefutation", fn := fun _ => fun
  | [d1, d2, d3] => { results := [.lit (.bool false)], args := [d1, d2, d3] }
  | _ => none }
def FnExactIsRefutationWrongFalsely : Prop := fnExactIsRefutationRow.holds Try.pinned (OpenSpec.ofChange fnExactIsRefutationWrong)

/-- 'laws.FnExactObeyedBy': WHATEVER THE INPUT: true; the input reads as it did. -/
def fnExactObeyedBySpec : ChangeSpec := { name := "fnExactObeyedBy", fn := fun _ => fun
  | [d1, d2, d3] => { results := [.lit (.bool true)], args := [d1, d2, d3] }
  | _ => none }
def fnExactObeyedByRow : OpenClaim := { program := "ytejeeokjjbiadaa", sum := "d2492346f9d9261bafe1be719f35cc040cad4f615637a68228945648dbe36f14", func := "loop.example/g01078/laws.FnExactObeyedBy", spec := "fnExactObeyedBy", unfollowed := true, recurses := true, apart := false }
def FnExactObeyedBySaid : Prop := fnExactObeyedByRow.holds Try.pinned (OpenSpec.ofChange fnExactObeyedBySpec)

/-- ITS FALSE NEIGHBOUR: 'it returns false'. Refute it at one input. -/
def fnExactObeyedByWrong : ChangeSpec := { name := "fnExactObeyedBy", fn := fun _ => fun
  | [d1, d2, d3] => { results := [.lit (.bool false)], args := [d1, d2, d3] }
  | _ => none }
def FnExactObeyedByWrongFalsely : Prop := fnExactObeyedByRow.holds Try.pinned (OpenSpec.ofChange fnExactObeyedByWrong)

/-- 'laws.FnExactDefinedRelation': WHATEVER THE INPUT: true; the input reads as it did. -/
def fnExactDefinedRelationSpec : ChangeSpec := { name := "fnExactDefinedRelation", fn := fun _ => fun
  | [d1, d2, d3, d4, d5] => { results := [.lit (.bool true)], args := [d1, d2, d3, d4, d5] }
  | _ => none }
def fnExactDefinedRelationRow : OpenClaim := { program := "ytejeeokjjbiadaa", sum := "d2492346f9d9261bafe1be719f35cc040cad4f615637a68228945648dbe36f14", func := "loop.example/g01078/laws.FnExactDefinedRelation", spec := "fnExactDefinedRelation", inPlace := ["internal/reflectlite.ValueOf", "internal/reflectlite.Swapper", "(internal/reflectlite.Value).Len"], unfollowed := true, recurses := true, apart := false }
def FnExactDefinedRelationSaid : Prop := fnExactDefinedRelationRow.holds Try.pinned (OpenSpec.ofChange fnExactDefinedRelationSpec)

/-- ITS FALSE NEIGHBOUR: 'it returns false'. Refute it at one input. -/
def fnExactDefinedRelationWrong : ChangeSpec := { name := "fnExactDefinedRelation", fn := fun _ => fun
  | [d1, d2, d3, d4, d5] => { results := [.lit (.bool false)], args := [d1, d2, d3, d4, d5] }
  | _ => none }
def FnExactDefinedRelationWrongFalsely : Prop := fnExactDefinedRelationRow.holds Try.pinned (OpenSpec.ofChange fnExactDefinedRelationWrong)

/- THE SECOND FORM. 'bulk': how many values and letters a reading holds, each counted each time it is reached (what is shared counts as often as it is met; a slice's spare places count too). A statement '..UptoSaid' is the law's where the arguments, and the package variables that the reading takes, are together of bulk at most 1048576: NARROWER than '..Said'. Prove '..Said' where nothing that the law and all that it calls make is longer than what came in: it says more and counts as full. Else prove '..UptoSaid'. A law counts once. -/
mutual
def uptoBulk {H : Type} : DataW H → Nat
  | .lit (.string bytes) => bytes.length + 1
  | .lit _ => 1
  | .nil => 1
  | .ptr d => uptoBulk d + 1
  | .slice elems spare => uptoBulkAll elems + uptoBulkAll spare + 1
  | .agg parts => uptoBulkAll parts + 1
  | .iface _ d => uptoBulk d + 1
  | .map entries => uptoBulkEntries entries + 1
  | .held _ => 1
def uptoBulkAll {H : Type} : List (DataW H) → Nat
  | [] => 0
  | d :: r => uptoBulk d + uptoBulkAll r
def uptoBulkEntries {H : Type} : List (Lit × DataW H) → Nat
  | [] => 0
  | x :: r => uptoBulkEntry x + uptoBulkEntries r
def uptoBulkEntry {H : Type} : Lit × DataW H → Nat
  | (.string bytes, d) => bytes.length + uptoBulk d + 1
  | (_, d) => uptoBulk d + 1
 end
def uptoSmall : (H : Type) → List (DataW H) → Bool := fun _ ds => decide (uptoBulkAll ds ≤ 1048576)
def OpenSpec.upto (s : _root_.Go.ChangeSpec) : _root_.Go.OpenSpec := { _root_.Go.OpenSpec.ofChange s with cond := some uptoSmall }

/-- 'laws.FnExactFreeAlgebra', WHERE WHAT IT READS IS OF BULK AT MOST 1048576: true; the input reads as it did. -/
def fnExactFreeAlgebraUptoRow : OpenClaim := { program := "ytejeeokjjbiadaa", sum := "d2492346f9d9261bafe1be719f35cc040cad4f615637a68228945648dbe36f14", func := "loop.example/g01078/laws.FnExactFreeAlgebra", spec := "fnExactFreeAlgebra", inPlace := ["internal/reflectlite.ValueOf", "internal/reflectlite.Swapper", "(internal/reflectlite.Value).Len"], unfollowed := true, recurses := true, apart := false, narrowed := true }
def FnExactFreeAlgebraUptoSaid : Prop := fnExactFreeAlgebraUptoRow.holds Try.pinned (OpenSpec.upto fnExactFreeAlgebraSpec)

/-- 'laws.FnExactFreeValue', WHERE WHAT IT READS IS OF BULK AT MOST 1048576: true; the input reads as it did. -/
def fnExactFreeValueUptoRow : OpenClaim := { program := "ytejeeokjjbiadaa", sum := "d2492346f9d9261bafe1be719f35cc040cad4f615637a68228945648dbe36f14", func := "loop.example/g01078/laws.FnExactFreeValue", spec := "fnExactFreeValue", inPlace := ["internal/reflectlite.ValueOf", "internal/reflectlite.Swapper", "(internal/reflectlite.Value).Len"], unfollowed := true, recurses := true, apart := false, narrowed := true }
def FnExactFreeValueUptoSaid : Prop := fnExactFreeValueUptoRow.holds Try.pinned (OpenSpec.upto fnExactFreeValueSpec)

/-- 'laws.FnExactFreeOp', WHERE WHAT IT READS IS OF BULK AT MOST 1048576: true; the input reads as it did. -/
def fnExactFreeOpUptoRow : OpenClaim := { program := "ytejeeokjjbiadaa", sum := "d2492346f9d9261bafe1be719f35cc040cad4f615637a68228945648dbe36f14", func := "loop.example/g01078/laws.FnExactFreeOp", spec := "fnExactFreeOp", inPlace := ["internal/reflectlite.ValueOf", "internal/reflectlite.Swapper", "(internal/reflectlite.Value).Len"], unfollowed := true, recurses := true, apart := false, narrowed := true }
def FnExactFreeOpUptoSaid : Prop := fnExactFreeOpUptoRow.holds Try.pinned (OpenSpec.upto fnExactFreeOpSpec)

/-- 'laws.FnExactFreeSizes', WHERE WHAT IT READS IS OF BULK AT MOST 1048576: true; the input reads as it did. -/
def fnExactFreeSizesUptoRow : OpenClaim := { program := "ytejeeokjjbiadaa", sum := "d2492346f9d9261bafe1be719f35cc040cad4f615637a68228945648dbe36f14", func := "loop.example/g01078/laws.FnExactFreeSizes", spec := "fnExactFreeSizes", inPlace := ["internal/reflectlite.ValueOf", "internal/reflectlite.Swapper", "(internal/reflectlite.Value).Len"], unfollowed := true, recurses := true, apart := false, narrowed := true }
def FnExactFreeSizesUptoSaid : Prop := fnExactFreeSizesUptoRow.holds Try.pinned (OpenSpec.upto fnExactFreeSizesSpec)

/-- 'laws.FnExactFreeGenerators', WHERE WHAT IT READS IS OF BULK AT MOST 1048576: true; the input reads as it did. -/
def fnExactFreeGeneratorsUptoRow : OpenClaim := { program := "ytejeeokjjbiadaa", sum := "d2492346f9d9261bafe1be719f35cc040cad4f615637a68228945648dbe36f14", func := "loop.example/g01078/laws.FnExactFreeGenerators", spec := "fnExactFreeGenerators", inPlace := ["internal/reflectlite.ValueOf", "internal/reflectlite.Swapper", "(internal/reflectlite.Value).Len"], unfollowed := true, recurses := true, apart := false, narrowed := true }
def FnExactFreeGeneratorsUptoSaid : Prop := fnExactFreeGeneratorsUptoRow.holds Try.pinned (OpenSpec.upto fnExactFreeGeneratorsSpec)

/-- 'laws.FnExactFreeElements', WHERE WHAT IT READS IS OF BULK AT MOST 1048576: true; the input reads as it did. -/
def fnExactFreeElementsUptoRow : OpenClaim := { program := "ytejeeokjjbiadaa", sum := "d2492346f9d9261bafe1be719f35cc040cad4f615637a68228945648dbe36f14", func := "loop.example/g01078/laws.FnExactFreeElements", spec := "fnExactFreeElements", inPlace := ["internal/reflectlite.ValueOf", "internal/reflectlite.Swapper", "(internal/reflectlite.Value).Len"], unfollowed := true, recurses := true, apart := false, narrowed := true }
def FnExactFreeElementsUptoSaid : Prop := fnExactFreeElementsUptoRow.holds Try.pinned (OpenSpec.upto fnExactFreeElementsSpec)

/-- 'laws.FnExactMapFromFree', WHERE WHAT IT READS IS OF BULK AT MOST 1048576: true; the input reads as it did. -/
def fnExactMapFromFreeUptoRow : OpenClaim := { program := "ytejeeokjjbiadaa", sum := "d2492346f9d9261bafe1be719f35cc040cad4f615637a68228945648dbe36f14", func := "loop.example/g01078/laws.FnExactMapFromFree", spec := "fnExactMapFromFree", inPlace := ["internal/reflectlite.ValueOf", "internal/reflectlite.Swapper", "(internal/reflectlite.Value).Len"], unfollowed := true, recurses := true, apart := false, narrowed := true }
def FnExactMapFromFreeUptoSaid : Prop := fnExactMapFromFreeUptoRow.holds Try.pinned (OpenSpec.upto fnExactMapFromFreeSpec)

/-- 'laws.FnExactAutomorphismOrbits', WHERE WHAT IT READS IS OF BULK AT MOST 1048576: true; the input reads as it did. -/
def fnExactAutomorphismOrbitsUptoRow : OpenClaim := { program := "ytejeeokjjbiadaa", sum := "d2492346f9d9261bafe1be719f35cc040cad4f615637a68228945648dbe36f14", func := "loop.example/g01078/laws.FnExactAutomorphismOrbits", spec := "fnExactAutomorphismOrbits", unfollowed := true, recurses := true, apart := false, narrowed := true }
def FnExactAutomorphismOrbitsUptoSaid : Prop := fnExactAutomorphismOrbitsUptoRow.holds Try.pinned (OpenSpec.upto fnExactAutomorphismOrbitsSpec)

/-- 'laws.FnExactSemilatticeTerms', WHERE WHAT IT READS IS OF BULK AT MOST 1048576: true; the input reads as it did. -/
def fnExactSemilatticeTermsUptoRow : OpenClaim := { program := "ytejeeokjjbiadaa", sum := "d2492346f9d9261bafe1be719f35cc040cad4f615637a68228945648dbe36f14", func := "loop.example/g01078/laws.FnExactSemilatticeTerms", spec := "fnExactSemilatticeTerms", apart := false, narrowed := true }
def FnExactSemilatticeTermsUptoSaid : Prop := fnExactSemilatticeTermsUptoRow.holds Try.pinned (OpenSpec.upto fnExactSemilatticeTermsSpec)

/-- 'laws.FnExactIsRefutation', WHERE WHAT IT READS IS OF BULK AT MOST 1048576: true; the input reads as it did. -/
def fnExactIsRefutationUptoRow : OpenClaim := { program := "ytejeeokjjbiadaa", sum := "d2492346f9d9261bafe1be719f35cc040cad4f615637a68228945648dbe36f14", func := "loop.example/g01078/laws.FnExactIsRefutation", spec := "fnExactIsRefutation", unfollowed := true, recurses := true, apart := false, narrowed := true }
def FnExactIsRefutationUptoSaid : Prop := fnExactIsRefutationUptoRow.holds Try.pinned (OpenSpec.upto fnExactIsRefutationSpec)

/-- 'laws.FnExactObeyedBy', WHERE WHAT IT READS IS OF BULK AT MOST 1048576: true; the input reads as it did. -/
def fnExactObeyedByUptoRow : OpenClaim := { program := "ytejeeokjjbiadaa", sum := "d2492346f9d9261bafe1be719f35cc040cad4f615637a68228945648dbe36f14", func := "loop.example/g01078/laws.FnExactObeyedBy", spec := "fnExactObeyedBy", unfollowed := true, recurses := true, apart := false, narrowed := true }
def FnExactObeyedByUptoSaid : Prop := fnExactObeyedByUptoRow.holds Try.pinned (OpenSpec.upto fnExactObeyedBySpec)

/-- 'laws.FnExactDefinedRelation', WHERE WHAT IT READS IS OF BULK AT MOST 1048576: true; the input reads as it did. -/
def fnExactDefinedRelationUptoRow : OpenClaim := { program := "ytejeeokjjbiadaa", sum := "d2492346f9d9261bafe1be719f35cc040cad4f615637a68228945648dbe36f14", func := "loop.example/g01078/laws.FnExactDefinedRelation", spec := "fnExactDefinedRelation", inPlace := ["internal/reflectlite.ValueOf", "internal/reflectlite.Swapper", "(internal/reflectlite.Value).Len"], unfollowed := true, recurses := true, apart := false, narrowed := true }
def FnExactDefinedRelationUptoSaid : Prop := fnExactDefinedRelationUptoRow.holds Try.pinned (OpenSpec.upto fnExactDefinedRelationSpec)

end Rows
end Go.Proofs.Ytejeeokjjbiadaa
