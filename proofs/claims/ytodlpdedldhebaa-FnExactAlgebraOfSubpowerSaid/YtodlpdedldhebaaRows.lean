/-
  No cell of these rows narrows 'for every input' (looked for: loops, veiled, ifaces, maps, wideKeys, modest, calm, conditions, laid).
  DERIVED. THE GIVEN ROWS OF THIS SEAT. 12 by the template 'for every input the law returns true; each argument reads behind the call as it read before'; 0 by the template 'total and deterministic' (their statements: YtodlpdedldhebaaTotals.lean).
  GIVEN WITH THE SEED: the statements are not yours to turn. If you find one false, say at which input.
  Laid BY PROGRAM, IN A SANDBOX (cutbox-rows.mjs): the forced cells as the released guide's own fill.sh prints them over the translation 4cbb0fbb27b22782… (all of the seat's roots in one cut). By AI agents, Wed Nov 11 2026. No macro, syntax, notation, axiom, sorry.
-/
import Derived.Test.YtodlpdedldhebaaChecked
import GoSem.Claim
import GoSem.ClaimJoined
import GoSem.ClaimMapViews
import Derived.JoinedTies
import Derived.KernelRfl
namespace Go.Proofs.Ytodlpdedldhebaa
/- THE CELL 'sum', in the pinned program and in every row, IS THE sha256 OF THE DUMP (.gsa) THAT YtodlpdedldhebaaProg.lean LOADS. Nothing in Lean hashes anything: it is a label: what it is worth is what the hold of that sum in a sandbox is worth. -/
noncomputable def Try.pinned : Pinned := { name := "ytodlpdedldhebaa", sum := "4cbb0fbb27b22782a2932b73a2b8c96f29eaca9e760a0b8a7fb6c16016ff9895", checked := Try.checked }
namespace Rows
def none {H : Type} : Left H := { results := [], args := [] }

/-- 'laws.FnExactRelationOf': WHATEVER THE INPUT: true; the input reads as it did. -/
def fnExactRelationOfSpec : ChangeSpec := { name := "fnExactRelationOf", fn := fun _ => fun
  | [d1, d2, d3] => { results := [.lit (.bool true)], args := [d1, d2, d3] }
  | _ => none }
def fnExactRelationOfRow : OpenClaim := { program := "ytodlpdedldhebaa", sum := "4cbb0fbb27b22782a2932b73a2b8c96f29eaca9e760a0b8a7fb6c16016ff9895", func := "loop.example/g01078/laws.FnExactRelationOf", spec := "fnExactRelationOf", inPlace := ["internal/reflectlite.ValueOf", "internal/reflectlite.Swapper", "(internal/reflectlite.Value).Len"], unfollowed := true, recurses := true, apart := false }
def FnExactRelationOfSaid : Prop := fnExactRelationOfRow.holds Try.pinned (OpenSpec.ofChange fnExactRelationOfSpec)

/-- ITS FALSE NEIGHBOUR: 'it returns false'. Refute it at one input. -/
def fnExactRelationOfWrong : ChangeSpec := { name := "fnExactRelationOf", fn := fun _ => fun
  | [d1, d2, d3] => { results := [.lit (.bool false)], args := [d1, d2, d3] }
  | _ => none }
def FnExactRelationOfWrongFalsely : Prop := fnExactRelationOfRow.holds Try.pinned (OpenSpec.ofChange fnExactRelationOfWrong)

/-- 'laws.FnExactReverseRelation': WHATEVER THE INPUT: true; the input reads as it did. -/
def fnExactReverseRelationSpec : ChangeSpec := { name := "fnExactReverseRelation", fn := fun _ => fun
  | [d1, d2] => { results := [.lit (.bool true)], args := [d1, d2] }
  | _ => none }
def fnExactReverseRelationRow : OpenClaim := { program := "ytodlpdedldhebaa", sum := "4cbb0fbb27b22782a2932b73a2b8c96f29eaca9e760a0b8a7fb6c16016ff9895", func := "loop.example/g01078/laws.FnExactReverseRelation", spec := "fnExactReverseRelation", inPlace := ["internal/reflectlite.ValueOf", "internal/reflectlite.Swapper", "(internal/reflectlite.Value).Len"], unfollowed := true, recurses := true, apart := false }
def FnExactReverseRelationSaid : Prop := fnExactReverseRelationRow.holds Try.pinned (OpenSpec.ofChange fnExactReverseRelationSpec)

/-- ITS FALSE NEIGHBOUR: 'it returns false'. Refute it at one input. -/
def fnExactReverseRelationWrong : ChangeSpec := { name := "fnExactReverseRelation", fn := fun _ => fun
  | [d1, d2] => { results := [.lit (.bool false)], args := [d1, d2] }
  | _ => none }
def FnExactReverseRelationWrongFalsely : Prop := fnExactReverseRelationRow.holds Try.pinned (OpenSpec.ofChange fnExactReverseRelationWrong)

/-- 'laws.FnExactComposeRelations': WHATEVER THE INPUT: true; the input reads as it did. -/
def fnExactComposeRelationsSpec : ChangeSpec := { name := "fnExactComposeRelations", fn := fun _ => fun
  | [d1, d2, d3] => { results := [.lit (.bool true)], args := [d1, d2, d3] }
  | _ => none }
def fnExactComposeRelationsRow : OpenClaim := { program := "ytodlpdedldhebaa", sum := "4cbb0fbb27b22782a2932b73a2b8c96f29eaca9e760a0b8a7fb6c16016ff9895", func := "loop.example/g01078/laws.FnExactComposeRelations", spec := "fnExactComposeRelations", inPlace := ["internal/reflectlite.ValueOf", "internal/reflectlite.Swapper", "(internal/reflectlite.Value).Len"], unfollowed := true, recurses := true, apart := false }
def FnExactComposeRelationsSaid : Prop := fnExactComposeRelationsRow.holds Try.pinned (OpenSpec.ofChange fnExactComposeRelationsSpec)

/-- ITS FALSE NEIGHBOUR: 'it returns false'. Refute it at one input. -/
def fnExactComposeRelationsWrong : ChangeSpec := { name := "fnExactComposeRelations", fn := fun _ => fun
  | [d1, d2, d3] => { results := [.lit (.bool false)], args := [d1, d2, d3] }
  | _ => none }
def FnExactComposeRelationsWrongFalsely : Prop := fnExactComposeRelationsRow.holds Try.pinned (OpenSpec.ofChange fnExactComposeRelationsWrong)

/-- 'laws.FnExactProjectRelation': WHATEVER THE INPUT: true; the input reads as it did. -/
def fnExactProjectRelationSpec : ChangeSpec := { name := "fnExactProjectRelation", fn := fun _ => fun
  | [d1, d2, d3] => { results := [.lit (.bool true)], args := [d1, d2, d3] }
  | _ => none }
def fnExactProjectRelationRow : OpenClaim := { program := "ytodlpdedldhebaa", sum := "4cbb0fbb27b22782a2932b73a2b8c96f29eaca9e760a0b8a7fb6c16016ff9895", func := "loop.example/g01078/laws.FnExactProjectRelation", spec := "fnExactProjectRelation", inPlace := ["internal/reflectlite.ValueOf", "internal/reflectlite.Swapper", "(internal/reflectlite.Value).Len"], unfollowed := true, recurses := true, apart := false }
def FnExactProjectRelationSaid : Prop := fnExactProjectRelationRow.holds Try.pinned (OpenSpec.ofChange fnExactProjectRelationSpec)

/-- ITS FALSE NEIGHBOUR: 'it returns false'. Refute it at one input. -/
def fnExactProjectRelationWrong : ChangeSpec := { name := "fnExactProjectRelation", fn := fun _ => fun
  | [d1, d2, d3] => { results := [.lit (.bool false)], args := [d1, d2, d3] }
  | _ => none }
def FnExactProjectRelationWrongFalsely : Prop := fnExactProjectRelationRow.holds Try.pinned (OpenSpec.ofChange fnExactProjectRelationWrong)

/-- 'laws.FnExactFixPlace': WHATEVER THE INPUT: true; the input reads as it did. -/
def fnExactFixPlaceSpec : ChangeSpec := { name := "fnExactFixPlace", fn := fun _ => fun
  | [d1, d2, d3, d4] => { results := [.lit (.bool true)], args := [d1, d2, d3, d4] }
  | _ => none }
def fnExactFixPlaceRow : OpenClaim := { program := "ytodlpdedldhebaa", sum := "4cbb0fbb27b22782a2932b73a2b8c96f29eaca9e760a0b8a7fb6c16016ff9895", func := "loop.example/g01078/laws.FnExactFixPlace", spec := "fnExactFixPlace", inPlace := ["internal/reflectlite.ValueOf", "internal/reflectlite.Swapper", "(internal/reflectlite.Value).Len"], unfollowed := true, recurses := true, apart := false }
def FnExactFixPlaceSaid : Prop := fnExactFixPlaceRow.holds Try.pinned (OpenSpec.ofChange fnExactFixPlaceSpec)

/-- ITS FALSE NEIGHBOUR: 'it returns false'. Refute it at one input. -/
def fnExactFixPlaceWrong : ChangeSpec := { name := "fnExactFixPlace", fn := fun _ => fun
  | [d1, d2, d3, d4] => { results := [.lit (.bool false)], args := [d1, d2, d3, d4] }
  | _ => none }
def FnExactFixPlaceWrongFalsely : Prop := fnExactFixPlaceRow.holds Try.pinned (OpenSpec.ofChange fnExactFixPlaceWrong)

/-- 'laws.FnExactRetractions': WHATEVER THE INPUT: true; the input reads as it did. -/
def fnExactRetractionsSpec : ChangeSpec := { name := "fnExactRetractions", fn := fun _ => fun
  | [d] => { results := [.lit (.bool true)], args := [d] }
  | _ => none }
def fnExactRetractionsRow : OpenClaim := { program := "ytodlpdedldhebaa", sum := "4cbb0fbb27b22782a2932b73a2b8c96f29eaca9e760a0b8a7fb6c16016ff9895", func := "loop.example/g01078/laws.FnExactRetractions", spec := "fnExactRetractions", unfollowed := true, recurses := true, apart := false }
def FnExactRetractionsSaid : Prop := fnExactRetractionsRow.holds Try.pinned (OpenSpec.ofChange fnExactRetractionsSpec)

/-- ITS FALSE NEIGHBOUR: 'it returns false'. Refute it at one input. -/
def fnExactRetractionsWrong : ChangeSpec := { name := "fnExactRetractions", fn := fun _ => fun
  | [d] => { results := [.lit (.bool false)], args := [d] }
  | _ => none }
def FnExactRetractionsWrongFalsely : Prop := fnExactRetractionsRow.holds Try.pinned (OpenSpec.ofChange fnExactRetractionsWrong)

/-- 'laws.FnExactIsSubpower': WHATEVER THE INPUT: true; the input reads as it did. -/
def fnExactIsSubpowerSpec : ChangeSpec := { name := "fnExactIsSubpower", fn := fun _ => fun
  | [d1, d2, d3] => { results := [.lit (.bool true)], args := [d1, d2, d3] }
  | _ => none }
def fnExactIsSubpowerRow : OpenClaim := { program := "ytodlpdedldhebaa", sum := "4cbb0fbb27b22782a2932b73a2b8c96f29eaca9e760a0b8a7fb6c16016ff9895", func := "loop.example/g01078/laws.FnExactIsSubpower", spec := "fnExactIsSubpower", recurses := true, apart := false }
def FnExactIsSubpowerSaid : Prop := fnExactIsSubpowerRow.holds Try.pinned (OpenSpec.ofChange fnExactIsSubpowerSpec)

/-- ITS FALSE NEIGHBOUR: 'it returns false'. Refute it at one input. -/
def fnExactIsSubpowerWrong : ChangeSpec := { name := "fnExactIsSubpower", fn := fun _ => fun
  | [d1, d2, d3] => { results := [.lit (.bool false)], args := [d1, d2, d3] }
  | _ => none }
def FnExactIsSubpowerWrongFalsely : Prop := fnExactIsSubpowerRow.holds Try.pinned (OpenSpec.ofChange fnExactIsSubpowerWrong)

/-- 'laws.FnExactMeetSubpowers': WHATEVER THE INPUT: true; the input reads as it did. -/
def fnExactMeetSubpowersSpec : ChangeSpec := { name := "fnExactMeetSubpowers", fn := fun _ => fun
  | [d1, d2, d3, d4] => { results := [.lit (.bool true)], args := [d1, d2, d3, d4] }
  | _ => none }
def fnExactMeetSubpowersRow : OpenClaim := { program := "ytodlpdedldhebaa", sum := "4cbb0fbb27b22782a2932b73a2b8c96f29eaca9e760a0b8a7fb6c16016ff9895", func := "loop.example/g01078/laws.FnExactMeetSubpowers", spec := "fnExactMeetSubpowers", recurses := true, apart := false }
def FnExactMeetSubpowersSaid : Prop := fnExactMeetSubpowersRow.holds Try.pinned (OpenSpec.ofChange fnExactMeetSubpowersSpec)

/-- ITS FALSE NEIGHBOUR: 'it returns false'. Refute it at one input. -/
def fnExactMeetSubpowersWrong : ChangeSpec := { name := "fnExactMeetSubpowers", fn := fun _ => fun
  | [d1, d2, d3, d4] => { results := [.lit (.bool false)], args := [d1, d2, d3, d4] }
  | _ => none }
def FnExactMeetSubpowersWrongFalsely : Prop := fnExactMeetSubpowersRow.holds Try.pinned (OpenSpec.ofChange fnExactMeetSubpowersWrong)

/-- 'laws.FnExactIsSubdirect': WHATEVER THE INPUT: true; the input reads as it did. -/
def fnExactIsSubdirectSpec : ChangeSpec := { name := "fnExactIsSubdirect", fn := fun _ => fun
  | [d1, d2, d3] => { results := [.lit (.bool true)], args := [d1, d2, d3] }
  | _ => none }
def fnExactIsSubdirectRow : OpenClaim := { program := "ytodlpdedldhebaa", sum := "4cbb0fbb27b22782a2932b73a2b8c96f29eaca9e760a0b8a7fb6c16016ff9895", func := "loop.example/g01078/laws.FnExactIsSubdirect", spec := "fnExactIsSubdirect", recurses := true, apart := false }
def FnExactIsSubdirectSaid : Prop := fnExactIsSubdirectRow.holds Try.pinned (OpenSpec.ofChange fnExactIsSubdirectSpec)

/-- ITS FALSE NEIGHBOUR: 'it returns false'. Refute it at one input. -/
def fnExactIsSubdirectWrong : ChangeSpec := { name := "fnExactIsSubdirect", fn := fun _ => fun
  | [d1, d2, d3] => { results := [.lit (.bool false)], args := [d1, d2, d3] }
  | _ => none }
def FnExactIsSubdirectWrongFalsely : Prop := fnExactIsSubdirectRow.holds Try.pinned (OpenSpec.ofChange fnExactIsSubdirectWrong)

/-- 'laws.FnExactAlgebraOfSubpower': WHATEVER THE INPUT: true; the input reads as it did. -/
def fnExactAlgebraOfSubpowerSpec : ChangeSpec := { name := "fnExactAlgebraOfSubpower", fn := fun _ => fun
  | [d1, d2, d3] => { results := [.lit (.bool true)], args := [d1, d2, d3] }
  | _ => none }
def fnExactAlgebraOfSubpowerRow : OpenClaim := { program := "ytodlpdedldhebaa", sum := "4cbb0fbb27b22782a2932b73a2b8c96f29eaca9e760a0b8a7fb6c16016ff9895", func := "loop.example/g01078/laws.FnExactAlgebraOfSubpower", spec := "fnExactAlgebraOfSubpower", recurses := true, apart := false }
def FnExactAlgebraOfSubpowerSaid : Prop := fnExactAlgebraOfSubpowerRow.holds Try.pinned (OpenSpec.ofChange fnExactAlgebraOfSubpowerSpec)

/-- ITS FALSE NEIGHBOUR: 'it returns false'. Refute it at one input. -/
def fnExactAlgebraOfSubpowerWrong : ChangeSpec := { name := "fnExactAlgebraOfSubpower", fn := fun _ => fun
  | [d1, d2, d3] => { results := [.lit (.bool false)], args := [d1, d2, d3] }
  | _ => none }
def FnExactAlgebraOfSubpowerWrongFalsely : Prop := fnExactAlgebraOfSubpowerRow.holds Try.pinned (OpenSpec.ofChange fnExactAlgebraOfSubpowerWrong)

/-- 'laws.FnExactGenerateSubpower': WHATEVER THE INPUT: true; the input reads as it did. -/
def fnExactGenerateSubpowerSpec : ChangeSpec := { name := "fnExactGenerateSubpower", fn := fun _ => fun
  | [d1, d2, d3] => { results := [.lit (.bool true)], args := [d1, d2, d3] }
  | _ => none }
def fnExactGenerateSubpowerRow : OpenClaim := { program := "ytodlpdedldhebaa", sum := "4cbb0fbb27b22782a2932b73a2b8c96f29eaca9e760a0b8a7fb6c16016ff9895", func := "loop.example/g01078/laws.FnExactGenerateSubpower", spec := "fnExactGenerateSubpower", inPlace := ["internal/reflectlite.ValueOf", "internal/reflectlite.Swapper", "(internal/reflectlite.Value).Len"], unfollowed := true, recurses := true, apart := false }
def FnExactGenerateSubpowerSaid : Prop := fnExactGenerateSubpowerRow.holds Try.pinned (OpenSpec.ofChange fnExactGenerateSubpowerSpec)

/-- ITS FALSE NEIGHBOUR: 'it returns false'. Refute it at one input. -/
def fnExactGenerateSubpowerWrong : ChangeSpec := { name := "fnExactGenerateSubpower", fn := fun _ => fun
  | [d1, d2, d3] => { results := [.lit (.bool false)], args := [d1, d2, d3] }
  | _ => none }
def FnExactGenerateSubpowerWrongFalsely : Prop := fnExactGenerateSubpowerRow.holds Try.pinned (OpenSpec.ofChange fnExactGenerateSubpowerWrong)

/-- 'laws.FnExactProjectTo': WHATEVER THE INPUT: true; the input reads as it did. -/
def fnExactProjectToSpec : ChangeSpec := { name := "fnExactProjectTo", fn := fun _ => fun
  | [d1, d2, d3, d4] => { results := [.lit (.bool true)], args := [d1, d2, d3, d4] }
  | _ => none }
def fnExactProjectToRow : OpenClaim := { program := "ytodlpdedldhebaa", sum := "4cbb0fbb27b22782a2932b73a2b8c96f29eaca9e760a0b8a7fb6c16016ff9895", func := "loop.example/g01078/laws.FnExactProjectTo", spec := "fnExactProjectTo", inPlace := ["internal/reflectlite.ValueOf", "internal/reflectlite.Swapper", "(internal/reflectlite.Value).Len"], unfollowed := true, recurses := true, apart := false }
def FnExactProjectToSaid : Prop := fnExactProjectToRow.holds Try.pinned (OpenSpec.ofChange fnExactProjectToSpec)

/-- ITS FALSE NEIGHBOUR: 'it returns false'. Refute it at one input. -/
def fnExactProjectToWrong : ChangeSpec := { name := "fnExactProjectTo", fn := fun _ => fun
  | [d1, d2, d3, d4] => { results := [.lit (.bool false)], args := [d1, d2, d3, d4] }
  | _ => none }
def FnExactProjectToWrongFalsely : Prop := fnExactProjectToRow.holds Try.pinned (OpenSpec.ofChange fnExactProjectToWrong)

/- THE SECOND FORM. 'bulk': how many values and letters a reading holds, each counted each time it is reached (what is shared counts as often as it is met; a slice's spare places count too). A statement '..UptoSaid' is the law's where the arguments, and the package variables that the reading takes, are together of bulk at most 1048576: NARROWER than '..Said'. Prove '..Said' where nothing that the law and all that it calls make is longer than what came in: it says more and counts as full. Else prove '..UptoSaid'. A law counts once. -/
mutual
def uptoBulk {H : Type} : DataW H → Nat
  | .lit (.string bytes) => bytes.length + 1
  | .lit _ => 1
  | .nil => 1
  | .ptr d => uptoBulk d + 1
  | .slice elems spare => uptoBulkAll elems + uptoBulkAll spare + 1
  | .agg parts => uptoBulkAll parts + 1
  | .iface _ d => uptoBulk d + 1
  | .map entries => uptoBulkEntries entries + 1
  | .held _ => 1
def uptoBulkAll {H : Type} : List (DataW H) → Nat
  | [] => 0
  | d :: r => uptoBulk d + uptoBulkAll r
def uptoBulkEntries {H : Type} : List (Lit × DataW H) → Nat
  | [] => 0
  | x :: r => uptoBulkEntry x + uptoBulkEntries r
def uptoBulkEntry {H : Type} : Lit × DataW H → Nat
  | (.string bytes, d) => bytes.length + uptoBulk d + 1
  | (_, d) => uptoBulk d + 1
 end
def uptoSmall : (H : Type) → List (DataW H) → Bool := fun _ ds => decide (uptoBulkAll ds ≤ 1048576)
def OpenSpec.upto (s : _root_.Go.ChangeSpec) : _root_.Go.OpenSpec := { _root_.Go.OpenSpec.ofChange s with cond := some uptoSmall }

/-- 'laws.FnExactRelationOf', WHERE WHAT IT READS IS OF BULK AT MOST 1048576: true; the input reads as it did. -/
def fnExactRelationOfUptoRow : OpenClaim := { program := "ytodlpdedldhebaa", sum := "4cbb0fbb27b22782a2932b73a2b8c96f29eaca9e760a0b8a7fb6c16016ff9895", func := "loop.example/g01078/laws.FnExactRelationOf", spec := "fnExactRelationOf", inPlace := ["internal/reflectlite.ValueOf", "internal/reflectlite.Swapper", "(internal/reflectlite.Value).Len"], unfollowed := true, recurses := true, apart := false, narrowed := true }
def FnExactRelationOfUptoSaid : Prop := fnExactRelationOfUptoRow.holds Try.pinned (OpenSpec.upto fnExactRelationOfSpec)

/-- 'laws.FnExactReverseRelation', WHERE WHAT IT READS IS OF BULK AT MOST 1048576: true; the input reads as it did. -/
def fnExactReverseRelationUptoRow : OpenClaim := { program := "ytodlpdedldhebaa", sum := "4cbb0fbb27b22782a2932b73a2b8c96f29eaca9e760a0b8a7fb6c16016ff9895", func := "loop.example/g01078/laws.FnExactReverseRelation", spec := "fnExactReverseRelation", inPlace := ["internal/reflectlite.ValueOf", "internal/reflectlite.Swapper", "(internal/reflectlite.Value).Len"], unfollowed := true, recurses := true, apart := false, narrowed := true }
def FnExactReverseRelationUptoSaid : Prop := fnExactReverseRelationUptoRow.holds Try.pinned (OpenSpec.upto fnExactReverseRelationSpec)

/-- 'laws.FnExactComposeRelations', WHERE WHAT IT READS IS OF BULK AT MOST 1048576: true; the input reads as it did. -/
def fnExactComposeRelationsUptoRow : OpenClaim := { program := "ytodlpdedldhebaa", sum := "4cbb0fbb27b22782a2932b73a2b8c96f29eaca9e760a0b8a7fb6c16016ff9895", func := "loop.example/g01078/laws.FnExactComposeRelations", spec := "fnExactComposeRelations", inPlace := ["internal/reflectlite.ValueOf", "internal/reflectlite.Swapper", "(internal/reflectlite.Value).Len"], unfollowed := true, recurses := true, apart := false, narrowed := true }
def FnExactComposeRelationsUptoSaid : Prop := fnExactComposeRelationsUptoRow.holds Try.pinned (OpenSpec.upto fnExactComposeRelationsSpec)

/-- 'laws.FnExactProjectRelation', WHERE WHAT IT READS IS OF BULK AT MOST 1048576: true; the input reads as it did. -/
def fnExactProjectRelationUptoRow : OpenClaim := { program := "ytodlpdedldhebaa", sum := "4cbb0fbb27b22782a2932b73a2b8c96f29eaca9e760a0b8a7fb6c16016ff9895", func := "loop.example/g01078/laws.FnExactProjectRelation", spec := "fnExactProjectRelation", inPlace := ["internal/reflectlite.ValueOf", "internal/reflectlite.Swapper", "(internal/reflectlite.Value).Len"], unfollowed := true, recurses := true, apart := false, narrowed := true }
def FnExactProjectRelationUptoSaid : Prop := fnExactProjectRelationUptoRow.holds Try.pinned (OpenSpec.upto fnExactProjectRelationSpec)

/-- 'laws.FnExactFixPlace', WHERE WHAT IT READS IS OF BULK AT MOST 1048576: true; the input reads as it did. -/
def fnExactFixPlaceUptoRow : OpenClaim := { program := "ytodlpdedldhebaa", sum := "4cbb0fbb27b22782a2932b73a2b8c96f29eaca9e760a0b8a7fb6c16016ff9895", func := "loop.example/g01078/laws.FnExactFixPlace", spec := "fnExactFixPlace", inPlace := ["internal/reflectlite.ValueOf", "internal/reflectlite.Swapper", "(internal/reflectlite.Value).Len"], unfollowed := true, recurses := true, apart := false, narrowed := true }
def FnExactFixPlaceUptoSaid : Prop := fnExactFixPlaceUptoRow.holds Try.pinned (OpenSpec.upto fnExactFixPlaceSpec)

/-- 'laws.FnExactRetractions', WHERE WHAT IT READS IS OF BULK AT MOST 1048576: true; the input reads as it did. -/
def fnExactRetractionsUptoRow : OpenClaim := { program := "ytodlpdedldhebaa", sum := "4cbb0fbb27b22782a2932b73a2b8c96f29eaca9e760a0b8a7fb6c16016ff9895", func := "loop.example/g01078/laws.FnExactRetractions", spec := "fnExactRetractions", unfollowed := true, recurses := true, apart := false, narrowed := true }
def FnExactRetractionsUptoSaid : Prop := fnExactRetractionsUptoRow.holds Try.pinned (OpenSpec.upto fnExactRetractionsSpec)

/-- 'laws.FnExactIsSubpower', WHERE WHAT IT READS IS OF BULK AT MOST 1048576: true; the input reads as it did. -/
def fnExactIsSubpowerUptoRow : OpenClaim := { program := "ytodlpdedldhebaa", sum := "4cbb0fbb27b22782a2932b73a2b8c96f29eaca9e760a0b8a7fb6c16016ff9895", func := "loop.example/g01078/laws.FnExactIsSubpower", spec := "fnExactIsSubpower", recurses := true, apart := false, narrowed := true }
def FnExactIsSubpowerUptoSaid : Prop := fnExactIsSubpowerUptoRow.holds Try.pinned (OpenSpec.upto fnExactIsSubpowerSpec)

/-- 'laws.FnExactMeetSubpowers', WHERE WHAT IT READS IS OF BULK AT MOST 1048576: true; the input reads as it did. -/
def fnExactMeetSubpowersUptoRow : OpenClaim := { program := "ytodlpdedldhebaa", sum := "4cbb0fbb27b22782a2932b73a2b8c96f29eaca9e760a0b8a7fb6c16016ff9895", func := "loop.example/g01078/laws.FnExactMeetSubpowers", spec := "fnExactMeetSubpowers", recurses := true, apart := false, narrowed := true }
def FnExactMeetSubpowersUptoSaid : Prop := fnExactMeetSubpowersUptoRow.holds Try.pinned (OpenSpec.upto fnExactMeetSubpowersSpec)

/-- 'laws.FnExactIsSubdirect', WHERE WHAT IT READS IS OF BULK AT MOST 1048576: true; the input reads as it did. -/
def fnExactIsSubdirectUptoRow : OpenClaim := { program := "ytodlpdedldhebaa", sum := "4cbb0fbb27b22782a2932b73a2b8c96f29eaca9e760a0b8a7fb6c16016ff9895", func := "loop.example/g01078/laws.FnExactIsSubdirect", spec := "fnExactIsSubdirect", recurses := true, apart := false, narrowed := true }
def FnExactIsSubdirectUptoSaid : Prop := fnExactIsSubdirectUptoRow.holds Try.pinned (OpenSpec.upto fnExactIsSubdirectSpec)

/-- 'laws.FnExactAlgebraOfSubpower', WHERE WHAT IT READS IS OF BULK AT MOST 1048576: true; the input reads as it did. -/
def fnExactAlgebraOfSubpowerUptoRow : OpenClaim := { program := "ytodlpdedldhebaa", sum := "4cbb0fbb27b22782a2932b73a2b8c96f29eaca9e760a0b8a7fb6c16016ff9895", func := "loop.example/g01078/laws.FnExactAlgebraOfSubpower", spec := "fnExactAlgebraOfSubpower", recurses := true, apart := false, narrowed := true }
def FnExactAlgebraOfSubpowerUptoSaid : Prop := fnExactAlgebraOfSubpowerUptoRow.holds Try.pinned (OpenSpec.upto fnExactAlgebraOfSubpowerSpec)

/-- 'laws.FnExactGenerateSubpower', WHERE WHAT IT READS IS OF BULK AT MOST 1048576: true; the input reads as it did. -/
def fnExactGenerateSubpowerUptoRow : OpenClaim := { program := "ytodlpdedldhebaa", sum := "4cbb0fbb27b22782a2932b73a2b8c96f29eaca9e760a0b8a7fb6c16016ff9895", func := "loop.example/g01078/laws.FnExactGenerateSubpower", spec := "fnExactGenerateSubpower", inPlace := ["internal/reflectlite.ValueOf", "internal/reflectlite.Swapper", "(internal/reflectlite.Value).Len"], unfollowed := true, recurses := true, apart := false, narrowed := true }
def FnExactGenerateSubpowerUptoSaid : Prop := fnExactGenerateSubpowerUptoRow.holds Try.pinned (OpenSpec.upto fnExactGenerateSubpowerSpec)

/-- 'laws.FnExactProjectTo', WHERE WHAT IT READS IS OF BULK AT MOST 1048576: true; the input reads as it did. -/
def fnExactProjectToUptoRow : OpenClaim := { program := "ytodlpdedldhebaa", sum := "4cbb0fbb27b22782a2932b73a2b8c96f29eaca9e760a0b8a7fb6c16016ff9895", func := "loop.example/g01078/laws.FnExactProjectTo", spec := "fnExactProjectTo", inPlace := ["internal/reflectlite.ValueOf", "internal/reflectlite.Swapper", "(internal/reflectlite.Value).Len"], unfollowed := true, recurses := true, apart := false, narrowed := true }
def FnExactProjectToUptoSaid : Prop := fnExactProjectToUptoRow.holds Try.pinned (OpenSpec.upto fnExactProjectToSpec)

end Rows
end Go.Proofs.Ytodlpdedldhebaa
