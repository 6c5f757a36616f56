/-
  No cell of these rows narrows 'for every input' (looked for: loops, veiled, ifaces, maps, wideKeys, modest, calm, conditions, laid).
  DERIVED. THE GIVEN ROWS OF THIS SEAT. 5 by the template 'for every input the law returns true; each argument reads behind the call as it read before'; 0 by the template 'total and deterministic' (their statements: YtiifdhdhjioefaaTotals.lean).
  GIVEN WITH THE SEED: the statements are not yours to turn. If you find one false, say at which input.
  Laid BY PROGRAM, IN A SANDBOX (cutbox-rows.mjs): the forced cells as the released guide's own fill.sh prints them over the translation e8435f665b5c8cf2… (all of the seat's roots in one cut). By AI agents, Wed Nov 11 2026. No macro, syntax, notation, axiom, sorry.
-/
import Derived.Test.YtiifdhdhjioefaaChecked
import GoSem.Claim
import GoSem.ClaimJoined
import GoSem.ClaimMapViews
import Derived.JoinedTies
import Derived.KernelRfl
namespace Go.Proofs.Ytiifdhdhjioefaa
/- THE CELL 'sum', in the pinned program and in every row, IS THE sha256 OF THE DUMP (.gsa) THAT YtiifdhdhjioefaaProg.lean LOADS. Nothing in Lean hashes anything: it is a label: what it is worth is what the hold of that sum in a sandbox is worth. -/
noncomputable def Try.pinned : Pinned := { name := "ytiifdhdhjioefaa", sum := "e8435f665b5c8cf21ab91db58099063228c316250c3b01127c11b67688d884c8", checked := Try.checked }
namespace Rows
def none {H : Type} : Left H := { results := [], args := [] }

/-- 'laws.FnRelations': WHATEVER THE INPUT: true; the input reads as it did. -/
def fnRelationsSpec : ChangeSpec := { name := "fnRelations", fn := fun _ => fun
  | [d] => { results := [.lit (.bool true)], args := [d] }
  | _ => none }
def fnRelationsRow : OpenClaim := { program := "ytiifdhdhjioefaa", sum := "e8435f665b5c8cf21ab91db58099063228c316250c3b01127c11b67688d884c8", func := "loop.example/g01078/laws.FnRelations", spec := "fnRelations", inPlace := ["internal/reflectlite.ValueOf", "internal/reflectlite.Swapper", "(internal/reflectlite.Value).Len"], unfollowed := true, recurses := true, apart := false }
def FnRelationsSaid : Prop := fnRelationsRow.holds Try.pinned (OpenSpec.ofChange fnRelationsSpec)

/-- ITS FALSE NEIGHBOUR: 'it returns false'. Refute it at one input. -/
def fnRelationsWrong : ChangeSpec := { name := "fnRelations", fn := fun _ => fun
  | [d] => { results := [.lit (.bool false)], args := [d] }
  | _ => none }
def FnRelationsWrongFalsely : Prop := fnRelationsRow.holds Try.pinned (OpenSpec.ofChange fnRelationsWrong)

/-- 'laws.FnDefinitions': WHATEVER THE INPUT: true; the input reads as it did. -/
def fnDefinitionsSpec : ChangeSpec := { name := "fnDefinitions", fn := fun _ => fun
  | [d] => { results := [.lit (.bool true)], args := [d] }
  | _ => none }
def fnDefinitionsRow : OpenClaim := { program := "ytiifdhdhjioefaa", sum := "e8435f665b5c8cf21ab91db58099063228c316250c3b01127c11b67688d884c8", func := "loop.example/g01078/laws.FnDefinitions", spec := "fnDefinitions", inPlace := ["internal/reflectlite.ValueOf", "internal/reflectlite.Swapper", "(internal/reflectlite.Value).Len"], unfollowed := true, recurses := true, apart := false }
def FnDefinitionsSaid : Prop := fnDefinitionsRow.holds Try.pinned (OpenSpec.ofChange fnDefinitionsSpec)

/-- ITS FALSE NEIGHBOUR: 'it returns false'. Refute it at one input. -/
def fnDefinitionsWrong : ChangeSpec := { name := "fnDefinitions", fn := fun _ => fun
  | [d] => { results := [.lit (.bool false)], args := [d] }
  | _ => none }
def FnDefinitionsWrongFalsely : Prop := fnDefinitionsRow.holds Try.pinned (OpenSpec.ofChange fnDefinitionsWrong)

/-- 'laws.FnExactFirstTermFor': WHATEVER THE INPUT: true; the input reads as it did. -/
def fnExactFirstTermForSpec : ChangeSpec := { name := "fnExactFirstTermFor", fn := fun _ => fun
  | [d1, d2, d3, d4] => { results := [.lit (.bool true)], args := [d1, d2, d3, d4] }
  | _ => none }
def fnExactFirstTermForRow : OpenClaim := { program := "ytiifdhdhjioefaa", sum := "e8435f665b5c8cf21ab91db58099063228c316250c3b01127c11b67688d884c8", func := "loop.example/g01078/laws.FnExactFirstTermFor", spec := "fnExactFirstTermFor", recurses := true, apart := false }
def FnExactFirstTermForSaid : Prop := fnExactFirstTermForRow.holds Try.pinned (OpenSpec.ofChange fnExactFirstTermForSpec)

/-- ITS FALSE NEIGHBOUR: 'it returns false'. Refute it at one input. -/
def fnExactFirstTermForWrong : ChangeSpec := { name := "fnExactFirstTermFor", fn := fun _ => fun
  | [d1, d2, d3, d4] => { results := [.lit (.bool false)], args := [d1, d2, d3, d4] }
  | _ => none }
def FnExactFirstTermForWrongFalsely : Prop := fnExactFirstTermForRow.holds Try.pinned (OpenSpec.ofChange fnExactFirstTermForWrong)

/-- 'laws.FnExactRefutingRows': WHATEVER THE INPUT: true; the input reads as it did. -/
def fnExactRefutingRowsSpec : ChangeSpec := { name := "fnExactRefutingRows", fn := fun _ => fun
  | [d1, d2] => { results := [.lit (.bool true)], args := [d1, d2] }
  | _ => none }
def fnExactRefutingRowsRow : OpenClaim := { program := "ytiifdhdhjioefaa", sum := "e8435f665b5c8cf21ab91db58099063228c316250c3b01127c11b67688d884c8", func := "loop.example/g01078/laws.FnExactRefutingRows", spec := "fnExactRefutingRows", unfollowed := true, recurses := true, apart := false }
def FnExactRefutingRowsSaid : Prop := fnExactRefutingRowsRow.holds Try.pinned (OpenSpec.ofChange fnExactRefutingRowsSpec)

/-- ITS FALSE NEIGHBOUR: 'it returns false'. Refute it at one input. -/
def fnExactRefutingRowsWrong : ChangeSpec := { name := "fnExactRefutingRows", fn := fun _ => fun
  | [d1, d2] => { results := [.lit (.bool false)], args := [d1, d2] }
  | _ => none }
def FnExactRefutingRowsWrongFalsely : Prop := fnExactRefutingRowsRow.holds Try.pinned (OpenSpec.ofChange fnExactRefutingRowsWrong)

/-- 'laws.FnExactFindTerm': WHATEVER THE INPUT: true; the input reads as it did. -/
def fnExactFindTermSpec : ChangeSpec := { name := "fnExactFindTerm", fn := fun _ => fun
  | [d1, d2] => { results := [.lit (.bool true)], args := [d1, d2] }
  | _ => none }
def fnExactFindTermRow : OpenClaim := { program := "ytiifdhdhjioefaa", sum := "e8435f665b5c8cf21ab91db58099063228c316250c3b01127c11b67688d884c8", func := "loop.example/g01078/laws.FnExactFindTerm", spec := "fnExactFindTerm", unfollowed := true, recurses := true, apart := false }
def FnExactFindTermSaid : Prop := fnExactFindTermRow.holds Try.pinned (OpenSpec.ofChange fnExactFindTermSpec)

/-- ITS FALSE NEIGHBOUR: 'it returns false'. Refute it at one input. -/
def fnExactFindTermWrong : ChangeSpec := { name := "fnExactFindTerm", fn := fun _ => fun
  | [d1, d2] => { results := [.lit (.bool false)], args := [d1, d2] }
  | _ => none }
def FnExactFindTermWrongFalsely : Prop := fnExactFindTermRow.holds Try.pinned (OpenSpec.ofChange fnExactFindTermWrong)

/- THE SECOND FORM. 'bulk': how many values and letters a reading holds, each counted each time it is reached (what is shared counts as often as it is met; a slice's spare places count too). A statement '..UptoSaid' is the law's where the arguments, and the package variables that the reading takes, are together of bulk at most 1048576: NARROWER than '..Said'. Prove '..Said' where nothing that the law and all that it calls make is longer than what came in: it says more and counts as full. Else prove '..UptoSaid'. A law counts once. -/
mutual
def uptoBulk {H : Type} : DataW H → Nat
  | .lit (.string bytes) => bytes.length + 1
  | .lit _ => 1
  | .nil => 1
  | .ptr d => uptoBulk d + 1
  | .slice elems spare => uptoBulkAll elems + uptoBulkAll spare + 1
  | .agg parts => uptoBulkAll parts + 1
  | .iface _ d => uptoBulk d + 1
  | .map entries => uptoBulkEntries entries + 1
  | .held _ => 1
def uptoBulkAll {H : Type} : List (DataW H) → Nat
  | [] => 0
  | d :: r => uptoBulk d + uptoBulkAll r
def uptoBulkEntries {H : Type} : List (Lit × DataW H) → Nat
  | [] => 0
  | x :: r => uptoBulkEntry x + uptoBulkEntries r
def uptoBulkEntry {H : Type} : Lit × DataW H → Nat
  | (.string bytes, d) => bytes.length + uptoBulk d + 1
  | (_, d) => uptoBulk d + 1
 end
def uptoSmall : (H : Type) → List (DataW H) → Bool := fun _ ds => decide (uptoBulkAll ds ≤ 1048576)
def OpenSpec.upto (s : _root_.Go.ChangeSpec) : _root_.Go.OpenSpec := { _root_.Go.OpenSpec.ofChange s with cond := some uptoSmall }

/-- 'laws.FnRelations', WHERE WHAT IT READS IS OF BULK AT MOST 1048576: true; the input reads as it did. -/
def fnRelationsUptoRow : OpenClaim := { program := "ytiifdhdhjioefaa", sum := "e8435f665b5c8cf21ab91db58099063228c316250c3b01127c11b67688d884c8", func := "loop.example/g01078/laws.FnRelations", spec := "fnRelations", inPlace := ["internal/reflectlite.ValueOf", "internal/reflectlite.Swapper", "(internal/reflectlite.Value).Len"], unfollowed := true, recurses := true, apart := false, narrowed := true }
def FnRelationsUptoSaid : Prop := fnRelationsUptoRow.holds Try.pinned (OpenSpec.upto fnRelationsSpec)

/-- 'laws.FnDefinitions', WHERE WHAT IT READS IS OF BULK AT MOST 1048576: true; the input reads as it did. -/
def fnDefinitionsUptoRow : OpenClaim := { program := "ytiifdhdhjioefaa", sum := "e8435f665b5c8cf21ab91db58099063228c316250c3b01127c11b67688d884c8", func := "loop.example/g01078/laws.FnDefinitions", spec := "fnDefinitions", inPlace := ["internal/reflectlite.ValueOf", "internal/reflectlite.Swapper", "(internal/reflectlite.Value).Len"], unfollowed := true, recurses := true, apart := false, narrowed := true }
def FnDefinitionsUptoSaid : Prop := fnDefinitionsUptoRow.holds Try.pinned (OpenSpec.upto fnDefinitionsSpec)

/-- 'laws.FnExactFirstTermFor', WHERE WHAT IT READS IS OF BULK AT MOST 1048576: true; the input reads as it did. -/
def fnExactFirstTermForUptoRow : OpenClaim := { program := "ytiifdhdhjioefaa", sum := "e8435f665b5c8cf21ab91db58099063228c316250c3b01127c11b67688d884c8", func := "loop.example/g01078/laws.FnExactFirstTermFor", spec := "fnExactFirstTermFor", recurses := true, apart := false, narrowed := true }
def FnExactFirstTermForUptoSaid : Prop := fnExactFirstTermForUptoRow.holds Try.pinned (OpenSpec.upto fnExactFirstTermForSpec)

/-- 'laws.FnExactRefutingRows', WHERE WHAT IT READS IS OF BULK AT MOST 1048576: true; the input reads as it did. -/
def fnExactRefutingRowsUptoRow : OpenClaim := { program := "ytiifdhdhjioefaa", sum := "e8435f665b5c8cf21ab91db58099063228c316250c3b01127c11b67688d884c8", func := "loop.example/g01078/laws.FnExactRefutingRows", spec := "fnExactRefutingRows", unfollowed := true, recurses := true, apart := false, narrowed := true }
def FnExactRefutingRowsUptoSaid : Prop := fnExactRefutingRowsUptoRow.holds Try.pinned (OpenSpec.upto fnExactRefutingRowsSpec)

/-- 'laws.FnExactFindTerm', WHERE WHAT IT READS IS OF BULK AT MOST 1048576: true; the input reads as it did. -/
def fnExactFindTermUptoRow : OpenClaim := { program := "ytiifdhdhjioefaa", sum := "e8435f665b5c8cf21ab91db58099063228c316250c3b01127c11b67688d884c8", func := "loop.example/g01078/laws.FnExactFindTerm", spec := "fnExactFindTerm", unfollowed := true, recurses := true, apart := false, narrowed := true }
def FnExactFindTermUptoSaid : Prop := fnExactFindTermUptoRow.holds Try.pinned (OpenSpec.upto fnExactFindTermSpec)

end Rows
end Go.Proofs.Ytiifdhdhjioefaa
