/-
  No cell of these rows narrows 'for every input' (looked for: loops, veiled, ifaces, maps, wideKeys, modest, calm, conditions, laid).
  DERIVED. THE GIVEN ROWS OF THIS SEAT. 12 by the template 'for every input the law returns true; each argument reads behind the call as it read before'; 0 by the template 'total and deterministic' (their statements: YtkelbadedagcaaaTotals.lean).
  GIVEN WITH THE SEED: the statements are not yours to turn. If you find one false, say at which input.
  Laid BY PROGRAM, IN A SANDBOX (cutbox-rows.mjs): the forced cells as the released guide's own fill.sh prints them over the translation c0ed009a6ece9d84… (all of the seat's roots in one cut). By AI agents, Wed Nov 11 2026. No macro, syntax, notation, axiom, sorry.
-/
import Derived.Test.YtkelbadedagcaaaChecked
import GoSem.Claim
import GoSem.ClaimJoined
import GoSem.ClaimMapViews
import Derived.JoinedTies
import Derived.KernelRfl
namespace Go.Proofs.Ytkelbadedagcaaa
/- THE CELL 'sum', in the pinned program and in every row, IS THE sha256 OF THE DUMP (.gsa) THAT YtkelbadedagcaaaProg.lean LOADS. Nothing in Lean hashes anything: it is a label: what it is worth is what the hold of that sum in a sandbox is worth. -/
noncomputable def Try.pinned : Pinned := { name := "ytkelbadedagcaaa", sum := "c0ed009a6ece9d84bcb62c0f95fc4e56064931e265a1506d89527e0251ea5d57", checked := Try.checked }
namespace Rows
def none {H : Type} : Left H := { results := [], args := [] }

/-- 'laws.FnExactIsInvariant': WHATEVER THE INPUT: true; the input reads as it did. -/
def fnExactIsInvariantSpec : ChangeSpec := { name := "fnExactIsInvariant", fn := fun _ => fun
  | [d1, d2] => { results := [.lit (.bool true)], args := [d1, d2] }
  | _ => none }
def fnExactIsInvariantRow : OpenClaim := { program := "ytkelbadedagcaaa", sum := "c0ed009a6ece9d84bcb62c0f95fc4e56064931e265a1506d89527e0251ea5d57", func := "loop.example/g01078/laws.FnExactIsInvariant", spec := "fnExactIsInvariant", apart := false }
def FnExactIsInvariantSaid : Prop := fnExactIsInvariantRow.holds Try.pinned (OpenSpec.ofChange fnExactIsInvariantSpec)

/-- ITS FALSE NEIGHBOUR: 'it returns false'. Refute it at one input. -/
def fnExactIsInvariantWrong : ChangeSpec := { name := "fnExactIsInvariant", fn := fun _ => fun
  | [d1, d2] => { results := [.lit (.bool false)], args := [d1, d2] }
  | _ => none }
def FnExactIsInvariantWrongFalsely : Prop := fnExactIsInvariantRow.holds Try.pinned (OpenSpec.ofChange fnExactIsInvariantWrong)

/-- 'laws.FnExactDerivationOf': WHATEVER THE INPUT: true; the input reads as it did. -/
def fnExactDerivationOfSpec : ChangeSpec := { name := "fnExactDerivationOf", fn := fun _ => fun
  | [d1, d2] => { results := [.lit (.bool true)], args := [d1, d2] }
  | _ => none }
def fnExactDerivationOfRow : OpenClaim := { program := "ytkelbadedagcaaa", sum := "c0ed009a6ece9d84bcb62c0f95fc4e56064931e265a1506d89527e0251ea5d57", func := "loop.example/g01078/laws.FnExactDerivationOf", spec := "fnExactDerivationOf", apart := false }
def FnExactDerivationOfSaid : Prop := fnExactDerivationOfRow.holds Try.pinned (OpenSpec.ofChange fnExactDerivationOfSpec)

/-- ITS FALSE NEIGHBOUR: 'it returns false'. Refute it at one input. -/
def fnExactDerivationOfWrong : ChangeSpec := { name := "fnExactDerivationOf", fn := fun _ => fun
  | [d1, d2] => { results := [.lit (.bool false)], args := [d1, d2] }
  | _ => none }
def FnExactDerivationOfWrongFalsely : Prop := fnExactDerivationOfRow.holds Try.pinned (OpenSpec.ofChange fnExactDerivationOfWrong)

/-- 'laws.FnExactDerivedFunctions': WHATEVER THE INPUT: true; the input reads as it did. -/
def fnExactDerivedFunctionsSpec : ChangeSpec := { name := "fnExactDerivedFunctions", fn := fun _ => fun
  | [d1, d2, d3] => { results := [.lit (.bool true)], args := [d1, d2, d3] }
  | _ => none }
def fnExactDerivedFunctionsRow : OpenClaim := { program := "ytkelbadedagcaaa", sum := "c0ed009a6ece9d84bcb62c0f95fc4e56064931e265a1506d89527e0251ea5d57", func := "loop.example/g01078/laws.FnExactDerivedFunctions", spec := "fnExactDerivedFunctions", apart := false }
def FnExactDerivedFunctionsSaid : Prop := fnExactDerivedFunctionsRow.holds Try.pinned (OpenSpec.ofChange fnExactDerivedFunctionsSpec)

/-- ITS FALSE NEIGHBOUR: 'it returns false'. Refute it at one input. -/
def fnExactDerivedFunctionsWrong : ChangeSpec := { name := "fnExactDerivedFunctions", fn := fun _ => fun
  | [d1, d2, d3] => { results := [.lit (.bool false)], args := [d1, d2, d3] }
  | _ => none }
def FnExactDerivedFunctionsWrongFalsely : Prop := fnExactDerivedFunctionsRow.holds Try.pinned (OpenSpec.ofChange fnExactDerivedFunctionsWrong)

/-- 'laws.FnExactSemilatticeTerms': WHATEVER THE INPUT: true; the input reads as it did. -/
def fnExactSemilatticeTermsSpec : ChangeSpec := { name := "fnExactSemilatticeTerms", fn := fun _ => fun
  | [d] => { results := [.lit (.bool true)], args := [d] }
  | _ => none }
def fnExactSemilatticeTermsRow : OpenClaim := { program := "ytkelbadedagcaaa", sum := "c0ed009a6ece9d84bcb62c0f95fc4e56064931e265a1506d89527e0251ea5d57", func := "loop.example/g01078/laws.FnExactSemilatticeTerms", spec := "fnExactSemilatticeTerms", apart := false }
def FnExactSemilatticeTermsSaid : Prop := fnExactSemilatticeTermsRow.holds Try.pinned (OpenSpec.ofChange fnExactSemilatticeTermsSpec)

/-- ITS FALSE NEIGHBOUR: 'it returns false'. Refute it at one input. -/
def fnExactSemilatticeTermsWrong : ChangeSpec := { name := "fnExactSemilatticeTerms", fn := fun _ => fun
  | [d] => { results := [.lit (.bool false)], args := [d] }
  | _ => none }
def FnExactSemilatticeTermsWrongFalsely : Prop := fnExactSemilatticeTermsRow.holds Try.pinned (OpenSpec.ofChange fnExactSemilatticeTermsWrong)

/-- 'laws.FnExactAreIsomorphic': WHATEVER THE INPUT: true; the input reads as it did. -/
def fnExactAreIsomorphicSpec : ChangeSpec := { name := "fnExactAreIsomorphic", fn := fun _ => fun
  | [d1, d2] => { results := [.lit (.bool true)], args := [d1, d2] }
  | _ => none }
def fnExactAreIsomorphicRow : OpenClaim := { program := "ytkelbadedagcaaa", sum := "c0ed009a6ece9d84bcb62c0f95fc4e56064931e265a1506d89527e0251ea5d57", func := "loop.example/g01078/laws.FnExactAreIsomorphic", spec := "fnExactAreIsomorphic", unfollowed := true, recurses := true, apart := false }
def FnExactAreIsomorphicSaid : Prop := fnExactAreIsomorphicRow.holds Try.pinned (OpenSpec.ofChange fnExactAreIsomorphicSpec)

/-- ITS FALSE NEIGHBOUR: 'it returns false'. Refute it at one input. -/
def fnExactAreIsomorphicWrong : ChangeSpec := { name := "fnExactAreIsomorphic", fn := fun _ => fun
  | [d1, d2] => { results := [.lit (.bool false)], args := [d1, d2] }
  | _ => none }
def FnExactAreIsomorphicWrongFalsely : Prop := fnExactAreIsomorphicRow.holds Try.pinned (OpenSpec.ofChange fnExactAreIsomorphicWrong)

/-- 'laws.FnExactAutomorphisms': WHATEVER THE INPUT: true; the input reads as it did. -/
def fnExactAutomorphismsSpec : ChangeSpec := { name := "fnExactAutomorphisms", fn := fun _ => fun
  | [d] => { results := [.lit (.bool true)], args := [d] }
  | _ => none }
def fnExactAutomorphismsRow : OpenClaim := { program := "ytkelbadedagcaaa", sum := "c0ed009a6ece9d84bcb62c0f95fc4e56064931e265a1506d89527e0251ea5d57", func := "loop.example/g01078/laws.FnExactAutomorphisms", spec := "fnExactAutomorphisms", unfollowed := true, recurses := true, apart := false }
def FnExactAutomorphismsSaid : Prop := fnExactAutomorphismsRow.holds Try.pinned (OpenSpec.ofChange fnExactAutomorphismsSpec)

/-- ITS FALSE NEIGHBOUR: 'it returns false'. Refute it at one input. -/
def fnExactAutomorphismsWrong : ChangeSpec := { name := "fnExactAutomorphisms", fn := fun _ => fun
  | [d] => { results := [.lit (.bool false)], args := [d] }
  | _ => none }
def FnExactAutomorphismsWrongFalsely : Prop := fnExactAutomorphismsRow.holds Try.pinned (OpenSpec.ofChange fnExactAutomorphismsWrong)

/-- 'laws.FnExactFirstIso': WHATEVER THE INPUT: true; the input reads as it did. -/
def fnExactFirstIsoSpec : ChangeSpec := { name := "fnExactFirstIso", fn := fun _ => fun
  | [d1, d2] => { results := [.lit (.bool true)], args := [d1, d2] }
  | _ => none }
def fnExactFirstIsoRow : OpenClaim := { program := "ytkelbadedagcaaa", sum := "c0ed009a6ece9d84bcb62c0f95fc4e56064931e265a1506d89527e0251ea5d57", func := "loop.example/g01078/laws.FnExactFirstIso", spec := "fnExactFirstIso", unfollowed := true, recurses := true, apart := false }
def FnExactFirstIsoSaid : Prop := fnExactFirstIsoRow.holds Try.pinned (OpenSpec.ofChange fnExactFirstIsoSpec)

/-- ITS FALSE NEIGHBOUR: 'it returns false'. Refute it at one input. -/
def fnExactFirstIsoWrong : ChangeSpec := { name := "fnExactFirstIso", fn := fun _ => fun
  | [d1, d2] => { results := [.lit (.bool false)], args := [d1, d2] }
  | _ => none }
def FnExactFirstIsoWrongFalsely : Prop := fnExactFirstIsoRow.holds Try.pinned (OpenSpec.ofChange fnExactFirstIsoWrong)

/-- 'laws.FnExactFirstOnto': WHATEVER THE INPUT: true; the input reads as it did. -/
def fnExactFirstOntoSpec : ChangeSpec := { name := "fnExactFirstOnto", fn := fun _ => fun
  | [d1, d2] => { results := [.lit (.bool true)], args := [d1, d2] }
  | _ => none }
def fnExactFirstOntoRow : OpenClaim := { program := "ytkelbadedagcaaa", sum := "c0ed009a6ece9d84bcb62c0f95fc4e56064931e265a1506d89527e0251ea5d57", func := "loop.example/g01078/laws.FnExactFirstOnto", spec := "fnExactFirstOnto", unfollowed := true, recurses := true, apart := false }
def FnExactFirstOntoSaid : Prop := fnExactFirstOntoRow.holds Try.pinned (OpenSpec.ofChange fnExactFirstOntoSpec)

/-- ITS FALSE NEIGHBOUR: 'it returns false'. Refute it at one input. -/
def fnExactFirstOntoWrong : ChangeSpec := { name := "fnExactFirstOnto", fn := fun _ => fun
  | [d1, d2] => { results := [.lit (.bool false)], args := [d1, d2] }
  | _ => none }
def FnExactFirstOntoWrongFalsely : Prop := fnExactFirstOntoRow.holds Try.pinned (OpenSpec.ofChange fnExactFirstOntoWrong)

/-- 'laws.FnExactFirstEmbedding': WHATEVER THE INPUT: true; the input reads as it did. -/
def fnExactFirstEmbeddingSpec : ChangeSpec := { name := "fnExactFirstEmbedding", fn := fun _ => fun
  | [d1, d2] => { results := [.lit (.bool true)], args := [d1, d2] }
  | _ => none }
def fnExactFirstEmbeddingRow : OpenClaim := { program := "ytkelbadedagcaaa", sum := "c0ed009a6ece9d84bcb62c0f95fc4e56064931e265a1506d89527e0251ea5d57", func := "loop.example/g01078/laws.FnExactFirstEmbedding", spec := "fnExactFirstEmbedding", unfollowed := true, recurses := true, apart := false }
def FnExactFirstEmbeddingSaid : Prop := fnExactFirstEmbeddingRow.holds Try.pinned (OpenSpec.ofChange fnExactFirstEmbeddingSpec)

/-- ITS FALSE NEIGHBOUR: 'it returns false'. Refute it at one input. -/
def fnExactFirstEmbeddingWrong : ChangeSpec := { name := "fnExactFirstEmbedding", fn := fun _ => fun
  | [d1, d2] => { results := [.lit (.bool false)], args := [d1, d2] }
  | _ => none }
def FnExactFirstEmbeddingWrongFalsely : Prop := fnExactFirstEmbeddingRow.holds Try.pinned (OpenSpec.ofChange fnExactFirstEmbeddingWrong)

/-- 'laws.FnExactAllHoms': WHATEVER THE INPUT: true; the input reads as it did. -/
def fnExactAllHomsSpec : ChangeSpec := { name := "fnExactAllHoms", fn := fun _ => fun
  | [d1, d2] => { results := [.lit (.bool true)], args := [d1, d2] }
  | _ => none }
def fnExactAllHomsRow : OpenClaim := { program := "ytkelbadedagcaaa", sum := "c0ed009a6ece9d84bcb62c0f95fc4e56064931e265a1506d89527e0251ea5d57", func := "loop.example/g01078/laws.FnExactAllHoms", spec := "fnExactAllHoms", unfollowed := true, recurses := true, apart := false }
def FnExactAllHomsSaid : Prop := fnExactAllHomsRow.holds Try.pinned (OpenSpec.ofChange fnExactAllHomsSpec)

/-- ITS FALSE NEIGHBOUR: 'it returns false'. Refute it at one input. -/
def fnExactAllHomsWrong : ChangeSpec := { name := "fnExactAllHoms", fn := fun _ => fun
  | [d1, d2] => { results := [.lit (.bool false)], args := [d1, d2] }
  | _ => none }
def FnExactAllHomsWrongFalsely : Prop := fnExactAllHomsRow.holds Try.pinned (OpenSpec.ofChange fnExactAllHomsWrong)

/-- 'laws.FnExactEndomorphisms': WHATEVER THE INPUT: true; the input reads as it did. -/
def fnExactEndomorphismsSpec : ChangeSpec := { name := "fnExactEndomorphisms", fn := fun _ => fun
  | [d] => { results := [.lit (.bool true)], args := [d] }
  | _ => none }
def fnExactEndomorphismsRow : OpenClaim := { program := "ytkelbadedagcaaa", sum := "c0ed009a6ece9d84bcb62c0f95fc4e56064931e265a1506d89527e0251ea5d57", func := "loop.example/g01078/laws.FnExactEndomorphisms", spec := "fnExactEndomorphisms", unfollowed := true, recurses := true, apart := false }
def FnExactEndomorphismsSaid : Prop := fnExactEndomorphismsRow.holds Try.pinned (OpenSpec.ofChange fnExactEndomorphismsSpec)

/-- ITS FALSE NEIGHBOUR: 'it returns false'. Refute it at one input. -/
def fnExactEndomorphismsWrong : ChangeSpec := { name := "fnExactEndomorphisms", fn := fun _ => fun
  | [d] => { results := [.lit (.bool false)], args := [d] }
  | _ => none }
def FnExactEndomorphismsWrongFalsely : Prop := fnExactEndomorphismsRow.holds Try.pinned (OpenSpec.ofChange fnExactEndomorphismsWrong)

/-- 'laws.FnExactAutomorphismOrbits': WHATEVER THE INPUT: true; the input reads as it did. -/
def fnExactAutomorphismOrbitsSpec : ChangeSpec := { name := "fnExactAutomorphismOrbits", fn := fun _ => fun
  | [d] => { results := [.lit (.bool true)], args := [d] }
  | _ => none }
def fnExactAutomorphismOrbitsRow : OpenClaim := { program := "ytkelbadedagcaaa", sum := "c0ed009a6ece9d84bcb62c0f95fc4e56064931e265a1506d89527e0251ea5d57", func := "loop.example/g01078/laws.FnExactAutomorphismOrbits", spec := "fnExactAutomorphismOrbits", unfollowed := true, recurses := true, apart := false }
def FnExactAutomorphismOrbitsSaid : Prop := fnExactAutomorphismOrbitsRow.holds Try.pinned (OpenSpec.ofChange fnExactAutomorphismOrbitsSpec)

/-- ITS FALSE NEIGHBOUR: 'it returns false'. Refute it at one input. -/
def fnExactAutomorphismOrbitsWrong : ChangeSpec := { name := "fnExactAutomorphismOrbits", fn := fun _ => fun
  | [d] => { results := [.lit (.bool false)], args := [d] }
  | _ => none }
def FnExactAutomorphismOrbitsWrongFalsely : Prop := fnExactAutomorphismOrbitsRow.holds Try.pinned (OpenSpec.ofChange fnExactAutomorphismOrbitsWrong)

/- THE SECOND FORM. 'bulk': how many values and letters a reading holds, each counted each time it is reached (what is shared counts as often as it is met; a slice's spare places count too). A statement '..UptoSaid' is the law's where the arguments, and the package variables that the reading takes, are together of bulk at most 1048576: NARROWER than '..Said'. Prove '..Said' where nothing that the law and all that it calls make is longer than what came in: it says more and counts as full. Else prove '..UptoSaid'. A law counts once. -/
mutual
def uptoBulk {H : Type} : DataW H → Nat
  | .lit (.string bytes) => bytes.length + 1
  | .lit _ => 1
  | .nil => 1
  | .ptr d => uptoBulk d + 1
  | .slice elems spare => uptoBulkAll elems + uptoBulkAll spare + 1
  | .agg parts => uptoBulkAll parts + 1
  | .iface _ d => uptoBulk d + 1
  | .map entries => uptoBulkEntries entries + 1
  | .held _ => 1
def uptoBulkAll {H : Type} : List (DataW H) → Nat
  | [] => 0
  | d :: r => uptoBulk d + uptoBulkAll r
def uptoBulkEntries {H : Type} : List (Lit × DataW H) → Nat
  | [] => 0
  | x :: r => uptoBulkEntry x + uptoBulkEntries r
def uptoBulkEntry {H : Type} : Lit × DataW H → Nat
  | (.string bytes, d) => bytes.length + uptoBulk d + 1
  | (_, d) => uptoBulk d + 1
 end
def uptoSmall : (H : Type) → List (DataW H) → Bool := fun _ ds => decide (uptoBulkAll ds ≤ 1048576)
def OpenSpec.upto (s : _root_.Go.ChangeSpec) : _root_.Go.OpenSpec := { _root_.Go.OpenSpec.ofChange s with cond := some uptoSmall }

/-- 'laws.FnExactIsInvariant', WHERE WHAT IT READS IS OF BULK AT MOST 1048576: true; the input reads as it did. -/
def fnExactIsInvariantUptoRow : OpenClaim := { program := "ytkelbadedagcaaa", sum := "c0ed009a6ece9d84bcb62c0f95fc4e56064931e265a1506d89527e0251ea5d57", func := "loop.example/g01078/laws.FnExactIsInvariant", spec := "fnExactIsInvariant", apart := false, narrowed := true }
def FnExactIsInvariantUptoSaid : Prop := fnExactIsInvariantUptoRow.holds Try.pinned (OpenSpec.upto fnExactIsInvariantSpec)

/-- 'laws.FnExactDerivationOf', WHERE WHAT IT READS IS OF BULK AT MOST 1048576: true; the input reads as it did. -/
def fnExactDerivationOfUptoRow : OpenClaim := { program := "ytkelbadedagcaaa", sum := "c0ed009a6ece9d84bcb62c0f95fc4e56064931e265a1506d89527e0251ea5d57", func := "loop.example/g01078/laws.FnExactDerivationOf", spec := "fnExactDerivationOf", apart := false, narrowed := true }
def FnExactDerivationOfUptoSaid : Prop := fnExactDerivationOfUptoRow.holds Try.pinned (OpenSpec.upto fnExactDerivationOfSpec)

/-- 'laws.FnExactDerivedFunctions', WHERE WHAT IT READS IS OF BULK AT MOST 1048576: true; the input reads as it did. -/
def fnExactDerivedFunctionsUptoRow : OpenClaim := { program := "ytkelbadedagcaaa", sum := "c0ed009a6ece9d84bcb62c0f95fc4e56064931e265a1506d89527e0251ea5d57", func := "loop.example/g01078/laws.FnExactDerivedFunctions", spec := "fnExactDerivedFunctions", apart := false, narrowed := true }
def FnExactDerivedFunctionsUptoSaid : Prop := fnExactDerivedFunctionsUptoRow.holds Try.pinned (OpenSpec.upto fnExactDerivedFunctionsSpec)

/-- 'laws.FnExactSemilatticeTerms', WHERE WHAT IT READS IS OF BULK AT MOST 1048576: true; the input reads as it did. -/
def fnExactSemilatticeTermsUptoRow : OpenClaim := { program := "ytkelbadedagcaaa", sum := "c0ed009a6ece9d84bcb62c0f95fc4e56064931e265a1506d89527e0251ea5d57", func := "loop.example/g01078/laws.FnExactSemilatticeTerms", spec := "fnExactSemilatticeTerms", apart := false, narrowed := true }
def FnExactSemilatticeTermsUptoSaid : Prop := fnExactSemilatticeTermsUptoRow.holds Try.pinned (OpenSpec.upto fnExactSemilatticeTermsSpec)

/-- 'laws.FnExactAreIsomorphic', WHERE WHAT IT READS IS OF BULK AT MOST 1048576: true; the input reads as it did. -/
def fnExactAreIsomorphicUptoRow : OpenClaim := { program := "ytkelbadedagcaaa", sum := "c0ed009a6ece9d84bcb62c0f95fc4e56064931e265a1506d89527e0251ea5d57", func := "loop.example/g01078/laws.FnExactAreIsomorphic", spec := "fnExactAreIsomorphic", unfollowed := true, recurses := true, apart := false, narrowed := true }
def FnExactAreIsomorphicUptoSaid : Prop := fnExactAreIsomorphicUptoRow.holds Try.pinned (OpenSpec.upto fnExactAreIsomorphicSpec)

/-- 'laws.FnExactAutomorphisms', WHERE WHAT IT READS IS OF BULK AT MOST 1048576: true; the input reads as it did. -/
def fnExactAutomorphismsUptoRow : OpenClaim := { program := "ytkelbadedagcaaa", sum := "c0ed009a6ece9d84bcb62c0f95fc4e56064931e265a1506d89527e0251ea5d57", func := "loop.example/g01078/laws.FnExactAutomorphisms", spec := "fnExactAutomorphisms", unfollowed := true, recurses := true, apart := false, narrowed := true }
def FnExactAutomorphismsUptoSaid : Prop := fnExactAutomorphismsUptoRow.holds Try.pinned (OpenSpec.upto fnExactAutomorphismsSpec)

/-- 'laws.FnExactFirstIso', WHERE WHAT IT READS IS OF BULK AT MOST 1048576: true; the input reads as it did. -/
def fnExactFirstIsoUptoRow : OpenClaim := { program := "ytkelbadedagcaaa", sum := "c0ed009a6ece9d84bcb62c0f95fc4e56064931e265a1506d89527e0251ea5d57", func := "loop.example/g01078/laws.FnExactFirstIso", spec := "fnExactFirstIso", unfollowed := true, recurses := true, apart := false, narrowed := true }
def FnExactFirstIsoUptoSaid : Prop := fnExactFirstIsoUptoRow.holds Try.pinned (OpenSpec.upto fnExactFirstIsoSpec)

/-- 'laws.FnExactFirstOnto', WHERE WHAT IT READS IS OF BULK AT MOST 1048576: true; the input reads as it did. -/
def fnExactFirstOntoUptoRow : OpenClaim := { program := "ytkelbadedagcaaa", sum := "c0ed009a6ece9d84bcb62c0f95fc4e56064931e265a1506d89527e0251ea5d57", func := "loop.example/g01078/laws.FnExactFirstOnto", spec := "fnExactFirstOnto", unfollowed := true, recurses := true, apart := false, narrowed := true }
def FnExactFirstOntoUptoSaid : Prop := fnExactFirstOntoUptoRow.holds Try.pinned (OpenSpec.upto fnExactFirstOntoSpec)

/-- 'laws.FnExactFirstEmbedding', WHERE WHAT IT READS IS OF BULK AT MOST 1048576: true; the input reads as it did. -/
def fnExactFirstEmbeddingUptoRow : OpenClaim := { program := "ytkelbadedagcaaa", sum := "c0ed009a6ece9d84bcb62c0f95fc4e56064931e265a1506d89527e0251ea5d57", func := "loop.example/g01078/laws.FnExactFirstEmbedding", spec := "fnExactFirstEmbedding", unfollowed := true, recurses := true, apart := false, narrowed := true }
def FnExactFirstEmbeddingUptoSaid : Prop := fnExactFirstEmbeddingUptoRow.holds Try.pinned (OpenSpec.upto fnExactFirstEmbeddingSpec)

/-- 'laws.FnExactAllHoms', WHERE WHAT IT READS IS OF BULK AT MOST 1048576: true; the input reads as it did. -/
def fnExactAllHomsUptoRow : OpenClaim := { program := "ytkelbadedagcaaa", sum := "c0ed009a6ece9d84bcb62c0f95fc4e56064931e265a1506d89527e0251ea5d57", func := "loop.example/g01078/laws.FnExactAllHoms", spec := "fnExactAllHoms", unfollowed := true, recurses := true, apart := false, narrowed := true }
def FnExactAllHomsUptoSaid : Prop := fnExactAllHomsUptoRow.holds Try.pinned (OpenSpec.upto fnExactAllHomsSpec)

/-- 'laws.FnExactEndomorphisms', WHERE WHAT IT READS IS OF BULK AT MOST 1048576: true; the input reads as it did. -/
def fnExactEndomorphismsUptoRow : OpenClaim := { program := "ytkelbadedagcaaa", sum := "c0ed009a6ece9d84bcb62c0f95fc4e56064931e265a1506d89527e0251ea5d57", func := "loop.example/g01078/laws.FnExactEndomorphisms", spec := "fnExactEndomorphisms", unfollowed := true, recurses := true, apart := false, narrowed := true }
def FnExactEndomorphismsUptoSaid : Prop := fnExactEndomorphismsUptoRow.holds Try.pinned (OpenSpec.upto fnExactEndomorphismsSpec)

/-- 'laws.FnExactAutomorphismOrbits', WHERE WHAT IT READS IS OF BULK AT MOST 1048576: true; the input reads as it did. -/
def fnExactAutomorphismOrbitsUptoRow : OpenClaim := { program := "ytkelbadedagcaaa", sum := "c0ed009a6ece9d84bcb62c0f95fc4e56064931e265a1506d89527e0251ea5d57", func := "loop.example/g01078/laws.FnExactAutomorphismOrbits", spec := "fnExactAutomorphismOrbits", unfollowed := true, recurses := true, apart := false, narrowed := true }
def FnExactAutomorphismOrbitsUptoSaid : Prop := fnExactAutomorphismOrbitsUptoRow.holds Try.pinned (OpenSpec.upto fnExactAutomorphismOrbitsSpec)

end Rows
end Go.Proofs.Ytkelbadedagcaaa
