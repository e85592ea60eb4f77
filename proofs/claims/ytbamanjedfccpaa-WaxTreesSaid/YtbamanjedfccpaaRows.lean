/-
  No cell of these rows narrows 'for every input' (looked for: loops, veiled, ifaces, maps, wideKeys, modest, calm, conditions, laid).
  DERIVED. THE GIVEN ROWS OF THIS SEAT. 13 by the template 'for every input the law returns true; each argument reads behind the call as it read before'; 0 by the template 'total and deterministic' (their statements: YtbamanjedfccpaaTotals.lean).
  GIVEN WITH THE SEED: the statements are not yours to turn. If you find one false, say at which input.
  Laid BY PROGRAM, IN A SANDBOX (cutbox-rows.mjs): the forced cells as the released guide's own fill.sh prints them over the translation f3a37b47b41e1986… (all of the seat's roots in one cut). By AI agents, Wed Nov 11 2026. No macro, syntax, notation, axiom, sorry.
-/
import Derived.Test.YtbamanjedfccpaaChecked
import GoSem.Claim
import GoSem.ClaimJoined
import GoSem.ClaimMapViews
import Derived.JoinedTies
import Derived.KernelRfl
namespace Go.Proofs.Ytbamanjedfccpaa
/- THE CELL 'sum', in the pinned program and in every row, IS THE sha256 OF THE DUMP (.gsa) THAT YtbamanjedfccpaaProg.lean LOADS. Nothing in Lean hashes anything: it is a label: what it is worth is what the hold of that sum in a sandbox is worth. -/
noncomputable def Try.pinned : Pinned := { name := "ytbamanjedfccpaa", sum := "f3a37b47b41e1986d25fc99a398d5d8c35c3e2e81d97595d64569941dcf4f18b", checked := Try.checked }
namespace Rows
def none {H : Type} : Left H := { results := [], args := [] }

/-- 'cantinglaw07.WaxWeb': WHATEVER THE INPUT: true; the input reads as it did. -/
def waxWebSpec : ChangeSpec := { name := "waxWeb", fn := fun _ => fun
  | [d] => { results := [.lit (.bool true)], args := [d] }
  | _ => none }
def waxWebRow : OpenClaim := { program := "ytbamanjedfccpaa", sum := "f3a37b47b41e1986d25fc99a398d5d8c35c3e2e81d97595d64569941dcf4f18b", func := "canting/cantinglaw07.WaxWeb", spec := "waxWeb", unfollowed := true, recurses := true, apart := false }
def WaxWebSaid : Prop := waxWebRow.holds Try.pinned (OpenSpec.ofChange waxWebSpec)

/-- ITS FALSE NEIGHBOUR: 'it returns false'. Refute it at one input. -/
def waxWebWrong : ChangeSpec := { name := "waxWeb", fn := fun _ => fun
  | [d] => { results := [.lit (.bool false)], args := [d] }
  | _ => none }
def WaxWebWrongFalsely : Prop := waxWebRow.holds Try.pinned (OpenSpec.ofChange waxWebWrong)

/-- 'cantinglaw07.WaxTriple': WHATEVER THE INPUT: true; the input reads as it did. -/
def waxTripleSpec : ChangeSpec := { name := "waxTriple", fn := fun _ => fun
  | [d1, d2, d3, d4] => { results := [.lit (.bool true)], args := [d1, d2, d3, d4] }
  | _ => none }
def waxTripleRow : OpenClaim := { program := "ytbamanjedfccpaa", sum := "f3a37b47b41e1986d25fc99a398d5d8c35c3e2e81d97595d64569941dcf4f18b", func := "canting/cantinglaw07.WaxTriple", spec := "waxTriple", unfollowed := true, recurses := true, apart := false }
def WaxTripleSaid : Prop := waxTripleRow.holds Try.pinned (OpenSpec.ofChange waxTripleSpec)

/-- ITS FALSE NEIGHBOUR: 'it returns false'. Refute it at one input. -/
def waxTripleWrong : ChangeSpec := { name := "waxTriple", fn := fun _ => fun
  | [d1, d2, d3, d4] => { results := [.lit (.bool false)], args := [d1, d2, d3, d4] }
  | _ => none }
def WaxTripleWrongFalsely : Prop := waxTripleRow.holds Try.pinned (OpenSpec.ofChange waxTripleWrong)

/-- 'cantinglaw07.WaxFlows': WHATEVER THE INPUT: true; the input reads as it did. -/
def waxFlowsSpec : ChangeSpec := { name := "waxFlows", fn := fun _ => fun
  | [d] => { results := [.lit (.bool true)], args := [d] }
  | _ => none }
def waxFlowsRow : OpenClaim := { program := "ytbamanjedfccpaa", sum := "f3a37b47b41e1986d25fc99a398d5d8c35c3e2e81d97595d64569941dcf4f18b", func := "canting/cantinglaw07.WaxFlows", spec := "waxFlows", unfollowed := true, recurses := true, apart := false }
def WaxFlowsSaid : Prop := waxFlowsRow.holds Try.pinned (OpenSpec.ofChange waxFlowsSpec)

/-- ITS FALSE NEIGHBOUR: 'it returns false'. Refute it at one input. -/
def waxFlowsWrong : ChangeSpec := { name := "waxFlows", fn := fun _ => fun
  | [d] => { results := [.lit (.bool false)], args := [d] }
  | _ => none }
def WaxFlowsWrongFalsely : Prop := waxFlowsRow.holds Try.pinned (OpenSpec.ofChange waxFlowsWrong)

/-- 'cantinglaw07.WaxChecks': WHATEVER THE INPUT: true; the input reads as it did. -/
def waxChecksSpec : ChangeSpec := { name := "waxChecks", fn := fun _ => fun
  | [d1, d2, d3] => { results := [.lit (.bool true)], args := [d1, d2, d3] }
  | _ => none }
def waxChecksRow : OpenClaim := { program := "ytbamanjedfccpaa", sum := "f3a37b47b41e1986d25fc99a398d5d8c35c3e2e81d97595d64569941dcf4f18b", func := "canting/cantinglaw07.WaxChecks", spec := "waxChecks", unfollowed := true, recurses := true, apart := false }
def WaxChecksSaid : Prop := waxChecksRow.holds Try.pinned (OpenSpec.ofChange waxChecksSpec)

/-- ITS FALSE NEIGHBOUR: 'it returns false'. Refute it at one input. -/
def waxChecksWrong : ChangeSpec := { name := "waxChecks", fn := fun _ => fun
  | [d1, d2, d3] => { results := [.lit (.bool false)], args := [d1, d2, d3] }
  | _ => none }
def WaxChecksWrongFalsely : Prop := waxChecksRow.holds Try.pinned (OpenSpec.ofChange waxChecksWrong)

/-- 'cantinglaw07.WaxTrees': WHATEVER THE INPUT: true; the input reads as it did. -/
def waxTreesSpec : ChangeSpec := { name := "waxTrees", fn := fun _ => fun
  | [d1, d2, d3] => { results := [.lit (.bool true)], args := [d1, d2, d3] }
  | _ => none }
def waxTreesRow : OpenClaim := { program := "ytbamanjedfccpaa", sum := "f3a37b47b41e1986d25fc99a398d5d8c35c3e2e81d97595d64569941dcf4f18b", func := "canting/cantinglaw07.WaxTrees", spec := "waxTrees", unfollowed := true, recurses := true, apart := false }
def WaxTreesSaid : Prop := waxTreesRow.holds Try.pinned (OpenSpec.ofChange waxTreesSpec)

/-- ITS FALSE NEIGHBOUR: 'it returns false'. Refute it at one input. -/
def waxTreesWrong : ChangeSpec := { name := "waxTrees", fn := fun _ => fun
  | [d1, d2, d3] => { results := [.lit (.bool false)], args := [d1, d2, d3] }
  | _ => none }
def WaxTreesWrongFalsely : Prop := waxTreesRow.holds Try.pinned (OpenSpec.ofChange waxTreesWrong)

/-- 'cantinglaw07.WaxLattice': WHATEVER THE INPUT: true; the input reads as it did. -/
def waxLatticeSpec : ChangeSpec := { name := "waxLattice", fn := fun _ => fun
  | [d1, d2, d3] => { results := [.lit (.bool true)], args := [d1, d2, d3] }
  | _ => none }
def waxLatticeRow : OpenClaim := { program := "ytbamanjedfccpaa", sum := "f3a37b47b41e1986d25fc99a398d5d8c35c3e2e81d97595d64569941dcf4f18b", func := "canting/cantinglaw07.WaxLattice", spec := "waxLattice", unfollowed := true, recurses := true, apart := false }
def WaxLatticeSaid : Prop := waxLatticeRow.holds Try.pinned (OpenSpec.ofChange waxLatticeSpec)

/-- ITS FALSE NEIGHBOUR: 'it returns false'. Refute it at one input. -/
def waxLatticeWrong : ChangeSpec := { name := "waxLattice", fn := fun _ => fun
  | [d1, d2, d3] => { results := [.lit (.bool false)], args := [d1, d2, d3] }
  | _ => none }
def WaxLatticeWrongFalsely : Prop := waxLatticeRow.holds Try.pinned (OpenSpec.ofChange waxLatticeWrong)

/-- 'cantinglaw07.WaxModular': WHATEVER THE INPUT: true; the input reads as it did. -/
def waxModularSpec : ChangeSpec := { name := "waxModular", fn := fun _ => fun
  | [d1, d2, d3, d4] => { results := [.lit (.bool true)], args := [d1, d2, d3, d4] }
  | _ => none }
def waxModularRow : OpenClaim := { program := "ytbamanjedfccpaa", sum := "f3a37b47b41e1986d25fc99a398d5d8c35c3e2e81d97595d64569941dcf4f18b", func := "canting/cantinglaw07.WaxModular", spec := "waxModular", unfollowed := true, recurses := true, apart := false }
def WaxModularSaid : Prop := waxModularRow.holds Try.pinned (OpenSpec.ofChange waxModularSpec)

/-- ITS FALSE NEIGHBOUR: 'it returns false'. Refute it at one input. -/
def waxModularWrong : ChangeSpec := { name := "waxModular", fn := fun _ => fun
  | [d1, d2, d3, d4] => { results := [.lit (.bool false)], args := [d1, d2, d3, d4] }
  | _ => none }
def WaxModularWrongFalsely : Prop := waxModularRow.holds Try.pinned (OpenSpec.ofChange waxModularWrong)

/-- 'cantinglaw07.WaxDual': WHATEVER THE INPUT: true; the input reads as it did. -/
def waxDualSpec : ChangeSpec := { name := "waxDual", fn := fun _ => fun
  | [d1, d2, d3] => { results := [.lit (.bool true)], args := [d1, d2, d3] }
  | _ => none }
def waxDualRow : OpenClaim := { program := "ytbamanjedfccpaa", sum := "f3a37b47b41e1986d25fc99a398d5d8c35c3e2e81d97595d64569941dcf4f18b", func := "canting/cantinglaw07.WaxDual", spec := "waxDual", unfollowed := true, recurses := true, apart := false }
def WaxDualSaid : Prop := waxDualRow.holds Try.pinned (OpenSpec.ofChange waxDualSpec)

/-- ITS FALSE NEIGHBOUR: 'it returns false'. Refute it at one input. -/
def waxDualWrong : ChangeSpec := { name := "waxDual", fn := fun _ => fun
  | [d1, d2, d3] => { results := [.lit (.bool false)], args := [d1, d2, d3] }
  | _ => none }
def WaxDualWrongFalsely : Prop := waxDualRow.holds Try.pinned (OpenSpec.ofChange waxDualWrong)

/-- 'cantinglaw07.WaxSides': WHATEVER THE INPUT: true; the input reads as it did. -/
def waxSidesSpec : ChangeSpec := { name := "waxSides", fn := fun _ => fun
  | [d] => { results := [.lit (.bool true)], args := [d] }
  | _ => none }
def waxSidesRow : OpenClaim := { program := "ytbamanjedfccpaa", sum := "f3a37b47b41e1986d25fc99a398d5d8c35c3e2e81d97595d64569941dcf4f18b", func := "canting/cantinglaw07.WaxSides", spec := "waxSides", unfollowed := true, recurses := true, apart := false }
def WaxSidesSaid : Prop := waxSidesRow.holds Try.pinned (OpenSpec.ofChange waxSidesSpec)

/-- ITS FALSE NEIGHBOUR: 'it returns false'. Refute it at one input. -/
def waxSidesWrong : ChangeSpec := { name := "waxSides", fn := fun _ => fun
  | [d] => { results := [.lit (.bool false)], args := [d] }
  | _ => none }
def WaxSidesWrongFalsely : Prop := waxSidesRow.holds Try.pinned (OpenSpec.ofChange waxSidesWrong)

/-- 'cantinglaw07.WaxCheapest': WHATEVER THE INPUT: true; the input reads as it did. -/
def waxCheapestSpec : ChangeSpec := { name := "waxCheapest", fn := fun _ => fun
  | [d1, d2, d3] => { results := [.lit (.bool true)], args := [d1, d2, d3] }
  | _ => none }
def waxCheapestRow : OpenClaim := { program := "ytbamanjedfccpaa", sum := "f3a37b47b41e1986d25fc99a398d5d8c35c3e2e81d97595d64569941dcf4f18b", func := "canting/cantinglaw07.WaxCheapest", spec := "waxCheapest", unfollowed := true, recurses := true, apart := false }
def WaxCheapestSaid : Prop := waxCheapestRow.holds Try.pinned (OpenSpec.ofChange waxCheapestSpec)

/-- ITS FALSE NEIGHBOUR: 'it returns false'. Refute it at one input. -/
def waxCheapestWrong : ChangeSpec := { name := "waxCheapest", fn := fun _ => fun
  | [d1, d2, d3] => { results := [.lit (.bool false)], args := [d1, d2, d3] }
  | _ => none }
def WaxCheapestWrongFalsely : Prop := waxCheapestRow.holds Try.pinned (OpenSpec.ofChange waxCheapestWrong)

/-- 'cantinglaw07.WaxLabels': WHATEVER THE INPUT: true; the input reads as it did. -/
def waxLabelsSpec : ChangeSpec := { name := "waxLabels", fn := fun _ => fun
  | [d1, d2, d3] => { results := [.lit (.bool true)], args := [d1, d2, d3] }
  | _ => none }
def waxLabelsRow : OpenClaim := { program := "ytbamanjedfccpaa", sum := "f3a37b47b41e1986d25fc99a398d5d8c35c3e2e81d97595d64569941dcf4f18b", func := "canting/cantinglaw07.WaxLabels", spec := "waxLabels", unfollowed := true, recurses := true, apart := false }
def WaxLabelsSaid : Prop := waxLabelsRow.holds Try.pinned (OpenSpec.ofChange waxLabelsSpec)

/-- ITS FALSE NEIGHBOUR: 'it returns false'. Refute it at one input. -/
def waxLabelsWrong : ChangeSpec := { name := "waxLabels", fn := fun _ => fun
  | [d1, d2, d3] => { results := [.lit (.bool false)], args := [d1, d2, d3] }
  | _ => none }
def WaxLabelsWrongFalsely : Prop := waxLabelsRow.holds Try.pinned (OpenSpec.ofChange waxLabelsWrong)

/-- 'cantinglaw07.WaxNested': WHATEVER THE INPUT: true; the input reads as it did. -/
def waxNestedSpec : ChangeSpec := { name := "waxNested", fn := fun _ => fun
  | [d1, d2] => { results := [.lit (.bool true)], args := [d1, d2] }
  | _ => none }
def waxNestedRow : OpenClaim := { program := "ytbamanjedfccpaa", sum := "f3a37b47b41e1986d25fc99a398d5d8c35c3e2e81d97595d64569941dcf4f18b", func := "canting/cantinglaw07.WaxNested", spec := "waxNested", unfollowed := true, recurses := true, apart := false }
def WaxNestedSaid : Prop := waxNestedRow.holds Try.pinned (OpenSpec.ofChange waxNestedSpec)

/-- ITS FALSE NEIGHBOUR: 'it returns false'. Refute it at one input. -/
def waxNestedWrong : ChangeSpec := { name := "waxNested", fn := fun _ => fun
  | [d1, d2] => { results := [.lit (.bool false)], args := [d1, d2] }
  | _ => none }
def WaxNestedWrongFalsely : Prop := waxNestedRow.holds Try.pinned (OpenSpec.ofChange waxNestedWrong)

/-- 'cantinglaw07.WaxPrices': WHATEVER THE INPUT: true; the input reads as it did. -/
def waxPricesSpec : ChangeSpec := { name := "waxPrices", fn := fun _ => fun
  | [d] => { results := [.lit (.bool true)], args := [d] }
  | _ => none }
def waxPricesRow : OpenClaim := { program := "ytbamanjedfccpaa", sum := "f3a37b47b41e1986d25fc99a398d5d8c35c3e2e81d97595d64569941dcf4f18b", func := "canting/cantinglaw07.WaxPrices", spec := "waxPrices", unfollowed := true, recurses := true, apart := false }
def WaxPricesSaid : Prop := waxPricesRow.holds Try.pinned (OpenSpec.ofChange waxPricesSpec)

/-- ITS FALSE NEIGHBOUR: 'it returns false'. Refute it at one input. -/
def waxPricesWrong : ChangeSpec := { name := "waxPrices", fn := fun _ => fun
  | [d] => { results := [.lit (.bool false)], args := [d] }
  | _ => none }
def WaxPricesWrongFalsely : Prop := waxPricesRow.holds Try.pinned (OpenSpec.ofChange waxPricesWrong)

/- THE SECOND FORM. 'bulk': how many values and letters a reading holds, each counted each time it is reached (what is shared counts as often as it is met; a slice's spare places count too). A statement '..UptoSaid' is the law's where the arguments, and the package variables that the reading takes, are together of bulk at most 1048576: NARROWER than '..Said'. Prove '..Said' where nothing that the law and all that it calls make is longer than what came in: it says more and counts as full. Else prove '..UptoSaid'. A law counts once. -/
mutual
def uptoBulk {H : Type} : DataW H → Nat
  | .lit (.string bytes) => bytes.length + 1
  | .lit _ => 1
  | .nil => 1
  | .ptr d => uptoBulk d + 1
  | .slice elems spare => uptoBulkAll elems + uptoBulkAll spare + 1
  | .agg parts => uptoBulkAll parts + 1
  | .iface _ d => uptoBulk d + 1
  | .map entries => uptoBulkEntries entries + 1
  | .held _ => 1
def uptoBulkAll {H : Type} : List (DataW H) → Nat
  | [] => 0
  | d :: r => uptoBulk d + uptoBulkAll r
def uptoBulkEntries {H : Type} : List (Lit × DataW H) → Nat
  | [] => 0
  | x :: r => uptoBulkEntry x + uptoBulkEntries r
def uptoBulkEntry {H : Type} : Lit × DataW H → Nat
  | (.string bytes, d) => bytes.length + uptoBulk d + 1
  | (_, d) => uptoBulk d + 1
 end
def uptoSmall : (H : Type) → List (DataW H) → Bool := fun _ ds => decide (uptoBulkAll ds ≤ 1048576)
def OpenSpec.upto (s : _root_.Go.ChangeSpec) : _root_.Go.OpenSpec := { _root_.Go.OpenSpec.ofChange s with cond := some uptoSmall }

/-- 'cantinglaw07.WaxWeb', WHERE WHAT IT READS IS OF BULK AT MOST 1048576: true; the input reads as it did. -/
def waxWebUptoRow : OpenClaim := { program := "ytbamanjedfccpaa", sum := "f3a37b47b41e1986d25fc99a398d5d8c35c3e2e81d97595d64569941dcf4f18b", func := "canting/cantinglaw07.WaxWeb", spec := "waxWeb", unfollowed := true, recurses := true, apart := false, narrowed := true }
def WaxWebUptoSaid : Prop := waxWebUptoRow.holds Try.pinned (OpenSpec.upto waxWebSpec)

/-- 'cantinglaw07.WaxTriple', WHERE WHAT IT READS IS OF BULK AT MOST 1048576: true; the input reads as it did. -/
def waxTripleUptoRow : OpenClaim := { program := "ytbamanjedfccpaa", sum := "f3a37b47b41e1986d25fc99a398d5d8c35c3e2e81d97595d64569941dcf4f18b", func := "canting/cantinglaw07.WaxTriple", spec := "waxTriple", unfollowed := true, recurses := true, apart := false, narrowed := true }
def WaxTripleUptoSaid : Prop := waxTripleUptoRow.holds Try.pinned (OpenSpec.upto waxTripleSpec)

/-- 'cantinglaw07.WaxFlows', WHERE WHAT IT READS IS OF BULK AT MOST 1048576: true; the input reads as it did. -/
def waxFlowsUptoRow : OpenClaim := { program := "ytbamanjedfccpaa", sum := "f3a37b47b41e1986d25fc99a398d5d8c35c3e2e81d97595d64569941dcf4f18b", func := "canting/cantinglaw07.WaxFlows", spec := "waxFlows", unfollowed := true, recurses := true, apart := false, narrowed := true }
def WaxFlowsUptoSaid : Prop := waxFlowsUptoRow.holds Try.pinned (OpenSpec.upto waxFlowsSpec)

/-- 'cantinglaw07.WaxChecks', WHERE WHAT IT READS IS OF BULK AT MOST 1048576: true; the input reads as it did. -/
def waxChecksUptoRow : OpenClaim := { program := "ytbamanjedfccpaa", sum := "f3a37b47b41e1986d25fc99a398d5d8c35c3e2e81d97595d64569941dcf4f18b", func := "canting/cantinglaw07.WaxChecks", spec := "waxChecks", unfollowed := true, recurses := true, apart := false, narrowed := true }
def WaxChecksUptoSaid : Prop := waxChecksUptoRow.holds Try.pinned (OpenSpec.upto waxChecksSpec)

/-- 'cantinglaw07.WaxTrees', WHERE WHAT IT READS IS OF BULK AT MOST 1048576: true; the input reads as it did. -/
def waxTreesUptoRow : OpenClaim := { program := "ytbamanjedfccpaa", sum := "f3a37b47b41e1986d25fc99a398d5d8c35c3e2e81d97595d64569941dcf4f18b", func := "canting/cantinglaw07.WaxTrees", spec := "waxTrees", unfollowed := true, recurses := true, apart := false, narrowed := true }
def WaxTreesUptoSaid : Prop := waxTreesUptoRow.holds Try.pinned (OpenSpec.upto waxTreesSpec)

/-- 'cantinglaw07.WaxLattice', WHERE WHAT IT READS IS OF BULK AT MOST 1048576: true; the input reads as it did. -/
def waxLatticeUptoRow : OpenClaim := { program := "ytbamanjedfccpaa", sum := "f3a37b47b41e1986d25fc99a398d5d8c35c3e2e81d97595d64569941dcf4f18b", func := "canting/cantinglaw07.WaxLattice", spec := "waxLattice", unfollowed := true, recurses := true, apart := false, narrowed := true }
def WaxLatticeUptoSaid : Prop := waxLatticeUptoRow.holds Try.pinned (OpenSpec.upto waxLatticeSpec)

/-- 'cantinglaw07.WaxModular', WHERE WHAT IT READS IS OF BULK AT MOST 1048576: true; the input reads as it did. -/
def waxModularUptoRow : OpenClaim := { program := "ytbamanjedfccpaa", sum := "f3a37b47b41e1986d25fc99a398d5d8c35c3e2e81d97595d64569941dcf4f18b", func := "canting/cantinglaw07.WaxModular", spec := "waxModular", unfollowed := true, recurses := true, apart := false, narrowed := true }
def WaxModularUptoSaid : Prop := waxModularUptoRow.holds Try.pinned (OpenSpec.upto waxModularSpec)

/-- 'cantinglaw07.WaxDual', WHERE WHAT IT READS IS OF BULK AT MOST 1048576: true; the input reads as it did. -/
def waxDualUptoRow : OpenClaim := { program := "ytbamanjedfccpaa", sum := "f3a37b47b41e1986d25fc99a398d5d8c35c3e2e81d97595d64569941dcf4f18b", func := "canting/cantinglaw07.WaxDual", spec := "waxDual", unfollowed := true, recurses := true, apart := false, narrowed := true }
def WaxDualUptoSaid : Prop := waxDualUptoRow.holds Try.pinned (OpenSpec.upto waxDualSpec)

/-- 'cantinglaw07.WaxSides', WHERE WHAT IT READS IS OF BULK AT MOST 1048576: true; the input reads as it did. -/
def waxSidesUptoRow : OpenClaim := { program := "ytbamanjedfccpaa", sum := "f3a37b47b41e1986d25fc99a398d5d8c35c3e2e81d97595d64569941dcf4f18b", func := "canting/cantinglaw07.WaxSides", spec := "waxSides", unfollowed := true, recurses := true, apart := false, narrowed := true }
def WaxSidesUptoSaid : Prop := waxSidesUptoRow.holds Try.pinned (OpenSpec.upto waxSidesSpec)

/-- 'cantinglaw07.WaxCheapest', WHERE WHAT IT READS IS OF BULK AT MOST 1048576: true; the input reads as it did. -/
def waxCheapestUptoRow : OpenClaim := { program := "ytbamanjedfccpaa", sum := "f3a37b47b41e1986d25fc99a398d5d8c35c3e2e81d97595d64569941dcf4f18b", func := "canting/cantinglaw07.WaxCheapest", spec := "waxCheapest", unfollowed := true, recurses := true, apart := false, narrowed := true }
def WaxCheapestUptoSaid : Prop := waxCheapestUptoRow.holds Try.pinned (OpenSpec.upto waxCheapestSpec)

/-- 'cantinglaw07.WaxLabels', WHERE WHAT IT READS IS OF BULK AT MOST 1048576: true; the input reads as it did. -/
def waxLabelsUptoRow : OpenClaim := { program := "ytbamanjedfccpaa", sum := "f3a37b47b41e1986d25fc99a398d5d8c35c3e2e81d97595d64569941dcf4f18b", func := "canting/cantinglaw07.WaxLabels", spec := "waxLabels", unfollowed := true, recurses := true, apart := false, narrowed := true }
def WaxLabelsUptoSaid : Prop := waxLabelsUptoRow.holds Try.pinned (OpenSpec.upto waxLabelsSpec)

/-- 'cantinglaw07.WaxNested', WHERE WHAT IT READS IS OF BULK AT MOST 1048576: true; the input reads as it did. -/
def waxNestedUptoRow : OpenClaim := { program := "ytbamanjedfccpaa", sum := "f3a37b47b41e1986d25fc99a398d5d8c35c3e2e81d97595d64569941dcf4f18b", func := "canting/cantinglaw07.WaxNested", spec := "waxNested", unfollowed := true, recurses := true, apart := false, narrowed := true }
def WaxNestedUptoSaid : Prop := waxNestedUptoRow.holds Try.pinned (OpenSpec.upto waxNestedSpec)

/-- 'cantinglaw07.WaxPrices', WHERE WHAT IT READS IS OF BULK AT MOST 1048576: true; the input reads as it did. -/
def waxPricesUptoRow : OpenClaim := { program := "ytbamanjedfccpaa", sum := "f3a37b47b41e1986d25fc99a398d5d8c35c3e2e81d97595d64569941dcf4f18b", func := "canting/cantinglaw07.WaxPrices", spec := "waxPrices", unfollowed := true, recurses := true, apart := false, narrowed := true }
def WaxPricesUptoSaid : Prop := waxPricesUptoRow.holds Try.pinned (OpenSpec.upto waxPricesSpec)

end Rows
end Go.Proofs.Ytbamanjedfccpaa
