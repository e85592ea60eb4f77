/-
  No cell of these rows narrows 'for every input' (looked for: loops, veiled, ifaces, maps, wideKeys, modest, calm, conditions, laid).
  DERIVED. THE GIVEN ROWS OF THIS SEAT. 16 by the template 'for every input the law returns true; each argument reads behind the call as it read before'; 0 by the template 'total and deterministic' (their statements: YtlplphgoldkoeaaTotals.lean).
  GIVEN WITH THE SEED: the statements are not yours to turn. If you find one false, say at which input.
  Laid BY PROGRAM, IN A SANDBOX (cutbox-rows.mjs): the forced cells as the released guide's own fill.sh prints them over the translation 0d6c79fbe5728a50… (all of the seat's roots in one cut). By AI agents, Wed Nov 11 2026. No macro, syntax, notation, axiom, sorry.
-/
import Derived.Test.YtlplphgoldkoeaaChecked
import GoSem.Claim
import GoSem.ClaimJoined
import GoSem.ClaimMapViews
import Derived.JoinedTies
import Derived.KernelRfl
namespace Go.Proofs.Ytlplphgoldkoeaa
/- THE CELL 'sum', in the pinned program and in every row, IS THE sha256 OF THE DUMP (.gsa) THAT YtlplphgoldkoeaaProg.lean LOADS. Nothing in Lean hashes anything: it is a label: what it is worth is what the hold of that sum in a sandbox is worth. -/
noncomputable def Try.pinned : Pinned := { name := "ytlplphgoldkoeaa", sum := "0d6c79fbe5728a50e5650549c29db8b16206878ec5c24362c977f8a684e7ec83", checked := Try.checked }
namespace Rows
def none {H : Type} : Left H := { results := [], args := [] }

/-- 'cantinglaw02.MaskRects': WHATEVER THE INPUT: true; the input reads as it did. -/
def maskRectsSpec : ChangeSpec := { name := "maskRects", fn := fun _ => fun
  | [d1, d2] => { results := [.lit (.bool true)], args := [d1, d2] }
  | _ => none }
def maskRectsRow : OpenClaim := { program := "ytlplphgoldkoeaa", sum := "0d6c79fbe5728a50e5650549c29db8b16206878ec5c24362c977f8a684e7ec83", func := "canting/cantinglaw02.MaskRects", spec := "maskRects", unfollowed := true, recurses := true, plainKeys := false, apart := false }
def MaskRectsSaid : Prop := maskRectsRow.holds Try.pinned (OpenSpec.ofChange maskRectsSpec)

/-- ITS FALSE NEIGHBOUR: 'it returns false'. Refute it at one input. -/
def maskRectsWrong : ChangeSpec := { name := "maskRects", fn := fun _ => fun
  | [d1, d2] => { results := [.lit (.bool false)], args := [d1, d2] }
  | _ => none }
def MaskRectsWrongFalsely : Prop := maskRectsRow.holds Try.pinned (OpenSpec.ofChange maskRectsWrong)

/-- 'cantinglaw02.MaskMakes': WHATEVER THE INPUT: true; the input reads as it did. -/
def maskMakesSpec : ChangeSpec := { name := "maskMakes", fn := fun _ => fun
  | [d1, d2, d3, d4] => { results := [.lit (.bool true)], args := [d1, d2, d3, d4] }
  | _ => none }
def maskMakesRow : OpenClaim := { program := "ytlplphgoldkoeaa", sum := "0d6c79fbe5728a50e5650549c29db8b16206878ec5c24362c977f8a684e7ec83", func := "canting/cantinglaw02.MaskMakes", spec := "maskMakes", unfollowed := true, recurses := true, plainKeys := false, apart := false }
def MaskMakesSaid : Prop := maskMakesRow.holds Try.pinned (OpenSpec.ofChange maskMakesSpec)

/-- ITS FALSE NEIGHBOUR: 'it returns false'. Refute it at one input. -/
def maskMakesWrong : ChangeSpec := { name := "maskMakes", fn := fun _ => fun
  | [d1, d2, d3, d4] => { results := [.lit (.bool false)], args := [d1, d2, d3, d4] }
  | _ => none }
def MaskMakesWrongFalsely : Prop := maskMakesRow.holds Try.pinned (OpenSpec.ofChange maskMakesWrong)

/-- 'cantinglaw02.MaskTables': WHATEVER THE INPUT: true; the input reads as it did. -/
def maskTablesSpec : ChangeSpec := { name := "maskTables", fn := fun _ => fun
  | [d1, d2] => { results := [.lit (.bool true)], args := [d1, d2] }
  | _ => none }
def maskTablesRow : OpenClaim := { program := "ytlplphgoldkoeaa", sum := "0d6c79fbe5728a50e5650549c29db8b16206878ec5c24362c977f8a684e7ec83", func := "canting/cantinglaw02.MaskTables", spec := "maskTables", unfollowed := true, recurses := true, plainKeys := false, apart := false }
def MaskTablesSaid : Prop := maskTablesRow.holds Try.pinned (OpenSpec.ofChange maskTablesSpec)

/-- ITS FALSE NEIGHBOUR: 'it returns false'. Refute it at one input. -/
def maskTablesWrong : ChangeSpec := { name := "maskTables", fn := fun _ => fun
  | [d1, d2] => { results := [.lit (.bool false)], args := [d1, d2] }
  | _ => none }
def MaskTablesWrongFalsely : Prop := maskTablesRow.holds Try.pinned (OpenSpec.ofChange maskTablesWrong)

/-- 'cantinglaw02.MaskMoves': WHATEVER THE INPUT: true; the input reads as it did. -/
def maskMovesSpec : ChangeSpec := { name := "maskMoves", fn := fun _ => fun
  | [d1, d2, d3] => { results := [.lit (.bool true)], args := [d1, d2, d3] }
  | _ => none }
def maskMovesRow : OpenClaim := { program := "ytlplphgoldkoeaa", sum := "0d6c79fbe5728a50e5650549c29db8b16206878ec5c24362c977f8a684e7ec83", func := "canting/cantinglaw02.MaskMoves", spec := "maskMoves", unfollowed := true, recurses := true, plainKeys := false, apart := false }
def MaskMovesSaid : Prop := maskMovesRow.holds Try.pinned (OpenSpec.ofChange maskMovesSpec)

/-- ITS FALSE NEIGHBOUR: 'it returns false'. Refute it at one input. -/
def maskMovesWrong : ChangeSpec := { name := "maskMoves", fn := fun _ => fun
  | [d1, d2, d3] => { results := [.lit (.bool false)], args := [d1, d2, d3] }
  | _ => none }
def MaskMovesWrongFalsely : Prop := maskMovesRow.holds Try.pinned (OpenSpec.ofChange maskMovesWrong)

/-- 'cantinglaw02.MaskCombines': WHATEVER THE INPUT: true; the input reads as it did. -/
def maskCombinesSpec : ChangeSpec := { name := "maskCombines", fn := fun _ => fun
  | [d1, d2, d3] => { results := [.lit (.bool true)], args := [d1, d2, d3] }
  | _ => none }
def maskCombinesRow : OpenClaim := { program := "ytlplphgoldkoeaa", sum := "0d6c79fbe5728a50e5650549c29db8b16206878ec5c24362c977f8a684e7ec83", func := "canting/cantinglaw02.MaskCombines", spec := "maskCombines", unfollowed := true, recurses := true, plainKeys := false, apart := false }
def MaskCombinesSaid : Prop := maskCombinesRow.holds Try.pinned (OpenSpec.ofChange maskCombinesSpec)

/-- ITS FALSE NEIGHBOUR: 'it returns false'. Refute it at one input. -/
def maskCombinesWrong : ChangeSpec := { name := "maskCombines", fn := fun _ => fun
  | [d1, d2, d3] => { results := [.lit (.bool false)], args := [d1, d2, d3] }
  | _ => none }
def MaskCombinesWrongFalsely : Prop := maskCombinesRow.holds Try.pinned (OpenSpec.ofChange maskCombinesWrong)

/-- 'cantinglaw02.MaskComposes': WHATEVER THE INPUT: true; the input reads as it did. -/
def maskComposesSpec : ChangeSpec := { name := "maskComposes", fn := fun _ => fun
  | [d1, d2, d3] => { results := [.lit (.bool true)], args := [d1, d2, d3] }
  | _ => none }
def maskComposesRow : OpenClaim := { program := "ytlplphgoldkoeaa", sum := "0d6c79fbe5728a50e5650549c29db8b16206878ec5c24362c977f8a684e7ec83", func := "canting/cantinglaw02.MaskComposes", spec := "maskComposes", unfollowed := true, recurses := true, plainKeys := false, apart := false }
def MaskComposesSaid : Prop := maskComposesRow.holds Try.pinned (OpenSpec.ofChange maskComposesSpec)

/-- ITS FALSE NEIGHBOUR: 'it returns false'. Refute it at one input. -/
def maskComposesWrong : ChangeSpec := { name := "maskComposes", fn := fun _ => fun
  | [d1, d2, d3] => { results := [.lit (.bool false)], args := [d1, d2, d3] }
  | _ => none }
def MaskComposesWrongFalsely : Prop := maskComposesRow.holds Try.pinned (OpenSpec.ofChange maskComposesWrong)

/-- 'cantinglaw02.MaskRound': WHATEVER THE INPUT: true; the input reads as it did. -/
def maskRoundSpec : ChangeSpec := { name := "maskRound", fn := fun _ => fun
  | [d1, d2, d3] => { results := [.lit (.bool true)], args := [d1, d2, d3] }
  | _ => none }
def maskRoundRow : OpenClaim := { program := "ytlplphgoldkoeaa", sum := "0d6c79fbe5728a50e5650549c29db8b16206878ec5c24362c977f8a684e7ec83", func := "canting/cantinglaw02.MaskRound", spec := "maskRound", unfollowed := true, recurses := true, plainKeys := false, apart := false }
def MaskRoundSaid : Prop := maskRoundRow.holds Try.pinned (OpenSpec.ofChange maskRoundSpec)

/-- ITS FALSE NEIGHBOUR: 'it returns false'. Refute it at one input. -/
def maskRoundWrong : ChangeSpec := { name := "maskRound", fn := fun _ => fun
  | [d1, d2, d3] => { results := [.lit (.bool false)], args := [d1, d2, d3] }
  | _ => none }
def MaskRoundWrongFalsely : Prop := maskRoundRow.holds Try.pinned (OpenSpec.ofChange maskRoundWrong)

/-- 'cantinglaw02.MaskPoints': WHATEVER THE INPUT: true; the input reads as it did. -/
def maskPointsSpec : ChangeSpec := { name := "maskPoints", fn := fun _ => fun
  | [d1, d2, d3] => { results := [.lit (.bool true)], args := [d1, d2, d3] }
  | _ => none }
def maskPointsRow : OpenClaim := { program := "ytlplphgoldkoeaa", sum := "0d6c79fbe5728a50e5650549c29db8b16206878ec5c24362c977f8a684e7ec83", func := "canting/cantinglaw02.MaskPoints", spec := "maskPoints", unfollowed := true, recurses := true, plainKeys := false, apart := false }
def MaskPointsSaid : Prop := maskPointsRow.holds Try.pinned (OpenSpec.ofChange maskPointsSpec)

/-- ITS FALSE NEIGHBOUR: 'it returns false'. Refute it at one input. -/
def maskPointsWrong : ChangeSpec := { name := "maskPoints", fn := fun _ => fun
  | [d1, d2, d3] => { results := [.lit (.bool false)], args := [d1, d2, d3] }
  | _ => none }
def MaskPointsWrongFalsely : Prop := maskPointsRow.holds Try.pinned (OpenSpec.ofChange maskPointsWrong)

/-- 'cantinglaw02.MaskPaths': WHATEVER THE INPUT: true; the input reads as it did. -/
def maskPathsSpec : ChangeSpec := { name := "maskPaths", fn := fun _ => fun
  | [d] => { results := [.lit (.bool true)], args := [d] }
  | _ => none }
def maskPathsRow : OpenClaim := { program := "ytlplphgoldkoeaa", sum := "0d6c79fbe5728a50e5650549c29db8b16206878ec5c24362c977f8a684e7ec83", func := "canting/cantinglaw02.MaskPaths", spec := "maskPaths", unfollowed := true, recurses := true, plainKeys := false, apart := false }
def MaskPathsSaid : Prop := maskPathsRow.holds Try.pinned (OpenSpec.ofChange maskPathsSpec)

/-- ITS FALSE NEIGHBOUR: 'it returns false'. Refute it at one input. -/
def maskPathsWrong : ChangeSpec := { name := "maskPaths", fn := fun _ => fun
  | [d] => { results := [.lit (.bool false)], args := [d] }
  | _ => none }
def MaskPathsWrongFalsely : Prop := maskPathsRow.holds Try.pinned (OpenSpec.ofChange maskPathsWrong)

/-- 'cantinglaw02.MaskAlgebra': WHATEVER THE INPUT: true; the input reads as it did. -/
def maskAlgebraSpec : ChangeSpec := { name := "maskAlgebra", fn := fun _ => fun
  | [d1, d2, d3, d4] => { results := [.lit (.bool true)], args := [d1, d2, d3, d4] }
  | _ => none }
def maskAlgebraRow : OpenClaim := { program := "ytlplphgoldkoeaa", sum := "0d6c79fbe5728a50e5650549c29db8b16206878ec5c24362c977f8a684e7ec83", func := "canting/cantinglaw02.MaskAlgebra", spec := "maskAlgebra", unfollowed := true, recurses := true, plainKeys := false, apart := false }
def MaskAlgebraSaid : Prop := maskAlgebraRow.holds Try.pinned (OpenSpec.ofChange maskAlgebraSpec)

/-- ITS FALSE NEIGHBOUR: 'it returns false'. Refute it at one input. -/
def maskAlgebraWrong : ChangeSpec := { name := "maskAlgebra", fn := fun _ => fun
  | [d1, d2, d3, d4] => { results := [.lit (.bool false)], args := [d1, d2, d3, d4] }
  | _ => none }
def MaskAlgebraWrongFalsely : Prop := maskAlgebraRow.holds Try.pinned (OpenSpec.ofChange maskAlgebraWrong)

/-- 'cantinglaw02.MaskReorders': WHATEVER THE INPUT: true; the input reads as it did. -/
def maskReordersSpec : ChangeSpec := { name := "maskReorders", fn := fun _ => fun
  | [d1, d2] => { results := [.lit (.bool true)], args := [d1, d2] }
  | _ => none }
def maskReordersRow : OpenClaim := { program := "ytlplphgoldkoeaa", sum := "0d6c79fbe5728a50e5650549c29db8b16206878ec5c24362c977f8a684e7ec83", func := "canting/cantinglaw02.MaskReorders", spec := "maskReorders", unfollowed := true, recurses := true, plainKeys := false, apart := false }
def MaskReordersSaid : Prop := maskReordersRow.holds Try.pinned (OpenSpec.ofChange maskReordersSpec)

/-- ITS FALSE NEIGHBOUR: 'it returns false'. Refute it at one input. -/
def maskReordersWrong : ChangeSpec := { name := "maskReorders", fn := fun _ => fun
  | [d1, d2] => { results := [.lit (.bool false)], args := [d1, d2] }
  | _ => none }
def MaskReordersWrongFalsely : Prop := maskReordersRow.holds Try.pinned (OpenSpec.ofChange maskReordersWrong)

/-- 'cantinglaw02.MaskLeast': WHATEVER THE INPUT: true; the input reads as it did. -/
def maskLeastSpec : ChangeSpec := { name := "maskLeast", fn := fun _ => fun
  | [d] => { results := [.lit (.bool true)], args := [d] }
  | _ => none }
def maskLeastRow : OpenClaim := { program := "ytlplphgoldkoeaa", sum := "0d6c79fbe5728a50e5650549c29db8b16206878ec5c24362c977f8a684e7ec83", func := "canting/cantinglaw02.MaskLeast", spec := "maskLeast", unfollowed := true, recurses := true, plainKeys := false, apart := false }
def MaskLeastSaid : Prop := maskLeastRow.holds Try.pinned (OpenSpec.ofChange maskLeastSpec)

/-- ITS FALSE NEIGHBOUR: 'it returns false'. Refute it at one input. -/
def maskLeastWrong : ChangeSpec := { name := "maskLeast", fn := fun _ => fun
  | [d] => { results := [.lit (.bool false)], args := [d] }
  | _ => none }
def MaskLeastWrongFalsely : Prop := maskLeastRow.holds Try.pinned (OpenSpec.ofChange maskLeastWrong)

/-- 'cantinglaw02.MaskDuals': WHATEVER THE INPUT: true; the input reads as it did. -/
def maskDualsSpec : ChangeSpec := { name := "maskDuals", fn := fun _ => fun
  | [d1, d2] => { results := [.lit (.bool true)], args := [d1, d2] }
  | _ => none }
def maskDualsRow : OpenClaim := { program := "ytlplphgoldkoeaa", sum := "0d6c79fbe5728a50e5650549c29db8b16206878ec5c24362c977f8a684e7ec83", func := "canting/cantinglaw02.MaskDuals", spec := "maskDuals", unfollowed := true, recurses := true, plainKeys := false, apart := false }
def MaskDualsSaid : Prop := maskDualsRow.holds Try.pinned (OpenSpec.ofChange maskDualsSpec)

/-- ITS FALSE NEIGHBOUR: 'it returns false'. Refute it at one input. -/
def maskDualsWrong : ChangeSpec := { name := "maskDuals", fn := fun _ => fun
  | [d1, d2] => { results := [.lit (.bool false)], args := [d1, d2] }
  | _ => none }
def MaskDualsWrongFalsely : Prop := maskDualsRow.holds Try.pinned (OpenSpec.ofChange maskDualsWrong)

/-- 'cantinglaw02.MaskWidest': WHATEVER THE INPUT: true; the input reads as it did. -/
def maskWidestSpec : ChangeSpec := { name := "maskWidest", fn := fun _ => fun
  | [d1, d2] => { results := [.lit (.bool true)], args := [d1, d2] }
  | _ => none }
def maskWidestRow : OpenClaim := { program := "ytlplphgoldkoeaa", sum := "0d6c79fbe5728a50e5650549c29db8b16206878ec5c24362c977f8a684e7ec83", func := "canting/cantinglaw02.MaskWidest", spec := "maskWidest", unfollowed := true, recurses := true, plainKeys := false, apart := false }
def MaskWidestSaid : Prop := maskWidestRow.holds Try.pinned (OpenSpec.ofChange maskWidestSpec)

/-- ITS FALSE NEIGHBOUR: 'it returns false'. Refute it at one input. -/
def maskWidestWrong : ChangeSpec := { name := "maskWidest", fn := fun _ => fun
  | [d1, d2] => { results := [.lit (.bool false)], args := [d1, d2] }
  | _ => none }
def MaskWidestWrongFalsely : Prop := maskWidestRow.holds Try.pinned (OpenSpec.ofChange maskWidestWrong)

/-- 'cantinglaw02.MaskOrders': WHATEVER THE INPUT: true; the input reads as it did. -/
def maskOrdersSpec : ChangeSpec := { name := "maskOrders", fn := fun _ => fun
  | [d1, d2] => { results := [.lit (.bool true)], args := [d1, d2] }
  | _ => none }
def maskOrdersRow : OpenClaim := { program := "ytlplphgoldkoeaa", sum := "0d6c79fbe5728a50e5650549c29db8b16206878ec5c24362c977f8a684e7ec83", func := "canting/cantinglaw02.MaskOrders", spec := "maskOrders", unfollowed := true, recurses := true, plainKeys := false, apart := false }
def MaskOrdersSaid : Prop := maskOrdersRow.holds Try.pinned (OpenSpec.ofChange maskOrdersSpec)

/-- ITS FALSE NEIGHBOUR: 'it returns false'. Refute it at one input. -/
def maskOrdersWrong : ChangeSpec := { name := "maskOrders", fn := fun _ => fun
  | [d1, d2] => { results := [.lit (.bool false)], args := [d1, d2] }
  | _ => none }
def MaskOrdersWrongFalsely : Prop := maskOrdersRow.holds Try.pinned (OpenSpec.ofChange maskOrdersWrong)

/-- 'cantinglaw02.MaskDisjoint': WHATEVER THE INPUT: true; the input reads as it did. -/
def maskDisjointSpec : ChangeSpec := { name := "maskDisjoint", fn := fun _ => fun
  | [d1, d2] => { results := [.lit (.bool true)], args := [d1, d2] }
  | _ => none }
def maskDisjointRow : OpenClaim := { program := "ytlplphgoldkoeaa", sum := "0d6c79fbe5728a50e5650549c29db8b16206878ec5c24362c977f8a684e7ec83", func := "canting/cantinglaw02.MaskDisjoint", spec := "maskDisjoint", unfollowed := true, recurses := true, plainKeys := false, apart := false }
def MaskDisjointSaid : Prop := maskDisjointRow.holds Try.pinned (OpenSpec.ofChange maskDisjointSpec)

/-- ITS FALSE NEIGHBOUR: 'it returns false'. Refute it at one input. -/
def maskDisjointWrong : ChangeSpec := { name := "maskDisjoint", fn := fun _ => fun
  | [d1, d2] => { results := [.lit (.bool false)], args := [d1, d2] }
  | _ => none }
def MaskDisjointWrongFalsely : Prop := maskDisjointRow.holds Try.pinned (OpenSpec.ofChange maskDisjointWrong)

/- THE SECOND FORM. 'bulk': how many values and letters a reading holds, each counted each time it is reached (what is shared counts as often as it is met; a slice's spare places count too). A statement '..UptoSaid' is the law's where the arguments, and the package variables that the reading takes, are together of bulk at most 1048576: NARROWER than '..Said'. Prove '..Said' where nothing that the law and all that it calls make is longer than what came in: it says more and counts as full. Else prove '..UptoSaid'. A law counts once. -/
mutual
def uptoBulk {H : Type} : DataW H → Nat
  | .lit (.string bytes) => bytes.length + 1
  | .lit _ => 1
  | .nil => 1
  | .ptr d => uptoBulk d + 1
  | .slice elems spare => uptoBulkAll elems + uptoBulkAll spare + 1
  | .agg parts => uptoBulkAll parts + 1
  | .iface _ d => uptoBulk d + 1
  | .map entries => uptoBulkEntries entries + 1
  | .held _ => 1
def uptoBulkAll {H : Type} : List (DataW H) → Nat
  | [] => 0
  | d :: r => uptoBulk d + uptoBulkAll r
def uptoBulkEntries {H : Type} : List (Lit × DataW H) → Nat
  | [] => 0
  | x :: r => uptoBulkEntry x + uptoBulkEntries r
def uptoBulkEntry {H : Type} : Lit × DataW H → Nat
  | (.string bytes, d) => bytes.length + uptoBulk d + 1
  | (_, d) => uptoBulk d + 1
 end
def uptoSmall : (H : Type) → List (DataW H) → Bool := fun _ ds => decide (uptoBulkAll ds ≤ 1048576)
def OpenSpec.upto (s : _root_.Go.ChangeSpec) : _root_.Go.OpenSpec := { _root_.Go.OpenSpec.ofChange s with cond := some uptoSmall }

/-- 'cantinglaw02.MaskRects', WHERE WHAT IT READS IS OF BULK AT MOST 1048576: true; the input reads as it did. -/
def maskRectsUptoRow : OpenClaim := { program := "ytlplphgoldkoeaa", sum := "0d6c79fbe5728a50e5650549c29db8b16206878ec5c24362c977f8a684e7ec83", func := "canting/cantinglaw02.MaskRects", spec := "maskRects", unfollowed := true, recurses := true, plainKeys := false, apart := false, narrowed := true }
def MaskRectsUptoSaid : Prop := maskRectsUptoRow.holds Try.pinned (OpenSpec.upto maskRectsSpec)

/-- 'cantinglaw02.MaskMakes', WHERE WHAT IT READS IS OF BULK AT MOST 1048576: true; the input reads as it did. -/
def maskMakesUptoRow : OpenClaim := { program := "ytlplphgoldkoeaa", sum := "0d6c79fbe5728a50e5650549c29db8b16206878ec5c24362c977f8a684e7ec83", func := "canting/cantinglaw02.MaskMakes", spec := "maskMakes", unfollowed := true, recurses := true, plainKeys := false, apart := false, narrowed := true }
def MaskMakesUptoSaid : Prop := maskMakesUptoRow.holds Try.pinned (OpenSpec.upto maskMakesSpec)

/-- 'cantinglaw02.MaskTables', WHERE WHAT IT READS IS OF BULK AT MOST 1048576: true; the input reads as it did. -/
def maskTablesUptoRow : OpenClaim := { program := "ytlplphgoldkoeaa", sum := "0d6c79fbe5728a50e5650549c29db8b16206878ec5c24362c977f8a684e7ec83", func := "canting/cantinglaw02.MaskTables", spec := "maskTables", unfollowed := true, recurses := true, plainKeys := false, apart := false, narrowed := true }
def MaskTablesUptoSaid : Prop := maskTablesUptoRow.holds Try.pinned (OpenSpec.upto maskTablesSpec)

/-- 'cantinglaw02.MaskMoves', WHERE WHAT IT READS IS OF BULK AT MOST 1048576: true; the input reads as it did. -/
def maskMovesUptoRow : OpenClaim := { program := "ytlplphgoldkoeaa", sum := "0d6c79fbe5728a50e5650549c29db8b16206878ec5c24362c977f8a684e7ec83", func := "canting/cantinglaw02.MaskMoves", spec := "maskMoves", unfollowed := true, recurses := true, plainKeys := false, apart := false, narrowed := true }
def MaskMovesUptoSaid : Prop := maskMovesUptoRow.holds Try.pinned (OpenSpec.upto maskMovesSpec)

/-- 'cantinglaw02.MaskCombines', WHERE WHAT IT READS IS OF BULK AT MOST 1048576: true; the input reads as it did. -/
def maskCombinesUptoRow : OpenClaim := { program := "ytlplphgoldkoeaa", sum := "0d6c79fbe5728a50e5650549c29db8b16206878ec5c24362c977f8a684e7ec83", func := "canting/cantinglaw02.MaskCombines", spec := "maskCombines", unfollowed := true, recurses := true, plainKeys := false, apart := false, narrowed := true }
def MaskCombinesUptoSaid : Prop := maskCombinesUptoRow.holds Try.pinned (OpenSpec.upto maskCombinesSpec)

/-- 'cantinglaw02.MaskComposes', WHERE WHAT IT READS IS OF BULK AT MOST 1048576: true; the input reads as it did. -/
def maskComposesUptoRow : OpenClaim := { program := "ytlplphgoldkoeaa", sum := "0d6c79fbe5728a50e5650549c29db8b16206878ec5c24362c977f8a684e7ec83", func := "canting/cantinglaw02.MaskComposes", spec := "maskComposes", unfollowed := true, recurses := true, plainKeys := false, apart := false, narrowed := true }
def MaskComposesUptoSaid : Prop := maskComposesUptoRow.holds Try.pinned (OpenSpec.upto maskComposesSpec)

/-- 'cantinglaw02.MaskRound', WHERE WHAT IT READS IS OF BULK AT MOST 1048576: true; the input reads as it did. -/
def maskRoundUptoRow : OpenClaim := { program := "ytlplphgoldkoeaa", sum := "0d6c79fbe5728a50e5650549c29db8b16206878ec5c24362c977f8a684e7ec83", func := "canting/cantinglaw02.MaskRound", spec := "maskRound", unfollowed := true, recurses := true, plainKeys := false, apart := false, narrowed := true }
def MaskRoundUptoSaid : Prop := maskRoundUptoRow.holds Try.pinned (OpenSpec.upto maskRoundSpec)

/-- 'cantinglaw02.MaskPoints', WHERE WHAT IT READS IS OF BULK AT MOST 1048576: true; the input reads as it did. -/
def maskPointsUptoRow : OpenClaim := { program := "ytlplphgoldkoeaa", sum := "0d6c79fbe5728a50e5650549c29db8b16206878ec5c24362c977f8a684e7ec83", func := "canting/cantinglaw02.MaskPoints", spec := "maskPoints", unfollowed := true, recurses := true, plainKeys := false, apart := false, narrowed := true }
def MaskPointsUptoSaid : Prop := maskPointsUptoRow.holds Try.pinned (OpenSpec.upto maskPointsSpec)

/-- 'cantinglaw02.MaskPaths', WHERE WHAT IT READS IS OF BULK AT MOST 1048576: true; the input reads as it did. -/
def maskPathsUptoRow : OpenClaim := { program := "ytlplphgoldkoeaa", sum := "0d6c79fbe5728a50e5650549c29db8b16206878ec5c24362c977f8a684e7ec83", func := "canting/cantinglaw02.MaskPaths", spec := "maskPaths", unfollowed := true, recurses := true, plainKeys := false, apart := false, narrowed := true }
def MaskPathsUptoSaid : Prop := maskPathsUptoRow.holds Try.pinned (OpenSpec.upto maskPathsSpec)

/-- 'cantinglaw02.MaskAlgebra', WHERE WHAT IT READS IS OF BULK AT MOST 1048576: true; the input reads as it did. -/
def maskAlgebraUptoRow : OpenClaim := { program := "ytlplphgoldkoeaa", sum := "0d6c79fbe5728a50e5650549c29db8b16206878ec5c24362c977f8a684e7ec83", func := "canting/cantinglaw02.MaskAlgebra", spec := "maskAlgebra", unfollowed := true, recurses := true, plainKeys := false, apart := false, narrowed := true }
def MaskAlgebraUptoSaid : Prop := maskAlgebraUptoRow.holds Try.pinned (OpenSpec.upto maskAlgebraSpec)

/-- 'cantinglaw02.MaskReorders', WHERE WHAT IT READS IS OF BULK AT MOST 1048576: true; the input reads as it did. -/
def maskReordersUptoRow : OpenClaim := { program := "ytlplphgoldkoeaa", sum := "0d6c79fbe5728a50e5650549c29db8b16206878ec5c24362c977f8a684e7ec83", func := "canting/cantinglaw02.MaskReorders", spec := "maskReorders", unfollowed := true, recurses := true, plainKeys := false, apart := false, narrowed := true }
def MaskReordersUptoSaid : Prop := maskReordersUptoRow.holds Try.pinned (OpenSpec.upto maskReordersSpec)

/-- 'cantinglaw02.MaskLeast', WHERE WHAT IT READS IS OF BULK AT MOST 1048576: true; the input reads as it did. -/
def maskLeastUptoRow : OpenClaim := { program := "ytlplphgoldkoeaa", sum := "0d6c79fbe5728a50e5650549c29db8b16206878ec5c24362c977f8a684e7ec83", func := "canting/cantinglaw02.MaskLeast", spec := "maskLeast", unfollowed := true, recurses := true, plainKeys := false, apart := false, narrowed := true }
def MaskLeastUptoSaid : Prop := maskLeastUptoRow.holds Try.pinned (OpenSpec.upto maskLeastSpec)

/-- 'cantinglaw02.MaskDuals', WHERE WHAT IT READS IS OF BULK AT MOST 1048576: true; the input reads as it did. -/
def maskDualsUptoRow : OpenClaim := { program := "ytlplphgoldkoeaa", sum := "0d6c79fbe5728a50e5650549c29db8b16206878ec5c24362c977f8a684e7ec83", func := "canting/cantinglaw02.MaskDuals", spec := "maskDuals", unfollowed := true, recurses := true, plainKeys := false, apart := false, narrowed := true }
def MaskDualsUptoSaid : Prop := maskDualsUptoRow.holds Try.pinned (OpenSpec.upto maskDualsSpec)

/-- 'cantinglaw02.MaskWidest', WHERE WHAT IT READS IS OF BULK AT MOST 1048576: true; the input reads as it did. -/
def maskWidestUptoRow : OpenClaim := { program := "ytlplphgoldkoeaa", sum := "0d6c79fbe5728a50e5650549c29db8b16206878ec5c24362c977f8a684e7ec83", func := "canting/cantinglaw02.MaskWidest", spec := "maskWidest", unfollowed := true, recurses := true, plainKeys := false, apart := false, narrowed := true }
def MaskWidestUptoSaid : Prop := maskWidestUptoRow.holds Try.pinned (OpenSpec.upto maskWidestSpec)

/-- 'cantinglaw02.MaskOrders', WHERE WHAT IT READS IS OF BULK AT MOST 1048576: true; the input reads as it did. -/
def maskOrdersUptoRow : OpenClaim := { program := "ytlplphgoldkoeaa", sum := "0d6c79fbe5728a50e5650549c29db8b16206878ec5c24362c977f8a684e7ec83", func := "canting/cantinglaw02.MaskOrders", spec := "maskOrders", unfollowed := true, recurses := true, plainKeys := false, apart := false, narrowed := true }
def MaskOrdersUptoSaid : Prop := maskOrdersUptoRow.holds Try.pinned (OpenSpec.upto maskOrdersSpec)

/-- 'cantinglaw02.MaskDisjoint', WHERE WHAT IT READS IS OF BULK AT MOST 1048576: true; the input reads as it did. -/
def maskDisjointUptoRow : OpenClaim := { program := "ytlplphgoldkoeaa", sum := "0d6c79fbe5728a50e5650549c29db8b16206878ec5c24362c977f8a684e7ec83", func := "canting/cantinglaw02.MaskDisjoint", spec := "maskDisjoint", unfollowed := true, recurses := true, plainKeys := false, apart := false, narrowed := true }
def MaskDisjointUptoSaid : Prop := maskDisjointUptoRow.holds Try.pinned (OpenSpec.upto maskDisjointSpec)

end Rows
end Go.Proofs.Ytlplphgoldkoeaa
