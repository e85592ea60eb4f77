/- Lemmas of the proof: part Bn. -/
import Derived.Test.YtbamanjedfccpaaBh
import Derived.Test.YtbamanjedfccpaaBe
section
set_option linter.unusedVariables false
set_option linter.unusedSimpArgs false
namespace Go.Proofs.Ytbamanjedfccpaa.HTab
open Go.RowKit Go.Proofs.YtbamanjedfccpaaW.PrintWords Go.Proofs.YtbamanjedfccpaaW.PrintLast Go.Proofs.YtbamanjedfccpaaW.PrintMore Go.Proofs.Ytbamanjedfccpaa.X
set_option linter.unusedVariables false
set_option linter.unusedSimpArgs false
def flowL (L : List Int) (m : Nat) : List Int := (List.range m).map fun (i : Nat) => rd L (2 * (i : Int) + 1)
end Go.Proofs.Ytbamanjedfccpaa.HTab
namespace Go.Proofs.Ytbamanjedfccpaa.X
open Go.RowKit Go.Proofs.YtbamanjedfccpaaW.PrintWords Go.Proofs.YtbamanjedfccpaaW.PrintLast Go.Proofs.YtbamanjedfccpaaW.PrintMore Go.Proofs.Ytbamanjedfccpaa.HTab
def wax_Flow.f (n : Int) (l : List S35) : Option (List Int × Int) := if vdB n l = true then (fillZ fuelW (restP false n.toNat l 0 (n - 1))).map fun r => (flowL r.2.1 l.length, 0) else some ([], 2)
end Go.Proofs.Ytbamanjedfccpaa.X
end

section
set_option linter.unusedVariables false
set_option linter.unusedSimpArgs false
namespace Go.Proofs.Ytbamanjedfccpaa.HTab
open Go.RowKit Go.Proofs.YtbamanjedfccpaaW.PrintWords Go.Proofs.YtbamanjedfccpaaW.PrintLast Go.Proofs.YtbamanjedfccpaaW.PrintMore Go.Proofs.Ytbamanjedfccpaa.X
set_option linter.unusedVariables false
set_option linter.unusedSimpArgs false
def leastL (D : List Int) : List Bool := D.map fun d => decide (0 ≤ d)
end Go.Proofs.Ytbamanjedfccpaa.HTab
namespace Go.Proofs.Ytbamanjedfccpaa.X
open Go.RowKit Go.Proofs.YtbamanjedfccpaaW.PrintWords Go.Proofs.YtbamanjedfccpaaW.PrintLast Go.Proofs.YtbamanjedfccpaaW.PrintMore Go.Proofs.Ytbamanjedfccpaa.HTab
def wax_Least.f (n : Int) (l : List S35) : Option (List Bool × Int) := if vdB n l = true then (fillZ fuelW (restP false n.toNat l 0 (n - 1))).bind fun r => (levelP fuelW ((restP false n.toNat l 0 (n - 1)).dat_ r.2.1 r.2.2.1 r.2.2.2)).map fun D => (leastL D, 0) else some ([], 2)
end Go.Proofs.Ytbamanjedfccpaa.X
end

section
set_option linter.unusedVariables false
set_option linter.unusedSimpArgs false
namespace Go.Proofs.Ytbamanjedfccpaa.HTab
open Go.RowKit Go.Proofs.YtbamanjedfccpaaW.PrintWords Go.Proofs.YtbamanjedfccpaaW.PrintLast Go.Proofs.YtbamanjedfccpaaW.PrintMore Go.Proofs.Ytbamanjedfccpaa.X
set_option linter.unusedVariables false
set_option linter.unusedSimpArgs false
end Go.Proofs.Ytbamanjedfccpaa.HTab
end

section
set_option linter.unusedVariables false
set_option linter.unusedSimpArgs false
namespace Go.Proofs.Ytbamanjedfccpaa.HTab
open Go.RowKit Go.Proofs.YtbamanjedfccpaaW.PrintWords Go.Proofs.YtbamanjedfccpaaW.PrintLast Go.Proofs.YtbamanjedfccpaaW.PrintMore Go.Proofs.Ytbamanjedfccpaa.X
set_option linter.unusedVariables false
set_option linter.unusedSimpArgs false
def grE (arcs : List S35) (left : List Int) (s : List Int × List Bool) (e : Int) : List Int × List Bool :=
  if rdOf false s.2 (endP arcs e) = true ∧ 0 < rd left (xrP e) then (s.1 ++ [endP arcs e], s.2.set (endP arcs e).toNat false) else s
def grQ (arcs : List S35) (left : List Int) (out : List (List Int)) : Nat → List Int → List Bool → Option (List Bool)
  | _, [], d => some d
  | 0, _ :: _, _ => none
  | k + 1, v :: q, d => grQ arcs left out k ((rowOf out v).foldl (grE arcs left) (q, d)).1 ((rowOf out v).foldl (grE arcs left) (q, d)).2
def greatP (k : Nat) (Z : RZ) : Option (List Bool) := grQ Z.arcs Z.left Z.out k [Z.snk] ((List.replicate Z.n.toNat true).set Z.snk.toNat false)
end Go.Proofs.Ytbamanjedfccpaa.HTab
end

section
set_option linter.unusedVariables false
set_option linter.unusedSimpArgs false
namespace Go.Proofs.Ytbamanjedfccpaa.HTab
open Go.RowKit Go.Proofs.YtbamanjedfccpaaW.PrintWords Go.Proofs.YtbamanjedfccpaaW.PrintLast Go.Proofs.YtbamanjedfccpaaW.PrintMore Go.Proofs.Ytbamanjedfccpaa.X
set_option linter.unusedVariables false
set_option linter.unusedSimpArgs false
end Go.Proofs.Ytbamanjedfccpaa.HTab
namespace Go.Proofs.Ytbamanjedfccpaa.X
open Go.RowKit Go.Proofs.YtbamanjedfccpaaW.PrintWords Go.Proofs.YtbamanjedfccpaaW.PrintLast Go.Proofs.YtbamanjedfccpaaW.PrintMore Go.Proofs.Ytbamanjedfccpaa.HTab
def wax_Greatest.f (n : Int) (l : List S35) : Option (List Bool × Int) := if vdB n l = true then (fillZ fuelW (restP false n.toNat l 0 (n - 1))).bind fun r => (greatP fuelW ((restP false n.toNat l 0 (n - 1)).dat_ r.2.1 r.2.2.1 r.2.2.2)).map fun D => (D, 0) else some ([], 2)
end Go.Proofs.Ytbamanjedfccpaa.X
end
