/- Lemmas of the proof: part Bs. -/
import Derived.Test.YtbamanjedfccpaaBh
import Derived.Test.YtbamanjedfccpaaBc
import Derived.Test.YtbamanjedfccpaaBd
import Derived.Test.YtbamanjedfccpaaBl
section
set_option linter.unusedVariables false
set_option linter.unusedSimpArgs false
namespace Go.Proofs.Ytbamanjedfccpaa.HTab
open Go.RowKit Go.Proofs.YtbamanjedfccpaaW.PrintWords Go.Proofs.YtbamanjedfccpaaW.PrintLast Go.Proofs.YtbamanjedfccpaaW.PrintMore Go.Proofs.Ytbamanjedfccpaa.X
set_option linter.unusedVariables false
set_option linter.unusedSimpArgs false
theorem filled_value (a0_0 : Int) (A0_1 : Option Addr) (c0_1 : Nat) (l0_1 : List S35) (r1 r2 : Int) (w : World) (hr : Kd.C k35 w A0_1 l0_1.length l0_1) (hc : l0_1.length ≤ c0_1) (hv : wax_Net_valid.f a0_0 l0_1 = some true) (h : wax_Value.f a0_0 l0_1 = some (r1, r2)) :
    Calls Try.prog 52 #[.agg #[.int .i64 a0_0, .slice A0_1 l0_1.length c0_1]] w fun e w' => ∃ g : Nat, e = .returned (.tuple #[.pointer (some ⟨g, 0, none⟩), .int .i64 r1]) ∧ Below w.heap.size w w' := by
  have hv2 : vdB a0_0 l0_1 = true := Option.some.inj hv
  obtain ⟨v1, v2, v3, v4⟩ := vdB_iff.1 hv2
  unfold wax_Value.f at h
  rw [hv2, if_pos rfl] at h
  obtain ⟨⟨s, l1, d1, n1⟩, hF, hr2⟩ := Option.map_eq_some_iff.1 h
  injection hr2 with h1 h2
  subst h1; subst h2
  obtain ⟨N, rfl⟩ : ∃ N : Nat, a0_0 = N := ⟨a0_0.toNat, by omega⟩
  rw [Int.toNat_natCast] at hF
  refine (filled_calls N A0_1 c0_1 l0_1 w hr hc (by omega) (by omega) (by omega) (any_good v4) fuelW (by unfold fuelW; decide) s l1 d1 n1 hF).mono ?_
  rintro e w3 ⟨g, col3, vL, vO, v6, v7, rfl, hR3⟩
  exact ⟨g, rfl, hR3.bel⟩
end Go.Proofs.Ytbamanjedfccpaa.HTab
end

section
set_option linter.unusedVariables false
set_option linter.unusedSimpArgs false
namespace Go.Proofs.Ytbamanjedfccpaa.X
open Go.Proofs.Ytbamanjedfccpaa.HTab (filled_value)
open Go.RowKit Go.Proofs.YtbamanjedfccpaaW.PrintWords Go.Proofs.YtbamanjedfccpaaW.PrintLast Go.Proofs.YtbamanjedfccpaaW.PrintMore
attribute [local go_sem] max2_int min2_int max_two min_two max_three min_three max_four min_four   -- for this text's walks alone
set_option linter.unusedVariables false
set_option linter.unusedSimpArgs false
end Go.Proofs.Ytbamanjedfccpaa.X
end
