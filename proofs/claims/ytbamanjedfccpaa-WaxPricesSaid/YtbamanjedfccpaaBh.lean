/- Lemmas of the proof: part Bh. -/
import Derived.Test.YtbamanjedfccpaaBg
import Derived.Test.YtbamanjedfccpaaBd
import Derived.Test.YtbamanjedfccpaaBc
section
set_option linter.unusedVariables false
set_option linter.unusedSimpArgs false
namespace Go.Proofs.Ytbamanjedfccpaa.HTab
open Go.RowKit Go.Proofs.YtbamanjedfccpaaW.PrintWords Go.Proofs.YtbamanjedfccpaaW.PrintLast Go.Proofs.YtbamanjedfccpaaW.PrintMore Go.Proofs.Ytbamanjedfccpaa.X
set_option linter.unusedVariables false
set_option linter.unusedSimpArgs false
def fuelW : Nat := 100000000000
def fillZ (k : Nat) (Z : RZ) : Option (Int × List Int × List Int × List Int) := fillO Z k Z.left Z.dep Z.nxt 0
theorem any_good {N : Nat} {arcs : List S35} (h : arcs.any (badA N) = false) : Good N arcs := fun a ha => by
  have := List.any_eq_false.1 h a ha
  simp only [badA, Bool.or_eq_true, not_or, beq_iff_eq, decide_eq_true_eq] at this
  omega
theorem vdB_iff {n : Int} {arcs : List S35} : vdB n arcs = true ↔ 2 ≤ n ∧ n ≤ 40 ∧ arcs.length ≤ 160 ∧ arcs.any (badA n) = false := by
  unfold vdB
  simp [and_assoc]
def FdPost (w : World) (A1 : Option Addr) (c1 : Nat) (Z : RZ) (sum : Int) (left dep nxt : List Int) (e : Ending) (w' : World) : Prop :=
  ∃ g col v2 v3 v6 v7, e = .returned (.tuple #[.pointer (some ⟨g, 0, none⟩), .int .i64 sum]) ∧ Rs w w' g col A1 c1 v2 v3 v6 v7 (Z.dat_ left dep nxt)
set_option maxRecDepth 100000 in
set_option maxHeartbeats 8000000 in
theorem filled_calls (N : Nat) (A1 : Option Addr) (c1 : Nat) (arcs : List S35) (w : World) (hC : Kd.C k35 w A1 arcs.length arcs) (hc : arcs.length ≤ c1) (h2 : 2 ≤ N) (hN : N ≤ 1000) (hl : arcs.length ≤ 1000) (hg : Good N arcs) (k : Nat) (hk : k ≤ 1000000000000) (sum : Int) (l1 d1 n1 : List Int) (hF : fillZ k (restP false N arcs 0 ((N : Int) - 1)) = some (sum, l1, d1, n1)) :
    Calls Try.prog 52 #[.agg #[.int .i64 N, .slice A1 arcs.length c1]] w (FdPost w A1 c1 (restP false N arcs 0 ((N : Int) - 1)) sum l1 d1 n1) := by
  have HC := Aside0.mk hC
  have HG := Aside0.mk hg
  have HF := Aside0.mk hF
  have hw : Aside0 (WZ (restP false N arcs 0 ((N : Int) - 1))) := ⟨restP_WZ false N arcs 0 _ hN hl hg (by omega) (by omega)⟩
  obtain ⟨W0, hW0⟩ : ∃ W, W = w.alloc (.cells #[.int .i64 N, .slice A1 arcs.length c1] 30) := ⟨_, rfl⟩
  have HB0 := Aside0.mk (show Below w.heap.size w W0 by rw [hW0]; exact below_alloc (Below.refl _ _) _)
  clear hC hg hF
  go_enter Try.func52, Try.ntmps52
  go_wp2_with fail
  rw [← hW0]
  refine (rest_calls false N A1 c1 arcs 0 ((N : Int) - 1) W0 (Kd.C_below HC.out HB0.out) hc (by omega) hN hl HG.out).mono ?_
  rintro e w2 ⟨g, col, v2, v3, rfl, hR⟩
  have HR := Aside0.mk hR
  clear hR
  go_wp2_with fail
  refine (fill_calls HR.out hw.out k hk sum l1 d1 n1 HF.out).mono ?_
  rintro e w3 ⟨col3, v6, v7, rfl, hR3⟩
  have HR3 := Aside0.mk hR3
  clear hR3
  go_wp2
  go_ret2
  exact ⟨g, col3, v2, v3, v6, v7, rfl, HR3.out.base HB0.out HC.out⟩
set_option maxRecDepth 100000 in
set_option maxHeartbeats 8000000 in
theorem value_ok (N : Nat) (A1 : Option Addr) (c1 : Nat) (arcs : List S35) (w : World) (hC : Kd.C k35 w A1 arcs.length arcs) (hc : arcs.length ≤ c1) (hv : vdB N arcs = true) (k : Nat) (hk : k ≤ 1000000000000) (sum : Int) (l1 d1 n1 : List Int) (hF : fillZ k (restP false N arcs 0 ((N : Int) - 1)) = some (sum, l1, d1, n1)) :
    Calls Try.prog 19 #[.agg #[.int .i64 N, .slice A1 arcs.length c1]] w fun e w' => e = .returned (.tuple #[.int .i64 sum, .int .i64 0]) ∧ Below w.heap.size w w' := by
  have HC := Aside0.mk hC
  have HF := Aside0.mk hF
  have HV := Aside0.mk hv
  obtain ⟨W0, hW0⟩ : ∃ W, W = w.alloc (.cells #[.int .i64 N, .slice A1 arcs.length c1] 30) := ⟨_, rfl⟩
  have HB0 := Aside0.mk (show Below w.heap.size w W0 by rw [hW0]; exact below_alloc (Below.refl _ _) _)
  have hbx : W0.heap[w.heap.size]? = some (.cells #[.int .i64 N, .slice A1 arcs.length c1] 30 (0, 0)) := by rw [hW0]; exact blk_new _ _
  have HBX := Aside0.mk hbx
  clear hC hv hF hbx
  go_enter Try.func19, Try.ntmps19
  go_wp2_with fail
  rw [← hW0]
  refine (valid_calls (N : Int) A1 c1 arcs W0 (Kd.C_below HC.out HB0.out) hc true HV.out).mono ?_
  rintro e w2 ⟨rfl, hb2⟩
  have HB2 := Aside0.mk (below_then HB0.out HB0.out.size hb2)
  have hbx2 := blk_below HBX.out hb2
  have j0 := (blk_cell hbx2 0).trans rfl
  have j1 := (blk_cell hbx2 1).trans rfl
  obtain ⟨v1, v2, v3, v4⟩ := vdB_iff.1 HV.out
  have HG := Aside0.mk (any_good v4)
  clear hb2 hbx2 v4
  go_wp2_with fail
  refine (filled_calls N A1 c1 arcs w2 (Kd.C_below HC.out HB2.out) hc (by omega) (by omega) (by omega) HG.out k hk sum l1 d1 n1 HF.out).mono ?_
  rintro e w3 ⟨g, col3, v2, v3, v6, v7, rfl, hR3⟩
  have HR3 := Aside0.mk hR3
  clear hR3
  go_wp2
  go_ret2
  exact ⟨rfl, below_then HB2.out HB2.out.size HR3.out.bel⟩
set_option maxRecDepth 100000 in
set_option maxHeartbeats 8000000 in
theorem value_err (n : Int) (A1 : Option Addr) (c1 : Nat) (arcs : List S35) (w : World) (hC : Kd.C k35 w A1 arcs.length arcs) (hc : arcs.length ≤ c1) (hv : vdB n arcs = false) :
    Calls Try.prog 19 #[.agg #[.int .i64 n, .slice A1 arcs.length c1]] w fun e w' => e = .returned (.tuple #[.int .i64 0, .int .i64 2]) ∧ Below w.heap.size w w' := by
  have HC := Aside0.mk hC
  have HV := Aside0.mk hv
  obtain ⟨W0, hW0⟩ : ∃ W, W = w.alloc (.cells #[.int .i64 n, .slice A1 arcs.length c1] 30) := ⟨_, rfl⟩
  have HB0 := Aside0.mk (show Below w.heap.size w W0 by rw [hW0]; exact below_alloc (Below.refl _ _) _)
  clear hC hv
  go_enter Try.func19, Try.ntmps19
  go_wp2_with fail
  rw [← hW0]
  refine (valid_calls n A1 c1 arcs W0 (Kd.C_below HC.out HB0.out) hc false HV.out).mono ?_
  rintro e w2 ⟨rfl, hb2⟩
  have HB2 := Aside0.mk (below_then HB0.out HB0.out.size hb2)
  clear hb2
  go_wp2
  go_ret2
  exact ⟨rfl, HB2.out⟩
end Go.Proofs.Ytbamanjedfccpaa.HTab
namespace Go.Proofs.Ytbamanjedfccpaa.X
open Go.RowKit Go.Proofs.YtbamanjedfccpaaW.PrintWords Go.Proofs.YtbamanjedfccpaaW.PrintLast Go.Proofs.YtbamanjedfccpaaW.PrintMore Go.Proofs.Ytbamanjedfccpaa.HTab
def wax_Value.f (n : Int) (l : List S35) : Option (Int × Int) := if vdB n l = true then (fillZ fuelW (restP false n.toNat l 0 (n - 1))).map fun r => (r.1, 0) else some (0, 2)
theorem wax_Value.calls (a0_0 : Int) (A0_1 : Option Addr) (c0_1 : Nat) (l0_1 : List (S35)) (r1 r2 : Int) (w : World) (hr0_1 : Kd.C k35 w A0_1 l0_1.length l0_1) (hc0_1 : l0_1.length ≤ c0_1) (h : wax_Value.f a0_0 l0_1 = some (r1, r2)) :
    Calls Try.prog 19 #[.agg #[.int .i64 a0_0, .slice A0_1 l0_1.length c0_1]] w fun e w' => e = .returned (.tuple #[.int .i64 r1, .int .i64 r2]) ∧ Below w.heap.size w w' := by
  unfold wax_Value.f at h
  cases hv : vdB a0_0 l0_1 with
  | true =>
    rw [hv, if_pos rfl] at h
    obtain ⟨⟨s, l1, d1, n1⟩, hF, hr⟩ := Option.map_eq_some_iff.1 h
    injection hr with h1 h2
    subst h1; subst h2
    obtain ⟨N, rfl⟩ : ∃ N : Nat, a0_0 = N := ⟨a0_0.toNat, by have := vdB_iff.1 hv; omega⟩
    rw [Int.toNat_natCast] at hF
    exact value_ok N A0_1 c0_1 l0_1 w hr0_1 hc0_1 hv fuelW (by unfold fuelW; decide) s l1 d1 n1 hF
  | false =>
    rw [hv] at h
    simp only [Bool.false_eq_true, if_false] at h
    injection h with h
    injection h with h1 h2
    subst h1; subst h2
    exact value_err a0_0 A0_1 c0_1 l0_1 w hr0_1 hc0_1 hv
end Go.Proofs.Ytbamanjedfccpaa.X
end

section
set_option linter.unusedVariables false
set_option linter.unusedSimpArgs false
namespace Go.Proofs.Ytbamanjedfccpaa.X
open Go.RowKit Go.Proofs.YtbamanjedfccpaaW.PrintWords Go.Proofs.YtbamanjedfccpaaW.PrintLast Go.Proofs.YtbamanjedfccpaaW.PrintMore
attribute [local go_sem] max2_int min2_int max_two min_two max_three min_three max_four min_four   -- for this text's walks alone
set_option linter.unusedVariables false
set_option linter.unusedSimpArgs false
end Go.Proofs.Ytbamanjedfccpaa.X
end

section
set_option linter.unusedVariables false
set_option linter.unusedSimpArgs false
namespace Go.Proofs.Ytbamanjedfccpaa.HTab
open Go.RowKit Go.Proofs.YtbamanjedfccpaaW.PrintWords Go.Proofs.YtbamanjedfccpaaW.PrintLast Go.Proofs.YtbamanjedfccpaaW.PrintMore Go.Proofs.Ytbamanjedfccpaa.X
attribute [local go_sem] max2_int min2_int max_two min_two
set_option linter.unusedVariables false
set_option linter.unusedSimpArgs false
end Go.Proofs.Ytbamanjedfccpaa.HTab
namespace Go.Proofs.Ytbamanjedfccpaa.X
open Go.RowKit Go.Proofs.YtbamanjedfccpaaW.PrintWords Go.Proofs.YtbamanjedfccpaaW.PrintLast Go.Proofs.YtbamanjedfccpaaW.PrintMore Go.Proofs.Ytbamanjedfccpaa.HTab
end Go.Proofs.Ytbamanjedfccpaa.X
end
