/- Lemmas of the proof: part Bh. -/
import Derived.Test.YtbamanjedfccpaaBg
import Derived.Test.YtbamanjedfccpaaBd
import Derived.Test.YtbamanjedfccpaaBc
section
set_option linter.unusedVariables false
set_option linter.unusedSimpArgs false
namespace Go.Proofs.Ytbamanjedfccpaa.HTab
open Go.RowKit Go.Proofs.YtbamanjedfccpaaW.PrintWords Go.Proofs.YtbamanjedfccpaaW.PrintLast Go.Proofs.YtbamanjedfccpaaW.PrintMore Go.Proofs.Ytbamanjedfccpaa.X
set_option linter.unusedVariables false
set_option linter.unusedSimpArgs false
def fuelW : Nat := 100000000000
def fillZ (k : Nat) (Z : RZ) : Option (Int × List Int × List Int × List Int) := fillO Z k Z.left Z.dep Z.nxt 0
theorem any_good {N : Nat} {arcs : List S35} (h : arcs.any (badA N) = false) : Good N arcs := fun a ha => by
  have := List.any_eq_false.1 h a ha
  simp only [badA, Bool.or_eq_true, not_or, beq_iff_eq, decide_eq_true_eq] at this
  omega
theorem vdB_iff {n : Int} {arcs : List S35} : vdB n arcs = true ↔ 2 ≤ n ∧ n ≤ 40 ∧ arcs.length ≤ 160 ∧ arcs.any (badA n) = false := by
  unfold vdB
  simp [and_assoc]
def FdPost (w : World) (A1 : Option Addr) (c1 : Nat) (Z : RZ) (sum : Int) (left dep nxt : List Int) (e : Ending) (w' : World) : Prop :=
  ∃ g col v2 v3 v6 v7, e = .returned (.tuple #[.pointer (some ⟨g, 0, none⟩), .int .i64 sum]) ∧ Rs w w' g col A1 c1 v2 v3 v6 v7 (Z.dat_ left dep nxt)
set_option maxRecDepth 100000 in
set_option maxHeartbeats 8000000 in
theorem filled_calls (N : Nat) (A1 : Option Addr) (c1 : Nat) (arcs : List S35) (w : World) (hC : Kd.C k35 w A1 arcs.length arcs) (hc : arcs.length ≤ c1) (h2 : 2 ≤ N) (hN : N ≤ 1000) (hl : arcs.length ≤ 1000) (hg : Good N arcs) (k : Nat) (hk : k ≤ 1000000000000) (sum : Int) (l1 d1 n1 : List Int) (hF : fillZ k (restP false N arcs 0 ((N : Int) - 1)) = some (sum, l1, d1, n1)) :
    Calls Try.prog 52 #[.agg #[.int .i64 N, .slice A1 arcs.length c1]] w (FdPost w A1 c1 (restP false N arcs 0 ((N : Int) - 1)) sum l1 d1 n1) := by
  have HC := Aside0.mk hC
  have HG := Aside0.mk hg
  have HF := Aside0.mk hF
  have hw : Aside0 (WZ (restP false N arcs 0 ((N : Int) - 1))) := ⟨restP_WZ false N arcs 0 _ hN hl hg (by omega) (by omega)⟩
  obtain ⟨W0, hW0⟩ : ∃ W, W = w.alloc (.cells #[.int .i64 N, .slice A1 arcs.length c1] 30) := ⟨_, rfl⟩
  have HB0 := Aside0.mk (show Below w.heap.size w W0 by rw [hW0]; exact below_alloc (Below.refl _ _) _)
  clear hC hg hF
  go_enter Try.func52, Try.ntmps52
  go_wp2_with fail
  rw [← hW0]
  refine (rest_calls false N A1 c1 arcs 0 ((N : Int) - 1) W0 (Kd.C_below HC.out HB0.out) hc (by omega) hN hl HG.out).mono ?_
  rintro e w2 ⟨g, col, v2, v3, rfl, hR⟩
  have HR := Aside0.mk hR
  clear hR
  go_wp2_with fail
  refine (fill_calls HR.out hw.out k hk sum l1 d1 n1 HF.out).mono ?_
  rintro e w3 ⟨col3, v6, v7, rfl, hR3⟩
  have HR3 := Aside0.mk hR3
  clear hR3
  go_wp2
  go_ret2
  exact ⟨g, col3, v2, v3, v6, v7, rfl, HR3.out.base HB0.out HC.out⟩
set_option maxRecDepth 100000 in
set_option maxHeartbeats 8000000 in
theorem value_ok (N : Nat) (A1 : Option Addr) (c1 : Nat) (arcs : List S35) (w : World) (hC : Kd.C k35 w A1 arcs.length arcs) (hc : arcs.length ≤ c1) (hv : vdB N arcs = true) (k : Nat) (hk : k ≤ 1000000000000) (sum : Int) (l1 d1 n1 : List Int) (hF : fillZ k (restP false N arcs 0 ((N : Int) - 1)) = some (sum, l1, d1, n1)) :
    Calls Try.prog 19 #[.agg #[.int .i64 N, .slice A1 arcs.length c1]] w fun e w' => e = .returned (.tuple #[.int .i64 sum, .int .i64 0]) ∧ Below w.heap.size w w' := by
  have HC := Aside0.mk hC
  have HF := Aside0.mk hF
  have HV := Aside0.mk hv
  obtain ⟨W0, hW0⟩ : ∃ W, W = w.alloc (.cells #[.int .i64 N, .slice A1 arcs.length c1] 30) := ⟨_, rfl⟩
  have HB0 := Aside0.mk (show Below w.heap.size w W0 by rw [hW0]; exact below_alloc (Below.refl _ _) _)
  have hbx : W0.heap[w.heap.size]? = some (.cells #[.int .i64 N, .slice A1 arcs.length c1] 30 (0, 0)) := by rw [hW0]; exact blk_new _ _
  have HBX := Aside0.mk hbx
  clear hC hv hF hbx
  go_enter Try.func19, Try.ntmps19
  go_wp2_with fail
  rw [← hW0]
  refine (valid_calls (N : Int) A1 c1 arcs W0 (Kd.C_below HC.out HB0.out) hc true HV.out).mono ?_
  rintro e w2 ⟨rfl, hb2⟩
  have HB2 := Aside0.mk (below_then HB0.out HB0.out.size hb2)
  have hbx2 := blk_below HBX.out hb2
  have j0 := (blk_cell hbx2 0).trans rfl
  have j1 := (blk_cell hbx2 1).trans rfl
  obtain ⟨v1, v2, v3, v4⟩ := vdB_iff.1 HV.out
  have HG := Aside0.mk (any_good v4)
  clear hb2 hbx2 v4
  go_wp2_with fail
  refine (filled_calls N A1 c1 arcs w2 (Kd.C_below HC.out HB2.out) hc (by omega) (by omega) (by omega) HG.out k hk sum l1 d1 n1 HF.out).mono ?_
  rintro e w3 ⟨g, col3, v2, v3, v6, v7, rfl, hR3⟩
  have HR3 := Aside0.mk hR3
  clear hR3
  go_wp2
  go_ret2
  exact ⟨rfl, below_then HB2.out HB2.out.size HR3.out.bel⟩
set_option maxRecDepth 100000 in
set_option maxHeartbeats 8000000 in
theorem value_err (n : Int) (A1 : Option Addr) (c1 : Nat) (arcs : List S35) (w : World) (hC : Kd.C k35 w A1 arcs.length arcs) (hc : arcs.length ≤ c1) (hv : vdB n arcs = false) :
    Calls Try.prog 19 #[.agg #[.int .i64 n, .slice A1 arcs.length c1]] w fun e w' => e = .returned (.tuple #[.int .i64 0, .int .i64 2]) ∧ Below w.heap.size w w' := by
  have HC := Aside0.mk hC
  have HV := Aside0.mk hv
  obtain ⟨W0, hW0⟩ : ∃ W, W = w.alloc (.cells #[.int .i64 n, .slice A1 arcs.length c1] 30) := ⟨_, rfl⟩
  have HB0 := Aside0.mk (show Below w.heap.size w W0 by rw [hW0]; exact below_alloc (Below.refl _ _) _)
  clear hC hv
  go_enter Try.func19, Try.ntmps19
  go_wp2_with fail
  rw [← hW0]
  refine (valid_calls n A1 c1 arcs W0 (Kd.C_below HC.out HB0.out) hc false HV.out).mono ?_
  rintro e w2 ⟨rfl, hb2⟩
  have HB2 := Aside0.mk (below_then HB0.out HB0.out.size hb2)
  clear hb2
  go_wp2
  go_ret2
  exact ⟨rfl, HB2.out⟩
end Go.Proofs.Ytbamanjedfccpaa.HTab
namespace Go.Proofs.Ytbamanjedfccpaa.X
open Go.RowKit Go.Proofs.YtbamanjedfccpaaW.PrintWords Go.Proofs.YtbamanjedfccpaaW.PrintLast Go.Proofs.YtbamanjedfccpaaW.PrintMore Go.Proofs.Ytbamanjedfccpaa.HTab
def wax_Value.f (n : Int) (l : List S35) : Option (Int × Int) := if vdB n l = true then (fillZ fuelW (restP false n.toNat l 0 (n - 1))).map fun r => (r.1, 0) else some (0, 2)
theorem wax_Value.calls (a0_0 : Int) (A0_1 : Option Addr) (c0_1 : Nat) (l0_1 : List (S35)) (r1 r2 : Int) (w : World) (hr0_1 : Kd.C k35 w A0_1 l0_1.length l0_1) (hc0_1 : l0_1.length ≤ c0_1) (h : wax_Value.f a0_0 l0_1 = some (r1, r2)) :
    Calls Try.prog 19 #[.agg #[.int .i64 a0_0, .slice A0_1 l0_1.length c0_1]] w fun e w' => e = .returned (.tuple #[.int .i64 r1, .int .i64 r2]) ∧ Below w.heap.size w w' := by
  unfold wax_Value.f at h
  cases hv : vdB a0_0 l0_1 with
  | true =>
    rw [hv, if_pos rfl] at h
    obtain ⟨⟨s, l1, d1, n1⟩, hF, hr⟩ := Option.map_eq_some_iff.1 h
    injection hr with h1 h2
    subst h1; subst h2
    obtain ⟨N, rfl⟩ : ∃ N : Nat, a0_0 = N := ⟨a0_0.toNat, by have := vdB_iff.1 hv; omega⟩
    rw [Int.toNat_natCast] at hF
    exact value_ok N A0_1 c0_1 l0_1 w hr0_1 hc0_1 hv fuelW (by unfold fuelW; decide) s l1 d1 n1 hF
  | false =>
    rw [hv] at h
    simp only [Bool.false_eq_true, if_false] at h
    injection h with h
    injection h with h1 h2
    subst h1; subst h2
    exact value_err a0_0 A0_1 c0_1 l0_1 w hr0_1 hc0_1 hv
end Go.Proofs.Ytbamanjedfccpaa.X
end

section
set_option linter.unusedVariables false
set_option linter.unusedSimpArgs false
namespace Go.Proofs.Ytbamanjedfccpaa.X
open Go.RowKit Go.Proofs.YtbamanjedfccpaaW.PrintWords Go.Proofs.YtbamanjedfccpaaW.PrintLast Go.Proofs.YtbamanjedfccpaaW.PrintMore
attribute [local go_sem] max2_int min2_int max_two min_two max_three min_three max_four min_four   -- for this text's walks alone
set_option linter.unusedVariables false
set_option linter.unusedSimpArgs false
def wax_Net_web.f (a0_0 : Int) (l0_1 : List (S35)) : Option (Bool) := (wax_Net_valid.f a0_0 l0_1).bind fun t102 => (if t102 = true then (some (decide (a0_0 ≤ 12))) else (some false))
set_option maxHeartbeats 8000000 in
set_option maxRecDepth 100000 in
theorem wax_Net_web.calls (a0_0 : Int) (A0_1 : Option Addr) (c0_1 : Nat) (l0_1 : List (S35)) (r : Bool) (w : World) (hr0_1 : Kd.C k35 w A0_1 l0_1.length l0_1) (hc0_1 : l0_1.length ≤ c0_1) (h : wax_Net_web.f a0_0 l0_1 = some r) :
    Calls Try.prog 48 #[.agg #[.int .i64 a0_0, .slice A0_1 l0_1.length c0_1]] w fun e w' => e = .returned (.bool r) ∧ Below w.heap.size w w' := by
  have hu30 := Try.underlying30
  have HR0_1 := Aside0.mk hr0_1
  have HC0_1 := Aside0.mk hc0_1
  clear hr0_1 hc0_1
  have HB := Aside0.mk (Below.refl w.heap.size w)
  have H : ((wax_Net_valid.f a0_0 l0_1).bind fun t102 => (if t102 = true then (some (decide (a0_0 ≤ 12))) else (some false))) = some r := h
  clear h
  replace H := Option.bind_eq_some_iff.mp H
  obtain ⟨t102, A20, H⟩ := H
  replace H : (if t102 = true then (some (decide (a0_0 ≤ 12))) else (some false)) = some r := H
  have A2 := Aside0.mk A20
  clear A20
  by_cases c3 : t102 = true
  · subst c3
    have H1 : (some (decide (a0_0 ≤ 12))) = some r := by rw [if_pos rfl] at H; exact H
    clear H
    have H := H1
    clear H1
    obtain rfl := Option.some.inj H
    go_enter Try.func48, Try.ntmps48
    go_wp2_with (first | ((with_reducible refine gate_dst (N := 1) rfl ?_); refine box_event ?hg (N := 1) ?hd (cs := #[.int .i64 a0_0, .slice A0_1 l0_1.length c0_1]) (t := 30) ?hr ?_; (case hd => rfl); (case hg => rfl); (case hr => first | (go_simp; done) | (go_simp; rfl)); intro gb101 hg w4 hbox hb; have n0_ := Aside0.mk (below_step (by repeat (first | (with_reducible first | exact HB.out | apply below_alloc | apply pw_below_drewN | apply below_drew1) | exact HB.out)) hb); have n1_ := Aside0.mk (hbox); have n2_ := Aside0.mk ((by rw [hg]; exact (below_size (by repeat (first | (with_reducible first | exact HB.out | apply below_alloc | apply pw_below_drewN | apply below_drew1) | exact HB.out))) : w.heap.size ≤ gb101)); have n3_ := Aside0.mk ((by rw [hg]; exact (below_size (by repeat (first | (with_reducible first | exact HB.out | apply below_alloc | apply pw_below_drewN | apply below_drew1) | exact HB.out))) : w.heap.size ≤ gb101)); clear HB; have HB := n0_; have BK101 := n1_; have GW101 := n2_; have GE101 := n3_; clear n0_ n1_ n2_ n3_; clear hb hbox hg; have hcz5_0 : w4.cell? ⟨gb101, 0, none⟩ = some (.int .i64 a0_0) := (blk_cell BK101.out 0).trans rfl; have hcz5_1 : w4.cell? ⟨gb101, 1, none⟩ = some (.slice A0_1 l0_1.length c0_1) := (blk_cell BK101.out 1).trans rfl; have hfz5_0 := blk_frozen BK101.out 0; have hfz5_1 := blk_frozen BK101.out 1) | ((with_reducible refine gate_callee (f := 51) rfl ?_); refine goesL_ (some 4) rfl rfl Try.func51 (by kernel_rfl) rfl #[.agg #[.int .i64 a0_0, .slice A0_1 l0_1.length c0_1]] rfl (by (try simp only [List.map_toArray, List.map_cons, List.map_nil]); first | done | rfl | (simp only [List.length_drop, List.length_take]; rfl)) ?_; (with_reducible refine (wax_Net_valid.calls a0_0 _ _ l0_1 true _ ?side1 ?side2 A2.out).mono ?_); (case side1 => repeat (first | exact (Kd.C_below HR0_1.out HB.out) | (with_reducible refine Kd.C_alloc ?_ _) | (with_reducible refine Kd.C_drewN ?_ _) | (with_reducible refine Kd.C_drew ?_))); (case side2 => exact HC0_1.out); rintro e w6 ⟨rfl, hb⟩; refine ⟨_, rfl, ?_⟩; have n0_ := Aside0.mk (blk_below (g := gb101) (o := .cells #[.int .i64 a0_0, .slice A0_1 l0_1.length c0_1] 30 (0, 0)) (by (with_reducible repeat (first | refine blk_drewN ?_ _ | refine blk_drew ?_ | refine blk_alloc ?_ _)); exact BK101.out) hb); have n1_ := Aside0.mk (below_step (by repeat (first | (with_reducible first | exact HB.out | apply below_alloc | apply pw_below_drewN | apply below_drew1 | refine below_set ?_ GE101.out) | exact HB.out)) hb); clear BK101; clear HB; have BK101 := n0_; have HB := n1_; clear n0_ n1_; (try clear hb); (try clear hb2); (try clear hk); (try clear hi); have hcz7_0 : w6.cell? ⟨gb101, 0, none⟩ = some (.int .i64 a0_0) := (blk_cell BK101.out 0).trans rfl; have hcz7_1 : w6.cell? ⟨gb101, 1, none⟩ = some (.slice A0_1 l0_1.length c0_1) := (blk_cell BK101.out 1).trans rfl; have hfz7_0 := blk_frozen BK101.out 0; have hfz7_1 := blk_frozen BK101.out 1))
    go_ret
    exact ⟨by first | rfl | (simp [errW_none, errW_some] <;> rfl) | (simp [*, errW_none, errW_some] <;> rfl), by repeat (first | (with_reducible first | exact HB.out | apply below_alloc | apply pw_below_drewN | apply below_drew1 | refine below_set ?_ GE101.out) | exact HB.out)⟩
  · replace c3 := Bool.eq_false_iff.mpr c3
    subst c3
    have H1 : (some false) = some r := by rw [if_neg (show ¬ (false = true) by decide)] at H; exact H
    clear H
    have H := H1
    clear H1
    obtain rfl := Option.some.inj H
    go_enter Try.func48, Try.ntmps48
    go_wp2_with (first | ((with_reducible refine gate_dst (N := 1) rfl ?_); refine box_event ?hg (N := 1) ?hd (cs := #[.int .i64 a0_0, .slice A0_1 l0_1.length c0_1]) (t := 30) ?hr ?_; (case hd => rfl); (case hg => rfl); (case hr => first | (go_simp; done) | (go_simp; rfl)); intro gb101 hg w8 hbox hb; have n0_ := Aside0.mk (below_step (by repeat (first | (with_reducible first | exact HB.out | apply below_alloc | apply pw_below_drewN | apply below_drew1) | exact HB.out)) hb); have n1_ := Aside0.mk (hbox); have n2_ := Aside0.mk ((by rw [hg]; exact (below_size (by repeat (first | (with_reducible first | exact HB.out | apply below_alloc | apply pw_below_drewN | apply below_drew1) | exact HB.out))) : w.heap.size ≤ gb101)); have n3_ := Aside0.mk ((by rw [hg]; exact (below_size (by repeat (first | (with_reducible first | exact HB.out | apply below_alloc | apply pw_below_drewN | apply below_drew1) | exact HB.out))) : w.heap.size ≤ gb101)); clear HB; have HB := n0_; have BK101 := n1_; have GW101 := n2_; have GE101 := n3_; clear n0_ n1_ n2_ n3_; clear hb hbox hg; have hcz9_0 : w8.cell? ⟨gb101, 0, none⟩ = some (.int .i64 a0_0) := (blk_cell BK101.out 0).trans rfl; have hcz9_1 : w8.cell? ⟨gb101, 1, none⟩ = some (.slice A0_1 l0_1.length c0_1) := (blk_cell BK101.out 1).trans rfl; have hfz9_0 := blk_frozen BK101.out 0; have hfz9_1 := blk_frozen BK101.out 1) | ((with_reducible refine gate_callee (f := 51) rfl ?_); refine goesL_ (some 4) rfl rfl Try.func51 (by kernel_rfl) rfl #[.agg #[.int .i64 a0_0, .slice A0_1 l0_1.length c0_1]] rfl (by (try simp only [List.map_toArray, List.map_cons, List.map_nil]); first | done | rfl | (simp only [List.length_drop, List.length_take]; rfl)) ?_; (with_reducible refine (wax_Net_valid.calls a0_0 _ _ l0_1 false _ ?side1 ?side2 A2.out).mono ?_); (case side1 => repeat (first | exact (Kd.C_below HR0_1.out HB.out) | (with_reducible refine Kd.C_alloc ?_ _) | (with_reducible refine Kd.C_drewN ?_ _) | (with_reducible refine Kd.C_drew ?_))); (case side2 => exact HC0_1.out); rintro e w10 ⟨rfl, hb⟩; refine ⟨_, rfl, ?_⟩; have n0_ := Aside0.mk (blk_below (g := gb101) (o := .cells #[.int .i64 a0_0, .slice A0_1 l0_1.length c0_1] 30 (0, 0)) (by (with_reducible repeat (first | refine blk_drewN ?_ _ | refine blk_drew ?_ | refine blk_alloc ?_ _)); exact BK101.out) hb); have n1_ := Aside0.mk (below_step (by repeat (first | (with_reducible first | exact HB.out | apply below_alloc | apply pw_below_drewN | apply below_drew1 | refine below_set ?_ GE101.out) | exact HB.out)) hb); clear BK101; clear HB; have BK101 := n0_; have HB := n1_; clear n0_ n1_; (try clear hb); (try clear hb2); (try clear hk); (try clear hi)))
    go_ret
    exact ⟨by first | rfl | (simp [errW_none, errW_some] <;> rfl) | (simp [*, errW_none, errW_some] <;> rfl), by repeat (first | (with_reducible first | exact HB.out | apply below_alloc | apply pw_below_drewN | apply below_drew1 | refine below_set ?_ GE101.out) | exact HB.out)⟩
end Go.Proofs.Ytbamanjedfccpaa.X
end

section
set_option linter.unusedVariables false
set_option linter.unusedSimpArgs false
namespace Go.Proofs.Ytbamanjedfccpaa.HTab
open Go.RowKit Go.Proofs.YtbamanjedfccpaaW.PrintWords Go.Proofs.YtbamanjedfccpaaW.PrintLast Go.Proofs.YtbamanjedfccpaaW.PrintMore Go.Proofs.Ytbamanjedfccpaa.X
attribute [local go_sem] max2_int min2_int max_two min_two
set_option linter.unusedVariables false
set_option linter.unusedSimpArgs false
theorem web_f (n : Int) (l : List S35) : wax_Net_web.f n l = some (vdB n l && decide (n ≤ 12)) := by
  unfold wax_Net_web.f wax_Net_valid.f
  cases vdB n l <;> simp
def CutP (w : World) (a b : Int) (e : Ending) (w' : World) : Prop := e = .returned (.tuple #[.int .i64 a, .int .i64 b]) ∧ Below w.heap.size w w'
set_option maxRecDepth 100000 in
set_option maxHeartbeats 8000000 in
theorem cut_err (n : Int) (A1 : Option Addr) (c1 : Nat) (arcs : List S35) (x y : Int) (w : World) (hC : Kd.C k35 w A1 arcs.length arcs) (hc : arcs.length ≤ c1) (hv : (vdB n arcs && decide (n ≤ 12)) = false ∨ x = y ∨ x < 0 ∨ y < 0 ∨ n ≤ x ∨ n ≤ y) :
    Calls Try.prog 16 #[.agg #[.int .i64 n, .slice A1 arcs.length c1], .int .i64 x, .int .i64 y] w (CutP w 0 2) := by
  have HC := Aside0.mk hC
  obtain ⟨W0, hW0⟩ : ∃ W, W = w.alloc (.cells #[.int .i64 n, .slice A1 arcs.length c1] 30) := ⟨_, rfl⟩
  have HB0 := Aside0.mk (show Below w.heap.size w W0 by rw [hW0]; exact below_alloc (Below.refl _ _) _)
  have hbx : W0.heap[w.heap.size]? = some (.cells #[.int .i64 n, .slice A1 arcs.length c1] 30 (0, 0)) := by rw [hW0]; exact blk_new _ _
  have HBX := Aside0.mk hbx
  obtain ⟨b, hb⟩ : ∃ b, b = (vdB n arcs && decide (n ≤ 12)) := ⟨_, rfl⟩
  rw [← hb] at hv
  have HW : Aside0 (wax_Net_web.f n arcs = some b) := ⟨by rw [web_f, hb]⟩
  clear hC hbx hb
  cases b with
  | false =>
    clear hv
    go_enter Try.func16, Try.ntmps16
    go_wp2_with fail
    rw [← hW0]
    refine (wax_Net_web.calls n A1 c1 arcs false W0 (Kd.C_below HC.out HB0.out) hc HW.out).mono ?_
    rintro e w2 ⟨rfl, hb2⟩
    have HB2 := Aside0.mk (below_then HB0.out HB0.out.size hb2)
    clear hb2
    go_wp2
    go_ret2
    exact ⟨rfl, HB2.out⟩
  | true =>
    replace hv := hv.resolve_left (by simp)
    by_cases h0 : x = y
    · subst h0
      have e0 : (x == x) = true := by simp
      clear hv
      go_enter Try.func16, Try.ntmps16
      go_wp2_with fail
      rw [← hW0]
      refine (wax_Net_web.calls n A1 c1 arcs true W0 (Kd.C_below HC.out HB0.out) hc HW.out).mono ?_
      rintro e w2 ⟨rfl, hb2⟩
      have HB2 := Aside0.mk (below_then HB0.out HB0.out.size hb2)
      have hbx2 := blk_below HBX.out hb2
      have j0 := (blk_cell hbx2 0).trans rfl
      have j1 := (blk_cell hbx2 1).trans rfl
      clear hb2 hbx2
      go_wp2
      go_ret2
      exact ⟨rfl, HB2.out⟩
    have e0 : (x == y) = false := by simpa using h0
    have e0' : (x = y) = False := eq_false h0
    replace hv := hv.resolve_left h0
    rcases Int.lt_or_gt_of_ne h0 with hxy | hxy
    · have o1 : (x < y) = True := eq_true (by omega)
      have o2 : (y < x) = False := eq_false (by omega)
      have o3 : decide (x < y) = true := decide_eq_true (by omega)
      have o4 : decide (y < x) = false := decide_eq_false (by omega)
      by_cases t1 : x < 0
      · have d1 : decide (x < 0) = true := decide_eq_true t1
        have p1 : (x < 0) = True := eq_true t1
        clear hv hxy h0 t1
        go_enter Try.func16, Try.ntmps16
        go_wp2_with fail
        rw [← hW0]
        refine (wax_Net_web.calls n A1 c1 arcs true W0 (Kd.C_below HC.out HB0.out) hc HW.out).mono ?_
        rintro e w2 ⟨rfl, hb2⟩
        have HB2 := Aside0.mk (below_then HB0.out HB0.out.size hb2)
        have hbx2 := blk_below HBX.out hb2
        have j0 := (blk_cell hbx2 0).trans rfl
        have j1 := (blk_cell hbx2 1).trans rfl
        clear hb2 hbx2
        go_wp2
        go_ret2
        exact ⟨rfl, HB2.out⟩
      have t2 : n ≤ y := by omega
      have d1 : decide (x < 0) = false := decide_eq_false t1
      have p1 : (x < 0) = False := eq_false t1
      have d2 : decide (n ≤ y) = true := decide_eq_true t2
      have d3 : decide (y ≥ n) = true := decide_eq_true t2
      have p2 : (n ≤ y) = True := eq_true t2
      have p3 : (y ≥ n) = True := eq_true t2
      clear hv hxy h0 t1 t2
      go_enter Try.func16, Try.ntmps16
      go_wp2_with fail
      rw [← hW0]
      refine (wax_Net_web.calls n A1 c1 arcs true W0 (Kd.C_below HC.out HB0.out) hc HW.out).mono ?_
      rintro e w2 ⟨rfl, hb2⟩
      have HB2 := Aside0.mk (below_then HB0.out HB0.out.size hb2)
      have hbx2 := blk_below HBX.out hb2
      have j0 := (blk_cell hbx2 0).trans rfl
      have j1 := (blk_cell hbx2 1).trans rfl
      clear hb2 hbx2
      go_wp2
      go_ret2
      exact ⟨rfl, HB2.out⟩
    · have o1 : (x < y) = False := eq_false (by omega)
      have o2 : (y < x) = True := eq_true (by omega)
      have o3 : decide (x < y) = false := decide_eq_false (by omega)
      have o4 : decide (y < x) = true := decide_eq_true (by omega)
      by_cases t1 : y < 0
      · have d1 : decide (y < 0) = true := decide_eq_true t1
        have p1 : (y < 0) = True := eq_true t1
        clear hv hxy h0 t1
        go_enter Try.func16, Try.ntmps16
        go_wp2_with fail
        rw [← hW0]
        refine (wax_Net_web.calls n A1 c1 arcs true W0 (Kd.C_below HC.out HB0.out) hc HW.out).mono ?_
        rintro e w2 ⟨rfl, hb2⟩
        have HB2 := Aside0.mk (below_then HB0.out HB0.out.size hb2)
        have hbx2 := blk_below HBX.out hb2
        have j0 := (blk_cell hbx2 0).trans rfl
        have j1 := (blk_cell hbx2 1).trans rfl
        clear hb2 hbx2
        go_wp2
        go_ret2
        exact ⟨rfl, HB2.out⟩
      have t2 : n ≤ x := by omega
      have d1 : decide (y < 0) = false := decide_eq_false t1
      have p1 : (y < 0) = False := eq_false t1
      have d2 : decide (n ≤ x) = true := decide_eq_true t2
      have d3 : decide (x ≥ n) = true := decide_eq_true t2
      have p2 : (n ≤ x) = True := eq_true t2
      have p3 : (x ≥ n) = True := eq_true t2
      clear hv hxy h0 t1 t2
      go_enter Try.func16, Try.ntmps16
      go_wp2_with fail
      rw [← hW0]
      refine (wax_Net_web.calls n A1 c1 arcs true W0 (Kd.C_below HC.out HB0.out) hc HW.out).mono ?_
      rintro e w2 ⟨rfl, hb2⟩
      have HB2 := Aside0.mk (below_then HB0.out HB0.out.size hb2)
      have hbx2 := blk_below HBX.out hb2
      have j0 := (blk_cell hbx2 0).trans rfl
      have j1 := (blk_cell hbx2 1).trans rfl
      clear hb2 hbx2
      go_wp2
      go_ret2
      exact ⟨rfl, HB2.out⟩
set_option maxRecDepth 100000 in
set_option maxHeartbeats 8000000 in
theorem cut_ok (N : Nat) (A1 : Option Addr) (c1 : Nat) (arcs : List S35) (x y : Int) (w : World) (hC : Kd.C k35 w A1 arcs.length arcs) (hc : arcs.length ≤ c1) (hv : vdB N arcs = true) (h12 : N ≤ 12) (h0 : x ≠ y) (x0 : 0 ≤ x) (x1 : x < N) (y0 : 0 ≤ y) (y1 : y < N) (k : Nat) (hk : k ≤ 1000000000000) (sum : Int) (l1 d1 n1 : List Int) (hF : fillZ k (restP true N arcs x y) = some (sum, l1, d1, n1)) :
    Calls Try.prog 16 #[.agg #[.int .i64 N, .slice A1 arcs.length c1], .int .i64 x, .int .i64 y] w (CutP w sum 0) := by
  have HC := Aside0.mk hC
  have HF := Aside0.mk hF
  obtain ⟨v1, v2, v3, v4⟩ := vdB_iff.1 hv
  have HG := Aside0.mk (any_good v4)
  have hw : Aside0 (WZ (restP true N arcs x y)) := ⟨restP_WZ true N arcs x y (by omega) (by omega) HG.out ⟨x0, x1⟩ ⟨y0, y1⟩⟩
  have HL := Aside0.mk v3
  obtain ⟨W0, hW0⟩ : ∃ W, W = w.alloc (.cells #[.int .i64 N, .slice A1 arcs.length c1] 30) := ⟨_, rfl⟩
  have HB0 := Aside0.mk (show Below w.heap.size w W0 by rw [hW0]; exact below_alloc (Below.refl _ _) _)
  have hbx : W0.heap[w.heap.size]? = some (.cells #[.int .i64 N, .slice A1 arcs.length c1] 30 (0, 0)) := by rw [hW0]; exact blk_new _ _
  have HBX := Aside0.mk hbx
  have HW : Aside0 (wax_Net_web.f N arcs = some true) := ⟨by rw [web_f, hv, decide_eq_true (by omega)]; rfl⟩
  have e0 : (x == y) = false := by simpa using h0
  have e0' : (x = y) = False := eq_false h0
  clear hC hF hv v1 v2 v3 v4 hbx
  rcases Int.lt_or_gt_of_ne h0 with hxy | hxy
  · have o1 : (x < y) = True := eq_true (by omega)
    have o2 : (y < x) = False := eq_false (by omega)
    have o3 : decide (x < y) = true := decide_eq_true (by omega)
    have o4 : decide (y < x) = false := decide_eq_false (by omega)
    have d1 : decide (x < 0) = false := decide_eq_false (by omega)
    have p1 : (x < 0) = False := eq_false (by omega)
    have d2 : decide ((N : Int) ≤ y) = false := decide_eq_false (by omega)
    have d3 : decide (y ≥ (N : Int)) = false := decide_eq_false (by omega)
    have p2 : ((N : Int) ≤ y) = False := eq_false (by omega)
    have p3 : (y ≥ (N : Int)) = False := eq_false (by omega)
    clear hxy h0
    go_enter Try.func16, Try.ntmps16
    go_wp2_with fail
    rw [← hW0]
    refine (wax_Net_web.calls (N : Int) A1 c1 arcs true W0 (Kd.C_below HC.out HB0.out) hc HW.out).mono ?_
    rintro e w2 ⟨rfl, hb2⟩
    have HB2 := Aside0.mk (below_then HB0.out HB0.out.size hb2)
    have hbx2 := blk_below HBX.out hb2
    have j0 := (blk_cell hbx2 0).trans rfl
    have j1 := (blk_cell hbx2 1).trans rfl
    clear hb2 hbx2
    go_wp2_with fail
    refine (rest_calls true N A1 c1 arcs x y w2 (Kd.C_below HC.out HB2.out) hc (by omega) (by omega) (by have := HL.out; omega) HG.out).mono ?_
    rintro e w3 ⟨g, col, v2, v3, rfl, hR⟩
    have HR := Aside0.mk hR
    clear hR
    go_wp2_with fail
    refine (fill_calls HR.out hw.out k hk _ _ _ _ HF.out).mono ?_
    rintro e w4 ⟨col3, v6, v7, rfl, hR3⟩
    have HR3 := Aside0.mk hR3
    clear hR3
    go_wp2
    go_ret2
    exact ⟨rfl, below_then HB2.out HB2.out.size HR3.out.bel⟩
  · have o1 : (x < y) = False := eq_false (by omega)
    have o2 : (y < x) = True := eq_true (by omega)
    have o3 : decide (x < y) = false := decide_eq_false (by omega)
    have o4 : decide (y < x) = true := decide_eq_true (by omega)
    have d1 : decide (y < 0) = false := decide_eq_false (by omega)
    have p1 : (y < 0) = False := eq_false (by omega)
    have d2 : decide ((N : Int) ≤ x) = false := decide_eq_false (by omega)
    have d3 : decide (x ≥ (N : Int)) = false := decide_eq_false (by omega)
    have p2 : ((N : Int) ≤ x) = False := eq_false (by omega)
    have p3 : (x ≥ (N : Int)) = False := eq_false (by omega)
    clear hxy h0
    go_enter Try.func16, Try.ntmps16
    go_wp2_with fail
    rw [← hW0]
    refine (wax_Net_web.calls (N : Int) A1 c1 arcs true W0 (Kd.C_below HC.out HB0.out) hc HW.out).mono ?_
    rintro e w2 ⟨rfl, hb2⟩
    have HB2 := Aside0.mk (below_then HB0.out HB0.out.size hb2)
    have hbx2 := blk_below HBX.out hb2
    have j0 := (blk_cell hbx2 0).trans rfl
    have j1 := (blk_cell hbx2 1).trans rfl
    clear hb2 hbx2
    go_wp2_with fail
    refine (rest_calls true N A1 c1 arcs x y w2 (Kd.C_below HC.out HB2.out) hc (by omega) (by omega) (by have := HL.out; omega) HG.out).mono ?_
    rintro e w3 ⟨g, col, v2, v3, rfl, hR⟩
    have HR := Aside0.mk hR
    clear hR
    go_wp2_with fail
    refine (fill_calls HR.out hw.out k hk _ _ _ _ HF.out).mono ?_
    rintro e w4 ⟨col3, v6, v7, rfl, hR3⟩
    have HR3 := Aside0.mk hR3
    clear hR3
    go_wp2
    go_ret2
    exact ⟨rfl, below_then HB2.out HB2.out.size HR3.out.bel⟩
end Go.Proofs.Ytbamanjedfccpaa.HTab
namespace Go.Proofs.Ytbamanjedfccpaa.X
open Go.RowKit Go.Proofs.YtbamanjedfccpaaW.PrintWords Go.Proofs.YtbamanjedfccpaaW.PrintLast Go.Proofs.YtbamanjedfccpaaW.PrintMore Go.Proofs.Ytbamanjedfccpaa.HTab
def cutOk (n : Int) (l : List S35) (u v : Int) : Bool := (vdB n l && decide (n ≤ 12)) && (decide (u ≠ v) && (decide (0 ≤ u) && (decide (0 ≤ v) && (decide (u < n) && decide (v < n)))))
def wax_Cut.f (n : Int) (l : List S35) (u v : Int) : Option (Int × Int) := if cutOk n l u v = true then (fillZ fuelW (restP true n.toNat l u v)).map fun r => (r.1, 0) else some (0, 2)
theorem wax_Cut.calls (a0_0 : Int) (A0_1 : Option Addr) (c0_1 : Nat) (l0_1 : List (S35)) (a1 a2 : Int) (r1 r2 : Int) (w : World) (hr0_1 : Kd.C k35 w A0_1 l0_1.length l0_1) (hc0_1 : l0_1.length ≤ c0_1) (h : wax_Cut.f a0_0 l0_1 a1 a2 = some (r1, r2)) :
    Calls Try.prog 16 #[.agg #[.int .i64 a0_0, .slice A0_1 l0_1.length c0_1], .int .i64 a1, .int .i64 a2] w fun e w' => e = .returned (.tuple #[.int .i64 r1, .int .i64 r2]) ∧ Below w.heap.size w w' := by
  unfold wax_Cut.f at h
  cases hv : cutOk a0_0 l0_1 a1 a2 with
  | true =>
    rw [hv, if_pos rfl] at h
    obtain ⟨⟨s, l1, d1, n1⟩, hF, hr⟩ := Option.map_eq_some_iff.1 h
    injection hr with h1 h2
    subst h1; subst h2
    simp only [cutOk, Bool.and_eq_true, decide_eq_true_eq] at hv
    obtain ⟨⟨q1, q2⟩, q3, q4, q5, q6, q7⟩ := hv
    obtain ⟨N, rfl⟩ : ∃ N : Nat, a0_0 = N := ⟨a0_0.toNat, by omega⟩
    rw [Int.toNat_natCast] at hF
    exact cut_ok N A0_1 c0_1 l0_1 a1 a2 w hr0_1 hc0_1 q1 (by omega) q3 q4 q6 q5 q7 fuelW (by unfold fuelW; decide) s l1 d1 n1 hF
  | false =>
    rw [hv] at h
    simp only [Bool.false_eq_true, if_false] at h
    injection h with h
    injection h with h1 h2
    subst h1; subst h2
    refine cut_err a0_0 A0_1 c0_1 l0_1 a1 a2 w hr0_1 hc0_1 ?_
    simp only [cutOk, Bool.and_eq_false_iff, decide_eq_false_iff_not] at hv
    rcases hv with hv | hv
    · exact .inl (by rw [Bool.and_eq_false_iff, decide_eq_false_iff_not]; exact hv)
    · refine .inr ?_
      omega
end Go.Proofs.Ytbamanjedfccpaa.X
end
