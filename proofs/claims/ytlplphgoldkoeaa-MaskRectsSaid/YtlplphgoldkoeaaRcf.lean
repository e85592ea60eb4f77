/- MaskRects holds: Cell and Rect return the documented results, or the documented error, for every input. -/
import Derived.Laws.BitsLemmas
import Derived.Test.YtlplphgoldkoeaaRows
import Derived.WalkKit
import Derived.ProofKit
import Derived.OpenShut
import Derived.ShutString
import Derived.ChangeOld
import Derived.Below
import Derived.SizedLaws
import Derived.Test.YtlplphgoldkoeaaRca
import Derived.Test.YtlplphgoldkoeaaRcb
import Derived.Test.YtlplphgoldkoeaaRcc
import Derived.Test.YtlplphgoldkoeaaRcd
import Derived.Test.YtlplphgoldkoeaaRce
section
-- By a program of this session (xprint.py) that runs the print over this seat's translation.
namespace Go.Proofs.Ytlplphgoldkoeaa.X
open Go.RowKit Go.Proofs.YtlplphgoldkoeaaW.PrintWords Go.Proofs.YtlplphgoldkoeaaW.PrintLast Go.Proofs.YtlplphgoldkoeaaW.PrintMore
attribute [local go_sem] max2_int min2_int max_two min_two max_three min_three max_four min_four   -- for this text's walks alone
set_option linter.unusedVariables false
set_option linter.unusedSimpArgs false

/-! ### mask_Var: function 27 -/
def mask_Var.f (a0 : Int) (a1 : Int) : Option (Int × (List (S107)) × Int × Int) := if a0 < 0 then (some (0, ([] : List (S107)), 0, 2)) else (if a0 > 12 then (some (0, ([] : List (S107)), 0, 2)) else (if a1 < 0 then (some (0, ([] : List (S107)), 0, 2)) else (if a1 ≥ a0 then (some (0, ([] : List (S107)), 0, 2)) else (some (a0, (([(⟨a1, 0, 1⟩ : S107)] : List (S107))), 2, 0)))))
set_option maxHeartbeats 8000000 in
set_option maxRecDepth 100000 in
theorem mask_Var.calls (a0 : Int) (a1 : Int) (r1 : Int) (r2 : List (S107)) (r3 : Int) (r4 : Int) (w : World) (h : mask_Var.f a0 a1 = some (r1, r2, r3, r4)) :
    Calls Try.prog 27 #[.int .i64 a0, .int .i64 a1] w fun e w' => ∃ v1_ : Value, e = .returned (.tuple #[.agg #[.int .i64 r1, v1_, .int .i64 r3], .int .i64 r4]) ∧ Kd.R k107 107 w' w.heap.size (fun _ => True) v1_ r2 ∧ Below w.heap.size w w' := by
  have hu28 := Try.underlying28
  have hu107 := Try.underlying107
  have HB := Aside0.mk (Below.refl w.heap.size w)
  have H : (if a0 < 0 then (some (0, ([] : List (S107)), 0, 2)) else (if a0 > 12 then (some (0, ([] : List (S107)), 0, 2)) else (if a1 < 0 then (some (0, ([] : List (S107)), 0, 2)) else (if a1 ≥ a0 then (some (0, ([] : List (S107)), 0, 2)) else (some (a0, (([(⟨a1, 0, 1⟩ : S107)] : List (S107))), 2, 0)))))) = some (r1, r2, r3, r4) := h
  clear h
  by_cases c3 : a0 < 0
  · rw [if_pos c3] at H
    have c3b0 : decide (a0 < 0) = true := decide_eq_true c3
    clear c3
    simp only [Option.some.injEq, Prod.mk.injEq] at H
    obtain ⟨rfl, rfl, rfl, rfl⟩ := H
    go_enter Try.func27, Try.ntmps27
    go_wp2_with (first | ((with_reducible refine gate_dst (N := 4) rfl ?_); refine box_event ?hg (N := 4) ?hd (cs := #[.int .i64 0, .slice none 0 0, .int .i64 0]) (t := 28) ?hr ?_; (case hd => rfl); (case hg => rfl); (case hr => first | (go_simp; done) | (go_simp; rfl)); intro gb163 hg w4 hbox hb; have n0_ := Aside0.mk (below_step (by repeat (first | (with_reducible first | exact HB.out | apply below_alloc | apply pw_below_drewN | apply below_drew1) | exact HB.out)) hb); have n1_ := Aside0.mk (hbox); have n2_ := Aside0.mk ((by rw [hg]; exact (below_size (by repeat (first | (with_reducible first | exact HB.out | apply below_alloc | apply pw_below_drewN | apply below_drew1) | exact HB.out))) : w.heap.size ≤ gb163)); have n3_ := Aside0.mk ((by rw [hg]; exact (below_size (by repeat (first | (with_reducible first | exact HB.out | apply below_alloc | apply pw_below_drewN | apply below_drew1) | exact HB.out))) : w.heap.size ≤ gb163)); clear HB; have HB := n0_; have BK163 := n1_; have GW163 := n2_; have GE163 := n3_; clear n0_ n1_ n2_ n3_; clear hb hbox hg; have hcz5_0 : w4.cell? ⟨gb163, 0, none⟩ = some (.int .i64 0) := (blk_cell BK163.out 0).trans rfl; have hcz5_1 : w4.cell? ⟨gb163, 1, none⟩ = some (.slice none 0 0) := (blk_cell BK163.out 1).trans rfl; have hcz5_2 : w4.cell? ⟨gb163, 2, none⟩ = some (.int .i64 0) := (blk_cell BK163.out 2).trans rfl; have hfz5_0 := blk_frozen BK163.out 0; have hfz5_1 := blk_frozen BK163.out 1; have hfz5_2 := blk_frozen BK163.out 2))
    refine bodyPost_ret (results_ct rfl _ _ gb163 28 #[.int .i64 0, .slice none 0 0, .int .i64 0] (0, 0) _ rfl (by (with_reducible repeat (first | refine blk_drewN ?_ _ | refine blk_drew ?_ | refine blk_alloc ?_ _)); refine blk_put (cs := #[.int .i64 0, .slice none 0 0, .int .i64 0]) ?_ 2 _ rfl; (with_reducible repeat (first | refine blk_drewN ?_ _ | refine blk_drew ?_ | refine blk_alloc ?_ _)); refine blk_put (cs := #[.int .i64 0, .slice none 0 0, .int .i64 0]) ?_ 1 _ rfl; (with_reducible repeat (first | refine blk_drewN ?_ _ | refine blk_drew ?_ | refine blk_alloc ?_ _)); refine blk_put (cs := #[.int .i64 0, .slice none 0 0, .int .i64 0]) ?_ 0 _ rfl; (with_reducible repeat (first | refine blk_drewN ?_ _ | refine blk_drew ?_ | refine blk_alloc ?_ _)); exact BK163.out) Try.underlying28 rfl (by kernel_rfl)) rfl ?_
    exact ⟨_, by first | rfl | (simp [errW_none, errW_some] <;> rfl) | (simp [*, errW_none, errW_some] <;> rfl), by first | exact Kd.R_nil _ _ _ _ _ | exact Kd.N_nil _ _ _ _ _ | exact Kd.V_nil _ _ _ _ _ | exact Kd.Q_nil _ _ _ _ _ | exact Kd.S_nil _ _ _ _ _, by repeat (first | (with_reducible first | exact HB.out | apply below_alloc | apply pw_below_drewN | apply below_drew1 | refine below_set ?_ GE163.out) | exact HB.out)⟩
  · rw [if_neg c3] at H
    have c3b0 : decide (a0 < 0) = false := decide_eq_false c3
    clear c3
    by_cases c6 : a0 > 12
    · rw [if_pos c6] at H
      have c6b0 : decide (12 < a0) = true := decide_eq_true c6
      clear c6
      simp only [Option.some.injEq, Prod.mk.injEq] at H
      obtain ⟨rfl, rfl, rfl, rfl⟩ := H
      go_enter Try.func27, Try.ntmps27
      go_wp2_with (first | ((with_reducible refine gate_dst (N := 4) rfl ?_); refine box_event ?hg (N := 4) ?hd (cs := #[.int .i64 0, .slice none 0 0, .int .i64 0]) (t := 28) ?hr ?_; (case hd => rfl); (case hg => rfl); (case hr => first | (go_simp; done) | (go_simp; rfl)); intro gb163 hg w7 hbox hb; have n0_ := Aside0.mk (below_step (by repeat (first | (with_reducible first | exact HB.out | apply below_alloc | apply pw_below_drewN | apply below_drew1) | exact HB.out)) hb); have n1_ := Aside0.mk (hbox); have n2_ := Aside0.mk ((by rw [hg]; exact (below_size (by repeat (first | (with_reducible first | exact HB.out | apply below_alloc | apply pw_below_drewN | apply below_drew1) | exact HB.out))) : w.heap.size ≤ gb163)); have n3_ := Aside0.mk ((by rw [hg]; exact (below_size (by repeat (first | (with_reducible first | exact HB.out | apply below_alloc | apply pw_below_drewN | apply below_drew1) | exact HB.out))) : w.heap.size ≤ gb163)); clear HB; have HB := n0_; have BK163 := n1_; have GW163 := n2_; have GE163 := n3_; clear n0_ n1_ n2_ n3_; clear hb hbox hg; have hcz8_0 : w7.cell? ⟨gb163, 0, none⟩ = some (.int .i64 0) := (blk_cell BK163.out 0).trans rfl; have hcz8_1 : w7.cell? ⟨gb163, 1, none⟩ = some (.slice none 0 0) := (blk_cell BK163.out 1).trans rfl; have hcz8_2 : w7.cell? ⟨gb163, 2, none⟩ = some (.int .i64 0) := (blk_cell BK163.out 2).trans rfl; have hfz8_0 := blk_frozen BK163.out 0; have hfz8_1 := blk_frozen BK163.out 1; have hfz8_2 := blk_frozen BK163.out 2))
      refine bodyPost_ret (results_ct rfl _ _ gb163 28 #[.int .i64 0, .slice none 0 0, .int .i64 0] (0, 0) _ rfl (by (with_reducible repeat (first | refine blk_drewN ?_ _ | refine blk_drew ?_ | refine blk_alloc ?_ _)); refine blk_put (cs := #[.int .i64 0, .slice none 0 0, .int .i64 0]) ?_ 2 _ rfl; (with_reducible repeat (first | refine blk_drewN ?_ _ | refine blk_drew ?_ | refine blk_alloc ?_ _)); refine blk_put (cs := #[.int .i64 0, .slice none 0 0, .int .i64 0]) ?_ 1 _ rfl; (with_reducible repeat (first | refine blk_drewN ?_ _ | refine blk_drew ?_ | refine blk_alloc ?_ _)); refine blk_put (cs := #[.int .i64 0, .slice none 0 0, .int .i64 0]) ?_ 0 _ rfl; (with_reducible repeat (first | refine blk_drewN ?_ _ | refine blk_drew ?_ | refine blk_alloc ?_ _)); exact BK163.out) Try.underlying28 rfl (by kernel_rfl)) rfl ?_
      exact ⟨_, by first | rfl | (simp [errW_none, errW_some] <;> rfl) | (simp [*, errW_none, errW_some] <;> rfl), by first | exact Kd.R_nil _ _ _ _ _ | exact Kd.N_nil _ _ _ _ _ | exact Kd.V_nil _ _ _ _ _ | exact Kd.Q_nil _ _ _ _ _ | exact Kd.S_nil _ _ _ _ _, by repeat (first | (with_reducible first | exact HB.out | apply below_alloc | apply pw_below_drewN | apply below_drew1 | refine below_set ?_ GE163.out) | exact HB.out)⟩
    · rw [if_neg c6] at H
      have c6b0 : decide (12 < a0) = false := decide_eq_false c6
      clear c6
      by_cases c9 : a1 < 0
      · rw [if_pos c9] at H
        have c9b0 : decide (a1 < 0) = true := decide_eq_true c9
        clear c9
        simp only [Option.some.injEq, Prod.mk.injEq] at H
        obtain ⟨rfl, rfl, rfl, rfl⟩ := H
        go_enter Try.func27, Try.ntmps27
        go_wp2_with (first | ((with_reducible refine gate_dst (N := 4) rfl ?_); refine box_event ?hg (N := 4) ?hd (cs := #[.int .i64 0, .slice none 0 0, .int .i64 0]) (t := 28) ?hr ?_; (case hd => rfl); (case hg => rfl); (case hr => first | (go_simp; done) | (go_simp; rfl)); intro gb163 hg w10 hbox hb; have n0_ := Aside0.mk (below_step (by repeat (first | (with_reducible first | exact HB.out | apply below_alloc | apply pw_below_drewN | apply below_drew1) | exact HB.out)) hb); have n1_ := Aside0.mk (hbox); have n2_ := Aside0.mk ((by rw [hg]; exact (below_size (by repeat (first | (with_reducible first | exact HB.out | apply below_alloc | apply pw_below_drewN | apply below_drew1) | exact HB.out))) : w.heap.size ≤ gb163)); have n3_ := Aside0.mk ((by rw [hg]; exact (below_size (by repeat (first | (with_reducible first | exact HB.out | apply below_alloc | apply pw_below_drewN | apply below_drew1) | exact HB.out))) : w.heap.size ≤ gb163)); clear HB; have HB := n0_; have BK163 := n1_; have GW163 := n2_; have GE163 := n3_; clear n0_ n1_ n2_ n3_; clear hb hbox hg; have hcz11_0 : w10.cell? ⟨gb163, 0, none⟩ = some (.int .i64 0) := (blk_cell BK163.out 0).trans rfl; have hcz11_1 : w10.cell? ⟨gb163, 1, none⟩ = some (.slice none 0 0) := (blk_cell BK163.out 1).trans rfl; have hcz11_2 : w10.cell? ⟨gb163, 2, none⟩ = some (.int .i64 0) := (blk_cell BK163.out 2).trans rfl; have hfz11_0 := blk_frozen BK163.out 0; have hfz11_1 := blk_frozen BK163.out 1; have hfz11_2 := blk_frozen BK163.out 2))
        refine bodyPost_ret (results_ct rfl _ _ gb163 28 #[.int .i64 0, .slice none 0 0, .int .i64 0] (0, 0) _ rfl (by (with_reducible repeat (first | refine blk_drewN ?_ _ | refine blk_drew ?_ | refine blk_alloc ?_ _)); refine blk_put (cs := #[.int .i64 0, .slice none 0 0, .int .i64 0]) ?_ 2 _ rfl; (with_reducible repeat (first | refine blk_drewN ?_ _ | refine blk_drew ?_ | refine blk_alloc ?_ _)); refine blk_put (cs := #[.int .i64 0, .slice none 0 0, .int .i64 0]) ?_ 1 _ rfl; (with_reducible repeat (first | refine blk_drewN ?_ _ | refine blk_drew ?_ | refine blk_alloc ?_ _)); refine blk_put (cs := #[.int .i64 0, .slice none 0 0, .int .i64 0]) ?_ 0 _ rfl; (with_reducible repeat (first | refine blk_drewN ?_ _ | refine blk_drew ?_ | refine blk_alloc ?_ _)); exact BK163.out) Try.underlying28 rfl (by kernel_rfl)) rfl ?_
        exact ⟨_, by first | rfl | (simp [errW_none, errW_some] <;> rfl) | (simp [*, errW_none, errW_some] <;> rfl), by first | exact Kd.R_nil _ _ _ _ _ | exact Kd.N_nil _ _ _ _ _ | exact Kd.V_nil _ _ _ _ _ | exact Kd.Q_nil _ _ _ _ _ | exact Kd.S_nil _ _ _ _ _, by repeat (first | (with_reducible first | exact HB.out | apply below_alloc | apply pw_below_drewN | apply below_drew1 | refine below_set ?_ GE163.out) | exact HB.out)⟩
      · rw [if_neg c9] at H
        have c9b0 : decide (a1 < 0) = false := decide_eq_false c9
        clear c9
        by_cases c12 : a1 ≥ a0
        · rw [if_pos c12] at H
          have c12b0 : decide (a0 ≤ a1) = true := decide_eq_true c12
          clear c12
          simp only [Option.some.injEq, Prod.mk.injEq] at H
          obtain ⟨rfl, rfl, rfl, rfl⟩ := H
          go_enter Try.func27, Try.ntmps27
          go_wp2_with (first | ((with_reducible refine gate_dst (N := 4) rfl ?_); refine box_event ?hg (N := 4) ?hd (cs := #[.int .i64 0, .slice none 0 0, .int .i64 0]) (t := 28) ?hr ?_; (case hd => rfl); (case hg => rfl); (case hr => first | (go_simp; done) | (go_simp; rfl)); intro gb163 hg w13 hbox hb; have n0_ := Aside0.mk (below_step (by repeat (first | (with_reducible first | exact HB.out | apply below_alloc | apply pw_below_drewN | apply below_drew1) | exact HB.out)) hb); have n1_ := Aside0.mk (hbox); have n2_ := Aside0.mk ((by rw [hg]; exact (below_size (by repeat (first | (with_reducible first | exact HB.out | apply below_alloc | apply pw_below_drewN | apply below_drew1) | exact HB.out))) : w.heap.size ≤ gb163)); have n3_ := Aside0.mk ((by rw [hg]; exact (below_size (by repeat (first | (with_reducible first | exact HB.out | apply below_alloc | apply pw_below_drewN | apply below_drew1) | exact HB.out))) : w.heap.size ≤ gb163)); clear HB; have HB := n0_; have BK163 := n1_; have GW163 := n2_; have GE163 := n3_; clear n0_ n1_ n2_ n3_; clear hb hbox hg; have hcz14_0 : w13.cell? ⟨gb163, 0, none⟩ = some (.int .i64 0) := (blk_cell BK163.out 0).trans rfl; have hcz14_1 : w13.cell? ⟨gb163, 1, none⟩ = some (.slice none 0 0) := (blk_cell BK163.out 1).trans rfl; have hcz14_2 : w13.cell? ⟨gb163, 2, none⟩ = some (.int .i64 0) := (blk_cell BK163.out 2).trans rfl; have hfz14_0 := blk_frozen BK163.out 0; have hfz14_1 := blk_frozen BK163.out 1; have hfz14_2 := blk_frozen BK163.out 2))
          refine bodyPost_ret (results_ct rfl _ _ gb163 28 #[.int .i64 0, .slice none 0 0, .int .i64 0] (0, 0) _ rfl (by (with_reducible repeat (first | refine blk_drewN ?_ _ | refine blk_drew ?_ | refine blk_alloc ?_ _)); refine blk_put (cs := #[.int .i64 0, .slice none 0 0, .int .i64 0]) ?_ 2 _ rfl; (with_reducible repeat (first | refine blk_drewN ?_ _ | refine blk_drew ?_ | refine blk_alloc ?_ _)); refine blk_put (cs := #[.int .i64 0, .slice none 0 0, .int .i64 0]) ?_ 1 _ rfl; (with_reducible repeat (first | refine blk_drewN ?_ _ | refine blk_drew ?_ | refine blk_alloc ?_ _)); refine blk_put (cs := #[.int .i64 0, .slice none 0 0, .int .i64 0]) ?_ 0 _ rfl; (with_reducible repeat (first | refine blk_drewN ?_ _ | refine blk_drew ?_ | refine blk_alloc ?_ _)); exact BK163.out) Try.underlying28 rfl (by kernel_rfl)) rfl ?_
          exact ⟨_, by first | rfl | (simp [errW_none, errW_some] <;> rfl) | (simp [*, errW_none, errW_some] <;> rfl), by first | exact Kd.R_nil _ _ _ _ _ | exact Kd.N_nil _ _ _ _ _ | exact Kd.V_nil _ _ _ _ _ | exact Kd.Q_nil _ _ _ _ _ | exact Kd.S_nil _ _ _ _ _, by repeat (first | (with_reducible first | exact HB.out | apply below_alloc | apply pw_below_drewN | apply below_drew1 | refine below_set ?_ GE163.out) | exact HB.out)⟩
        · rw [if_neg c12] at H
          have c12b0 : decide (a0 ≤ a1) = false := decide_eq_false c12
          clear c12
          obtain ⟨y164, hy164⟩ : ∃ y_ : List (S107), y_ = (([(⟨a1, 0, 1⟩ : S107)] : List (S107))) := ⟨_, rfl⟩
          replace H : (some (a0, y164, 2, 0)) = some (r1, r2, r3, r4) := by first | (rw [hy164]; with_reducible exact H) | (have H2_ := (Option.bind_some _ _).symm.trans H; rw [hy164]; with_reducible exact H2_) | (have H2_ := (Option.bind_some _ _).symm.trans H; with_reducible exact H2_) | with_reducible exact H | (rw [hy164]; exact H) | exact H
          have Ny164 := Aside0.mk hy164
          clear hy164
          simp only [Option.some.injEq, Prod.mk.injEq] at H
          obtain ⟨rfl, rfl, rfl, rfl⟩ := H
          go_enter Try.func27, Try.ntmps27
          go_wp2_with (first | ((with_reducible refine gate_dst (N := 4) rfl ?_); refine box_event ?hg (N := 4) ?hd (cs := #[.int .i64 0, .slice none 0 0, .int .i64 0]) (t := 28) ?hr ?_; (case hd => rfl); (case hg => rfl); (case hr => first | (go_simp; done) | (go_simp; rfl)); intro gb163 hg w15 hbox hb; have n0_ := Aside0.mk (below_step (by repeat (first | (with_reducible first | exact HB.out | apply below_alloc | apply pw_below_drewN | apply below_drew1) | exact HB.out)) hb); have n1_ := Aside0.mk (hbox); have n2_ := Aside0.mk ((by rw [hg]; exact (below_size (by repeat (first | (with_reducible first | exact HB.out | apply below_alloc | apply pw_below_drewN | apply below_drew1) | exact HB.out))) : w.heap.size ≤ gb163)); have n3_ := Aside0.mk ((by rw [hg]; exact (below_size (by repeat (first | (with_reducible first | exact HB.out | apply below_alloc | apply pw_below_drewN | apply below_drew1) | exact HB.out))) : w.heap.size ≤ gb163)); clear HB; have HB := n0_; have BK163 := n1_; have GW163 := n2_; have GE163 := n3_; clear n0_ n1_ n2_ n3_; clear hb hbox hg) | ((with_reducible refine gate_dst (N := 25) rfl ?_); refine Kd.R_lit k107 _ 107 ?hg (N := 25) ?hd (xs := ([(⟨a1, 0, 1⟩ : S107)] : List (S107))) (inner := [.int .i64 a1, .int .i64 0, .int .i64 1]) (ok := fun _ => True) (okp := fun _ => True) ?hr ?hp (fun _ hk => hk) trivial (Below.refl _ _) (Nat.le_refl _) (by simp) ?_; (case hd => rfl); (case hg => rfl); (case hr => first | (go_simp; done) | (go_simp; rfl)); (case hp => exact (Reps.c3 (show Kd.M k107 _ _ _ (⟨a1, 0, 1⟩ : S107) [.int .i64 a1, .int .i64 0, .int .i64 1] from (k107_mkM _ _ _ (⟨a1, 0, 1⟩ : S107) )) (Reps.none _ _))); intro v165 w16 ho17 hb hg_ hnew_; clear hg_ hnew_; (first | rw [← Ny164.out] at ho17 | (simp only [Int.reduceToNat] at ho17; rw [← Ny164.out] at ho17)); have n0_ := Aside0.mk (Kd.R_lower ho17 (below_size (by repeat (first | (with_reducible first | exact HB.out | apply below_alloc | apply pw_below_drewN | apply below_drew1 | refine below_set ?_ GE163.out) | exact HB.out)))); have n1_ := Aside0.mk (blk_below (g := gb163) (o := .cells #[.int .i64 0, .slice none 0 0, .int .i64 0] 28 (0, 0)) (by (with_reducible repeat (first | refine blk_drewN ?_ _ | refine blk_drew ?_ | refine blk_alloc ?_ _)); exact BK163.out) hb); have n2_ := Aside0.mk (below_step (by repeat (first | (with_reducible first | exact HB.out | apply below_alloc | apply pw_below_drewN | apply below_drew1 | refine below_set ?_ GE163.out) | exact HB.out)) hb); clear BK163; clear HB; have HO166 := n0_; have BK163 := n1_; have HB := n2_; clear n0_ n1_ n2_; clear hb ho17; obtain ⟨Ao18, co18, eo18⟩ := Kd.R_slice HO166.out; subst eo18; have hcz19_0 : w16.cell? ⟨gb163, 0, none⟩ = some (.int .i64 0) := (blk_cell BK163.out 0).trans rfl; have hcz19_1 : w16.cell? ⟨gb163, 1, none⟩ = some (.slice none 0 0) := (blk_cell BK163.out 1).trans rfl; have hcz19_2 : w16.cell? ⟨gb163, 2, none⟩ = some (.int .i64 0) := (blk_cell BK163.out 2).trans rfl; have hfz19_0 := blk_frozen BK163.out 0; have hfz19_1 := blk_frozen BK163.out 1; have hfz19_2 := blk_frozen BK163.out 2))
          refine bodyPost_ret (results_ct rfl _ _ gb163 28 #[.int .i64 a0, .slice Ao18 y164.length co18, .int .i64 2] (0, 0) _ rfl (by (with_reducible repeat (first | refine blk_drewN ?_ _ | refine blk_drew ?_ | refine blk_alloc ?_ _)); refine blk_put (cs := #[.int .i64 a0, .slice Ao18 y164.length co18, .int .i64 0]) ?_ 2 _ rfl; (with_reducible repeat (first | refine blk_drewN ?_ _ | refine blk_drew ?_ | refine blk_alloc ?_ _)); refine blk_put (cs := #[.int .i64 a0, .slice none 0 0, .int .i64 0]) ?_ 1 _ rfl; (with_reducible repeat (first | refine blk_drewN ?_ _ | refine blk_drew ?_ | refine blk_alloc ?_ _)); refine blk_put (cs := #[.int .i64 0, .slice none 0 0, .int .i64 0]) ?_ 0 _ rfl; (with_reducible repeat (first | refine blk_drewN ?_ _ | refine blk_drew ?_ | refine blk_alloc ?_ _)); exact BK163.out) Try.underlying28 rfl (by kernel_rfl)) rfl ?_
          exact ⟨_, by first | rfl | (simp [errW_none, errW_some] <;> rfl) | (simp [*, errW_none, errW_some] <;> rfl), by (with_reducible repeat (first | apply Kd.R_alloc | apply Kd.R_drewN | apply Kd.R_drew)); exact Kd.R_mono (Kd.R_far (p := ⟨gb163, 2, none⟩) (Kd.R_far (p := ⟨gb163, 1, none⟩) (Kd.R_far (p := ⟨gb163, 0, none⟩) (Kd.R_types HO166.out BK163.out (by decide)) (fun _ hk => hk.2) (.int .i64 a0)) (fun _ hk => hk.2) (.slice Ao18 y164.length co18)) (fun _ hk => hk.2) (.int .i64 2)) (fun _ hk => trivial), by repeat (first | (with_reducible first | exact HB.out | apply below_alloc | apply pw_below_drewN | apply below_drew1 | refine below_set ?_ GE163.out) | exact HB.out)⟩

end Go.Proofs.Ytlplphgoldkoeaa.X

end

section
-- By a program of this session (xprint.py) that runs the print over this seat's translation.
namespace Go.Proofs.Ytlplphgoldkoeaa.X
open Go.RowKit Go.Proofs.YtlplphgoldkoeaaW.PrintWords Go.Proofs.YtlplphgoldkoeaaW.PrintLast Go.Proofs.YtlplphgoldkoeaaW.PrintMore
attribute [local go_sem] max2_int min2_int max_two min_two max_three min_three max_four min_four   -- for this text's walks alone
set_option linter.unusedVariables false
set_option linter.unusedSimpArgs false

/-! ### cantinglaw02_awake: function 24 -/
def cantinglaw02_awake.f (k : Nat)  : Option (Bool) := (mask_Var.f 2 0).bind fun bt167 => (if bt167.2.2.2 = 0 then ((cantinglaw02_own.f k bt167.1 bt167.2.1 bt167.2.2.1).bind fun bt174 => ((cantingref02_Same.f k bt174.1 bt174.2.1 bt174.2.2 2 (([(⟨0, 0, 1⟩ : S106)] : List (S106))) 2).bind fun t182 => (some t182))) else (some false))
theorem cantinglaw02_awake.mono : ∀ k, LeO (cantinglaw02_awake.f k ) (cantinglaw02_awake.f (k + 1) ) := by
  intro  k
  unfold cantinglaw02_awake.f
  repeat' first
      | (with_reducible exact cantinglaw02_own.mono _ _ _ _)
      | (with_reducible exact cantingref02_Same.mono _ _ _ _ _ _ _)
      | (with_reducible exact LeO.refl _)
      | (with_reducible exact LeO.none _)
      | (with_reducible refine LeO.ite ?_ ?_)
      | (with_reducible refine LeO.bind ?_ (fun _ => ?_))
      | exact cantinglaw02_own.mono _ _ _ _
      | exact cantingref02_Same.mono _ _ _ _ _ _ _
      | exact LeO.none _
      | refine LeO.ite ?_ ?_
      | refine LeO.bind ?_ (fun _ => ?_)
set_option maxHeartbeats 8000000 in
set_option maxRecDepth 100000 in
theorem cantinglaw02_awake.calls (k : Nat)  (r : Bool) (w : World) (h : cantinglaw02_awake.f k  = some r) :
    Calls Try.prog 24 #[] w fun e w' => e = .returned (.bool r) ∧ Below w.heap.size w w' := by
  have hu28 := Try.underlying28
  have hu106 := Try.underlying106
  have hu33 := Try.underlying33
  have HB := Aside0.mk (Below.refl w.heap.size w)
  have H : ((mask_Var.f 2 0).bind fun bt167 => (if bt167.2.2.2 = 0 then ((cantinglaw02_own.f k bt167.1 bt167.2.1 bt167.2.2.1).bind fun bt174 => ((cantingref02_Same.f k bt174.1 bt174.2.1 bt174.2.2 2 (([(⟨0, 0, 1⟩ : S106)] : List (S106))) 2).bind fun t182 => (some t182))) else (some false))) = some r := h
  clear h
  replace H := Option.bind_eq_some_iff.mp H
  obtain ⟨⟨t167, t168, t171, t172⟩, A10, H⟩ := H
  replace H : (if t172 = 0 then ((cantinglaw02_own.f k t167 t168 t171).bind fun bt174 => ((cantingref02_Same.f k bt174.1 bt174.2.1 bt174.2.2 2 (([(⟨0, 0, 1⟩ : S106)] : List (S106))) 2).bind fun t182 => (some t182))) else (some false)) = some r := H
  have A1 := Aside0.mk A10
  clear A10
  by_cases c2 : t172 = 0
  · rw [if_pos c2] at H
    have c2b0 : (t172 == 0) = true := beq_iff_eq.mpr c2
    have c2b1 : (t172 != 0) = false := bne_eq_false_iff_eq.mpr c2
    clear c2
    replace H := Option.bind_eq_some_iff.mp H
    obtain ⟨⟨t174, t175, t178⟩, A30, H⟩ := H
    replace H : ((cantingref02_Same.f k t174 t175 t178 2 (([(⟨0, 0, 1⟩ : S106)] : List (S106))) 2).bind fun t182 => (some t182)) = some r := H
    have A3 := Aside0.mk A30
    clear A30
    obtain ⟨y179, hy179⟩ : ∃ y_ : List (S106), y_ = (([(⟨0, 0, 1⟩ : S106)] : List (S106))) := ⟨_, rfl⟩
    replace H : ((cantingref02_Same.f k t174 t175 t178 2 y179 2).bind fun t182 => (some t182)) = some r := by first | (rw [hy179]; with_reducible exact H) | (have H2_ := (Option.bind_some _ _).symm.trans H; rw [hy179]; with_reducible exact H2_) | (have H2_ := (Option.bind_some _ _).symm.trans H; with_reducible exact H2_) | with_reducible exact H | (rw [hy179]; exact H) | exact H
    have Ny179 := Aside0.mk hy179
    clear hy179
    replace H := Option.bind_eq_some_iff.mp H
    obtain ⟨t182, A40, H⟩ := H
    replace H : (some t182) = some r := H
    have A4 := Aside0.mk A40
    clear A40
    obtain rfl := Option.some.inj H
    go_enter Try.func24, Try.ntmps24
    go_wp2_with (first | ((with_reducible refine gate_callee (f := 27) rfl ?_); refine goesL_ (some 4) rfl rfl Try.func27 (by kernel_rfl) rfl #[.int .i64 2, .int .i64 0] rfl (by (try simp only [List.map_toArray, List.map_cons, List.map_nil]); first | done | rfl | (simp only [List.length_drop, List.length_take]; rfl)) ?_; (with_reducible refine (mask_Var.calls 2 0 t167 t168 t171 t172 _ A1.out).mono ?_); rintro e w5 ⟨v169, rfl, ho0, hb⟩; refine ⟨_, rfl, ?_⟩; have n0_ := Aside0.mk (Kd.R_lower ho0 (below_size (by repeat (first | (with_reducible first | exact HB.out | apply below_alloc | apply pw_below_drewN | apply below_drew1) | exact HB.out)))); have n1_ := Aside0.mk (below_step (by repeat (first | (with_reducible first | exact HB.out | apply below_alloc | apply pw_below_drewN | apply below_drew1) | exact HB.out)) hb); clear HB; have HO170 := n0_; have HB := n1_; clear n0_ n1_; (try clear hb); (try clear hb2); (try clear hk); (try clear hi); (try clear ho0)) | ((with_reducible refine gate_dst (N := 1) rfl ?_); (try (refine gate_guard (by rfl) ?_; dsimp only)); refine box_event ?hg (N := 1) ?hd (cs := #[.int .i64 0, .slice none 0 0, .int .i64 0]) (t := 28) ?hr ?_; (case hd => rfl); (case hg => rfl); (case hr => first | (go_simp; done) | (go_simp; rfl)); intro gb173 hg w6 hbox hb; have n0_ := Aside0.mk (Kd.R_below (by (with_reducible repeat (first | apply Kd.R_alloc | apply Kd.R_drewN | apply Kd.R_drew)); exact HO170.out) hb); have n1_ := Aside0.mk (below_step (by repeat (first | (with_reducible first | exact HB.out | apply below_alloc | apply pw_below_drewN | apply below_drew1) | exact HB.out)) hb); have n2_ := Aside0.mk (hbox); have n3_ := Aside0.mk ((by rw [hg]; exact (below_size (by repeat (first | (with_reducible first | exact HB.out | apply below_alloc | apply pw_below_drewN | apply below_drew1) | exact HB.out))) : w.heap.size ≤ gb173)); have n4_ := Aside0.mk ((by rw [hg]; exact (below_size (by repeat (first | (with_reducible first | exact HB.out | apply below_alloc | apply pw_below_drewN | apply below_drew1) | exact HB.out))) : w.heap.size ≤ gb173)); clear HO170; clear HB; have HO170 := n0_; have HB := n1_; have BK173 := n2_; have GW173 := n3_; have GE173 := n4_; clear n0_ n1_ n2_ n3_ n4_; clear hb hbox hg; have hcz7_0 : w6.cell? ⟨gb173, 0, none⟩ = some (.int .i64 0) := (blk_cell BK173.out 0).trans rfl; have hcz7_1 : w6.cell? ⟨gb173, 1, none⟩ = some (.slice none 0 0) := (blk_cell BK173.out 1).trans rfl; have hcz7_2 : w6.cell? ⟨gb173, 2, none⟩ = some (.int .i64 0) := (blk_cell BK173.out 2).trans rfl; have hfz7_0 := blk_frozen BK173.out 0; have hfz7_1 := blk_frozen BK173.out 1; have hfz7_2 := blk_frozen BK173.out 2; obtain ⟨Ao8, co8, eo8⟩ := Kd.R_slice HO170.out; subst eo8) | (go_at_call 37; (with_reducible refine (cantinglaw02_own.calls k t167 _ _ t168 t171 t174 t175 t178 _ ?side1 ?side2 A3.out).mono ?_); (case side1 => refine (Kd.R_reads' (e := 107) (base := w.heap.size) (ok := fun k_ => True) (n := t168.length) (c := co8) ?_).2.2; exact (by (with_reducible repeat (first | apply Kd.R_alloc | apply Kd.R_drewN | apply Kd.R_drew)); exact (Kd.R_mono (Kd.R_far (p := ⟨gb173, 2, none⟩) (Kd.R_far (p := ⟨gb173, 1, none⟩) (Kd.R_far (p := ⟨gb173, 0, none⟩) (Kd.R_types HO170.out BK173.out (by decide)) (fun _ hk => hk.2) (.int .i64 t167)) (fun _ hk => hk.2) (.slice Ao8 t168.length co8)) (fun _ hk => hk.2) (.int .i64 t171)) (fun _ h_ => h_.1)))); (case side2 => exact (Kd.R_reads' HO170.out).2.1); rintro e w9 ⟨v176, rfl, ho0, hb⟩; have n0_ := Aside0.mk (Kd.R_below (by (with_reducible repeat (first | apply Kd.R_alloc | apply Kd.R_drewN | apply Kd.R_drew)); exact (Kd.R_mono (Kd.R_far (p := ⟨gb173, 2, none⟩) (Kd.R_far (p := ⟨gb173, 1, none⟩) (Kd.R_far (p := ⟨gb173, 0, none⟩) (Kd.R_types HO170.out BK173.out (by decide)) (fun _ hk => hk.2) (.int .i64 t167)) (fun _ hk => hk.2) (.slice Ao8 t168.length co8)) (fun _ hk => hk.2) (.int .i64 t171)) (fun _ h_ => h_.1))) hb); have n1_ := Aside0.mk (Kd.R_lower ho0 (below_size (by repeat (first | (with_reducible first | exact HB.out | apply below_alloc | apply pw_below_drewN | apply below_drew1 | refine below_set ?_ GE173.out) | exact HB.out)))); have n2_ := Aside0.mk (blk_below (g := gb173) (o := .cells #[.int .i64 t167, .slice Ao8 t168.length co8, .int .i64 t171] 28 (0, 0)) (by (with_reducible repeat (first | refine blk_drewN ?_ _ | refine blk_drew ?_ | refine blk_alloc ?_ _)); refine blk_put (cs := #[.int .i64 t167, .slice Ao8 t168.length co8, .int .i64 0]) ?_ 2 _ rfl; (with_reducible repeat (first | refine blk_drewN ?_ _ | refine blk_drew ?_ | refine blk_alloc ?_ _)); refine blk_put (cs := #[.int .i64 t167, .slice none 0 0, .int .i64 0]) ?_ 1 _ rfl; (with_reducible repeat (first | refine blk_drewN ?_ _ | refine blk_drew ?_ | refine blk_alloc ?_ _)); refine blk_put (cs := #[.int .i64 0, .slice none 0 0, .int .i64 0]) ?_ 0 _ rfl; (with_reducible repeat (first | refine blk_drewN ?_ _ | refine blk_drew ?_ | refine blk_alloc ?_ _)); exact BK173.out) hb); have n3_ := Aside0.mk (below_step (by repeat (first | (with_reducible first | exact HB.out | apply below_alloc | apply pw_below_drewN | apply below_drew1 | refine below_set ?_ GE173.out) | exact HB.out)) hb); clear HO170; clear BK173; clear HB; have HO170 := n0_; have HO177 := n1_; have BK173 := n2_; have HB := n3_; clear n0_ n1_ n2_ n3_; (try clear hb); (try clear hb2); (try clear hk); (try clear hi); (try clear ho0)) | ((with_reducible refine gate_dst (N := 13) rfl ?_); (try (refine gate_guard (by rfl) ?_; dsimp only)); refine Kd.R_lit k106 _ 106 ?hg (N := 13) ?hd (xs := ([(⟨0, 0, 1⟩ : S106)] : List (S106))) (inner := [.int .i64 0, .int .i64 0, .int .i64 1]) (ok := fun _ => True) (okp := fun _ => True) ?hr ?hp (fun _ hk => hk) trivial (Below.refl _ _) (Nat.le_refl _) (by simp) ?_; (case hd => rfl); (case hg => rfl); (case hr => first | (go_simp; done) | (go_simp; rfl)); (case hp => exact (Reps.c3 (show Kd.M k106 _ _ _ (⟨0, 0, 1⟩ : S106) [.int .i64 0, .int .i64 0, .int .i64 1] from (k106_mkM _ _ _ (⟨0, 0, 1⟩ : S106) )) (Reps.none _ _))); intro v180 w10 ho11 hb hg_ hnew_; clear hg_ hnew_; (first | rw [← Ny179.out] at ho11 | (simp only [Int.reduceToNat] at ho11; rw [← Ny179.out] at ho11)); have n0_ := Aside0.mk (Kd.R_below (by (with_reducible repeat (first | apply Kd.R_alloc | apply Kd.R_drewN | apply Kd.R_drew)); exact HO170.out) hb); have n1_ := Aside0.mk (Kd.R_elder' (by (with_reducible repeat (first | apply Kd.R_alloc | apply Kd.R_drewN | apply Kd.R_drew)); exact HO177.out) (Kd.R_base ho11) hb); have n2_ := Aside0.mk (Kd.R_lower (Kd.R_new' ho11 (Kd.R_lt (by (with_reducible repeat (first | apply Kd.R_alloc | apply Kd.R_drewN | apply Kd.R_drew)); exact HO177.out))) (below_size (by repeat (first | (with_reducible first | exact HB.out | apply below_alloc | apply pw_below_drewN | apply below_drew1 | refine below_set ?_ GE173.out) | exact HB.out)))); have n3_ := Aside0.mk (blk_below (g := gb173) (o := .cells #[.int .i64 t167, .slice Ao8 t168.length co8, .int .i64 t171] 28 (0, 0)) (by (with_reducible repeat (first | refine blk_drewN ?_ _ | refine blk_drew ?_ | refine blk_alloc ?_ _)); exact BK173.out) hb); have n4_ := Aside0.mk (below_step (by repeat (first | (with_reducible first | exact HB.out | apply below_alloc | apply pw_below_drewN | apply below_drew1 | refine below_set ?_ GE173.out) | exact HB.out)) hb); clear HO170; clear HO177; clear BK173; clear HB; have HO170 := n0_; have HO177 := n1_; have HO181 := n2_; have BK173 := n3_; have HB := n4_; clear n0_ n1_ n2_ n3_ n4_; clear hb ho11; obtain ⟨Ao12, co12, eo12⟩ := Kd.R_slice HO181.out; subst eo12; obtain ⟨Ao13, co13, eo13⟩ := Kd.R_slice HO177.out; subst eo13) | (go_at_call 36; (with_reducible refine (cantingref02_Same.calls k t174 _ _ t175 t178 2 _ _ y179 2 t182 _ ?side1 ?side2 ?side3 ?side4 A4.out).mono ?_); (case side1 => repeat (first | exact (Kd.R_reads' HO177.out).2.2 | (with_reducible refine Kd.C_alloc ?_ _) | (with_reducible refine Kd.C_drewN ?_ _) | (with_reducible refine Kd.C_drew ?_))); (case side2 => exact (Kd.R_reads' HO177.out).2.1); (case side3 => repeat (first | exact (Kd.R_reads' HO181.out).2.2 | (with_reducible refine Kd.C_alloc ?_ _) | (with_reducible refine Kd.C_drewN ?_ _) | (with_reducible refine Kd.C_drew ?_))); (case side4 => exact (Kd.R_reads' HO181.out).2.1); rintro e w14 ⟨rfl, hb⟩; have n0_ := Aside0.mk (Kd.R_below (by (with_reducible repeat (first | apply Kd.R_alloc | apply Kd.R_drewN | apply Kd.R_drew)); exact HO170.out) hb); have n1_ := Aside0.mk (Kd.R_below (by (with_reducible repeat (first | apply Kd.R_alloc | apply Kd.R_drewN | apply Kd.R_drew)); exact HO177.out) hb); have n2_ := Aside0.mk (Kd.R_below (by (with_reducible repeat (first | apply Kd.R_alloc | apply Kd.R_drewN | apply Kd.R_drew)); exact HO181.out) hb); have n3_ := Aside0.mk (blk_below (g := gb173) (o := .cells #[.int .i64 t167, .slice Ao8 t168.length co8, .int .i64 t171] 28 (0, 0)) (by (with_reducible repeat (first | refine blk_drewN ?_ _ | refine blk_drew ?_ | refine blk_alloc ?_ _)); exact BK173.out) hb); have n4_ := Aside0.mk (below_step (by repeat (first | (with_reducible first | exact HB.out | apply below_alloc | apply pw_below_drewN | apply below_drew1 | refine below_set ?_ GE173.out) | exact HB.out)) hb); clear HO170; clear HO177; clear HO181; clear BK173; clear HB; have HO170 := n0_; have HO177 := n1_; have HO181 := n2_; have BK173 := n3_; have HB := n4_; clear n0_ n1_ n2_ n3_ n4_; (try clear hb); (try clear hb2); (try clear hk); (try clear hi)))
    go_ret
    exact ⟨by first | rfl | (simp [errW_none, errW_some] <;> rfl) | (simp [*, errW_none, errW_some] <;> rfl), by repeat (first | (with_reducible first | exact HB.out | apply below_alloc | apply pw_below_drewN | apply below_drew1 | refine below_set ?_ GE173.out) | exact HB.out)⟩
  · rw [if_neg c2] at H
    have c2b0 : (t172 == 0) = false := beq_eq_false_iff_ne.mpr c2
    have c2b1 : (t172 != 0) = true := bne_iff_ne.mpr c2
    obtain rfl := Option.some.inj H
    go_enter Try.func24, Try.ntmps24
    go_wp2_with (first | ((with_reducible refine gate_callee (f := 27) rfl ?_); refine goesL_ (some 4) rfl rfl Try.func27 (by kernel_rfl) rfl #[.int .i64 2, .int .i64 0] rfl (by (try simp only [List.map_toArray, List.map_cons, List.map_nil]); first | done | rfl | (simp only [List.length_drop, List.length_take]; rfl)) ?_; (with_reducible refine (mask_Var.calls 2 0 t167 t168 t171 t172 _ A1.out).mono ?_); rintro e w15 ⟨v169, rfl, ho0, hb⟩; refine ⟨_, rfl, ?_⟩; have n0_ := Aside0.mk (Kd.R_lower ho0 (below_size (by repeat (first | (with_reducible first | exact HB.out | apply below_alloc | apply pw_below_drewN | apply below_drew1) | exact HB.out)))); have n1_ := Aside0.mk (below_step (by repeat (first | (with_reducible first | exact HB.out | apply below_alloc | apply pw_below_drewN | apply below_drew1) | exact HB.out)) hb); clear HB; have HO170 := n0_; have HB := n1_; clear n0_ n1_; (try clear hb); (try clear hb2); (try clear hk); (try clear hi); (try clear ho0)) | ((with_reducible refine gate_dst (N := 1) rfl ?_); (try (refine gate_guard (by rfl) ?_; dsimp only)); refine box_event ?hg (N := 1) ?hd (cs := #[.int .i64 0, .slice none 0 0, .int .i64 0]) (t := 28) ?hr ?_; (case hd => rfl); (case hg => rfl); (case hr => first | (go_simp; done) | (go_simp; rfl)); intro gb173 hg w16 hbox hb; have n0_ := Aside0.mk (Kd.R_below (by (with_reducible repeat (first | apply Kd.R_alloc | apply Kd.R_drewN | apply Kd.R_drew)); exact HO170.out) hb); have n1_ := Aside0.mk (below_step (by repeat (first | (with_reducible first | exact HB.out | apply below_alloc | apply pw_below_drewN | apply below_drew1) | exact HB.out)) hb); have n2_ := Aside0.mk (hbox); have n3_ := Aside0.mk ((by rw [hg]; exact (below_size (by repeat (first | (with_reducible first | exact HB.out | apply below_alloc | apply pw_below_drewN | apply below_drew1) | exact HB.out))) : w.heap.size ≤ gb173)); have n4_ := Aside0.mk ((by rw [hg]; exact (below_size (by repeat (first | (with_reducible first | exact HB.out | apply below_alloc | apply pw_below_drewN | apply below_drew1) | exact HB.out))) : w.heap.size ≤ gb173)); clear HO170; clear HB; have HO170 := n0_; have HB := n1_; have BK173 := n2_; have GW173 := n3_; have GE173 := n4_; clear n0_ n1_ n2_ n3_ n4_; clear hb hbox hg; have hcz17_0 : w16.cell? ⟨gb173, 0, none⟩ = some (.int .i64 0) := (blk_cell BK173.out 0).trans rfl; have hcz17_1 : w16.cell? ⟨gb173, 1, none⟩ = some (.slice none 0 0) := (blk_cell BK173.out 1).trans rfl; have hcz17_2 : w16.cell? ⟨gb173, 2, none⟩ = some (.int .i64 0) := (blk_cell BK173.out 2).trans rfl; have hfz17_0 := blk_frozen BK173.out 0; have hfz17_1 := blk_frozen BK173.out 1; have hfz17_2 := blk_frozen BK173.out 2; obtain ⟨Ao18, co18, eo18⟩ := Kd.R_slice HO170.out; subst eo18))
    go_ret
    exact ⟨by first | rfl | (simp [errW_none, errW_some] <;> rfl) | (simp [*, errW_none, errW_some] <;> rfl), by repeat (first | (with_reducible first | exact HB.out | apply below_alloc | apply pw_below_drewN | apply below_drew1 | refine below_set ?_ GE173.out) | exact HB.out)⟩

end Go.Proofs.Ytlplphgoldkoeaa.X

end

section
/- The walk of MaskRects. -/
namespace Go.Proofs.Ytlplphgoldkoeaa.HTab
open Go.RowKit Go.Proofs.YtlplphgoldkoeaaW.PrintWords Go.Proofs.YtlplphgoldkoeaaW.PrintLast Go.Proofs.YtlplphgoldkoeaaW.PrintMore Go.Proofs.Ytlplphgoldkoeaa.HMap Go.Proofs.Ytlplphgoldkoeaa.X
set_option linter.unusedVariables false
set_option linter.unusedSimpArgs false

set_option maxRecDepth 100000 in
set_option maxHeartbeats 4000000 in
theorem rects_calls (k a0 a1 a2 a3 : Int) (fu : Nat) (c e0 p1 p3 p4 q1 q3 q4 : Int) (l : List S107) (m : List S106) (w : World) (h1 : mask_Cell.f fu k a0 a1 = some (c, e0)) (h2 : cantingref02_Cell.f fu k a0 a1 = some (c, e0))
    (h3 : mask_Rect.f k a0 a1 a2 a3 = some (p1, l, p3, p4)) (h4 : cantingref02_Rect.f fu k a0 a1 a2 a3 = some (q1, m, q3, q4)) (h5 : cantinglaw02_is.f fu p1 l p3 p4 q1 m q3 q4 = some true) (h6 : cantinglaw02_awake.f fu = some true) :
    Calls Try.prog 3 #[.int .i64 k, .agg #[.int .i64 a0, .int .i64 a1, .int .i64 a2, .int .i64 a3]] w fun e w' => e = .returned (.bool true) ∧ Below w.heap.size w w' := by
  have H1 := Aside0.mk h1
  have H2 := Aside0.mk h2
  have H3 := Aside0.mk h3
  have H4 := Aside0.mk h4
  have H5 := Aside0.mk h5
  have H6 := Aside0.mk h6
  have hu0 := Try.underlying22
  have hu1 := Try.underlying28
  have hu2 := Try.underlying33
  clear h1 h2 h3 h4 h5 h6
  go_enter Try.func3, Try.ntmps3
  go_wp2_with (first | ((with_reducible refine gate_callee (f := 19) rfl ?_); refine goesL_ _ rfl rfl Try.func19 (by kernel_rfl) rfl #[.int .i64 k, .int .i64 a0, .int .i64 a1] rfl (by simp only [List.map_toArray, List.map_cons, List.map_nil]; rfl) ?_) | fail)
  obtain ⟨W0, hW0⟩ : ∃ W, W = w.alloc (.cells #[.int .i64 a0, .int .i64 a1, .int .i64 a2, .int .i64 a3] 22) := ⟨_, rfl⟩
  have hB0 : Below w.heap.size w W0 := by rw [hW0]; exact below_alloc (Below.refl _ _) _
  have hK0 : W0.heap[w.heap.size]? = some (.cells #[.int .i64 a0, .int .i64 a1, .int .i64 a2, .int .i64 a3] 22 (0, 0)) := by rw [hW0]; exact blk_new _ _
  have HB0 := Aside0.mk hB0
  have HK0 := Aside0.mk hK0
  rw [← hW0]
  clear hW0 hB0 hK0
  refine (mask_Cell.calls fu k a0 a1 c e0 _ H1.out).mono ?_
  rintro e w1 ⟨rfl, hb⟩
  refine ⟨_, rfl, ?_⟩
  have HB1 := Aside0.mk (below_then HB0.out HB0.out.size hb)
  have HK1 := Aside0.mk (blk_below HK0.out hb)
  clear hb HB0 HK0
  have c0 := (blk_cell HK1.out 0).trans rfl
  have c1 := (blk_cell HK1.out 1).trans rfl
  have c2 := (blk_cell HK1.out 2).trans rfl
  have c3 := (blk_cell HK1.out 3).trans rfl
  go_wp2_with (first | ((with_reducible refine gate_callee (f := 20) rfl ?_); (try (refine gate_guard (by rfl) ?_; dsimp only)); refine goesL_ _ rfl rfl Try.func20 (by kernel_rfl) rfl #[.int .i64 k, .int .i64 a0, .int .i64 a1] rfl (by simp only [List.map_toArray, List.map_cons, List.map_nil]; rfl) ?_) | fail)
  refine (cantingref02_Cell.calls fu k a0 a1 c e0 _ H2.out).mono ?_
  rintro e w2 ⟨rfl, hb⟩
  refine ⟨_, rfl, ?_⟩
  have HB2 := Aside0.mk (show Below w.heap.size w w2 by obtain ⟨n, rfl⟩ := hb.out; exact pw_below_drewN HB1.out n)
  have HK2 := Aside0.mk (show w2.heap[w.heap.size]? = _ by obtain ⟨n, rfl⟩ := hb.out; exact blk_drewN HK1.out n)
  clear hb HB1 HK1 c0 c1 c2 c3
  have c0 := (blk_cell HK2.out 0).trans rfl
  have c1 := (blk_cell HK2.out 1).trans rfl
  have c2 := (blk_cell HK2.out 2).trans rfl
  have c3 := (blk_cell HK2.out 3).trans rfl
  go_wp2_with (first | ((with_reducible refine gate_callee (f := 21) rfl ?_); (try (refine gate_guard (by rfl) ?_; dsimp only)); refine goesL_ _ rfl rfl Try.func21 (by kernel_rfl) rfl #[.int .i64 k, .int .i64 a0, .int .i64 a1, .int .i64 a2, .int .i64 a3] rfl (by simp only [List.map_toArray, List.map_cons, List.map_nil]; rfl) ?_) | fail)
  refine (mask_Rect.calls k a0 a1 a2 a3 p1 l p3 p4 _ H3.out).mono ?_
  rintro e w3 ⟨v3, rfl, hR3, hb⟩
  obtain ⟨A3, n3, rfl, hn3, hC3⟩ := Kd.R_reads hR3
  refine ⟨_, rfl, ?_⟩
  have HB3 := Aside0.mk (below_then HB2.out HB2.out.size hb)
  have HK3 := Aside0.mk (blk_below HK2.out hb)
  have HR3 := Aside0.mk (Kd.R_lower hR3 HB2.out.size)
  clear hb HB2 HK2 c0 c1 c2 c3 hC3 hn3 hR3
  have c0 := (blk_cell (blk_alloc HK3.out (.cells #[.int .i64 p1, .slice A3 l.length n3, .int .i64 p3] 28)) 0).trans rfl
  have c1 := (blk_cell (blk_alloc HK3.out (.cells #[.int .i64 p1, .slice A3 l.length n3, .int .i64 p3] 28)) 1).trans rfl
  have c2 := (blk_cell (blk_alloc HK3.out (.cells #[.int .i64 p1, .slice A3 l.length n3, .int .i64 p3] 28)) 2).trans rfl
  have c3 := (blk_cell (blk_alloc HK3.out (.cells #[.int .i64 p1, .slice A3 l.length n3, .int .i64 p3] 28)) 3).trans rfl
  go_wp2_with (first | ((with_reducible refine gate_callee (f := 22) rfl ?_); (try (refine gate_guard (by rfl) ?_; dsimp only)); refine goesL_ _ rfl rfl Try.func22 (by kernel_rfl) rfl #[.int .i64 k, .int .i64 a0, .int .i64 a1, .int .i64 a2, .int .i64 a3] rfl (by simp only [List.map_toArray, List.map_cons, List.map_nil]; rfl) ?_) | fail)
  obtain ⟨W3, hW3⟩ : ∃ W, W = w3.alloc (.cells #[.int .i64 p1, .slice A3 l.length n3, .int .i64 p3] 28) := ⟨_, rfl⟩
  have hB : Below w.heap.size w W3 := by rw [hW3]; exact below_alloc HB3.out _
  have hK9 : W3.heap[w3.heap.size]? = some (.cells #[.int .i64 p1, .slice A3 l.length n3, .int .i64 p3] 28 (0, 0)) := by rw [hW3]; exact blk_new _ _
  have hR : k107.R 107 W3 w.heap.size (fun _ => True) (.slice A3 l.length n3) l := by rw [hW3]; exact Kd.R_alloc HR3.out _
  have hS3 : w.heap.size ≤ w3.heap.size := HB3.out.size
  rw [← hW3]
  clear hW3 HB3 HK3 HR3 c0 c1 c2 c3
  refine (cantingref02_Rect.calls fu k a0 a1 a2 a3 q1 m q3 q4 _ H4.out).mono ?_
  rintro e w4 ⟨v4, rfl, hR4, hb⟩
  obtain ⟨A4, n4, rfl, hn4, hC4⟩ := Kd.R_reads hR4
  refine ⟨_, rfl, ?_⟩
  have k9 := blk_alloc (blk_below hK9 hb) (.cells #[.int .i64 q1, .slice A4 m.length n4, .int .i64 q3] 33)
  have k11 := blk_new w4 (.cells #[.int .i64 q1, .slice A4 m.length n4, .int .i64 q3] 33)
  have HB4 := Aside0.mk (below_alloc (below_then hB hB.size hb) (.cells #[.int .i64 q1, .slice A4 m.length n4, .int .i64 q3] 33))
  have r3 := Kd.R_alloc (Kd.R_below hR hb) (.cells #[.int .i64 q1, .slice A4 m.length n4, .int .i64 q3] 33)
  have r4 := Kd.R_alloc (Kd.R_lower hR4 hB.size) (.cells #[.int .i64 q1, .slice A4 m.length n4, .int .i64 q3] 33)
  have HR3 := Aside0.mk r3
  have HR4 := Aside0.mk r4
  have b0 := (blk_cell k9 0).trans rfl
  have b1 := (blk_cell k9 1).trans rfl
  have b2 := (blk_cell k9 2).trans rfl
  have d0 := (blk_cell k11 0).trans rfl
  have d1 := (blk_cell k11 1).trans rfl
  have d2 := (blk_cell k11 2).trans rfl
  clear hb hB hK9 hR hS3 hR4 hn4 hC4 k9 k11 r3 r4
  have z1 : (c == c) = true := beq_self_eq_true c
  have z2 : (e0 == e0) = true := beq_self_eq_true e0
  go_wp2_with (first | ((with_reducible refine gate_callee (f := 23) rfl ?_); (try (refine gate_guard (by rfl) ?_; dsimp only)); refine goesL_ _ rfl rfl Try.func23 (by kernel_rfl) rfl #[.agg #[.int .i64 p1, .slice A3 l.length n3, .int .i64 p3], .int .i64 p4, .agg #[.int .i64 q1, .slice A4 m.length n4, .int .i64 q3], .int .i64 q4] rfl (by simp only [List.map_toArray, List.map_cons, List.map_nil]; rfl) ?_) | fail)
  have HC3 := Aside0.mk (Kd.R_reads' HR3.out)
  have HC4 := Aside0.mk (Kd.R_reads' HR4.out)
  refine (cantinglaw02_is.calls fu p1 A3 n3 l p3 p4 q1 A4 n4 m q3 q4 true _ HC3.out.2.2 HC3.out.2.1 HC4.out.2.2 HC4.out.2.1 H5.out).mono ?_
  rintro e w5 ⟨rfl, hb⟩
  refine ⟨_, rfl, ?_⟩
  have HB5 := Aside0.mk (below_then HB4.out HB4.out.size hb)
  clear hb HB4 HC3 HC4 HR3 HR4 b0 b1 b2 d0 d1 d2
  go_wp2_with (first | ((with_reducible refine gate_callee (f := 24) rfl ?_); (try (refine gate_guard (by rfl) ?_; dsimp only)); go_must (refine goesL_ (args := #[]) (some 73) rfl rfl Try.func24 (by kernel_rfl) rfl rfl (by simp only [List.map_toArray, List.map_nil]) ?_)) | fail)
  refine (cantinglaw02_awake.calls fu true _ H6.out).mono ?_
  rintro e w6 ⟨rfl, hb⟩
  refine ⟨_, rfl, ?_⟩
  have HB6 := Aside0.mk (below_then HB5.out HB5.out.size hb)
  clear hb HB5
  go_wp2
  go_ret
  exact ⟨by rfl, HB6.out⟩
end Go.Proofs.Ytlplphgoldkoeaa.HTab

end

section
/- The plain law: what a place of a table stands for; equal places and equal functions. -/
namespace Go.Proofs.Ytlplphgoldkoeaa.HTab
open Go.RowKit Go.Proofs.YtlplphgoldkoeaaW.PrintWords Go.Proofs.YtlplphgoldkoeaaW.PrintLast Go.Proofs.YtlplphgoldkoeaaW.PrintMore Go.Proofs.Ytlplphgoldkoeaa.HMap Go.Proofs.Ytlplphgoldkoeaa.X
set_option linter.unusedVariables false
set_option linter.unusedSimpArgs false

def getN (T : TB) (p : Int) : S107 := T.ns.getD p.toNat ⟨0, 0, 0⟩
def Pl (T : TB) (p : Int) : Prop := 0 ≤ p ∧ p < T.ns.length
theorem asks_lt {T : TB} {p : Int} (h : p < 2) : asksP T p = T.vars := if_pos h
theorem asks_ge {T : TB} {p : Int} (h : ¬ p < 2) : asksP T p = (getN T p).f0 := if_neg h
theorem side_ne {T : TB} {p v : Int} {b : Bool} (h : asksP T p ≠ v) : sideP T p v b = p := if_pos h
theorem side_eq {T : TB} {p v : Int} {b : Bool} (h : asksP T p = v) : sideP T p v b = if b then (getN T p).f2 else (getN T p).f1 := by
  unfold sideP getN
  rw [if_neg (by simpa using h)]

structure WF (T : TB) : Prop where
  two : 2 ≤ T.ns.length
  vars : 0 ≤ T.vars
  ok : ∀ p : Int, 2 ≤ p → p < T.ns.length → 0 ≤ (getN T p).f0 ∧ (getN T p).f0 < T.vars ∧ (getN T p).f1 ≠ (getN T p).f2 ∧ 0 ≤ (getN T p).f1 ∧ (getN T p).f1 < p ∧ 0 ≤ (getN T p).f2 ∧ (getN T p).f2 < p ∧
    (getN T p).f0 < asksP T (getN T p).f1 ∧ (getN T p).f0 < asksP T (getN T p).f2
  look : ∀ n r, HMap.look T.L n = some r → 2 ≤ r ∧ r < T.ns.length ∧ getN T r = n
  back : ∀ p : Int, 2 ≤ p → p < T.ns.length → HMap.look T.L (getN T p) = some p

theorem WF.asks_le {T : TB} (h : WF T) {p : Int} (hp : Pl T p) : asksP T p ≤ T.vars := by
  by_cases h2 : p < 2
  · rw [asks_lt h2]; exact Int.le_refl _
  · rw [asks_ge h2]; have := (h.ok p (by omega) hp.2).2.1; omega
theorem WF.asks_nonneg {T : TB} (h : WF T) {p : Int} (hp : Pl T p) : 0 ≤ asksP T p := by
  by_cases h2 : p < 2
  · rw [asks_lt h2]; exact h.vars
  · rw [asks_ge h2]; exact (h.ok p (by omega) hp.2).1
theorem WF.leaf {T : TB} (h : WF T) {p : Int} (hp : Pl T p) (ha : T.vars ≤ asksP T p) : p < 2 := by
  apply Classical.byContradiction
  intro h2
  rw [asks_ge h2] at ha
  have := (h.ok p (by omega) hp.2).2.1
  omega
theorem WF.side {T : TB} (h : WF T) {p v : Int} (b : Bool) (hp : Pl T p) (hv : v < T.vars) (ha : v ≤ asksP T p) : Pl T (sideP T p v b) ∧ v + 1 ≤ asksP T (sideP T p v b) := by
  by_cases he : asksP T p = v
  · have h2 : ¬ p < 2 := fun h2 => by rw [asks_lt h2] at he; omega
    have hk := h.ok p (by omega) hp.2
    rw [asks_ge h2] at he
    rw [side_eq (by rw [asks_ge h2]; exact he)]
    have := hp.2
    cases b
    · exact ⟨⟨hk.2.2.2.1, by simp only [Bool.false_eq_true, if_false]; omega⟩, by simp only [Bool.false_eq_true, if_false]; omega⟩
    · exact ⟨⟨hk.2.2.2.2.2.1, by simp only [if_true]; omega⟩, by simp only [if_true]; omega⟩
  · rw [side_ne he]
    exact ⟨hp, by omega⟩

/-- The values of a place over the last k variables. -/
def den (T : TB) : Nat → Int → List Bool
  | 0, p => [decide (p = 1)]
  | k + 1, p => den T k (sideP T p (T.vars - ((k : Int) + 1)) false) ++ den T k (sideP T p (T.vars - ((k : Int) + 1)) true)
theorem den_succ (T : TB) (k : Nat) (p : Int) : den T (k + 1) p = den T k (sideP T p (T.vars - ((k : Int) + 1)) false) ++ den T k (sideP T p (T.vars - ((k : Int) + 1)) true) := rfl
theorem den_length (T : TB) : ∀ (k : Nat) (p : Int), (den T k p).length = 2 ^ k
  | 0, p => rfl
  | k + 1, p => by
    unfold den
    rw [List.length_append, den_length T k, den_length T k, Nat.pow_succ]
    omega
theorem append_split {α : Type} {a b c d : List α} (h : a ++ b = c ++ d) (hl : a.length = c.length) : a = c ∧ b = d := List.append_inj h hl
theorem WF.inj {T : TB} (h : WF T) : ∀ (k : Nat) (p q : Int), (k : Int) ≤ T.vars → Pl T p → Pl T q → T.vars - k ≤ asksP T p → T.vars - k ≤ asksP T q → den T k p = den T k q → p = q
  | 0, p, q, hk, hp, hq, ap, aq, he => by
    have p2 := h.leaf hp (by omega)
    have q2 := h.leaf hq (by omega)
    simp only [den, List.cons.injEq, and_true] at he
    have := hp.1
    have := hq.1
    by_cases h1 : p = 1
    · have : q = 1 := by simpa [h1] using he
      omega
    · have : ¬ q = 1 := by simpa [h1] using he
      omega
  | k + 1, p, q, hk, hp, hq, ap, aq, he => by
    unfold den at he
    have hv : T.vars - ((k : Int) + 1) < T.vars := by omega
    obtain ⟨e0, e1⟩ := append_split he (by rw [den_length, den_length])
    have sp0 := h.side false hp hv (by omega)
    have sp1 := h.side true hp hv (by omega)
    have sq0 := h.side false hq hv (by omega)
    have sq1 := h.side true hq hv (by omega)
    have i0 := h.inj k _ _ (by omega) sp0.1 sq0.1 (by omega) (by omega) e0
    have i1 := h.inj k _ _ (by omega) sp1.1 sq1.1 (by omega) (by omega) e1
    by_cases hpv : asksP T p = T.vars - ((k : Int) + 1)
    · have p2 : ¬ p < 2 := fun h2 => by rw [asks_lt h2] at hpv; omega
      have okp := h.ok p (by omega) hp.2
      rw [side_eq hpv] at i0 i1
      by_cases hqv : asksP T q = T.vars - ((k : Int) + 1)
      · have q2 : ¬ q < 2 := fun h2 => by rw [asks_lt h2] at hqv; omega
        rw [side_eq hqv] at i0 i1
        simp only [Bool.false_eq_true, if_false, if_true] at i0 i1
        rw [asks_ge p2] at hpv
        rw [asks_ge q2] at hqv
        have hn : getN T p = getN T q := by
          have e2 : (getN T p).f0 = (getN T q).f0 := by omega
          cases hx : getN T p
          cases hy : getN T q
          simp only [hx, hy] at i0 i1 e2
          simp [i0, i1, e2]
        have b1 := h.back p (by omega) hp.2
        have b2 := h.back q (by omega) hq.2
        rw [hn] at b1
        exact Option.some.inj (b1.symm.trans b2)
      · rw [side_ne hqv] at i0 i1
        simp only [Bool.false_eq_true, if_false, if_true] at i0 i1
        exact absurd (i0.trans i1.symm) okp.2.2.1
    · rw [side_ne hpv] at i0 i1
      by_cases hqv : asksP T q = T.vars - ((k : Int) + 1)
      · have q2 : ¬ q < 2 := fun h2 => by rw [asks_lt h2] at hqv; omega
        have okq := h.ok q (by omega) hq.2
        rw [side_eq hqv] at i0 i1
        simp only [Bool.false_eq_true, if_false, if_true] at i0 i1
        exact absurd (i0.symm.trans i1) okq.2.2.1
      · rw [side_ne hqv] at i0
        exact i0

/-- A table that has grown. -/
def Ext (T T' : TB) : Prop := T'.vars = T.vars ∧ ∃ l, T'.ns = T.ns ++ l
theorem Ext.refl (T : TB) : Ext T T := ⟨rfl, [], by simp⟩
theorem Ext.then_ {A B C : TB} (h : Ext A B) (k : Ext B C) : Ext A C := by
  obtain ⟨h1, l, h2⟩ := h
  obtain ⟨k1, m, k2⟩ := k
  exact ⟨k1.trans h1, l ++ m, by rw [k2, h2, List.append_assoc]⟩
theorem Ext.pl {T T' : TB} (h : Ext T T') {p : Int} (hp : Pl T p) : Pl T' p := by
  obtain ⟨_, l, h2⟩ := h
  refine ⟨hp.1, ?_⟩
  have := hp.2
  rw [h2, List.length_append]
  omega
theorem Ext.getN {T T' : TB} (h : Ext T T') {p : Int} (hp : Pl T p) : HTab.getN T' p = HTab.getN T p := by
  obtain ⟨_, l, h2⟩ := h
  have h3 : p.toNat < T.ns.length := by have := hp.1; have := hp.2; omega
  unfold HTab.getN
  rw [h2, List.getD_eq_getElem?_getD, List.getD_eq_getElem?_getD, List.getElem?_append_left h3]
theorem Ext.asks {T T' : TB} (h : Ext T T') {p : Int} (hp : Pl T p) : asksP T' p = asksP T p := by
  by_cases h2 : p < 2
  · rw [asks_lt h2, asks_lt h2, h.1]
  · rw [asks_ge h2, asks_ge h2, h.getN hp]
theorem Ext.side {T T' : TB} (h : Ext T T') {p v : Int} {b : Bool} (hp : Pl T p) : sideP T' p v b = sideP T p v b := by
  by_cases he : asksP T p = v
  · rw [side_eq he, side_eq (by rw [h.asks hp]; exact he), h.getN hp]
  · rw [side_ne he, side_ne (by rw [h.asks hp]; exact he)]
theorem Ext.den {T T' : TB} (h : Ext T T') (hw : WF T) : ∀ (k : Nat) (p : Int), (k : Int) ≤ T.vars → Pl T p → T.vars - k ≤ asksP T p → den T' k p = den T k p
  | 0, p, _, _, _ => rfl
  | k + 1, p, hk, hp, ha => by
    unfold HTab.den
    rw [h.1, h.side hp, h.side hp]
    have s0 := hw.side false hp (show T.vars - ((k : Int) + 1) < T.vars by omega) (by omega)
    have s1 := hw.side true hp (show T.vars - ((k : Int) + 1) < T.vars by omega) (by omega)
    rw [h.den hw k _ (by omega) s0.1 (by omega), h.den hw k _ (by omega) s1.1 (by omega)]

theorem WF.t0 (n : Int) (hn : 0 ≤ n) : WF (T0 n) := by
  refine ⟨Nat.le_refl 2, hn, ?_, ?_, ?_⟩
  · intro p h1 h2
    have : ((T0 n).ns.length : Int) = 2 := rfl
    omega
  · intro m r h
    simp [T0, HMap.look] at h
  · intro p h1 h2
    have : ((T0 n).ns.length : Int) = 2 := rfl
    omega

theorem WF.node {T : TB} (h : WF T) (v lo hi : Int) (h0 : 0 ≤ v) (hv : v < T.vars) (hl : Pl T lo) (hh : Pl T hi) (al : v < asksP T lo) (ah : v < asksP T hi) :
    WF (nodeP T ⟨v, lo, hi⟩).2 ∧ Ext T (nodeP T ⟨v, lo, hi⟩).2 ∧ Pl (nodeP T ⟨v, lo, hi⟩).2 (nodeP T ⟨v, lo, hi⟩).1 ∧ v ≤ asksP (nodeP T ⟨v, lo, hi⟩).2 (nodeP T ⟨v, lo, hi⟩).1 ∧
      ∀ k : Nat, T.vars - v = k + 1 → den (nodeP T ⟨v, lo, hi⟩).2 (k + 1) (nodeP T ⟨v, lo, hi⟩).1 = den T k lo ++ den T k hi := by
  unfold nodeP
  split
  · rename_i he
    simp only at he
    subst he
    refine ⟨h, Ext.refl _, hl, by simp only; omega, fun k hk => ?_⟩
    simp only [den]
    rw [show T.vars - ((k : Int) + 1) = v by omega, side_ne (by omega), side_ne (by omega)]
  · rename_i hne
    simp only at hne
    split
    · rename_i r hr
      obtain ⟨r1, r2, r3⟩ := h.look _ _ hr
      have ar : asksP T r = v := by rw [asks_ge (by omega), r3]
      refine ⟨h, Ext.refl _, ⟨by simp only; omega, r2⟩, by simp only; omega, fun k hk => ?_⟩
      simp only [den]
      rw [show T.vars - ((k : Int) + 1) = v by omega, side_eq ar, side_eq ar, r3]
      simp
    · rename_i hr
      have hE : Ext T ⟨T.vars, T.ns ++ [⟨v, lo, hi⟩], HMap.upd T.L ⟨v, lo, hi⟩ T.ns.length⟩ := ⟨rfl, _, rfl⟩
      have ht := h.two
      have hg : getN ⟨T.vars, T.ns ++ [⟨v, lo, hi⟩], HMap.upd T.L ⟨v, lo, hi⟩ T.ns.length⟩ (T.ns.length : Int) = ⟨v, lo, hi⟩ := by
        unfold getN
        simp
      have hlen : ((T.ns ++ [(⟨v, lo, hi⟩ : S107)]).length : Int) = T.ns.length + 1 := by simp
      have ar : asksP ⟨T.vars, T.ns ++ [⟨v, lo, hi⟩], HMap.upd T.L ⟨v, lo, hi⟩ T.ns.length⟩ (T.ns.length : Int) = v := by rw [asks_ge (by omega), hg]
      refine ⟨⟨?_, h.vars, ?_, ?_, ?_⟩, hE, ⟨by simp only; omega, by simp only [hlen]; omega⟩, by simp only [ar]; omega, fun k hk => ?_⟩
      · simp only [List.length_append]; omega
      · intro p h1 h2
        simp only [hlen] at h2
        by_cases hp : p = T.ns.length
        · subst hp
          rw [hg]
          refine ⟨h0, hv, hne, hl.1, hl.2, hh.1, hh.2, ?_, ?_⟩
          · rw [hE.asks hl]; exact al
          · rw [hE.asks hh]; exact ah
        · have hP : Pl T p := ⟨by omega, by omega⟩
          rw [hE.getN hP]
          have := h.ok p h1 hP.2
          refine ⟨this.1, this.2.1, this.2.2.1, this.2.2.2.1, this.2.2.2.2.1, this.2.2.2.2.2.1, this.2.2.2.2.2.2.1, ?_, ?_⟩
          · rw [hE.asks ⟨this.2.2.2.1, by have := hP.2; omega⟩]; exact this.2.2.2.2.2.2.2.1
          · rw [hE.asks ⟨this.2.2.2.2.2.1, by have := hP.2; omega⟩]; exact this.2.2.2.2.2.2.2.2
      · intro m r hm
        by_cases he : m = ⟨v, lo, hi⟩
        · subst he
          simp only [HMap.look_upd_same, Option.some.injEq] at hm
          subst hm
          exact ⟨by omega, by simp only [hlen]; omega, hg⟩
        · simp only [HMap.look_upd_other _ _ _ _ he] at hm
          obtain ⟨r1, r2, r3⟩ := h.look _ _ hm
          exact ⟨r1, by simp only [hlen]; omega, by rw [hE.getN ⟨by omega, r2⟩]; exact r3⟩
      · intro p h1 h2
        simp only [hlen] at h2
        by_cases hp : p = T.ns.length
        · subst hp
          rw [hg]
          simp only [HMap.look_upd_same]
        · have hP : Pl T p := ⟨by omega, by omega⟩
          rw [hE.getN hP]
          have hb := h.back p h1 hP.2
          have hne2 : getN T p ≠ ⟨v, lo, hi⟩ := fun e => by rw [e, hr] at hb; cases hb
          simp only [HMap.look_upd_other _ _ _ _ hne2]
          exact hb
      · show den ⟨T.vars, T.ns ++ [⟨v, lo, hi⟩], HMap.upd T.L ⟨v, lo, hi⟩ T.ns.length⟩ (k + 1) (T.ns.length : Int) = _
        rw [den_succ]
        rw [show (⟨T.vars, T.ns ++ [⟨v, lo, hi⟩], HMap.upd T.L ⟨v, lo, hi⟩ T.ns.length⟩ : TB).vars - ((k : Int) + 1) = v by show T.vars - ((k : Int) + 1) = v; omega, side_eq ar, side_eq ar, hg]
        simp only [Bool.false_eq_true, if_false, if_true]
        rw [hE.den h k lo (by omega) hl (by omega), hE.den h k hi (by omega) hh (by omega)]
end Go.Proofs.Ytlplphgoldkoeaa.HTab

end

section
/- The plain law: the mask of a place is the reference's mask of its values. -/
namespace Go.Proofs.Ytlplphgoldkoeaa.HTab
open Go.RowKit Go.Proofs.YtlplphgoldkoeaaW.PrintWords Go.Proofs.YtlplphgoldkoeaaW.PrintLast Go.Proofs.YtlplphgoldkoeaaW.PrintMore Go.Proofs.Ytlplphgoldkoeaa.HMap Go.Proofs.Ytlplphgoldkoeaa.X
set_option linter.unusedVariables false
set_option linter.unusedSimpArgs false

theorem range_two {α : Type} (g : Nat → α) (m : Nat) : (List.range (m + m)).map g = (List.range m).map g ++ (List.range m).map (fun i => g (m + i)) := by
  rw [List.range_add, List.map_append, List.map_map]
  rfl
theorem grow_ok (n : Int) (f : Int → Bool) : ∀ (k : Nat) (p : Int) (T : TB), WF T → T.vars = n → (k : Int) ≤ n →
    WF (growP n f k p T).2 ∧ Ext T (growP n f k p T).2 ∧ Pl (growP n f k p T).2 (growP n f k p T).1 ∧ n - k ≤ asksP (growP n f k p T).2 (growP n f k p T).1 ∧
      den (growP n f k p T).2 k (growP n f k p T).1 = (List.range (2 ^ k)).map fun (i : Nat) => f (p * 2 ^ k + (i : Int))
  | 0, p, T, h, hn, hk => by
    have h2 := h.two
    simp only [growP]
    refine ⟨h, Ext.refl T, ?_, ?_, ?_⟩
    · split
      · exact ⟨by omega, by omega⟩
      · exact ⟨by omega, by omega⟩
    · rw [asks_lt (by split <;> omega)]; omega
    · simp only [den, Nat.pow_zero, Int.pow_zero, Int.mul_one]
      rw [show List.range 1 = [0] from rfl]
      simp only [List.map_cons, List.map_nil, Int.ofNat_zero, Int.add_zero]
      cases hf : f p <;> simp [hf]
  | k + 1, p, T, h, hn, hk => by
    obtain ⟨w1, e1, p1, a1, d1⟩ := grow_ok n f k (2 * p) T h hn (by omega)
    obtain ⟨w2, e2, p2, a2, d2⟩ := grow_ok n f k (2 * p + 1) (growP n f k (2 * p) T).2 w1 (e1.1.trans hn) (by omega)
    have v2 : (growP n f k (2 * p + 1) (growP n f k (2 * p) T).2).2.vars = n := e2.1.trans (e1.1.trans hn)
    have a1' := e2.asks p1
    obtain ⟨w3, e3, p3, a3, d3⟩ := w2.node (n - ((k : Int) + 1)) (growP n f k (2 * p) T).1 (growP n f k (2 * p + 1) (growP n f k (2 * p) T).2).1 (by omega) (by omega) (e2.pl p1) p2 (by omega) (by omega)
    simp only [growP]
    refine ⟨w3, e1.then_ (e2.then_ e3), p3, a3, ?_⟩
    rw [d3 k (by omega), e2.den w1 k _ (by have := e1.1; omega) p1 (by have := e1.1; omega), d1, d2, Nat.pow_succ, Nat.mul_two, range_two]
    congr 1
    · apply List.map_congr_left
      intro i _
      congr 1
      rw [Int.pow_succ]
      congr 1
      rw [← Int.mul_assoc, Int.mul_comm (p * 2 ^ k) 2, ← Int.mul_assoc]
    · apply List.map_congr_left
      intro i _
      congr 1
      rw [Int.pow_succ, Int.add_mul, Int.natCast_add, Int.one_mul, Int.natCast_pow]
      rw [show p * (2 ^ k * 2) = 2 * p * 2 ^ k by rw [← Int.mul_assoc, Int.mul_comm (p * 2 ^ k) 2, ← Int.mul_assoc]]
      show _ + (2 : Int) ^ k + (i : Int) = 2 * p * 2 ^ k + ((2 : Int) ^ k + (i : Int))
      omega

theorem den_leaf {T : TB} (h : WF T) : ∀ (k : Nat) (p : Int), (k : Int) ≤ T.vars → p < 2 → den T k p = List.replicate (2 ^ k) (decide (p = 1))
  | 0, p, _, _ => rfl
  | k + 1, p, hk, hp => by
    rw [den_succ, side_ne (by rw [asks_lt hp]; omega), side_ne (by rw [asks_lt hp]; omega), den_leaf h k p (by omega) hp, List.replicate_append_replicate, Nat.pow_succ, Nat.mul_two]
theorem constP_eq {t : List Bool} (h : constP t = true) : t = List.replicate t.length (t.getD 0 false) := by
  unfold constP at h
  rw [List.all_eq_true] at h
  apply List.eq_replicate_of_mem
  intro x hx
  simpa using h x hx
theorem constP_rep (n : Nat) (x : Bool) : constP (List.replicate n x) = true := by
  unfold constP
  rw [List.all_eq_true]
  intro y hy
  rw [List.mem_replicate] at hy
  obtain ⟨h0, rfl⟩ := hy
  cases n with
  | zero => exact absurd rfl h0
  | succ n => simp [List.replicate_succ]

def toR (n : S107) : S106 := ⟨n.f0, n.f1, n.f2⟩
structure Rel (T : TB) (s : MS) (b : BS) : Prop where
  nodes : b.nodes = s.out.map toR
  len : b.ts.length = s.out.length
  zero : HMap.look s.M 0 = some 0
  one : HMap.look s.M 1 = some 1
  fwd : ∀ p q, HMap.look s.M p = some q → 2 ≤ p → Pl T p ∧ ∃ i : Nat, q = (i : Int) + 2 ∧ b.ts[i]? = some (den T (T.vars - asksP T p).toNat p)
  from_ : ∀ (i : Nat) t, b.ts[i]? = some t → ∃ p, 2 ≤ p ∧ Pl T p ∧ HMap.look s.M p = some ((i : Int) + 2) ∧ t = den T (T.vars - asksP T p).toNat p
theorem pow_inj {a b : Nat} (h : 2 ^ a = 2 ^ b) : a = b := by
  rcases Nat.lt_trichotomy a b with h1 | h1 | h1
  · have := Nat.pow_lt_pow_right (a := 2) (by omega) h1; omega
  · exact h1
  · have := Nat.pow_lt_pow_right (a := 2) (by omega) h1; omega
/-- A table in the reference's list is that of one place alone. -/
theorem Rel.same {T : TB} (hw : WF T) {s : MS} {b : BS} (h : Rel T s b) {i k : Nat} {p : Int} (hk : (k : Int) ≤ T.vars) (hp : Pl T p) (ha : asksP T p = T.vars - k) (hi : b.ts[i]? = some (den T k p)) : HMap.look s.M p = some ((i : Int) + 2) := by
  obtain ⟨p', h2, hP, hl, ht⟩ := h.from_ i _ hi
  have hlen := congrArg List.length ht
  rw [den_length, den_length] at hlen
  have hkk := pow_inj hlen
  have h3 := hw.asks_nonneg hP
  have h4 := hw.asks_le hP
  rw [← hkk] at ht
  have := hw.inj k p p' hk hp hP (by omega) (by omega) ht
  rw [this]
  exact hl
theorem mask_visit {T : TB} (hw : WF T) : ∀ (k fm fv : Nat) (p : Int) (s : MS) (b : BS), (k : Int) ≤ T.vars → Pl T p → T.vars - k ≤ asksP T p → k < fm → k < fv → Rel T s b →
    ∃ r s' b', maskP T fm s p = some (r, s') ∧ visitP fv b (den T k p) (T.vars - k) = some (r, b') ∧ Rel T s' b' ∧ s'.out.length + 1 ≤ s.out.length + 2 ^ k ∧ ∀ p', p < p' → HMap.look s'.M p' = HMap.look s.M p' := by
  intro k
  induction k with
  | zero =>
    intro fm fv p s b hk hp ha hm hv hR
    obtain ⟨fm, rfl⟩ : ∃ m, fm = m + 1 := ⟨fm - 1, by omega⟩
    obtain ⟨fv, rfl⟩ : ∃ m, fv = m + 1 := ⟨fv - 1, by omega⟩
    have h2 := hw.leaf hp (by omega)
    have h0 := hp.1
    have hl : HMap.look s.M p = some p := by
      have : p = 0 ∨ p = 1 := by omega
      rcases this with rfl | rfl
      · exact hR.zero
      · exact hR.one
    refine ⟨p, s, b, by simp [maskP, hl], ?_, hR, by simp, fun _ _ => rfl⟩
    rw [den_leaf hw 0 p hk h2]
    unfold visitP
    rw [if_neg (by simp), if_pos (constP_rep _ _)]
    have : p = 0 ∨ p = 1 := by omega
    rcases this with rfl | rfl <;> rfl
  | succ k ih =>
    intro fm fv p s b hk hp ha hm hv hR
    obtain ⟨fm, rfl⟩ : ∃ m, fm = m + 1 := ⟨fm - 1, by omega⟩
    obtain ⟨fv, rfl⟩ : ∃ m, fv = m + 1 := ⟨fv - 1, by omega⟩
    have h0 := hp.1
    have hpos : 0 < 2 ^ (k + 1) := Nat.two_pow_pos _
    by_cases h2 : p < 2
    · have hl : HMap.look s.M p = some p := by
        have : p = 0 ∨ p = 1 := by omega
        rcases this with rfl | rfl
        · exact hR.zero
        · exact hR.one
      refine ⟨p, s, b, by simp [maskP, hl], ?_, hR, by omega, fun _ _ => rfl⟩
      rw [den_leaf hw (k + 1) p hk h2]
      unfold visitP
      rw [if_neg (by simp), if_pos (constP_rep _ _)]
      obtain ⟨m, hm⟩ : ∃ m, 2 ^ (k + 1) = m + 1 := ⟨2 ^ (k + 1) - 1, by omega⟩
      rw [hm]
      have : p = 0 ∨ p = 1 := by omega
      rcases this with rfl | rfl <;> simp [List.replicate_succ]
    · have hnc : ¬ constP (den T (k + 1) p) = true := by
        intro hc
        have hc := constP_eq hc
        rw [den_length] at hc
        generalize (den T (k + 1) p).getD 0 false = x at hc
        have hq : den T (k + 1) p = den T (k + 1) (if x then 1 else 0) := by
          rw [den_leaf hw (k + 1) (if x then 1 else 0) hk (by split <;> omega), hc]
          cases x <;> simp
        have ht := hw.two
        have := hw.inj (k + 1) p (if x then 1 else 0) hk hp (by split <;> exact ⟨by omega, by omega⟩) ha (by rw [asks_lt (by split <;> omega)]; omega) hq
        split at this <;> omega
      have hne : ¬ den T (k + 1) p = [] := fun h => by have := congrArg List.length h; rw [den_length] at this; simp at this
      have hhalf : (den T (k + 1) p).length / 2 = (den T k (sideP T p (T.vars - ((k : Int) + 1)) false)).length := by
        rw [den_length, den_length, Nat.pow_succ]; omega
      have htake : (den T (k + 1) p).take ((den T (k + 1) p).length / 2) = den T k (sideP T p (T.vars - ((k : Int) + 1)) false) := by
        rw [hhalf, den_succ, List.take_left]
      have hdrop : (den T (k + 1) p).drop ((den T (k + 1) p).length / 2) = den T k (sideP T p (T.vars - ((k : Int) + 1)) true) := by
        rw [hhalf, den_succ, List.drop_left]
      have hvv : T.vars - ((k + 1 : Nat) : Int) + 1 = T.vars - k := by omega
      unfold visitP
      rw [if_neg hne, if_neg hnc, htake, hdrop, hvv]
      have s0 := hw.side false hp (show T.vars - ((k : Int) + 1) < T.vars by omega) (by omega)
      have s1 := hw.side true hp (show T.vars - ((k : Int) + 1) < T.vars by omega) (by omega)
      by_cases hav : asksP T p = T.vars - ((k : Int) + 1)
      · have okp := hw.ok p (by omega) hp.2
        have f0 : (getN T p).f0 = T.vars - ((k : Int) + 1) := by rw [asks_ge h2] at hav; exact hav
        rw [side_eq hav] at s0 s1
        rw [side_eq hav, side_eq hav]
        simp only [Bool.false_eq_true, if_false, if_true] at s0 s1 ⊢
        have hd : ¬ den T k (getN T p).f1 = den T k (getN T p).f2 := fun he => okp.2.2.1 (hw.inj k _ _ (by omega) s0.1 s1.1 (by omega) (by omega) he)
        rw [if_neg hd]
        cases hl : HMap.look s.M p with
        | some q =>
          obtain ⟨_, i, rfl, hi⟩ := hR.fwd p q hl (by omega)
          rw [show (T.vars - asksP T p).toNat = k + 1 by omega] at hi
          cases hx : idxOf b.ts (den T (k + 1) p) with
          | none => exact absurd hi (idxOf_none hx i)
          | some j =>
            obtain ⟨j1, j2, j3⟩ := idxOf_some hx
            have h4 := hR.same hw hk hp (by omega) j2
            rw [hl] at h4
            simp only [Option.some.injEq] at h4
            refine ⟨(i : Int) + 2, s, b, by simp [maskP, hl], ?_, hR, by omega, fun _ _ => rfl⟩
            simp only [Option.some.injEq, Prod.mk.injEq, and_true]
            omega
        | none =>
          cases hx : idxOf b.ts (den T (k + 1) p) with
          | some j =>
            obtain ⟨j1, j2, j3⟩ := idxOf_some hx
            have h4 := hR.same hw hk hp (by omega) j2
            rw [hl] at h4
            cases h4
          | none =>
            obtain ⟨r1, s1', b1, m1, v1, R1, l1, g1⟩ := ih fm fv (getN T p).f1 s b (by omega) s0.1 (by omega) (by omega) (by omega) hR
            obtain ⟨r2, s2', b2, m2, v2, R2, l2, g2⟩ := ih fm fv (getN T p).f2 s1' b1 (by omega) s1.1 (by omega) (by omega) (by omega) R1
            refine ⟨(s2'.out.length : Int) + 2, ⟨HMap.upd s2'.M p ((s2'.out.length : Int) + 2), s2'.out ++ [⟨(getN T p).f0, r1, r2⟩]⟩, ⟨b2.nodes ++ [⟨T.vars - ((k + 1 : Nat) : Int), r1, r2⟩], b2.ts ++ [den T (k + 1) p]⟩, ?_, ?_, ?_, ?_, ?_⟩
            · unfold maskP
              simp only [hl]
              rw [if_pos ⟨h0, hp.2⟩]
              show (maskP T fm s (getN T p).f1).bind _ = _
              rw [m1]
              show (maskP T fm s1' (getN T p).f2).bind _ = _
              rw [m2]
              rfl
            · simp only [v1, v2, Option.bind_some, R2.nodes, List.length_map]
            · have hkk : (T.vars - asksP T p).toNat = k + 1 := by omega
              refine ⟨?_, ?_, ?_, ?_, ?_, ?_⟩
              · simp only [R2.nodes, List.map_append, List.map_cons, List.map_nil, toR, f0]
                simp
              · simp [R2.len]
              · simp only; rw [HMap.look_upd_other _ _ _ _ (by omega)]; exact R2.zero
              · simp only; rw [HMap.look_upd_other _ _ _ _ (by omega)]; exact R2.one
              · intro p' q hq h2'
                simp only at hq
                by_cases he : p' = p
                · subst he
                  rw [HMap.look_upd_same] at hq
                  simp only [Option.some.injEq] at hq
                  refine ⟨hp, s2'.out.length, hq.symm, ?_⟩
                  simp only [hkk]
                  rw [← R2.len, List.getElem?_append_right (Nat.le_refl _)]
                  simp
                · rw [HMap.look_upd_other _ _ _ _ he] at hq
                  obtain ⟨hP, i, hi, ht⟩ := R2.fwd p' q hq h2'
                  refine ⟨hP, i, hi, ?_⟩
                  have := (List.getElem?_eq_some_iff.1 ht).1
                  simp only
                  rw [List.getElem?_append_left this]
                  exact ht
              · intro i t hi
                simp only at hi
                by_cases hlt : i < b2.ts.length
                · rw [List.getElem?_append_left hlt] at hi
                  obtain ⟨p', q1, q2, q3, q4⟩ := R2.from_ i t hi
                  have hpp : p' ≠ p := fun e => by
                    rw [e, g2 p okp.2.2.2.2.2.2.1, g1 p okp.2.2.2.2.1, hl] at q3
                    cases q3
                  refine ⟨p', q1, q2, ?_, q4⟩
                  simp only
                  rw [HMap.look_upd_other _ _ _ _ hpp]
                  exact q3
                · rw [List.getElem?_append_right (by omega)] at hi
                  have hi0 : i - b2.ts.length = 0 := by
                    apply Classical.byContradiction
                    intro hne
                    rw [List.getElem?_eq_none (by simp; omega)] at hi
                    cases hi
                  rw [hi0] at hi
                  simp only [List.getElem?_cons_zero, Option.some.injEq] at hi
                  refine ⟨p, by omega, hp, ?_, ?_⟩
                  · simp only
                    rw [HMap.look_upd_same]
                    have := R2.len
                    congr 1
                    omega
                  · rw [hkk, hi]
            · simp only [List.length_append, List.length_cons, List.length_nil]
              rw [Nat.pow_succ]
              omega
            · intro p' hp'
              simp only
              rw [HMap.look_upd_other _ _ _ _ (by omega), g2 p' (by have := okp.2.2.2.2.2.2.1; omega), g1 p' (by have := okp.2.2.2.2.1; omega)]
      · rw [side_ne hav] at s0
        rw [side_ne hav, side_ne hav, if_pos rfl]
        obtain ⟨r, s', b', m1, v1, R1, l1, g1⟩ := ih (fm + 1) fv p s b (by omega) hp (by omega) (by omega) (by omega) hR
        exact ⟨r, s', b', m1, v1, R1, by rw [Nat.pow_succ]; omega, g1⟩

theorem rel0 (T : TB) : Rel T M0 ⟨[], []⟩ := by
  refine ⟨rfl, rfl, rfl, rfl, ?_, ?_⟩
  · intro p q h h2
    simp only [M0, HMap.look] at h
    rw [if_neg (by omega), if_neg (by omega)] at h
    cases h
  · intro i t h
    simp at h
/-- The mask of a place, by the program and by the reference. -/
theorem mask_of {T : TB} (hw : WF T) (hn : T.vars ≤ 12) (p : Int) (hp : Pl T p) :
    ∃ r s' ts, maskP T 64 M0 p = some (r, s') ∧ ofP (den T T.vars.toNat p) = some (r, ⟨s'.out.map toR, ts⟩) ∧ s'.out.length ≤ 4096 := by
  have hv := hw.vars
  have ha := hw.asks_nonneg hp
  obtain ⟨r, s', b', h1, h2, h3, h4, _⟩ := mask_visit hw T.vars.toNat 64 64 p M0 ⟨[], []⟩ (by omega) hp (by omega) (by omega) (by omega) (rel0 T)
  rw [show T.vars - (T.vars.toNat : Int) = 0 by omega] at h2
  refine ⟨r, s', b'.ts, h1, ?_, ?_⟩
  · unfold ofP
    rw [h2, ← h3.nodes]
  · have h5 : 2 ^ T.vars.toNat ≤ 2 ^ 12 := Nat.pow_le_pow_right (by omega) (by omega)
    have : M0.out.length = 0 := rfl
    omega
theorem build_of (n : Nat) (hn : n ≤ 12) (f : Int → Bool) :
    ∃ out r ts, buildP n f = some (out, r) ∧ ofP ((List.range (2 ^ n)).map fun (i : Nat) => f i) = some (r, ⟨out.map toR, ts⟩) ∧ out.length ≤ 4096 := by
  obtain ⟨w1, e1, p1, a1, d1⟩ := grow_ok n f n 0 (T0 n) (WF.t0 n (by omega)) rfl (by omega)
  have hv : (growP n f n 0 (T0 n)).2.vars = n := e1.1
  obtain ⟨r, s', ts, h1, h2, h3⟩ := mask_of w1 (by omega) _ p1
  refine ⟨s'.out, r, ts, ?_, ?_, h3⟩
  · unfold buildP
    rw [show (n : Int).toNat = n by omega, h1]
    rfl
  · rw [hv, show (n : Int).toNat = n by omega, d1] at h2
    rw [← h2]
    congr 1
    apply List.map_congr_left
    intro i _
    congr 1
    omega
end Go.Proofs.Ytlplphgoldkoeaa.HTab

end

section
/- The plain law: own, Same, is, awake. -/
namespace Go.Proofs.Ytlplphgoldkoeaa.HTab
open Go.RowKit Go.Proofs.YtlplphgoldkoeaaW.PrintWords Go.Proofs.YtlplphgoldkoeaaW.PrintLast Go.Proofs.YtlplphgoldkoeaaW.PrintMore Go.Proofs.Ytlplphgoldkoeaa.HMap Go.Proofs.Ytlplphgoldkoeaa.X
set_option linter.unusedVariables false
set_option linter.unusedSimpArgs false

theorem w64_inc {i : Int} (h0 : 0 ≤ i) (h : i < 140737488355328) : wrap64 (i + 1) = i + 1 := by unfold wrap64; omega
theorem own_l0 (l : List S107) (hl : l.length ≤ 5000) (v r : Int) : ∀ (d i k : Nat) (acc : List S106), i + d = l.length → d < k → acc.length = i →
    cantinglaw02_own.l0 k l l.length i v acc r = some (v, acc ++ (l.drop i).map toR, r)
  | 0, i, k, acc, hi, hk, ha => by
    obtain ⟨k, rfl⟩ : ∃ m, k = m + 1 := ⟨k - 1, by omega⟩
    simp only [cantinglaw02_own.l0]
    rw [if_neg (by omega), List.drop_eq_nil_of_le (by omega)]
    simp
  | d + 1, i, k, acc, hi, hk, ha => by
    obtain ⟨k, rfl⟩ : ∃ m, k = m + 1 := ⟨k - 1, by omega⟩
    simp only [cantinglaw02_own.l0]
    rw [if_pos (by omega), if_pos (by omega), if_pos (by omega), if_pos (by omega), w64_inc (by omega) (by omega)]
    have h := own_l0 l hl v r d (i + 1) k (acc ++ [⟨(rd_T107 l i).f0, (rd_T107 l i).f1, (rd_T107 l i).f2⟩]) (by omega) (by omega) (by simp [ha])
    rw [show ((i + 1 : Nat) : Int) = (i : Int) + 1 by omega] at h
    rw [h]
    have hlt : i < l.length := by omega
    have hg : rd_T107 l i = l[i] := by simp [rd_T107, hlt]
    rw [List.drop_eq_getElem_cons hlt, hg, List.append_assoc]
    rfl
theorem own_f (l : List S107) (hl : l.length ≤ 5000) (v r : Int) (k : Nat) (hk : l.length < k) : cantinglaw02_own.f k v l r = some (v, l.map toR, r) := by
  unfold cantinglaw02_own.f
  have h := own_l0 l hl v r l.length 0 k [] (by omega) hk rfl
  simpa using h
theorem same_l0 (l : List S106) (hl : l.length ≤ 140737488355000) (v r : Int) : ∀ (d i k : Nat), i + d = l.length → d < k → cantingref02_Same.l0 k l l.length i v l r = some true
  | 0, i, k, hi, hk => by
    obtain ⟨k, rfl⟩ : ∃ m, k = m + 1 := ⟨k - 1, by omega⟩
    simp only [cantingref02_Same.l0]
    rw [if_neg (by omega)]
  | d + 1, i, k, hi, hk => by
    obtain ⟨k, rfl⟩ : ∃ m, k = m + 1 := ⟨k - 1, by omega⟩
    simp only [cantingref02_Same.l0]
    rw [if_pos (by omega), if_pos (by omega), if_pos (by omega), if_pos (by omega), if_neg (by simp), w64_inc (by omega) (by omega)]
    have h := same_l0 l hl v r d (i + 1) k (by omega) (by omega)
    rw [show ((i + 1 : Nat) : Int) = (i : Int) + 1 by omega] at h
    exact h
theorem same_f (l : List S106) (hl : l.length ≤ 140737488355000) (v r : Int) (k : Nat) (hk : l.length + 1 < k) : cantingref02_Same.f k v l r v l r = some true := by
  obtain ⟨k, rfl⟩ : ∃ m, k = m + 1 := ⟨k - 1, by omega⟩
  unfold cantingref02_Same.f
  rw [if_pos rfl, if_pos rfl]
  simp only [cantingref02_Same.j0]
  rw [if_neg (by simp)]
  exact same_l0 l hl v r l.length 0 k (by omega) (by omega)
theorem is_f (l : List S107) (hl : l.length ≤ 5000) (v r e : Int) (k : Nat) (hk : l.length + 1 < k) : cantinglaw02_is.f k v l r e v (l.map toR) r e = some true := by
  unfold cantinglaw02_is.f
  rw [if_pos rfl, own_f l hl v r k (by omega)]
  simp only [Option.bind_some]
  rw [same_f _ (by rw [List.length_map]; omega) _ _ _ (by rw [List.length_map]; omega)]
  rfl
theorem awake_f (k : Nat) (hk : 10 ≤ k) : cantinglaw02_awake.f k = some true := by
  have h : mask_Var.f 2 0 = some (2, [⟨0, 0, 1⟩], 2, 0) := by rfl
  unfold cantinglaw02_awake.f
  rw [h]
  simp only [Option.bind_some, if_true]
  rw [own_f [⟨0, 0, 1⟩] (by decide) 2 2 k (by simp only [List.length_cons, List.length_nil]; omega)]
  simp only [Option.bind_some]
  have h2 := same_f [⟨0, 0, 1⟩] (by decide) 2 2 k (by simp only [List.length_cons, List.length_nil]; omega)
  simp only [List.map_cons, List.map_nil, toR]
  rw [h2]
  rfl
end Go.Proofs.Ytlplphgoldkoeaa.HTab

end

section
/- The plain law: cells and points. -/
namespace Go.Proofs.Ytlplphgoldkoeaa.HTab
open Go.RowKit Go.Proofs.YtlplphgoldkoeaaW.PrintWords Go.Proofs.YtlplphgoldkoeaaW.PrintLast Go.Proofs.YtlplphgoldkoeaaW.PrintMore Go.Proofs.Ytlplphgoldkoeaa.HMap Go.Proofs.Ytlplphgoldkoeaa.X
set_option linter.unusedVariables false
set_option linter.unusedSimpArgs false

theorem wraps_i64 (n : Int) (h₀ : 0 ≤ n) (h₁ : n < 2 ^ 63) : IntKind.i64.wrap n = n := by rw [IntKind.wrap_i64]; omega
theorem and_one {x : Int} (h0 : 0 ≤ x) (h1 : x < 2 ^ 63) : Go.bits .and .i64 x 1 = x % 2 := bits_mask .i64 63 (by decide) wraps_i64 1 (by decide) x h0 h1
def chkW (j : Nat) : Bool := (List.range (2 ^ (11 - j))).all fun a => decide (Go.bits .andNot .i64 ((a : Int) * 2 ^ (j + 1)) (2 ^ j) = (a : Int) * 2 ^ (j + 1)) && decide (Go.bits .or .i64 ((a : Int) * 2 ^ (j + 1)) (2 ^ j) = (a : Int) * 2 ^ (j + 1) + 2 ^ j)

theorem pow_cast (k : Nat) : ((2 ^ k : Nat) : Int) = (2 : Int) ^ k := Int.natCast_pow 2 k
theorem pow_pos (k : Nat) : (0 : Int) < 2 ^ k := Int.pow_pos (by decide)
theorem pow4_pos (k : Nat) : (0 : Int) < 4 ^ k := Int.pow_pos (by decide)
theorem pow42 (i : Nat) : (2 : Int) ^ (2 * i) = 4 ^ i := by rw [Int.pow_mul]; rfl

/-- The point of a cell, from the levels below i; what 'where' computes, without its wrapping. -/
def cP : Nat → Int → Int → Int → Int
  | 0, _, _, p => p
  | i + 1, x, y, p => cP i x y (4 * p + 2 * (x / 2 ^ i % 2) + y / 2 ^ i % 2)
def whQ : Nat → Int → Int → Int → Int × Int
  | 0, _, x, y => (x, y)
  | i + 1, p, x, y => whQ i p (2 * x + p / 2 ^ (2 * i + 1) % 2) (2 * y + p / 2 ^ (2 * i) % 2)
theorem div_lt {x : Int} (h0 : 0 ≤ x) (h1 : x < 2 ^ 63) (i : Nat) : 0 ≤ x / 2 ^ i ∧ x / 2 ^ i < 2 ^ 63 := by
  have hp := pow_pos i
  refine ⟨Int.ediv_nonneg h0 (by omega), ?_⟩
  have := Int.ediv_le_self (2 ^ i) h0
  omega
theorem grow2 {x P : Int} (hP : 0 < P) (c : Int) (hc : c ≤ 1) (h : (x + 1) * (P * 2) ≤ 1000000) : (2 * x + c + 1) * P ≤ 1000000 := by
  have h1 : (2 * x + c + 1) * P ≤ (2 * x + 2) * P := Int.mul_le_mul_of_nonneg_right (by omega) (by omega)
  have h2 : (x + 1) * (P * 2) = (2 * x + 2) * P := by rw [Int.mul_comm P 2, ← Int.mul_assoc, show (x + 1) * 2 = 2 * x + 2 by omega]
  omega
theorem grow4 {x P : Int} (hP : 0 < P) (c : Int) (hc : c ≤ 3) (h : (x + 1) * (P * 4) ≤ 1000000) : (4 * x + c + 1) * P ≤ 1000000 := by
  have h1 : (4 * x + c + 1) * P ≤ (4 * x + 4) * P := Int.mul_le_mul_of_nonneg_right (by omega) (by omega)
  have h2 : (x + 1) * (P * 4) = (4 * x + 4) * P := by rw [Int.mul_comm P 4, ← Int.mul_assoc, show (x + 1) * 4 = 4 * x + 4 by omega]
  omega
theorem small {x P : Int} (hx : 0 ≤ x) (hP : 0 < P) (h : (x + 1) * P ≤ 1000000) : x < 1000000 := by
  have : (x + 1) * 1 ≤ (x + 1) * P := Int.mul_le_mul_of_nonneg_left (by omega) (by omega)
  omega
theorem whP_eq (p : Int) (p0 : 0 ≤ p) (p1 : p < 2 ^ 63) : ∀ (i : Nat) (x y : Int), 0 ≤ x → 0 ≤ y → (x + 1) * 2 ^ i ≤ 1000000 → (y + 1) * 2 ^ i ≤ 1000000 → whP i p x y = whQ i p x y
  | 0, _, _, _, _, _, _ => rfl
  | i + 1, x, y, hx, hy, bx, bY => by
    have sx := small hx (pow_pos (i + 1)) bx
    have sy := small hy (pow_pos (i + 1)) bY
    have d1 := div_lt p0 p1 (2 * i + 1)
    have d0 := div_lt p0 p1 (2 * i)
    simp only [whP, whQ]
    rw [and_one d1.1 d1.2, and_one d0.1 d0.2]
    rw [Int.pow_succ] at bx bY
    have m1 := Int.emod_two_eq (p / 2 ^ (2 * i + 1))
    have m0 := Int.emod_two_eq (p / 2 ^ (2 * i))
    have e1 : wrap64 (wrap64 (2 * x) + p / 2 ^ (2 * i + 1) % 2) = 2 * x + p / 2 ^ (2 * i + 1) % 2 := by unfold wrap64; omega
    have e0 : wrap64 (wrap64 (2 * y) + p / 2 ^ (2 * i) % 2) = 2 * y + p / 2 ^ (2 * i) % 2 := by unfold wrap64; omega
    rw [e1, e0]
    exact whP_eq p p0 p1 i _ _ (by omega) (by omega) (grow2 (pow_pos i) _ (by omega) bx) (grow2 (pow_pos i) _ (by omega) bY)
theorem cP_div (x y : Int) : ∀ (i : Nat) (p : Int), cP i x y p / 4 ^ i = p
  | 0, p => by simp [cP]
  | i + 1, p => by
    simp only [cP]
    rw [Int.pow_succ, ← Int.ediv_ediv_of_nonneg (by have := pow4_pos i; omega), cP_div x y i]
    have m1 := Int.emod_two_eq (x / 2 ^ i)
    have m0 := Int.emod_two_eq (y / 2 ^ i)
    omega
theorem emod2 (x P : Int) (hP : 0 < P) : x % (P * 2) = P * (x / P % 2) + x % P := by
  rw [Int.emod_def x (P * 2), Int.emod_def (x / P) 2, Int.emod_def x P, ← Int.ediv_ediv_of_nonneg (by omega), Int.mul_sub, Int.mul_assoc]
  omega
theorem emod4 (x P : Int) (hP : 0 < P) : x % (P * 4) = P * (2 * (x / P / 2 % 2) + x / P % 2) + x % P := by
  rw [show P * 4 = P * 2 * 2 by omega, emod2 x (P * 2) (by omega), emod2 x P hP, ← Int.ediv_ediv_of_nonneg (by omega), Int.mul_add, Int.mul_assoc]
  omega
theorem two_mul_add (X b P : Int) : (2 * X + b) * P = X * (P * 2) + P * b := by
  rw [Int.add_mul, Int.mul_comm b P, Int.mul_comm P 2, ← Int.mul_assoc X 2 P, Int.mul_comm X 2]
theorem whQ_cP (x y : Int) : ∀ (i : Nat) (p X Y : Int), whQ i (cP i x y p) X Y = (X * 2 ^ i + x % 2 ^ i, Y * 2 ^ i + y % 2 ^ i)
  | 0, p, X, Y => by simp [whQ, cP, Int.emod_one]
  | i + 1, p, X, Y => by
    have hd := cP_div x y i (4 * p + 2 * (x / 2 ^ i % 2) + y / 2 ^ i % 2)
    simp only [whQ, cP]
    rw [whQ_cP x y i, pow42, hd, Int.pow_succ, ← Int.ediv_ediv_of_nonneg (by have := pow_pos (2 * i); omega), pow42, hd]
    have m1 := Int.emod_two_eq (x / 2 ^ i)
    have m0 := Int.emod_two_eq (y / 2 ^ i)
    have hb1 : (4 * p + 2 * (x / 2 ^ i % 2) + y / 2 ^ i % 2) / 2 % 2 = x / 2 ^ i % 2 := by omega
    have hb0 : (4 * p + 2 * (x / 2 ^ i % 2) + y / 2 ^ i % 2) % 2 = y / 2 ^ i % 2 := by omega
    rw [hb1, hb0, Int.pow_succ 2 i, emod2 x _ (pow_pos i), emod2 y _ (pow_pos i), two_mul_add, two_mul_add]
    congr 1 <;> omega
theorem whQ_div (q : Int) : ∀ (i : Nat) (X Y : Int), (whQ i q X Y).1 / 2 ^ i = X ∧ (whQ i q X Y).2 / 2 ^ i = Y
  | 0, X, Y => by simp [whQ]
  | i + 1, X, Y => by
    have h := whQ_div q i (2 * X + q / 2 ^ (2 * i + 1) % 2) (2 * Y + q / 2 ^ (2 * i) % 2)
    simp only [whQ]
    have m1 := Int.emod_two_eq (q / 2 ^ (2 * i + 1))
    have m0 := Int.emod_two_eq (q / 2 ^ (2 * i))
    rw [Int.pow_succ 2 i, ← Int.ediv_ediv_of_nonneg (Int.le_of_lt (pow_pos i)), ← Int.ediv_ediv_of_nonneg (Int.le_of_lt (pow_pos i)), h.1, h.2]
    omega
theorem cP_whQ (q : Int) : ∀ (i : Nat) (X Y p : Int), cP i (whQ i q X Y).1 (whQ i q X Y).2 p = p * 4 ^ i + q % 4 ^ i
  | 0, X, Y, p => by simp [whQ, cP, Int.emod_one]
  | i + 1, X, Y, p => by
    have hd := whQ_div q i (2 * X + q / 2 ^ (2 * i + 1) % 2) (2 * Y + q / 2 ^ (2 * i) % 2)
    simp only [whQ, cP]
    rw [hd.1, hd.2, cP_whQ q i]
    have hp := pow4_pos i
    have m1 := Int.emod_two_eq (q / 2 ^ (2 * i + 1))
    have m0 := Int.emod_two_eq (q / 2 ^ (2 * i))
    have e1 : (2 * X + q / 2 ^ (2 * i + 1) % 2) % 2 = q / 2 ^ (2 * i + 1) % 2 := by omega
    have e0 : (2 * Y + q / 2 ^ (2 * i) % 2) % 2 = q / 2 ^ (2 * i) % 2 := by omega
    rw [e1, e0, Int.pow_succ 4 i, emod4 q _ hp, Int.pow_succ 2 (2 * i), ← Int.ediv_ediv_of_nonneg (by have := pow_pos (2 * i); omega), pow42]
    generalize (4 : Int) ^ i = P at *
    generalize q / P / 2 % 2 = b
    generalize q / P % 2 = c
    rw [Int.add_assoc, Int.add_mul, Int.mul_comm (2 * b + c) P, Int.mul_comm P 4, ← Int.mul_assoc p 4 P, Int.mul_comm p 4]
    omega
theorem cP_le (x y : Int) : ∀ (i : Nat) (p : Int), 0 ≤ p → 0 ≤ cP i x y p ∧ cP i x y p < (p + 1) * 4 ^ i
  | 0, p, h => by simp only [cP, Int.pow_zero]; omega
  | i + 1, p, h => by
    have m1 := Int.emod_two_eq (x / 2 ^ i)
    have m0 := Int.emod_two_eq (y / 2 ^ i)
    have := cP_le x y i (4 * p + 2 * (x / 2 ^ i % 2) + y / 2 ^ i % 2) (by omega)
    simp only [cP]
    refine ⟨this.1, ?_⟩
    have h1 : (4 * p + 2 * (x / 2 ^ i % 2) + y / 2 ^ i % 2 + 1) * 4 ^ i ≤ (4 * p + 4) * 4 ^ i := Int.mul_le_mul_of_nonneg_right (by omega) (by have := pow4_pos i; omega)
    have h2 : (p + 1) * 4 ^ (i + 1) = (4 * p + 4) * 4 ^ i := by rw [Int.pow_succ, Int.mul_comm (4 ^ i) 4, ← Int.mul_assoc, show (p + 1) * 4 = 4 * p + 4 by omega]
    omega
theorem mask_cell_l0 (x y : Int) (x0 : 0 ≤ x) (x1 : x < 2 ^ 63) (y0 : 0 ≤ y) (y1 : y < 2 ^ 63) : ∀ (i fuel : Nat) (p : Int), i ≤ 60 → i < fuel → 0 ≤ p → (p + 1) * 4 ^ i ≤ 1000000 → mask_cell.l0 fuel x y p ((i : Int) - 1) = some (cP i x y p)
  | 0, fuel, p, hi, hf, hp, hb => by
    obtain ⟨fuel, rfl⟩ : ∃ m, fuel = m + 1 := ⟨fuel - 1, by omega⟩
    simp only [mask_cell.l0]
    rw [if_neg (by omega)]
    rfl
  | i + 1, fuel, p, hi, hf, hp, hb => by
    obtain ⟨fuel, rfl⟩ : ∃ m, fuel = m + 1 := ⟨fuel - 1, by omega⟩
    have sp := small hp (pow4_pos (i + 1)) hb
    have hi1 : ((i + 1 : Nat) : Int) - 1 = i := by omega
    have dx := div_lt x0 x1 i
    have dy := div_lt y0 y1 i
    have sh : ∀ z : Int, shr .i64 z (i : Int) = z / 2 ^ i := fun z => by unfold shr; rw [Int.toNat_natCast, Nat.min_eq_left (show i ≤ IntKind.i64.bits from (by omega : i ≤ 64))]
    have m1 := Int.emod_two_eq (x / 2 ^ i)
    have m0 := Int.emod_two_eq (y / 2 ^ i)
    simp only [mask_cell.l0]
    rw [hi1, if_pos (by omega), if_pos (by omega), sh, sh, and_one dx.1 dx.2, and_one dy.1 dy.2]
    have e1 : wrap64 (wrap64 (wrap64 (4 * p) + wrap64 (2 * (x / 2 ^ i % 2))) + y / 2 ^ i % 2) = 4 * p + 2 * (x / 2 ^ i % 2) + y / 2 ^ i % 2 := by unfold wrap64; omega
    have e2 : wrap64 ((i : Int) - 1) = (i : Int) - 1 := by unfold wrap64; omega
    rw [e1, e2, Int.add_assoc]
    rw [Int.pow_succ] at hb
    have := mask_cell_l0 x y x0 x1 y0 y1 i fuel (4 * p + (2 * (x / 2 ^ i % 2) + y / 2 ^ i % 2)) (by omega) (by omega) (by omega) (grow4 (pow4_pos i) _ (by omega) hb)
    rw [this]
    simp only [cP]
    rw [Int.add_assoc]
theorem chkW0 : chkW 0 = true := by kernel_rfl
theorem chkW1 : chkW 1 = true := by kernel_rfl
theorem chkW2 : chkW 2 = true := by kernel_rfl
theorem chkW3 : chkW 3 = true := by kernel_rfl
theorem chkW4 : chkW 4 = true := by kernel_rfl
theorem chkW5 : chkW 5 = true := by kernel_rfl
theorem chkW6 : chkW 6 = true := by kernel_rfl
theorem chkW7 : chkW 7 = true := by kernel_rfl
theorem chkW8 : chkW 8 = true := by kernel_rfl
theorem chkW9 : chkW 9 = true := by kernel_rfl
theorem chkW10 : chkW 10 = true := by kernel_rfl
theorem chkW11 : chkW 11 = true := by kernel_rfl
theorem chkW_all (j : Nat) (h : j ≤ 11) : chkW j = true := by
  have : j = 0 ∨ j = 1 ∨ j = 2 ∨ j = 3 ∨ j = 4 ∨ j = 5 ∨ j = 6 ∨ j = 7 ∨ j = 8 ∨ j = 9 ∨ j = 10 ∨ j = 11 := by omega
  rcases this with h | h | h | h | h | h | h | h | h | h | h | h <;> subst h
  · exact chkW0
  · exact chkW1
  · exact chkW2
  · exact chkW3
  · exact chkW4
  · exact chkW5
  · exact chkW6
  · exact chkW7
  · exact chkW8
  · exact chkW9
  · exact chkW10
  · exact chkW11
theorem with_f (j : Nat) (hj : j ≤ 11) (a n i : Int) (b : Bool) (ha : 0 ≤ a) (hb : a * 2 ^ (j + 1) < 4096) (hn : n ≤ 100) (hi : 0 ≤ i) (hni : n - 1 - i = j) :
    cantingref02_with.f n (a * 2 ^ (j + 1)) i b = some (a * 2 ^ (j + 1) + if b then 2 ^ j else 0) := by
  have hW := chkW_all j hj
  unfold chkW at hW
  rw [List.all_eq_true] at hW
  have hlt : a.toNat < 2 ^ (11 - j) := by
    apply Classical.byContradiction
    intro hge
    have h1 : (2 : Int) ^ (11 - j) ≤ a := by have := pow_cast (11 - j); omega
    have h2 : (2 : Int) ^ (11 - j) * 2 ^ (j + 1) ≤ a * 2 ^ (j + 1) := Int.mul_le_mul_of_nonneg_right h1 (Int.le_of_lt (pow_pos _))
    rw [← Int.pow_add, show 11 - j + (j + 1) = 12 by omega] at h2
    have h3 : (2 : Int) ^ 12 = 4096 := by decide
    omega
  have h := hW a.toNat (by rw [List.mem_range]; exact hlt)
  rw [Int.toNat_of_nonneg ha] at h
  simp only [Bool.and_eq_true, decide_eq_true_eq] at h
  have e1 : wrap64 (wrap64 (n - 1) - i) = j := by unfold wrap64; omega
  have e2 : shl .i64 1 (j : Int) = 2 ^ j := by
    unfold shl
    rw [Int.toNat_natCast, Nat.min_eq_left (show j ≤ IntKind.i64.bits from (by omega : j ≤ 64)), Int.one_mul]
    refine wraps_i64 _ (Int.le_of_lt (pow_pos j)) ?_
    have h1 := Nat.pow_le_pow_right (n := 2) (by omega) hj
    have h2 := pow_cast j
    have h3 : 2 ^ 11 = 2048 := by decide
    have h4 : (2 : Int) ^ 63 = 9223372036854775808 := by decide
    omega
  unfold cantingref02_with.f
  rw [e1, if_pos (by omega), e2, h.1]
  cases b
  · simp
  · simp [h.2]
theorem beq_one {z : Int} (h : z = 0 ∨ z = 1) (P : Int) : (if (z == 1) = true then P else 0) = z * P := by
  rcases h with rfl | rfl <;> simp
theorem point_l0 (k : Nat) (hk : k ≤ 6) (x y : Int) (x0 : 0 ≤ x) (x1 : x < 2 ^ 63) (y0 : 0 ≤ y) (y1 : y < 2 ^ 63) : ∀ (r fuel : Nat) (p : Int), r ≤ k → r < fuel → 0 ≤ p → (p + 1) * 4 ^ r ≤ 4096 →
    cantingref02_Point.l0 fuel k x y (p * 4 ^ r) k ((k : Int) - r) = some (cP r x y p)
  | 0, fuel, p, hr, hf, hp, hb => by
    obtain ⟨fuel, rfl⟩ : ∃ m, fuel = m + 1 := ⟨fuel - 1, by omega⟩
    simp only [cantingref02_Point.l0]
    rw [if_neg (by omega)]
    simp [cP]
  | r + 1, fuel, p, hr, hf, hp, hb => by
    obtain ⟨fuel, rfl⟩ : ∃ m, fuel = m + 1 := ⟨fuel - 1, by omega⟩
    have dx := div_lt x0 x1 r
    have dy := div_lt y0 y1 r
    have sh : ∀ z : Int, shr .i64 z (r : Int) = z / 2 ^ r := fun z => by unfold shr; rw [Int.toNat_natCast, Nat.min_eq_left (show r ≤ IntKind.i64.bits from (by omega : r ≤ 64))]
    have m1 := Int.emod_two_eq (x / 2 ^ r)
    have m0 := Int.emod_two_eq (y / 2 ^ r)
    have e1 : wrap64 (wrap64 ((k : Int) - 1) - ((k : Int) - ((r + 1 : Nat) : Int))) = r := by unfold wrap64; omega
    have e2 : wrap64 (2 * (k : Int)) = 2 * k := by unfold wrap64; omega
    have e3 : wrap64 (2 * ((k : Int) - ((r + 1 : Nat) : Int))) = 2 * ((k : Int) - ((r + 1 : Nat) : Int)) := by unfold wrap64; omega
    have e4 : wrap64 (2 * ((k : Int) - ((r + 1 : Nat) : Int)) + 1) = 2 * ((k : Int) - ((r + 1 : Nat) : Int)) + 1 := by unfold wrap64; omega
    have e5 : wrap64 ((k : Int) - ((r + 1 : Nat) : Int) + 1) = (k : Int) - r := by unfold wrap64; omega
    have P0 := pow4_pos r
    have q4 : (4 : Int) ^ (r + 1) = 2 ^ (2 * r + 1 + 1) := by rw [← pow42]; rfl
    have hP2 : (2 : Int) ^ (2 * r + 1) = 4 ^ r * 2 := by rw [Int.pow_succ, pow42]
    have hP3 : (2 : Int) ^ (2 * r + 1 + 1) = 4 ^ r * 4 := by rw [Int.pow_succ, hP2]; omega
    have b1 : (p + 1) * (4 ^ r * 4) = (4 * p + 4) * 4 ^ r := by rw [Int.mul_comm (4 ^ r) 4, ← Int.mul_assoc, show (p + 1) * 4 = 4 * p + 4 by omega]
    have b2 : p * (4 ^ r * 4) = (4 * p) * 4 ^ r := by rw [Int.mul_comm (4 ^ r) 4, ← Int.mul_assoc, Int.mul_comm p 4]
    have b3 : (4 * p) * 4 ^ r ≤ (4 * p + 3) * 4 ^ r := Int.mul_le_mul_of_nonneg_right (by omega) (by omega)
    have b4 : (4 * p + 3) * 4 ^ r < (4 * p + 4) * 4 ^ r := Int.mul_lt_mul_of_pos_right (by omega) P0
    rw [q4, hP3] at hb
    simp only [cantingref02_Point.l0]
    rw [if_pos (by omega), e1, if_pos (by omega), e2, e3, e4, e5, sh, sh, and_one dx.1 dx.2, and_one dy.1 dy.2, q4]
    rw [with_f (2 * r + 1) (by omega) p _ _ _ hp (by rw [hP3]; omega) (by omega) (by omega) (by omega), beq_one m1]
    simp only [Option.bind_some]
    have t1 : p * 2 ^ (2 * r + 1 + 1) + x / 2 ^ r % 2 * 2 ^ (2 * r + 1) = (2 * p + x / 2 ^ r % 2) * 2 ^ (2 * r + 1) := by
      rw [Int.add_mul, Int.pow_succ 2 (2 * r + 1), Int.mul_comm (2 ^ (2 * r + 1)) 2, ← Int.mul_assoc, Int.mul_comm p 2]
    have b5 : (2 * p + x / 2 ^ r % 2) * (4 ^ r * 2) = (4 * p + 2 * (x / 2 ^ r % 2)) * 4 ^ r := by rw [Int.mul_comm (4 ^ r) 2, ← Int.mul_assoc, show (2 * p + x / 2 ^ r % 2) * 2 = 4 * p + 2 * (x / 2 ^ r % 2) by omega]
    have b6 : (4 * p + 2 * (x / 2 ^ r % 2)) * 4 ^ r ≤ (4 * p + 3) * 4 ^ r := Int.mul_le_mul_of_nonneg_right (by omega) (by omega)
    rw [t1, with_f (2 * r) (by omega) (2 * p + x / 2 ^ r % 2) _ _ _ (by omega) (by rw [hP2]; omega) (by omega) (by omega) (by omega), beq_one m0]
    simp only [Option.bind_some]
    have t2 : (2 * p + x / 2 ^ r % 2) * 2 ^ (2 * r + 1) + y / 2 ^ r % 2 * 2 ^ (2 * r) = (4 * p + 2 * (x / 2 ^ r % 2) + y / 2 ^ r % 2) * 4 ^ r := by
      rw [hP2, b5, pow42, ← Int.add_mul]
    rw [t2]
    have b7 : (4 * p + 2 * (x / 2 ^ r % 2) + y / 2 ^ r % 2 + 1) * 4 ^ r ≤ (4 * p + 4) * 4 ^ r := Int.mul_le_mul_of_nonneg_right (by omega) (by omega)
    rw [point_l0 k hk x y x0 x1 y0 y1 r fuel (4 * p + 2 * (x / 2 ^ r % 2) + y / 2 ^ r % 2) (by omega) (by omega) (by omega) (by omega)]
    rfl

theorem p4_le (k : Nat) (h : k ≤ 6) : (4 : Int) ^ k ≤ 4096 := by
  have h1 := Nat.pow_le_pow_right (n := 4) (by omega) h
  have h2 : ((4 ^ k : Nat) : Int) = (4 : Int) ^ k := Int.natCast_pow 4 k
  have h3 : 4 ^ 6 = 4096 := rfl
  omega
theorem p2_le (k : Nat) (h : k ≤ 6) : (2 : Int) ^ k ≤ 64 := by
  have h1 := Nat.pow_le_pow_right (n := 2) (by omega) h
  have h2 := pow_cast k
  have h3 : 2 ^ 6 = 64 := rfl
  omega
/-- The point of a cell. -/
theorem point_ok (k : Nat) (h : k ≤ 6) (x y : Int) (x0 : 0 ≤ x) (x1 : x < 2 ^ k) (y0 : 0 ≤ y) (y1 : y < 2 ^ k) :
    ∃ p : Int, mask_cell.f 20 k x y = some p ∧ cantingref02_Point.f 20 k x y = some p ∧ 0 ≤ p ∧ p < 4 ^ k ∧ whP k p 0 0 = (x, y) := by
  have h2 := p2_le k h
  have h4 := p4_le k h
  have h63 : (2 : Int) ^ 63 = 9223372036854775808 := by decide
  have hc := cP_le x y k 0 (by omega)
  have ew : wrap64 ((k : Int) - 1) = (k : Int) - 1 := by unfold wrap64; omega
  refine ⟨cP k x y 0, ?_, ?_, hc.1, by omega, ?_⟩
  · unfold mask_cell.f
    rw [ew]
    exact mask_cell_l0 x y x0 (by omega) y0 (by omega) k 20 0 (by omega) (by omega) (by omega) (by omega)
  · unfold cantingref02_Point.f
    have := point_l0 k h x y x0 (by omega) y0 (by omega) k 20 0 (by omega) (by omega) (by omega) (by omega)
    rw [Int.zero_mul, Int.sub_self] at this
    exact this
  · rw [whP_eq _ hc.1 (by omega) k 0 0 (by omega) (by omega) (by omega) (by omega), whQ_cP, Int.emod_eq_of_lt x0 x1, Int.emod_eq_of_lt y0 y1]
    simp
theorem where_ok (k : Nat) (h : k ≤ 6) (q : Int) (q0 : 0 ≤ q) (q1 : q < 4 ^ k) :
    0 ≤ (whP k q 0 0).1 ∧ (whP k q 0 0).1 < 2 ^ k ∧ 0 ≤ (whP k q 0 0).2 ∧ (whP k q 0 0).2 < 2 ^ k ∧ mask_cell.f 20 k (whP k q 0 0).1 (whP k q 0 0).2 = some q := by
  have h2 := p2_le k h
  have h4 := p4_le k h
  have h63 : (2 : Int) ^ 63 = 9223372036854775808 := by decide
  have hp := pow_pos k
  have ew : wrap64 ((k : Int) - 1) = (k : Int) - 1 := by unfold wrap64; omega
  rw [whP_eq _ q0 (by omega) k 0 0 (by omega) (by omega) (by omega) (by omega)]
  have hd := whQ_div q k 0 0
  have hc := cP_whQ q k 0 0 0
  have d1 : 0 ≤ (whQ k q 0 0).1 ∧ (whQ k q 0 0).1 < 2 ^ k := by
    have e := Int.emod_add_mul_ediv (whQ k q 0 0).1 (2 ^ k)
    rw [hd.1, Int.mul_zero, Int.add_zero] at e
    rw [← e]
    exact ⟨Int.emod_nonneg _ (by omega), Int.emod_lt_of_pos _ hp⟩
  have d2 : 0 ≤ (whQ k q 0 0).2 ∧ (whQ k q 0 0).2 < 2 ^ k := by
    have e := Int.emod_add_mul_ediv (whQ k q 0 0).2 (2 ^ k)
    rw [hd.2, Int.mul_zero, Int.add_zero] at e
    rw [← e]
    exact ⟨Int.emod_nonneg _ (by omega), Int.emod_lt_of_pos _ hp⟩
  refine ⟨d1.1, d1.2, d2.1, d2.2, ?_⟩
  unfold mask_cell.f
  rw [ew, mask_cell_l0 _ _ d1.1 (by omega) d2.1 (by omega) k 20 0 (by omega) (by omega) (by omega) (by omega), hc, Int.zero_mul, Int.zero_add, Int.emod_eq_of_lt q0 q1]
end Go.Proofs.Ytlplphgoldkoeaa.HTab

end

section
/- The plain law: the reference's Rect, and MaskRects. -/
namespace Go.Proofs.Ytlplphgoldkoeaa.HTab
open Go.RowKit Go.Proofs.YtlplphgoldkoeaaW.PrintWords Go.Proofs.YtlplphgoldkoeaaW.PrintLast Go.Proofs.YtlplphgoldkoeaaW.PrintMore Go.Proofs.Ytlplphgoldkoeaa.HMap Go.Proofs.Ytlplphgoldkoeaa.X
set_option linter.unusedVariables false
set_option linter.unusedSimpArgs false

theorem point_more {k x y p : Int} (h : cantingref02_Point.f 20 k x y = some p) : ∀ m : Nat, cantingref02_Point.f (20 + m) k x y = some p
  | 0 => h
  | m + 1 => cantingref02_Point.mono k x y (20 + m) _ (point_more h m)
theorem cell_more {k x y p : Int} (h : mask_cell.f 20 k x y = some p) : ∀ m : Nat, mask_cell.f (20 + m) k x y = some p
  | 0 => h
  | m + 1 => mask_cell.mono k x y (20 + m) _ (cell_more h m)
theorem set_range (g : Nat → Bool) (N p : Nat) : ((List.range N).map g).set p true = (List.range N).map (fun q => decide (q = p) || g q) := by
  apply List.ext_getElem
  · simp
  · intro i h1 h2
    simp only [List.length_set, List.length_map, List.length_range] at h1
    rw [List.getElem_set]
    simp only [List.getElem_map, List.getElem_range]
    by_cases h : p = i
    · subst h; simp
    · rw [if_neg h]
      have : ¬ i = p := fun e => h e.symm
      simp [this]

section
variable (k : Nat) (x0 y0 x1 y1 : Int)
def colG (x : Int) (q : Nat) : Bool := decide (x0 ≤ (whP k q 0 0).1 ∧ (whP k q 0 0).1 < x ∧ y0 ≤ (whP k q 0 0).2 ∧ (whP k q 0 0).2 ≤ y1)
def midG (x y : Int) (q : Nat) : Bool := decide ((x0 ≤ (whP k q 0 0).1 ∧ (whP k q 0 0).1 < x ∧ y0 ≤ (whP k q 0 0).2 ∧ (whP k q 0 0).2 ≤ y1) ∨ ((whP k q 0 0).1 = x ∧ y0 ≤ (whP k q 0 0).2 ∧ (whP k q 0 0).2 < y))
theorem rect_l1 (hk : k ≤ 6) (x : Int) (hx0 : x0 ≤ x) (hx : 0 ≤ x) (hx1 : x < 2 ^ k) (hy0 : 0 ≤ y0) (hy1 : y1 < 2 ^ k) : ∀ (e fuel : Nat) (y : Int), y0 ≤ y → (y ≤ y1 + 1 ∨ y = y0) → (y1 + 1 - y).toNat = e → e + 40 ≤ fuel →
    ∃ fuel', fuel ≤ fuel' + e + 1 ∧ cantingref02_Rect.l1 fuel k y0 x1 y1 ((List.range (4 ^ k)).map (midG k x0 y0 y1 x y)) x y = cantingref02_Rect.l0 fuel' k y0 x1 y1 ((List.range (4 ^ k)).map (colG k x0 y0 y1 (x + 1))) (x + 1)
  | 0, fuel, y, hy, hyy, he, hf => by
    obtain ⟨fuel, rfl⟩ : ∃ m, fuel = m + 1 := ⟨fuel - 1, by omega⟩
    refine ⟨fuel, by omega, ?_⟩
    have hp : (2 : Int) ^ k ≤ 2 ^ 6 := by
      have := Nat.pow_le_pow_right (n := 2) (by omega) hk
      have h1 := pow_cast k
      have h2 := pow_cast 6
      omega
    have h64 : (2 : Int) ^ 6 = 64 := rfl
    simp only [cantingref02_Rect.l1]
    rw [if_neg (by omega), w64_inc hx (by omega)]
    congr 1
    apply List.map_congr_left
    intro q _
    unfold midG colG
    rw [decide_eq_decide]
    omega
  | e + 1, fuel, y, hy, hyy, he, hf => by
    obtain ⟨fuel, rfl⟩ : ∃ m, fuel = 20 + m + 1 := ⟨fuel - 21, by omega⟩
    have hp : (2 : Int) ^ k ≤ 2 ^ 6 := by
      have := Nat.pow_le_pow_right (n := 2) (by omega) hk
      have h1 := pow_cast k
      have h2 := pow_cast 6
      omega
    have h64 : (2 : Int) ^ 6 = 64 := rfl
    obtain ⟨p, hp1, hp2, hp3, hp4, hp5⟩ := point_ok k hk x y hx hx1 (by omega) (by omega)
    have h4 : ((4 ^ k : Nat) : Int) = (4 : Int) ^ k := Int.natCast_pow 4 k
    obtain ⟨fuel', hf', hl⟩ := rect_l1 hk x hx0 hx hx1 hy0 hy1 e (20 + fuel) (y + 1) (by omega) (by omega) (by omega) (by omega)
    refine ⟨fuel', by omega, ?_⟩
    rw [← hl]
    simp only [cantingref02_Rect.l1]
    rw [if_pos (by omega), point_more hp2 fuel]
    simp only [Option.bind_some]
    rw [if_pos hp3, if_pos (by rw [List.length_map, List.length_range]; omega), w64_inc (by omega) (by omega), set_range]
    congr 1
    apply List.map_congr_left
    intro q hq
    rw [List.mem_range] at hq
    unfold midG
    rw [Bool.eq_iff_iff]
    simp only [Bool.or_eq_true, decide_eq_true_eq]
    have hinj : q = p.toNat ↔ ((whP k q 0 0).1 = x ∧ (whP k q 0 0).2 = y) := by
      constructor
      · intro h
        rw [h, Int.toNat_of_nonneg hp3, hp5]
        exact ⟨rfl, rfl⟩
      · rintro ⟨h1, h2⟩
        obtain ⟨_, _, _, _, h5⟩ := where_ok k hk q (by omega) (by omega)
        rw [h1, h2, hp1] at h5
        simp only [Option.some.injEq] at h5
        omega
    rw [hinj]
    omega
theorem rect_l0 (hk : k ≤ 6) (hx0 : 0 ≤ x0) (hx1 : x1 < 2 ^ k) (hy0 : 0 ≤ y0) (hy0' : y0 < 2 ^ k) (hy1 : y1 < 2 ^ k) : ∀ (d fuel : Nat) (x : Int), x0 ≤ x → (x ≤ x1 + 1 ∨ x = x0) → (x1 + 1 - x).toNat = d → d * 110 + 50 ≤ fuel →
    cantingref02_Rect.l0 fuel k y0 x1 y1 ((List.range (4 ^ k)).map (colG k x0 y0 y1 x)) x =
      (cantingref02_Of.f (wrap64 (2 * (k : Int))) ((List.range (4 ^ k)).map (fun (q : Nat) => rectF k x0 y0 x1 y1 q))).bind fun b => some (b.1, b.2.1, b.2.2, 0)
  | 0, fuel, x, hx, hxx, hd, hf => by
    obtain ⟨fuel, rfl⟩ : ∃ m, fuel = m + 1 := ⟨fuel - 1, by omega⟩
    simp only [cantingref02_Rect.l0]
    rw [if_neg (by omega)]
    congr 2
    apply List.map_congr_left
    intro q _
    unfold colG rectF
    rw [Bool.eq_iff_iff]
    simp only [Bool.and_eq_true, decide_eq_true_eq]
    omega
  | d + 1, fuel, x, hx, hxx, hd, hf => by
    obtain ⟨fuel, rfl⟩ : ∃ m, fuel = m + 1 := ⟨fuel - 1, by omega⟩
    have hp : (2 : Int) ^ k ≤ 2 ^ 6 := by
      have := Nat.pow_le_pow_right (n := 2) (by omega) hk
      have h1 := pow_cast k
      have h2 := pow_cast 6
      omega
    have h64 : (2 : Int) ^ 6 = 64 := rfl
    simp only [cantingref02_Rect.l0]
    rw [if_pos (by omega)]
    have hs : (List.range (4 ^ k)).map (colG k x0 y0 y1 x) = (List.range (4 ^ k)).map (midG k x0 y0 y1 x y0) := by
      apply List.map_congr_left
      intro q _
      unfold midG colG
      rw [decide_eq_decide]
      omega
    rw [hs]
    obtain ⟨fuel', hf', hl⟩ := rect_l1 k x0 y0 x1 y1 hk x hx (by omega) (by omega) hy0 hy1 (y1 + 1 - y0).toNat fuel y0 (by omega) (by omega) rfl (by omega)
    rw [hl]
    exact rect_l0 hk hx0 hx1 hy0 hy0' hy1 d fuel' (x + 1) (by omega) (by omega) (by omega) (by omega)
end

theorem shl1 {k : Int} (h0 : 0 ≤ k) (h : k ≤ 12) : shl .i64 1 k = 2 ^ k.toNat := by
  have : k = 0 ∨ k = 1 ∨ k = 2 ∨ k = 3 ∨ k = 4 ∨ k = 5 ∨ k = 6 ∨ k = 7 ∨ k = 8 ∨ k = 9 ∨ k = 10 ∨ k = 11 ∨ k = 12 := by omega
  rcases this with h | h | h | h | h | h | h | h | h | h | h | h | h <;> rw [h] <;> decide
theorem side_f (k : Int) : cantingref02_Side.f k = some (decide (0 ≤ k ∧ k ≤ 6)) := by
  unfold cantingref02_Side.f
  by_cases h : k ≥ 0
  · rw [if_pos h]; congr 1; rw [decide_eq_decide]; omega
  · rw [if_neg h]; congr 1; symm; rw [decide_eq_false_iff_not]; omega
theorem on_f {k : Int} (h0 : 0 ≤ k) (h : k ≤ 6) (a : Int) : cantingref02_on.f k a = some (decide (0 ≤ a ∧ a < 2 ^ k.toNat)) := by
  unfold cantingref02_on.f
  by_cases ha : a ≥ 0
  · rw [if_pos ha, if_pos h0, shl1 h0 (by omega)]; congr 1; rw [decide_eq_decide]; omega
  · rw [if_neg ha]; congr 1; symm; rw [decide_eq_false_iff_not]; omega
theorem mn_lt (a b c : Int) : c ≤ mn a b ↔ c ≤ a ∧ c ≤ b := by unfold mn; split <;> omega
theorem mx_lt (a b c : Int) : mx a b < c ↔ a < c ∧ b < c := by unfold mx; split <;> omega
theorem cells_pure (k x y : Int) (m : Nat) : ∃ c e, mask_Cell.f (20 + m) k x y = some (c, e) ∧ cantingref02_Cell.f (20 + m) k x y = some (c, e) := by
  unfold mask_Cell.f cantingref02_Cell.f
  rw [side_f]
  by_cases h0 : k < 0
  · rw [if_pos h0, decide_eq_false (by omega)]
    exact ⟨0, 2, rfl, rfl⟩
  rw [if_neg h0]
  by_cases h6 : k > 6
  · rw [if_pos h6, decide_eq_false (by omega)]
    exact ⟨0, 2, rfl, rfl⟩
  rw [if_neg h6, decide_eq_true (by omega)]
  simp only [Option.bind_some, if_true]
  rw [on_f (by omega) (by omega), on_f (by omega) (by omega), shl1 (by omega) (by omega)]
  have hm := mn_lt x y 0
  have hx := mx_lt x y (2 ^ k.toNat)
  simp only [Option.bind_some]
  by_cases hmn : mn x y < 0
  · rw [if_pos hmn]
    by_cases hx0 : 0 ≤ x ∧ x < 2 ^ k.toNat
    · rw [decide_eq_true hx0, if_pos rfl, decide_eq_false (by omega)]
      exact ⟨0, 2, rfl, rfl⟩
    · rw [decide_eq_false hx0]
      exact ⟨0, 2, rfl, rfl⟩
  rw [if_neg hmn, if_pos (by omega)]
  by_cases hmx : mx x y ≥ 2 ^ k.toNat
  · rw [if_pos hmx]
    by_cases hx0 : 0 ≤ x ∧ x < 2 ^ k.toNat
    · rw [decide_eq_true hx0, if_pos rfl, decide_eq_false (by omega)]
      exact ⟨0, 2, rfl, rfl⟩
    · rw [decide_eq_false hx0]
      exact ⟨0, 2, rfl, rfl⟩
  rw [if_neg hmx, decide_eq_true (by omega), if_pos rfl, decide_eq_true (by omega), if_pos rfl]
  obtain ⟨p, hp1, hp2, _⟩ := point_ok k.toNat (by omega) x y (by omega) (by omega) (by omega) (by omega)
  rw [Int.toNat_of_nonneg (by omega)] at hp1 hp2
  rw [cell_more hp1, point_more hp2]
  exact ⟨p, 0, rfl, rfl⟩

theorem pow4 (k : Nat) : (2 : Nat) ^ (2 * k) = 4 ^ k := by rw [Nat.pow_mul]
theorem rects_main (k : Nat) (hk : k ≤ 6) (x0 y0 x1 y1 : Int) (hx0 : 0 ≤ x0) (hx0' : x0 < 2 ^ k) (hx1 : x1 < 2 ^ k) (hy0 : 0 ≤ y0) (hy0' : y0 < 2 ^ k) (hy1 : y1 < 2 ^ k) (m : Nat) :
    ∃ out r, buildP (2 * (k : Int)) (rectF k x0 y0 x1 y1) = some (out, r) ∧ out.length ≤ 4096 ∧ cantingref02_Rect.j0 (8000 + m + 1) k x0 y0 x1 y1 false = some (2 * (k : Int), out.map toR, r, 0) := by
  obtain ⟨out, r, ts, hb, ho, hl⟩ := build_of (2 * k) (by omega) (rectF k x0 y0 x1 y1)
  refine ⟨out, r, hb, hl, ?_⟩
  have hp : (2 : Int) ^ k ≤ 2 ^ 6 := by
    have := Nat.pow_le_pow_right (n := 2) (by omega) hk
    have h1 := pow_cast k
    have h2 := pow_cast 6
    omega
  have h64 : (2 : Int) ^ 6 = 64 := rfl
  have hw : wrap64 (2 * (k : Int)) = 2 * k := by unfold wrap64; omega
  have hsh : shl .i64 1 (2 * (k : Int)) = ((4 ^ k : Nat) : Int) := by
    rw [shl1 (by omega) (by omega), show (2 * (k : Int)).toNat = 2 * k by omega, ← pow_cast, pow4]
  have h4 : 4 ^ k ≤ 4096 := by
    have := Nat.pow_le_pow_right (n := 4) (by omega) hk
    have : 4 ^ 6 = 4096 := rfl
    omega
  have hN : ∀ N : Nat, N = 4 ^ k → cantingref02_Rect.j0 (8000 + m + 1) k x0 y0 x1 y1 false = cantingref02_Rect.l0 (8000 + m) k y0 x1 y1 (List.replicate N false) x0 := by
    intro N hN
    rw [← hN] at hsh h4
    simp only [cantingref02_Rect.j0]
    rw [if_neg (by simp), hw, if_pos (by omega), hsh, if_pos (by omega), if_pos (by omega), Int.toNat_natCast]
  rw [hN _ rfl]
  have hs : List.replicate (4 ^ k) false = (List.range (4 ^ k)).map (colG k x0 y0 y1 x0) := by
    symm
    rw [List.eq_replicate_iff]
    refine ⟨by simp, ?_⟩
    intro b hb
    rw [List.mem_map] at hb
    obtain ⟨q, _, rfl⟩ := hb
    unfold colG
    rw [decide_eq_false_iff_not]
    omega
  rw [hs, rect_l0 k x0 y0 x1 y1 hk hx0 hx1 hy0 hy0' hy1 (x1 + 1 - x0).toNat (8000 + m) x0 (by omega) (by omega) rfl (by omega), hw]
  rw [pow4] at ho
  unfold cantingref02_Of.f
  rw [if_pos (by rw [List.length_map, List.length_range]; omega), ho]
  rfl
theorem rects_pure (k x0 y0 x1 y1 : Int) (m : Nat) : ∃ p1 l p3 p4, mask_Rect.f k x0 y0 x1 y1 = some (p1, l, p3, p4) ∧ cantingref02_Rect.f (8000 + m + 1) k x0 y0 x1 y1 = some (p1, l.map toR, p3, p4) ∧ l.length ≤ 4096 := by
  unfold mask_Rect.f cantingref02_Rect.f
  rw [side_f]
  have je : cantingref02_Rect.j0 (8000 + m + 1) k x0 y0 x1 y1 true = some (0, [], 0, 2) := by simp only [cantingref02_Rect.j0, if_true]
  by_cases h0 : 0 ≤ k ∧ k ≤ 6
  · rw [decide_eq_true h0]
    simp only [Option.bind_some, if_true]
    rw [on_f h0.1 h0.2, on_f h0.1 h0.2, on_f h0.1 h0.2, on_f h0.1 h0.2]
    simp only [Option.bind_some]
    have m1 := mn_lt (mn (mn x0 y0) x1) y1 0
    have m2 := mn_lt (mn x0 y0) x1 0
    have m3 := mn_lt x0 y0 0
    have n1 := mx_lt (mx (mx x0 y0) x1) y1 (2 ^ k.toNat)
    have n2 := mx_lt (mx x0 y0) x1 (2 ^ k.toNat)
    have n3 := mx_lt x0 y0 (2 ^ k.toNat)
    by_cases hc : k < 0 ∨ 6 < k ∨ mn (mn (mn x0 y0) x1) y1 < 0 ∨ 2 ^ k.toNat ≤ mx (mx (mx x0 y0) x1) y1
    · rw [if_pos hc]
      refine ⟨0, [], 0, 2, rfl, ?_, by simp⟩
      by_cases g0 : 0 ≤ x0 ∧ x0 < 2 ^ k.toNat
      · rw [decide_eq_true g0, if_pos rfl]
        by_cases g1 : 0 ≤ y0 ∧ y0 < 2 ^ k.toNat
        · rw [decide_eq_true g1, if_pos rfl]
          by_cases g2 : 0 ≤ x1 ∧ x1 < 2 ^ k.toNat
          · rw [decide_eq_true g2, if_pos rfl, decide_eq_false (by omega)]
            exact je
          · rw [decide_eq_false g2, if_neg (by simp)]
            exact je
        · rw [decide_eq_false g1, if_neg (by simp)]
          exact je
      · rw [decide_eq_false g0, if_neg (by simp)]
        exact je
    · rw [if_neg hc]
      obtain ⟨out, r, hb, hl, hj⟩ := rects_main k.toNat (by omega) x0 y0 x1 y1 (by omega) (by omega) (by omega) (by omega) (by omega) (by omega) m
      refine ⟨2 * (k.toNat : Int), out, r, 0, ?_, ?_, hl⟩
      · rw [hb]
        simp only [Option.bind_some]
        rw [if_pos (by omega)]
      · rw [decide_eq_true (by omega), if_pos rfl, decide_eq_true (by omega), if_pos rfl, decide_eq_true (by omega), if_pos rfl, decide_eq_true (by omega)]
        rw [Int.toNat_of_nonneg h0.1] at hj ⊢
        exact hj
  · rw [if_pos (by omega), decide_eq_false h0]
    refine ⟨0, [], 0, 2, rfl, ?_, by simp⟩
    simp only [Option.bind_some]
    rw [if_neg (by simp)]
    exact je
/-- All that the walk of MaskRects asks. -/
theorem rects_all (k x0 y0 x1 y1 : Int) : ∃ (fu : Nat) (c e p1 : Int) (l : List S107) (p3 p4 : Int), mask_Cell.f fu k x0 y0 = some (c, e) ∧ cantingref02_Cell.f fu k x0 y0 = some (c, e) ∧
    mask_Rect.f k x0 y0 x1 y1 = some (p1, l, p3, p4) ∧ cantingref02_Rect.f fu k x0 y0 x1 y1 = some (p1, l.map toR, p3, p4) ∧ cantinglaw02_is.f fu p1 l p3 p4 p1 (l.map toR) p3 p4 = some true ∧ cantinglaw02_awake.f fu = some true := by
  obtain ⟨p1, l, p3, p4, h1, h2, h3⟩ := rects_pure k x0 y0 x1 y1 0
  obtain ⟨c, e, h4, h5⟩ := cells_pure k x0 y0 7981
  exact ⟨8001, c, e, p1, l, p3, p4, h4, h5, h1, h2, is_f l (by omega) p1 p3 p4 8001 (by omega), awake_f 8001 (by omega)⟩
end Go.Proofs.Ytlplphgoldkoeaa.HTab

end

section
/- MaskRects: the walk and the plain law. -/
namespace Go.Proofs.Ytlplphgoldkoeaa.HTab
open Go.RowKit Go.Proofs.YtlplphgoldkoeaaW.PrintWords Go.Proofs.YtlplphgoldkoeaaW.PrintLast Go.Proofs.YtlplphgoldkoeaaW.PrintMore Go.Proofs.Ytlplphgoldkoeaa.HMap Go.Proofs.Ytlplphgoldkoeaa.X
theorem rects_walk (k a0 a1 a2 a3 : Int) (w : World) :
    Calls Try.prog 3 #[.int .i64 k, .agg #[.int .i64 a0, .int .i64 a1, .int .i64 a2, .int .i64 a3]] w fun e w' => e = .returned (.bool true) ∧ Below w.heap.size w w' := by
  obtain ⟨fu, c, e, p1, l, p3, p4, h1, h2, h3, h4, h5, h6⟩ := rects_all k a0 a1 a2 a3
  exact rects_calls k a0 a1 a2 a3 fu c e p1 p3 p4 p1 p3 p4 l (l.map toR) w h1 h2 h3 h4 h5 h6
end Go.Proofs.Ytlplphgoldkoeaa.HTab

end

section
/- The row of MaskRects. -/
namespace Go.Proofs.Ytlplphgoldkoeaa.maskRects
open Go.ChangeShapes Go.WideShapes Go.ChangeAt Go.RowKit Go.Proofs.YtlplphgoldkoeaaW.PrintWords Go.Proofs.Ytlplphgoldkoeaa.HTab
open Go.ChangeMaps (open_string shut_string)
set_option linter.unusedVariables false
theorem own : ownKnob Try.prog.godebug = none := by kernel_rfl
theorem laidOut : laidOutB Try.prog = true := by kernel_rfl
set_option maxRecDepth 100000 in
theorem lifted (os : Os) (started : os.Started) (H : Type) (enc : TypeId × Value → H) :
    ReturnsInHanded {} Try.checked os 3 .any (Rows.maskRectsSpec.pre6 enc Try.prog Try.f3 Rows.maskRectsRow.domain false) (Rows.maskRectsSpec.post enc Try.prog Try.f3 false true false false) := by
  refine returnsInHanded_of_change_sized (C := Try.checked) own started (by kernel_rfl) Try.func3
    (ChangeSpec.witness6 (enc := enc) (C := Try.checked) false ⟨#[], #[.int .i64 0, .agg #[.int .i64 0, .int .i64 0, .int .i64 0, .int .i64 0]], []⟩ 8 (by kernel_rfl) (by kernel_rfl) (by kernel_rfl) (by kernel_rfl)) ?_
  intro W base args ds gs before hval0 hW hcnd hsz0 _
  have hsz : (DataW.weightsEach Try.prog (Try.f3.params.toList ++ Rows.maskRectsSpec.plain.varTypes Try.prog) (ds ++ gs)).all (· ≤ reachBytes) = true := hsz0
  have hval : ∀ (j : Nat) t v, Try.f3.params[j]? = some t → args[j]? = some v → Value.okWide Try.prog W .any base t v := hval0
  have hW' := hW
  obtain ⟨p, q, hA0, hV, rfl, hfz, hnd⟩ := hW
  have hA : DataW.TrodAll enc Try.prog W 0 (fun _ => true) true Try.f3.params.toList args.toList ds p := hA0
  rw [Try.params3] at hA hval hsz
  obtain ⟨v0, vs0, d0, ds0, p0, q0, hargs, rfl, rfl, h0, r0⟩ := trodAll_cons hA
  obtain ⟨v1, vs1, d1, ds1, p1, q1, rfl, rfl, rfl, h1, r1⟩ := trodAll_cons r0
  obtain ⟨rfl, rfl, rfl⟩ := trodAll_nil r1
  obtain rfl : args = #[v0, v1] := by cases args; simp_all
  obtain ⟨rfl, rfl⟩ := trodVars_none hV
  obtain ⟨a0, rfl, rfl, rfl, w0⟩ := open_int Try.underlying3 (hval 0 3 v0 rfl rfl) h0
  have k1 := h1
  have lt1 : ∀ x ∈ p1, x.block < W.heap.size := by obtain ⟨m, hm⟩ := k1; exact DataW.trod_lt m _ _ _ hm
  obtain ⟨b1_0, b1_1, b1_2, b1_3, rfl, w1_0, w1_1, w1_2, w1_3⟩ := open_arr4 (hval 1 22 v1 rfl rfl) h1
  clear hA0 hval0 hsz0 hsz
  refine (rects_walk a0 b1_0 b1_1 b1_2 b1_3 W).mono fun e W' ⟨he, bel⟩ => ?_
  subst he
  exact ⟨_, rfl, _, _, _, [], _, [], hW', trodAll_mk1 (shut_bool Try.underlying4 _), (trodAll_cons_mk (shut_int Try.underlying3 w0) (trodAll_cons_mk (Below.trod laidOut (by kernel_rfl) (of_decide_eq_true (by kernel_rfl)) k1 bel lt1) trodAll_mk0)), rfl, bel.frame _, fun h => by cases h⟩
theorem over : Rows.maskRectsRow.holds Try.pinned (OpenSpec.ofChange Rows.maskRectsSpec) :=
  OpenClaim.holds_of_wide 3 Try.f3 rfl rfl rfl rfl rfl rfl rfl ⟨rfl, rfl, rfl, rfl, rfl⟩ rfl rfl rfl rfl rfl (by kernel_rfl) Try.func3 (by kernel_rfl)
    (of_decide_eq_true (by kernel_rfl)) (by unfold Func.isWrapper; first | (rw [if_pos (by decide +kernel)]; kernel_rfl) | (rw [if_neg (by decide +kernel)]; exact ⟨rfl, rfl⟩))
    (fun os started H enc _ => lifted os started H enc)
theorem proved : Rows.MaskRectsSaid := over
end Go.Proofs.Ytlplphgoldkoeaa.maskRects
namespace Go.Proofs.Ytlplphgoldkoeaa
/-- The row, under a short name, for the claim. -/
theorem maskRects_holds : Rows.MaskRectsSaid := maskRects.proved
end Go.Proofs.Ytlplphgoldkoeaa
#print axioms Go.Proofs.Ytlplphgoldkoeaa.maskRects_holds


end
