/- Lemmas of the proof: part Bk. -/
import Derived.Test.YtbamanjedfccpaaBc
section
set_option linter.unusedVariables false
set_option linter.unusedSimpArgs false
namespace Go.Proofs.Ytbamanjedfccpaa.X
open Go.RowKit Go.Proofs.YtbamanjedfccpaaW.PrintWords Go.Proofs.YtbamanjedfccpaaW.PrintLast Go.Proofs.YtbamanjedfccpaaW.PrintMore
attribute [local go_sem] max2_int min2_int max_two min_two max_three min_three max_four min_four   -- for this text's walks alone
set_option linter.unusedVariables false
set_option linter.unusedSimpArgs false
mutual
def cantingref07_Flow.l0 : Nat → List Int → List Int → List (S34) → Int → Int → Int → List (S34) → Option (Int × Bool)
  | 0, _, _, _, _, _, _, _ => none
  | k + 1, x1, x6, x14, x15, x16, x273000, x273001 => if x16 < x15 then (if 0 ≤ x16 then (if x16 < (x14.length : Int) then (if x16 < (x1.length : Int) then (if (rd x1 x16) < 0 then (some (0, false)) else (if (rd x1 x16) > ((rd_T34 x14 x16).f2) then (some (0, false)) else (if 0 ≤ ((rd_T34 x14 x16).f0) then (if ((rd_T34 x14 x16).f0) < (x6.length : Int) then ((some (x6.set (((rd_T34 x14 x16).f0) : Int).toNat (wrap64 ((rd x6 ((rd_T34 x14 x16).f0)) - (rd x1 x16))) : List Int)).bind fun y282 => (if 0 ≤ ((rd_T34 x14 x16).f1) then (if ((rd_T34 x14 x16).f1) < (x6.length : Int) then (cantingref07_Flow.l0 k x1 (y282.set (((rd_T34 x14 x16).f1) : Int).toNat (wrap64 ((rd y282 ((rd_T34 x14 x16).f1)) + (rd x1 x16)))) x14 x15 (wrap64 (x16 + 1)) x273000 x273001) else (none)) else (none))) else (none)) else (none)))) else (none)) else (none)) else (none)) else (cantingref07_Flow.l1 k x6 1 x273000 x273001)
def cantingref07_Flow.l1 : Nat → List Int → Int → Int → List (S34) → Option (Int × Bool)
  | 0, _, _, _, _ => none
  | k + 1, x6, x9, x273000, x273001 => if x9 < (wrap64 (x273000 - 1)) then (if 0 ≤ x9 then (if x9 < (x6.length : Int) then (if (rd x6 x9) = 0 then (cantingref07_Flow.l1 k x6 (wrap64 (x9 + 1)) x273000 x273001) else (some (0, false))) else (none)) else (none)) else (if 0 < (x6.length : Int) then (some (wrap64 (-(rd x6 0)), true)) else (none))
end
def cantingref07_Flow.f (k : Nat) (a0_0 : Int) (l0_1 : List (S34)) (l1 : List Int) : Option (Int × Bool) := if 0 ≤ a0_0 then (if (a0_0 : Int).toNat ≤ 35184372088832 then (cantingref07_Flow.l0 k l1 (List.replicate (a0_0 : Int).toNat 0) l0_1 (l0_1.length : Int) 0 a0_0 l0_1) else (none)) else (none)
theorem cantingref07_Flow.mono_l : ∀ k, (∀ y0 y1 y2 y3 y4 y5 y6, LeO (cantingref07_Flow.l0 k y0 y1 y2 y3 y4 y5 y6) (cantingref07_Flow.l0 (k + 1) y0 y1 y2 y3 y4 y5 y6)) ∧ (∀ y0 y1 y2 y3, LeO (cantingref07_Flow.l1 k y0 y1 y2 y3) (cantingref07_Flow.l1 (k + 1) y0 y1 y2 y3))
  | 0 => ⟨fun _ _ _ _ _ _ _ r h => by simp [cantingref07_Flow.l0] at h, fun _ _ _ _ r h => by simp [cantingref07_Flow.l1] at h⟩
  | k + 1 => by
    obtain ⟨ih0, ih1⟩ := cantingref07_Flow.mono_l k
    refine ⟨?_, ?_⟩
    · intro y0 y1 y2 y3 y4 y5 y6
      unfold cantingref07_Flow.l0
      repeat' first
      | (with_reducible exact ih0 _ _ _ _ _ _ _)
      | (with_reducible exact ih1 _ _ _ _)
      | (with_reducible exact LeO.refl _)
      | (with_reducible exact LeO.none _)
      | (with_reducible refine LeO.ite ?_ ?_)
      | (with_reducible refine LeO.bind ?_ (fun _ => ?_))
      | exact ih0 _ _ _ _ _ _ _
      | exact ih1 _ _ _ _
      | exact LeO.none _
      | refine LeO.ite ?_ ?_
      | refine LeO.bind ?_ (fun _ => ?_)
    · intro y0 y1 y2 y3
      unfold cantingref07_Flow.l1
      repeat' first
      | (with_reducible exact ih0 _ _ _ _ _ _ _)
      | (with_reducible exact ih1 _ _ _ _)
      | (with_reducible exact LeO.refl _)
      | (with_reducible exact LeO.none _)
      | (with_reducible refine LeO.ite ?_ ?_)
      | (with_reducible refine LeO.bind ?_ (fun _ => ?_))
      | exact ih0 _ _ _ _ _ _ _
      | exact ih1 _ _ _ _
      | exact LeO.none _
      | refine LeO.ite ?_ ?_
      | refine LeO.bind ?_ (fun _ => ?_)
theorem cantingref07_Flow.mono : ∀ a0 a1 a2 k, LeO (cantingref07_Flow.f k a0 a1 a2) (cantingref07_Flow.f (k + 1) a0 a1 a2) := by
  intro a0 a1 a2 k
  obtain ⟨ih0, ih1⟩ := cantingref07_Flow.mono_l k
  unfold cantingref07_Flow.f
  repeat' first
      | (with_reducible exact ih0 _ _ _ _ _ _ _)
      | (with_reducible exact ih1 _ _ _ _)
      | (with_reducible exact LeO.refl _)
      | (with_reducible exact LeO.none _)
      | (with_reducible refine LeO.ite ?_ ?_)
      | (with_reducible refine LeO.bind ?_ (fun _ => ?_))
      | exact ih0 _ _ _ _ _ _ _
      | exact ih1 _ _ _ _
      | exact LeO.none _
      | refine LeO.ite ?_ ?_
      | refine LeO.bind ?_ (fun _ => ?_)
def cantingref07_Flow.T5 : Bool × List (List Nat × List Nat) := (true, [([], []), ([], []), ([0, 1], [0, 1]), ([2], [2]), ([3], [3]), ([4], [4]), ([5], [5]), ([5], [5]), ([6, 7, 5], [5, 6, 7]), ([8, 5], [5, 8]), ([5], [5]), ([10, 5], [5, 10]), ([9, 11, 5], [5, 9, 11]), ([5, 12], [5, 12])])
def cantingref07_Flow.B5 : List Nat := [0, 0, 3, 7, 15, 31, 63, 63, 255, 511, 63, 1087, 4095, 8191]
theorem cantingref07_Flow.tab5 : rtab .any (opsOf Try.f22 5) = cantingref07_Flow.T5 := by kernel_rfl
theorem cantingref07_Flow.bits5 : waitsOk cantingref07_Flow.T5.2 cantingref07_Flow.B5 = true := by kernel_rfl
def cantingref07_Flow.T7 : Bool × List (List Nat × List Nat) := (true, [([], []), ([], []), ([1], [1]), ([0, 2], [0, 2]), ([3], [3]), ([], []), ([], []), ([5, 6], [5, 6]), ([7], [7]), ([4, 8], [4, 8]), ([0, 2, 0, 1, 2, 3, 4, 5, 6, 7, 8, 9], [0, 2]), ([10, 9, 0, 1, 2, 3, 4, 5, 6, 7, 8, 9], [9, 10])])
def cantingref07_Flow.B7 : List Nat := [0, 0, 2, 7, 15, 0, 0, 96, 224, 511, 1023, 2047]
theorem cantingref07_Flow.tab7 : rtab .any (opsOf Try.f22 7) = cantingref07_Flow.T7 := by kernel_rfl
theorem cantingref07_Flow.bits7 : waitsOk cantingref07_Flow.T7.2 cantingref07_Flow.B7 = true := by kernel_rfl
def cantingref07_Flow.T8 : Bool × List (List Nat × List Nat) := (true, [([], []), ([], []), ([1], [1]), ([0, 2], [0, 2]), ([3], [3]), ([], []), ([], []), ([5, 6], [5, 6]), ([7], [7]), ([4, 8], [4, 8]), ([0, 2, 0, 1, 2, 3, 4, 5, 6, 7, 8, 9], [0, 2]), ([10, 9, 0, 1, 2, 3, 4, 5, 6, 7, 8, 9], [9, 10])])
def cantingref07_Flow.B8 : List Nat := [0, 0, 2, 7, 15, 0, 0, 96, 224, 511, 1023, 2047]
theorem cantingref07_Flow.tab8 : rtab .any (opsOf Try.f22 8) = cantingref07_Flow.T8 := by kernel_rfl
theorem cantingref07_Flow.bits8 : waitsOk cantingref07_Flow.T8.2 cantingref07_Flow.B8 = true := by kernel_rfl
set_option maxHeartbeats 8000000 in
set_option maxRecDepth 100000 in
theorem cantingref07_Flow.calls (k : Nat) (a0_0 : Int) (A0_1 : Option Addr) (c0_1 : Nat) (l0_1 : List (S34)) (A1 : Option Addr) (c1 : Nat) (l1 : List Int) (r1 : Int) (r2 : Bool) (w : World) (hr0_1 : Kd.C k34 w A0_1 l0_1.length l0_1) (hc0_1 : l0_1.length ≤ c0_1) (hr1 : Kd.C (Kd.int .i64) w A1 l1.length l1) (hc1 : l1.length ≤ c1) (h : cantingref07_Flow.f k a0_0 l0_1 l1 = some (r1, r2)) :
    Calls Try.prog 22 #[.agg #[.int .i64 a0_0, .slice A0_1 l0_1.length c0_1], .slice A1 l1.length c1] w fun e w' => e = .returned (.tuple #[.int .i64 r1, .bool r2]) ∧ Below w.heap.size w w' := by
  have hu24 := Try.underlying24
  have hu34 := Try.underlying34
  have HR0_1 := Aside0.mk hr0_1
  have HC0_1 := Aside0.mk hc0_1
  clear hr0_1 hc0_1
  have HR1 := Aside0.mk hr1
  have HC1 := Aside0.mk hc1
  clear hr1 hc1
  have HB := Aside0.mk (Below.refl w.heap.size w)
  have H : (if 0 ≤ a0_0 then (if (a0_0 : Int).toNat ≤ 35184372088832 then (cantingref07_Flow.l0 k l1 (List.replicate (a0_0 : Int).toNat 0) l0_1 (l0_1.length : Int) 0 a0_0 l0_1) else (none)) else (none)) = some (r1, r2) := h
  clear h
  by_cases c3 : 0 ≤ a0_0
  · rw [if_pos c3] at H
    have c3b0 := eq_true c3
    have c3b1 : decide (0 ≤ a0_0) = true := decide_eq_true c3
    clear c3
    by_cases c4 : (a0_0 : Int).toNat ≤ 35184372088832
    · rw [if_pos c4] at H
      have c4b0 := eq_true c4
      have c4b1 : decide ((a0_0 : Int).toNat ≤ 35184372088832) = true := decide_eq_true c4
      clear c4
      obtain ⟨y273, hy273⟩ : ∃ y_ : List Int, y_ = (List.replicate (a0_0 : Int).toNat 0) := ⟨_, rfl⟩
      replace H : (cantingref07_Flow.l0 k l1 y273 l0_1 (l0_1.length : Int) 0 a0_0 l0_1) = some (r1, r2) := by first | (rw [hy273]; with_reducible exact H) | (have H2_ := (Option.bind_some _ _).symm.trans H; rw [hy273]; with_reducible exact H2_) | (have H2_ := (Option.bind_some _ _).symm.trans H; with_reducible exact H2_) | with_reducible exact H | (rw [hy273]; exact H) | exact H
      have Ny273 := Aside0.mk hy273
      clear hy273
      have H' := Aside0.mk H
      clear H
      go_enter Try.func22, Try.ntmps22
      go_wp2_with (first | ((with_reducible refine gate_dst (N := 2) rfl ?_); refine box_event ?hg (N := 2) ?hd (cs := #[.int .i64 a0_0, .slice A0_1 l0_1.length c0_1]) (t := 24) ?hr ?_; (case hd => rfl); (case hg => rfl); (case hr => first | (go_simp; done) | (go_simp; rfl)); intro gb272 hg w5 hbox hb; have n0_ := Aside0.mk (below_step (by repeat (first | (with_reducible first | exact HB.out | apply below_alloc | apply pw_below_drewN | apply below_drew1) | exact HB.out)) hb); have n1_ := Aside0.mk (hbox); have n2_ := Aside0.mk ((by rw [hg]; exact (below_size (by repeat (first | (with_reducible first | exact HB.out | apply below_alloc | apply pw_below_drewN | apply below_drew1) | exact HB.out))) : w.heap.size ≤ gb272)); have n3_ := Aside0.mk ((by rw [hg]; exact (below_size (by repeat (first | (with_reducible first | exact HB.out | apply below_alloc | apply pw_below_drewN | apply below_drew1) | exact HB.out))) : w.heap.size ≤ gb272)); clear HB; have HB := n0_; have BK272 := n1_; have GW272 := n2_; have GE272 := n3_; clear n0_ n1_ n2_ n3_; clear hb hbox hg; have hcz6_0 : w5.cell? ⟨gb272, 0, none⟩ = some (.int .i64 a0_0) := (blk_cell BK272.out 0).trans rfl; have hcz6_1 : w5.cell? ⟨gb272, 1, none⟩ = some (.slice A0_1 l0_1.length c0_1) := (blk_cell BK272.out 1).trans rfl; have hfz6_0 := blk_frozen BK272.out 0; have hfz6_1 := blk_frozen BK272.out 1) | ((with_reducible refine gate_dst (N := 12) rfl ?_); refine Kd.R_make (Kd.int .i64) _ 3 rfl (N := 12) rfl 40 _ _ rfl a0_0 rfl rfl Try.underlying40 (.int .i64 0) 8 info3 rfl (by decide) (by omega) 0 (ok := fun _ => True) (okp := fun _ => True) rfl (fun _ hk => hk) trivial (of_decide_eq_true (by first | (with_reducible assumption) | assumption)) (Nat.le_trans (Nat.mul_le_mul_right _ (of_decide_eq_true (by first | (with_reducible assumption) | assumption) : a0_0.toNat ≤ 35184372088832)) (by omega)) (Below.refl _ _) (Nat.le_refl _) ?_; intro v274 w7 ho8 hb hg_ hnew_; clear hg_ hnew_; (first | rw [← Ny273.out] at ho8 | (simp only [Int.reduceToNat] at ho8; rw [← Ny273.out] at ho8)); have n0_ := Aside0.mk (Kd.R_lower ho8 (below_size (by repeat (first | (with_reducible first | exact HB.out | apply below_alloc | apply pw_below_drewN | apply below_drew1 | refine below_set ?_ GE272.out) | exact HB.out)))); have n1_ := Aside0.mk (blk_below (g := gb272) (o := .cells #[.int .i64 a0_0, .slice A0_1 l0_1.length c0_1] 24 (0, 0)) (by (with_reducible repeat (first | refine blk_drewN ?_ _ | refine blk_drew ?_ | refine blk_alloc ?_ _)); exact BK272.out) hb); have n2_ := Aside0.mk (below_step (by repeat (first | (with_reducible first | exact HB.out | apply below_alloc | apply pw_below_drewN | apply below_drew1 | refine below_set ?_ GE272.out) | exact HB.out)) hb); clear BK272; clear HB; have HO275 := n0_; have BK272 := n1_; have HB := n2_; clear n0_ n1_ n2_; clear hb ho8; have hcz9_0 : w7.cell? ⟨gb272, 0, none⟩ = some (.int .i64 a0_0) := (blk_cell BK272.out 0).trans rfl; have hcz9_1 : w7.cell? ⟨gb272, 1, none⟩ = some (.slice A0_1 l0_1.length c0_1) := (blk_cell BK272.out 1).trans rfl; have hfz9_0 := blk_frozen BK272.out 0; have hfz9_1 := blk_frozen BK272.out 1))
      go_loopg [16] k (fun kq v16 w' => ∃ (x6_1 : List Int) (x16_1 : Int), v16 = .int .i64 x16_1 ∧ Aside0 (cantingref07_Flow.l0 kq l1 x6_1 l0_1 (l0_1.length : Int) x16_1 a0_0 l0_1 = some (r1, r2)) ∧ Aside0 (kq ≤ k) ∧ Aside0 (Kd.R (Kd.int .i64) 3 w' w.heap.size (fun _ => True) v274 x6_1) ∧ Aside0 (w'.heap[gb272]? = some (.cells #[.int .i64 a0_0, (.slice A0_1 l0_1.length c0_1)] 24 (0, 0))) ∧ Aside0 (Below w.heap.size w w'))
      case atStart => exact ⟨(y273), (0), (by first | rfl | (simp; done) | (simp [*]; done)), H', ⟨Nat.le_refl _⟩, ⟨by (with_reducible repeat (first | apply Kd.R_alloc | apply Kd.R_drewN | apply Kd.R_drew)); exact HO275.out⟩, ⟨by (with_reducible repeat (first | refine blk_drewN ?_ _ | refine blk_drew ?_ | refine blk_alloc ?_ _)); exact BK272.out⟩, ⟨by repeat (first | (with_reducible first | exact HB.out | apply below_alloc | apply pw_below_drewN | apply below_drew1 | refine below_set ?_ GE272.out) | exact HB.out)⟩⟩
      case round =>
        clear H'
        try clear c1
        try clear c2
        try clear p2
        try clear c3
        try clear c3b0
        try clear c3b1
        try clear c4
        try clear c4b0
        try clear c4b1
        try clear hcz6_0
        try clear hcz6_1
        try clear hcz9_0
        try clear hcz9_1
        try clear hfz6_0
        try clear hfz6_1
        try clear hfz9_0
        try clear hfz9_1
        obtain ⟨x6_1, x16_1, rfl, HA, HK1, HO_6, BK272, HB⟩ := hrel
        cases gk with
        | zero => exact absurd HA.out (by simp [cantingref07_Flow.l0])
        | succ k1 =>
          have H := HA.out
          clear HA
          simp only [cantingref07_Flow.l0] at H
          by_cases c10 : x16_1 < (l0_1.length : Int)
          · rw [if_pos c10] at H
            have c10b0 : decide (x16_1 < (l0_1.length : Int)) = true := decide_eq_true c10
            clear c10
            by_cases c11 : 0 ≤ x16_1
            · rw [if_pos c11] at H
              have c11b0 : decide (0 ≤ x16_1) = true := decide_eq_true c11
              clear c11
              by_cases c12 : x16_1 < (l0_1.length : Int)
              · rw [if_pos c12] at H
                have c12b0 : decide (x16_1 < (l0_1.length : Int)) = true := decide_eq_true c12
                clear c12
                by_cases c13 : x16_1 < (l1.length : Int)
                · rw [if_pos c13] at H
                  have c13b0 : decide (x16_1 < (l1.length : Int)) = true := decide_eq_true c13
                  clear c13
                  by_cases c14 : (rd l1 x16_1) < 0
                  · rw [if_pos c14] at H
                    have c14b0 : decide ((rd l1 x16_1) < 0) = true := decide_eq_true c14
                    clear c14
                    simp only [Option.some.injEq, Prod.mk.injEq] at H
                    obtain ⟨rfl, rfl⟩ := H
                    have p276 : 0 ≤ (x16_1 : Int) := of_decide_eq_true (by first | (with_reducible assumption) | assumption)
                    have q276 : x16_1 < (l0_1.length : Int) := of_decide_eq_true (by first | (with_reducible assumption) | assumption)
                    obtain ⟨ad276, e276, hx276_0, hx276_1, hx276_2⟩ := at_T34 HR0_1.out x16_1 p276 q276
                    cases e276
                    replace hx276_0 := (HB.out.cell (World.block_lt_of_cell? w _ hx276_0)).trans hx276_0
                    replace hx276_1 := (HB.out.cell (World.block_lt_of_cell? w _ hx276_1)).trans hx276_1
                    replace hx276_2 := (HB.out.cell (World.block_lt_of_cell? w _ hx276_2)).trans hx276_2
                    replace p276 := eq_true p276
                    replace q276 := eq_true q276
                    try go_wp2_with (first | ((with_reducible refine gate_dst (N := 8) rfl ?_); refine box_event ?hg (N := 8) ?hd (cs := #[.int .i64 0, .int .i64 0, .int .i64 0]) (t := 34) ?hr ?_; (case hd => rfl); (case hg => rfl); (case hr => first | (go_simp; done) | (go_simp; rfl)); intro gb277 hg w15 hbox hb; have n0_ := Aside0.mk (Kd.R_below (by (with_reducible repeat (first | apply Kd.R_alloc | apply Kd.R_drewN | apply Kd.R_drew)); exact HO_6.out) hb); have n1_ := Aside0.mk (blk_below (g := gb272) (o := .cells #[.int .i64 a0_0, .slice (some ad276) l0_1.length c0_1] 24 (0, 0)) (by (with_reducible repeat (first | refine blk_drewN ?_ _ | refine blk_drew ?_ | refine blk_alloc ?_ _)); exact BK272.out) hb); have n2_ := Aside0.mk (below_step (by repeat (first | (with_reducible first | exact HB.out | apply below_alloc | apply pw_below_drewN | apply below_drew1 | refine below_set ?_ GE272.out) | exact HB.out)) hb); have n3_ := Aside0.mk (hbox); have n4_ := Aside0.mk ((by rw [hg]; exact (below_size (by repeat (first | (with_reducible first | exact HB.out | apply below_alloc | apply pw_below_drewN | apply below_drew1 | refine below_set ?_ GE272.out) | exact HB.out))) : w.heap.size ≤ gb277)); have n5_ := Aside0.mk ((by rw [hg]; exact (below_size (by repeat (first | (with_reducible first | exact HB.out | apply below_alloc | apply pw_below_drewN | apply below_drew1 | refine below_set ?_ GE272.out) | exact HB.out))) : w.heap.size ≤ gb277)); have n6_ := Aside0.mk ((by rw [hg]; exact Nat.ne_of_lt (blk_lt (g := gb272) (o := .cells #[.int .i64 a0_0, .slice (some ad276) l0_1.length c0_1] 24 (0, 0)) (by (with_reducible repeat (first | refine blk_drewN ?_ _ | refine blk_drew ?_ | refine blk_alloc ?_ _)); exact BK272.out)) : gb272 ≠ gb277)); have n7_ := Aside0.mk ((by rw [hg]; exact Nat.ne_of_gt (blk_lt (g := gb272) (o := .cells #[.int .i64 a0_0, .slice (some ad276) l0_1.length c0_1] 24 (0, 0)) (by (with_reducible repeat (first | refine blk_drewN ?_ _ | refine blk_drew ?_ | refine blk_alloc ?_ _)); exact BK272.out)) : gb277 ≠ gb272)); clear HO_6; clear BK272; clear HB; have HO_6 := n0_; have BK272 := n1_; have HB := n2_; have BK277 := n3_; have GW277 := n4_; have GE277 := n5_; have NB272_277 := n6_; have NB277_272 := n7_; clear n0_ n1_ n2_ n3_ n4_ n5_ n6_ n7_; clear hb hbox hg; have hnb16 := NB277_272.out; have hnc16 := NB272_277.out; have hcz17_0 : w15.cell? ⟨gb277, 0, none⟩ = some (.int .i64 0) := (blk_cell BK277.out 0).trans rfl; have hcz17_1 : w15.cell? ⟨gb277, 1, none⟩ = some (.int .i64 0) := (blk_cell BK277.out 1).trans rfl; have hcz17_2 : w15.cell? ⟨gb277, 2, none⟩ = some (.int .i64 0) := (blk_cell BK277.out 2).trans rfl; have hfz17_0 := blk_frozen BK277.out 0; have hfz17_1 := blk_frozen BK277.out 1; have hfz17_2 := blk_frozen BK277.out 2))
                    have n0_ : Aside0 (Kd.R (Kd.int .i64) 3 (((w15.setCell ⟨gb277, 0, none⟩ (.int .i64 ((rd_T34 l0_1 x16_1).f0))).setCell ⟨gb277, 1, none⟩ (.int .i64 ((rd_T34 l0_1 x16_1).f1))).setCell ⟨gb277, 2, none⟩ (.int .i64 ((rd_T34 l0_1 x16_1).f2))) w.heap.size (fun _ => True) v274 x6_1) := ⟨by (with_reducible repeat (first | apply Kd.R_alloc | apply Kd.R_drewN | apply Kd.R_drew)); exact Kd.R_mono (Kd.R_far (p := ⟨gb277, 2, none⟩) (Kd.R_far (p := ⟨gb277, 1, none⟩) (Kd.R_far (p := ⟨gb277, 0, none⟩) (Kd.R_types HO_6.out BK277.out (by decide)) (fun _ hk => hk.2) (.int .i64 ((rd_T34 l0_1 x16_1).f0))) (fun _ hk => hk.2) (.int .i64 ((rd_T34 l0_1 x16_1).f1))) (fun _ hk => hk.2) (.int .i64 ((rd_T34 l0_1 x16_1).f2))) (fun _ hk => trivial)⟩
                    have n1_ : Aside0 ((((w15.setCell ⟨gb277, 0, none⟩ (.int .i64 ((rd_T34 l0_1 x16_1).f0))).setCell ⟨gb277, 1, none⟩ (.int .i64 ((rd_T34 l0_1 x16_1).f1))).setCell ⟨gb277, 2, none⟩ (.int .i64 ((rd_T34 l0_1 x16_1).f2))).heap[gb272]? = some (.cells #[.int .i64 a0_0, .slice (some ad276) l0_1.length c0_1] 24 (0, 0))) := ⟨by (with_reducible repeat (first | refine blk_drewN ?_ _ | refine blk_drew ?_ | refine blk_alloc ?_ _)); refine blk_far ?_ NB272_277.out _; (with_reducible repeat (first | refine blk_drewN ?_ _ | refine blk_drew ?_ | refine blk_alloc ?_ _)); refine blk_far ?_ NB272_277.out _; (with_reducible repeat (first | refine blk_drewN ?_ _ | refine blk_drew ?_ | refine blk_alloc ?_ _)); refine blk_far ?_ NB272_277.out _; (with_reducible repeat (first | refine blk_drewN ?_ _ | refine blk_drew ?_ | refine blk_alloc ?_ _)); exact BK272.out⟩
                    have n2_ : Aside0 ((((w15.setCell ⟨gb277, 0, none⟩ (.int .i64 ((rd_T34 l0_1 x16_1).f0))).setCell ⟨gb277, 1, none⟩ (.int .i64 ((rd_T34 l0_1 x16_1).f1))).setCell ⟨gb277, 2, none⟩ (.int .i64 ((rd_T34 l0_1 x16_1).f2))).heap[gb277]? = some (.cells #[.int .i64 ((rd_T34 l0_1 x16_1).f0), .int .i64 ((rd_T34 l0_1 x16_1).f1), .int .i64 ((rd_T34 l0_1 x16_1).f2)] 34 (0, 0))) := ⟨by (with_reducible repeat (first | refine blk_drewN ?_ _ | refine blk_drew ?_ | refine blk_alloc ?_ _)); refine blk_put (cs := #[.int .i64 ((rd_T34 l0_1 x16_1).f0), .int .i64 ((rd_T34 l0_1 x16_1).f1), .int .i64 0]) ?_ 2 _ rfl; (with_reducible repeat (first | refine blk_drewN ?_ _ | refine blk_drew ?_ | refine blk_alloc ?_ _)); refine blk_put (cs := #[.int .i64 ((rd_T34 l0_1 x16_1).f0), .int .i64 0, .int .i64 0]) ?_ 1 _ rfl; (with_reducible repeat (first | refine blk_drewN ?_ _ | refine blk_drew ?_ | refine blk_alloc ?_ _)); refine blk_put (cs := #[.int .i64 0, .int .i64 0, .int .i64 0]) ?_ 0 _ rfl; (with_reducible repeat (first | refine blk_drewN ?_ _ | refine blk_drew ?_ | refine blk_alloc ?_ _)); exact BK277.out⟩
                    have n3_ : Aside0 (Below w.heap.size w (((w15.setCell ⟨gb277, 0, none⟩ (.int .i64 ((rd_T34 l0_1 x16_1).f0))).setCell ⟨gb277, 1, none⟩ (.int .i64 ((rd_T34 l0_1 x16_1).f1))).setCell ⟨gb277, 2, none⟩ (.int .i64 ((rd_T34 l0_1 x16_1).f2)))) := ⟨by repeat (first | (with_reducible first | exact HB.out | apply below_alloc | apply pw_below_drewN | apply below_drew1 | refine below_set ?_ GE272.out | refine below_set ?_ GE277.out) | exact HB.out)⟩
                    (try clear HO_6)
                    (try clear BK272)
                    (try clear BK277)
                    (try clear HB)
                    generalize (((w15.setCell ⟨gb277, 0, none⟩ (.int .i64 ((rd_T34 l0_1 x16_1).f0))).setCell ⟨gb277, 1, none⟩ (.int .i64 ((rd_T34 l0_1 x16_1).f1))).setCell ⟨gb277, 2, none⟩ (.int .i64 ((rd_T34 l0_1 x16_1).f2))) = w18 at n0_ n1_ n2_ n3_ ⊢
                    have HO_6 := n0_
                    have BK272 := n1_
                    have BK277 := n2_
                    have HB := n3_
                    clear n0_ n1_ n2_ n3_
                    have n0_ := Aside0.mk (Kd.R_drew HO_6.out)
                    have n1_ := Aside0.mk (blk_drew BK272.out)
                    have n2_ := Aside0.mk (blk_drew BK277.out)
                    have n3_ := Aside0.mk (below_drew1 HB.out)
                    clear HO_6
                    clear BK272
                    clear BK277
                    clear HB
                    have HO_6 := n0_
                    have BK272 := n1_
                    have BK277 := n2_
                    have HB := n3_
                    clear n0_ n1_ n2_ n3_
                    have p278 : 0 ≤ (x16_1 : Int) := of_decide_eq_true (by first | (with_reducible assumption) | assumption)
                    have q278 : x16_1 < (l1.length : Int) := of_decide_eq_true (by first | (with_reducible assumption) | assumption)
                    obtain ⟨ad278, e278, hx278_0⟩ := Kd.at_int HR1.out x16_1 p278 q278
                    have hw278_0 := hx278_0
                    cases e278
                    replace hx278_0 := (HB.out.cell (World.block_lt_of_cell? w _ hx278_0)).trans hx278_0
                    replace p278 := eq_true p278
                    replace q278 := eq_true q278
                    refine start_ (n := 14) (S := fun w' => w'.cell? (ad278.add (x16_1).toNat) = some (.int .i64 (rd l1 x16_1))) (ds := []) #[false, false, false, false, false, false, false, false, false, false, false, false, false, false] (by kernel_rfl) rfl rfl ((by first | exact (HB.out.cell (World.block_lt_of_cell? w _ hw278_0)).trans hw278_0 | exact hx278_0)) (fun hHeld => ?_); refine with_tabW cantingref07_Flow.tab5 cantingref07_Flow.bits5 (fun HT_ HW_ => ?_)
                    generalize w18.drew = w19 at HO_6 BK272 BK277 HB hx278_0 hHeld ⊢
                    refine pure_ (i := 0) (N := some 21) (v := ?_) (a' := ?_) #[true, false, false, false, false, false, false, false, false, false, false, false, false, false] rfl rfl (any_of HT_.out (by kernel_rfl)) (fun _ _ _ h => h) (Or.inl ⟨by rfl, ?_⟩) ?_ ?_
                    rotate_left
                    · intro w'
                      go_simp
                      with_reducible rfl
                    rotate_left
                    · simp only [Act.put, List.setIfInBounds_toArray, List.set_cons_zero, List.set_cons_succ, i64_w, i32_w]
                      rfl
                    refine pure_ (i := 1) (N := some 22) (v := ?_) (a' := ?_) #[true, true, false, false, false, false, false, false, false, false, false, false, false, false] rfl rfl (any_of HT_.out (by kernel_rfl)) (fun _ _ _ h => h) (Or.inl ⟨by rfl, ?_⟩) ?_ ?_
                    rotate_left
                    · intro w'
                      go_simp
                      with_reducible rfl
                    rotate_left
                    · simp only [Act.put, List.setIfInBounds_toArray, List.set_cons_zero, List.set_cons_succ, i64_w, i32_w]
                      rfl
                    refine pure_ (i := 2) (N := some 23) (v := ?_) (a' := ?_) #[true, true, true, false, false, false, false, false, false, false, false, false, false, false] rfl rfl (any_of HT_.out (by kernel_rfl)) (fun _ _ _ h => h) (Or.inl ⟨by rfl, ?_⟩) ?_ ?_
                    rotate_left
                    · intro w'
                      go_simp
                      with_reducible rfl
                    rotate_left
                    · simp only [Act.put, List.setIfInBounds_toArray, List.set_cons_zero, List.set_cons_succ, i64_w, i32_w]
                      rfl
                    refine take_ (i := 3) (N := some 24) (v := ?_) (a' := ?_) #[true, true, true, true, false, false, false, false, false, false, false, false, false, false] rfl rfl (take_ofW HT_.out HW_.out (by kernel_rfl)) (fun _ _ _ h => h) (Or.inl ⟨by rfl, ?_⟩) hHeld ?_ ?_
                    rotate_left
                    · intro w' s0
                      go_simp
                      with_reducible rfl
                    rotate_left
                    · simp only [Act.put, List.setIfInBounds_toArray, List.set_cons_zero, List.set_cons_succ, i64_w, i32_w]
                      rfl
                    refine pure_ (i := 4) (N := some 25) (v := ?_) (a' := ?_) #[true, true, true, true, true, false, false, false, false, false, false, false, false, false] rfl rfl (any_of HT_.out (by kernel_rfl)) (fun _ _ _ h => h) (Or.inl ⟨by rfl, ?_⟩) ?_ ?_
                    rotate_left
                    · intro w'
                      go_simp
                      with_reducible rfl
                    rotate_left
                    · simp only [Act.put, List.setIfInBounds_toArray, List.set_cons_zero, List.set_cons_succ, i64_w, i32_w]
                      rfl
                    refine pure_ (i := 5) (N := some 26) (v := ?_) (a' := ?_) #[true, true, true, true, true, true, false, false, false, false, false, false, false, false] rfl rfl (any_of HT_.out (by kernel_rfl)) (fun _ _ _ h => h) (Or.inl ⟨by rfl, ?_⟩) ?_ ?_
                    rotate_left
                    · intro w'
                      go_simp
                      with_reducible rfl
                    rotate_left
                    · simp only [Act.put, List.setIfInBounds_toArray, List.set_cons_zero, List.set_cons_succ, i64_w, i32_w]
                      rfl
                    refine pure_ (i := 6) (N := some 27) (v := undef) (a' := ?_) #[true, true, true, true, true, true, true, false, false, false, false, false, false, false] rfl rfl (any_of HT_.out (by kernel_rfl)) (fun _ _ _ h => h) (Or.inr ⟨by rfl, rfl⟩) ?_ ?_
                    rotate_left
                    · simp only [Act.put, List.setIfInBounds_toArray, List.set_cons_zero, List.set_cons_succ, i64_w, i32_w]
                      rfl
                    refine pure_ (i := 7) (N := some 28) (v := undef) (a' := ?_) #[true, true, true, true, true, true, true, true, false, false, false, false, false, false] rfl rfl (any_of HT_.out (by kernel_rfl)) (fun _ _ _ h => h) (Or.inr ⟨by rfl, rfl⟩) ?_ ?_
                    rotate_left
                    · simp only [Act.put, List.setIfInBounds_toArray, List.set_cons_zero, List.set_cons_succ, i64_w, i32_w]
                      rfl
                    refine pure_ (i := 8) (N := some 29) (v := undef) (a' := ?_) #[true, true, true, true, true, true, true, true, true, false, false, false, false, false] rfl rfl (any_of HT_.out (by kernel_rfl)) (fun _ _ _ h => h) (Or.inr ⟨by rfl, rfl⟩) ?_ ?_
                    rotate_left
                    · simp only [Act.put, List.setIfInBounds_toArray, List.set_cons_zero, List.set_cons_succ, i64_w, i32_w]
                      rfl
                    refine pure_ (i := 9) (N := some 30) (v := undef) (a' := ?_) #[true, true, true, true, true, true, true, true, true, true, false, false, false, false] rfl rfl (any_of HT_.out (by kernel_rfl)) (fun _ _ _ h => h) (Or.inr ⟨by rfl, rfl⟩) ?_ ?_
                    rotate_left
                    · simp only [Act.put, List.setIfInBounds_toArray, List.set_cons_zero, List.set_cons_succ, i64_w, i32_w]
                      rfl
                    refine pure_ (i := 10) (N := some 31) (v := undef) (a' := ?_) #[true, true, true, true, true, true, true, true, true, true, true, false, false, false] rfl rfl (any_of HT_.out (by kernel_rfl)) (fun _ _ _ h => h) (Or.inr ⟨by rfl, rfl⟩) ?_ ?_
                    rotate_left
                    · simp only [Act.put, List.setIfInBounds_toArray, List.set_cons_zero, List.set_cons_succ, i64_w, i32_w]
                      rfl
                    refine pure_ (i := 11) (N := some 32) (v := undef) (a' := ?_) #[true, true, true, true, true, true, true, true, true, true, true, true, false, false] rfl rfl (any_of HT_.out (by kernel_rfl)) (fun _ _ _ h => h) (Or.inr ⟨by rfl, rfl⟩) ?_ ?_
                    rotate_left
                    · simp only [Act.put, List.setIfInBounds_toArray, List.set_cons_zero, List.set_cons_succ, i64_w, i32_w]
                      rfl
                    refine pure_ (i := 12) (N := some 33) (v := undef) (a' := ?_) #[true, true, true, true, true, true, true, true, true, true, true, true, true, false] rfl rfl (any_of HT_.out (by kernel_rfl)) (fun _ _ _ h => h) (Or.inr ⟨by rfl, rfl⟩) ?_ ?_
                    rotate_left
                    · simp only [Act.put, List.setIfInBounds_toArray, List.set_cons_zero, List.set_cons_succ, i64_w, i32_w]
                      rfl
                    refine pure_ (i := 13) (N := some 34) (v := ?_) (a' := ?_) #[true, true, true, true, true, true, true, true, true, true, true, true, true, true] rfl rfl (any_of HT_.out (by kernel_rfl)) (fun _ _ _ h => h) (Or.inl ⟨by rfl, ?_⟩) ?_ ?_
                    rotate_left
                    · intro w'
                      go_simp
                      with_reducible rfl
                    rotate_left
                    · simp only [Act.put, List.setIfInBounds_toArray, List.set_cons_zero, List.set_cons_succ, i64_w, i32_w]
                      rfl
                    refine done_ (done_of HT_.out (by kernel_rfl)) ?_
                    try go_wp2
                    go_ret2
                    exact ⟨by first | rfl | (simp [errW_none, errW_some] <;> rfl) | (simp [*, errW_none, errW_some] <;> rfl), by repeat (first | (with_reducible first | exact HB.out | apply below_alloc | apply pw_below_drewN | apply below_drew1 | refine below_set ?_ GE272.out | refine below_set ?_ GE277.out) | exact HB.out)⟩
                  · rw [if_neg c14] at H
                    have c14b0 : decide ((rd l1 x16_1) < 0) = false := decide_eq_false c14
                    clear c14
                    by_cases c20 : (rd l1 x16_1) > ((rd_T34 l0_1 x16_1).f2)
                    · rw [if_pos c20] at H
                      have c20b0 : decide (((rd_T34 l0_1 x16_1).f2) < (rd l1 x16_1)) = true := decide_eq_true c20
                      clear c20
                      simp only [Option.some.injEq, Prod.mk.injEq] at H
                      obtain ⟨rfl, rfl⟩ := H
                      have p276 : 0 ≤ (x16_1 : Int) := of_decide_eq_true (by first | (with_reducible assumption) | assumption)
                      have q276 : x16_1 < (l0_1.length : Int) := of_decide_eq_true (by first | (with_reducible assumption) | assumption)
                      obtain ⟨ad276, e276, hx276_0, hx276_1, hx276_2⟩ := at_T34 HR0_1.out x16_1 p276 q276
                      cases e276
                      replace hx276_0 := (HB.out.cell (World.block_lt_of_cell? w _ hx276_0)).trans hx276_0
                      replace hx276_1 := (HB.out.cell (World.block_lt_of_cell? w _ hx276_1)).trans hx276_1
                      replace hx276_2 := (HB.out.cell (World.block_lt_of_cell? w _ hx276_2)).trans hx276_2
                      replace p276 := eq_true p276
                      replace q276 := eq_true q276
                      try go_wp2_with (first | ((with_reducible refine gate_dst (N := 8) rfl ?_); refine box_event ?hg (N := 8) ?hd (cs := #[.int .i64 0, .int .i64 0, .int .i64 0]) (t := 34) ?hr ?_; (case hd => rfl); (case hg => rfl); (case hr => first | (go_simp; done) | (go_simp; rfl)); intro gb277 hg w21 hbox hb; have n0_ := Aside0.mk (Kd.R_below (by (with_reducible repeat (first | apply Kd.R_alloc | apply Kd.R_drewN | apply Kd.R_drew)); exact HO_6.out) hb); have n1_ := Aside0.mk (blk_below (g := gb272) (o := .cells #[.int .i64 a0_0, .slice (some ad276) l0_1.length c0_1] 24 (0, 0)) (by (with_reducible repeat (first | refine blk_drewN ?_ _ | refine blk_drew ?_ | refine blk_alloc ?_ _)); exact BK272.out) hb); have n2_ := Aside0.mk (below_step (by repeat (first | (with_reducible first | exact HB.out | apply below_alloc | apply pw_below_drewN | apply below_drew1 | refine below_set ?_ GE272.out) | exact HB.out)) hb); have n3_ := Aside0.mk (hbox); have n4_ := Aside0.mk ((by rw [hg]; exact (below_size (by repeat (first | (with_reducible first | exact HB.out | apply below_alloc | apply pw_below_drewN | apply below_drew1 | refine below_set ?_ GE272.out) | exact HB.out))) : w.heap.size ≤ gb277)); have n5_ := Aside0.mk ((by rw [hg]; exact (below_size (by repeat (first | (with_reducible first | exact HB.out | apply below_alloc | apply pw_below_drewN | apply below_drew1 | refine below_set ?_ GE272.out) | exact HB.out))) : w.heap.size ≤ gb277)); have n6_ := Aside0.mk ((by rw [hg]; exact Nat.ne_of_lt (blk_lt (g := gb272) (o := .cells #[.int .i64 a0_0, .slice (some ad276) l0_1.length c0_1] 24 (0, 0)) (by (with_reducible repeat (first | refine blk_drewN ?_ _ | refine blk_drew ?_ | refine blk_alloc ?_ _)); exact BK272.out)) : gb272 ≠ gb277)); have n7_ := Aside0.mk ((by rw [hg]; exact Nat.ne_of_gt (blk_lt (g := gb272) (o := .cells #[.int .i64 a0_0, .slice (some ad276) l0_1.length c0_1] 24 (0, 0)) (by (with_reducible repeat (first | refine blk_drewN ?_ _ | refine blk_drew ?_ | refine blk_alloc ?_ _)); exact BK272.out)) : gb277 ≠ gb272)); clear HO_6; clear BK272; clear HB; have HO_6 := n0_; have BK272 := n1_; have HB := n2_; have BK277 := n3_; have GW277 := n4_; have GE277 := n5_; have NB272_277 := n6_; have NB277_272 := n7_; clear n0_ n1_ n2_ n3_ n4_ n5_ n6_ n7_; clear hb hbox hg; have hnb22 := NB277_272.out; have hnc22 := NB272_277.out; have hcz23_0 : w21.cell? ⟨gb277, 0, none⟩ = some (.int .i64 0) := (blk_cell BK277.out 0).trans rfl; have hcz23_1 : w21.cell? ⟨gb277, 1, none⟩ = some (.int .i64 0) := (blk_cell BK277.out 1).trans rfl; have hcz23_2 : w21.cell? ⟨gb277, 2, none⟩ = some (.int .i64 0) := (blk_cell BK277.out 2).trans rfl; have hfz23_0 := blk_frozen BK277.out 0; have hfz23_1 := blk_frozen BK277.out 1; have hfz23_2 := blk_frozen BK277.out 2))
                      have n0_ : Aside0 (Kd.R (Kd.int .i64) 3 (((w21.setCell ⟨gb277, 0, none⟩ (.int .i64 ((rd_T34 l0_1 x16_1).f0))).setCell ⟨gb277, 1, none⟩ (.int .i64 ((rd_T34 l0_1 x16_1).f1))).setCell ⟨gb277, 2, none⟩ (.int .i64 ((rd_T34 l0_1 x16_1).f2))) w.heap.size (fun _ => True) v274 x6_1) := ⟨by (with_reducible repeat (first | apply Kd.R_alloc | apply Kd.R_drewN | apply Kd.R_drew)); exact Kd.R_mono (Kd.R_far (p := ⟨gb277, 2, none⟩) (Kd.R_far (p := ⟨gb277, 1, none⟩) (Kd.R_far (p := ⟨gb277, 0, none⟩) (Kd.R_types HO_6.out BK277.out (by decide)) (fun _ hk => hk.2) (.int .i64 ((rd_T34 l0_1 x16_1).f0))) (fun _ hk => hk.2) (.int .i64 ((rd_T34 l0_1 x16_1).f1))) (fun _ hk => hk.2) (.int .i64 ((rd_T34 l0_1 x16_1).f2))) (fun _ hk => trivial)⟩
                      have n1_ : Aside0 ((((w21.setCell ⟨gb277, 0, none⟩ (.int .i64 ((rd_T34 l0_1 x16_1).f0))).setCell ⟨gb277, 1, none⟩ (.int .i64 ((rd_T34 l0_1 x16_1).f1))).setCell ⟨gb277, 2, none⟩ (.int .i64 ((rd_T34 l0_1 x16_1).f2))).heap[gb272]? = some (.cells #[.int .i64 a0_0, .slice (some ad276) l0_1.length c0_1] 24 (0, 0))) := ⟨by (with_reducible repeat (first | refine blk_drewN ?_ _ | refine blk_drew ?_ | refine blk_alloc ?_ _)); refine blk_far ?_ NB272_277.out _; (with_reducible repeat (first | refine blk_drewN ?_ _ | refine blk_drew ?_ | refine blk_alloc ?_ _)); refine blk_far ?_ NB272_277.out _; (with_reducible repeat (first | refine blk_drewN ?_ _ | refine blk_drew ?_ | refine blk_alloc ?_ _)); refine blk_far ?_ NB272_277.out _; (with_reducible repeat (first | refine blk_drewN ?_ _ | refine blk_drew ?_ | refine blk_alloc ?_ _)); exact BK272.out⟩
                      have n2_ : Aside0 ((((w21.setCell ⟨gb277, 0, none⟩ (.int .i64 ((rd_T34 l0_1 x16_1).f0))).setCell ⟨gb277, 1, none⟩ (.int .i64 ((rd_T34 l0_1 x16_1).f1))).setCell ⟨gb277, 2, none⟩ (.int .i64 ((rd_T34 l0_1 x16_1).f2))).heap[gb277]? = some (.cells #[.int .i64 ((rd_T34 l0_1 x16_1).f0), .int .i64 ((rd_T34 l0_1 x16_1).f1), .int .i64 ((rd_T34 l0_1 x16_1).f2)] 34 (0, 0))) := ⟨by (with_reducible repeat (first | refine blk_drewN ?_ _ | refine blk_drew ?_ | refine blk_alloc ?_ _)); refine blk_put (cs := #[.int .i64 ((rd_T34 l0_1 x16_1).f0), .int .i64 ((rd_T34 l0_1 x16_1).f1), .int .i64 0]) ?_ 2 _ rfl; (with_reducible repeat (first | refine blk_drewN ?_ _ | refine blk_drew ?_ | refine blk_alloc ?_ _)); refine blk_put (cs := #[.int .i64 ((rd_T34 l0_1 x16_1).f0), .int .i64 0, .int .i64 0]) ?_ 1 _ rfl; (with_reducible repeat (first | refine blk_drewN ?_ _ | refine blk_drew ?_ | refine blk_alloc ?_ _)); refine blk_put (cs := #[.int .i64 0, .int .i64 0, .int .i64 0]) ?_ 0 _ rfl; (with_reducible repeat (first | refine blk_drewN ?_ _ | refine blk_drew ?_ | refine blk_alloc ?_ _)); exact BK277.out⟩
                      have n3_ : Aside0 (Below w.heap.size w (((w21.setCell ⟨gb277, 0, none⟩ (.int .i64 ((rd_T34 l0_1 x16_1).f0))).setCell ⟨gb277, 1, none⟩ (.int .i64 ((rd_T34 l0_1 x16_1).f1))).setCell ⟨gb277, 2, none⟩ (.int .i64 ((rd_T34 l0_1 x16_1).f2)))) := ⟨by repeat (first | (with_reducible first | exact HB.out | apply below_alloc | apply pw_below_drewN | apply below_drew1 | refine below_set ?_ GE272.out | refine below_set ?_ GE277.out) | exact HB.out)⟩
                      (try clear HO_6)
                      (try clear BK272)
                      (try clear BK277)
                      (try clear HB)
                      generalize (((w21.setCell ⟨gb277, 0, none⟩ (.int .i64 ((rd_T34 l0_1 x16_1).f0))).setCell ⟨gb277, 1, none⟩ (.int .i64 ((rd_T34 l0_1 x16_1).f1))).setCell ⟨gb277, 2, none⟩ (.int .i64 ((rd_T34 l0_1 x16_1).f2))) = w24 at n0_ n1_ n2_ n3_ ⊢
                      have HO_6 := n0_
                      have BK272 := n1_
                      have BK277 := n2_
                      have HB := n3_
                      clear n0_ n1_ n2_ n3_
                      have n0_ := Aside0.mk (Kd.R_drew HO_6.out)
                      have n1_ := Aside0.mk (blk_drew BK272.out)
                      have n2_ := Aside0.mk (blk_drew BK277.out)
                      have n3_ := Aside0.mk (below_drew1 HB.out)
                      clear HO_6
                      clear BK272
                      clear BK277
                      clear HB
                      have HO_6 := n0_
                      have BK272 := n1_
                      have BK277 := n2_
                      have HB := n3_
                      clear n0_ n1_ n2_ n3_
                      have p278 : 0 ≤ (x16_1 : Int) := of_decide_eq_true (by first | (with_reducible assumption) | assumption)
                      have q278 : x16_1 < (l1.length : Int) := of_decide_eq_true (by first | (with_reducible assumption) | assumption)
                      obtain ⟨ad278, e278, hx278_0⟩ := Kd.at_int HR1.out x16_1 p278 q278
                      have hw278_0 := hx278_0
                      cases e278
                      replace hx278_0 := (HB.out.cell (World.block_lt_of_cell? w _ hx278_0)).trans hx278_0
                      replace p278 := eq_true p278
                      replace q278 := eq_true q278
                      have p279 : 0 ≤ (x16_1 : Int) := of_decide_eq_true (by first | (with_reducible assumption) | assumption)
                      have q279 : x16_1 < (l1.length : Int) := of_decide_eq_true (by first | (with_reducible assumption) | assumption)
                      obtain ⟨ad279, e279, hx279_0⟩ := Kd.at_int HR1.out x16_1 p279 q279
                      have hw279_0 := hx279_0
                      obtain rfl : ad278 = ad279 := (by injection e279)
                      replace hx279_0 := (HB.out.cell (World.block_lt_of_cell? w _ hx279_0)).trans hx279_0
                      replace p279 := eq_true p279
                      replace q279 := eq_true q279
                      refine start_ (n := 14) (S := fun w' => w'.cell? ⟨gb277, 0, none⟩ = some (.int .i64 ((rd_T34 l0_1 x16_1).f0)) ∧ w'.cell? ⟨gb277, 1, none⟩ = some (.int .i64 ((rd_T34 l0_1 x16_1).f1)) ∧ w'.cell? ⟨gb277, 2, none⟩ = some (.int .i64 ((rd_T34 l0_1 x16_1).f2)) ∧ w'.cell? (ad278.add (x16_1).toNat) = some (.int .i64 (rd l1 x16_1)) ∧ w'.cell? (ad278.add (x16_1).toNat) = some (.int .i64 (rd l1 x16_1))) (ds := []) #[false, false, false, false, false, false, false, false, false, false, false, false, false, false] (by kernel_rfl) rfl rfl ⟨(blk_cell BK277.out 0).trans rfl, (blk_cell BK277.out 1).trans rfl, (blk_cell BK277.out 2).trans rfl, (by first | exact (HB.out.cell (World.block_lt_of_cell? w _ hw278_0)).trans hw278_0 | exact hx278_0), (by first | exact (HB.out.cell (World.block_lt_of_cell? w _ hw279_0)).trans hw279_0 | exact hx279_0)⟩ (fun hHeld => ?_); refine with_tabW cantingref07_Flow.tab5 cantingref07_Flow.bits5 (fun HT_ HW_ => ?_)
                      generalize w24.drew = w25 at HO_6 BK272 BK277 HB hx278_0 hx279_0 hHeld ⊢
                      refine pure_ (i := 0) (N := some 21) (v := ?_) (a' := ?_) #[true, false, false, false, false, false, false, false, false, false, false, false, false, false] rfl rfl (any_of HT_.out (by kernel_rfl)) (fun _ _ _ h => h) (Or.inl ⟨by rfl, ?_⟩) ?_ ?_
                      rotate_left
                      · intro w'
                        go_simp
                        with_reducible rfl
                      rotate_left
                      · simp only [Act.put, List.setIfInBounds_toArray, List.set_cons_zero, List.set_cons_succ, i64_w, i32_w]
                        rfl
                      refine pure_ (i := 1) (N := some 22) (v := ?_) (a' := ?_) #[true, true, false, false, false, false, false, false, false, false, false, false, false, false] rfl rfl (any_of HT_.out (by kernel_rfl)) (fun _ _ _ h => h) (Or.inl ⟨by rfl, ?_⟩) ?_ ?_
                      rotate_left
                      · intro w'
                        go_simp
                        with_reducible rfl
                      rotate_left
                      · simp only [Act.put, List.setIfInBounds_toArray, List.set_cons_zero, List.set_cons_succ, i64_w, i32_w]
                        rfl
                      refine pure_ (i := 2) (N := some 23) (v := ?_) (a' := ?_) #[true, true, true, false, false, false, false, false, false, false, false, false, false, false] rfl rfl (any_of HT_.out (by kernel_rfl)) (fun _ _ _ h => h) (Or.inl ⟨by rfl, ?_⟩) ?_ ?_
                      rotate_left
                      · intro w'
                        go_simp
                        with_reducible rfl
                      rotate_left
                      · simp only [Act.put, List.setIfInBounds_toArray, List.set_cons_zero, List.set_cons_succ, i64_w, i32_w]
                        rfl
                      refine take_ (i := 3) (N := some 24) (v := ?_) (a' := ?_) #[true, true, true, true, false, false, false, false, false, false, false, false, false, false] rfl rfl (take_ofW HT_.out HW_.out (by kernel_rfl)) (fun _ _ _ h => h) (Or.inl ⟨by rfl, ?_⟩) hHeld ?_ ?_
                      rotate_left
                      · rintro w' ⟨s0, s1, s2, s3, s4⟩
                        go_simp
                        with_reducible rfl
                      rotate_left
                      · simp only [Act.put, List.setIfInBounds_toArray, List.set_cons_zero, List.set_cons_succ, i64_w, i32_w]
                        rfl
                      refine pure_ (i := 4) (N := some 25) (v := ?_) (a' := ?_) #[true, true, true, true, true, false, false, false, false, false, false, false, false, false] rfl rfl (any_of HT_.out (by kernel_rfl)) (fun _ _ _ h => h) (Or.inl ⟨by rfl, ?_⟩) ?_ ?_
                      rotate_left
                      · intro w'
                        go_simp
                        with_reducible rfl
                      rotate_left
                      · simp only [Act.put, List.setIfInBounds_toArray, List.set_cons_zero, List.set_cons_succ, i64_w, i32_w]
                        rfl
                      refine pure_ (i := 5) (N := some 26) (v := ?_) (a' := ?_) #[true, true, true, true, true, true, false, false, false, false, false, false, false, false] rfl rfl (any_of HT_.out (by kernel_rfl)) (fun _ _ _ h => h) (Or.inl ⟨by rfl, ?_⟩) ?_ ?_
                      rotate_left
                      · intro w'
                        go_simp
                        with_reducible rfl
                      rotate_left
                      · simp only [Act.put, List.setIfInBounds_toArray, List.set_cons_zero, List.set_cons_succ, i64_w, i32_w]
                        rfl
                      refine pure_ (i := 6) (N := some 27) (v := ?_) (a' := ?_) #[true, true, true, true, true, true, true, false, false, false, false, false, false, false] rfl rfl (any_of HT_.out (by kernel_rfl)) (fun _ _ _ h => h) (Or.inl ⟨by rfl, ?_⟩) ?_ ?_
                      rotate_left
                      · intro w'
                        go_simp
                        with_reducible rfl
                      rotate_left
                      · simp only [Act.put, List.setIfInBounds_toArray, List.set_cons_zero, List.set_cons_succ, i64_w, i32_w]
                        rfl
                      refine pure_ (i := 7) (N := some 28) (v := ?_) (a' := ?_) #[true, true, true, true, true, true, true, true, false, false, false, false, false, false] rfl rfl (any_of HT_.out (by kernel_rfl)) (fun _ _ _ h => h) (Or.inl ⟨by rfl, ?_⟩) ?_ ?_
                      rotate_left
                      · intro w'
                        go_simp
                        with_reducible rfl
                      rotate_left
                      · simp only [Act.put, List.setIfInBounds_toArray, List.set_cons_zero, List.set_cons_succ, i64_w, i32_w]
                        rfl
                      refine pure_ (i := 8) (N := some 29) (v := ?_) (a' := ?_) #[true, true, true, true, true, true, true, true, true, false, false, false, false, false] rfl rfl (any_of HT_.out (by kernel_rfl)) (fun _ _ _ h => h) (Or.inl ⟨by rfl, ?_⟩) ?_ ?_
                      rotate_left
                      · intro w'
                        go_simp
                        with_reducible rfl
                      rotate_left
                      · simp only [Act.put, List.setIfInBounds_toArray, List.set_cons_zero, List.set_cons_succ, i64_w, i32_w]
                        rfl
                      refine pure_ (i := 10) (N := some 31) (v := ?_) (a' := ?_) #[true, true, true, true, true, true, true, true, true, false, true, false, false, false] rfl rfl (any_of HT_.out (by kernel_rfl)) (fun _ _ _ h => h) (Or.inl ⟨by rfl, ?_⟩) ?_ ?_
                      rotate_left
                      · intro w'
                        go_simp
                        with_reducible rfl
                      rotate_left
                      · simp only [Act.put, List.setIfInBounds_toArray, List.set_cons_zero, List.set_cons_succ, i64_w, i32_w]
                        rfl
                      refine take_ (i := 9) (N := some 30) (v := ?_) (a' := ?_) #[true, true, true, true, true, true, true, true, true, true, true, false, false, false] rfl rfl (take_ofW HT_.out HW_.out (by kernel_rfl)) (fun _ _ _ h => h) (Or.inl ⟨by rfl, ?_⟩) hHeld ?_ ?_
                      rotate_left
                      · rintro w' ⟨s0, s1, s2, s3, s4⟩
                        go_simp
                        with_reducible rfl
                      rotate_left
                      · simp only [Act.put, List.setIfInBounds_toArray, List.set_cons_zero, List.set_cons_succ, i64_w, i32_w]
                        rfl
                      refine take_ (i := 11) (N := some 32) (v := ?_) (a' := ?_) #[true, true, true, true, true, true, true, true, true, true, true, true, false, false] rfl rfl (take_ofW HT_.out HW_.out (by kernel_rfl)) (fun _ _ _ h => h) (Or.inl ⟨by rfl, ?_⟩) hHeld ?_ ?_
                      rotate_left
                      · rintro w' ⟨s0, s1, s2, s3, s4⟩
                        go_simp
                        with_reducible rfl
                      rotate_left
                      · simp only [Act.put, List.setIfInBounds_toArray, List.set_cons_zero, List.set_cons_succ, i64_w, i32_w]
                        rfl
                      refine pure_ (i := 12) (N := some 33) (v := ?_) (a' := ?_) #[true, true, true, true, true, true, true, true, true, true, true, true, true, false] rfl rfl (any_of HT_.out (by kernel_rfl)) (fun _ _ _ h => h) (Or.inl ⟨by rfl, ?_⟩) ?_ ?_
                      rotate_left
                      · intro w'
                        go_simp
                        with_reducible rfl
                      rotate_left
                      · simp only [Act.put, List.setIfInBounds_toArray, List.set_cons_zero, List.set_cons_succ, i64_w, i32_w]
                        rfl
                      refine pure_ (i := 13) (N := some 34) (v := ?_) (a' := ?_) #[true, true, true, true, true, true, true, true, true, true, true, true, true, true] rfl rfl (any_of HT_.out (by kernel_rfl)) (fun _ _ _ h => h) (Or.inl ⟨by rfl, ?_⟩) ?_ ?_
                      rotate_left
                      · intro w'
                        go_simp
                        with_reducible rfl
                      rotate_left
                      · simp only [Act.put, List.setIfInBounds_toArray, List.set_cons_zero, List.set_cons_succ, i64_w, i32_w]
                        rfl
                      refine done_ (done_of HT_.out (by kernel_rfl)) ?_
                      try go_wp2
                      go_ret2
                      exact ⟨by first | rfl | (simp [errW_none, errW_some] <;> rfl) | (simp [*, errW_none, errW_some] <;> rfl), by repeat (first | (with_reducible first | exact HB.out | apply below_alloc | apply pw_below_drewN | apply below_drew1 | refine below_set ?_ GE272.out | refine below_set ?_ GE277.out) | exact HB.out)⟩
                    · rw [if_neg c20] at H
                      have c20b0 : decide (((rd_T34 l0_1 x16_1).f2) < (rd l1 x16_1)) = false := decide_eq_false c20
                      clear c20
                      by_cases c26 : 0 ≤ ((rd_T34 l0_1 x16_1).f0)
                      · rw [if_pos c26] at H
                        have c26b0 : decide (0 ≤ ((rd_T34 l0_1 x16_1).f0)) = true := decide_eq_true c26
                        clear c26
                        by_cases c27 : ((rd_T34 l0_1 x16_1).f0) < (x6_1.length : Int)
                        · rw [if_pos c27] at H
                          have c27b0 : decide (((rd_T34 l0_1 x16_1).f0) < (x6_1.length : Int)) = true := decide_eq_true c27
                          clear c27
                          obtain ⟨y282, hy282⟩ : ∃ y_ : List Int, y_ = (x6_1.set (((rd_T34 l0_1 x16_1).f0) : Int).toNat (wrap64 ((rd x6_1 ((rd_T34 l0_1 x16_1).f0)) - (rd l1 x16_1)))) := ⟨_, rfl⟩
                          replace H : (if 0 ≤ ((rd_T34 l0_1 x16_1).f1) then (if ((rd_T34 l0_1 x16_1).f1) < (x6_1.length : Int) then (cantingref07_Flow.l0 k1 l1 (y282.set (((rd_T34 l0_1 x16_1).f1) : Int).toNat (wrap64 ((rd y282 ((rd_T34 l0_1 x16_1).f1)) + (rd l1 x16_1)))) l0_1 (l0_1.length : Int) (wrap64 (x16_1 + 1)) a0_0 l0_1) else (none)) else (none)) = some (r1, r2) := by first | (rw [hy282]; with_reducible exact H) | (have H2_ := (Option.bind_some _ _).symm.trans H; rw [hy282]; with_reducible exact H2_) | (have H2_ := (Option.bind_some _ _).symm.trans H; with_reducible exact H2_) | with_reducible exact H | (rw [hy282]; exact H) | exact H
                          have Ny282 := Aside0.mk hy282
                          clear hy282
                          by_cases c29 : 0 ≤ ((rd_T34 l0_1 x16_1).f1)
                          · rw [if_pos c29] at H
                            have c29b0 : decide (0 ≤ ((rd_T34 l0_1 x16_1).f1)) = true := decide_eq_true c29
                            clear c29
                            by_cases c30 : ((rd_T34 l0_1 x16_1).f1) < (x6_1.length : Int)
                            · rw [if_pos c30] at H
                              have c30b0 : decide (((rd_T34 l0_1 x16_1).f1) < (x6_1.length : Int)) = true := decide_eq_true c30
                              clear c30
                              obtain ⟨y285, hy285⟩ : ∃ y_ : List Int, y_ = (y282.set (((rd_T34 l0_1 x16_1).f1) : Int).toNat (wrap64 ((rd y282 ((rd_T34 l0_1 x16_1).f1)) + (rd l1 x16_1)))) := ⟨_, rfl⟩
                              replace H : (cantingref07_Flow.l0 k1 l1 y285 l0_1 (l0_1.length : Int) (wrap64 (x16_1 + 1)) a0_0 l0_1) = some (r1, r2) := by first | (rw [hy285]; with_reducible exact H) | (have H2_ := (Option.bind_some _ _).symm.trans H; rw [hy285]; with_reducible exact H2_) | (have H2_ := (Option.bind_some _ _).symm.trans H; with_reducible exact H2_) | with_reducible exact H | (rw [hy285]; exact H) | exact H
                              have Ny285 := Aside0.mk hy285
                              clear hy285
                              have H' := Aside0.mk H
                              clear H
                              have p276 : 0 ≤ (x16_1 : Int) := of_decide_eq_true (by first | (with_reducible assumption) | assumption)
                              have q276 : x16_1 < (l0_1.length : Int) := of_decide_eq_true (by first | (with_reducible assumption) | assumption)
                              obtain ⟨ad276, e276, hx276_0, hx276_1, hx276_2⟩ := at_T34 HR0_1.out x16_1 p276 q276
                              cases e276
                              replace hx276_0 := (HB.out.cell (World.block_lt_of_cell? w _ hx276_0)).trans hx276_0
                              replace hx276_1 := (HB.out.cell (World.block_lt_of_cell? w _ hx276_1)).trans hx276_1
                              replace hx276_2 := (HB.out.cell (World.block_lt_of_cell? w _ hx276_2)).trans hx276_2
                              replace p276 := eq_true p276
                              replace q276 := eq_true q276
                              try go_wp2_with (first | ((with_reducible refine gate_dst (N := 8) rfl ?_); refine box_event ?hg (N := 8) ?hd (cs := #[.int .i64 0, .int .i64 0, .int .i64 0]) (t := 34) ?hr ?_; (case hd => rfl); (case hg => rfl); (case hr => first | (go_simp; done) | (go_simp; rfl)); intro gb277 hg w32 hbox hb; have n0_ := Aside0.mk (Kd.R_below (by (with_reducible repeat (first | apply Kd.R_alloc | apply Kd.R_drewN | apply Kd.R_drew)); exact HO_6.out) hb); have n1_ := Aside0.mk (blk_below (g := gb272) (o := .cells #[.int .i64 a0_0, .slice (some ad276) l0_1.length c0_1] 24 (0, 0)) (by (with_reducible repeat (first | refine blk_drewN ?_ _ | refine blk_drew ?_ | refine blk_alloc ?_ _)); exact BK272.out) hb); have n2_ := Aside0.mk (below_step (by repeat (first | (with_reducible first | exact HB.out | apply below_alloc | apply pw_below_drewN | apply below_drew1 | refine below_set ?_ GE272.out) | exact HB.out)) hb); have n3_ := Aside0.mk (hbox); have n4_ := Aside0.mk ((by rw [hg]; exact (below_size (by repeat (first | (with_reducible first | exact HB.out | apply below_alloc | apply pw_below_drewN | apply below_drew1 | refine below_set ?_ GE272.out) | exact HB.out))) : w.heap.size ≤ gb277)); have n5_ := Aside0.mk ((by rw [hg]; exact (below_size (by repeat (first | (with_reducible first | exact HB.out | apply below_alloc | apply pw_below_drewN | apply below_drew1 | refine below_set ?_ GE272.out) | exact HB.out))) : w.heap.size ≤ gb277)); have n6_ := Aside0.mk ((by rw [hg]; exact Nat.ne_of_lt (blk_lt (g := gb272) (o := .cells #[.int .i64 a0_0, .slice (some ad276) l0_1.length c0_1] 24 (0, 0)) (by (with_reducible repeat (first | refine blk_drewN ?_ _ | refine blk_drew ?_ | refine blk_alloc ?_ _)); exact BK272.out)) : gb272 ≠ gb277)); have n7_ := Aside0.mk ((by rw [hg]; exact Nat.ne_of_gt (blk_lt (g := gb272) (o := .cells #[.int .i64 a0_0, .slice (some ad276) l0_1.length c0_1] 24 (0, 0)) (by (with_reducible repeat (first | refine blk_drewN ?_ _ | refine blk_drew ?_ | refine blk_alloc ?_ _)); exact BK272.out)) : gb277 ≠ gb272)); clear HO_6; clear BK272; clear HB; have HO_6 := n0_; have BK272 := n1_; have HB := n2_; have BK277 := n3_; have GW277 := n4_; have GE277 := n5_; have NB272_277 := n6_; have NB277_272 := n7_; clear n0_ n1_ n2_ n3_ n4_ n5_ n6_ n7_; clear hb hbox hg; have hnb33 := NB277_272.out; have hnc33 := NB272_277.out; have hcz34_0 : w32.cell? ⟨gb277, 0, none⟩ = some (.int .i64 0) := (blk_cell BK277.out 0).trans rfl; have hcz34_1 : w32.cell? ⟨gb277, 1, none⟩ = some (.int .i64 0) := (blk_cell BK277.out 1).trans rfl; have hcz34_2 : w32.cell? ⟨gb277, 2, none⟩ = some (.int .i64 0) := (blk_cell BK277.out 2).trans rfl; have hfz34_0 := blk_frozen BK277.out 0; have hfz34_1 := blk_frozen BK277.out 1; have hfz34_2 := blk_frozen BK277.out 2))
                              have n0_ : Aside0 (Kd.R (Kd.int .i64) 3 (((w32.setCell ⟨gb277, 0, none⟩ (.int .i64 ((rd_T34 l0_1 x16_1).f0))).setCell ⟨gb277, 1, none⟩ (.int .i64 ((rd_T34 l0_1 x16_1).f1))).setCell ⟨gb277, 2, none⟩ (.int .i64 ((rd_T34 l0_1 x16_1).f2))) w.heap.size (fun _ => True) v274 x6_1) := ⟨by (with_reducible repeat (first | apply Kd.R_alloc | apply Kd.R_drewN | apply Kd.R_drew)); exact Kd.R_mono (Kd.R_far (p := ⟨gb277, 2, none⟩) (Kd.R_far (p := ⟨gb277, 1, none⟩) (Kd.R_far (p := ⟨gb277, 0, none⟩) (Kd.R_types HO_6.out BK277.out (by decide)) (fun _ hk => hk.2) (.int .i64 ((rd_T34 l0_1 x16_1).f0))) (fun _ hk => hk.2) (.int .i64 ((rd_T34 l0_1 x16_1).f1))) (fun _ hk => hk.2) (.int .i64 ((rd_T34 l0_1 x16_1).f2))) (fun _ hk => trivial)⟩
                              have n1_ : Aside0 ((((w32.setCell ⟨gb277, 0, none⟩ (.int .i64 ((rd_T34 l0_1 x16_1).f0))).setCell ⟨gb277, 1, none⟩ (.int .i64 ((rd_T34 l0_1 x16_1).f1))).setCell ⟨gb277, 2, none⟩ (.int .i64 ((rd_T34 l0_1 x16_1).f2))).heap[gb272]? = some (.cells #[.int .i64 a0_0, .slice (some ad276) l0_1.length c0_1] 24 (0, 0))) := ⟨by (with_reducible repeat (first | refine blk_drewN ?_ _ | refine blk_drew ?_ | refine blk_alloc ?_ _)); refine blk_far ?_ NB272_277.out _; (with_reducible repeat (first | refine blk_drewN ?_ _ | refine blk_drew ?_ | refine blk_alloc ?_ _)); refine blk_far ?_ NB272_277.out _; (with_reducible repeat (first | refine blk_drewN ?_ _ | refine blk_drew ?_ | refine blk_alloc ?_ _)); refine blk_far ?_ NB272_277.out _; (with_reducible repeat (first | refine blk_drewN ?_ _ | refine blk_drew ?_ | refine blk_alloc ?_ _)); exact BK272.out⟩
                              have n2_ : Aside0 ((((w32.setCell ⟨gb277, 0, none⟩ (.int .i64 ((rd_T34 l0_1 x16_1).f0))).setCell ⟨gb277, 1, none⟩ (.int .i64 ((rd_T34 l0_1 x16_1).f1))).setCell ⟨gb277, 2, none⟩ (.int .i64 ((rd_T34 l0_1 x16_1).f2))).heap[gb277]? = some (.cells #[.int .i64 ((rd_T34 l0_1 x16_1).f0), .int .i64 ((rd_T34 l0_1 x16_1).f1), .int .i64 ((rd_T34 l0_1 x16_1).f2)] 34 (0, 0))) := ⟨by (with_reducible repeat (first | refine blk_drewN ?_ _ | refine blk_drew ?_ | refine blk_alloc ?_ _)); refine blk_put (cs := #[.int .i64 ((rd_T34 l0_1 x16_1).f0), .int .i64 ((rd_T34 l0_1 x16_1).f1), .int .i64 0]) ?_ 2 _ rfl; (with_reducible repeat (first | refine blk_drewN ?_ _ | refine blk_drew ?_ | refine blk_alloc ?_ _)); refine blk_put (cs := #[.int .i64 ((rd_T34 l0_1 x16_1).f0), .int .i64 0, .int .i64 0]) ?_ 1 _ rfl; (with_reducible repeat (first | refine blk_drewN ?_ _ | refine blk_drew ?_ | refine blk_alloc ?_ _)); refine blk_put (cs := #[.int .i64 0, .int .i64 0, .int .i64 0]) ?_ 0 _ rfl; (with_reducible repeat (first | refine blk_drewN ?_ _ | refine blk_drew ?_ | refine blk_alloc ?_ _)); exact BK277.out⟩
                              have n3_ : Aside0 (Below w.heap.size w (((w32.setCell ⟨gb277, 0, none⟩ (.int .i64 ((rd_T34 l0_1 x16_1).f0))).setCell ⟨gb277, 1, none⟩ (.int .i64 ((rd_T34 l0_1 x16_1).f1))).setCell ⟨gb277, 2, none⟩ (.int .i64 ((rd_T34 l0_1 x16_1).f2)))) := ⟨by repeat (first | (with_reducible first | exact HB.out | apply below_alloc | apply pw_below_drewN | apply below_drew1 | refine below_set ?_ GE272.out | refine below_set ?_ GE277.out) | exact HB.out)⟩
                              (try clear HO_6)
                              (try clear BK272)
                              (try clear BK277)
                              (try clear HB)
                              generalize (((w32.setCell ⟨gb277, 0, none⟩ (.int .i64 ((rd_T34 l0_1 x16_1).f0))).setCell ⟨gb277, 1, none⟩ (.int .i64 ((rd_T34 l0_1 x16_1).f1))).setCell ⟨gb277, 2, none⟩ (.int .i64 ((rd_T34 l0_1 x16_1).f2))) = w35 at n0_ n1_ n2_ n3_ ⊢
                              have HO_6 := n0_
                              have BK272 := n1_
                              have BK277 := n2_
                              have HB := n3_
                              clear n0_ n1_ n2_ n3_
                              have n0_ := Aside0.mk (Kd.R_drew HO_6.out)
                              have n1_ := Aside0.mk (blk_drew BK272.out)
                              have n2_ := Aside0.mk (blk_drew BK277.out)
                              have n3_ := Aside0.mk (below_drew1 HB.out)
                              clear HO_6
                              clear BK272
                              clear BK277
                              clear HB
                              have HO_6 := n0_
                              have BK272 := n1_
                              have BK277 := n2_
                              have HB := n3_
                              clear n0_ n1_ n2_ n3_
                              have p278 : 0 ≤ (x16_1 : Int) := of_decide_eq_true (by first | (with_reducible assumption) | assumption)
                              have q278 : x16_1 < (l1.length : Int) := of_decide_eq_true (by first | (with_reducible assumption) | assumption)
                              obtain ⟨ad278, e278, hx278_0⟩ := Kd.at_int HR1.out x16_1 p278 q278
                              have hw278_0 := hx278_0
                              cases e278
                              replace hx278_0 := (HB.out.cell (World.block_lt_of_cell? w _ hx278_0)).trans hx278_0
                              replace p278 := eq_true p278
                              replace q278 := eq_true q278
                              have p279 : 0 ≤ (x16_1 : Int) := of_decide_eq_true (by first | (with_reducible assumption) | assumption)
                              have q279 : x16_1 < (l1.length : Int) := of_decide_eq_true (by first | (with_reducible assumption) | assumption)
                              obtain ⟨ad279, e279, hx279_0⟩ := Kd.at_int HR1.out x16_1 p279 q279
                              have hw279_0 := hx279_0
                              obtain rfl : ad278 = ad279 := (by injection e279)
                              replace hx279_0 := (HB.out.cell (World.block_lt_of_cell? w _ hx279_0)).trans hx279_0
                              replace p279 := eq_true p279
                              replace q279 := eq_true q279
                              refine start_ (n := 14) (S := fun w' => w'.cell? ⟨gb277, 0, none⟩ = some (.int .i64 ((rd_T34 l0_1 x16_1).f0)) ∧ w'.cell? ⟨gb277, 1, none⟩ = some (.int .i64 ((rd_T34 l0_1 x16_1).f1)) ∧ w'.cell? ⟨gb277, 2, none⟩ = some (.int .i64 ((rd_T34 l0_1 x16_1).f2)) ∧ w'.cell? (ad278.add (x16_1).toNat) = some (.int .i64 (rd l1 x16_1)) ∧ w'.cell? (ad278.add (x16_1).toNat) = some (.int .i64 (rd l1 x16_1))) (ds := []) #[false, false, false, false, false, false, false, false, false, false, false, false, false, false] (by kernel_rfl) rfl rfl ⟨(blk_cell BK277.out 0).trans rfl, (blk_cell BK277.out 1).trans rfl, (blk_cell BK277.out 2).trans rfl, (by first | exact (HB.out.cell (World.block_lt_of_cell? w _ hw278_0)).trans hw278_0 | exact hx278_0), (by first | exact (HB.out.cell (World.block_lt_of_cell? w _ hw279_0)).trans hw279_0 | exact hx279_0)⟩ (fun hHeld => ?_); refine with_tabW cantingref07_Flow.tab5 cantingref07_Flow.bits5 (fun HT_ HW_ => ?_)
                              generalize w35.drew = w36 at HO_6 BK272 BK277 HB hx278_0 hx279_0 hHeld ⊢
                              refine pure_ (i := 0) (N := some 21) (v := ?_) (a' := ?_) #[true, false, false, false, false, false, false, false, false, false, false, false, false, false] rfl rfl (any_of HT_.out (by kernel_rfl)) (fun _ _ _ h => h) (Or.inl ⟨by rfl, ?_⟩) ?_ ?_
                              rotate_left
                              · intro w'
                                go_simp
                                with_reducible rfl
                              rotate_left
                              · simp only [Act.put, List.setIfInBounds_toArray, List.set_cons_zero, List.set_cons_succ, i64_w, i32_w]
                                rfl
                              refine pure_ (i := 1) (N := some 22) (v := ?_) (a' := ?_) #[true, true, false, false, false, false, false, false, false, false, false, false, false, false] rfl rfl (any_of HT_.out (by kernel_rfl)) (fun _ _ _ h => h) (Or.inl ⟨by rfl, ?_⟩) ?_ ?_
                              rotate_left
                              · intro w'
                                go_simp
                                with_reducible rfl
                              rotate_left
                              · simp only [Act.put, List.setIfInBounds_toArray, List.set_cons_zero, List.set_cons_succ, i64_w, i32_w]
                                rfl
                              refine pure_ (i := 2) (N := some 23) (v := ?_) (a' := ?_) #[true, true, true, false, false, false, false, false, false, false, false, false, false, false] rfl rfl (any_of HT_.out (by kernel_rfl)) (fun _ _ _ h => h) (Or.inl ⟨by rfl, ?_⟩) ?_ ?_
                              rotate_left
                              · intro w'
                                go_simp
                                with_reducible rfl
                              rotate_left
                              · simp only [Act.put, List.setIfInBounds_toArray, List.set_cons_zero, List.set_cons_succ, i64_w, i32_w]
                                rfl
                              refine take_ (i := 3) (N := some 24) (v := ?_) (a' := ?_) #[true, true, true, true, false, false, false, false, false, false, false, false, false, false] rfl rfl (take_ofW HT_.out HW_.out (by kernel_rfl)) (fun _ _ _ h => h) (Or.inl ⟨by rfl, ?_⟩) hHeld ?_ ?_
                              rotate_left
                              · rintro w' ⟨s0, s1, s2, s3, s4⟩
                                go_simp
                                with_reducible rfl
                              rotate_left
                              · simp only [Act.put, List.setIfInBounds_toArray, List.set_cons_zero, List.set_cons_succ, i64_w, i32_w]
                                rfl
                              refine pure_ (i := 4) (N := some 25) (v := ?_) (a' := ?_) #[true, true, true, true, true, false, false, false, false, false, false, false, false, false] rfl rfl (any_of HT_.out (by kernel_rfl)) (fun _ _ _ h => h) (Or.inl ⟨by rfl, ?_⟩) ?_ ?_
                              rotate_left
                              · intro w'
                                go_simp
                                with_reducible rfl
                              rotate_left
                              · simp only [Act.put, List.setIfInBounds_toArray, List.set_cons_zero, List.set_cons_succ, i64_w, i32_w]
                                rfl
                              refine pure_ (i := 5) (N := some 26) (v := ?_) (a' := ?_) #[true, true, true, true, true, true, false, false, false, false, false, false, false, false] rfl rfl (any_of HT_.out (by kernel_rfl)) (fun _ _ _ h => h) (Or.inl ⟨by rfl, ?_⟩) ?_ ?_
                              rotate_left
                              · intro w'
                                go_simp
                                with_reducible rfl
                              rotate_left
                              · simp only [Act.put, List.setIfInBounds_toArray, List.set_cons_zero, List.set_cons_succ, i64_w, i32_w]
                                rfl
                              refine pure_ (i := 6) (N := some 27) (v := ?_) (a' := ?_) #[true, true, true, true, true, true, true, false, false, false, false, false, false, false] rfl rfl (any_of HT_.out (by kernel_rfl)) (fun _ _ _ h => h) (Or.inl ⟨by rfl, ?_⟩) ?_ ?_
                              rotate_left
                              · intro w'
                                go_simp
                                with_reducible rfl
                              rotate_left
                              · simp only [Act.put, List.setIfInBounds_toArray, List.set_cons_zero, List.set_cons_succ, i64_w, i32_w]
                                rfl
                              refine pure_ (i := 7) (N := some 28) (v := ?_) (a' := ?_) #[true, true, true, true, true, true, true, true, false, false, false, false, false, false] rfl rfl (any_of HT_.out (by kernel_rfl)) (fun _ _ _ h => h) (Or.inl ⟨by rfl, ?_⟩) ?_ ?_
                              rotate_left
                              · intro w'
                                go_simp
                                with_reducible rfl
                              rotate_left
                              · simp only [Act.put, List.setIfInBounds_toArray, List.set_cons_zero, List.set_cons_succ, i64_w, i32_w]
                                rfl
                              refine pure_ (i := 8) (N := some 29) (v := ?_) (a' := ?_) #[true, true, true, true, true, true, true, true, true, false, false, false, false, false] rfl rfl (any_of HT_.out (by kernel_rfl)) (fun _ _ _ h => h) (Or.inl ⟨by rfl, ?_⟩) ?_ ?_
                              rotate_left
                              · intro w'
                                go_simp
                                with_reducible rfl
                              rotate_left
                              · simp only [Act.put, List.setIfInBounds_toArray, List.set_cons_zero, List.set_cons_succ, i64_w, i32_w]
                                rfl
                              refine pure_ (i := 10) (N := some 31) (v := ?_) (a' := ?_) #[true, true, true, true, true, true, true, true, true, false, true, false, false, false] rfl rfl (any_of HT_.out (by kernel_rfl)) (fun _ _ _ h => h) (Or.inl ⟨by rfl, ?_⟩) ?_ ?_
                              rotate_left
                              · intro w'
                                go_simp
                                with_reducible rfl
                              rotate_left
                              · simp only [Act.put, List.setIfInBounds_toArray, List.set_cons_zero, List.set_cons_succ, i64_w, i32_w]
                                rfl
                              refine take_ (i := 9) (N := some 30) (v := ?_) (a' := ?_) #[true, true, true, true, true, true, true, true, true, true, true, false, false, false] rfl rfl (take_ofW HT_.out HW_.out (by kernel_rfl)) (fun _ _ _ h => h) (Or.inl ⟨by rfl, ?_⟩) hHeld ?_ ?_
                              rotate_left
                              · rintro w' ⟨s0, s1, s2, s3, s4⟩
                                go_simp
                                with_reducible rfl
                              rotate_left
                              · simp only [Act.put, List.setIfInBounds_toArray, List.set_cons_zero, List.set_cons_succ, i64_w, i32_w]
                                rfl
                              refine take_ (i := 11) (N := some 32) (v := ?_) (a' := ?_) #[true, true, true, true, true, true, true, true, true, true, true, true, false, false] rfl rfl (take_ofW HT_.out HW_.out (by kernel_rfl)) (fun _ _ _ h => h) (Or.inl ⟨by rfl, ?_⟩) hHeld ?_ ?_
                              rotate_left
                              · rintro w' ⟨s0, s1, s2, s3, s4⟩
                                go_simp
                                with_reducible rfl
                              rotate_left
                              · simp only [Act.put, List.setIfInBounds_toArray, List.set_cons_zero, List.set_cons_succ, i64_w, i32_w]
                                rfl
                              refine pure_ (i := 12) (N := some 33) (v := ?_) (a' := ?_) #[true, true, true, true, true, true, true, true, true, true, true, true, true, false] rfl rfl (any_of HT_.out (by kernel_rfl)) (fun _ _ _ h => h) (Or.inl ⟨by rfl, ?_⟩) ?_ ?_
                              rotate_left
                              · intro w'
                                go_simp
                                with_reducible rfl
                              rotate_left
                              · simp only [Act.put, List.setIfInBounds_toArray, List.set_cons_zero, List.set_cons_succ, i64_w, i32_w]
                                rfl
                              refine pure_ (i := 13) (N := some 34) (v := ?_) (a' := ?_) #[true, true, true, true, true, true, true, true, true, true, true, true, true, true] rfl rfl (any_of HT_.out (by kernel_rfl)) (fun _ _ _ h => h) (Or.inl ⟨by rfl, ?_⟩) ?_ ?_
                              rotate_left
                              · intro w'
                                go_simp
                                with_reducible rfl
                              rotate_left
                              · simp only [Act.put, List.setIfInBounds_toArray, List.set_cons_zero, List.set_cons_succ, i64_w, i32_w]
                                rfl
                              refine done_ (done_of HT_.out (by kernel_rfl)) ?_
                              try go_wp2
                              have n0_ := Aside0.mk (Kd.R_drew HO_6.out)
                              have n1_ := Aside0.mk (blk_drew BK272.out)
                              have n2_ := Aside0.mk (blk_drew BK277.out)
                              have n3_ := Aside0.mk (below_drew1 HB.out)
                              clear HO_6
                              clear BK272
                              clear BK277
                              clear HB
                              have HO_6 := n0_
                              have BK272 := n1_
                              have BK277 := n2_
                              have HB := n3_
                              clear n0_ n1_ n2_ n3_
                              obtain ⟨Ao38, co38, eo38⟩ := Kd.R_slice HO_6.out
                              (first | subst eo38 | (injection eo38 with f1_ f2_ f3_; have f4_ := f1_.symm; have f5_ := f3_.symm; clear f1_ f2_ f3_; subst f4_; subst f5_))
                              have p280 : 0 ≤ (((rd_T34 l0_1 x16_1).f0) : Int) := of_decide_eq_true (by first | (with_reducible assumption) | assumption)
                              have q280 : ((rd_T34 l0_1 x16_1).f0) < (x6_1.length : Int) := of_decide_eq_true (by first | (with_reducible assumption) | assumption)
                              obtain ⟨ad280, e280, hx280_0⟩ := Kd.at_int (Kd.R_reads' HO_6.out).2.2 ((rd_T34 l0_1 x16_1).f0) p280 q280
                              cases e280
                              replace p280 := eq_true p280
                              replace q280 := eq_true q280
                              have p281 : 0 ≤ (x16_1 : Int) := of_decide_eq_true (by first | (with_reducible assumption) | assumption)
                              have q281 : x16_1 < (l1.length : Int) := of_decide_eq_true (by first | (with_reducible assumption) | assumption)
                              obtain ⟨ad281, e281, hx281_0⟩ := Kd.at_int HR1.out x16_1 p281 q281
                              have hw281_0 := hx281_0
                              obtain rfl : ad278 = ad281 := (by injection e281)
                              replace hx281_0 := (HB.out.cell (World.block_lt_of_cell? w _ hx281_0)).trans hx281_0
                              replace p281 := eq_true p281
                              replace q281 := eq_true q281
                              have p28 : 0 ≤ (((rd_T34 l0_1 x16_1).f0) : Int) := of_decide_eq_true (by first | (with_reducible assumption) | assumption)
                              have q28 : (((rd_T34 l0_1 x16_1).f0) : Int) < ((x6_1.length : Int) : Int) := of_decide_eq_true (by first | (with_reducible assumption) | assumption)
                              obtain ⟨go28, co28, eo28, gb28, gl28, cl28, HG28⟩ := Kd.R_form HO_6.out (by omega)
                              (first | cases eo28 | (injection eo28 with ea_ en_ ec_; (first | subst ea_ | (injection ea_ with ea_; subst ea_)); subst ec_; clear en_))
                              have GB28 := Aside0.mk gb28
                              have GG28 := Aside0.mk HG28
                              clear gb28 gl28 HG28
                              (first | simp only [add_plain] at hx280_0 | skip)
                              obtain ⟨hx28_0, hf28_0⟩ := Kd.R_celln 0 HO_6.out (((rd_T34 l0_1 x16_1).f0) : Int) p28 q28
                              replace p28 := eq_true p28
                              replace q28 := eq_true q28
                              have HP39 := Kd.R_putn HO_6.out (((rd_T34 l0_1 x16_1).f0) : Int) (wrap64 ((rd x6_1 ((rd_T34 l0_1 x16_1).f0)) - (rd l1 x16_1)))
                              rw [← Ny282.out] at HP39
                              have HQ39 := Aside0.mk HP39
                              clear HP39
                              refine start_ (n := 12) (S := fun w' => w'.cell? ⟨gb277, 0, none⟩ = some (.int .i64 ((rd_T34 l0_1 x16_1).f0)) ∧ w'.cell? ⟨gb277, 1, none⟩ = some (.int .i64 ((rd_T34 l0_1 x16_1).f1)) ∧ w'.cell? ⟨gb277, 2, none⟩ = some (.int .i64 ((rd_T34 l0_1 x16_1).f2)) ∧ w'.cell? ⟨go28, (((rd_T34 l0_1 x16_1).f0)).toNat, none⟩ = some (.int .i64 (rd x6_1 ((rd_T34 l0_1 x16_1).f0))) ∧ w'.cell? (ad278.add (x16_1).toNat) = some (.int .i64 (rd l1 x16_1))) (ds := [11]) #[false, false, false, false, false, false, false, false, false, false, false, false] (by kernel_rfl) rfl rfl ⟨(blk_cell BK277.out 0).trans rfl, (blk_cell BK277.out 1).trans rfl, (blk_cell BK277.out 2).trans rfl, hx280_0, (by first | exact (HB.out.cell (World.block_lt_of_cell? w _ hw281_0)).trans hw281_0 | exact hx281_0)⟩ (fun hHeld => ?_); refine with_tabW cantingref07_Flow.tab7 cantingref07_Flow.bits7 (fun HT_ HW_ => ?_)
                              generalize w36.drew = w37 at HO_6 BK272 BK277 HB GG28 HQ39 hf28_0 hx280_0 hx281_0 hx28_0 hHeld ⊢
                              refine pure_ (i := 0) (N := some 35) (v := ?_) (a' := ?_) #[true, false, false, false, false, false, false, false, false, false, false, false] rfl rfl (any_of HT_.out (by kernel_rfl)) (fun _ _ _ h => h) (Or.inl ⟨by rfl, ?_⟩) ?_ ?_
                              rotate_left
                              · intro w'
                                go_simp
                                with_reducible rfl
                              rotate_left
                              · simp only [Act.put, List.setIfInBounds_toArray, List.set_cons_zero, List.set_cons_succ, i64_w, i32_w]
                                rfl
                              refine pure_ (i := 1) (N := some 36) (v := ?_) (a' := ?_) #[true, true, false, false, false, false, false, false, false, false, false, false] rfl rfl (any_of HT_.out (by kernel_rfl)) (fun _ _ _ h => h) (Or.inl ⟨by rfl, ?_⟩) ?_ ?_
                              rotate_left
                              · intro w'
                                go_simp
                                with_reducible rfl
                              rotate_left
                              · simp only [Act.put, List.setIfInBounds_toArray, List.set_cons_zero, List.set_cons_succ, i64_w, i32_w]
                                rfl
                              refine pure_ (i := 5) (N := some 40) (v := ?_) (a' := ?_) #[true, true, false, false, false, true, false, false, false, false, false, false] rfl rfl (any_of HT_.out (by kernel_rfl)) (fun _ _ _ h => h) (Or.inl ⟨by rfl, ?_⟩) ?_ ?_
                              rotate_left
                              · intro w'
                                go_simp
                                with_reducible rfl
                              rotate_left
                              · simp only [Act.put, List.setIfInBounds_toArray, List.set_cons_zero, List.set_cons_succ, i64_w, i32_w]
                                rfl
                              refine pure_ (i := 6) (N := some 41) (v := ?_) (a' := ?_) #[true, true, false, false, false, true, true, false, false, false, false, false] rfl rfl (any_of HT_.out (by kernel_rfl)) (fun _ _ _ h => h) (Or.inl ⟨by rfl, ?_⟩) ?_ ?_
                              rotate_left
                              · intro w'
                                go_simp
                                with_reducible rfl
                              rotate_left
                              · simp only [Act.put, List.setIfInBounds_toArray, List.set_cons_zero, List.set_cons_succ, i64_w, i32_w]
                                rfl
                              refine pure_ (i := 7) (N := some 42) (v := ?_) (a' := ?_) #[true, true, false, false, false, true, true, true, false, false, false, false] rfl rfl (any_of HT_.out (by kernel_rfl)) (fun _ _ _ h => h) (Or.inl ⟨by rfl, ?_⟩) ?_ ?_
                              rotate_left
                              · intro w'
                                go_simp
                                with_reducible rfl
                              rotate_left
                              · simp only [Act.put, List.setIfInBounds_toArray, List.set_cons_zero, List.set_cons_succ, i64_w, i32_w]
                                rfl
                              refine take_ (i := 2) (N := some 37) (v := ?_) (a' := ?_) #[true, true, true, false, false, true, true, true, false, false, false, false] rfl rfl (take_ofW HT_.out HW_.out (by kernel_rfl)) (fun _ _ _ h => h) (Or.inl ⟨by rfl, ?_⟩) hHeld ?_ ?_
                              rotate_left
                              · rintro w' ⟨s0, s1, s2, s3, s4⟩
                                go_simp
                                with_reducible rfl
                              rotate_left
                              · simp only [Act.put, List.setIfInBounds_toArray, List.set_cons_zero, List.set_cons_succ, i64_w, i32_w]
                                rfl
                              refine pure_ (i := 3) (N := some 38) (v := ?_) (a' := ?_) #[true, true, true, true, false, true, true, true, false, false, false, false] rfl rfl (any_of HT_.out (by kernel_rfl)) (fun _ _ _ h => h) (Or.inl ⟨by rfl, ?_⟩) ?_ ?_
                              rotate_left
                              · intro w'
                                go_simp
                                with_reducible rfl
                              rotate_left
                              · simp only [Act.put, List.setIfInBounds_toArray, List.set_cons_zero, List.set_cons_succ, i64_w, i32_w]
                                rfl
                              refine take_ (i := 4) (N := some 39) (v := ?_) (a' := ?_) #[true, true, true, true, true, true, true, true, false, false, false, false] rfl rfl (take_ofW HT_.out HW_.out (by kernel_rfl)) (fun _ _ _ h => h) (Or.inl ⟨by rfl, ?_⟩) hHeld ?_ ?_
                              rotate_left
                              · rintro w' ⟨s0, s1, s2, s3, s4⟩
                                go_simp
                                with_reducible rfl
                              rotate_left
                              · simp only [Act.put, List.setIfInBounds_toArray, List.set_cons_zero, List.set_cons_succ, i64_w, i32_w]
                                rfl
                              refine take_ (i := 8) (N := some 43) (v := ?_) (a' := ?_) #[true, true, true, true, true, true, true, true, true, false, false, false] rfl rfl (take_ofW HT_.out HW_.out (by kernel_rfl)) (fun _ _ _ h => h) (Or.inl ⟨by rfl, ?_⟩) hHeld ?_ ?_
                              rotate_left
                              · rintro w' ⟨s0, s1, s2, s3, s4⟩
                                go_simp
                                with_reducible rfl
                              rotate_left
                              · simp only [Act.put, List.setIfInBounds_toArray, List.set_cons_zero, List.set_cons_succ, i64_w, i32_w]
                                rfl
                              refine pure_ (i := 9) (N := some 44) (v := ?_) (a' := ?_) #[true, true, true, true, true, true, true, true, true, true, false, false] rfl rfl (any_of HT_.out (by kernel_rfl)) (fun _ _ _ h => h) (Or.inl ⟨by rfl, ?_⟩) ?_ ?_
                              rotate_left
                              · intro w'
                                go_simp
                                with_reducible rfl
                              rotate_left
                              · simp only [Act.put, List.setIfInBounds_toArray, List.set_cons_zero, List.set_cons_succ, i64_w, i32_w]
                                rfl
                              refine pure_ (i := 10) (N := some 45) (v := ?_) (a' := ?_) #[true, true, true, true, true, true, true, true, true, true, true, false] rfl rfl (any_of HT_.out (by kernel_rfl)) (fun _ _ _ h => h) (Or.inl ⟨by rfl, ?_⟩) ?_ ?_
                              rotate_left
                              · intro w'
                                go_simp
                                with_reducible rfl
                              rotate_left
                              · simp only [Act.put, List.setIfInBounds_toArray, List.set_cons_zero, List.set_cons_succ, i64_w, i32_w]
                                rfl
                              refine last_ (i := 11) (N := none) #[true, true, true, true, true, true, true, true, true, true, true, true] rfl rfl (one_of HT_.out (by kernel_rfl)) (by decide) (fun K hK => ?_)
                              refine skip_ (w1 := ?_) (by rfl) rfl ?_ ?_
                              rotate_left
                              · go_simp
                                rfl
                              refine hK.out _ _ ?_
                              clear hK K
                              refine done_ (done_of HT_.out (by kernel_rfl)) ?_
                              try go_wp2
                              have n0_ : Aside0 (Kd.R (Kd.int .i64) 3 (w37.setCell ⟨go28, (((rd_T34 l0_1 x16_1).f0) : Int).toNat, none⟩ (.int .i64 (wrap64 ((rd x6_1 ((rd_T34 l0_1 x16_1).f0)) - (rd l1 x16_1))))) w.heap.size (fun _ => True) (.slice (some ⟨go28, 0, none⟩) x6_1.length co38) y282) := ⟨by (with_reducible repeat (first | apply Kd.R_alloc | apply Kd.R_drewN | apply Kd.R_drew)); exact HQ39.out⟩
                              have n1_ : Aside0 ((w37.setCell ⟨go28, (((rd_T34 l0_1 x16_1).f0) : Int).toNat, none⟩ (.int .i64 (wrap64 ((rd x6_1 ((rd_T34 l0_1 x16_1).f0)) - (rd l1 x16_1))))).heap[gb272]? = some (.cells #[.int .i64 a0_0, .slice (some ad276) l0_1.length c0_1] 24 (0, 0))) := ⟨by (with_reducible repeat (first | refine blk_drewN ?_ _ | refine blk_drew ?_ | refine blk_alloc ?_ _)); refine blk_far ?_ (by have h_ := Kd.R_ne HO_6.out BK272.out (by decide); intro e_; exact h_ (by rw [e_]; rfl)) _; (with_reducible repeat (first | refine blk_drewN ?_ _ | refine blk_drew ?_ | refine blk_alloc ?_ _)); exact BK272.out⟩
                              have n2_ : Aside0 ((w37.setCell ⟨go28, (((rd_T34 l0_1 x16_1).f0) : Int).toNat, none⟩ (.int .i64 (wrap64 ((rd x6_1 ((rd_T34 l0_1 x16_1).f0)) - (rd l1 x16_1))))).heap[gb277]? = some (.cells #[.int .i64 ((rd_T34 l0_1 x16_1).f0), .int .i64 ((rd_T34 l0_1 x16_1).f1), .int .i64 ((rd_T34 l0_1 x16_1).f2)] 34 (0, 0))) := ⟨by (with_reducible repeat (first | refine blk_drewN ?_ _ | refine blk_drew ?_ | refine blk_alloc ?_ _)); refine blk_far ?_ (by have h_ := Kd.R_ne HO_6.out BK277.out (by decide); intro e_; exact h_ (by rw [e_]; rfl)) _; (with_reducible repeat (first | refine blk_drewN ?_ _ | refine blk_drew ?_ | refine blk_alloc ?_ _)); exact BK277.out⟩
                              have n3_ : Aside0 (Below w.heap.size w (w37.setCell ⟨go28, (((rd_T34 l0_1 x16_1).f0) : Int).toNat, none⟩ (.int .i64 (wrap64 ((rd x6_1 ((rd_T34 l0_1 x16_1).f0)) - (rd l1 x16_1)))))) := ⟨by repeat (first | (with_reducible first | exact HB.out | apply below_alloc | apply pw_below_drewN | apply below_drew1 | refine below_set ?_ GB28.out | refine below_set ?_ GE272.out | refine below_set ?_ GE277.out) | exact HB.out)⟩
                              (try clear HO_6)
                              (try clear BK272)
                              (try clear BK277)
                              (try clear HB)
                              generalize (w37.setCell ⟨go28, (((rd_T34 l0_1 x16_1).f0) : Int).toNat, none⟩ (.int .i64 (wrap64 ((rd x6_1 ((rd_T34 l0_1 x16_1).f0)) - (rd l1 x16_1))))) = w40 at n0_ n1_ n2_ n3_ ⊢
                              have HO_6 := n0_
                              have BK272 := n1_
                              have BK277 := n2_
                              have HB := n3_
                              clear n0_ n1_ n2_ n3_
                              have n0_ := Aside0.mk (Kd.R_drew HO_6.out)
                              have n1_ := Aside0.mk (blk_drew BK272.out)
                              have n2_ := Aside0.mk (blk_drew BK277.out)
                              have n3_ := Aside0.mk (below_drew1 HB.out)
                              clear HO_6
                              clear BK272
                              clear BK277
                              clear HB
                              have HO_6 := n0_
                              have BK272 := n1_
                              have BK277 := n2_
                              have HB := n3_
                              clear n0_ n1_ n2_ n3_
                              have p283 : 0 ≤ (((rd_T34 l0_1 x16_1).f1) : Int) := of_decide_eq_true (by first | (with_reducible assumption) | assumption)
                              have q283 : ((rd_T34 l0_1 x16_1).f1) < (y282.length : Int) := (by have h_ : (((rd_T34 l0_1 x16_1).f1) : Int) < ((x6_1.length : Int) : Int) := of_decide_eq_true (by first | (with_reducible assumption) | assumption); first | (have e_ := (Kd.R_reads' HO_6.out).1; omega) | simpa only [Ny282.out, List.length_set] using h_)
                              have ql283 : ((((rd_T34 l0_1 x16_1).f1) : Int) < ((x6_1.length : Int) : Int)) = True := eq_true (of_decide_eq_true (by first | (with_reducible assumption) | assumption))
                              obtain ⟨ad283, e283, hx283_0⟩ := Kd.at_int (Kd.R_reads' HO_6.out).2.2 ((rd_T34 l0_1 x16_1).f1) p283 q283
                              obtain rfl : (⟨go28, 0, none⟩ : Addr) = ad283 := (by injection e283)
                              (first | simp only [add_plain] at hx283_0 | simp only [add_at] at hx283_0 | simp only [Addr.add, Nat.zero_add] at hx283_0 | skip)
                              replace p283 := eq_true p283
                              replace q283 := eq_true q283
                              have p284 : 0 ≤ (x16_1 : Int) := of_decide_eq_true (by first | (with_reducible assumption) | assumption)
                              have q284 : x16_1 < (l1.length : Int) := of_decide_eq_true (by first | (with_reducible assumption) | assumption)
                              obtain ⟨ad284, e284, hx284_0⟩ := Kd.at_int HR1.out x16_1 p284 q284
                              have hw284_0 := hx284_0
                              obtain rfl : ad278 = ad284 := (by injection e284)
                              replace hx284_0 := (HB.out.cell (World.block_lt_of_cell? w _ hx284_0)).trans hx284_0
                              replace p284 := eq_true p284
                              replace q284 := eq_true q284
                              have p31 : 0 ≤ (((rd_T34 l0_1 x16_1).f1) : Int) := of_decide_eq_true (by first | (with_reducible assumption) | assumption)
                              have q31 : (((rd_T34 l0_1 x16_1).f1) : Int) < ((x6_1.length : Int) : Int) := of_decide_eq_true (by first | (with_reducible assumption) | assumption)
                              obtain ⟨hx31_0, hf31_0⟩ := Kd.R_celln 0 HO_6.out (((rd_T34 l0_1 x16_1).f1) : Int) p31 q31
                              replace p31 := eq_true p31
                              replace q31 := eq_true q31
                              have HP42 := Kd.R_putn HO_6.out (((rd_T34 l0_1 x16_1).f1) : Int) (wrap64 ((rd y282 ((rd_T34 l0_1 x16_1).f1)) + (rd l1 x16_1)))
                              rw [← Ny285.out] at HP42
                              have HQ42 := Aside0.mk HP42
                              clear HP42
                              refine start_ (n := 12) (S := fun w' => w'.cell? ⟨gb277, 0, none⟩ = some (.int .i64 ((rd_T34 l0_1 x16_1).f0)) ∧ w'.cell? ⟨gb277, 1, none⟩ = some (.int .i64 ((rd_T34 l0_1 x16_1).f1)) ∧ w'.cell? ⟨gb277, 2, none⟩ = some (.int .i64 ((rd_T34 l0_1 x16_1).f2)) ∧ w'.cell? ⟨go28, (((rd_T34 l0_1 x16_1).f1)).toNat, none⟩ = some (.int .i64 (rd y282 ((rd_T34 l0_1 x16_1).f1))) ∧ w'.cell? (ad278.add (x16_1).toNat) = some (.int .i64 (rd l1 x16_1))) (ds := [11]) #[false, false, false, false, false, false, false, false, false, false, false, false] (by kernel_rfl) rfl rfl ⟨(blk_cell BK277.out 0).trans rfl, (blk_cell BK277.out 1).trans rfl, (blk_cell BK277.out 2).trans rfl, hx283_0, (by first | exact (HB.out.cell (World.block_lt_of_cell? w _ hw284_0)).trans hw284_0 | exact hx284_0)⟩ (fun hHeld => ?_); refine with_tabW cantingref07_Flow.tab8 cantingref07_Flow.bits8 (fun HT_ HW_ => ?_)
                              generalize w40.drew = w41 at HO_6 BK272 BK277 HB HQ39 HQ42 hf31_0 hx283_0 hx284_0 hx31_0 hHeld ⊢
                              refine pure_ (i := 0) (N := some 46) (v := ?_) (a' := ?_) #[true, false, false, false, false, false, false, false, false, false, false, false] rfl rfl (any_of HT_.out (by kernel_rfl)) (fun _ _ _ h => h) (Or.inl ⟨by rfl, ?_⟩) ?_ ?_
                              rotate_left
                              · intro w'
                                go_simp
                                with_reducible rfl
                              rotate_left
                              · simp only [Act.put, List.setIfInBounds_toArray, List.set_cons_zero, List.set_cons_succ, i64_w, i32_w]
                                rfl
                              refine pure_ (i := 1) (N := some 47) (v := ?_) (a' := ?_) #[true, true, false, false, false, false, false, false, false, false, false, false] rfl rfl (any_of HT_.out (by kernel_rfl)) (fun _ _ _ h => h) (Or.inl ⟨by rfl, ?_⟩) ?_ ?_
                              rotate_left
                              · intro w'
                                go_simp
                                with_reducible rfl
                              rotate_left
                              · simp only [Act.put, List.setIfInBounds_toArray, List.set_cons_zero, List.set_cons_succ, i64_w, i32_w]
                                rfl
                              refine pure_ (i := 5) (N := some 51) (v := ?_) (a' := ?_) #[true, true, false, false, false, true, false, false, false, false, false, false] rfl rfl (any_of HT_.out (by kernel_rfl)) (fun _ _ _ h => h) (Or.inl ⟨by rfl, ?_⟩) ?_ ?_
                              rotate_left
                              · intro w'
                                go_simp
                                with_reducible rfl
                              rotate_left
                              · simp only [Act.put, List.setIfInBounds_toArray, List.set_cons_zero, List.set_cons_succ, i64_w, i32_w]
                                rfl
                              refine pure_ (i := 6) (N := some 52) (v := ?_) (a' := ?_) #[true, true, false, false, false, true, true, false, false, false, false, false] rfl rfl (any_of HT_.out (by kernel_rfl)) (fun _ _ _ h => h) (Or.inl ⟨by rfl, ?_⟩) ?_ ?_
                              rotate_left
                              · intro w'
                                go_simp
                                with_reducible rfl
                              rotate_left
                              · simp only [Act.put, List.setIfInBounds_toArray, List.set_cons_zero, List.set_cons_succ, i64_w, i32_w]
                                rfl
                              refine pure_ (i := 7) (N := some 53) (v := ?_) (a' := ?_) #[true, true, false, false, false, true, true, true, false, false, false, false] rfl rfl (any_of HT_.out (by kernel_rfl)) (fun _ _ _ h => h) (Or.inl ⟨by rfl, ?_⟩) ?_ ?_
                              rotate_left
                              · intro w'
                                go_simp
                                with_reducible rfl
                              rotate_left
                              · simp only [Act.put, List.setIfInBounds_toArray, List.set_cons_zero, List.set_cons_succ, i64_w, i32_w]
                                rfl
                              refine take_ (i := 2) (N := some 48) (v := ?_) (a' := ?_) #[true, true, true, false, false, true, true, true, false, false, false, false] rfl rfl (take_ofW HT_.out HW_.out (by kernel_rfl)) (fun _ _ _ h => h) (Or.inl ⟨by rfl, ?_⟩) hHeld ?_ ?_
                              rotate_left
                              · rintro w' ⟨s0, s1, s2, s3, s4⟩
                                go_simp
                                with_reducible rfl
                              rotate_left
                              · simp only [Act.put, List.setIfInBounds_toArray, List.set_cons_zero, List.set_cons_succ, i64_w, i32_w]
                                rfl
                              refine pure_ (i := 3) (N := some 49) (v := ?_) (a' := ?_) #[true, true, true, true, false, true, true, true, false, false, false, false] rfl rfl (any_of HT_.out (by kernel_rfl)) (fun _ _ _ h => h) (Or.inl ⟨by rfl, ?_⟩) ?_ ?_
                              rotate_left
                              · intro w'
                                go_simp
                                with_reducible rfl
                              rotate_left
                              · simp only [Act.put, List.setIfInBounds_toArray, List.set_cons_zero, List.set_cons_succ, i64_w, i32_w]
                                rfl
                              refine take_ (i := 4) (N := some 50) (v := ?_) (a' := ?_) #[true, true, true, true, true, true, true, true, false, false, false, false] rfl rfl (take_ofW HT_.out HW_.out (by kernel_rfl)) (fun _ _ _ h => h) (Or.inl ⟨by rfl, ?_⟩) hHeld ?_ ?_
                              rotate_left
                              · rintro w' ⟨s0, s1, s2, s3, s4⟩
                                go_simp
                                with_reducible rfl
                              rotate_left
                              · simp only [Act.put, List.setIfInBounds_toArray, List.set_cons_zero, List.set_cons_succ, i64_w, i32_w]
                                rfl
                              refine take_ (i := 8) (N := some 54) (v := ?_) (a' := ?_) #[true, true, true, true, true, true, true, true, true, false, false, false] rfl rfl (take_ofW HT_.out HW_.out (by kernel_rfl)) (fun _ _ _ h => h) (Or.inl ⟨by rfl, ?_⟩) hHeld ?_ ?_
                              rotate_left
                              · rintro w' ⟨s0, s1, s2, s3, s4⟩
                                go_simp
                                with_reducible rfl
                              rotate_left
                              · simp only [Act.put, List.setIfInBounds_toArray, List.set_cons_zero, List.set_cons_succ, i64_w, i32_w]
                                rfl
                              refine pure_ (i := 9) (N := some 55) (v := ?_) (a' := ?_) #[true, true, true, true, true, true, true, true, true, true, false, false] rfl rfl (any_of HT_.out (by kernel_rfl)) (fun _ _ _ h => h) (Or.inl ⟨by rfl, ?_⟩) ?_ ?_
                              rotate_left
                              · intro w'
                                go_simp
                                with_reducible rfl
                              rotate_left
                              · simp only [Act.put, List.setIfInBounds_toArray, List.set_cons_zero, List.set_cons_succ, i64_w, i32_w]
                                rfl
                              refine pure_ (i := 10) (N := some 56) (v := ?_) (a' := ?_) #[true, true, true, true, true, true, true, true, true, true, true, false] rfl rfl (any_of HT_.out (by kernel_rfl)) (fun _ _ _ h => h) (Or.inl ⟨by rfl, ?_⟩) ?_ ?_
                              rotate_left
                              · intro w'
                                go_simp
                                with_reducible rfl
                              rotate_left
                              · simp only [Act.put, List.setIfInBounds_toArray, List.set_cons_zero, List.set_cons_succ, i64_w, i32_w]
                                rfl
                              refine last_ (i := 11) (N := none) #[true, true, true, true, true, true, true, true, true, true, true, true] rfl rfl (one_of HT_.out (by kernel_rfl)) (by decide) (fun K hK => ?_)
                              refine skip_ (w1 := ?_) (by rfl) rfl ?_ ?_
                              rotate_left
                              · go_simp
                                rfl
                              refine hK.out _ _ ?_
                              clear hK K
                              refine done_ (done_of HT_.out (by kernel_rfl)) ?_
                              try go_wp2
                              go_roundg k1
                              case measure => have := HK1.out; omega
                              case rel => exact ⟨(y285), (wrap64 (x16_1 + 1)), (by first | rfl | (simp; done) | (simp [*]; done)), H', ⟨by have := HK1.out; omega⟩, ⟨by (with_reducible repeat (first | apply Kd.R_alloc | apply Kd.R_drewN | apply Kd.R_drew)); exact HQ42.out⟩, ⟨by (with_reducible repeat (first | refine blk_drewN ?_ _ | refine blk_drew ?_ | refine blk_alloc ?_ _)); refine blk_far ?_ (by have h_ := Kd.R_ne HO_6.out BK272.out (by decide); intro e_; exact h_ (by rw [e_]; rfl)) _; (with_reducible repeat (first | refine blk_drewN ?_ _ | refine blk_drew ?_ | refine blk_alloc ?_ _)); exact BK272.out⟩, ⟨by repeat (first | (with_reducible first | exact HB.out | apply below_alloc | apply pw_below_drewN | apply below_drew1 | refine below_set ?_ GB28.out | refine below_set ?_ GE272.out | refine below_set ?_ GE277.out) | exact HB.out)⟩⟩
                            · rw [if_neg c30] at H
                              exact absurd H (by simp)
                          · rw [if_neg c29] at H
                            exact absurd H (by simp)
                        · rw [if_neg c27] at H
                          exact absurd H (by simp)
                      · rw [if_neg c26] at H
                        exact absurd H (by simp)
                · rw [if_neg c13] at H
                  exact absurd H (by simp)
              · rw [if_neg c12] at H
                exact absurd H (by simp)
            · rw [if_neg c11] at H
              exact absurd H (by simp)
          · rw [if_neg c10] at H
            have c10b0 : decide (x16_1 < (l0_1.length : Int)) = false := decide_eq_false c10
            clear c10
            have H' := Aside0.mk H
            clear H
            go_wp2
            go_loopg [9] k1 (fun kq v9 w' => ∃ (x9_2 : Int), v9 = .int .i64 x9_2 ∧ Aside0 (cantingref07_Flow.l1 kq x6_1 x9_2 a0_0 l0_1 = some (r1, r2)) ∧ Aside0 (kq ≤ k1) ∧ Aside0 (Kd.R (Kd.int .i64) 3 w' w.heap.size (fun _ => True) v274 x6_1) ∧ Aside0 (w'.heap[gb272]? = some (.cells #[.int .i64 a0_0, (.slice A0_1 l0_1.length c0_1)] 24 (0, 0))) ∧ Aside0 (Below w.heap.size w w'))
            case atStart => exact ⟨(1), (by first | rfl | (simp; done) | (simp [*]; done)), H', ⟨Nat.le_refl _⟩, ⟨by (with_reducible repeat (first | apply Kd.R_alloc | apply Kd.R_drewN | apply Kd.R_drew)); exact HO_6.out⟩, ⟨by (with_reducible repeat (first | refine blk_drewN ?_ _ | refine blk_drew ?_ | refine blk_alloc ?_ _)); exact BK272.out⟩, ⟨by repeat (first | (with_reducible first | exact HB.out | apply below_alloc | apply pw_below_drewN | apply below_drew1 | refine below_set ?_ GE272.out) | exact HB.out)⟩⟩
            case round =>
              clear H'
              try clear c1
              try clear c2
              try clear p2
              try clear q2
              try clear hx2
              try clear hf2
              try clear c3
              try clear p3
              try clear q3
              try clear hx3
              try clear hf3
              try clear p6
              try clear c10
              try clear c10b0
              try clear c11
              try clear c12
              try clear c13
              try clear c20
              try clear c20b0
              try clear c26
              try clear c26b0
              try clear c27
              try clear c27b0
              try clear p27
              try clear q27
              try clear hx27
              try clear p28
              try clear q28
              try clear hx28
              try clear hf28
              try clear c29
              try clear c29b0
              try clear c30
              try clear c30b0
              try clear p31
              try clear q31
              try clear hx31
              try clear hf31
              try clear c33
              try clear hcz34_0
              try clear hcz34_1
              try clear hcz34_2
              try clear hfz34_0
              try clear hfz34_1
              try clear hfz34_2
              try clear hx276_0
              try clear hx276_1
              try clear hx276_2
              try clear hx278_0
              try clear hx279_0
              try clear hx280_0
              try clear hx281_0
              try clear hx283_0
              try clear hx284_0
              try clear hx28_0
              try clear hx31_0
              try clear p276
              try clear p278
              try clear p279
              try clear p28
              try clear p280
              try clear p281
              try clear p283
              try clear p284
              try clear p31
              try clear q276
              try clear q278
              try clear q279
              try clear q28
              try clear q280
              try clear q281
              try clear q283
              try clear q284
              try clear q31
              obtain ⟨x9_2, rfl, HA, HK2, HO_6, BK272, HB⟩ := hrel
              cases gk with
              | zero => exact absurd HA.out (by simp [cantingref07_Flow.l1])
              | succ k2 =>
                have H := HA.out
                clear HA
                simp only [cantingref07_Flow.l1] at H
                by_cases c43 : x9_2 < (wrap64 (a0_0 - 1))
                · rw [if_pos c43] at H
                  have c43b0 : decide (x9_2 < (wrap64 (a0_0 - 1))) = true := decide_eq_true c43
                  clear c43
                  by_cases c44 : 0 ≤ x9_2
                  · rw [if_pos c44] at H
                    have c44b0 : decide (0 ≤ x9_2) = true := decide_eq_true c44
                    clear c44
                    by_cases c45 : x9_2 < (x6_1.length : Int)
                    · rw [if_pos c45] at H
                      have c45b0 : decide (x9_2 < (x6_1.length : Int)) = true := decide_eq_true c45
                      clear c45
                      by_cases c46 : (rd x6_1 x9_2) = 0
                      · rw [if_pos c46] at H
                        have c46b0 : ((rd x6_1 x9_2) == 0) = true := beq_iff_eq.mpr c46
                        have c46b1 : ((rd x6_1 x9_2) != 0) = false := bne_eq_false_iff_eq.mpr c46
                        clear c46
                        have H' := Aside0.mk H
                        clear H
                        have hcz47_0 : wr.cell? ⟨gb272, 0, none⟩ = some (.int .i64 a0_0) := (blk_cell BK272.out 0).trans rfl
                        have hcz47_1 : wr.cell? ⟨gb272, 1, none⟩ = some (.slice A0_1 l0_1.length c0_1) := (blk_cell BK272.out 1).trans rfl
                        have hfz47_0 := blk_frozen BK272.out 0
                        have hfz47_1 := blk_frozen BK272.out 1
                        obtain ⟨Ao48, co48, eo48⟩ := Kd.R_slice HO_6.out
                        subst eo48
                        have p286 : 0 ≤ (x9_2 : Int) := of_decide_eq_true (by first | (with_reducible assumption) | assumption)
                        have q286 : x9_2 < (x6_1.length : Int) := of_decide_eq_true (by first | (with_reducible assumption) | assumption)
                        obtain ⟨ad286, e286, hx286_0⟩ := Kd.at_int (Kd.R_reads' HO_6.out).2.2 x9_2 p286 q286
                        cases e286
                        replace p286 := eq_true p286
                        replace q286 := eq_true q286
                        go_wp2
                        go_roundg k2
                        case measure => have := HK1.out; have := HK2.out; omega
                        case rel => exact ⟨(wrap64 (x9_2 + 1)), (by first | rfl | (simp; done) | (simp [*]; done)), H', ⟨by have := HK1.out; have := HK2.out; omega⟩, ⟨by (with_reducible repeat (first | apply Kd.R_alloc | apply Kd.R_drewN | apply Kd.R_drew)); exact HO_6.out⟩, ⟨by (with_reducible repeat (first | refine blk_drewN ?_ _ | refine blk_drew ?_ | refine blk_alloc ?_ _)); exact BK272.out⟩, ⟨by repeat (first | (with_reducible first | exact HB.out | apply below_alloc | apply pw_below_drewN | apply below_drew1 | refine below_set ?_ GE272.out) | exact HB.out)⟩⟩
                      · rw [if_neg c46] at H
                        have c46b0 : ((rd x6_1 x9_2) == 0) = false := beq_eq_false_iff_ne.mpr c46
                        have c46b1 : ((rd x6_1 x9_2) != 0) = true := bne_iff_ne.mpr c46
                        simp only [Option.some.injEq, Prod.mk.injEq] at H
                        obtain ⟨rfl, rfl⟩ := H
                        have hcz49_0 : wr.cell? ⟨gb272, 0, none⟩ = some (.int .i64 a0_0) := (blk_cell BK272.out 0).trans rfl
                        have hcz49_1 : wr.cell? ⟨gb272, 1, none⟩ = some (.slice A0_1 l0_1.length c0_1) := (blk_cell BK272.out 1).trans rfl
                        have hfz49_0 := blk_frozen BK272.out 0
                        have hfz49_1 := blk_frozen BK272.out 1
                        obtain ⟨Ao50, co50, eo50⟩ := Kd.R_slice HO_6.out
                        subst eo50
                        have p286 : 0 ≤ (x9_2 : Int) := of_decide_eq_true (by first | (with_reducible assumption) | assumption)
                        have q286 : x9_2 < (x6_1.length : Int) := of_decide_eq_true (by first | (with_reducible assumption) | assumption)
                        obtain ⟨ad286, e286, hx286_0⟩ := Kd.at_int (Kd.R_reads' HO_6.out).2.2 x9_2 p286 q286
                        cases e286
                        replace p286 := eq_true p286
                        replace q286 := eq_true q286
                        go_wp2
                        go_ret2
                        exact ⟨by first | rfl | (simp [errW_none, errW_some] <;> rfl) | (simp [*, errW_none, errW_some] <;> rfl), by repeat (first | (with_reducible first | exact HB.out | apply below_alloc | apply pw_below_drewN | apply below_drew1 | refine below_set ?_ GE272.out) | exact HB.out)⟩
                    · rw [if_neg c45] at H
                      exact absurd H (by simp)
                  · rw [if_neg c44] at H
                    exact absurd H (by simp)
                · rw [if_neg c43] at H
                  have c43b0 : decide (x9_2 < (wrap64 (a0_0 - 1))) = false := decide_eq_false c43
                  clear c43
                  by_cases c51 : 0 < (x6_1.length : Int)
                  · rw [if_pos c51] at H
                    have c51b0 : decide (0 < (x6_1.length : Int)) = true := decide_eq_true c51
                    have c51b1 : decide (0 < x6_1.length) = true := decide_eq_true (by omega)
                    clear c51
                    simp only [Option.some.injEq, Prod.mk.injEq] at H
                    obtain ⟨rfl, rfl⟩ := H
                    have hcz52_0 : wr.cell? ⟨gb272, 0, none⟩ = some (.int .i64 a0_0) := (blk_cell BK272.out 0).trans rfl
                    have hcz52_1 : wr.cell? ⟨gb272, 1, none⟩ = some (.slice A0_1 l0_1.length c0_1) := (blk_cell BK272.out 1).trans rfl
                    have hfz52_0 := blk_frozen BK272.out 0
                    have hfz52_1 := blk_frozen BK272.out 1
                    obtain ⟨Ao53, co53, eo53⟩ := Kd.R_slice HO_6.out
                    subst eo53
                    have p287 : 0 ≤ (0 : Int) := (by omega)
                    have q287 : 0 < (x6_1.length : Int) := of_decide_eq_true (by first | (with_reducible assumption) | assumption)
                    obtain ⟨ad287, e287, hx287_0⟩ := Kd.at_int (Kd.R_reads' HO_6.out).2.2 0 p287 q287
                    cases e287
                    have qi287 : (0 < x6_1.length) = True := eq_true (by omega)
                    (try rw [show ((0 : Int)).toNat = 0 from rfl] at hx287_0)
                    (try rw [Addr.add_zero'] at hx287_0)
                    replace p287 := eq_true p287
                    replace q287 := eq_true q287
                    go_wp2
                    go_ret2
                    exact ⟨by first | rfl | (simp [errW_none, errW_some] <;> rfl) | (simp [*, errW_none, errW_some] <;> rfl), by repeat (first | (with_reducible first | exact HB.out | apply below_alloc | apply pw_below_drewN | apply below_drew1 | refine below_set ?_ GE272.out) | exact HB.out)⟩
                  · rw [if_neg c51] at H
                    exact absurd H (by simp)
    · rw [if_neg c4] at H
      exact absurd H (by simp)
  · rw [if_neg c3] at H
    exact absurd H (by simp)
end Go.Proofs.Ytbamanjedfccpaa.X
end

section
set_option linter.unusedVariables false
set_option linter.unusedSimpArgs false
namespace Go.Proofs.Ytbamanjedfccpaa.X
open Go.RowKit Go.Proofs.YtbamanjedfccpaaW.PrintWords Go.Proofs.YtbamanjedfccpaaW.PrintLast Go.Proofs.YtbamanjedfccpaaW.PrintMore
attribute [local go_sem] max2_int min2_int max_two min_two max_three min_three max_four min_four   -- for this text's walks alone
set_option linter.unusedVariables false
set_option linter.unusedSimpArgs false
def cantingref07_Side.l0 : Nat → List Bool → Int → List (S34) → Int → Int → Int → List (S34) → Option (Int × Bool)
  | 0, _, _, _, _, _, _, _ => none
  | k + 1, x1, x6, x10, x11, x12, x334000, x334001 => if x12 < x11 then (if 0 ≤ x12 then (if x12 < (x10.length : Int) then (if 0 ≤ ((rd_T34 x10 x12).f0) then (if ((rd_T34 x10 x12).f0) < (x1.length : Int) then (if rdOf false x1 ((rd_T34 x10 x12).f0) = true then (if 0 ≤ ((rd_T34 x10 x12).f1) then (if ((rd_T34 x10 x12).f1) < (x1.length : Int) then (if (rdOf false x1 ((rd_T34 x10 x12).f1) = true) then (cantingref07_Side.l0 k x1 x6 x10 x11 (wrap64 (x12 + 1)) x334000 x334001) else (cantingref07_Side.l0 k x1 (wrap64 (x6 + ((rd_T34 x10 x12).f2))) x10 x11 (wrap64 (x12 + 1)) x334000 x334001)) else (none)) else (none)) else (cantingref07_Side.l0 k x1 x6 x10 x11 (wrap64 (x12 + 1)) x334000 x334001)) else (none)) else (none)) else (none)) else (none)) else (if 0 < (x1.length : Int) then (if rdOf false x1 0 = true then (if 0 ≤ (wrap64 (x334000 - 1)) then (if (wrap64 (x334000 - 1)) < (x1.length : Int) then (some (x6, !(rdOf false x1 (wrap64 (x334000 - 1))))) else (none)) else (none)) else (some (x6, false))) else (none))
def cantingref07_Side.f (k : Nat) (a0_0 : Int) (l0_1 : List (S34)) (l1 : List Bool) : Option (Int × Bool) := cantingref07_Side.l0 k l1 0 l0_1 (l0_1.length : Int) 0 a0_0 l0_1
theorem cantingref07_Side.mono_l : ∀ k, (∀ y0 y1 y2 y3 y4 y5 y6, LeO (cantingref07_Side.l0 k y0 y1 y2 y3 y4 y5 y6) (cantingref07_Side.l0 (k + 1) y0 y1 y2 y3 y4 y5 y6))
  | 0 => fun _ _ _ _ _ _ _ r h => by simp [cantingref07_Side.l0] at h
  | k + 1 => by
    have ih0 := cantingref07_Side.mono_l k
    · intro y0 y1 y2 y3 y4 y5 y6
      unfold cantingref07_Side.l0
      repeat' first
      | (with_reducible exact ih0 _ _ _ _ _ _ _)
      | (with_reducible exact LeO.refl _)
      | (with_reducible exact LeO.none _)
      | (with_reducible refine LeO.ite ?_ ?_)
      | (with_reducible refine LeO.bind ?_ (fun _ => ?_))
      | exact ih0 _ _ _ _ _ _ _
      | exact LeO.none _
      | refine LeO.ite ?_ ?_
      | refine LeO.bind ?_ (fun _ => ?_)
theorem cantingref07_Side.mono : ∀ a0 a1 a2 k, LeO (cantingref07_Side.f k a0 a1 a2) (cantingref07_Side.f (k + 1) a0 a1 a2) := by
  intro a0 a1 a2 k
  have ih0 := cantingref07_Side.mono_l k
  unfold cantingref07_Side.f
  repeat' first
      | (with_reducible exact ih0 _ _ _ _ _ _ _)
      | (with_reducible exact LeO.refl _)
      | (with_reducible exact LeO.none _)
      | (with_reducible refine LeO.ite ?_ ?_)
      | (with_reducible refine LeO.bind ?_ (fun _ => ?_))
      | exact ih0 _ _ _ _ _ _ _
      | exact LeO.none _
      | refine LeO.ite ?_ ?_
      | refine LeO.bind ?_ (fun _ => ?_)
set_option maxHeartbeats 8000000 in
set_option maxRecDepth 100000 in
theorem cantingref07_Side.calls (k : Nat) (a0_0 : Int) (A0_1 : Option Addr) (c0_1 : Nat) (l0_1 : List (S34)) (A1 : Option Addr) (c1 : Nat) (l1 : List Bool) (r1 : Int) (r2 : Bool) (w : World) (hr0_1 : Kd.C k34 w A0_1 l0_1.length l0_1) (hc0_1 : l0_1.length ≤ c0_1) (hr1 : Kd.C Kd.bool w A1 l1.length l1) (hc1 : l1.length ≤ c1) (h : cantingref07_Side.f k a0_0 l0_1 l1 = some (r1, r2)) :
    Calls Try.prog 35 #[.agg #[.int .i64 a0_0, .slice A0_1 l0_1.length c0_1], .slice A1 l1.length c1] w fun e w' => e = .returned (.tuple #[.int .i64 r1, .bool r2]) ∧ Below w.heap.size w w' := by
  have hu24 := Try.underlying24
  have hu34 := Try.underlying34
  have HR0_1 := Aside0.mk hr0_1
  have HC0_1 := Aside0.mk hc0_1
  clear hr0_1 hc0_1
  have HR1 := Aside0.mk hr1
  have HC1 := Aside0.mk hc1
  clear hr1 hc1
  have HB := Aside0.mk (Below.refl w.heap.size w)
  have H : (cantingref07_Side.l0 k l1 0 l0_1 (l0_1.length : Int) 0 a0_0 l0_1) = some (r1, r2) := h
  clear h
  have H' := Aside0.mk H
  clear H
  go_enter Try.func35, Try.ntmps35
  go_wp2_with (first | ((with_reducible refine gate_dst (N := 2) rfl ?_); refine box_event ?hg (N := 2) ?hd (cs := #[.int .i64 a0_0, .slice A0_1 l0_1.length c0_1]) (t := 24) ?hr ?_; (case hd => rfl); (case hg => rfl); (case hr => first | (go_simp; done) | (go_simp; rfl)); intro gb333 hg w3 hbox hb; have n0_ := Aside0.mk (below_step (by repeat (first | (with_reducible first | exact HB.out | apply below_alloc | apply pw_below_drewN | apply below_drew1) | exact HB.out)) hb); have n1_ := Aside0.mk (hbox); have n2_ := Aside0.mk ((by rw [hg]; exact (below_size (by repeat (first | (with_reducible first | exact HB.out | apply below_alloc | apply pw_below_drewN | apply below_drew1) | exact HB.out))) : w.heap.size ≤ gb333)); have n3_ := Aside0.mk ((by rw [hg]; exact (below_size (by repeat (first | (with_reducible first | exact HB.out | apply below_alloc | apply pw_below_drewN | apply below_drew1) | exact HB.out))) : w.heap.size ≤ gb333)); clear HB; have HB := n0_; have BK333 := n1_; have GW333 := n2_; have GE333 := n3_; clear n0_ n1_ n2_ n3_; clear hb hbox hg; have hcz4_0 : w3.cell? ⟨gb333, 0, none⟩ = some (.int .i64 a0_0) := (blk_cell BK333.out 0).trans rfl; have hcz4_1 : w3.cell? ⟨gb333, 1, none⟩ = some (.slice A0_1 l0_1.length c0_1) := (blk_cell BK333.out 1).trans rfl; have hfz4_0 := blk_frozen BK333.out 0; have hfz4_1 := blk_frozen BK333.out 1))
  repeat (go_quiet (first | ((with_reducible refine gate_dst (N := 2) rfl ?_); refine box_event ?hg (N := 2) ?hd (cs := #[.int .i64 a0_0, .slice A0_1 l0_1.length c0_1]) (t := 24) ?hr ?_; (case hd => rfl); (case hg => rfl); (case hr => first | (go_simp; done) | (go_simp; rfl)); intro gb333 hg w3 hbox hb; have n0_ := Aside0.mk (below_step (by repeat (first | (with_reducible first | exact HB.out | apply below_alloc | apply pw_below_drewN | apply below_drew1) | exact HB.out)) hb); have n1_ := Aside0.mk (hbox); have n2_ := Aside0.mk ((by rw [hg]; exact (below_size (by repeat (first | (with_reducible first | exact HB.out | apply below_alloc | apply pw_below_drewN | apply below_drew1) | exact HB.out))) : w.heap.size ≤ gb333)); have n3_ := Aside0.mk ((by rw [hg]; exact (below_size (by repeat (first | (with_reducible first | exact HB.out | apply below_alloc | apply pw_below_drewN | apply below_drew1) | exact HB.out))) : w.heap.size ≤ gb333)); clear HB; have HB := n0_; have BK333 := n1_; have GW333 := n2_; have GE333 := n3_; clear n0_ n1_ n2_ n3_; clear hb hbox hg; have hcz4_0 : w3.cell? ⟨gb333, 0, none⟩ = some (.int .i64 a0_0) := (blk_cell BK333.out 0).trans rfl; have hcz4_1 : w3.cell? ⟨gb333, 1, none⟩ = some (.slice A0_1 l0_1.length c0_1) := (blk_cell BK333.out 1).trans rfl; have hfz4_0 := blk_frozen BK333.out 0; have hfz4_1 := blk_frozen BK333.out 1)); try go_wp2_with (first | ((with_reducible refine gate_dst (N := 2) rfl ?_); refine box_event ?hg (N := 2) ?hd (cs := #[.int .i64 a0_0, .slice A0_1 l0_1.length c0_1]) (t := 24) ?hr ?_; (case hd => rfl); (case hg => rfl); (case hr => first | (go_simp; done) | (go_simp; rfl)); intro gb333 hg w3 hbox hb; have n0_ := Aside0.mk (below_step (by repeat (first | (with_reducible first | exact HB.out | apply below_alloc | apply pw_below_drewN | apply below_drew1) | exact HB.out)) hb); have n1_ := Aside0.mk (hbox); have n2_ := Aside0.mk ((by rw [hg]; exact (below_size (by repeat (first | (with_reducible first | exact HB.out | apply below_alloc | apply pw_below_drewN | apply below_drew1) | exact HB.out))) : w.heap.size ≤ gb333)); have n3_ := Aside0.mk ((by rw [hg]; exact (below_size (by repeat (first | (with_reducible first | exact HB.out | apply below_alloc | apply pw_below_drewN | apply below_drew1) | exact HB.out))) : w.heap.size ≤ gb333)); clear HB; have HB := n0_; have BK333 := n1_; have GW333 := n2_; have GE333 := n3_; clear n0_ n1_ n2_ n3_; clear hb hbox hg; have hcz4_0 : w3.cell? ⟨gb333, 0, none⟩ = some (.int .i64 a0_0) := (blk_cell BK333.out 0).trans rfl; have hcz4_1 : w3.cell? ⟨gb333, 1, none⟩ = some (.slice A0_1 l0_1.length c0_1) := (blk_cell BK333.out 1).trans rfl; have hfz4_0 := blk_frozen BK333.out 0; have hfz4_1 := blk_frozen BK333.out 1)))
  go_loopg [6, 12] k (fun kq v6 v12 w' => ∃ (x6_1 : Int) (x12_1 : Int), v6 = .int .i64 x6_1 ∧ v12 = .int .i64 x12_1 ∧ Aside0 (cantingref07_Side.l0 kq l1 x6_1 l0_1 (l0_1.length : Int) x12_1 a0_0 l0_1 = some (r1, r2)) ∧ Aside0 (kq ≤ k) ∧ Aside0 (w'.heap[gb333]? = some (.cells #[.int .i64 a0_0, (.slice A0_1 l0_1.length c0_1)] 24 (0, 0))) ∧ Aside0 (Below w.heap.size w w'))
  case atStart => exact ⟨(0), (0), (by first | rfl | (simp; done) | (simp [*]; done)), (by first | rfl | (simp; done) | (simp [*]; done)), H', ⟨Nat.le_refl _⟩, ⟨by (with_reducible repeat (first | refine blk_drewN ?_ _ | refine blk_drew ?_ | refine blk_alloc ?_ _)); exact BK333.out⟩, ⟨by repeat (first | (with_reducible first | exact HB.out | apply below_alloc | apply pw_below_drewN | apply below_drew1 | refine below_set ?_ GE333.out) | exact HB.out)⟩⟩
  case round =>
    clear H'
    try clear c1
    try clear p2
    try clear c3
    try clear hcz4_0
    try clear hcz4_1
    try clear hfz4_0
    try clear hfz4_1
    obtain ⟨x6_1, x12_1, rfl, rfl, HA, HK1, BK333, HB⟩ := hrel
    cases gk with
    | zero => exact absurd HA.out (by simp [cantingref07_Side.l0])
    | succ k1 =>
      have H := HA.out
      clear HA
      simp only [cantingref07_Side.l0] at H
      by_cases c5 : x12_1 < (l0_1.length : Int)
      · rw [if_pos c5] at H
        have c5b0 : decide (x12_1 < (l0_1.length : Int)) = true := decide_eq_true c5
        clear c5
        by_cases c6 : 0 ≤ x12_1
        · rw [if_pos c6] at H
          have c6b0 : decide (0 ≤ x12_1) = true := decide_eq_true c6
          clear c6
          by_cases c7 : x12_1 < (l0_1.length : Int)
          · rw [if_pos c7] at H
            have c7b0 : decide (x12_1 < (l0_1.length : Int)) = true := decide_eq_true c7
            clear c7
            by_cases c8 : 0 ≤ ((rd_T34 l0_1 x12_1).f0)
            · rw [if_pos c8] at H
              have c8b0 : decide (0 ≤ ((rd_T34 l0_1 x12_1).f0)) = true := decide_eq_true c8
              clear c8
              by_cases c9 : ((rd_T34 l0_1 x12_1).f0) < (l1.length : Int)
              · rw [if_pos c9] at H
                have c9b0 : decide (((rd_T34 l0_1 x12_1).f0) < (l1.length : Int)) = true := decide_eq_true c9
                clear c9
                obtain ⟨bq10, hbq10⟩ : ∃ b_ : Bool, b_ = (rdOf false l1 ((rd_T34 l0_1 x12_1).f0)) := ⟨_, rfl⟩
                replace H : (if bq10 = true then (if 0 ≤ ((rd_T34 l0_1 x12_1).f1) then (if ((rd_T34 l0_1 x12_1).f1) < (l1.length : Int) then (if (rdOf false l1 ((rd_T34 l0_1 x12_1).f1) = true) then (cantingref07_Side.l0 k1 l1 x6_1 l0_1 (l0_1.length : Int) (wrap64 (x12_1 + 1)) a0_0 l0_1) else (cantingref07_Side.l0 k1 l1 (wrap64 (x6_1 + ((rd_T34 l0_1 x12_1).f2))) l0_1 (l0_1.length : Int) (wrap64 (x12_1 + 1)) a0_0 l0_1)) else (none)) else (none)) else (cantingref07_Side.l0 k1 l1 x6_1 l0_1 (l0_1.length : Int) (wrap64 (x12_1 + 1)) a0_0 l0_1)) = some (r1, r2) := by rw [← hbq10] at H; exact H
                have Nbq10 := Aside0.mk hbq10
                clear hbq10
                by_cases c11 : bq10 = true
                · subst c11
                  have H1 : (if 0 ≤ ((rd_T34 l0_1 x12_1).f1) then (if ((rd_T34 l0_1 x12_1).f1) < (l1.length : Int) then (if (rdOf false l1 ((rd_T34 l0_1 x12_1).f1) = true) then (cantingref07_Side.l0 k1 l1 x6_1 l0_1 (l0_1.length : Int) (wrap64 (x12_1 + 1)) a0_0 l0_1) else (cantingref07_Side.l0 k1 l1 (wrap64 (x6_1 + ((rd_T34 l0_1 x12_1).f2))) l0_1 (l0_1.length : Int) (wrap64 (x12_1 + 1)) a0_0 l0_1)) else (none)) else (none)) = some (r1, r2) := by rw [if_pos rfl] at H; exact H
                  clear H
                  have H := H1
                  clear H1
                  by_cases c12 : 0 ≤ ((rd_T34 l0_1 x12_1).f1)
                  · rw [if_pos c12] at H
                    have c12b0 : decide (0 ≤ ((rd_T34 l0_1 x12_1).f1)) = true := decide_eq_true c12
                    clear c12
                    by_cases c13 : ((rd_T34 l0_1 x12_1).f1) < (l1.length : Int)
                    · rw [if_pos c13] at H
                      have c13b0 : decide (((rd_T34 l0_1 x12_1).f1) < (l1.length : Int)) = true := decide_eq_true c13
                      clear c13
                      obtain ⟨bq14, hbq14⟩ : ∃ b_ : Bool, b_ = (rdOf false l1 ((rd_T34 l0_1 x12_1).f1)) := ⟨_, rfl⟩
                      replace H : (if (bq14 = true) then (cantingref07_Side.l0 k1 l1 x6_1 l0_1 (l0_1.length : Int) (wrap64 (x12_1 + 1)) a0_0 l0_1) else (cantingref07_Side.l0 k1 l1 (wrap64 (x6_1 + ((rd_T34 l0_1 x12_1).f2))) l0_1 (l0_1.length : Int) (wrap64 (x12_1 + 1)) a0_0 l0_1)) = some (r1, r2) := by rw [← hbq14] at H; exact H
                      have Nbq14 := Aside0.mk hbq14
                      clear hbq14
                      by_cases c15 : (bq14 = true)
                      · subst c15
                        have H1 : (cantingref07_Side.l0 k1 l1 x6_1 l0_1 (l0_1.length : Int) (wrap64 (x12_1 + 1)) a0_0 l0_1) = some (r1, r2) := by rw [if_pos rfl] at H; exact H
                        clear H
                        have H := H1
                        clear H1
                        have H' := Aside0.mk H
                        clear H
                        have p334 : 0 ≤ (x12_1 : Int) := of_decide_eq_true (by first | (with_reducible assumption) | assumption)
                        have q334 : x12_1 < (l0_1.length : Int) := of_decide_eq_true (by first | (with_reducible assumption) | assumption)
                        obtain ⟨ad334, e334, hx334_0, hx334_1, hx334_2⟩ := at_T34 HR0_1.out x12_1 p334 q334
                        cases e334
                        replace hx334_0 := (HB.out.cell (World.block_lt_of_cell? w _ hx334_0)).trans hx334_0
                        replace hx334_1 := (HB.out.cell (World.block_lt_of_cell? w _ hx334_1)).trans hx334_1
                        replace hx334_2 := (HB.out.cell (World.block_lt_of_cell? w _ hx334_2)).trans hx334_2
                        replace p334 := eq_true p334
                        replace q334 := eq_true q334
                        go_wp2_with (first | ((with_reducible refine gate_dst (N := 8) rfl ?_); refine box_event ?hg (N := 8) ?hd (cs := #[.int .i64 0, .int .i64 0, .int .i64 0]) (t := 34) ?hr ?_; (case hd => rfl); (case hg => rfl); (case hr => first | (go_simp; done) | (go_simp; rfl)); intro gb335 hg w16 hbox hb; have n0_ := Aside0.mk (blk_below (g := gb333) (o := .cells #[.int .i64 a0_0, .slice (some ad334) l0_1.length c0_1] 24 (0, 0)) (by (with_reducible repeat (first | refine blk_drewN ?_ _ | refine blk_drew ?_ | refine blk_alloc ?_ _)); exact BK333.out) hb); have n1_ := Aside0.mk (below_step (by repeat (first | (with_reducible first | exact HB.out | apply below_alloc | apply pw_below_drewN | apply below_drew1 | refine below_set ?_ GE333.out) | exact HB.out)) hb); have n2_ := Aside0.mk (hbox); have n3_ := Aside0.mk ((by rw [hg]; exact (below_size (by repeat (first | (with_reducible first | exact HB.out | apply below_alloc | apply pw_below_drewN | apply below_drew1 | refine below_set ?_ GE333.out) | exact HB.out))) : w.heap.size ≤ gb335)); have n4_ := Aside0.mk ((by rw [hg]; exact (below_size (by repeat (first | (with_reducible first | exact HB.out | apply below_alloc | apply pw_below_drewN | apply below_drew1 | refine below_set ?_ GE333.out) | exact HB.out))) : w.heap.size ≤ gb335)); have n5_ := Aside0.mk ((by rw [hg]; exact Nat.ne_of_lt (blk_lt (g := gb333) (o := .cells #[.int .i64 a0_0, .slice (some ad334) l0_1.length c0_1] 24 (0, 0)) (by (with_reducible repeat (first | refine blk_drewN ?_ _ | refine blk_drew ?_ | refine blk_alloc ?_ _)); exact BK333.out)) : gb333 ≠ gb335)); have n6_ := Aside0.mk ((by rw [hg]; exact Nat.ne_of_gt (blk_lt (g := gb333) (o := .cells #[.int .i64 a0_0, .slice (some ad334) l0_1.length c0_1] 24 (0, 0)) (by (with_reducible repeat (first | refine blk_drewN ?_ _ | refine blk_drew ?_ | refine blk_alloc ?_ _)); exact BK333.out)) : gb335 ≠ gb333)); clear BK333; clear HB; have BK333 := n0_; have HB := n1_; have BK335 := n2_; have GW335 := n3_; have GE335 := n4_; have NB333_335 := n5_; have NB335_333 := n6_; clear n0_ n1_ n2_ n3_ n4_ n5_ n6_; clear hb hbox hg; have hnb17 := NB335_333.out; have hnc17 := NB333_335.out; have hcz18_0 : w16.cell? ⟨gb335, 0, none⟩ = some (.int .i64 0) := (blk_cell BK335.out 0).trans rfl; have hcz18_1 : w16.cell? ⟨gb335, 1, none⟩ = some (.int .i64 0) := (blk_cell BK335.out 1).trans rfl; have hcz18_2 : w16.cell? ⟨gb335, 2, none⟩ = some (.int .i64 0) := (blk_cell BK335.out 2).trans rfl; have hfz18_0 := blk_frozen BK335.out 0; have hfz18_1 := blk_frozen BK335.out 1; have hfz18_2 := blk_frozen BK335.out 2; have p336 : 0 ≤ (((rd_T34 l0_1 x12_1).f0) : Int) := of_decide_eq_true (by first | (with_reducible assumption) | assumption); have q336 : ((rd_T34 l0_1 x12_1).f0) < (l1.length : Int) := of_decide_eq_true (by first | (with_reducible assumption) | assumption); obtain ⟨ad336, e336, hx336_0⟩ := Kd.at_bool HR1.out ((rd_T34 l0_1 x12_1).f0) p336 q336; (try rw [← Nbq10.out] at hx336_0); (try rw [← Nbq14.out] at hx336_0); cases e336; have hn336_0 : ad336.block ≠ gb335 := Nat.ne_of_lt (Nat.lt_of_lt_of_le (by have := World.block_lt_of_cell? _ _ hx336_0; first | rwa [add_block] at this | exact this) GW335.out); have hn336_1 : ad336.block ≠ gb335 := Nat.ne_of_lt (Nat.lt_of_lt_of_le (by have := World.block_lt_of_cell? _ _ hx336_0; first | rwa [add_block] at this | exact this) GW335.out); have hn336_2 : ad336.block ≠ gb335 := Nat.ne_of_lt (Nat.lt_of_lt_of_le (by have := World.block_lt_of_cell? _ _ hx336_0; first | rwa [add_block] at this | exact this) GW335.out); replace hx336_0 := (HB.out.cell (World.block_lt_of_cell? w _ hx336_0)).trans hx336_0; replace hx336_0 := (cell_far (p := ⟨gb335, 0, none⟩) (by first | (rw [add_block]; exact hn336_0) | (show (Addr.add _ _).block ≠ _; rw [add_block]; exact hn336_0) | exact hn336_0) (.int .i64 ((rd_T34 l0_1 x12_1).f0))).trans hx336_0; replace hx336_0 := (cell_far (p := ⟨gb335, 1, none⟩) (by first | (rw [add_block]; exact hn336_1) | (show (Addr.add _ _).block ≠ _; rw [add_block]; exact hn336_1) | exact hn336_1) (.int .i64 ((rd_T34 l0_1 x12_1).f1))).trans hx336_0; replace hx336_0 := (cell_far (p := ⟨gb335, 2, none⟩) (by first | (rw [add_block]; exact hn336_2) | (show (Addr.add _ _).block ≠ _; rw [add_block]; exact hn336_2) | exact hn336_2) (.int .i64 ((rd_T34 l0_1 x12_1).f2))).trans hx336_0; (try have hy336_0 := fun (n_ : Nat) => (show (((((w16.drewN n_).setCell ⟨gb335, 0, none⟩ (.int .i64 ((rd_T34 l0_1 x12_1).f0))).setCell ⟨gb335, 1, none⟩ (.int .i64 ((rd_T34 l0_1 x12_1).f1))).setCell ⟨gb335, 2, none⟩ (.int .i64 ((rd_T34 l0_1 x12_1).f2)))).cell? _ = some _ from hx336_0)); clear hn336_0; clear hn336_1; clear hn336_2; replace p336 := eq_true p336; replace q336 := eq_true q336; have p337 : 0 ≤ (((rd_T34 l0_1 x12_1).f1) : Int) := of_decide_eq_true (by first | (with_reducible assumption) | assumption); have q337 : ((rd_T34 l0_1 x12_1).f1) < (l1.length : Int) := of_decide_eq_true (by first | (with_reducible assumption) | assumption); obtain ⟨ad337, e337, hx337_0⟩ := Kd.at_bool HR1.out ((rd_T34 l0_1 x12_1).f1) p337 q337; (try rw [← Nbq10.out] at hx337_0); (try rw [← Nbq14.out] at hx337_0); obtain rfl : ad336 = ad337 := (by injection e337); have hn337_0 : ad336.block ≠ gb335 := Nat.ne_of_lt (Nat.lt_of_lt_of_le (by have := World.block_lt_of_cell? _ _ hx337_0; first | rwa [add_block] at this | exact this) GW335.out); have hn337_1 : ad336.block ≠ gb335 := Nat.ne_of_lt (Nat.lt_of_lt_of_le (by have := World.block_lt_of_cell? _ _ hx337_0; first | rwa [add_block] at this | exact this) GW335.out); have hn337_2 : ad336.block ≠ gb335 := Nat.ne_of_lt (Nat.lt_of_lt_of_le (by have := World.block_lt_of_cell? _ _ hx337_0; first | rwa [add_block] at this | exact this) GW335.out); replace hx337_0 := (HB.out.cell (World.block_lt_of_cell? w _ hx337_0)).trans hx337_0; replace hx337_0 := (cell_far (p := ⟨gb335, 0, none⟩) (by first | (rw [add_block]; exact hn337_0) | (show (Addr.add _ _).block ≠ _; rw [add_block]; exact hn337_0) | exact hn337_0) (.int .i64 ((rd_T34 l0_1 x12_1).f0))).trans hx337_0; replace hx337_0 := (cell_far (p := ⟨gb335, 1, none⟩) (by first | (rw [add_block]; exact hn337_1) | (show (Addr.add _ _).block ≠ _; rw [add_block]; exact hn337_1) | exact hn337_1) (.int .i64 ((rd_T34 l0_1 x12_1).f1))).trans hx337_0; replace hx337_0 := (cell_far (p := ⟨gb335, 2, none⟩) (by first | (rw [add_block]; exact hn337_2) | (show (Addr.add _ _).block ≠ _; rw [add_block]; exact hn337_2) | exact hn337_2) (.int .i64 ((rd_T34 l0_1 x12_1).f2))).trans hx337_0; (try have hy337_0 := fun (n_ : Nat) => (show (((((w16.drewN n_).setCell ⟨gb335, 0, none⟩ (.int .i64 ((rd_T34 l0_1 x12_1).f0))).setCell ⟨gb335, 1, none⟩ (.int .i64 ((rd_T34 l0_1 x12_1).f1))).setCell ⟨gb335, 2, none⟩ (.int .i64 ((rd_T34 l0_1 x12_1).f2)))).cell? _ = some _ from hx337_0)); clear hn337_0; clear hn337_1; clear hn337_2; replace p337 := eq_true p337; replace q337 := eq_true q337))
                        repeat (go_quiet (first | ((with_reducible refine gate_dst (N := 8) rfl ?_); refine box_event ?hg (N := 8) ?hd (cs := #[.int .i64 0, .int .i64 0, .int .i64 0]) (t := 34) ?hr ?_; (case hd => rfl); (case hg => rfl); (case hr => first | (go_simp; done) | (go_simp; rfl)); intro gb335 hg w16 hbox hb; have n0_ := Aside0.mk (blk_below (g := gb333) (o := .cells #[.int .i64 a0_0, .slice (some ad334) l0_1.length c0_1] 24 (0, 0)) (by (with_reducible repeat (first | refine blk_drewN ?_ _ | refine blk_drew ?_ | refine blk_alloc ?_ _)); exact BK333.out) hb); have n1_ := Aside0.mk (below_step (by repeat (first | (with_reducible first | exact HB.out | apply below_alloc | apply pw_below_drewN | apply below_drew1 | refine below_set ?_ GE333.out) | exact HB.out)) hb); have n2_ := Aside0.mk (hbox); have n3_ := Aside0.mk ((by rw [hg]; exact (below_size (by repeat (first | (with_reducible first | exact HB.out | apply below_alloc | apply pw_below_drewN | apply below_drew1 | refine below_set ?_ GE333.out) | exact HB.out))) : w.heap.size ≤ gb335)); have n4_ := Aside0.mk ((by rw [hg]; exact (below_size (by repeat (first | (with_reducible first | exact HB.out | apply below_alloc | apply pw_below_drewN | apply below_drew1 | refine below_set ?_ GE333.out) | exact HB.out))) : w.heap.size ≤ gb335)); have n5_ := Aside0.mk ((by rw [hg]; exact Nat.ne_of_lt (blk_lt (g := gb333) (o := .cells #[.int .i64 a0_0, .slice (some ad334) l0_1.length c0_1] 24 (0, 0)) (by (with_reducible repeat (first | refine blk_drewN ?_ _ | refine blk_drew ?_ | refine blk_alloc ?_ _)); exact BK333.out)) : gb333 ≠ gb335)); have n6_ := Aside0.mk ((by rw [hg]; exact Nat.ne_of_gt (blk_lt (g := gb333) (o := .cells #[.int .i64 a0_0, .slice (some ad334) l0_1.length c0_1] 24 (0, 0)) (by (with_reducible repeat (first | refine blk_drewN ?_ _ | refine blk_drew ?_ | refine blk_alloc ?_ _)); exact BK333.out)) : gb335 ≠ gb333)); clear BK333; clear HB; have BK333 := n0_; have HB := n1_; have BK335 := n2_; have GW335 := n3_; have GE335 := n4_; have NB333_335 := n5_; have NB335_333 := n6_; clear n0_ n1_ n2_ n3_ n4_ n5_ n6_; clear hb hbox hg; have hnb17 := NB335_333.out; have hnc17 := NB333_335.out; have hcz18_0 : w16.cell? ⟨gb335, 0, none⟩ = some (.int .i64 0) := (blk_cell BK335.out 0).trans rfl; have hcz18_1 : w16.cell? ⟨gb335, 1, none⟩ = some (.int .i64 0) := (blk_cell BK335.out 1).trans rfl; have hcz18_2 : w16.cell? ⟨gb335, 2, none⟩ = some (.int .i64 0) := (blk_cell BK335.out 2).trans rfl; have hfz18_0 := blk_frozen BK335.out 0; have hfz18_1 := blk_frozen BK335.out 1; have hfz18_2 := blk_frozen BK335.out 2; have p336 : 0 ≤ (((rd_T34 l0_1 x12_1).f0) : Int) := of_decide_eq_true (by first | (with_reducible assumption) | assumption); have q336 : ((rd_T34 l0_1 x12_1).f0) < (l1.length : Int) := of_decide_eq_true (by first | (with_reducible assumption) | assumption); obtain ⟨ad336, e336, hx336_0⟩ := Kd.at_bool HR1.out ((rd_T34 l0_1 x12_1).f0) p336 q336; (try rw [← Nbq10.out] at hx336_0); (try rw [← Nbq14.out] at hx336_0); cases e336; have hn336_0 : ad336.block ≠ gb335 := Nat.ne_of_lt (Nat.lt_of_lt_of_le (by have := World.block_lt_of_cell? _ _ hx336_0; first | rwa [add_block] at this | exact this) GW335.out); have hn336_1 : ad336.block ≠ gb335 := Nat.ne_of_lt (Nat.lt_of_lt_of_le (by have := World.block_lt_of_cell? _ _ hx336_0; first | rwa [add_block] at this | exact this) GW335.out); have hn336_2 : ad336.block ≠ gb335 := Nat.ne_of_lt (Nat.lt_of_lt_of_le (by have := World.block_lt_of_cell? _ _ hx336_0; first | rwa [add_block] at this | exact this) GW335.out); replace hx336_0 := (HB.out.cell (World.block_lt_of_cell? w _ hx336_0)).trans hx336_0; replace hx336_0 := (cell_far (p := ⟨gb335, 0, none⟩) (by first | (rw [add_block]; exact hn336_0) | (show (Addr.add _ _).block ≠ _; rw [add_block]; exact hn336_0) | exact hn336_0) (.int .i64 ((rd_T34 l0_1 x12_1).f0))).trans hx336_0; replace hx336_0 := (cell_far (p := ⟨gb335, 1, none⟩) (by first | (rw [add_block]; exact hn336_1) | (show (Addr.add _ _).block ≠ _; rw [add_block]; exact hn336_1) | exact hn336_1) (.int .i64 ((rd_T34 l0_1 x12_1).f1))).trans hx336_0; replace hx336_0 := (cell_far (p := ⟨gb335, 2, none⟩) (by first | (rw [add_block]; exact hn336_2) | (show (Addr.add _ _).block ≠ _; rw [add_block]; exact hn336_2) | exact hn336_2) (.int .i64 ((rd_T34 l0_1 x12_1).f2))).trans hx336_0; (try have hy336_0 := fun (n_ : Nat) => (show (((((w16.drewN n_).setCell ⟨gb335, 0, none⟩ (.int .i64 ((rd_T34 l0_1 x12_1).f0))).setCell ⟨gb335, 1, none⟩ (.int .i64 ((rd_T34 l0_1 x12_1).f1))).setCell ⟨gb335, 2, none⟩ (.int .i64 ((rd_T34 l0_1 x12_1).f2)))).cell? _ = some _ from hx336_0)); clear hn336_0; clear hn336_1; clear hn336_2; replace p336 := eq_true p336; replace q336 := eq_true q336; have p337 : 0 ≤ (((rd_T34 l0_1 x12_1).f1) : Int) := of_decide_eq_true (by first | (with_reducible assumption) | assumption); have q337 : ((rd_T34 l0_1 x12_1).f1) < (l1.length : Int) := of_decide_eq_true (by first | (with_reducible assumption) | assumption); obtain ⟨ad337, e337, hx337_0⟩ := Kd.at_bool HR1.out ((rd_T34 l0_1 x12_1).f1) p337 q337; (try rw [← Nbq10.out] at hx337_0); (try rw [← Nbq14.out] at hx337_0); obtain rfl : ad336 = ad337 := (by injection e337); have hn337_0 : ad336.block ≠ gb335 := Nat.ne_of_lt (Nat.lt_of_lt_of_le (by have := World.block_lt_of_cell? _ _ hx337_0; first | rwa [add_block] at this | exact this) GW335.out); have hn337_1 : ad336.block ≠ gb335 := Nat.ne_of_lt (Nat.lt_of_lt_of_le (by have := World.block_lt_of_cell? _ _ hx337_0; first | rwa [add_block] at this | exact this) GW335.out); have hn337_2 : ad336.block ≠ gb335 := Nat.ne_of_lt (Nat.lt_of_lt_of_le (by have := World.block_lt_of_cell? _ _ hx337_0; first | rwa [add_block] at this | exact this) GW335.out); replace hx337_0 := (HB.out.cell (World.block_lt_of_cell? w _ hx337_0)).trans hx337_0; replace hx337_0 := (cell_far (p := ⟨gb335, 0, none⟩) (by first | (rw [add_block]; exact hn337_0) | (show (Addr.add _ _).block ≠ _; rw [add_block]; exact hn337_0) | exact hn337_0) (.int .i64 ((rd_T34 l0_1 x12_1).f0))).trans hx337_0; replace hx337_0 := (cell_far (p := ⟨gb335, 1, none⟩) (by first | (rw [add_block]; exact hn337_1) | (show (Addr.add _ _).block ≠ _; rw [add_block]; exact hn337_1) | exact hn337_1) (.int .i64 ((rd_T34 l0_1 x12_1).f1))).trans hx337_0; replace hx337_0 := (cell_far (p := ⟨gb335, 2, none⟩) (by first | (rw [add_block]; exact hn337_2) | (show (Addr.add _ _).block ≠ _; rw [add_block]; exact hn337_2) | exact hn337_2) (.int .i64 ((rd_T34 l0_1 x12_1).f2))).trans hx337_0; (try have hy337_0 := fun (n_ : Nat) => (show (((((w16.drewN n_).setCell ⟨gb335, 0, none⟩ (.int .i64 ((rd_T34 l0_1 x12_1).f0))).setCell ⟨gb335, 1, none⟩ (.int .i64 ((rd_T34 l0_1 x12_1).f1))).setCell ⟨gb335, 2, none⟩ (.int .i64 ((rd_T34 l0_1 x12_1).f2)))).cell? _ = some _ from hx337_0)); clear hn337_0; clear hn337_1; clear hn337_2; replace p337 := eq_true p337; replace q337 := eq_true q337)); try go_wp2_with (first | ((with_reducible refine gate_dst (N := 8) rfl ?_); refine box_event ?hg (N := 8) ?hd (cs := #[.int .i64 0, .int .i64 0, .int .i64 0]) (t := 34) ?hr ?_; (case hd => rfl); (case hg => rfl); (case hr => first | (go_simp; done) | (go_simp; rfl)); intro gb335 hg w16 hbox hb; have n0_ := Aside0.mk (blk_below (g := gb333) (o := .cells #[.int .i64 a0_0, .slice (some ad334) l0_1.length c0_1] 24 (0, 0)) (by (with_reducible repeat (first | refine blk_drewN ?_ _ | refine blk_drew ?_ | refine blk_alloc ?_ _)); exact BK333.out) hb); have n1_ := Aside0.mk (below_step (by repeat (first | (with_reducible first | exact HB.out | apply below_alloc | apply pw_below_drewN | apply below_drew1 | refine below_set ?_ GE333.out) | exact HB.out)) hb); have n2_ := Aside0.mk (hbox); have n3_ := Aside0.mk ((by rw [hg]; exact (below_size (by repeat (first | (with_reducible first | exact HB.out | apply below_alloc | apply pw_below_drewN | apply below_drew1 | refine below_set ?_ GE333.out) | exact HB.out))) : w.heap.size ≤ gb335)); have n4_ := Aside0.mk ((by rw [hg]; exact (below_size (by repeat (first | (with_reducible first | exact HB.out | apply below_alloc | apply pw_below_drewN | apply below_drew1 | refine below_set ?_ GE333.out) | exact HB.out))) : w.heap.size ≤ gb335)); have n5_ := Aside0.mk ((by rw [hg]; exact Nat.ne_of_lt (blk_lt (g := gb333) (o := .cells #[.int .i64 a0_0, .slice (some ad334) l0_1.length c0_1] 24 (0, 0)) (by (with_reducible repeat (first | refine blk_drewN ?_ _ | refine blk_drew ?_ | refine blk_alloc ?_ _)); exact BK333.out)) : gb333 ≠ gb335)); have n6_ := Aside0.mk ((by rw [hg]; exact Nat.ne_of_gt (blk_lt (g := gb333) (o := .cells #[.int .i64 a0_0, .slice (some ad334) l0_1.length c0_1] 24 (0, 0)) (by (with_reducible repeat (first | refine blk_drewN ?_ _ | refine blk_drew ?_ | refine blk_alloc ?_ _)); exact BK333.out)) : gb335 ≠ gb333)); clear BK333; clear HB; have BK333 := n0_; have HB := n1_; have BK335 := n2_; have GW335 := n3_; have GE335 := n4_; have NB333_335 := n5_; have NB335_333 := n6_; clear n0_ n1_ n2_ n3_ n4_ n5_ n6_; clear hb hbox hg; have hnb17 := NB335_333.out; have hnc17 := NB333_335.out; have hcz18_0 : w16.cell? ⟨gb335, 0, none⟩ = some (.int .i64 0) := (blk_cell BK335.out 0).trans rfl; have hcz18_1 : w16.cell? ⟨gb335, 1, none⟩ = some (.int .i64 0) := (blk_cell BK335.out 1).trans rfl; have hcz18_2 : w16.cell? ⟨gb335, 2, none⟩ = some (.int .i64 0) := (blk_cell BK335.out 2).trans rfl; have hfz18_0 := blk_frozen BK335.out 0; have hfz18_1 := blk_frozen BK335.out 1; have hfz18_2 := blk_frozen BK335.out 2; have p336 : 0 ≤ (((rd_T34 l0_1 x12_1).f0) : Int) := of_decide_eq_true (by first | (with_reducible assumption) | assumption); have q336 : ((rd_T34 l0_1 x12_1).f0) < (l1.length : Int) := of_decide_eq_true (by first | (with_reducible assumption) | assumption); obtain ⟨ad336, e336, hx336_0⟩ := Kd.at_bool HR1.out ((rd_T34 l0_1 x12_1).f0) p336 q336; (try rw [← Nbq10.out] at hx336_0); (try rw [← Nbq14.out] at hx336_0); cases e336; have hn336_0 : ad336.block ≠ gb335 := Nat.ne_of_lt (Nat.lt_of_lt_of_le (by have := World.block_lt_of_cell? _ _ hx336_0; first | rwa [add_block] at this | exact this) GW335.out); have hn336_1 : ad336.block ≠ gb335 := Nat.ne_of_lt (Nat.lt_of_lt_of_le (by have := World.block_lt_of_cell? _ _ hx336_0; first | rwa [add_block] at this | exact this) GW335.out); have hn336_2 : ad336.block ≠ gb335 := Nat.ne_of_lt (Nat.lt_of_lt_of_le (by have := World.block_lt_of_cell? _ _ hx336_0; first | rwa [add_block] at this | exact this) GW335.out); replace hx336_0 := (HB.out.cell (World.block_lt_of_cell? w _ hx336_0)).trans hx336_0; replace hx336_0 := (cell_far (p := ⟨gb335, 0, none⟩) (by first | (rw [add_block]; exact hn336_0) | (show (Addr.add _ _).block ≠ _; rw [add_block]; exact hn336_0) | exact hn336_0) (.int .i64 ((rd_T34 l0_1 x12_1).f0))).trans hx336_0; replace hx336_0 := (cell_far (p := ⟨gb335, 1, none⟩) (by first | (rw [add_block]; exact hn336_1) | (show (Addr.add _ _).block ≠ _; rw [add_block]; exact hn336_1) | exact hn336_1) (.int .i64 ((rd_T34 l0_1 x12_1).f1))).trans hx336_0; replace hx336_0 := (cell_far (p := ⟨gb335, 2, none⟩) (by first | (rw [add_block]; exact hn336_2) | (show (Addr.add _ _).block ≠ _; rw [add_block]; exact hn336_2) | exact hn336_2) (.int .i64 ((rd_T34 l0_1 x12_1).f2))).trans hx336_0; (try have hy336_0 := fun (n_ : Nat) => (show (((((w16.drewN n_).setCell ⟨gb335, 0, none⟩ (.int .i64 ((rd_T34 l0_1 x12_1).f0))).setCell ⟨gb335, 1, none⟩ (.int .i64 ((rd_T34 l0_1 x12_1).f1))).setCell ⟨gb335, 2, none⟩ (.int .i64 ((rd_T34 l0_1 x12_1).f2)))).cell? _ = some _ from hx336_0)); clear hn336_0; clear hn336_1; clear hn336_2; replace p336 := eq_true p336; replace q336 := eq_true q336; have p337 : 0 ≤ (((rd_T34 l0_1 x12_1).f1) : Int) := of_decide_eq_true (by first | (with_reducible assumption) | assumption); have q337 : ((rd_T34 l0_1 x12_1).f1) < (l1.length : Int) := of_decide_eq_true (by first | (with_reducible assumption) | assumption); obtain ⟨ad337, e337, hx337_0⟩ := Kd.at_bool HR1.out ((rd_T34 l0_1 x12_1).f1) p337 q337; (try rw [← Nbq10.out] at hx337_0); (try rw [← Nbq14.out] at hx337_0); obtain rfl : ad336 = ad337 := (by injection e337); have hn337_0 : ad336.block ≠ gb335 := Nat.ne_of_lt (Nat.lt_of_lt_of_le (by have := World.block_lt_of_cell? _ _ hx337_0; first | rwa [add_block] at this | exact this) GW335.out); have hn337_1 : ad336.block ≠ gb335 := Nat.ne_of_lt (Nat.lt_of_lt_of_le (by have := World.block_lt_of_cell? _ _ hx337_0; first | rwa [add_block] at this | exact this) GW335.out); have hn337_2 : ad336.block ≠ gb335 := Nat.ne_of_lt (Nat.lt_of_lt_of_le (by have := World.block_lt_of_cell? _ _ hx337_0; first | rwa [add_block] at this | exact this) GW335.out); replace hx337_0 := (HB.out.cell (World.block_lt_of_cell? w _ hx337_0)).trans hx337_0; replace hx337_0 := (cell_far (p := ⟨gb335, 0, none⟩) (by first | (rw [add_block]; exact hn337_0) | (show (Addr.add _ _).block ≠ _; rw [add_block]; exact hn337_0) | exact hn337_0) (.int .i64 ((rd_T34 l0_1 x12_1).f0))).trans hx337_0; replace hx337_0 := (cell_far (p := ⟨gb335, 1, none⟩) (by first | (rw [add_block]; exact hn337_1) | (show (Addr.add _ _).block ≠ _; rw [add_block]; exact hn337_1) | exact hn337_1) (.int .i64 ((rd_T34 l0_1 x12_1).f1))).trans hx337_0; replace hx337_0 := (cell_far (p := ⟨gb335, 2, none⟩) (by first | (rw [add_block]; exact hn337_2) | (show (Addr.add _ _).block ≠ _; rw [add_block]; exact hn337_2) | exact hn337_2) (.int .i64 ((rd_T34 l0_1 x12_1).f2))).trans hx337_0; (try have hy337_0 := fun (n_ : Nat) => (show (((((w16.drewN n_).setCell ⟨gb335, 0, none⟩ (.int .i64 ((rd_T34 l0_1 x12_1).f0))).setCell ⟨gb335, 1, none⟩ (.int .i64 ((rd_T34 l0_1 x12_1).f1))).setCell ⟨gb335, 2, none⟩ (.int .i64 ((rd_T34 l0_1 x12_1).f2)))).cell? _ = some _ from hx337_0)); clear hn337_0; clear hn337_1; clear hn337_2; replace p337 := eq_true p337; replace q337 := eq_true q337)))
                        go_roundg k1
                        case measure => have := HK1.out; omega
                        case rel => exact ⟨(x6_1), (wrap64 (x12_1 + 1)), (by first | rfl | (simp; done) | (simp [*]; done)), (by first | rfl | (simp; done) | (simp [*]; done)), H', ⟨by have := HK1.out; omega⟩, ⟨by (with_reducible repeat (first | refine blk_drewN ?_ _ | refine blk_drew ?_ | refine blk_alloc ?_ _)); refine blk_far ?_ NB333_335.out _; (with_reducible repeat (first | refine blk_drewN ?_ _ | refine blk_drew ?_ | refine blk_alloc ?_ _)); refine blk_far ?_ NB333_335.out _; (with_reducible repeat (first | refine blk_drewN ?_ _ | refine blk_drew ?_ | refine blk_alloc ?_ _)); refine blk_far ?_ NB333_335.out _; (with_reducible repeat (first | refine blk_drewN ?_ _ | refine blk_drew ?_ | refine blk_alloc ?_ _)); exact BK333.out⟩, ⟨by repeat (first | (with_reducible first | exact HB.out | apply below_alloc | apply pw_below_drewN | apply below_drew1 | refine below_set ?_ GE333.out | refine below_set ?_ GE335.out) | exact HB.out)⟩⟩
                      · replace c15 := Bool.eq_false_iff.mpr c15
                        subst c15
                        have H1 : (cantingref07_Side.l0 k1 l1 (wrap64 (x6_1 + ((rd_T34 l0_1 x12_1).f2))) l0_1 (l0_1.length : Int) (wrap64 (x12_1 + 1)) a0_0 l0_1) = some (r1, r2) := by rw [if_neg (show ¬ (false = true) by decide)] at H; exact H
                        clear H
                        have H := H1
                        clear H1
                        have H' := Aside0.mk H
                        clear H
                        have p334 : 0 ≤ (x12_1 : Int) := of_decide_eq_true (by first | (with_reducible assumption) | assumption)
                        have q334 : x12_1 < (l0_1.length : Int) := of_decide_eq_true (by first | (with_reducible assumption) | assumption)
                        obtain ⟨ad334, e334, hx334_0, hx334_1, hx334_2⟩ := at_T34 HR0_1.out x12_1 p334 q334
                        cases e334
                        replace hx334_0 := (HB.out.cell (World.block_lt_of_cell? w _ hx334_0)).trans hx334_0
                        replace hx334_1 := (HB.out.cell (World.block_lt_of_cell? w _ hx334_1)).trans hx334_1
                        replace hx334_2 := (HB.out.cell (World.block_lt_of_cell? w _ hx334_2)).trans hx334_2
                        replace p334 := eq_true p334
                        replace q334 := eq_true q334
                        go_wp2_with (first | ((with_reducible refine gate_dst (N := 8) rfl ?_); refine box_event ?hg (N := 8) ?hd (cs := #[.int .i64 0, .int .i64 0, .int .i64 0]) (t := 34) ?hr ?_; (case hd => rfl); (case hg => rfl); (case hr => first | (go_simp; done) | (go_simp; rfl)); intro gb335 hg w19 hbox hb; have n0_ := Aside0.mk (blk_below (g := gb333) (o := .cells #[.int .i64 a0_0, .slice (some ad334) l0_1.length c0_1] 24 (0, 0)) (by (with_reducible repeat (first | refine blk_drewN ?_ _ | refine blk_drew ?_ | refine blk_alloc ?_ _)); exact BK333.out) hb); have n1_ := Aside0.mk (below_step (by repeat (first | (with_reducible first | exact HB.out | apply below_alloc | apply pw_below_drewN | apply below_drew1 | refine below_set ?_ GE333.out) | exact HB.out)) hb); have n2_ := Aside0.mk (hbox); have n3_ := Aside0.mk ((by rw [hg]; exact (below_size (by repeat (first | (with_reducible first | exact HB.out | apply below_alloc | apply pw_below_drewN | apply below_drew1 | refine below_set ?_ GE333.out) | exact HB.out))) : w.heap.size ≤ gb335)); have n4_ := Aside0.mk ((by rw [hg]; exact (below_size (by repeat (first | (with_reducible first | exact HB.out | apply below_alloc | apply pw_below_drewN | apply below_drew1 | refine below_set ?_ GE333.out) | exact HB.out))) : w.heap.size ≤ gb335)); have n5_ := Aside0.mk ((by rw [hg]; exact Nat.ne_of_lt (blk_lt (g := gb333) (o := .cells #[.int .i64 a0_0, .slice (some ad334) l0_1.length c0_1] 24 (0, 0)) (by (with_reducible repeat (first | refine blk_drewN ?_ _ | refine blk_drew ?_ | refine blk_alloc ?_ _)); exact BK333.out)) : gb333 ≠ gb335)); have n6_ := Aside0.mk ((by rw [hg]; exact Nat.ne_of_gt (blk_lt (g := gb333) (o := .cells #[.int .i64 a0_0, .slice (some ad334) l0_1.length c0_1] 24 (0, 0)) (by (with_reducible repeat (first | refine blk_drewN ?_ _ | refine blk_drew ?_ | refine blk_alloc ?_ _)); exact BK333.out)) : gb335 ≠ gb333)); clear BK333; clear HB; have BK333 := n0_; have HB := n1_; have BK335 := n2_; have GW335 := n3_; have GE335 := n4_; have NB333_335 := n5_; have NB335_333 := n6_; clear n0_ n1_ n2_ n3_ n4_ n5_ n6_; clear hb hbox hg; have hnb20 := NB335_333.out; have hnc20 := NB333_335.out; have hcz21_0 : w19.cell? ⟨gb335, 0, none⟩ = some (.int .i64 0) := (blk_cell BK335.out 0).trans rfl; have hcz21_1 : w19.cell? ⟨gb335, 1, none⟩ = some (.int .i64 0) := (blk_cell BK335.out 1).trans rfl; have hcz21_2 : w19.cell? ⟨gb335, 2, none⟩ = some (.int .i64 0) := (blk_cell BK335.out 2).trans rfl; have hfz21_0 := blk_frozen BK335.out 0; have hfz21_1 := blk_frozen BK335.out 1; have hfz21_2 := blk_frozen BK335.out 2; have p336 : 0 ≤ (((rd_T34 l0_1 x12_1).f0) : Int) := of_decide_eq_true (by first | (with_reducible assumption) | assumption); have q336 : ((rd_T34 l0_1 x12_1).f0) < (l1.length : Int) := of_decide_eq_true (by first | (with_reducible assumption) | assumption); obtain ⟨ad336, e336, hx336_0⟩ := Kd.at_bool HR1.out ((rd_T34 l0_1 x12_1).f0) p336 q336; (try rw [← Nbq10.out] at hx336_0); (try rw [← Nbq14.out] at hx336_0); cases e336; have hn336_0 : ad336.block ≠ gb335 := Nat.ne_of_lt (Nat.lt_of_lt_of_le (by have := World.block_lt_of_cell? _ _ hx336_0; first | rwa [add_block] at this | exact this) GW335.out); have hn336_1 : ad336.block ≠ gb335 := Nat.ne_of_lt (Nat.lt_of_lt_of_le (by have := World.block_lt_of_cell? _ _ hx336_0; first | rwa [add_block] at this | exact this) GW335.out); have hn336_2 : ad336.block ≠ gb335 := Nat.ne_of_lt (Nat.lt_of_lt_of_le (by have := World.block_lt_of_cell? _ _ hx336_0; first | rwa [add_block] at this | exact this) GW335.out); replace hx336_0 := (HB.out.cell (World.block_lt_of_cell? w _ hx336_0)).trans hx336_0; replace hx336_0 := (cell_far (p := ⟨gb335, 0, none⟩) (by first | (rw [add_block]; exact hn336_0) | (show (Addr.add _ _).block ≠ _; rw [add_block]; exact hn336_0) | exact hn336_0) (.int .i64 ((rd_T34 l0_1 x12_1).f0))).trans hx336_0; replace hx336_0 := (cell_far (p := ⟨gb335, 1, none⟩) (by first | (rw [add_block]; exact hn336_1) | (show (Addr.add _ _).block ≠ _; rw [add_block]; exact hn336_1) | exact hn336_1) (.int .i64 ((rd_T34 l0_1 x12_1).f1))).trans hx336_0; replace hx336_0 := (cell_far (p := ⟨gb335, 2, none⟩) (by first | (rw [add_block]; exact hn336_2) | (show (Addr.add _ _).block ≠ _; rw [add_block]; exact hn336_2) | exact hn336_2) (.int .i64 ((rd_T34 l0_1 x12_1).f2))).trans hx336_0; (try have hy336_0 := fun (n_ : Nat) => (show (((((w19.drewN n_).setCell ⟨gb335, 0, none⟩ (.int .i64 ((rd_T34 l0_1 x12_1).f0))).setCell ⟨gb335, 1, none⟩ (.int .i64 ((rd_T34 l0_1 x12_1).f1))).setCell ⟨gb335, 2, none⟩ (.int .i64 ((rd_T34 l0_1 x12_1).f2)))).cell? _ = some _ from hx336_0)); clear hn336_0; clear hn336_1; clear hn336_2; replace p336 := eq_true p336; replace q336 := eq_true q336; have p337 : 0 ≤ (((rd_T34 l0_1 x12_1).f1) : Int) := of_decide_eq_true (by first | (with_reducible assumption) | assumption); have q337 : ((rd_T34 l0_1 x12_1).f1) < (l1.length : Int) := of_decide_eq_true (by first | (with_reducible assumption) | assumption); obtain ⟨ad337, e337, hx337_0⟩ := Kd.at_bool HR1.out ((rd_T34 l0_1 x12_1).f1) p337 q337; (try rw [← Nbq10.out] at hx337_0); (try rw [← Nbq14.out] at hx337_0); obtain rfl : ad336 = ad337 := (by injection e337); have hn337_0 : ad336.block ≠ gb335 := Nat.ne_of_lt (Nat.lt_of_lt_of_le (by have := World.block_lt_of_cell? _ _ hx337_0; first | rwa [add_block] at this | exact this) GW335.out); have hn337_1 : ad336.block ≠ gb335 := Nat.ne_of_lt (Nat.lt_of_lt_of_le (by have := World.block_lt_of_cell? _ _ hx337_0; first | rwa [add_block] at this | exact this) GW335.out); have hn337_2 : ad336.block ≠ gb335 := Nat.ne_of_lt (Nat.lt_of_lt_of_le (by have := World.block_lt_of_cell? _ _ hx337_0; first | rwa [add_block] at this | exact this) GW335.out); replace hx337_0 := (HB.out.cell (World.block_lt_of_cell? w _ hx337_0)).trans hx337_0; replace hx337_0 := (cell_far (p := ⟨gb335, 0, none⟩) (by first | (rw [add_block]; exact hn337_0) | (show (Addr.add _ _).block ≠ _; rw [add_block]; exact hn337_0) | exact hn337_0) (.int .i64 ((rd_T34 l0_1 x12_1).f0))).trans hx337_0; replace hx337_0 := (cell_far (p := ⟨gb335, 1, none⟩) (by first | (rw [add_block]; exact hn337_1) | (show (Addr.add _ _).block ≠ _; rw [add_block]; exact hn337_1) | exact hn337_1) (.int .i64 ((rd_T34 l0_1 x12_1).f1))).trans hx337_0; replace hx337_0 := (cell_far (p := ⟨gb335, 2, none⟩) (by first | (rw [add_block]; exact hn337_2) | (show (Addr.add _ _).block ≠ _; rw [add_block]; exact hn337_2) | exact hn337_2) (.int .i64 ((rd_T34 l0_1 x12_1).f2))).trans hx337_0; (try have hy337_0 := fun (n_ : Nat) => (show (((((w19.drewN n_).setCell ⟨gb335, 0, none⟩ (.int .i64 ((rd_T34 l0_1 x12_1).f0))).setCell ⟨gb335, 1, none⟩ (.int .i64 ((rd_T34 l0_1 x12_1).f1))).setCell ⟨gb335, 2, none⟩ (.int .i64 ((rd_T34 l0_1 x12_1).f2)))).cell? _ = some _ from hx337_0)); clear hn337_0; clear hn337_1; clear hn337_2; replace p337 := eq_true p337; replace q337 := eq_true q337))
                        repeat (go_quiet (first | ((with_reducible refine gate_dst (N := 8) rfl ?_); refine box_event ?hg (N := 8) ?hd (cs := #[.int .i64 0, .int .i64 0, .int .i64 0]) (t := 34) ?hr ?_; (case hd => rfl); (case hg => rfl); (case hr => first | (go_simp; done) | (go_simp; rfl)); intro gb335 hg w19 hbox hb; have n0_ := Aside0.mk (blk_below (g := gb333) (o := .cells #[.int .i64 a0_0, .slice (some ad334) l0_1.length c0_1] 24 (0, 0)) (by (with_reducible repeat (first | refine blk_drewN ?_ _ | refine blk_drew ?_ | refine blk_alloc ?_ _)); exact BK333.out) hb); have n1_ := Aside0.mk (below_step (by repeat (first | (with_reducible first | exact HB.out | apply below_alloc | apply pw_below_drewN | apply below_drew1 | refine below_set ?_ GE333.out) | exact HB.out)) hb); have n2_ := Aside0.mk (hbox); have n3_ := Aside0.mk ((by rw [hg]; exact (below_size (by repeat (first | (with_reducible first | exact HB.out | apply below_alloc | apply pw_below_drewN | apply below_drew1 | refine below_set ?_ GE333.out) | exact HB.out))) : w.heap.size ≤ gb335)); have n4_ := Aside0.mk ((by rw [hg]; exact (below_size (by repeat (first | (with_reducible first | exact HB.out | apply below_alloc | apply pw_below_drewN | apply below_drew1 | refine below_set ?_ GE333.out) | exact HB.out))) : w.heap.size ≤ gb335)); have n5_ := Aside0.mk ((by rw [hg]; exact Nat.ne_of_lt (blk_lt (g := gb333) (o := .cells #[.int .i64 a0_0, .slice (some ad334) l0_1.length c0_1] 24 (0, 0)) (by (with_reducible repeat (first | refine blk_drewN ?_ _ | refine blk_drew ?_ | refine blk_alloc ?_ _)); exact BK333.out)) : gb333 ≠ gb335)); have n6_ := Aside0.mk ((by rw [hg]; exact Nat.ne_of_gt (blk_lt (g := gb333) (o := .cells #[.int .i64 a0_0, .slice (some ad334) l0_1.length c0_1] 24 (0, 0)) (by (with_reducible repeat (first | refine blk_drewN ?_ _ | refine blk_drew ?_ | refine blk_alloc ?_ _)); exact BK333.out)) : gb335 ≠ gb333)); clear BK333; clear HB; have BK333 := n0_; have HB := n1_; have BK335 := n2_; have GW335 := n3_; have GE335 := n4_; have NB333_335 := n5_; have NB335_333 := n6_; clear n0_ n1_ n2_ n3_ n4_ n5_ n6_; clear hb hbox hg; have hnb20 := NB335_333.out; have hnc20 := NB333_335.out; have hcz21_0 : w19.cell? ⟨gb335, 0, none⟩ = some (.int .i64 0) := (blk_cell BK335.out 0).trans rfl; have hcz21_1 : w19.cell? ⟨gb335, 1, none⟩ = some (.int .i64 0) := (blk_cell BK335.out 1).trans rfl; have hcz21_2 : w19.cell? ⟨gb335, 2, none⟩ = some (.int .i64 0) := (blk_cell BK335.out 2).trans rfl; have hfz21_0 := blk_frozen BK335.out 0; have hfz21_1 := blk_frozen BK335.out 1; have hfz21_2 := blk_frozen BK335.out 2; have p336 : 0 ≤ (((rd_T34 l0_1 x12_1).f0) : Int) := of_decide_eq_true (by first | (with_reducible assumption) | assumption); have q336 : ((rd_T34 l0_1 x12_1).f0) < (l1.length : Int) := of_decide_eq_true (by first | (with_reducible assumption) | assumption); obtain ⟨ad336, e336, hx336_0⟩ := Kd.at_bool HR1.out ((rd_T34 l0_1 x12_1).f0) p336 q336; (try rw [← Nbq10.out] at hx336_0); (try rw [← Nbq14.out] at hx336_0); cases e336; have hn336_0 : ad336.block ≠ gb335 := Nat.ne_of_lt (Nat.lt_of_lt_of_le (by have := World.block_lt_of_cell? _ _ hx336_0; first | rwa [add_block] at this | exact this) GW335.out); have hn336_1 : ad336.block ≠ gb335 := Nat.ne_of_lt (Nat.lt_of_lt_of_le (by have := World.block_lt_of_cell? _ _ hx336_0; first | rwa [add_block] at this | exact this) GW335.out); have hn336_2 : ad336.block ≠ gb335 := Nat.ne_of_lt (Nat.lt_of_lt_of_le (by have := World.block_lt_of_cell? _ _ hx336_0; first | rwa [add_block] at this | exact this) GW335.out); replace hx336_0 := (HB.out.cell (World.block_lt_of_cell? w _ hx336_0)).trans hx336_0; replace hx336_0 := (cell_far (p := ⟨gb335, 0, none⟩) (by first | (rw [add_block]; exact hn336_0) | (show (Addr.add _ _).block ≠ _; rw [add_block]; exact hn336_0) | exact hn336_0) (.int .i64 ((rd_T34 l0_1 x12_1).f0))).trans hx336_0; replace hx336_0 := (cell_far (p := ⟨gb335, 1, none⟩) (by first | (rw [add_block]; exact hn336_1) | (show (Addr.add _ _).block ≠ _; rw [add_block]; exact hn336_1) | exact hn336_1) (.int .i64 ((rd_T34 l0_1 x12_1).f1))).trans hx336_0; replace hx336_0 := (cell_far (p := ⟨gb335, 2, none⟩) (by first | (rw [add_block]; exact hn336_2) | (show (Addr.add _ _).block ≠ _; rw [add_block]; exact hn336_2) | exact hn336_2) (.int .i64 ((rd_T34 l0_1 x12_1).f2))).trans hx336_0; (try have hy336_0 := fun (n_ : Nat) => (show (((((w19.drewN n_).setCell ⟨gb335, 0, none⟩ (.int .i64 ((rd_T34 l0_1 x12_1).f0))).setCell ⟨gb335, 1, none⟩ (.int .i64 ((rd_T34 l0_1 x12_1).f1))).setCell ⟨gb335, 2, none⟩ (.int .i64 ((rd_T34 l0_1 x12_1).f2)))).cell? _ = some _ from hx336_0)); clear hn336_0; clear hn336_1; clear hn336_2; replace p336 := eq_true p336; replace q336 := eq_true q336; have p337 : 0 ≤ (((rd_T34 l0_1 x12_1).f1) : Int) := of_decide_eq_true (by first | (with_reducible assumption) | assumption); have q337 : ((rd_T34 l0_1 x12_1).f1) < (l1.length : Int) := of_decide_eq_true (by first | (with_reducible assumption) | assumption); obtain ⟨ad337, e337, hx337_0⟩ := Kd.at_bool HR1.out ((rd_T34 l0_1 x12_1).f1) p337 q337; (try rw [← Nbq10.out] at hx337_0); (try rw [← Nbq14.out] at hx337_0); obtain rfl : ad336 = ad337 := (by injection e337); have hn337_0 : ad336.block ≠ gb335 := Nat.ne_of_lt (Nat.lt_of_lt_of_le (by have := World.block_lt_of_cell? _ _ hx337_0; first | rwa [add_block] at this | exact this) GW335.out); have hn337_1 : ad336.block ≠ gb335 := Nat.ne_of_lt (Nat.lt_of_lt_of_le (by have := World.block_lt_of_cell? _ _ hx337_0; first | rwa [add_block] at this | exact this) GW335.out); have hn337_2 : ad336.block ≠ gb335 := Nat.ne_of_lt (Nat.lt_of_lt_of_le (by have := World.block_lt_of_cell? _ _ hx337_0; first | rwa [add_block] at this | exact this) GW335.out); replace hx337_0 := (HB.out.cell (World.block_lt_of_cell? w _ hx337_0)).trans hx337_0; replace hx337_0 := (cell_far (p := ⟨gb335, 0, none⟩) (by first | (rw [add_block]; exact hn337_0) | (show (Addr.add _ _).block ≠ _; rw [add_block]; exact hn337_0) | exact hn337_0) (.int .i64 ((rd_T34 l0_1 x12_1).f0))).trans hx337_0; replace hx337_0 := (cell_far (p := ⟨gb335, 1, none⟩) (by first | (rw [add_block]; exact hn337_1) | (show (Addr.add _ _).block ≠ _; rw [add_block]; exact hn337_1) | exact hn337_1) (.int .i64 ((rd_T34 l0_1 x12_1).f1))).trans hx337_0; replace hx337_0 := (cell_far (p := ⟨gb335, 2, none⟩) (by first | (rw [add_block]; exact hn337_2) | (show (Addr.add _ _).block ≠ _; rw [add_block]; exact hn337_2) | exact hn337_2) (.int .i64 ((rd_T34 l0_1 x12_1).f2))).trans hx337_0; (try have hy337_0 := fun (n_ : Nat) => (show (((((w19.drewN n_).setCell ⟨gb335, 0, none⟩ (.int .i64 ((rd_T34 l0_1 x12_1).f0))).setCell ⟨gb335, 1, none⟩ (.int .i64 ((rd_T34 l0_1 x12_1).f1))).setCell ⟨gb335, 2, none⟩ (.int .i64 ((rd_T34 l0_1 x12_1).f2)))).cell? _ = some _ from hx337_0)); clear hn337_0; clear hn337_1; clear hn337_2; replace p337 := eq_true p337; replace q337 := eq_true q337)); try go_wp2_with (first | ((with_reducible refine gate_dst (N := 8) rfl ?_); refine box_event ?hg (N := 8) ?hd (cs := #[.int .i64 0, .int .i64 0, .int .i64 0]) (t := 34) ?hr ?_; (case hd => rfl); (case hg => rfl); (case hr => first | (go_simp; done) | (go_simp; rfl)); intro gb335 hg w19 hbox hb; have n0_ := Aside0.mk (blk_below (g := gb333) (o := .cells #[.int .i64 a0_0, .slice (some ad334) l0_1.length c0_1] 24 (0, 0)) (by (with_reducible repeat (first | refine blk_drewN ?_ _ | refine blk_drew ?_ | refine blk_alloc ?_ _)); exact BK333.out) hb); have n1_ := Aside0.mk (below_step (by repeat (first | (with_reducible first | exact HB.out | apply below_alloc | apply pw_below_drewN | apply below_drew1 | refine below_set ?_ GE333.out) | exact HB.out)) hb); have n2_ := Aside0.mk (hbox); have n3_ := Aside0.mk ((by rw [hg]; exact (below_size (by repeat (first | (with_reducible first | exact HB.out | apply below_alloc | apply pw_below_drewN | apply below_drew1 | refine below_set ?_ GE333.out) | exact HB.out))) : w.heap.size ≤ gb335)); have n4_ := Aside0.mk ((by rw [hg]; exact (below_size (by repeat (first | (with_reducible first | exact HB.out | apply below_alloc | apply pw_below_drewN | apply below_drew1 | refine below_set ?_ GE333.out) | exact HB.out))) : w.heap.size ≤ gb335)); have n5_ := Aside0.mk ((by rw [hg]; exact Nat.ne_of_lt (blk_lt (g := gb333) (o := .cells #[.int .i64 a0_0, .slice (some ad334) l0_1.length c0_1] 24 (0, 0)) (by (with_reducible repeat (first | refine blk_drewN ?_ _ | refine blk_drew ?_ | refine blk_alloc ?_ _)); exact BK333.out)) : gb333 ≠ gb335)); have n6_ := Aside0.mk ((by rw [hg]; exact Nat.ne_of_gt (blk_lt (g := gb333) (o := .cells #[.int .i64 a0_0, .slice (some ad334) l0_1.length c0_1] 24 (0, 0)) (by (with_reducible repeat (first | refine blk_drewN ?_ _ | refine blk_drew ?_ | refine blk_alloc ?_ _)); exact BK333.out)) : gb335 ≠ gb333)); clear BK333; clear HB; have BK333 := n0_; have HB := n1_; have BK335 := n2_; have GW335 := n3_; have GE335 := n4_; have NB333_335 := n5_; have NB335_333 := n6_; clear n0_ n1_ n2_ n3_ n4_ n5_ n6_; clear hb hbox hg; have hnb20 := NB335_333.out; have hnc20 := NB333_335.out; have hcz21_0 : w19.cell? ⟨gb335, 0, none⟩ = some (.int .i64 0) := (blk_cell BK335.out 0).trans rfl; have hcz21_1 : w19.cell? ⟨gb335, 1, none⟩ = some (.int .i64 0) := (blk_cell BK335.out 1).trans rfl; have hcz21_2 : w19.cell? ⟨gb335, 2, none⟩ = some (.int .i64 0) := (blk_cell BK335.out 2).trans rfl; have hfz21_0 := blk_frozen BK335.out 0; have hfz21_1 := blk_frozen BK335.out 1; have hfz21_2 := blk_frozen BK335.out 2; have p336 : 0 ≤ (((rd_T34 l0_1 x12_1).f0) : Int) := of_decide_eq_true (by first | (with_reducible assumption) | assumption); have q336 : ((rd_T34 l0_1 x12_1).f0) < (l1.length : Int) := of_decide_eq_true (by first | (with_reducible assumption) | assumption); obtain ⟨ad336, e336, hx336_0⟩ := Kd.at_bool HR1.out ((rd_T34 l0_1 x12_1).f0) p336 q336; (try rw [← Nbq10.out] at hx336_0); (try rw [← Nbq14.out] at hx336_0); cases e336; have hn336_0 : ad336.block ≠ gb335 := Nat.ne_of_lt (Nat.lt_of_lt_of_le (by have := World.block_lt_of_cell? _ _ hx336_0; first | rwa [add_block] at this | exact this) GW335.out); have hn336_1 : ad336.block ≠ gb335 := Nat.ne_of_lt (Nat.lt_of_lt_of_le (by have := World.block_lt_of_cell? _ _ hx336_0; first | rwa [add_block] at this | exact this) GW335.out); have hn336_2 : ad336.block ≠ gb335 := Nat.ne_of_lt (Nat.lt_of_lt_of_le (by have := World.block_lt_of_cell? _ _ hx336_0; first | rwa [add_block] at this | exact this) GW335.out); replace hx336_0 := (HB.out.cell (World.block_lt_of_cell? w _ hx336_0)).trans hx336_0; replace hx336_0 := (cell_far (p := ⟨gb335, 0, none⟩) (by first | (rw [add_block]; exact hn336_0) | (show (Addr.add _ _).block ≠ _; rw [add_block]; exact hn336_0) | exact hn336_0) (.int .i64 ((rd_T34 l0_1 x12_1).f0))).trans hx336_0; replace hx336_0 := (cell_far (p := ⟨gb335, 1, none⟩) (by first | (rw [add_block]; exact hn336_1) | (show (Addr.add _ _).block ≠ _; rw [add_block]; exact hn336_1) | exact hn336_1) (.int .i64 ((rd_T34 l0_1 x12_1).f1))).trans hx336_0; replace hx336_0 := (cell_far (p := ⟨gb335, 2, none⟩) (by first | (rw [add_block]; exact hn336_2) | (show (Addr.add _ _).block ≠ _; rw [add_block]; exact hn336_2) | exact hn336_2) (.int .i64 ((rd_T34 l0_1 x12_1).f2))).trans hx336_0; (try have hy336_0 := fun (n_ : Nat) => (show (((((w19.drewN n_).setCell ⟨gb335, 0, none⟩ (.int .i64 ((rd_T34 l0_1 x12_1).f0))).setCell ⟨gb335, 1, none⟩ (.int .i64 ((rd_T34 l0_1 x12_1).f1))).setCell ⟨gb335, 2, none⟩ (.int .i64 ((rd_T34 l0_1 x12_1).f2)))).cell? _ = some _ from hx336_0)); clear hn336_0; clear hn336_1; clear hn336_2; replace p336 := eq_true p336; replace q336 := eq_true q336; have p337 : 0 ≤ (((rd_T34 l0_1 x12_1).f1) : Int) := of_decide_eq_true (by first | (with_reducible assumption) | assumption); have q337 : ((rd_T34 l0_1 x12_1).f1) < (l1.length : Int) := of_decide_eq_true (by first | (with_reducible assumption) | assumption); obtain ⟨ad337, e337, hx337_0⟩ := Kd.at_bool HR1.out ((rd_T34 l0_1 x12_1).f1) p337 q337; (try rw [← Nbq10.out] at hx337_0); (try rw [← Nbq14.out] at hx337_0); obtain rfl : ad336 = ad337 := (by injection e337); have hn337_0 : ad336.block ≠ gb335 := Nat.ne_of_lt (Nat.lt_of_lt_of_le (by have := World.block_lt_of_cell? _ _ hx337_0; first | rwa [add_block] at this | exact this) GW335.out); have hn337_1 : ad336.block ≠ gb335 := Nat.ne_of_lt (Nat.lt_of_lt_of_le (by have := World.block_lt_of_cell? _ _ hx337_0; first | rwa [add_block] at this | exact this) GW335.out); have hn337_2 : ad336.block ≠ gb335 := Nat.ne_of_lt (Nat.lt_of_lt_of_le (by have := World.block_lt_of_cell? _ _ hx337_0; first | rwa [add_block] at this | exact this) GW335.out); replace hx337_0 := (HB.out.cell (World.block_lt_of_cell? w _ hx337_0)).trans hx337_0; replace hx337_0 := (cell_far (p := ⟨gb335, 0, none⟩) (by first | (rw [add_block]; exact hn337_0) | (show (Addr.add _ _).block ≠ _; rw [add_block]; exact hn337_0) | exact hn337_0) (.int .i64 ((rd_T34 l0_1 x12_1).f0))).trans hx337_0; replace hx337_0 := (cell_far (p := ⟨gb335, 1, none⟩) (by first | (rw [add_block]; exact hn337_1) | (show (Addr.add _ _).block ≠ _; rw [add_block]; exact hn337_1) | exact hn337_1) (.int .i64 ((rd_T34 l0_1 x12_1).f1))).trans hx337_0; replace hx337_0 := (cell_far (p := ⟨gb335, 2, none⟩) (by first | (rw [add_block]; exact hn337_2) | (show (Addr.add _ _).block ≠ _; rw [add_block]; exact hn337_2) | exact hn337_2) (.int .i64 ((rd_T34 l0_1 x12_1).f2))).trans hx337_0; (try have hy337_0 := fun (n_ : Nat) => (show (((((w19.drewN n_).setCell ⟨gb335, 0, none⟩ (.int .i64 ((rd_T34 l0_1 x12_1).f0))).setCell ⟨gb335, 1, none⟩ (.int .i64 ((rd_T34 l0_1 x12_1).f1))).setCell ⟨gb335, 2, none⟩ (.int .i64 ((rd_T34 l0_1 x12_1).f2)))).cell? _ = some _ from hx337_0)); clear hn337_0; clear hn337_1; clear hn337_2; replace p337 := eq_true p337; replace q337 := eq_true q337)))
                        go_roundg k1
                        case measure => have := HK1.out; omega
                        case rel => exact ⟨(wrap64 (x6_1 + ((rd_T34 l0_1 x12_1).f2))), (wrap64 (x12_1 + 1)), (by first | rfl | (simp; done) | (simp [*]; done)), (by first | rfl | (simp; done) | (simp [*]; done)), H', ⟨by have := HK1.out; omega⟩, ⟨by (with_reducible repeat (first | refine blk_drewN ?_ _ | refine blk_drew ?_ | refine blk_alloc ?_ _)); refine blk_far ?_ NB333_335.out _; (with_reducible repeat (first | refine blk_drewN ?_ _ | refine blk_drew ?_ | refine blk_alloc ?_ _)); refine blk_far ?_ NB333_335.out _; (with_reducible repeat (first | refine blk_drewN ?_ _ | refine blk_drew ?_ | refine blk_alloc ?_ _)); refine blk_far ?_ NB333_335.out _; (with_reducible repeat (first | refine blk_drewN ?_ _ | refine blk_drew ?_ | refine blk_alloc ?_ _)); exact BK333.out⟩, ⟨by repeat (first | (with_reducible first | exact HB.out | apply below_alloc | apply pw_below_drewN | apply below_drew1 | refine below_set ?_ GE333.out | refine below_set ?_ GE335.out) | exact HB.out)⟩⟩
                    · rw [if_neg c13] at H
                      exact absurd H (by simp)
                  · rw [if_neg c12] at H
                    exact absurd H (by simp)
                · replace c11 := Bool.eq_false_iff.mpr c11
                  subst c11
                  have H1 : (cantingref07_Side.l0 k1 l1 x6_1 l0_1 (l0_1.length : Int) (wrap64 (x12_1 + 1)) a0_0 l0_1) = some (r1, r2) := by rw [if_neg (show ¬ (false = true) by decide)] at H; exact H
                  clear H
                  have H := H1
                  clear H1
                  have H' := Aside0.mk H
                  clear H
                  have p334 : 0 ≤ (x12_1 : Int) := of_decide_eq_true (by first | (with_reducible assumption) | assumption)
                  have q334 : x12_1 < (l0_1.length : Int) := of_decide_eq_true (by first | (with_reducible assumption) | assumption)
                  obtain ⟨ad334, e334, hx334_0, hx334_1, hx334_2⟩ := at_T34 HR0_1.out x12_1 p334 q334
                  cases e334
                  replace hx334_0 := (HB.out.cell (World.block_lt_of_cell? w _ hx334_0)).trans hx334_0
                  replace hx334_1 := (HB.out.cell (World.block_lt_of_cell? w _ hx334_1)).trans hx334_1
                  replace hx334_2 := (HB.out.cell (World.block_lt_of_cell? w _ hx334_2)).trans hx334_2
                  replace p334 := eq_true p334
                  replace q334 := eq_true q334
                  go_wp2_with (first | ((with_reducible refine gate_dst (N := 8) rfl ?_); refine box_event ?hg (N := 8) ?hd (cs := #[.int .i64 0, .int .i64 0, .int .i64 0]) (t := 34) ?hr ?_; (case hd => rfl); (case hg => rfl); (case hr => first | (go_simp; done) | (go_simp; rfl)); intro gb335 hg w22 hbox hb; have n0_ := Aside0.mk (blk_below (g := gb333) (o := .cells #[.int .i64 a0_0, .slice (some ad334) l0_1.length c0_1] 24 (0, 0)) (by (with_reducible repeat (first | refine blk_drewN ?_ _ | refine blk_drew ?_ | refine blk_alloc ?_ _)); exact BK333.out) hb); have n1_ := Aside0.mk (below_step (by repeat (first | (with_reducible first | exact HB.out | apply below_alloc | apply pw_below_drewN | apply below_drew1 | refine below_set ?_ GE333.out) | exact HB.out)) hb); have n2_ := Aside0.mk (hbox); have n3_ := Aside0.mk ((by rw [hg]; exact (below_size (by repeat (first | (with_reducible first | exact HB.out | apply below_alloc | apply pw_below_drewN | apply below_drew1 | refine below_set ?_ GE333.out) | exact HB.out))) : w.heap.size ≤ gb335)); have n4_ := Aside0.mk ((by rw [hg]; exact (below_size (by repeat (first | (with_reducible first | exact HB.out | apply below_alloc | apply pw_below_drewN | apply below_drew1 | refine below_set ?_ GE333.out) | exact HB.out))) : w.heap.size ≤ gb335)); have n5_ := Aside0.mk ((by rw [hg]; exact Nat.ne_of_lt (blk_lt (g := gb333) (o := .cells #[.int .i64 a0_0, .slice (some ad334) l0_1.length c0_1] 24 (0, 0)) (by (with_reducible repeat (first | refine blk_drewN ?_ _ | refine blk_drew ?_ | refine blk_alloc ?_ _)); exact BK333.out)) : gb333 ≠ gb335)); have n6_ := Aside0.mk ((by rw [hg]; exact Nat.ne_of_gt (blk_lt (g := gb333) (o := .cells #[.int .i64 a0_0, .slice (some ad334) l0_1.length c0_1] 24 (0, 0)) (by (with_reducible repeat (first | refine blk_drewN ?_ _ | refine blk_drew ?_ | refine blk_alloc ?_ _)); exact BK333.out)) : gb335 ≠ gb333)); clear BK333; clear HB; have BK333 := n0_; have HB := n1_; have BK335 := n2_; have GW335 := n3_; have GE335 := n4_; have NB333_335 := n5_; have NB335_333 := n6_; clear n0_ n1_ n2_ n3_ n4_ n5_ n6_; clear hb hbox hg; have hnb23 := NB335_333.out; have hnc23 := NB333_335.out; have hcz24_0 : w22.cell? ⟨gb335, 0, none⟩ = some (.int .i64 0) := (blk_cell BK335.out 0).trans rfl; have hcz24_1 : w22.cell? ⟨gb335, 1, none⟩ = some (.int .i64 0) := (blk_cell BK335.out 1).trans rfl; have hcz24_2 : w22.cell? ⟨gb335, 2, none⟩ = some (.int .i64 0) := (blk_cell BK335.out 2).trans rfl; have hfz24_0 := blk_frozen BK335.out 0; have hfz24_1 := blk_frozen BK335.out 1; have hfz24_2 := blk_frozen BK335.out 2; have p336 : 0 ≤ (((rd_T34 l0_1 x12_1).f0) : Int) := of_decide_eq_true (by first | (with_reducible assumption) | assumption); have q336 : ((rd_T34 l0_1 x12_1).f0) < (l1.length : Int) := of_decide_eq_true (by first | (with_reducible assumption) | assumption); obtain ⟨ad336, e336, hx336_0⟩ := Kd.at_bool HR1.out ((rd_T34 l0_1 x12_1).f0) p336 q336; (try rw [← Nbq10.out] at hx336_0); cases e336; have hn336_0 : ad336.block ≠ gb335 := Nat.ne_of_lt (Nat.lt_of_lt_of_le (by have := World.block_lt_of_cell? _ _ hx336_0; first | rwa [add_block] at this | exact this) GW335.out); have hn336_1 : ad336.block ≠ gb335 := Nat.ne_of_lt (Nat.lt_of_lt_of_le (by have := World.block_lt_of_cell? _ _ hx336_0; first | rwa [add_block] at this | exact this) GW335.out); have hn336_2 : ad336.block ≠ gb335 := Nat.ne_of_lt (Nat.lt_of_lt_of_le (by have := World.block_lt_of_cell? _ _ hx336_0; first | rwa [add_block] at this | exact this) GW335.out); replace hx336_0 := (HB.out.cell (World.block_lt_of_cell? w _ hx336_0)).trans hx336_0; replace hx336_0 := (cell_far (p := ⟨gb335, 0, none⟩) (by first | (rw [add_block]; exact hn336_0) | (show (Addr.add _ _).block ≠ _; rw [add_block]; exact hn336_0) | exact hn336_0) (.int .i64 ((rd_T34 l0_1 x12_1).f0))).trans hx336_0; replace hx336_0 := (cell_far (p := ⟨gb335, 1, none⟩) (by first | (rw [add_block]; exact hn336_1) | (show (Addr.add _ _).block ≠ _; rw [add_block]; exact hn336_1) | exact hn336_1) (.int .i64 ((rd_T34 l0_1 x12_1).f1))).trans hx336_0; replace hx336_0 := (cell_far (p := ⟨gb335, 2, none⟩) (by first | (rw [add_block]; exact hn336_2) | (show (Addr.add _ _).block ≠ _; rw [add_block]; exact hn336_2) | exact hn336_2) (.int .i64 ((rd_T34 l0_1 x12_1).f2))).trans hx336_0; (try have hy336_0 := fun (n_ : Nat) => (show (((((w22.drewN n_).setCell ⟨gb335, 0, none⟩ (.int .i64 ((rd_T34 l0_1 x12_1).f0))).setCell ⟨gb335, 1, none⟩ (.int .i64 ((rd_T34 l0_1 x12_1).f1))).setCell ⟨gb335, 2, none⟩ (.int .i64 ((rd_T34 l0_1 x12_1).f2)))).cell? _ = some _ from hx336_0)); clear hn336_0; clear hn336_1; clear hn336_2; replace p336 := eq_true p336; replace q336 := eq_true q336))
                  repeat (go_quiet (first | ((with_reducible refine gate_dst (N := 8) rfl ?_); refine box_event ?hg (N := 8) ?hd (cs := #[.int .i64 0, .int .i64 0, .int .i64 0]) (t := 34) ?hr ?_; (case hd => rfl); (case hg => rfl); (case hr => first | (go_simp; done) | (go_simp; rfl)); intro gb335 hg w22 hbox hb; have n0_ := Aside0.mk (blk_below (g := gb333) (o := .cells #[.int .i64 a0_0, .slice (some ad334) l0_1.length c0_1] 24 (0, 0)) (by (with_reducible repeat (first | refine blk_drewN ?_ _ | refine blk_drew ?_ | refine blk_alloc ?_ _)); exact BK333.out) hb); have n1_ := Aside0.mk (below_step (by repeat (first | (with_reducible first | exact HB.out | apply below_alloc | apply pw_below_drewN | apply below_drew1 | refine below_set ?_ GE333.out) | exact HB.out)) hb); have n2_ := Aside0.mk (hbox); have n3_ := Aside0.mk ((by rw [hg]; exact (below_size (by repeat (first | (with_reducible first | exact HB.out | apply below_alloc | apply pw_below_drewN | apply below_drew1 | refine below_set ?_ GE333.out) | exact HB.out))) : w.heap.size ≤ gb335)); have n4_ := Aside0.mk ((by rw [hg]; exact (below_size (by repeat (first | (with_reducible first | exact HB.out | apply below_alloc | apply pw_below_drewN | apply below_drew1 | refine below_set ?_ GE333.out) | exact HB.out))) : w.heap.size ≤ gb335)); have n5_ := Aside0.mk ((by rw [hg]; exact Nat.ne_of_lt (blk_lt (g := gb333) (o := .cells #[.int .i64 a0_0, .slice (some ad334) l0_1.length c0_1] 24 (0, 0)) (by (with_reducible repeat (first | refine blk_drewN ?_ _ | refine blk_drew ?_ | refine blk_alloc ?_ _)); exact BK333.out)) : gb333 ≠ gb335)); have n6_ := Aside0.mk ((by rw [hg]; exact Nat.ne_of_gt (blk_lt (g := gb333) (o := .cells #[.int .i64 a0_0, .slice (some ad334) l0_1.length c0_1] 24 (0, 0)) (by (with_reducible repeat (first | refine blk_drewN ?_ _ | refine blk_drew ?_ | refine blk_alloc ?_ _)); exact BK333.out)) : gb335 ≠ gb333)); clear BK333; clear HB; have BK333 := n0_; have HB := n1_; have BK335 := n2_; have GW335 := n3_; have GE335 := n4_; have NB333_335 := n5_; have NB335_333 := n6_; clear n0_ n1_ n2_ n3_ n4_ n5_ n6_; clear hb hbox hg; have hnb23 := NB335_333.out; have hnc23 := NB333_335.out; have hcz24_0 : w22.cell? ⟨gb335, 0, none⟩ = some (.int .i64 0) := (blk_cell BK335.out 0).trans rfl; have hcz24_1 : w22.cell? ⟨gb335, 1, none⟩ = some (.int .i64 0) := (blk_cell BK335.out 1).trans rfl; have hcz24_2 : w22.cell? ⟨gb335, 2, none⟩ = some (.int .i64 0) := (blk_cell BK335.out 2).trans rfl; have hfz24_0 := blk_frozen BK335.out 0; have hfz24_1 := blk_frozen BK335.out 1; have hfz24_2 := blk_frozen BK335.out 2; have p336 : 0 ≤ (((rd_T34 l0_1 x12_1).f0) : Int) := of_decide_eq_true (by first | (with_reducible assumption) | assumption); have q336 : ((rd_T34 l0_1 x12_1).f0) < (l1.length : Int) := of_decide_eq_true (by first | (with_reducible assumption) | assumption); obtain ⟨ad336, e336, hx336_0⟩ := Kd.at_bool HR1.out ((rd_T34 l0_1 x12_1).f0) p336 q336; (try rw [← Nbq10.out] at hx336_0); cases e336; have hn336_0 : ad336.block ≠ gb335 := Nat.ne_of_lt (Nat.lt_of_lt_of_le (by have := World.block_lt_of_cell? _ _ hx336_0; first | rwa [add_block] at this | exact this) GW335.out); have hn336_1 : ad336.block ≠ gb335 := Nat.ne_of_lt (Nat.lt_of_lt_of_le (by have := World.block_lt_of_cell? _ _ hx336_0; first | rwa [add_block] at this | exact this) GW335.out); have hn336_2 : ad336.block ≠ gb335 := Nat.ne_of_lt (Nat.lt_of_lt_of_le (by have := World.block_lt_of_cell? _ _ hx336_0; first | rwa [add_block] at this | exact this) GW335.out); replace hx336_0 := (HB.out.cell (World.block_lt_of_cell? w _ hx336_0)).trans hx336_0; replace hx336_0 := (cell_far (p := ⟨gb335, 0, none⟩) (by first | (rw [add_block]; exact hn336_0) | (show (Addr.add _ _).block ≠ _; rw [add_block]; exact hn336_0) | exact hn336_0) (.int .i64 ((rd_T34 l0_1 x12_1).f0))).trans hx336_0; replace hx336_0 := (cell_far (p := ⟨gb335, 1, none⟩) (by first | (rw [add_block]; exact hn336_1) | (show (Addr.add _ _).block ≠ _; rw [add_block]; exact hn336_1) | exact hn336_1) (.int .i64 ((rd_T34 l0_1 x12_1).f1))).trans hx336_0; replace hx336_0 := (cell_far (p := ⟨gb335, 2, none⟩) (by first | (rw [add_block]; exact hn336_2) | (show (Addr.add _ _).block ≠ _; rw [add_block]; exact hn336_2) | exact hn336_2) (.int .i64 ((rd_T34 l0_1 x12_1).f2))).trans hx336_0; (try have hy336_0 := fun (n_ : Nat) => (show (((((w22.drewN n_).setCell ⟨gb335, 0, none⟩ (.int .i64 ((rd_T34 l0_1 x12_1).f0))).setCell ⟨gb335, 1, none⟩ (.int .i64 ((rd_T34 l0_1 x12_1).f1))).setCell ⟨gb335, 2, none⟩ (.int .i64 ((rd_T34 l0_1 x12_1).f2)))).cell? _ = some _ from hx336_0)); clear hn336_0; clear hn336_1; clear hn336_2; replace p336 := eq_true p336; replace q336 := eq_true q336)); try go_wp2_with (first | ((with_reducible refine gate_dst (N := 8) rfl ?_); refine box_event ?hg (N := 8) ?hd (cs := #[.int .i64 0, .int .i64 0, .int .i64 0]) (t := 34) ?hr ?_; (case hd => rfl); (case hg => rfl); (case hr => first | (go_simp; done) | (go_simp; rfl)); intro gb335 hg w22 hbox hb; have n0_ := Aside0.mk (blk_below (g := gb333) (o := .cells #[.int .i64 a0_0, .slice (some ad334) l0_1.length c0_1] 24 (0, 0)) (by (with_reducible repeat (first | refine blk_drewN ?_ _ | refine blk_drew ?_ | refine blk_alloc ?_ _)); exact BK333.out) hb); have n1_ := Aside0.mk (below_step (by repeat (first | (with_reducible first | exact HB.out | apply below_alloc | apply pw_below_drewN | apply below_drew1 | refine below_set ?_ GE333.out) | exact HB.out)) hb); have n2_ := Aside0.mk (hbox); have n3_ := Aside0.mk ((by rw [hg]; exact (below_size (by repeat (first | (with_reducible first | exact HB.out | apply below_alloc | apply pw_below_drewN | apply below_drew1 | refine below_set ?_ GE333.out) | exact HB.out))) : w.heap.size ≤ gb335)); have n4_ := Aside0.mk ((by rw [hg]; exact (below_size (by repeat (first | (with_reducible first | exact HB.out | apply below_alloc | apply pw_below_drewN | apply below_drew1 | refine below_set ?_ GE333.out) | exact HB.out))) : w.heap.size ≤ gb335)); have n5_ := Aside0.mk ((by rw [hg]; exact Nat.ne_of_lt (blk_lt (g := gb333) (o := .cells #[.int .i64 a0_0, .slice (some ad334) l0_1.length c0_1] 24 (0, 0)) (by (with_reducible repeat (first | refine blk_drewN ?_ _ | refine blk_drew ?_ | refine blk_alloc ?_ _)); exact BK333.out)) : gb333 ≠ gb335)); have n6_ := Aside0.mk ((by rw [hg]; exact Nat.ne_of_gt (blk_lt (g := gb333) (o := .cells #[.int .i64 a0_0, .slice (some ad334) l0_1.length c0_1] 24 (0, 0)) (by (with_reducible repeat (first | refine blk_drewN ?_ _ | refine blk_drew ?_ | refine blk_alloc ?_ _)); exact BK333.out)) : gb335 ≠ gb333)); clear BK333; clear HB; have BK333 := n0_; have HB := n1_; have BK335 := n2_; have GW335 := n3_; have GE335 := n4_; have NB333_335 := n5_; have NB335_333 := n6_; clear n0_ n1_ n2_ n3_ n4_ n5_ n6_; clear hb hbox hg; have hnb23 := NB335_333.out; have hnc23 := NB333_335.out; have hcz24_0 : w22.cell? ⟨gb335, 0, none⟩ = some (.int .i64 0) := (blk_cell BK335.out 0).trans rfl; have hcz24_1 : w22.cell? ⟨gb335, 1, none⟩ = some (.int .i64 0) := (blk_cell BK335.out 1).trans rfl; have hcz24_2 : w22.cell? ⟨gb335, 2, none⟩ = some (.int .i64 0) := (blk_cell BK335.out 2).trans rfl; have hfz24_0 := blk_frozen BK335.out 0; have hfz24_1 := blk_frozen BK335.out 1; have hfz24_2 := blk_frozen BK335.out 2; have p336 : 0 ≤ (((rd_T34 l0_1 x12_1).f0) : Int) := of_decide_eq_true (by first | (with_reducible assumption) | assumption); have q336 : ((rd_T34 l0_1 x12_1).f0) < (l1.length : Int) := of_decide_eq_true (by first | (with_reducible assumption) | assumption); obtain ⟨ad336, e336, hx336_0⟩ := Kd.at_bool HR1.out ((rd_T34 l0_1 x12_1).f0) p336 q336; (try rw [← Nbq10.out] at hx336_0); cases e336; have hn336_0 : ad336.block ≠ gb335 := Nat.ne_of_lt (Nat.lt_of_lt_of_le (by have := World.block_lt_of_cell? _ _ hx336_0; first | rwa [add_block] at this | exact this) GW335.out); have hn336_1 : ad336.block ≠ gb335 := Nat.ne_of_lt (Nat.lt_of_lt_of_le (by have := World.block_lt_of_cell? _ _ hx336_0; first | rwa [add_block] at this | exact this) GW335.out); have hn336_2 : ad336.block ≠ gb335 := Nat.ne_of_lt (Nat.lt_of_lt_of_le (by have := World.block_lt_of_cell? _ _ hx336_0; first | rwa [add_block] at this | exact this) GW335.out); replace hx336_0 := (HB.out.cell (World.block_lt_of_cell? w _ hx336_0)).trans hx336_0; replace hx336_0 := (cell_far (p := ⟨gb335, 0, none⟩) (by first | (rw [add_block]; exact hn336_0) | (show (Addr.add _ _).block ≠ _; rw [add_block]; exact hn336_0) | exact hn336_0) (.int .i64 ((rd_T34 l0_1 x12_1).f0))).trans hx336_0; replace hx336_0 := (cell_far (p := ⟨gb335, 1, none⟩) (by first | (rw [add_block]; exact hn336_1) | (show (Addr.add _ _).block ≠ _; rw [add_block]; exact hn336_1) | exact hn336_1) (.int .i64 ((rd_T34 l0_1 x12_1).f1))).trans hx336_0; replace hx336_0 := (cell_far (p := ⟨gb335, 2, none⟩) (by first | (rw [add_block]; exact hn336_2) | (show (Addr.add _ _).block ≠ _; rw [add_block]; exact hn336_2) | exact hn336_2) (.int .i64 ((rd_T34 l0_1 x12_1).f2))).trans hx336_0; (try have hy336_0 := fun (n_ : Nat) => (show (((((w22.drewN n_).setCell ⟨gb335, 0, none⟩ (.int .i64 ((rd_T34 l0_1 x12_1).f0))).setCell ⟨gb335, 1, none⟩ (.int .i64 ((rd_T34 l0_1 x12_1).f1))).setCell ⟨gb335, 2, none⟩ (.int .i64 ((rd_T34 l0_1 x12_1).f2)))).cell? _ = some _ from hx336_0)); clear hn336_0; clear hn336_1; clear hn336_2; replace p336 := eq_true p336; replace q336 := eq_true q336)))
                  go_roundg k1
                  case measure => have := HK1.out; omega
                  case rel => exact ⟨(x6_1), (wrap64 (x12_1 + 1)), (by first | rfl | (simp; done) | (simp [*]; done)), (by first | rfl | (simp; done) | (simp [*]; done)), H', ⟨by have := HK1.out; omega⟩, ⟨by (with_reducible repeat (first | refine blk_drewN ?_ _ | refine blk_drew ?_ | refine blk_alloc ?_ _)); refine blk_far ?_ NB333_335.out _; (with_reducible repeat (first | refine blk_drewN ?_ _ | refine blk_drew ?_ | refine blk_alloc ?_ _)); refine blk_far ?_ NB333_335.out _; (with_reducible repeat (first | refine blk_drewN ?_ _ | refine blk_drew ?_ | refine blk_alloc ?_ _)); refine blk_far ?_ NB333_335.out _; (with_reducible repeat (first | refine blk_drewN ?_ _ | refine blk_drew ?_ | refine blk_alloc ?_ _)); exact BK333.out⟩, ⟨by repeat (first | (with_reducible first | exact HB.out | apply below_alloc | apply pw_below_drewN | apply below_drew1 | refine below_set ?_ GE333.out | refine below_set ?_ GE335.out) | exact HB.out)⟩⟩
              · rw [if_neg c9] at H
                exact absurd H (by simp)
            · rw [if_neg c8] at H
              exact absurd H (by simp)
          · rw [if_neg c7] at H
            exact absurd H (by simp)
        · rw [if_neg c6] at H
          exact absurd H (by simp)
      · rw [if_neg c5] at H
        have c5b0 : decide (x12_1 < (l0_1.length : Int)) = false := decide_eq_false c5
        clear c5
        by_cases c25 : 0 < (l1.length : Int)
        · rw [if_pos c25] at H
          have c25b0 : decide (0 < (l1.length : Int)) = true := decide_eq_true c25
          have c25b1 : decide (0 < l1.length) = true := decide_eq_true (by omega)
          clear c25
          obtain ⟨bq26, hbq26⟩ : ∃ b_ : Bool, b_ = (rdOf false l1 0) := ⟨_, rfl⟩
          replace H : (if bq26 = true then (if 0 ≤ (wrap64 (a0_0 - 1)) then (if (wrap64 (a0_0 - 1)) < (l1.length : Int) then (some (x6_1, !(rdOf false l1 (wrap64 (a0_0 - 1))))) else (none)) else (none)) else (some (x6_1, false))) = some (r1, r2) := by rw [← hbq26] at H; exact H
          have Nbq26 := Aside0.mk hbq26
          clear hbq26
          by_cases c27 : bq26 = true
          · subst c27
            have H1 : (if 0 ≤ (wrap64 (a0_0 - 1)) then (if (wrap64 (a0_0 - 1)) < (l1.length : Int) then (some (x6_1, !(rdOf false l1 (wrap64 (a0_0 - 1))))) else (none)) else (none)) = some (r1, r2) := by rw [if_pos rfl] at H; exact H
            clear H
            have H := H1
            clear H1
            obtain ⟨ji28, hji28⟩ : ∃ j_ : Int, (wrap64 (a0_0 - 1)) = j_ := ⟨_, rfl⟩
            replace H : (if 0 ≤ (ji28) then (if (ji28) < (l1.length : Int) then (some (x6_1, !(rdOf false l1 (ji28)))) else (none)) else (none)) = some (r1, r2) := by first | (rw [hji28] at H; exact H) | (simp only [hji28] at H ⊢; exact H)
            have hji28w : (IntKind.i64.wrap (a0_0 - 1)) = ji28 := (i64_w _).trans hji28
            by_cases c29 : 0 ≤ (ji28)
            · rw [if_pos c29] at H
              have c29b0 : decide (0 ≤ (ji28)) = true := decide_eq_true c29
              clear c29
              by_cases c30 : (ji28) < (l1.length : Int)
              · rw [if_pos c30] at H
                have c30b0 : decide ((ji28) < (l1.length : Int)) = true := decide_eq_true c30
                clear c30
                simp only [Option.some.injEq, Prod.mk.injEq] at H
                obtain ⟨rfl, rfl⟩ := H
                have p338 : 0 ≤ (0 : Int) := (by omega)
                have q338 : 0 < (l1.length : Int) := of_decide_eq_true (by first | (with_reducible assumption) | assumption)
                obtain ⟨ad338, e338, hx338_0⟩ := Kd.at_bool HR1.out 0 p338 q338
                (try rw [← Nbq26.out] at hx338_0)
                (try rw [← Nbq26.out] at hw338_0)
                cases e338
                have qi338 : (0 < l1.length) = True := eq_true (by omega)
                (try rw [show ((0 : Int)).toNat = 0 from rfl] at hx338_0)
                (try rw [Addr.add_zero'] at hx338_0)
                replace hx338_0 := (HB.out.cell (World.block_lt_of_cell? w _ hx338_0)).trans hx338_0
                replace p338 := eq_true p338
                replace q338 := eq_true q338
                have hcz31_0 : wr.cell? ⟨gb333, 0, none⟩ = some (.int .i64 a0_0) := (blk_cell BK333.out 0).trans rfl
                have hcz31_1 : wr.cell? ⟨gb333, 1, none⟩ = some (.slice A0_1 l0_1.length c0_1) := (blk_cell BK333.out 1).trans rfl
                have hfz31_0 := blk_frozen BK333.out 0
                have hfz31_1 := blk_frozen BK333.out 1
                have p339 : 0 ≤ ((ji28) : Int) := of_decide_eq_true (by first | (with_reducible assumption) | assumption)
                have q339 : (ji28) < (l1.length : Int) := of_decide_eq_true (by first | (with_reducible assumption) | assumption)
                obtain ⟨ad339, e339, hx339_0⟩ := Kd.at_bool HR1.out (ji28) p339 q339
                (try rw [← Nbq26.out] at hx339_0)
                (try rw [← Nbq26.out] at hw339_0)
                obtain rfl : ad338 = ad339 := (by injection e339)
                replace hx339_0 := (HB.out.cell (World.block_lt_of_cell? w _ hx339_0)).trans hx339_0
                replace p339 := eq_true p339
                replace q339 := eq_true q339
                go_wp2
                repeat (go_quiet (fail); try go_wp2)
                go_ret2
                exact ⟨by first | rfl | (simp [errW_none, errW_some] <;> rfl) | (simp only [← hji28]; first | rfl | (simp [errW_none, errW_some] <;> rfl)) | (simp [*, errW_none, errW_some] <;> rfl), by repeat (first | (with_reducible first | exact HB.out | apply below_alloc | apply pw_below_drewN | apply below_drew1 | refine below_set ?_ GE333.out) | exact HB.out)⟩
              · rw [if_neg c30] at H
                exact absurd H (by simp)
            · rw [if_neg c29] at H
              exact absurd H (by simp)
          · replace c27 := Bool.eq_false_iff.mpr c27
            subst c27
            have H1 : (some (x6_1, false)) = some (r1, r2) := by rw [if_neg (show ¬ (false = true) by decide)] at H; exact H
            clear H
            have H := H1
            clear H1
            simp only [Option.some.injEq, Prod.mk.injEq] at H
            obtain ⟨rfl, rfl⟩ := H
            have p338 : 0 ≤ (0 : Int) := (by omega)
            have q338 : 0 < (l1.length : Int) := of_decide_eq_true (by first | (with_reducible assumption) | assumption)
            obtain ⟨ad338, e338, hx338_0⟩ := Kd.at_bool HR1.out 0 p338 q338
            (try rw [← Nbq26.out] at hx338_0)
            (try rw [← Nbq26.out] at hw338_0)
            cases e338
            have qi338 : (0 < l1.length) = True := eq_true (by omega)
            (try rw [show ((0 : Int)).toNat = 0 from rfl] at hx338_0)
            (try rw [Addr.add_zero'] at hx338_0)
            replace hx338_0 := (HB.out.cell (World.block_lt_of_cell? w _ hx338_0)).trans hx338_0
            replace p338 := eq_true p338
            replace q338 := eq_true q338
            go_wp2
            repeat (go_quiet (fail); try go_wp2)
            go_ret2
            exact ⟨by first | rfl | (simp [errW_none, errW_some] <;> rfl) | (simp [*, errW_none, errW_some] <;> rfl), by repeat (first | (with_reducible first | exact HB.out | apply below_alloc | apply pw_below_drewN | apply below_drew1 | refine below_set ?_ GE333.out) | exact HB.out)⟩
        · rw [if_neg c25] at H
          exact absurd H (by simp)
end Go.Proofs.Ytbamanjedfccpaa.X
end
