/- Lemmas of the masks: part By. -/
import Derived.Test.YtlplphgoldkoeaaBc
import Derived.Test.YtlplphgoldkoeaaBx
import Derived.Test.YtlplphgoldkoeaaBk
section
set_option linter.unusedVariables false
set_option linter.unusedSimpArgs false
namespace Go.Proofs.Ytlplphgoldkoeaa.X
open Go.RowKit Go.Proofs.YtlplphgoldkoeaaW.PrintWords Go.Proofs.YtlplphgoldkoeaaW.PrintLast Go.Proofs.YtlplphgoldkoeaaW.PrintMore
attribute [local go_sem] max2_int min2_int max_two min_two max_three min_three max_four min_four   -- for this text's walks alone
set_option linter.unusedVariables false
set_option linter.unusedSimpArgs false
def mask_Mask_nth.l0 : Nat → Int → List Int → Int → Int → Int → Int → Int → List (S107) → Int → Option (Int)
  | 0, _, _, _, _, _, _, _, _, _ => none
  | k + 1, x1, x5, x6, x7, x17, x18, x806000, x806001, x806002 => if x18 < x17 then ((mask_Mask_asks.f x806000 x806001 x806002 x6).bind fun t809 => (if t809 = x18 then (if 0 ≤ (wrap64 (x6 - 2)) then (if (wrap64 (x6 - 2)) < (x806001.length : Int) then (if 0 ≤ ((rd_T107 x806001 (wrap64 (x6 - 2))).f1) then (if ((rd_T107 x806001 (wrap64 (x6 - 2))).f1) < (x5.length : Int) then ((mask_Mask_asks.f x806000 x806001 x806002 ((rd_T107 x806001 (wrap64 (x6 - 2))).f1)).bind fun t813 => (if 0 ≤ (wrap64 ((wrap64 (t813 - x18)) - 1)) then (if x1 ≥ (shl .i64 (rd x5 ((rd_T107 x806001 (wrap64 (x6 - 2))).f1)) (wrap64 ((wrap64 (t813 - x18)) - 1))) then (mask_Mask_nth.l0 k (wrap64 (x1 - (shl .i64 (rd x5 ((rd_T107 x806001 (wrap64 (x6 - 2))).f1)) (wrap64 ((wrap64 (t813 - x18)) - 1))))) x5 ((rd_T107 x806001 (wrap64 (x6 - 2))).f2) (wrap64 ((wrap64 (x7 * 2)) + 1)) x17 (wrap64 (x18 + 1)) x806000 x806001 x806002) else (mask_Mask_nth.l0 k x1 x5 ((rd_T107 x806001 (wrap64 (x6 - 2))).f1) (wrap64 (x7 * 2)) x17 (wrap64 (x18 + 1)) x806000 x806001 x806002)) else (none))) else (none)) else (none)) else (none)) else (none)) else (if 0 ≤ x6 then (if x6 < (x5.length : Int) then ((mask_Mask_asks.f x806000 x806001 x806002 x6).bind fun t815 => (if 0 ≤ (wrap64 ((wrap64 (t815 - x18)) - 1)) then (if x1 ≥ (shl .i64 (rd x5 x6) (wrap64 ((wrap64 (t815 - x18)) - 1))) then (mask_Mask_nth.l0 k (wrap64 (x1 - (shl .i64 (rd x5 x6) (wrap64 ((wrap64 (t815 - x18)) - 1))))) x5 x6 (wrap64 ((wrap64 (x7 * 2)) + 1)) x17 (wrap64 (x18 + 1)) x806000 x806001 x806002) else (mask_Mask_nth.l0 k x1 x5 x6 (wrap64 (x7 * 2)) x17 (wrap64 (x18 + 1)) x806000 x806001 x806002)) else (none))) else (none)) else (none)))) else (some x7)
def mask_Mask_nth.f (k : Nat) (a0_0 : Int) (l0_1 : List (S107)) (a0_2 : Int) (a1 : Int) : Option (Int) := (mask_Mask_counts.f k a0_0 l0_1 a0_2).bind fun t806 => (mask_Mask_nth.l0 k a1 t806 a0_2 0 a0_0 0 a0_0 l0_1 a0_2)
theorem mask_Mask_nth.mono_l : ∀ k, (∀ y0 y1 y2 y3 y4 y5 y6 y7 y8, LeO (mask_Mask_nth.l0 k y0 y1 y2 y3 y4 y5 y6 y7 y8) (mask_Mask_nth.l0 (k + 1) y0 y1 y2 y3 y4 y5 y6 y7 y8))
  | 0 => fun _ _ _ _ _ _ _ _ _ r h => by simp [mask_Mask_nth.l0] at h
  | k + 1 => by
    have ih0 := mask_Mask_nth.mono_l k
    · intro y0 y1 y2 y3 y4 y5 y6 y7 y8
      unfold mask_Mask_nth.l0
      repeat' first
      | (with_reducible exact ih0 _ _ _ _ _ _ _ _ _)
      | (with_reducible exact mask_Mask_counts.mono _ _ _ _)
      | (with_reducible exact LeO.refl _)
      | (with_reducible exact LeO.none _)
      | (with_reducible refine LeO.ite ?_ ?_)
      | (with_reducible refine LeO.bind ?_ (fun _ => ?_))
      | exact ih0 _ _ _ _ _ _ _ _ _
      | exact mask_Mask_counts.mono _ _ _ _
      | exact LeO.none _
      | refine LeO.ite ?_ ?_
      | refine LeO.bind ?_ (fun _ => ?_)
theorem mask_Mask_nth.mono : ∀ a0 a1 a2 a3 k, LeO (mask_Mask_nth.f k a0 a1 a2 a3) (mask_Mask_nth.f (k + 1) a0 a1 a2 a3) := by
  intro a0 a1 a2 a3 k
  have ih0 := mask_Mask_nth.mono_l k
  unfold mask_Mask_nth.f
  repeat' first
      | (with_reducible exact ih0 _ _ _ _ _ _ _ _ _)
      | (with_reducible exact mask_Mask_counts.mono _ _ _ _)
      | (with_reducible exact LeO.refl _)
      | (with_reducible exact LeO.none _)
      | (with_reducible refine LeO.ite ?_ ?_)
      | (with_reducible refine LeO.bind ?_ (fun _ => ?_))
      | exact ih0 _ _ _ _ _ _ _ _ _
      | exact mask_Mask_counts.mono _ _ _ _
      | exact LeO.none _
      | refine LeO.ite ?_ ?_
      | refine LeO.bind ?_ (fun _ => ?_)
def mask_Mask_nth.T8 : Bool × List (List Nat × List Nat) := (true, [([], []), ([0], [0]), ([], []), ([2], [2]), ([1, 3], [1, 3]), ([4], [4]), ([5], [5]), ([], []), ([7], [7]), ([], []), ([9], [9]), ([8, 10], [8, 10]), ([11], [11]), ([12], [12]), ([6, 0, 1, 2, 3, 4, 5, 6], [6]), ([13, 14, 0, 1, 2, 3, 4, 5, 6, 7, 8, 9, 10, 11, 12, 13, 14], [13])])
def mask_Mask_nth.B8 : List Nat := [0, 1, 0, 4, 15, 31, 63, 0, 128, 0, 512, 1920, 3968, 8064, 127, 32767]
theorem mask_Mask_nth.tab8 : rtab .any (opsOf Try.f110 8) = mask_Mask_nth.T8 := by kernel_rfl
theorem mask_Mask_nth.bits8 : waitsOk mask_Mask_nth.T8.2 mask_Mask_nth.B8 = true := by kernel_rfl
def mask_Mask_nth.T10 : Bool × List (List Nat × List Nat) := (true, [([], []), ([], []), ([0, 1], [0, 1]), ([2], [2]), ([], []), ([], []), ([4, 5], [4, 5]), ([], []), ([6, 7], [6, 7]), ([8], [8]), ([3, 9], [3, 9]), ([10, 6, 0, 1, 2, 3, 4, 5, 6, 7, 8, 9, 10], [10])])
def mask_Mask_nth.B10 : List Nat := [0, 0, 3, 7, 0, 0, 48, 0, 240, 496, 1023, 2047]
theorem mask_Mask_nth.tab10 : rtab .any (opsOf Try.f110 10) = mask_Mask_nth.T10 := by kernel_rfl
theorem mask_Mask_nth.bits10 : waitsOk mask_Mask_nth.T10.2 mask_Mask_nth.B10 = true := by kernel_rfl
set_option maxHeartbeats 8000000 in
set_option maxRecDepth 100000 in
theorem mask_Mask_nth.calls (k : Nat) (a0_0 : Int) (A0_1 : Option Addr) (c0_1 : Nat) (l0_1 : List (S107)) (a0_2 : Int) (a1 : Int) (r : Int) (w : World) (hr0_1 : Kd.C k107 w A0_1 l0_1.length l0_1) (hc0_1 : l0_1.length ≤ c0_1) (h : mask_Mask_nth.f k a0_0 l0_1 a0_2 a1 = some r) :
    Calls Try.prog 110 #[.agg #[.int .i64 a0_0, .slice A0_1 l0_1.length c0_1, .int .i64 a0_2], .int .i64 a1] w fun e w' => e = .returned (.int .i64 r) ∧ Below w.heap.size w w' := by
  have hu28 := Try.underlying28
  have HR0_1 := Aside0.mk hr0_1
  have HC0_1 := Aside0.mk hc0_1
  clear hr0_1 hc0_1
  have HB := Aside0.mk (Below.refl w.heap.size w)
  have H : ((mask_Mask_counts.f k a0_0 l0_1 a0_2).bind fun t806 => (mask_Mask_nth.l0 k a1 t806 a0_2 0 a0_0 0 a0_0 l0_1 a0_2)) = some r := h
  clear h
  replace H := Option.bind_eq_some_iff.mp H
  obtain ⟨t806, A30, H⟩ := H
  replace H : (mask_Mask_nth.l0 k a1 t806 a0_2 0 a0_0 0 a0_0 l0_1 a0_2) = some r := H
  have A3 := Aside0.mk A30
  clear A30
  have H' := Aside0.mk H
  clear H
  go_enter Try.func110, Try.ntmps110
  go_wp2_with (first | ((with_reducible refine gate_dst (N := 2) rfl ?_); refine box_event ?hg (N := 2) ?hd (cs := #[.int .i64 a0_0, .slice A0_1 l0_1.length c0_1, .int .i64 a0_2]) (t := 28) ?hr ?_; (case hd => rfl); (case hg => rfl); (case hr => first | (go_simp; done) | (go_simp; rfl)); intro gb805 hg w4 hbox hb; have n0_ := Aside0.mk (below_step (by repeat (first | (with_reducible first | exact HB.out | apply below_alloc | apply pw_below_drewN | apply below_drew1) | exact HB.out)) hb); have n1_ := Aside0.mk (hbox); have n2_ := Aside0.mk ((by rw [hg]; exact (below_size (by repeat (first | (with_reducible first | exact HB.out | apply below_alloc | apply pw_below_drewN | apply below_drew1) | exact HB.out))) : w.heap.size ≤ gb805)); have n3_ := Aside0.mk ((by rw [hg]; exact (below_size (by repeat (first | (with_reducible first | exact HB.out | apply below_alloc | apply pw_below_drewN | apply below_drew1) | exact HB.out))) : w.heap.size ≤ gb805)); clear HB; have HB := n0_; have BK805 := n1_; have GW805 := n2_; have GE805 := n3_; clear n0_ n1_ n2_ n3_; clear hb hbox hg; have hcz5_0 : w4.cell? ⟨gb805, 0, none⟩ = some (.int .i64 a0_0) := (blk_cell BK805.out 0).trans rfl; have hcz5_1 : w4.cell? ⟨gb805, 1, none⟩ = some (.slice A0_1 l0_1.length c0_1) := (blk_cell BK805.out 1).trans rfl; have hcz5_2 : w4.cell? ⟨gb805, 2, none⟩ = some (.int .i64 a0_2) := (blk_cell BK805.out 2).trans rfl; have hfz5_0 := blk_frozen BK805.out 0; have hfz5_1 := blk_frozen BK805.out 1; have hfz5_2 := blk_frozen BK805.out 2) | ((with_reducible refine gate_callee (f := 131) rfl ?_); refine goesL_ (some 13) rfl rfl Try.func131 (by kernel_rfl) rfl #[.agg #[.int .i64 a0_0, .slice A0_1 l0_1.length c0_1, .int .i64 a0_2]] rfl (by (try simp only [List.map_toArray, List.map_cons, List.map_nil]); first | done | rfl | (simp only [List.length_drop, List.length_take]; rfl)) ?_; (with_reducible refine (mask_Mask_counts.calls k a0_0 _ _ l0_1 a0_2 t806 _ ?side1 ?side2 A3.out).mono ?_); (case side1 => repeat (first | exact (Kd.C_below HR0_1.out HB.out) | (with_reducible refine Kd.C_alloc ?_ _) | (with_reducible refine Kd.C_drewN ?_ _) | (with_reducible refine Kd.C_drew ?_))); (case side2 => exact HC0_1.out); rintro e w6 ⟨v807, rfl, ho0, hb⟩; refine ⟨_, rfl, ?_⟩; have n0_ := Aside0.mk (Kd.R_lower ho0 (below_size (by repeat (first | (with_reducible first | exact HB.out | apply below_alloc | apply pw_below_drewN | apply below_drew1 | refine below_set ?_ GE805.out) | exact HB.out)))); have n1_ := Aside0.mk (blk_below (g := gb805) (o := .cells #[.int .i64 a0_0, .slice A0_1 l0_1.length c0_1, .int .i64 a0_2] 28 (0, 0)) (by (with_reducible repeat (first | refine blk_drewN ?_ _ | refine blk_drew ?_ | refine blk_alloc ?_ _)); exact BK805.out) hb); have n2_ := Aside0.mk (below_step (by repeat (first | (with_reducible first | exact HB.out | apply below_alloc | apply pw_below_drewN | apply below_drew1 | refine below_set ?_ GE805.out) | exact HB.out)) hb); clear BK805; clear HB; have HO808 := n0_; have BK805 := n1_; have HB := n2_; clear n0_ n1_ n2_; (try clear hb); (try clear hb2); (try clear hk); (try clear hi); (try clear ho0); have hcz7_0 : w6.cell? ⟨gb805, 0, none⟩ = some (.int .i64 a0_0) := (blk_cell BK805.out 0).trans rfl; have hcz7_1 : w6.cell? ⟨gb805, 1, none⟩ = some (.slice A0_1 l0_1.length c0_1) := (blk_cell BK805.out 1).trans rfl; have hcz7_2 : w6.cell? ⟨gb805, 2, none⟩ = some (.int .i64 a0_2) := (blk_cell BK805.out 2).trans rfl; have hfz7_0 := blk_frozen BK805.out 0; have hfz7_1 := blk_frozen BK805.out 1; have hfz7_2 := blk_frozen BK805.out 2))
  go_loopg [1, 6, 7, 18] k (fun kq v1 v6 v7 v18 w' => ∃ (x1_1 : Int) (x6_1 : Int) (x7_1 : Int) (x18_1 : Int), v1 = .int .i64 x1_1 ∧ v6 = .int .i64 x6_1 ∧ v7 = .int .i64 x7_1 ∧ v18 = .int .i64 x18_1 ∧ Aside0 (mask_Mask_nth.l0 kq x1_1 t806 x6_1 x7_1 a0_0 x18_1 a0_0 l0_1 a0_2 = some r) ∧ Aside0 (kq ≤ k) ∧ Aside0 (Kd.R (Kd.int .i64) 3 w' w.heap.size (fun _ => True) v807 t806) ∧ Aside0 (w'.heap[gb805]? = some (.cells #[.int .i64 a0_0, (.slice A0_1 l0_1.length c0_1), .int .i64 a0_2] 28 (0, 0))) ∧ Aside0 (Below w.heap.size w w'))
  case atStart => exact ⟨(a1), (a0_2), (0), (0), (by first | rfl | (simp; done) | (simp [*]; done)), (by first | rfl | (simp; done) | (simp [*]; done)), (by first | rfl | (simp; done) | (simp [*]; done)), (by first | rfl | (simp; done) | (simp [*]; done)), H', ⟨Nat.le_refl _⟩, ⟨by (with_reducible repeat (first | apply Kd.R_alloc | apply Kd.R_drewN | apply Kd.R_drew)); exact HO808.out⟩, ⟨by (with_reducible repeat (first | refine blk_drewN ?_ _ | refine blk_drew ?_ | refine blk_alloc ?_ _)); exact BK805.out⟩, ⟨by repeat (first | (with_reducible first | exact HB.out | apply below_alloc | apply pw_below_drewN | apply below_drew1 | refine below_set ?_ GE805.out) | exact HB.out)⟩⟩
  case round =>
    clear H'
    try clear c1
    try clear p2
    try clear hcz5_0
    try clear hcz5_1
    try clear hcz5_2
    try clear hcz7_0
    try clear hcz7_1
    try clear hcz7_2
    try clear hfz5_0
    try clear hfz5_1
    try clear hfz5_2
    try clear hfz7_0
    try clear hfz7_1
    try clear hfz7_2
    obtain ⟨x1_1, x6_1, x7_1, x18_1, rfl, rfl, rfl, rfl, HA, HK1, HO_5, BK805, HB⟩ := hrel
    cases gk with
    | zero => exact absurd HA.out (by simp [mask_Mask_nth.l0])
    | succ k1 =>
      have H := HA.out
      clear HA
      simp only [mask_Mask_nth.l0] at H
      by_cases c8 : x18_1 < a0_0
      · rw [if_pos c8] at H
        have c8b0 : decide (x18_1 < a0_0) = true := decide_eq_true c8
        clear c8
        replace H := Option.bind_eq_some_iff.mp H
        obtain ⟨t809, A90, H⟩ := H
        replace H : (if t809 = x18_1 then (if 0 ≤ (wrap64 (x6_1 - 2)) then (if (wrap64 (x6_1 - 2)) < (l0_1.length : Int) then (if 0 ≤ ((rd_T107 l0_1 (wrap64 (x6_1 - 2))).f1) then (if ((rd_T107 l0_1 (wrap64 (x6_1 - 2))).f1) < (t806.length : Int) then ((mask_Mask_asks.f a0_0 l0_1 a0_2 ((rd_T107 l0_1 (wrap64 (x6_1 - 2))).f1)).bind fun t813 => (if 0 ≤ (wrap64 ((wrap64 (t813 - x18_1)) - 1)) then (if x1_1 ≥ (shl .i64 (rd t806 ((rd_T107 l0_1 (wrap64 (x6_1 - 2))).f1)) (wrap64 ((wrap64 (t813 - x18_1)) - 1))) then (mask_Mask_nth.l0 k1 (wrap64 (x1_1 - (shl .i64 (rd t806 ((rd_T107 l0_1 (wrap64 (x6_1 - 2))).f1)) (wrap64 ((wrap64 (t813 - x18_1)) - 1))))) t806 ((rd_T107 l0_1 (wrap64 (x6_1 - 2))).f2) (wrap64 ((wrap64 (x7_1 * 2)) + 1)) a0_0 (wrap64 (x18_1 + 1)) a0_0 l0_1 a0_2) else (mask_Mask_nth.l0 k1 x1_1 t806 ((rd_T107 l0_1 (wrap64 (x6_1 - 2))).f1) (wrap64 (x7_1 * 2)) a0_0 (wrap64 (x18_1 + 1)) a0_0 l0_1 a0_2)) else (none))) else (none)) else (none)) else (none)) else (none)) else (if 0 ≤ x6_1 then (if x6_1 < (t806.length : Int) then ((mask_Mask_asks.f a0_0 l0_1 a0_2 x6_1).bind fun t815 => (if 0 ≤ (wrap64 ((wrap64 (t815 - x18_1)) - 1)) then (if x1_1 ≥ (shl .i64 (rd t806 x6_1) (wrap64 ((wrap64 (t815 - x18_1)) - 1))) then (mask_Mask_nth.l0 k1 (wrap64 (x1_1 - (shl .i64 (rd t806 x6_1) (wrap64 ((wrap64 (t815 - x18_1)) - 1))))) t806 x6_1 (wrap64 ((wrap64 (x7_1 * 2)) + 1)) a0_0 (wrap64 (x18_1 + 1)) a0_0 l0_1 a0_2) else (mask_Mask_nth.l0 k1 x1_1 t806 x6_1 (wrap64 (x7_1 * 2)) a0_0 (wrap64 (x18_1 + 1)) a0_0 l0_1 a0_2)) else (none))) else (none)) else (none))) = some r := H
        have A9 := Aside0.mk A90
        clear A90
        by_cases c10 : t809 = x18_1
        · rw [if_pos c10] at H
          have c10b0 : (t809 == x18_1) = true := beq_iff_eq.mpr c10
          have c10b1 : (t809 != x18_1) = false := bne_eq_false_iff_eq.mpr c10
          clear c10
          obtain ⟨ji11, hji11⟩ : ∃ j_ : Int, (wrap64 (x6_1 - 2)) = j_ := ⟨_, rfl⟩
          replace H : (if 0 ≤ (ji11) then (if (ji11) < (l0_1.length : Int) then (if 0 ≤ ((rd_T107 l0_1 (ji11)).f1) then (if ((rd_T107 l0_1 (ji11)).f1) < (t806.length : Int) then ((mask_Mask_asks.f a0_0 l0_1 a0_2 ((rd_T107 l0_1 (ji11)).f1)).bind fun t813 => (if 0 ≤ (wrap64 ((wrap64 (t813 - x18_1)) - 1)) then (if x1_1 ≥ (shl .i64 (rd t806 ((rd_T107 l0_1 (ji11)).f1)) (wrap64 ((wrap64 (t813 - x18_1)) - 1))) then (mask_Mask_nth.l0 k1 (wrap64 (x1_1 - (shl .i64 (rd t806 ((rd_T107 l0_1 (ji11)).f1)) (wrap64 ((wrap64 (t813 - x18_1)) - 1))))) t806 ((rd_T107 l0_1 (ji11)).f2) (wrap64 ((wrap64 (x7_1 * 2)) + 1)) a0_0 (wrap64 (x18_1 + 1)) a0_0 l0_1 a0_2) else (mask_Mask_nth.l0 k1 x1_1 t806 ((rd_T107 l0_1 (ji11)).f1) (wrap64 (x7_1 * 2)) a0_0 (wrap64 (x18_1 + 1)) a0_0 l0_1 a0_2)) else (none))) else (none)) else (none)) else (none)) else (none)) = some r := by first | (rw [hji11] at H; exact H) | (simp only [hji11] at H ⊢; exact H)
          (try rw [hji11] at A9)
          have hji11w : (IntKind.i64.wrap (x6_1 - 2)) = ji11 := (i64_w _).trans hji11
          by_cases c12 : 0 ≤ (ji11)
          · rw [if_pos c12] at H
            have c12b0 : decide (0 ≤ (ji11)) = true := decide_eq_true c12
            clear c12
            by_cases c13 : (ji11) < (l0_1.length : Int)
            · rw [if_pos c13] at H
              have c13b0 : decide ((ji11) < (l0_1.length : Int)) = true := decide_eq_true c13
              clear c13
              by_cases c14 : 0 ≤ ((rd_T107 l0_1 (ji11)).f1)
              · rw [if_pos c14] at H
                have c14b0 : decide (0 ≤ ((rd_T107 l0_1 (ji11)).f1)) = true := decide_eq_true c14
                clear c14
                by_cases c15 : ((rd_T107 l0_1 (ji11)).f1) < (t806.length : Int)
                · rw [if_pos c15] at H
                  have c15b0 : decide (((rd_T107 l0_1 (ji11)).f1) < (t806.length : Int)) = true := decide_eq_true c15
                  clear c15
                  replace H := Option.bind_eq_some_iff.mp H
                  obtain ⟨t813, A160, H⟩ := H
                  replace H : (if 0 ≤ (wrap64 ((wrap64 (t813 - x18_1)) - 1)) then (if x1_1 ≥ (shl .i64 (rd t806 ((rd_T107 l0_1 (ji11)).f1)) (wrap64 ((wrap64 (t813 - x18_1)) - 1))) then (mask_Mask_nth.l0 k1 (wrap64 (x1_1 - (shl .i64 (rd t806 ((rd_T107 l0_1 (ji11)).f1)) (wrap64 ((wrap64 (t813 - x18_1)) - 1))))) t806 ((rd_T107 l0_1 (ji11)).f2) (wrap64 ((wrap64 (x7_1 * 2)) + 1)) a0_0 (wrap64 (x18_1 + 1)) a0_0 l0_1 a0_2) else (mask_Mask_nth.l0 k1 x1_1 t806 ((rd_T107 l0_1 (ji11)).f1) (wrap64 (x7_1 * 2)) a0_0 (wrap64 (x18_1 + 1)) a0_0 l0_1 a0_2)) else (none)) = some r := H
                  have A16 := Aside0.mk A160
                  clear A160
                  obtain ⟨ji17, hji17⟩ : ∃ j_ : Int, (wrap64 ((wrap64 (t813 - x18_1)) - 1)) = j_ := ⟨_, rfl⟩
                  replace H : (if 0 ≤ (ji17) then (if x1_1 ≥ (shl .i64 (rd t806 ((rd_T107 l0_1 (ji11)).f1)) (ji17)) then (mask_Mask_nth.l0 k1 (wrap64 (x1_1 - (shl .i64 (rd t806 ((rd_T107 l0_1 (ji11)).f1)) (ji17)))) t806 ((rd_T107 l0_1 (ji11)).f2) (wrap64 ((wrap64 (x7_1 * 2)) + 1)) a0_0 (wrap64 (x18_1 + 1)) a0_0 l0_1 a0_2) else (mask_Mask_nth.l0 k1 x1_1 t806 ((rd_T107 l0_1 (ji11)).f1) (wrap64 (x7_1 * 2)) a0_0 (wrap64 (x18_1 + 1)) a0_0 l0_1 a0_2)) else (none)) = some r := by first | (rw [hji17] at H; exact H) | (simp only [hji17] at H ⊢; exact H)
                  (try rw [hji17] at A9)
                  (try rw [hji17] at A16)
                  have hji17w : (IntKind.i64.wrap ((wrap64 (t813 - x18_1)) - 1)) = ji17 := (i64_w _).trans hji17
                  by_cases c18 : 0 ≤ (ji17)
                  · rw [if_pos c18] at H
                    have c18b0 := eq_true c18
                    have c18b1 : decide (0 ≤ (ji17)) = true := decide_eq_true c18
                    clear c18
                    obtain ⟨ji19, hji19⟩ : ∃ j_ : Int, (shl .i64 (rd t806 ((rd_T107 l0_1 (ji11)).f1)) (ji17)) = j_ := ⟨_, rfl⟩
                    replace H : (if x1_1 ≥ (ji19) then (mask_Mask_nth.l0 k1 (wrap64 (x1_1 - (ji19))) t806 ((rd_T107 l0_1 (ji11)).f2) (wrap64 ((wrap64 (x7_1 * 2)) + 1)) a0_0 (wrap64 (x18_1 + 1)) a0_0 l0_1 a0_2) else (mask_Mask_nth.l0 k1 x1_1 t806 ((rd_T107 l0_1 (ji11)).f1) (wrap64 (x7_1 * 2)) a0_0 (wrap64 (x18_1 + 1)) a0_0 l0_1 a0_2)) = some r := by first | (rw [hji19] at H; exact H) | (simp only [hji19] at H ⊢; exact H)
                    (try rw [hji19] at A9)
                    (try rw [hji19] at A16)
                    have hji19_ : (IntKind.i64.wrap ((rd t806 ((rd_T107 l0_1 (ji11)).f1)) * 2 ^ min (ji17).toNat 64)) = ji19 := hji19
                    have hji19z : (ji17) ≤ 64 → (IntKind.i64.wrap ((rd t806 ((rd_T107 l0_1 (ji11)).f1)) * 2 ^ (ji17).toNat)) = ji19 := shl_small hji19
                    have hji19y : (wrap64 ((rd t806 ((rd_T107 l0_1 (ji11)).f1)) * 2 ^ min (ji17).toNat 64)) = ji19 := (i64_w _).symm.trans hji19_
                    have hji19x : (ji17) ≤ 64 → (wrap64 ((rd t806 ((rd_T107 l0_1 (ji11)).f1)) * 2 ^ (ji17).toNat)) = ji19 := fun h_ => (i64_w _).symm.trans (hji19z h_)
                    by_cases c20 : x1_1 ≥ (ji19)
                    · rw [if_pos c20] at H
                      have c20b0 : decide ((ji19) ≤ x1_1) = true := decide_eq_true c20
                      clear c20
                      have H' := Aside0.mk H
                      clear H
                      have hcz21_0 : wr.cell? ⟨gb805, 0, none⟩ = some (.int .i64 a0_0) := (blk_cell BK805.out 0).trans rfl
                      have hcz21_1 : wr.cell? ⟨gb805, 1, none⟩ = some (.slice A0_1 l0_1.length c0_1) := (blk_cell BK805.out 1).trans rfl
                      have hcz21_2 : wr.cell? ⟨gb805, 2, none⟩ = some (.int .i64 a0_2) := (blk_cell BK805.out 2).trans rfl
                      have hfz21_0 := blk_frozen BK805.out 0
                      have hfz21_1 := blk_frozen BK805.out 1
                      have hfz21_2 := blk_frozen BK805.out 2
                      try go_wp2_with (first | ((with_reducible refine gate_callee (f := 132) rfl ?_); refine goesL_ (some 25) rfl rfl Try.func132 (by kernel_rfl) rfl #[.agg #[.int .i64 a0_0, .slice A0_1 l0_1.length c0_1, .int .i64 a0_2], .int .i64 x6_1] rfl (by (try simp only [List.map_toArray, List.map_cons, List.map_nil]); first | done | rfl | (simp only [List.length_drop, List.length_take]; rfl)) ?_; (with_reducible refine (mask_Mask_asks.calls a0_0 _ _ l0_1 a0_2 x6_1 t809 _ ?side1 ?side2 A9.out).mono ?_); (case side1 => repeat (first | exact (Kd.C_below HR0_1.out HB.out) | (with_reducible refine Kd.C_alloc ?_ _) | (with_reducible refine Kd.C_drewN ?_ _) | (with_reducible refine Kd.C_drew ?_))); (case side2 => exact HC0_1.out); rintro e w22 ⟨rfl, hb⟩; refine ⟨_, rfl, ?_⟩; have n0_ := Aside0.mk (Kd.R_below (by (with_reducible repeat (first | apply Kd.R_alloc | apply Kd.R_drewN | apply Kd.R_drew)); exact HO_5.out) hb); have n1_ := Aside0.mk (blk_below (g := gb805) (o := .cells #[.int .i64 a0_0, .slice A0_1 l0_1.length c0_1, .int .i64 a0_2] 28 (0, 0)) (by (with_reducible repeat (first | refine blk_drewN ?_ _ | refine blk_drew ?_ | refine blk_alloc ?_ _)); exact BK805.out) hb); have n2_ := Aside0.mk (below_step (by repeat (first | (with_reducible first | exact HB.out | apply below_alloc | apply pw_below_drewN | apply below_drew1 | refine below_set ?_ GE805.out) | exact HB.out)) hb); clear HO_5; clear BK805; clear HB; have HO_5 := n0_; have BK805 := n1_; have HB := n2_; clear n0_ n1_ n2_; (try clear hb); (try clear hb2); (try clear hk); (try clear hi)))
                      have n0_ := Aside0.mk (Kd.R_drew HO_5.out)
                      have n1_ := Aside0.mk (blk_drew BK805.out)
                      have n2_ := Aside0.mk (below_drew1 HB.out)
                      clear HO_5
                      clear BK805
                      clear HB
                      have HO_5 := n0_
                      have BK805 := n1_
                      have HB := n2_
                      clear n0_ n1_ n2_
                      have p810 : 0 ≤ ((ji11) : Int) := of_decide_eq_true (by first | (with_reducible assumption) | assumption)
                      have q810 : (ji11) < (l0_1.length : Int) := of_decide_eq_true (by first | (with_reducible assumption) | assumption)
                      obtain ⟨ad810, e810, hx810_0, hx810_1, hx810_2⟩ := at_T107 HR0_1.out (ji11) p810 q810
                      have hw810_2 := hx810_2
                      have hw810_1 := hx810_1
                      have hw810_0 := hx810_0
                      cases e810
                      replace hx810_0 := (HB.out.cell (World.block_lt_of_cell? w _ hx810_0)).trans hx810_0
                      replace hx810_1 := (HB.out.cell (World.block_lt_of_cell? w _ hx810_1)).trans hx810_1
                      replace hx810_2 := (HB.out.cell (World.block_lt_of_cell? w _ hx810_2)).trans hx810_2
                      replace p810 := eq_true p810
                      replace q810 := eq_true q810
                      have p811 : 0 ≤ ((ji11) : Int) := of_decide_eq_true (by first | (with_reducible assumption) | assumption)
                      have q811 : (ji11) < (l0_1.length : Int) := of_decide_eq_true (by first | (with_reducible assumption) | assumption)
                      obtain ⟨ad811, e811, hx811_0, hx811_1, hx811_2⟩ := at_T107 HR0_1.out (ji11) p811 q811
                      have hw811_2 := hx811_2
                      have hw811_1 := hx811_1
                      have hw811_0 := hx811_0
                      obtain rfl : ad810 = ad811 := (by injection e811)
                      replace hx811_0 := (HB.out.cell (World.block_lt_of_cell? w _ hx811_0)).trans hx811_0
                      replace hx811_1 := (HB.out.cell (World.block_lt_of_cell? w _ hx811_1)).trans hx811_1
                      replace hx811_2 := (HB.out.cell (World.block_lt_of_cell? w _ hx811_2)).trans hx811_2
                      replace p811 := eq_true p811
                      replace q811 := eq_true q811
                      refine start_ (n := 16) (S := fun w' => w'.cell? ⟨gb805, 0, none⟩ = some (.int .i64 a0_0) ∧ w'.cell? ⟨gb805, 1, none⟩ = some (.slice (some ad810) l0_1.length c0_1) ∧ w'.cell? ⟨gb805, 2, none⟩ = some (.int .i64 a0_2) ∧ w'.cell? (ad810.add (((ji11)).toNat * 3)) = some (.int .i64 ((rd_T107 l0_1 (ji11)).f0)) ∧ w'.cell? ⟨(ad810.add (((ji11)).toNat * 3)).block, (ad810.add (((ji11)).toNat * 3)).off + 1, none⟩ = some (.int .i64 ((rd_T107 l0_1 (ji11)).f1)) ∧ w'.cell? ⟨(ad810.add (((ji11)).toNat * 3)).block, (ad810.add (((ji11)).toNat * 3)).off + 2, none⟩ = some (.int .i64 ((rd_T107 l0_1 (ji11)).f2)) ∧ w'.cell? (ad810.add (((ji11)).toNat * 3)) = some (.int .i64 ((rd_T107 l0_1 (ji11)).f0)) ∧ w'.cell? ⟨(ad810.add (((ji11)).toNat * 3)).block, (ad810.add (((ji11)).toNat * 3)).off + 1, none⟩ = some (.int .i64 ((rd_T107 l0_1 (ji11)).f1)) ∧ w'.cell? ⟨(ad810.add (((ji11)).toNat * 3)).block, (ad810.add (((ji11)).toNat * 3)).off + 2, none⟩ = some (.int .i64 ((rd_T107 l0_1 (ji11)).f2))) (ds := []) #[false, false, false, false, false, false, false, false, false, false, false, false, false, false, false, false] (by kernel_rfl) rfl rfl ⟨(blk_cell BK805.out 0).trans rfl, (blk_cell BK805.out 1).trans rfl, (blk_cell BK805.out 2).trans rfl, ((HB.out.cell (World.block_lt_of_cell? w _ hw810_0)).trans hw810_0), ((HB.out.cell (World.block_lt_of_cell? w _ hw810_1)).trans hw810_1), ((HB.out.cell (World.block_lt_of_cell? w _ hw810_2)).trans hw810_2), ((HB.out.cell (World.block_lt_of_cell? w _ hw811_0)).trans hw811_0), ((HB.out.cell (World.block_lt_of_cell? w _ hw811_1)).trans hw811_1), ((HB.out.cell (World.block_lt_of_cell? w _ hw811_2)).trans hw811_2)⟩ (fun hHeld => ?_); refine with_tabW mask_Mask_nth.tab8 mask_Mask_nth.bits8 (fun HT_ HW_ => ?_)
                      generalize w22.drew = w23 at HO_5 BK805 HB hx810_0 hx810_1 hx810_2 hx811_0 hx811_1 hx811_2 hHeld ⊢
                      refine pure_ (i := 0) (N := some 28) (v := ?_) (a' := ?_) #[true, false, false, false, false, false, false, false, false, false, false, false, false, false, false, false] rfl rfl (any_of HT_.out (by kernel_rfl)) (fun _ _ _ h => h) (Or.inl ⟨by rfl, ?_⟩) ?_ ?_
                      rotate_left
                      · intro w'
                        go_simp
                        with_reducible rfl
                      rotate_left
                      · simp only [Act.put, List.setIfInBounds_toArray, List.set_cons_zero, List.set_cons_succ, i64_w, i32_w]
                        rfl
                      refine pure_ (i := 2) (N := some 30) (v := ?_) (a' := ?_) #[true, false, true, false, false, false, false, false, false, false, false, false, false, false, false, false] rfl rfl (any_of HT_.out (by kernel_rfl)) (fun _ _ _ h => h) (Or.inl ⟨by rfl, ?_⟩) ?_ ?_
                      rotate_left
                      · intro w'
                        go_simp
                        with_reducible rfl
                      rotate_left
                      · simp only [Act.put, List.setIfInBounds_toArray, List.set_cons_zero, List.set_cons_succ, i64_w, i32_w]
                        rfl
                      refine pure_ (i := 3) (N := some 31) (v := ?_) (a' := ?_) #[true, false, true, true, false, false, false, false, false, false, false, false, false, false, false, false] rfl rfl (any_of HT_.out (by kernel_rfl)) (fun _ _ _ h => h) (Or.inl ⟨by rfl, ?_⟩) ?_ ?_
                      rotate_left
                      · intro w'
                        go_simp
                        with_reducible rfl
                      rotate_left
                      · simp only [Act.put, List.setIfInBounds_toArray, List.set_cons_zero, List.set_cons_succ, i64_w, i32_w]
                        rfl
                      refine pure_ (i := 7) (N := some 35) (v := ?_) (a' := ?_) #[true, false, true, true, false, false, false, true, false, false, false, false, false, false, false, false] rfl rfl (any_of HT_.out (by kernel_rfl)) (fun _ _ _ h => h) (Or.inl ⟨by rfl, ?_⟩) ?_ ?_
                      rotate_left
                      · intro w'
                        go_simp
                        with_reducible rfl
                      rotate_left
                      · simp only [Act.put, List.setIfInBounds_toArray, List.set_cons_zero, List.set_cons_succ, i64_w, i32_w]
                        rfl
                      refine pure_ (i := 9) (N := some 37) (v := ?_) (a' := ?_) #[true, false, true, true, false, false, false, true, false, true, false, false, false, false, false, false] rfl rfl (any_of HT_.out (by kernel_rfl)) (fun _ _ _ h => h) (Or.inl ⟨by rfl, ?_⟩) ?_ ?_
                      rotate_left
                      · intro w'
                        go_simp
                        with_reducible rfl
                      rotate_left
                      · simp only [Act.put, List.setIfInBounds_toArray, List.set_cons_zero, List.set_cons_succ, i64_w, i32_w]
                        rfl
                      refine pure_ (i := 10) (N := some 38) (v := ?_) (a' := ?_) #[true, false, true, true, false, false, false, true, false, true, true, false, false, false, false, false] rfl rfl (any_of HT_.out (by kernel_rfl)) (fun _ _ _ h => h) (Or.inl ⟨by rfl, ?_⟩) ?_ ?_
                      rotate_left
                      · intro w'
                        go_simp
                        with_reducible rfl
                      rotate_left
                      · simp only [Act.put, List.setIfInBounds_toArray, List.set_cons_zero, List.set_cons_succ, i64_w, i32_w]
                        rfl
                      refine take_ (i := 1) (N := some 29) (v := ?_) (a' := ?_) #[true, true, true, true, false, false, false, true, false, true, true, false, false, false, false, false] rfl rfl (take_ofW HT_.out HW_.out (by kernel_rfl)) (fun _ _ _ h => h) (Or.inl ⟨by rfl, ?_⟩) hHeld ?_ ?_
                      rotate_left
                      · rintro w' ⟨s0, s1, s2, s3, s4, s5, s6, s7, s8⟩
                        go_simp
                        with_reducible rfl
                      rotate_left
                      · simp only [Act.put, List.setIfInBounds_toArray, List.set_cons_zero, List.set_cons_succ, i64_w, i32_w]
                        rfl
                      refine pure_ (i := 4) (N := some 32) (v := ?_) (a' := ?_) #[true, true, true, true, true, false, false, true, false, true, true, false, false, false, false, false] rfl rfl (any_of HT_.out (by kernel_rfl)) (fun _ _ _ h => h) (Or.inl ⟨by rfl, ?_⟩) ?_ ?_
                      rotate_left
                      · intro w'
                        go_simp
                        with_reducible rfl
                      rotate_left
                      · simp only [Act.put, List.setIfInBounds_toArray, List.set_cons_zero, List.set_cons_succ, i64_w, i32_w]
                        rfl
                      refine pure_ (i := 5) (N := some 33) (v := ?_) (a' := ?_) #[true, true, true, true, true, true, false, true, false, true, true, false, false, false, false, false] rfl rfl (any_of HT_.out (by kernel_rfl)) (fun _ _ _ h => h) (Or.inl ⟨by rfl, ?_⟩) ?_ ?_
                      rotate_left
                      · intro w'
                        go_simp
                        with_reducible rfl
                      rotate_left
                      · simp only [Act.put, List.setIfInBounds_toArray, List.set_cons_zero, List.set_cons_succ, i64_w, i32_w]
                        rfl
                      refine take_ (i := 6) (N := some 34) (v := ?_) (a' := ?_) #[true, true, true, true, true, true, true, true, false, true, true, false, false, false, false, false] rfl rfl (take_ofW HT_.out HW_.out (by kernel_rfl)) (fun _ _ _ h => h) (Or.inl ⟨by rfl, ?_⟩) hHeld ?_ ?_
                      rotate_left
                      · rintro w' ⟨s0, s1, s2, s3, s4, s5, s6, s7, s8⟩
                        go_simp
                        with_reducible rfl
                      rotate_left
                      · simp only [Act.put, List.setIfInBounds_toArray, List.set_cons_zero, List.set_cons_succ, i64_w, i32_w]
                        rfl
                      refine pure_ (i := 14) (N := some 9) (v := ?_) (a' := ?_) #[true, true, true, true, true, true, true, true, false, true, true, false, false, false, true, false] rfl rfl (any_of HT_.out (by kernel_rfl)) (fun _ _ _ h => h) (Or.inl ⟨by rfl, ?_⟩) ?_ ?_
                      rotate_left
                      · intro w'
                        go_simp
                        with_reducible rfl
                      rotate_left
                      · simp only [Act.put, List.setIfInBounds_toArray, List.set_cons_zero, List.set_cons_succ, i64_w, i32_w]
                        rfl
                      refine take_ (i := 8) (N := some 36) (v := ?_) (a' := ?_) #[true, true, true, true, true, true, true, true, true, true, true, false, false, false, true, false] rfl rfl (take_ofW HT_.out HW_.out (by kernel_rfl)) (fun _ _ _ h => h) (Or.inl ⟨by rfl, ?_⟩) hHeld ?_ ?_
                      rotate_left
                      · rintro w' ⟨s0, s1, s2, s3, s4, s5, s6, s7, s8⟩
                        go_simp
                        with_reducible rfl
                      rotate_left
                      · simp only [Act.put, List.setIfInBounds_toArray, List.set_cons_zero, List.set_cons_succ, i64_w, i32_w]
                        rfl
                      refine pure_ (i := 11) (N := some 39) (v := ?_) (a' := ?_) #[true, true, true, true, true, true, true, true, true, true, true, true, false, false, true, false] rfl rfl (any_of HT_.out (by kernel_rfl)) (fun _ _ _ h => h) (Or.inl ⟨by rfl, ?_⟩) ?_ ?_
                      rotate_left
                      · intro w'
                        go_simp
                        with_reducible rfl
                      rotate_left
                      · simp only [Act.put, List.setIfInBounds_toArray, List.set_cons_zero, List.set_cons_succ, i64_w, i32_w]
                        rfl
                      refine pure_ (i := 12) (N := some 40) (v := ?_) (a' := ?_) #[true, true, true, true, true, true, true, true, true, true, true, true, true, false, true, false] rfl rfl (any_of HT_.out (by kernel_rfl)) (fun _ _ _ h => h) (Or.inl ⟨by rfl, ?_⟩) ?_ ?_
                      rotate_left
                      · intro w'
                        go_simp
                        with_reducible rfl
                      rotate_left
                      · simp only [Act.put, List.setIfInBounds_toArray, List.set_cons_zero, List.set_cons_succ, i64_w, i32_w]
                        rfl
                      refine take_ (i := 13) (N := some 41) (v := ?_) (a' := ?_) #[true, true, true, true, true, true, true, true, true, true, true, true, true, true, true, false] rfl rfl (take_ofW HT_.out HW_.out (by kernel_rfl)) (fun _ _ _ h => h) (Or.inl ⟨by rfl, ?_⟩) hHeld ?_ ?_
                      rotate_left
                      · rintro w' ⟨s0, s1, s2, s3, s4, s5, s6, s7, s8⟩
                        go_simp
                        with_reducible rfl
                      rotate_left
                      · simp only [Act.put, List.setIfInBounds_toArray, List.set_cons_zero, List.set_cons_succ, i64_w, i32_w]
                        rfl
                      refine pure_ (i := 15) (N := some 10) (v := ?_) (a' := ?_) #[true, true, true, true, true, true, true, true, true, true, true, true, true, true, true, true] rfl rfl (any_of HT_.out (by kernel_rfl)) (fun _ _ _ h => h) (Or.inl ⟨by rfl, ?_⟩) ?_ ?_
                      rotate_left
                      · intro w'
                        go_simp
                        with_reducible rfl
                      rotate_left
                      · simp only [Act.put, List.setIfInBounds_toArray, List.set_cons_zero, List.set_cons_succ, i64_w, i32_w]
                        rfl
                      refine done_ (done_of HT_.out (by kernel_rfl)) ?_
                      try go_wp2
                      have n0_ := Aside0.mk (Kd.R_drew HO_5.out)
                      have n1_ := Aside0.mk (blk_drew BK805.out)
                      have n2_ := Aside0.mk (below_drew1 HB.out)
                      clear HO_5
                      clear BK805
                      clear HB
                      have HO_5 := n0_
                      have BK805 := n1_
                      have HB := n2_
                      clear n0_ n1_ n2_
                      obtain ⟨Ao25, co25, eo25⟩ := Kd.R_slice HO_5.out
                      (first | subst eo25 | (injection eo25 with f1_ f2_ f3_; have f4_ := f1_.symm; have f5_ := f3_.symm; clear f1_ f2_ f3_; subst f4_; subst f5_))
                      have p812 : 0 ≤ (((rd_T107 l0_1 (ji11)).f1) : Int) := of_decide_eq_true (by first | (with_reducible assumption) | assumption)
                      have q812 : ((rd_T107 l0_1 (ji11)).f1) < (t806.length : Int) := of_decide_eq_true (by first | (with_reducible assumption) | assumption)
                      obtain ⟨ad812, e812, hx812_0⟩ := Kd.at_int (Kd.R_reads' HO_5.out).2.2 ((rd_T107 l0_1 (ji11)).f1) p812 q812
                      cases e812
                      replace p812 := eq_true p812
                      replace q812 := eq_true q812
                      refine start_ (n := 12) (S := fun w' => w'.cell? ⟨gb805, 0, none⟩ = some (.int .i64 a0_0) ∧ w'.cell? ⟨gb805, 1, none⟩ = some (.slice (some ad810) l0_1.length c0_1) ∧ w'.cell? ⟨gb805, 2, none⟩ = some (.int .i64 a0_2) ∧ w'.cell? (ad812.add (((rd_T107 l0_1 (ji11)).f1)).toNat) = some (.int .i64 (rd t806 ((rd_T107 l0_1 (ji11)).f1)))) (ds := []) #[false, false, false, false, false, false, false, false, false, false, false, false] (by kernel_rfl) rfl rfl ⟨(blk_cell BK805.out 0).trans rfl, (blk_cell BK805.out 1).trans rfl, (blk_cell BK805.out 2).trans rfl, hx812_0⟩ (fun hHeld => ?_); refine with_tabW mask_Mask_nth.tab10 mask_Mask_nth.bits10 (fun HT_ HW_ => ?_)
                      generalize w23.drew = w24 at HO_5 BK805 HB hx812_0 hHeld ⊢
                      refine pure_ (i := 0) (N := some 44) (v := ?_) (a' := ?_) #[true, false, false, false, false, false, false, false, false, false, false, false] rfl rfl (any_of HT_.out (by kernel_rfl)) (fun _ _ _ h => h) (Or.inl ⟨by rfl, ?_⟩) ?_ ?_
                      rotate_left
                      · intro w'
                        go_simp
                        with_reducible rfl
                      rotate_left
                      · simp only [Act.put, List.setIfInBounds_toArray, List.set_cons_zero, List.set_cons_succ, i64_w, i32_w]
                        rfl
                      refine pure_ (i := 1) (N := some 45) (v := ?_) (a' := ?_) #[true, true, false, false, false, false, false, false, false, false, false, false] rfl rfl (any_of HT_.out (by kernel_rfl)) (fun _ _ _ h => h) (Or.inl ⟨by rfl, ?_⟩) ?_ ?_
                      rotate_left
                      · intro w'
                        go_simp
                        with_reducible rfl
                      rotate_left
                      · simp only [Act.put, List.setIfInBounds_toArray, List.set_cons_zero, List.set_cons_succ, i64_w, i32_w]
                        rfl
                      refine pure_ (i := 2) (N := some 46) (v := ?_) (a' := ?_) #[true, true, true, false, false, false, false, false, false, false, false, false] rfl rfl (any_of HT_.out (by kernel_rfl)) (fun _ _ _ h => h) (Or.inl ⟨by rfl, ?_⟩) ?_ ?_
                      rotate_left
                      · intro w'
                        go_simp
                        with_reducible rfl
                      rotate_left
                      · simp only [Act.put, List.setIfInBounds_toArray, List.set_cons_zero, List.set_cons_succ, i64_w, i32_w]
                        rfl
                      refine pure_ (i := 5) (N := some 49) (v := ?_) (a' := ?_) #[true, true, true, false, false, true, false, false, false, false, false, false] rfl rfl (any_of HT_.out (by kernel_rfl)) (fun _ _ _ h => h) (Or.inl ⟨by rfl, ?_⟩) ?_ ?_
                      rotate_left
                      · intro w'
                        go_simp
                        with_reducible rfl
                      rotate_left
                      · simp only [Act.put, List.setIfInBounds_toArray, List.set_cons_zero, List.set_cons_succ, i64_w, i32_w]
                        rfl
                      refine pure_ (i := 7) (N := some 51) (v := ?_) (a' := ?_) #[true, true, true, false, false, true, false, true, false, false, false, false] rfl rfl (any_of HT_.out (by kernel_rfl)) (fun _ _ _ h => h) (Or.inl ⟨by rfl, ?_⟩) ?_ ?_
                      rotate_left
                      · intro w'
                        go_simp
                        with_reducible rfl
                      rotate_left
                      · simp only [Act.put, List.setIfInBounds_toArray, List.set_cons_zero, List.set_cons_succ, i64_w, i32_w]
                        rfl
                      refine take_ (i := 3) (N := some 47) (v := ?_) (a' := ?_) #[true, true, true, true, false, true, false, true, false, false, false, false] rfl rfl (take_ofW HT_.out HW_.out (by kernel_rfl)) (fun _ _ _ h => h) (Or.inl ⟨by rfl, ?_⟩) hHeld ?_ ?_
                      rotate_left
                      · rintro w' ⟨s0, s1, s2, s3⟩
                        go_simp
                        with_reducible rfl
                      rotate_left
                      · simp only [Act.put, List.setIfInBounds_toArray, List.set_cons_zero, List.set_cons_succ, i64_w, i32_w]
                        rfl
                      refine take_ (i := 4) (N := some 48) (v := ?_) (a' := ?_) #[true, true, true, true, true, true, false, true, false, false, false, false] rfl rfl (take_ofW HT_.out HW_.out (by kernel_rfl)) (fun _ _ _ h => h) (Or.inl ⟨by rfl, ?_⟩) hHeld ?_ ?_
                      rotate_left
                      · rintro w' ⟨s0, s1, s2, s3⟩
                        go_simp
                        with_reducible rfl
                      rotate_left
                      · simp only [Act.put, List.setIfInBounds_toArray, List.set_cons_zero, List.set_cons_succ, i64_w, i32_w]
                        rfl
                      refine one_ (i := 6) (N := some 50) #[true, true, true, true, true, true, true, true, false, false, false, false] rfl rfl (one_of HT_.out (by kernel_rfl)) (by decide) (fun K hK => ?_)
                      refine goes_ Try.func132 (by kernel_rfl) rfl #[.agg #[.int .i64 a0_0, .slice (some ad810) l0_1.length c0_1, .int .i64 a0_2], .int .i64 ((rd_T107 l0_1 (ji11)).f1)] (by rfl) rfl rfl (by (try simp only [List.map_toArray, List.map_cons, List.map_nil]); first | done | (simp only [hji11]; rfl) | rfl | (simp only [List.length_drop, List.length_take]; rfl)) ?_
                      with_reducible refine (mask_Mask_asks.calls a0_0 _ _ l0_1 a0_2 ((rd_T107 l0_1 (ji11)).f1) t813 _ ?side1 ?side2 A16.out).mono ?_
                      (case side1 => repeat (first | exact (Kd.C_below HR0_1.out HB.out) | (with_reducible refine Kd.C_alloc ?_ _) | (with_reducible refine Kd.C_drewN ?_ _) | (with_reducible refine Kd.C_drew ?_)))
                      (case side2 => exact HC0_1.out)
                      rintro e w26 ⟨rfl, hb⟩
                      have HS3_ := (hb.cell (World.block_lt_of_cell? _ _ (hHeld.2.2.2))).trans (hHeld.2.2.2)
                      refine ⟨_, rfl, ?_⟩
                      have n0_ := Aside0.mk (Kd.R_below (by (with_reducible repeat (first | apply Kd.R_alloc | apply Kd.R_drewN | apply Kd.R_drew)); exact HO_5.out) hb)
                      have n1_ := Aside0.mk (blk_below (g := gb805) (o := .cells #[.int .i64 a0_0, .slice (some ad810) l0_1.length c0_1, .int .i64 a0_2] 28 (0, 0)) (by (with_reducible repeat (first | refine blk_drewN ?_ _ | refine blk_drew ?_ | refine blk_alloc ?_ _)); exact BK805.out) hb)
                      have n2_ := Aside0.mk (below_step (by repeat (first | (with_reducible first | exact HB.out | apply below_alloc | apply pw_below_drewN | apply below_drew1 | refine below_set ?_ GE805.out) | exact HB.out)) hb)
                      clear HO_5
                      clear BK805
                      clear HB
                      have HO_5 := n0_
                      have BK805 := n1_
                      have HB := n2_
                      clear n0_ n1_ n2_
                      (try clear hb)
                      (try clear hb2)
                      (try clear hk)
                      (try clear hi)
                      refine hK.out _ _ ⟨(blk_cell BK805.out 0).trans rfl, (blk_cell BK805.out 1).trans rfl, (blk_cell BK805.out 2).trans rfl, HS3_⟩ (fun hHeld => ?_)
                      clear hK K
                      refine norm_ (a' := ?_) ?_ ?_
                      rotate_left
                      · show Act.put _ (some 50) _ = _
                        simp only [Act.put, List.setIfInBounds_toArray, List.set_cons_zero, List.set_cons_succ, i64_w, i32_w]
                        rfl
                      refine pure_ (i := 8) (N := some 52) (v := ?_) (a' := ?_) #[true, true, true, true, true, true, true, true, true, false, false, false] rfl rfl (any_of HT_.out (by kernel_rfl)) (fun _ _ _ h => h) (Or.inl ⟨by rfl, ?_⟩) ?_ ?_
                      rotate_left
                      · intro w'
                        go_simp
                        with_reducible rfl
                      rotate_left
                      · simp only [Act.put, List.setIfInBounds_toArray, List.set_cons_zero, List.set_cons_succ, i64_w, i32_w]
                        rfl
                      refine pure_ (i := 9) (N := some 53) (v := ?_) (a' := ?_) #[true, true, true, true, true, true, true, true, true, true, false, false] rfl rfl (any_of HT_.out (by kernel_rfl)) (fun _ _ _ h => h) (Or.inl ⟨by rfl, ?_⟩) ?_ ?_
                      rotate_left
                      · intro w'
                        go_simp
                        with_reducible rfl
                      rotate_left
                      · simp only [Act.put, List.setIfInBounds_toArray, List.set_cons_zero, List.set_cons_succ, i64_w, i32_w]
                        rfl
                      refine pure_ (i := 10) (N := some 54) (v := ?_) (a' := ?_) #[true, true, true, true, true, true, true, true, true, true, true, false] rfl rfl (any_of HT_.out (by kernel_rfl)) (fun _ _ _ h => h) (Or.inl ⟨by rfl, ?_⟩) ?_ ?_
                      rotate_left
                      · intro w'
                        go_simp
                        with_reducible rfl
                      rotate_left
                      · simp only [Act.put, List.setIfInBounds_toArray, List.set_cons_zero, List.set_cons_succ, i64_w, i32_w]
                        rfl
                      refine pure_ (i := 11) (N := some 11) (v := ?_) (a' := ?_) #[true, true, true, true, true, true, true, true, true, true, true, true] rfl rfl (any_of HT_.out (by kernel_rfl)) (fun _ _ _ h => h) (Or.inl ⟨by rfl, ?_⟩) ?_ ?_
                      rotate_left
                      · intro w'
                        go_simp
                        with_reducible rfl
                      rotate_left
                      · simp only [Act.put, List.setIfInBounds_toArray, List.set_cons_zero, List.set_cons_succ, i64_w, i32_w]
                        rfl
                      refine done_ (done_of HT_.out (by kernel_rfl)) ?_
                      try go_wp2
                      go_roundg k1
                      case measure => have := HK1.out; omega
                      case rel => exact ⟨(wrap64 (x1_1 - (ji19))), ((rd_T107 l0_1 (ji11)).f2), (wrap64 ((wrap64 (x7_1 * 2)) + 1)), (wrap64 (x18_1 + 1)), (by first | rfl | (simp; done) | (simp only [← hji19] <;> (first | rfl | simp)) | (simp [*]; done)), (by first | rfl | (simp; done) | (simp only [← hji11] <;> (first | rfl | simp)) | (simp [*]; done)), (by first | rfl | (simp; done) | (simp [*]; done)), (by first | rfl | (simp; done) | (simp [*]; done)), H', ⟨by have := HK1.out; omega⟩, ⟨by (with_reducible repeat (first | apply Kd.R_alloc | apply Kd.R_drewN | apply Kd.R_drew)); exact HO_5.out⟩, ⟨by (with_reducible repeat (first | refine blk_drewN ?_ _ | refine blk_drew ?_ | refine blk_alloc ?_ _)); exact BK805.out⟩, ⟨by repeat (first | (with_reducible first | exact HB.out | apply below_alloc | apply pw_below_drewN | apply below_drew1 | refine below_set ?_ GE805.out) | exact HB.out)⟩⟩
                    · rw [if_neg c20] at H
                      have c20b0 : decide ((ji19) ≤ x1_1) = false := decide_eq_false c20
                      clear c20
                      have H' := Aside0.mk H
                      clear H
                      have hcz27_0 : wr.cell? ⟨gb805, 0, none⟩ = some (.int .i64 a0_0) := (blk_cell BK805.out 0).trans rfl
                      have hcz27_1 : wr.cell? ⟨gb805, 1, none⟩ = some (.slice A0_1 l0_1.length c0_1) := (blk_cell BK805.out 1).trans rfl
                      have hcz27_2 : wr.cell? ⟨gb805, 2, none⟩ = some (.int .i64 a0_2) := (blk_cell BK805.out 2).trans rfl
                      have hfz27_0 := blk_frozen BK805.out 0
                      have hfz27_1 := blk_frozen BK805.out 1
                      have hfz27_2 := blk_frozen BK805.out 2
                      try go_wp2_with (first | ((with_reducible refine gate_callee (f := 132) rfl ?_); refine goesL_ (some 25) rfl rfl Try.func132 (by kernel_rfl) rfl #[.agg #[.int .i64 a0_0, .slice A0_1 l0_1.length c0_1, .int .i64 a0_2], .int .i64 x6_1] rfl (by (try simp only [List.map_toArray, List.map_cons, List.map_nil]); first | done | rfl | (simp only [List.length_drop, List.length_take]; rfl)) ?_; (with_reducible refine (mask_Mask_asks.calls a0_0 _ _ l0_1 a0_2 x6_1 t809 _ ?side1 ?side2 A9.out).mono ?_); (case side1 => repeat (first | exact (Kd.C_below HR0_1.out HB.out) | (with_reducible refine Kd.C_alloc ?_ _) | (with_reducible refine Kd.C_drewN ?_ _) | (with_reducible refine Kd.C_drew ?_))); (case side2 => exact HC0_1.out); rintro e w28 ⟨rfl, hb⟩; refine ⟨_, rfl, ?_⟩; have n0_ := Aside0.mk (Kd.R_below (by (with_reducible repeat (first | apply Kd.R_alloc | apply Kd.R_drewN | apply Kd.R_drew)); exact HO_5.out) hb); have n1_ := Aside0.mk (blk_below (g := gb805) (o := .cells #[.int .i64 a0_0, .slice A0_1 l0_1.length c0_1, .int .i64 a0_2] 28 (0, 0)) (by (with_reducible repeat (first | refine blk_drewN ?_ _ | refine blk_drew ?_ | refine blk_alloc ?_ _)); exact BK805.out) hb); have n2_ := Aside0.mk (below_step (by repeat (first | (with_reducible first | exact HB.out | apply below_alloc | apply pw_below_drewN | apply below_drew1 | refine below_set ?_ GE805.out) | exact HB.out)) hb); clear HO_5; clear BK805; clear HB; have HO_5 := n0_; have BK805 := n1_; have HB := n2_; clear n0_ n1_ n2_; (try clear hb); (try clear hb2); (try clear hk); (try clear hi)))
                      have n0_ := Aside0.mk (Kd.R_drew HO_5.out)
                      have n1_ := Aside0.mk (blk_drew BK805.out)
                      have n2_ := Aside0.mk (below_drew1 HB.out)
                      clear HO_5
                      clear BK805
                      clear HB
                      have HO_5 := n0_
                      have BK805 := n1_
                      have HB := n2_
                      clear n0_ n1_ n2_
                      have p810 : 0 ≤ ((ji11) : Int) := of_decide_eq_true (by first | (with_reducible assumption) | assumption)
                      have q810 : (ji11) < (l0_1.length : Int) := of_decide_eq_true (by first | (with_reducible assumption) | assumption)
                      obtain ⟨ad810, e810, hx810_0, hx810_1, hx810_2⟩ := at_T107 HR0_1.out (ji11) p810 q810
                      have hw810_2 := hx810_2
                      have hw810_1 := hx810_1
                      have hw810_0 := hx810_0
                      cases e810
                      replace hx810_0 := (HB.out.cell (World.block_lt_of_cell? w _ hx810_0)).trans hx810_0
                      replace hx810_1 := (HB.out.cell (World.block_lt_of_cell? w _ hx810_1)).trans hx810_1
                      replace hx810_2 := (HB.out.cell (World.block_lt_of_cell? w _ hx810_2)).trans hx810_2
                      replace p810 := eq_true p810
                      replace q810 := eq_true q810
                      have p811 : 0 ≤ ((ji11) : Int) := of_decide_eq_true (by first | (with_reducible assumption) | assumption)
                      have q811 : (ji11) < (l0_1.length : Int) := of_decide_eq_true (by first | (with_reducible assumption) | assumption)
                      obtain ⟨ad811, e811, hx811_0, hx811_1, hx811_2⟩ := at_T107 HR0_1.out (ji11) p811 q811
                      have hw811_2 := hx811_2
                      have hw811_1 := hx811_1
                      have hw811_0 := hx811_0
                      obtain rfl : ad810 = ad811 := (by injection e811)
                      replace hx811_0 := (HB.out.cell (World.block_lt_of_cell? w _ hx811_0)).trans hx811_0
                      replace hx811_1 := (HB.out.cell (World.block_lt_of_cell? w _ hx811_1)).trans hx811_1
                      replace hx811_2 := (HB.out.cell (World.block_lt_of_cell? w _ hx811_2)).trans hx811_2
                      replace p811 := eq_true p811
                      replace q811 := eq_true q811
                      refine start_ (n := 16) (S := fun w' => w'.cell? ⟨gb805, 0, none⟩ = some (.int .i64 a0_0) ∧ w'.cell? ⟨gb805, 1, none⟩ = some (.slice (some ad810) l0_1.length c0_1) ∧ w'.cell? ⟨gb805, 2, none⟩ = some (.int .i64 a0_2) ∧ w'.cell? (ad810.add (((ji11)).toNat * 3)) = some (.int .i64 ((rd_T107 l0_1 (ji11)).f0)) ∧ w'.cell? ⟨(ad810.add (((ji11)).toNat * 3)).block, (ad810.add (((ji11)).toNat * 3)).off + 1, none⟩ = some (.int .i64 ((rd_T107 l0_1 (ji11)).f1)) ∧ w'.cell? ⟨(ad810.add (((ji11)).toNat * 3)).block, (ad810.add (((ji11)).toNat * 3)).off + 2, none⟩ = some (.int .i64 ((rd_T107 l0_1 (ji11)).f2)) ∧ w'.cell? (ad810.add (((ji11)).toNat * 3)) = some (.int .i64 ((rd_T107 l0_1 (ji11)).f0)) ∧ w'.cell? ⟨(ad810.add (((ji11)).toNat * 3)).block, (ad810.add (((ji11)).toNat * 3)).off + 1, none⟩ = some (.int .i64 ((rd_T107 l0_1 (ji11)).f1)) ∧ w'.cell? ⟨(ad810.add (((ji11)).toNat * 3)).block, (ad810.add (((ji11)).toNat * 3)).off + 2, none⟩ = some (.int .i64 ((rd_T107 l0_1 (ji11)).f2))) (ds := []) #[false, false, false, false, false, false, false, false, false, false, false, false, false, false, false, false] (by kernel_rfl) rfl rfl ⟨(blk_cell BK805.out 0).trans rfl, (blk_cell BK805.out 1).trans rfl, (blk_cell BK805.out 2).trans rfl, ((HB.out.cell (World.block_lt_of_cell? w _ hw810_0)).trans hw810_0), ((HB.out.cell (World.block_lt_of_cell? w _ hw810_1)).trans hw810_1), ((HB.out.cell (World.block_lt_of_cell? w _ hw810_2)).trans hw810_2), ((HB.out.cell (World.block_lt_of_cell? w _ hw811_0)).trans hw811_0), ((HB.out.cell (World.block_lt_of_cell? w _ hw811_1)).trans hw811_1), ((HB.out.cell (World.block_lt_of_cell? w _ hw811_2)).trans hw811_2)⟩ (fun hHeld => ?_); refine with_tabW mask_Mask_nth.tab8 mask_Mask_nth.bits8 (fun HT_ HW_ => ?_)
                      generalize w28.drew = w29 at HO_5 BK805 HB hx810_0 hx810_1 hx810_2 hx811_0 hx811_1 hx811_2 hHeld ⊢
                      refine pure_ (i := 0) (N := some 28) (v := ?_) (a' := ?_) #[true, false, false, false, false, false, false, false, false, false, false, false, false, false, false, false] rfl rfl (any_of HT_.out (by kernel_rfl)) (fun _ _ _ h => h) (Or.inl ⟨by rfl, ?_⟩) ?_ ?_
                      rotate_left
                      · intro w'
                        go_simp
                        with_reducible rfl
                      rotate_left
                      · simp only [Act.put, List.setIfInBounds_toArray, List.set_cons_zero, List.set_cons_succ, i64_w, i32_w]
                        rfl
                      refine pure_ (i := 2) (N := some 30) (v := ?_) (a' := ?_) #[true, false, true, false, false, false, false, false, false, false, false, false, false, false, false, false] rfl rfl (any_of HT_.out (by kernel_rfl)) (fun _ _ _ h => h) (Or.inl ⟨by rfl, ?_⟩) ?_ ?_
                      rotate_left
                      · intro w'
                        go_simp
                        with_reducible rfl
                      rotate_left
                      · simp only [Act.put, List.setIfInBounds_toArray, List.set_cons_zero, List.set_cons_succ, i64_w, i32_w]
                        rfl
                      refine pure_ (i := 3) (N := some 31) (v := ?_) (a' := ?_) #[true, false, true, true, false, false, false, false, false, false, false, false, false, false, false, false] rfl rfl (any_of HT_.out (by kernel_rfl)) (fun _ _ _ h => h) (Or.inl ⟨by rfl, ?_⟩) ?_ ?_
                      rotate_left
                      · intro w'
                        go_simp
                        with_reducible rfl
                      rotate_left
                      · simp only [Act.put, List.setIfInBounds_toArray, List.set_cons_zero, List.set_cons_succ, i64_w, i32_w]
                        rfl
                      refine pure_ (i := 7) (N := some 35) (v := ?_) (a' := ?_) #[true, false, true, true, false, false, false, true, false, false, false, false, false, false, false, false] rfl rfl (any_of HT_.out (by kernel_rfl)) (fun _ _ _ h => h) (Or.inl ⟨by rfl, ?_⟩) ?_ ?_
                      rotate_left
                      · intro w'
                        go_simp
                        with_reducible rfl
                      rotate_left
                      · simp only [Act.put, List.setIfInBounds_toArray, List.set_cons_zero, List.set_cons_succ, i64_w, i32_w]
                        rfl
                      refine pure_ (i := 9) (N := some 37) (v := ?_) (a' := ?_) #[true, false, true, true, false, false, false, true, false, true, false, false, false, false, false, false] rfl rfl (any_of HT_.out (by kernel_rfl)) (fun _ _ _ h => h) (Or.inl ⟨by rfl, ?_⟩) ?_ ?_
                      rotate_left
                      · intro w'
                        go_simp
                        with_reducible rfl
                      rotate_left
                      · simp only [Act.put, List.setIfInBounds_toArray, List.set_cons_zero, List.set_cons_succ, i64_w, i32_w]
                        rfl
                      refine pure_ (i := 10) (N := some 38) (v := ?_) (a' := ?_) #[true, false, true, true, false, false, false, true, false, true, true, false, false, false, false, false] rfl rfl (any_of HT_.out (by kernel_rfl)) (fun _ _ _ h => h) (Or.inl ⟨by rfl, ?_⟩) ?_ ?_
                      rotate_left
                      · intro w'
                        go_simp
                        with_reducible rfl
                      rotate_left
                      · simp only [Act.put, List.setIfInBounds_toArray, List.set_cons_zero, List.set_cons_succ, i64_w, i32_w]
                        rfl
                      refine take_ (i := 1) (N := some 29) (v := ?_) (a' := ?_) #[true, true, true, true, false, false, false, true, false, true, true, false, false, false, false, false] rfl rfl (take_ofW HT_.out HW_.out (by kernel_rfl)) (fun _ _ _ h => h) (Or.inl ⟨by rfl, ?_⟩) hHeld ?_ ?_
                      rotate_left
                      · rintro w' ⟨s0, s1, s2, s3, s4, s5, s6, s7, s8⟩
                        go_simp
                        with_reducible rfl
                      rotate_left
                      · simp only [Act.put, List.setIfInBounds_toArray, List.set_cons_zero, List.set_cons_succ, i64_w, i32_w]
                        rfl
                      refine pure_ (i := 4) (N := some 32) (v := ?_) (a' := ?_) #[true, true, true, true, true, false, false, true, false, true, true, false, false, false, false, false] rfl rfl (any_of HT_.out (by kernel_rfl)) (fun _ _ _ h => h) (Or.inl ⟨by rfl, ?_⟩) ?_ ?_
                      rotate_left
                      · intro w'
                        go_simp
                        with_reducible rfl
                      rotate_left
                      · simp only [Act.put, List.setIfInBounds_toArray, List.set_cons_zero, List.set_cons_succ, i64_w, i32_w]
                        rfl
                      refine pure_ (i := 5) (N := some 33) (v := ?_) (a' := ?_) #[true, true, true, true, true, true, false, true, false, true, true, false, false, false, false, false] rfl rfl (any_of HT_.out (by kernel_rfl)) (fun _ _ _ h => h) (Or.inl ⟨by rfl, ?_⟩) ?_ ?_
                      rotate_left
                      · intro w'
                        go_simp
                        with_reducible rfl
                      rotate_left
                      · simp only [Act.put, List.setIfInBounds_toArray, List.set_cons_zero, List.set_cons_succ, i64_w, i32_w]
                        rfl
                      refine take_ (i := 6) (N := some 34) (v := ?_) (a' := ?_) #[true, true, true, true, true, true, true, true, false, true, true, false, false, false, false, false] rfl rfl (take_ofW HT_.out HW_.out (by kernel_rfl)) (fun _ _ _ h => h) (Or.inl ⟨by rfl, ?_⟩) hHeld ?_ ?_
                      rotate_left
                      · rintro w' ⟨s0, s1, s2, s3, s4, s5, s6, s7, s8⟩
                        go_simp
                        with_reducible rfl
                      rotate_left
                      · simp only [Act.put, List.setIfInBounds_toArray, List.set_cons_zero, List.set_cons_succ, i64_w, i32_w]
                        rfl
                      refine pure_ (i := 14) (N := some 9) (v := ?_) (a' := ?_) #[true, true, true, true, true, true, true, true, false, true, true, false, false, false, true, false] rfl rfl (any_of HT_.out (by kernel_rfl)) (fun _ _ _ h => h) (Or.inl ⟨by rfl, ?_⟩) ?_ ?_
                      rotate_left
                      · intro w'
                        go_simp
                        with_reducible rfl
                      rotate_left
                      · simp only [Act.put, List.setIfInBounds_toArray, List.set_cons_zero, List.set_cons_succ, i64_w, i32_w]
                        rfl
                      refine take_ (i := 8) (N := some 36) (v := ?_) (a' := ?_) #[true, true, true, true, true, true, true, true, true, true, true, false, false, false, true, false] rfl rfl (take_ofW HT_.out HW_.out (by kernel_rfl)) (fun _ _ _ h => h) (Or.inl ⟨by rfl, ?_⟩) hHeld ?_ ?_
                      rotate_left
                      · rintro w' ⟨s0, s1, s2, s3, s4, s5, s6, s7, s8⟩
                        go_simp
                        with_reducible rfl
                      rotate_left
                      · simp only [Act.put, List.setIfInBounds_toArray, List.set_cons_zero, List.set_cons_succ, i64_w, i32_w]
                        rfl
                      refine pure_ (i := 11) (N := some 39) (v := ?_) (a' := ?_) #[true, true, true, true, true, true, true, true, true, true, true, true, false, false, true, false] rfl rfl (any_of HT_.out (by kernel_rfl)) (fun _ _ _ h => h) (Or.inl ⟨by rfl, ?_⟩) ?_ ?_
                      rotate_left
                      · intro w'
                        go_simp
                        with_reducible rfl
                      rotate_left
                      · simp only [Act.put, List.setIfInBounds_toArray, List.set_cons_zero, List.set_cons_succ, i64_w, i32_w]
                        rfl
                      refine pure_ (i := 12) (N := some 40) (v := ?_) (a' := ?_) #[true, true, true, true, true, true, true, true, true, true, true, true, true, false, true, false] rfl rfl (any_of HT_.out (by kernel_rfl)) (fun _ _ _ h => h) (Or.inl ⟨by rfl, ?_⟩) ?_ ?_
                      rotate_left
                      · intro w'
                        go_simp
                        with_reducible rfl
                      rotate_left
                      · simp only [Act.put, List.setIfInBounds_toArray, List.set_cons_zero, List.set_cons_succ, i64_w, i32_w]
                        rfl
                      refine take_ (i := 13) (N := some 41) (v := ?_) (a' := ?_) #[true, true, true, true, true, true, true, true, true, true, true, true, true, true, true, false] rfl rfl (take_ofW HT_.out HW_.out (by kernel_rfl)) (fun _ _ _ h => h) (Or.inl ⟨by rfl, ?_⟩) hHeld ?_ ?_
                      rotate_left
                      · rintro w' ⟨s0, s1, s2, s3, s4, s5, s6, s7, s8⟩
                        go_simp
                        with_reducible rfl
                      rotate_left
                      · simp only [Act.put, List.setIfInBounds_toArray, List.set_cons_zero, List.set_cons_succ, i64_w, i32_w]
                        rfl
                      refine pure_ (i := 15) (N := some 10) (v := ?_) (a' := ?_) #[true, true, true, true, true, true, true, true, true, true, true, true, true, true, true, true] rfl rfl (any_of HT_.out (by kernel_rfl)) (fun _ _ _ h => h) (Or.inl ⟨by rfl, ?_⟩) ?_ ?_
                      rotate_left
                      · intro w'
                        go_simp
                        with_reducible rfl
                      rotate_left
                      · simp only [Act.put, List.setIfInBounds_toArray, List.set_cons_zero, List.set_cons_succ, i64_w, i32_w]
                        rfl
                      refine done_ (done_of HT_.out (by kernel_rfl)) ?_
                      try go_wp2
                      have n0_ := Aside0.mk (Kd.R_drew HO_5.out)
                      have n1_ := Aside0.mk (blk_drew BK805.out)
                      have n2_ := Aside0.mk (below_drew1 HB.out)
                      clear HO_5
                      clear BK805
                      clear HB
                      have HO_5 := n0_
                      have BK805 := n1_
                      have HB := n2_
                      clear n0_ n1_ n2_
                      obtain ⟨Ao31, co31, eo31⟩ := Kd.R_slice HO_5.out
                      (first | subst eo31 | (injection eo31 with f1_ f2_ f3_; have f4_ := f1_.symm; have f5_ := f3_.symm; clear f1_ f2_ f3_; subst f4_; subst f5_))
                      have p812 : 0 ≤ (((rd_T107 l0_1 (ji11)).f1) : Int) := of_decide_eq_true (by first | (with_reducible assumption) | assumption)
                      have q812 : ((rd_T107 l0_1 (ji11)).f1) < (t806.length : Int) := of_decide_eq_true (by first | (with_reducible assumption) | assumption)
                      obtain ⟨ad812, e812, hx812_0⟩ := Kd.at_int (Kd.R_reads' HO_5.out).2.2 ((rd_T107 l0_1 (ji11)).f1) p812 q812
                      cases e812
                      replace p812 := eq_true p812
                      replace q812 := eq_true q812
                      refine start_ (n := 12) (S := fun w' => w'.cell? ⟨gb805, 0, none⟩ = some (.int .i64 a0_0) ∧ w'.cell? ⟨gb805, 1, none⟩ = some (.slice (some ad810) l0_1.length c0_1) ∧ w'.cell? ⟨gb805, 2, none⟩ = some (.int .i64 a0_2) ∧ w'.cell? (ad812.add (((rd_T107 l0_1 (ji11)).f1)).toNat) = some (.int .i64 (rd t806 ((rd_T107 l0_1 (ji11)).f1)))) (ds := []) #[false, false, false, false, false, false, false, false, false, false, false, false] (by kernel_rfl) rfl rfl ⟨(blk_cell BK805.out 0).trans rfl, (blk_cell BK805.out 1).trans rfl, (blk_cell BK805.out 2).trans rfl, hx812_0⟩ (fun hHeld => ?_); refine with_tabW mask_Mask_nth.tab10 mask_Mask_nth.bits10 (fun HT_ HW_ => ?_)
                      generalize w29.drew = w30 at HO_5 BK805 HB hx812_0 hHeld ⊢
                      refine pure_ (i := 0) (N := some 44) (v := ?_) (a' := ?_) #[true, false, false, false, false, false, false, false, false, false, false, false] rfl rfl (any_of HT_.out (by kernel_rfl)) (fun _ _ _ h => h) (Or.inl ⟨by rfl, ?_⟩) ?_ ?_
                      rotate_left
                      · intro w'
                        go_simp
                        with_reducible rfl
                      rotate_left
                      · simp only [Act.put, List.setIfInBounds_toArray, List.set_cons_zero, List.set_cons_succ, i64_w, i32_w]
                        rfl
                      refine pure_ (i := 1) (N := some 45) (v := ?_) (a' := ?_) #[true, true, false, false, false, false, false, false, false, false, false, false] rfl rfl (any_of HT_.out (by kernel_rfl)) (fun _ _ _ h => h) (Or.inl ⟨by rfl, ?_⟩) ?_ ?_
                      rotate_left
                      · intro w'
                        go_simp
                        with_reducible rfl
                      rotate_left
                      · simp only [Act.put, List.setIfInBounds_toArray, List.set_cons_zero, List.set_cons_succ, i64_w, i32_w]
                        rfl
                      refine pure_ (i := 2) (N := some 46) (v := ?_) (a' := ?_) #[true, true, true, false, false, false, false, false, false, false, false, false] rfl rfl (any_of HT_.out (by kernel_rfl)) (fun _ _ _ h => h) (Or.inl ⟨by rfl, ?_⟩) ?_ ?_
                      rotate_left
                      · intro w'
                        go_simp
                        with_reducible rfl
                      rotate_left
                      · simp only [Act.put, List.setIfInBounds_toArray, List.set_cons_zero, List.set_cons_succ, i64_w, i32_w]
                        rfl
                      refine pure_ (i := 5) (N := some 49) (v := ?_) (a' := ?_) #[true, true, true, false, false, true, false, false, false, false, false, false] rfl rfl (any_of HT_.out (by kernel_rfl)) (fun _ _ _ h => h) (Or.inl ⟨by rfl, ?_⟩) ?_ ?_
                      rotate_left
                      · intro w'
                        go_simp
                        with_reducible rfl
                      rotate_left
                      · simp only [Act.put, List.setIfInBounds_toArray, List.set_cons_zero, List.set_cons_succ, i64_w, i32_w]
                        rfl
                      refine pure_ (i := 7) (N := some 51) (v := ?_) (a' := ?_) #[true, true, true, false, false, true, false, true, false, false, false, false] rfl rfl (any_of HT_.out (by kernel_rfl)) (fun _ _ _ h => h) (Or.inl ⟨by rfl, ?_⟩) ?_ ?_
                      rotate_left
                      · intro w'
                        go_simp
                        with_reducible rfl
                      rotate_left
                      · simp only [Act.put, List.setIfInBounds_toArray, List.set_cons_zero, List.set_cons_succ, i64_w, i32_w]
                        rfl
                      refine take_ (i := 3) (N := some 47) (v := ?_) (a' := ?_) #[true, true, true, true, false, true, false, true, false, false, false, false] rfl rfl (take_ofW HT_.out HW_.out (by kernel_rfl)) (fun _ _ _ h => h) (Or.inl ⟨by rfl, ?_⟩) hHeld ?_ ?_
                      rotate_left
                      · rintro w' ⟨s0, s1, s2, s3⟩
                        go_simp
                        with_reducible rfl
                      rotate_left
                      · simp only [Act.put, List.setIfInBounds_toArray, List.set_cons_zero, List.set_cons_succ, i64_w, i32_w]
                        rfl
                      refine take_ (i := 4) (N := some 48) (v := ?_) (a' := ?_) #[true, true, true, true, true, true, false, true, false, false, false, false] rfl rfl (take_ofW HT_.out HW_.out (by kernel_rfl)) (fun _ _ _ h => h) (Or.inl ⟨by rfl, ?_⟩) hHeld ?_ ?_
                      rotate_left
                      · rintro w' ⟨s0, s1, s2, s3⟩
                        go_simp
                        with_reducible rfl
                      rotate_left
                      · simp only [Act.put, List.setIfInBounds_toArray, List.set_cons_zero, List.set_cons_succ, i64_w, i32_w]
                        rfl
                      refine one_ (i := 6) (N := some 50) #[true, true, true, true, true, true, true, true, false, false, false, false] rfl rfl (one_of HT_.out (by kernel_rfl)) (by decide) (fun K hK => ?_)
                      refine goes_ Try.func132 (by kernel_rfl) rfl #[.agg #[.int .i64 a0_0, .slice (some ad810) l0_1.length c0_1, .int .i64 a0_2], .int .i64 ((rd_T107 l0_1 (ji11)).f1)] (by rfl) rfl rfl (by (try simp only [List.map_toArray, List.map_cons, List.map_nil]); first | done | (simp only [hji11]; rfl) | rfl | (simp only [List.length_drop, List.length_take]; rfl)) ?_
                      with_reducible refine (mask_Mask_asks.calls a0_0 _ _ l0_1 a0_2 ((rd_T107 l0_1 (ji11)).f1) t813 _ ?side1 ?side2 A16.out).mono ?_
                      (case side1 => repeat (first | exact (Kd.C_below HR0_1.out HB.out) | (with_reducible refine Kd.C_alloc ?_ _) | (with_reducible refine Kd.C_drewN ?_ _) | (with_reducible refine Kd.C_drew ?_)))
                      (case side2 => exact HC0_1.out)
                      rintro e w32 ⟨rfl, hb⟩
                      have HS3_ := (hb.cell (World.block_lt_of_cell? _ _ (hHeld.2.2.2))).trans (hHeld.2.2.2)
                      refine ⟨_, rfl, ?_⟩
                      have n0_ := Aside0.mk (Kd.R_below (by (with_reducible repeat (first | apply Kd.R_alloc | apply Kd.R_drewN | apply Kd.R_drew)); exact HO_5.out) hb)
                      have n1_ := Aside0.mk (blk_below (g := gb805) (o := .cells #[.int .i64 a0_0, .slice (some ad810) l0_1.length c0_1, .int .i64 a0_2] 28 (0, 0)) (by (with_reducible repeat (first | refine blk_drewN ?_ _ | refine blk_drew ?_ | refine blk_alloc ?_ _)); exact BK805.out) hb)
                      have n2_ := Aside0.mk (below_step (by repeat (first | (with_reducible first | exact HB.out | apply below_alloc | apply pw_below_drewN | apply below_drew1 | refine below_set ?_ GE805.out) | exact HB.out)) hb)
                      clear HO_5
                      clear BK805
                      clear HB
                      have HO_5 := n0_
                      have BK805 := n1_
                      have HB := n2_
                      clear n0_ n1_ n2_
                      (try clear hb)
                      (try clear hb2)
                      (try clear hk)
                      (try clear hi)
                      refine hK.out _ _ ⟨(blk_cell BK805.out 0).trans rfl, (blk_cell BK805.out 1).trans rfl, (blk_cell BK805.out 2).trans rfl, HS3_⟩ (fun hHeld => ?_)
                      clear hK K
                      refine norm_ (a' := ?_) ?_ ?_
                      rotate_left
                      · show Act.put _ (some 50) _ = _
                        simp only [Act.put, List.setIfInBounds_toArray, List.set_cons_zero, List.set_cons_succ, i64_w, i32_w]
                        rfl
                      refine pure_ (i := 8) (N := some 52) (v := ?_) (a' := ?_) #[true, true, true, true, true, true, true, true, true, false, false, false] rfl rfl (any_of HT_.out (by kernel_rfl)) (fun _ _ _ h => h) (Or.inl ⟨by rfl, ?_⟩) ?_ ?_
                      rotate_left
                      · intro w'
                        go_simp
                        with_reducible rfl
                      rotate_left
                      · simp only [Act.put, List.setIfInBounds_toArray, List.set_cons_zero, List.set_cons_succ, i64_w, i32_w]
                        rfl
                      refine pure_ (i := 9) (N := some 53) (v := ?_) (a' := ?_) #[true, true, true, true, true, true, true, true, true, true, false, false] rfl rfl (any_of HT_.out (by kernel_rfl)) (fun _ _ _ h => h) (Or.inl ⟨by rfl, ?_⟩) ?_ ?_
                      rotate_left
                      · intro w'
                        go_simp
                        with_reducible rfl
                      rotate_left
                      · simp only [Act.put, List.setIfInBounds_toArray, List.set_cons_zero, List.set_cons_succ, i64_w, i32_w]
                        rfl
                      refine pure_ (i := 10) (N := some 54) (v := ?_) (a' := ?_) #[true, true, true, true, true, true, true, true, true, true, true, false] rfl rfl (any_of HT_.out (by kernel_rfl)) (fun _ _ _ h => h) (Or.inl ⟨by rfl, ?_⟩) ?_ ?_
                      rotate_left
                      · intro w'
                        go_simp
                        with_reducible rfl
                      rotate_left
                      · simp only [Act.put, List.setIfInBounds_toArray, List.set_cons_zero, List.set_cons_succ, i64_w, i32_w]
                        rfl
                      refine pure_ (i := 11) (N := some 11) (v := ?_) (a' := ?_) #[true, true, true, true, true, true, true, true, true, true, true, true] rfl rfl (any_of HT_.out (by kernel_rfl)) (fun _ _ _ h => h) (Or.inl ⟨by rfl, ?_⟩) ?_ ?_
                      rotate_left
                      · intro w'
                        go_simp
                        with_reducible rfl
                      rotate_left
                      · simp only [Act.put, List.setIfInBounds_toArray, List.set_cons_zero, List.set_cons_succ, i64_w, i32_w]
                        rfl
                      refine done_ (done_of HT_.out (by kernel_rfl)) ?_
                      try go_wp2
                      go_roundg k1
                      case measure => have := HK1.out; omega
                      case rel => exact ⟨(x1_1), ((rd_T107 l0_1 (ji11)).f1), (wrap64 (x7_1 * 2)), (wrap64 (x18_1 + 1)), (by first | rfl | (simp; done) | (simp [*]; done)), (by first | rfl | (simp; done) | (simp only [← hji11] <;> (first | rfl | simp)) | (simp [*]; done)), (by first | rfl | (simp; done) | (simp [*]; done)), (by first | rfl | (simp; done) | (simp [*]; done)), H', ⟨by have := HK1.out; omega⟩, ⟨by (with_reducible repeat (first | apply Kd.R_alloc | apply Kd.R_drewN | apply Kd.R_drew)); exact HO_5.out⟩, ⟨by (with_reducible repeat (first | refine blk_drewN ?_ _ | refine blk_drew ?_ | refine blk_alloc ?_ _)); exact BK805.out⟩, ⟨by repeat (first | (with_reducible first | exact HB.out | apply below_alloc | apply pw_below_drewN | apply below_drew1 | refine below_set ?_ GE805.out) | exact HB.out)⟩⟩
                  · rw [if_neg c18] at H
                    exact absurd H (by simp)
                · rw [if_neg c15] at H
                  exact absurd H (by simp)
              · rw [if_neg c14] at H
                exact absurd H (by simp)
            · rw [if_neg c13] at H
              exact absurd H (by simp)
          · rw [if_neg c12] at H
            exact absurd H (by simp)
        · rw [if_neg c10] at H
          have c10b0 : (t809 == x18_1) = false := beq_eq_false_iff_ne.mpr c10
          have c10b1 : (t809 != x18_1) = true := bne_iff_ne.mpr c10
          by_cases c33 : 0 ≤ x6_1
          · rw [if_pos c33] at H
            have c33b0 : decide (0 ≤ x6_1) = true := decide_eq_true c33
            clear c33
            by_cases c34 : x6_1 < (t806.length : Int)
            · rw [if_pos c34] at H
              have c34b0 : decide (x6_1 < (t806.length : Int)) = true := decide_eq_true c34
              clear c34
              replace H := Option.bind_eq_some_iff.mp H
              obtain ⟨t815, A350, H⟩ := H
              replace H : (if 0 ≤ (wrap64 ((wrap64 (t815 - x18_1)) - 1)) then (if x1_1 ≥ (shl .i64 (rd t806 x6_1) (wrap64 ((wrap64 (t815 - x18_1)) - 1))) then (mask_Mask_nth.l0 k1 (wrap64 (x1_1 - (shl .i64 (rd t806 x6_1) (wrap64 ((wrap64 (t815 - x18_1)) - 1))))) t806 x6_1 (wrap64 ((wrap64 (x7_1 * 2)) + 1)) a0_0 (wrap64 (x18_1 + 1)) a0_0 l0_1 a0_2) else (mask_Mask_nth.l0 k1 x1_1 t806 x6_1 (wrap64 (x7_1 * 2)) a0_0 (wrap64 (x18_1 + 1)) a0_0 l0_1 a0_2)) else (none)) = some r := H
              have A35 := Aside0.mk A350
              clear A350
              obtain ⟨ji36, hji36⟩ : ∃ j_ : Int, (wrap64 ((wrap64 (t815 - x18_1)) - 1)) = j_ := ⟨_, rfl⟩
              replace H : (if 0 ≤ (ji36) then (if x1_1 ≥ (shl .i64 (rd t806 x6_1) (ji36)) then (mask_Mask_nth.l0 k1 (wrap64 (x1_1 - (shl .i64 (rd t806 x6_1) (ji36)))) t806 x6_1 (wrap64 ((wrap64 (x7_1 * 2)) + 1)) a0_0 (wrap64 (x18_1 + 1)) a0_0 l0_1 a0_2) else (mask_Mask_nth.l0 k1 x1_1 t806 x6_1 (wrap64 (x7_1 * 2)) a0_0 (wrap64 (x18_1 + 1)) a0_0 l0_1 a0_2)) else (none)) = some r := by first | (rw [hji36] at H; exact H) | (simp only [hji36] at H ⊢; exact H)
              (try rw [hji36] at A9)
              (try rw [hji36] at A35)
              have hji36w : (IntKind.i64.wrap ((wrap64 (t815 - x18_1)) - 1)) = ji36 := (i64_w _).trans hji36
              by_cases c37 : 0 ≤ (ji36)
              · rw [if_pos c37] at H
                have c37b0 := eq_true c37
                have c37b1 : decide (0 ≤ (ji36)) = true := decide_eq_true c37
                clear c37
                obtain ⟨ji38, hji38⟩ : ∃ j_ : Int, (shl .i64 (rd t806 x6_1) (ji36)) = j_ := ⟨_, rfl⟩
                replace H : (if x1_1 ≥ (ji38) then (mask_Mask_nth.l0 k1 (wrap64 (x1_1 - (ji38))) t806 x6_1 (wrap64 ((wrap64 (x7_1 * 2)) + 1)) a0_0 (wrap64 (x18_1 + 1)) a0_0 l0_1 a0_2) else (mask_Mask_nth.l0 k1 x1_1 t806 x6_1 (wrap64 (x7_1 * 2)) a0_0 (wrap64 (x18_1 + 1)) a0_0 l0_1 a0_2)) = some r := by first | (rw [hji38] at H; exact H) | (simp only [hji38] at H ⊢; exact H)
                (try rw [hji38] at A9)
                (try rw [hji38] at A35)
                have hji38_ : (IntKind.i64.wrap ((rd t806 x6_1) * 2 ^ min (ji36).toNat 64)) = ji38 := hji38
                have hji38z : (ji36) ≤ 64 → (IntKind.i64.wrap ((rd t806 x6_1) * 2 ^ (ji36).toNat)) = ji38 := shl_small hji38
                have hji38y : (wrap64 ((rd t806 x6_1) * 2 ^ min (ji36).toNat 64)) = ji38 := (i64_w _).symm.trans hji38_
                have hji38x : (ji36) ≤ 64 → (wrap64 ((rd t806 x6_1) * 2 ^ (ji36).toNat)) = ji38 := fun h_ => (i64_w _).symm.trans (hji38z h_)
                by_cases c39 : x1_1 ≥ (ji38)
                · rw [if_pos c39] at H
                  have c39b0 : decide ((ji38) ≤ x1_1) = true := decide_eq_true c39
                  clear c39
                  have H' := Aside0.mk H
                  clear H
                  have hcz40_0 : wr.cell? ⟨gb805, 0, none⟩ = some (.int .i64 a0_0) := (blk_cell BK805.out 0).trans rfl
                  have hcz40_1 : wr.cell? ⟨gb805, 1, none⟩ = some (.slice A0_1 l0_1.length c0_1) := (blk_cell BK805.out 1).trans rfl
                  have hcz40_2 : wr.cell? ⟨gb805, 2, none⟩ = some (.int .i64 a0_2) := (blk_cell BK805.out 2).trans rfl
                  have hfz40_0 := blk_frozen BK805.out 0
                  have hfz40_1 := blk_frozen BK805.out 1
                  have hfz40_2 := blk_frozen BK805.out 2
                  try go_wp2_with (first | ((with_reducible refine gate_callee (f := 132) rfl ?_); refine goesL_ (some 25) rfl rfl Try.func132 (by kernel_rfl) rfl #[.agg #[.int .i64 a0_0, .slice A0_1 l0_1.length c0_1, .int .i64 a0_2], .int .i64 x6_1] rfl (by (try simp only [List.map_toArray, List.map_cons, List.map_nil]); first | done | rfl | (simp only [List.length_drop, List.length_take]; rfl)) ?_; (with_reducible refine (mask_Mask_asks.calls a0_0 _ _ l0_1 a0_2 x6_1 t809 _ ?side1 ?side2 A9.out).mono ?_); (case side1 => repeat (first | exact (Kd.C_below HR0_1.out HB.out) | (with_reducible refine Kd.C_alloc ?_ _) | (with_reducible refine Kd.C_drewN ?_ _) | (with_reducible refine Kd.C_drew ?_))); (case side2 => exact HC0_1.out); rintro e w41 ⟨rfl, hb⟩; refine ⟨_, rfl, ?_⟩; have n0_ := Aside0.mk (Kd.R_below (by (with_reducible repeat (first | apply Kd.R_alloc | apply Kd.R_drewN | apply Kd.R_drew)); exact HO_5.out) hb); have n1_ := Aside0.mk (blk_below (g := gb805) (o := .cells #[.int .i64 a0_0, .slice A0_1 l0_1.length c0_1, .int .i64 a0_2] 28 (0, 0)) (by (with_reducible repeat (first | refine blk_drewN ?_ _ | refine blk_drew ?_ | refine blk_alloc ?_ _)); exact BK805.out) hb); have n2_ := Aside0.mk (below_step (by repeat (first | (with_reducible first | exact HB.out | apply below_alloc | apply pw_below_drewN | apply below_drew1 | refine below_set ?_ GE805.out) | exact HB.out)) hb); clear HO_5; clear BK805; clear HB; have HO_5 := n0_; have BK805 := n1_; have HB := n2_; clear n0_ n1_ n2_; (try clear hb); (try clear hb2); (try clear hk); (try clear hi)))
                  have n0_ := Aside0.mk (Kd.R_drew HO_5.out)
                  have n1_ := Aside0.mk (blk_drew BK805.out)
                  have n2_ := Aside0.mk (below_drew1 HB.out)
                  clear HO_5
                  clear BK805
                  clear HB
                  have HO_5 := n0_
                  have BK805 := n1_
                  have HB := n2_
                  clear n0_ n1_ n2_
                  obtain ⟨Ao43, co43, eo43⟩ := Kd.R_slice HO_5.out
                  (first | subst eo43 | (injection eo43 with f1_ f2_ f3_; have f4_ := f1_.symm; have f5_ := f3_.symm; clear f1_ f2_ f3_; subst f4_; subst f5_))
                  have p814 : 0 ≤ (x6_1 : Int) := of_decide_eq_true (by first | (with_reducible assumption) | assumption)
                  have q814 : x6_1 < (t806.length : Int) := of_decide_eq_true (by first | (with_reducible assumption) | assumption)
                  obtain ⟨ad814, e814, hx814_0⟩ := Kd.at_int (Kd.R_reads' HO_5.out).2.2 x6_1 p814 q814
                  cases e814
                  replace p814 := eq_true p814
                  replace q814 := eq_true q814
                  refine start_ (n := 12) (S := fun w' => w'.cell? ⟨gb805, 0, none⟩ = some (.int .i64 a0_0) ∧ w'.cell? ⟨gb805, 1, none⟩ = some (.slice A0_1 l0_1.length c0_1) ∧ w'.cell? ⟨gb805, 2, none⟩ = some (.int .i64 a0_2) ∧ w'.cell? (ad814.add (x6_1).toNat) = some (.int .i64 (rd t806 x6_1))) (ds := []) #[false, false, false, false, false, false, false, false, false, false, false, false] (by kernel_rfl) rfl rfl ⟨(blk_cell BK805.out 0).trans rfl, (blk_cell BK805.out 1).trans rfl, (blk_cell BK805.out 2).trans rfl, hx814_0⟩ (fun hHeld => ?_); refine with_tabW mask_Mask_nth.tab10 mask_Mask_nth.bits10 (fun HT_ HW_ => ?_)
                  generalize w41.drew = w42 at HO_5 BK805 HB hx814_0 hHeld ⊢
                  refine pure_ (i := 0) (N := some 44) (v := ?_) (a' := ?_) #[true, false, false, false, false, false, false, false, false, false, false, false] rfl rfl (any_of HT_.out (by kernel_rfl)) (fun _ _ _ h => h) (Or.inl ⟨by rfl, ?_⟩) ?_ ?_
                  rotate_left
                  · intro w'
                    go_simp
                    with_reducible rfl
                  rotate_left
                  · simp only [Act.put, List.setIfInBounds_toArray, List.set_cons_zero, List.set_cons_succ, i64_w, i32_w]
                    rfl
                  refine pure_ (i := 1) (N := some 45) (v := ?_) (a' := ?_) #[true, true, false, false, false, false, false, false, false, false, false, false] rfl rfl (any_of HT_.out (by kernel_rfl)) (fun _ _ _ h => h) (Or.inl ⟨by rfl, ?_⟩) ?_ ?_
                  rotate_left
                  · intro w'
                    go_simp
                    with_reducible rfl
                  rotate_left
                  · simp only [Act.put, List.setIfInBounds_toArray, List.set_cons_zero, List.set_cons_succ, i64_w, i32_w]
                    rfl
                  refine pure_ (i := 2) (N := some 46) (v := ?_) (a' := ?_) #[true, true, true, false, false, false, false, false, false, false, false, false] rfl rfl (any_of HT_.out (by kernel_rfl)) (fun _ _ _ h => h) (Or.inl ⟨by rfl, ?_⟩) ?_ ?_
                  rotate_left
                  · intro w'
                    go_simp
                    with_reducible rfl
                  rotate_left
                  · simp only [Act.put, List.setIfInBounds_toArray, List.set_cons_zero, List.set_cons_succ, i64_w, i32_w]
                    rfl
                  refine pure_ (i := 5) (N := some 49) (v := ?_) (a' := ?_) #[true, true, true, false, false, true, false, false, false, false, false, false] rfl rfl (any_of HT_.out (by kernel_rfl)) (fun _ _ _ h => h) (Or.inl ⟨by rfl, ?_⟩) ?_ ?_
                  rotate_left
                  · intro w'
                    go_simp
                    with_reducible rfl
                  rotate_left
                  · simp only [Act.put, List.setIfInBounds_toArray, List.set_cons_zero, List.set_cons_succ, i64_w, i32_w]
                    rfl
                  refine pure_ (i := 7) (N := some 51) (v := ?_) (a' := ?_) #[true, true, true, false, false, true, false, true, false, false, false, false] rfl rfl (any_of HT_.out (by kernel_rfl)) (fun _ _ _ h => h) (Or.inl ⟨by rfl, ?_⟩) ?_ ?_
                  rotate_left
                  · intro w'
                    go_simp
                    with_reducible rfl
                  rotate_left
                  · simp only [Act.put, List.setIfInBounds_toArray, List.set_cons_zero, List.set_cons_succ, i64_w, i32_w]
                    rfl
                  refine take_ (i := 3) (N := some 47) (v := ?_) (a' := ?_) #[true, true, true, true, false, true, false, true, false, false, false, false] rfl rfl (take_ofW HT_.out HW_.out (by kernel_rfl)) (fun _ _ _ h => h) (Or.inl ⟨by rfl, ?_⟩) hHeld ?_ ?_
                  rotate_left
                  · rintro w' ⟨s0, s1, s2, s3⟩
                    go_simp
                    with_reducible rfl
                  rotate_left
                  · simp only [Act.put, List.setIfInBounds_toArray, List.set_cons_zero, List.set_cons_succ, i64_w, i32_w]
                    rfl
                  refine take_ (i := 4) (N := some 48) (v := ?_) (a' := ?_) #[true, true, true, true, true, true, false, true, false, false, false, false] rfl rfl (take_ofW HT_.out HW_.out (by kernel_rfl)) (fun _ _ _ h => h) (Or.inl ⟨by rfl, ?_⟩) hHeld ?_ ?_
                  rotate_left
                  · rintro w' ⟨s0, s1, s2, s3⟩
                    go_simp
                    with_reducible rfl
                  rotate_left
                  · simp only [Act.put, List.setIfInBounds_toArray, List.set_cons_zero, List.set_cons_succ, i64_w, i32_w]
                    rfl
                  refine one_ (i := 6) (N := some 50) #[true, true, true, true, true, true, true, true, false, false, false, false] rfl rfl (one_of HT_.out (by kernel_rfl)) (by decide) (fun K hK => ?_)
                  refine goes_ Try.func132 (by kernel_rfl) rfl #[.agg #[.int .i64 a0_0, .slice A0_1 l0_1.length c0_1, .int .i64 a0_2], .int .i64 x6_1] (by rfl) rfl rfl (by (try simp only [List.map_toArray, List.map_cons, List.map_nil]); first | done | rfl | (simp only [List.length_drop, List.length_take]; rfl)) ?_
                  with_reducible refine (mask_Mask_asks.calls a0_0 _ _ l0_1 a0_2 x6_1 t815 _ ?side1 ?side2 A35.out).mono ?_
                  (case side1 => repeat (first | exact (Kd.C_below HR0_1.out HB.out) | (with_reducible refine Kd.C_alloc ?_ _) | (with_reducible refine Kd.C_drewN ?_ _) | (with_reducible refine Kd.C_drew ?_)))
                  (case side2 => exact HC0_1.out)
                  rintro e w44 ⟨rfl, hb⟩
                  have HS3_ := (hb.cell (World.block_lt_of_cell? _ _ (hHeld.2.2.2))).trans (hHeld.2.2.2)
                  refine ⟨_, rfl, ?_⟩
                  have n0_ := Aside0.mk (Kd.R_below (by (with_reducible repeat (first | apply Kd.R_alloc | apply Kd.R_drewN | apply Kd.R_drew)); exact HO_5.out) hb)
                  have n1_ := Aside0.mk (blk_below (g := gb805) (o := .cells #[.int .i64 a0_0, .slice A0_1 l0_1.length c0_1, .int .i64 a0_2] 28 (0, 0)) (by (with_reducible repeat (first | refine blk_drewN ?_ _ | refine blk_drew ?_ | refine blk_alloc ?_ _)); exact BK805.out) hb)
                  have n2_ := Aside0.mk (below_step (by repeat (first | (with_reducible first | exact HB.out | apply below_alloc | apply pw_below_drewN | apply below_drew1 | refine below_set ?_ GE805.out) | exact HB.out)) hb)
                  clear HO_5
                  clear BK805
                  clear HB
                  have HO_5 := n0_
                  have BK805 := n1_
                  have HB := n2_
                  clear n0_ n1_ n2_
                  (try clear hb)
                  (try clear hb2)
                  (try clear hk)
                  (try clear hi)
                  refine hK.out _ _ ⟨(blk_cell BK805.out 0).trans rfl, (blk_cell BK805.out 1).trans rfl, (blk_cell BK805.out 2).trans rfl, HS3_⟩ (fun hHeld => ?_)
                  clear hK K
                  refine norm_ (a' := ?_) ?_ ?_
                  rotate_left
                  · show Act.put _ (some 50) _ = _
                    simp only [Act.put, List.setIfInBounds_toArray, List.set_cons_zero, List.set_cons_succ, i64_w, i32_w]
                    rfl
                  refine pure_ (i := 8) (N := some 52) (v := ?_) (a' := ?_) #[true, true, true, true, true, true, true, true, true, false, false, false] rfl rfl (any_of HT_.out (by kernel_rfl)) (fun _ _ _ h => h) (Or.inl ⟨by rfl, ?_⟩) ?_ ?_
                  rotate_left
                  · intro w'
                    go_simp
                    with_reducible rfl
                  rotate_left
                  · simp only [Act.put, List.setIfInBounds_toArray, List.set_cons_zero, List.set_cons_succ, i64_w, i32_w]
                    rfl
                  refine pure_ (i := 9) (N := some 53) (v := ?_) (a' := ?_) #[true, true, true, true, true, true, true, true, true, true, false, false] rfl rfl (any_of HT_.out (by kernel_rfl)) (fun _ _ _ h => h) (Or.inl ⟨by rfl, ?_⟩) ?_ ?_
                  rotate_left
                  · intro w'
                    go_simp
                    with_reducible rfl
                  rotate_left
                  · simp only [Act.put, List.setIfInBounds_toArray, List.set_cons_zero, List.set_cons_succ, i64_w, i32_w]
                    rfl
                  refine pure_ (i := 10) (N := some 54) (v := ?_) (a' := ?_) #[true, true, true, true, true, true, true, true, true, true, true, false] rfl rfl (any_of HT_.out (by kernel_rfl)) (fun _ _ _ h => h) (Or.inl ⟨by rfl, ?_⟩) ?_ ?_
                  rotate_left
                  · intro w'
                    go_simp
                    with_reducible rfl
                  rotate_left
                  · simp only [Act.put, List.setIfInBounds_toArray, List.set_cons_zero, List.set_cons_succ, i64_w, i32_w]
                    rfl
                  refine pure_ (i := 11) (N := some 11) (v := ?_) (a' := ?_) #[true, true, true, true, true, true, true, true, true, true, true, true] rfl rfl (any_of HT_.out (by kernel_rfl)) (fun _ _ _ h => h) (Or.inl ⟨by rfl, ?_⟩) ?_ ?_
                  rotate_left
                  · intro w'
                    go_simp
                    with_reducible rfl
                  rotate_left
                  · simp only [Act.put, List.setIfInBounds_toArray, List.set_cons_zero, List.set_cons_succ, i64_w, i32_w]
                    rfl
                  refine done_ (done_of HT_.out (by kernel_rfl)) ?_
                  try go_wp2
                  go_roundg k1
                  case measure => have := HK1.out; omega
                  case rel => exact ⟨(wrap64 (x1_1 - (ji38))), (x6_1), (wrap64 ((wrap64 (x7_1 * 2)) + 1)), (wrap64 (x18_1 + 1)), (by first | rfl | (simp; done) | (simp only [← hji38] <;> (first | rfl | simp)) | (simp [*]; done)), (by first | rfl | (simp; done) | (simp [*]; done)), (by first | rfl | (simp; done) | (simp [*]; done)), (by first | rfl | (simp; done) | (simp [*]; done)), H', ⟨by have := HK1.out; omega⟩, ⟨by (with_reducible repeat (first | apply Kd.R_alloc | apply Kd.R_drewN | apply Kd.R_drew)); exact HO_5.out⟩, ⟨by (with_reducible repeat (first | refine blk_drewN ?_ _ | refine blk_drew ?_ | refine blk_alloc ?_ _)); exact BK805.out⟩, ⟨by repeat (first | (with_reducible first | exact HB.out | apply below_alloc | apply pw_below_drewN | apply below_drew1 | refine below_set ?_ GE805.out) | exact HB.out)⟩⟩
                · rw [if_neg c39] at H
                  have c39b0 : decide ((ji38) ≤ x1_1) = false := decide_eq_false c39
                  clear c39
                  have H' := Aside0.mk H
                  clear H
                  have hcz45_0 : wr.cell? ⟨gb805, 0, none⟩ = some (.int .i64 a0_0) := (blk_cell BK805.out 0).trans rfl
                  have hcz45_1 : wr.cell? ⟨gb805, 1, none⟩ = some (.slice A0_1 l0_1.length c0_1) := (blk_cell BK805.out 1).trans rfl
                  have hcz45_2 : wr.cell? ⟨gb805, 2, none⟩ = some (.int .i64 a0_2) := (blk_cell BK805.out 2).trans rfl
                  have hfz45_0 := blk_frozen BK805.out 0
                  have hfz45_1 := blk_frozen BK805.out 1
                  have hfz45_2 := blk_frozen BK805.out 2
                  try go_wp2_with (first | ((with_reducible refine gate_callee (f := 132) rfl ?_); refine goesL_ (some 25) rfl rfl Try.func132 (by kernel_rfl) rfl #[.agg #[.int .i64 a0_0, .slice A0_1 l0_1.length c0_1, .int .i64 a0_2], .int .i64 x6_1] rfl (by (try simp only [List.map_toArray, List.map_cons, List.map_nil]); first | done | rfl | (simp only [List.length_drop, List.length_take]; rfl)) ?_; (with_reducible refine (mask_Mask_asks.calls a0_0 _ _ l0_1 a0_2 x6_1 t809 _ ?side1 ?side2 A9.out).mono ?_); (case side1 => repeat (first | exact (Kd.C_below HR0_1.out HB.out) | (with_reducible refine Kd.C_alloc ?_ _) | (with_reducible refine Kd.C_drewN ?_ _) | (with_reducible refine Kd.C_drew ?_))); (case side2 => exact HC0_1.out); rintro e w46 ⟨rfl, hb⟩; refine ⟨_, rfl, ?_⟩; have n0_ := Aside0.mk (Kd.R_below (by (with_reducible repeat (first | apply Kd.R_alloc | apply Kd.R_drewN | apply Kd.R_drew)); exact HO_5.out) hb); have n1_ := Aside0.mk (blk_below (g := gb805) (o := .cells #[.int .i64 a0_0, .slice A0_1 l0_1.length c0_1, .int .i64 a0_2] 28 (0, 0)) (by (with_reducible repeat (first | refine blk_drewN ?_ _ | refine blk_drew ?_ | refine blk_alloc ?_ _)); exact BK805.out) hb); have n2_ := Aside0.mk (below_step (by repeat (first | (with_reducible first | exact HB.out | apply below_alloc | apply pw_below_drewN | apply below_drew1 | refine below_set ?_ GE805.out) | exact HB.out)) hb); clear HO_5; clear BK805; clear HB; have HO_5 := n0_; have BK805 := n1_; have HB := n2_; clear n0_ n1_ n2_; (try clear hb); (try clear hb2); (try clear hk); (try clear hi)))
                  have n0_ := Aside0.mk (Kd.R_drew HO_5.out)
                  have n1_ := Aside0.mk (blk_drew BK805.out)
                  have n2_ := Aside0.mk (below_drew1 HB.out)
                  clear HO_5
                  clear BK805
                  clear HB
                  have HO_5 := n0_
                  have BK805 := n1_
                  have HB := n2_
                  clear n0_ n1_ n2_
                  obtain ⟨Ao48, co48, eo48⟩ := Kd.R_slice HO_5.out
                  (first | subst eo48 | (injection eo48 with f1_ f2_ f3_; have f4_ := f1_.symm; have f5_ := f3_.symm; clear f1_ f2_ f3_; subst f4_; subst f5_))
                  have p814 : 0 ≤ (x6_1 : Int) := of_decide_eq_true (by first | (with_reducible assumption) | assumption)
                  have q814 : x6_1 < (t806.length : Int) := of_decide_eq_true (by first | (with_reducible assumption) | assumption)
                  obtain ⟨ad814, e814, hx814_0⟩ := Kd.at_int (Kd.R_reads' HO_5.out).2.2 x6_1 p814 q814
                  cases e814
                  replace p814 := eq_true p814
                  replace q814 := eq_true q814
                  refine start_ (n := 12) (S := fun w' => w'.cell? ⟨gb805, 0, none⟩ = some (.int .i64 a0_0) ∧ w'.cell? ⟨gb805, 1, none⟩ = some (.slice A0_1 l0_1.length c0_1) ∧ w'.cell? ⟨gb805, 2, none⟩ = some (.int .i64 a0_2) ∧ w'.cell? (ad814.add (x6_1).toNat) = some (.int .i64 (rd t806 x6_1))) (ds := []) #[false, false, false, false, false, false, false, false, false, false, false, false] (by kernel_rfl) rfl rfl ⟨(blk_cell BK805.out 0).trans rfl, (blk_cell BK805.out 1).trans rfl, (blk_cell BK805.out 2).trans rfl, hx814_0⟩ (fun hHeld => ?_); refine with_tabW mask_Mask_nth.tab10 mask_Mask_nth.bits10 (fun HT_ HW_ => ?_)
                  generalize w46.drew = w47 at HO_5 BK805 HB hx814_0 hHeld ⊢
                  refine pure_ (i := 0) (N := some 44) (v := ?_) (a' := ?_) #[true, false, false, false, false, false, false, false, false, false, false, false] rfl rfl (any_of HT_.out (by kernel_rfl)) (fun _ _ _ h => h) (Or.inl ⟨by rfl, ?_⟩) ?_ ?_
                  rotate_left
                  · intro w'
                    go_simp
                    with_reducible rfl
                  rotate_left
                  · simp only [Act.put, List.setIfInBounds_toArray, List.set_cons_zero, List.set_cons_succ, i64_w, i32_w]
                    rfl
                  refine pure_ (i := 1) (N := some 45) (v := ?_) (a' := ?_) #[true, true, false, false, false, false, false, false, false, false, false, false] rfl rfl (any_of HT_.out (by kernel_rfl)) (fun _ _ _ h => h) (Or.inl ⟨by rfl, ?_⟩) ?_ ?_
                  rotate_left
                  · intro w'
                    go_simp
                    with_reducible rfl
                  rotate_left
                  · simp only [Act.put, List.setIfInBounds_toArray, List.set_cons_zero, List.set_cons_succ, i64_w, i32_w]
                    rfl
                  refine pure_ (i := 2) (N := some 46) (v := ?_) (a' := ?_) #[true, true, true, false, false, false, false, false, false, false, false, false] rfl rfl (any_of HT_.out (by kernel_rfl)) (fun _ _ _ h => h) (Or.inl ⟨by rfl, ?_⟩) ?_ ?_
                  rotate_left
                  · intro w'
                    go_simp
                    with_reducible rfl
                  rotate_left
                  · simp only [Act.put, List.setIfInBounds_toArray, List.set_cons_zero, List.set_cons_succ, i64_w, i32_w]
                    rfl
                  refine pure_ (i := 5) (N := some 49) (v := ?_) (a' := ?_) #[true, true, true, false, false, true, false, false, false, false, false, false] rfl rfl (any_of HT_.out (by kernel_rfl)) (fun _ _ _ h => h) (Or.inl ⟨by rfl, ?_⟩) ?_ ?_
                  rotate_left
                  · intro w'
                    go_simp
                    with_reducible rfl
                  rotate_left
                  · simp only [Act.put, List.setIfInBounds_toArray, List.set_cons_zero, List.set_cons_succ, i64_w, i32_w]
                    rfl
                  refine pure_ (i := 7) (N := some 51) (v := ?_) (a' := ?_) #[true, true, true, false, false, true, false, true, false, false, false, false] rfl rfl (any_of HT_.out (by kernel_rfl)) (fun _ _ _ h => h) (Or.inl ⟨by rfl, ?_⟩) ?_ ?_
                  rotate_left
                  · intro w'
                    go_simp
                    with_reducible rfl
                  rotate_left
                  · simp only [Act.put, List.setIfInBounds_toArray, List.set_cons_zero, List.set_cons_succ, i64_w, i32_w]
                    rfl
                  refine take_ (i := 3) (N := some 47) (v := ?_) (a' := ?_) #[true, true, true, true, false, true, false, true, false, false, false, false] rfl rfl (take_ofW HT_.out HW_.out (by kernel_rfl)) (fun _ _ _ h => h) (Or.inl ⟨by rfl, ?_⟩) hHeld ?_ ?_
                  rotate_left
                  · rintro w' ⟨s0, s1, s2, s3⟩
                    go_simp
                    with_reducible rfl
                  rotate_left
                  · simp only [Act.put, List.setIfInBounds_toArray, List.set_cons_zero, List.set_cons_succ, i64_w, i32_w]
                    rfl
                  refine take_ (i := 4) (N := some 48) (v := ?_) (a' := ?_) #[true, true, true, true, true, true, false, true, false, false, false, false] rfl rfl (take_ofW HT_.out HW_.out (by kernel_rfl)) (fun _ _ _ h => h) (Or.inl ⟨by rfl, ?_⟩) hHeld ?_ ?_
                  rotate_left
                  · rintro w' ⟨s0, s1, s2, s3⟩
                    go_simp
                    with_reducible rfl
                  rotate_left
                  · simp only [Act.put, List.setIfInBounds_toArray, List.set_cons_zero, List.set_cons_succ, i64_w, i32_w]
                    rfl
                  refine one_ (i := 6) (N := some 50) #[true, true, true, true, true, true, true, true, false, false, false, false] rfl rfl (one_of HT_.out (by kernel_rfl)) (by decide) (fun K hK => ?_)
                  refine goes_ Try.func132 (by kernel_rfl) rfl #[.agg #[.int .i64 a0_0, .slice A0_1 l0_1.length c0_1, .int .i64 a0_2], .int .i64 x6_1] (by rfl) rfl rfl (by (try simp only [List.map_toArray, List.map_cons, List.map_nil]); first | done | rfl | (simp only [List.length_drop, List.length_take]; rfl)) ?_
                  with_reducible refine (mask_Mask_asks.calls a0_0 _ _ l0_1 a0_2 x6_1 t815 _ ?side1 ?side2 A35.out).mono ?_
                  (case side1 => repeat (first | exact (Kd.C_below HR0_1.out HB.out) | (with_reducible refine Kd.C_alloc ?_ _) | (with_reducible refine Kd.C_drewN ?_ _) | (with_reducible refine Kd.C_drew ?_)))
                  (case side2 => exact HC0_1.out)
                  rintro e w49 ⟨rfl, hb⟩
                  have HS3_ := (hb.cell (World.block_lt_of_cell? _ _ (hHeld.2.2.2))).trans (hHeld.2.2.2)
                  refine ⟨_, rfl, ?_⟩
                  have n0_ := Aside0.mk (Kd.R_below (by (with_reducible repeat (first | apply Kd.R_alloc | apply Kd.R_drewN | apply Kd.R_drew)); exact HO_5.out) hb)
                  have n1_ := Aside0.mk (blk_below (g := gb805) (o := .cells #[.int .i64 a0_0, .slice A0_1 l0_1.length c0_1, .int .i64 a0_2] 28 (0, 0)) (by (with_reducible repeat (first | refine blk_drewN ?_ _ | refine blk_drew ?_ | refine blk_alloc ?_ _)); exact BK805.out) hb)
                  have n2_ := Aside0.mk (below_step (by repeat (first | (with_reducible first | exact HB.out | apply below_alloc | apply pw_below_drewN | apply below_drew1 | refine below_set ?_ GE805.out) | exact HB.out)) hb)
                  clear HO_5
                  clear BK805
                  clear HB
                  have HO_5 := n0_
                  have BK805 := n1_
                  have HB := n2_
                  clear n0_ n1_ n2_
                  (try clear hb)
                  (try clear hb2)
                  (try clear hk)
                  (try clear hi)
                  refine hK.out _ _ ⟨(blk_cell BK805.out 0).trans rfl, (blk_cell BK805.out 1).trans rfl, (blk_cell BK805.out 2).trans rfl, HS3_⟩ (fun hHeld => ?_)
                  clear hK K
                  refine norm_ (a' := ?_) ?_ ?_
                  rotate_left
                  · show Act.put _ (some 50) _ = _
                    simp only [Act.put, List.setIfInBounds_toArray, List.set_cons_zero, List.set_cons_succ, i64_w, i32_w]
                    rfl
                  refine pure_ (i := 8) (N := some 52) (v := ?_) (a' := ?_) #[true, true, true, true, true, true, true, true, true, false, false, false] rfl rfl (any_of HT_.out (by kernel_rfl)) (fun _ _ _ h => h) (Or.inl ⟨by rfl, ?_⟩) ?_ ?_
                  rotate_left
                  · intro w'
                    go_simp
                    with_reducible rfl
                  rotate_left
                  · simp only [Act.put, List.setIfInBounds_toArray, List.set_cons_zero, List.set_cons_succ, i64_w, i32_w]
                    rfl
                  refine pure_ (i := 9) (N := some 53) (v := ?_) (a' := ?_) #[true, true, true, true, true, true, true, true, true, true, false, false] rfl rfl (any_of HT_.out (by kernel_rfl)) (fun _ _ _ h => h) (Or.inl ⟨by rfl, ?_⟩) ?_ ?_
                  rotate_left
                  · intro w'
                    go_simp
                    with_reducible rfl
                  rotate_left
                  · simp only [Act.put, List.setIfInBounds_toArray, List.set_cons_zero, List.set_cons_succ, i64_w, i32_w]
                    rfl
                  refine pure_ (i := 10) (N := some 54) (v := ?_) (a' := ?_) #[true, true, true, true, true, true, true, true, true, true, true, false] rfl rfl (any_of HT_.out (by kernel_rfl)) (fun _ _ _ h => h) (Or.inl ⟨by rfl, ?_⟩) ?_ ?_
                  rotate_left
                  · intro w'
                    go_simp
                    with_reducible rfl
                  rotate_left
                  · simp only [Act.put, List.setIfInBounds_toArray, List.set_cons_zero, List.set_cons_succ, i64_w, i32_w]
                    rfl
                  refine pure_ (i := 11) (N := some 11) (v := ?_) (a' := ?_) #[true, true, true, true, true, true, true, true, true, true, true, true] rfl rfl (any_of HT_.out (by kernel_rfl)) (fun _ _ _ h => h) (Or.inl ⟨by rfl, ?_⟩) ?_ ?_
                  rotate_left
                  · intro w'
                    go_simp
                    with_reducible rfl
                  rotate_left
                  · simp only [Act.put, List.setIfInBounds_toArray, List.set_cons_zero, List.set_cons_succ, i64_w, i32_w]
                    rfl
                  refine done_ (done_of HT_.out (by kernel_rfl)) ?_
                  try go_wp2
                  go_roundg k1
                  case measure => have := HK1.out; omega
                  case rel => exact ⟨(x1_1), (x6_1), (wrap64 (x7_1 * 2)), (wrap64 (x18_1 + 1)), (by first | rfl | (simp; done) | (simp [*]; done)), (by first | rfl | (simp; done) | (simp [*]; done)), (by first | rfl | (simp; done) | (simp [*]; done)), (by first | rfl | (simp; done) | (simp [*]; done)), H', ⟨by have := HK1.out; omega⟩, ⟨by (with_reducible repeat (first | apply Kd.R_alloc | apply Kd.R_drewN | apply Kd.R_drew)); exact HO_5.out⟩, ⟨by (with_reducible repeat (first | refine blk_drewN ?_ _ | refine blk_drew ?_ | refine blk_alloc ?_ _)); exact BK805.out⟩, ⟨by repeat (first | (with_reducible first | exact HB.out | apply below_alloc | apply pw_below_drewN | apply below_drew1 | refine below_set ?_ GE805.out) | exact HB.out)⟩⟩
              · rw [if_neg c37] at H
                exact absurd H (by simp)
            · rw [if_neg c34] at H
              exact absurd H (by simp)
          · rw [if_neg c33] at H
            exact absurd H (by simp)
      · rw [if_neg c8] at H
        have c8b0 : decide (x18_1 < a0_0) = false := decide_eq_false c8
        clear c8
        obtain rfl := Option.some.inj H
        go_wp2
        go_ret
        exact ⟨by first | rfl | (simp [errW_none, errW_some] <;> rfl) | (simp [*, errW_none, errW_some] <;> rfl), by repeat (first | (with_reducible first | exact HB.out | apply below_alloc | apply pw_below_drewN | apply below_drew1 | refine below_set ?_ GE805.out) | exact HB.out)⟩
end Go.Proofs.Ytlplphgoldkoeaa.X
end

section
set_option linter.unusedVariables false
set_option linter.unusedSimpArgs false
namespace Go.Proofs.Ytlplphgoldkoeaa.X
open Go.RowKit Go.Proofs.YtlplphgoldkoeaaW.PrintWords Go.Proofs.YtlplphgoldkoeaaW.PrintLast Go.Proofs.YtlplphgoldkoeaaW.PrintMore
attribute [local go_sem] max2_int min2_int max_two min_two max_three min_three max_four min_four   -- for this text's walks alone
set_option linter.unusedVariables false
set_option linter.unusedSimpArgs false
def cantingref02_points.l0 : Nat → List Int → List Bool → Int → Int → Option (List Int)
  | 0, _, _, _, _ => none
  | k + 1, x3, x7, x8, x9 => if x9 < x8 then (if 0 ≤ x9 then (if x9 < (x7.length : Int) then (if rdOf false x7 x9 = true then (if x3.length < 17592186044416 then (cantingref02_points.l0 k (x3 ++ [x9]) x7 x8 (wrap64 (x9 + 1))) else (none)) else (cantingref02_points.l0 k x3 x7 x8 (wrap64 (x9 + 1)))) else (none)) else (none)) else (some x3)
def cantingref02_points.f (k : Nat) (a0_0 : Int) (l0_1 : List (S106)) (a0_2 : Int) : Option (List Int) := (cantingref02_table.f k a0_0 l0_1 a0_2).bind fun t793 => (cantingref02_points.l0 k ([] : List Int) t793 (t793.length : Int) 0)
theorem cantingref02_points.mono_l : ∀ k, (∀ y0 y1 y2 y3, LeO (cantingref02_points.l0 k y0 y1 y2 y3) (cantingref02_points.l0 (k + 1) y0 y1 y2 y3))
  | 0 => fun _ _ _ _ r h => by simp [cantingref02_points.l0] at h
  | k + 1 => by
    have ih0 := cantingref02_points.mono_l k
    · intro y0 y1 y2 y3
      unfold cantingref02_points.l0
      repeat' first
      | (with_reducible exact ih0 _ _ _ _)
      | (with_reducible exact cantingref02_table.mono _ _ _ _)
      | (with_reducible exact LeO.refl _)
      | (with_reducible exact LeO.none _)
      | (with_reducible refine LeO.ite ?_ ?_)
      | (with_reducible refine LeO.bind ?_ (fun _ => ?_))
      | exact ih0 _ _ _ _
      | exact cantingref02_table.mono _ _ _ _
      | exact LeO.none _
      | refine LeO.ite ?_ ?_
      | refine LeO.bind ?_ (fun _ => ?_)
theorem cantingref02_points.mono : ∀ a0 a1 a2 k, LeO (cantingref02_points.f k a0 a1 a2) (cantingref02_points.f (k + 1) a0 a1 a2) := by
  intro a0 a1 a2 k
  have ih0 := cantingref02_points.mono_l k
  unfold cantingref02_points.f
  repeat' first
      | (with_reducible exact ih0 _ _ _ _)
      | (with_reducible exact cantingref02_table.mono _ _ _ _)
      | (with_reducible exact LeO.refl _)
      | (with_reducible exact LeO.none _)
      | (with_reducible refine LeO.ite ?_ ?_)
      | (with_reducible refine LeO.bind ?_ (fun _ => ?_))
      | exact ih0 _ _ _ _
      | exact cantingref02_table.mono _ _ _ _
      | exact LeO.none _
      | refine LeO.ite ?_ ?_
      | refine LeO.bind ?_ (fun _ => ?_)
set_option maxHeartbeats 8000000 in
set_option maxRecDepth 100000 in
theorem cantingref02_points.calls (k : Nat) (a0_0 : Int) (A0_1 : Option Addr) (c0_1 : Nat) (l0_1 : List (S106)) (a0_2 : Int) (r : List Int) (w : World) (hr0_1 : Kd.C k106 w A0_1 l0_1.length l0_1) (hc0_1 : l0_1.length ≤ c0_1) (h : cantingref02_points.f k a0_0 l0_1 a0_2 = some r) :
    Calls Try.prog 109 #[.agg #[.int .i64 a0_0, .slice A0_1 l0_1.length c0_1, .int .i64 a0_2]] w fun e w' => ∃ v0_ : Value, e = .returned (v0_) ∧ Kd.R (Kd.int .i64) 3 w' w.heap.size (fun _ => True) v0_ r ∧ Below w.heap.size w w' := by
  have hu33 := Try.underlying33
  have HR0_1 := Aside0.mk hr0_1
  have HC0_1 := Aside0.mk hc0_1
  clear hr0_1 hc0_1
  have HB := Aside0.mk (Below.refl w.heap.size w)
  have H : ((cantingref02_table.f k a0_0 l0_1 a0_2).bind fun t793 => (cantingref02_points.l0 k ([] : List Int) t793 (t793.length : Int) 0)) = some r := h
  clear h
  replace H := Option.bind_eq_some_iff.mp H
  obtain ⟨t793, A20, H⟩ := H
  replace H : (cantingref02_points.l0 k ([] : List Int) t793 (t793.length : Int) 0) = some r := H
  have A2 := Aside0.mk A20
  clear A20
  have H' := Aside0.mk H
  clear H
  go_enter Try.func109, Try.ntmps109
  go_wp2_with (first | ((with_reducible refine gate_dst (N := 1) rfl ?_); refine box_event ?hg (N := 1) ?hd (cs := #[.int .i64 a0_0, .slice A0_1 l0_1.length c0_1, .int .i64 a0_2]) (t := 33) ?hr ?_; (case hd => rfl); (case hg => rfl); (case hr => first | (go_simp; done) | (go_simp; rfl)); intro gb792 hg w3 hbox hb; have n0_ := Aside0.mk (below_step (by repeat (first | (with_reducible first | exact HB.out | apply below_alloc | apply pw_below_drewN | apply below_drew1) | exact HB.out)) hb); have n1_ := Aside0.mk (hbox); have n2_ := Aside0.mk ((by rw [hg]; exact (below_size (by repeat (first | (with_reducible first | exact HB.out | apply below_alloc | apply pw_below_drewN | apply below_drew1) | exact HB.out))) : w.heap.size ≤ gb792)); have n3_ := Aside0.mk ((by rw [hg]; exact (below_size (by repeat (first | (with_reducible first | exact HB.out | apply below_alloc | apply pw_below_drewN | apply below_drew1) | exact HB.out))) : w.heap.size ≤ gb792)); clear HB; have HB := n0_; have BK792 := n1_; have GW792 := n2_; have GE792 := n3_; clear n0_ n1_ n2_ n3_; clear hb hbox hg; have hcz4_0 : w3.cell? ⟨gb792, 0, none⟩ = some (.int .i64 a0_0) := (blk_cell BK792.out 0).trans rfl; have hcz4_1 : w3.cell? ⟨gb792, 1, none⟩ = some (.slice A0_1 l0_1.length c0_1) := (blk_cell BK792.out 1).trans rfl; have hcz4_2 : w3.cell? ⟨gb792, 2, none⟩ = some (.int .i64 a0_2) := (blk_cell BK792.out 2).trans rfl; have hfz4_0 := blk_frozen BK792.out 0; have hfz4_1 := blk_frozen BK792.out 1; have hfz4_2 := blk_frozen BK792.out 2) | ((with_reducible refine gate_callee (f := 93) rfl ?_); refine goesL_ (some 7) rfl rfl Try.func93 (by kernel_rfl) rfl #[.agg #[.int .i64 a0_0, .slice A0_1 l0_1.length c0_1, .int .i64 a0_2]] rfl (by (try simp only [List.map_toArray, List.map_cons, List.map_nil]); first | done | rfl | (simp only [List.length_drop, List.length_take]; rfl)) ?_; (with_reducible refine (cantingref02_table.calls k a0_0 _ _ l0_1 a0_2 t793 _ ?side1 ?side2 A2.out).mono ?_); (case side1 => repeat (first | exact (Kd.C_below HR0_1.out HB.out) | (with_reducible refine Kd.C_alloc ?_ _) | (with_reducible refine Kd.C_drewN ?_ _) | (with_reducible refine Kd.C_drew ?_))); (case side2 => exact HC0_1.out); rintro e w5 ⟨v794, rfl, ho0, hb⟩; refine ⟨_, rfl, ?_⟩; have n0_ := Aside0.mk (Kd.R_lower ho0 (below_size (by repeat (first | (with_reducible first | exact HB.out | apply below_alloc | apply pw_below_drewN | apply below_drew1 | refine below_set ?_ GE792.out) | exact HB.out)))); have n1_ := Aside0.mk (blk_below (g := gb792) (o := .cells #[.int .i64 a0_0, .slice A0_1 l0_1.length c0_1, .int .i64 a0_2] 33 (0, 0)) (by (with_reducible repeat (first | refine blk_drewN ?_ _ | refine blk_drew ?_ | refine blk_alloc ?_ _)); exact BK792.out) hb); have n2_ := Aside0.mk (below_step (by repeat (first | (with_reducible first | exact HB.out | apply below_alloc | apply pw_below_drewN | apply below_drew1 | refine below_set ?_ GE792.out) | exact HB.out)) hb); clear BK792; clear HB; have HO795 := n0_; have BK792 := n1_; have HB := n2_; clear n0_ n1_ n2_; (try clear hb); (try clear hb2); (try clear hk); (try clear hi); (try clear ho0); obtain ⟨Ao6, co6, eo6⟩ := Kd.R_slice HO795.out; subst eo6))
  go_loopg [3, 9] k (fun kq v3 v9 w' => ∃ (x3_1 : List Int) (x9_1 : Int), v9 = .int .i64 x9_1 ∧ Aside0 (cantingref02_points.l0 kq x3_1 t793 (t793.length : Int) x9_1 = some r) ∧ Aside0 (kq ≤ k) ∧ Aside0 (Kd.R (Kd.int .i64) 3 w' w.heap.size (fun _ => True) v3 x3_1) ∧ Aside0 (Kd.R Kd.bool 4 w' w.heap.size (fun _ => True) (.slice Ao6 t793.length co6) t793) ∧ Aside0 (w'.heap[gb792]? = some (.cells #[.int .i64 a0_0, (.slice A0_1 l0_1.length c0_1), .int .i64 a0_2] 33 (0, 0))) ∧ Aside0 (Below w.heap.size w w'))
  case atStart => exact ⟨(([] : List Int)), (0), (by first | rfl | (simp; done) | (simp [*]; done)), H', ⟨Nat.le_refl _⟩, ⟨by first | exact Kd.R_nil _ _ _ _ _ | exact Kd.N_nil _ _ _ _ _ | exact Kd.V_nil _ _ _ _ _ | exact Kd.Q_nil _ _ _ _ _ | exact Kd.S_nil _ _ _ _ _⟩, ⟨by (with_reducible repeat (first | apply Kd.R_alloc | apply Kd.R_drewN | apply Kd.R_drew)); exact HO795.out⟩, ⟨by (with_reducible repeat (first | refine blk_drewN ?_ _ | refine blk_drew ?_ | refine blk_alloc ?_ _)); exact BK792.out⟩, ⟨by repeat (first | (with_reducible first | exact HB.out | apply below_alloc | apply pw_below_drewN | apply below_drew1 | refine below_set ?_ GE792.out) | exact HB.out)⟩⟩
  case round =>
    clear H'
    try clear c1
    try clear p2
    try clear hcz4_0
    try clear hcz4_1
    try clear hcz4_2
    try clear hfz4_0
    try clear hfz4_1
    try clear hfz4_2
    obtain ⟨x3_1, x9_1, rfl, HA, HK1, HO_3, HO_7, BK792, HB⟩ := hrel
    cases gk with
    | zero => exact absurd HA.out (by simp [cantingref02_points.l0])
    | succ k1 =>
      have H := HA.out
      clear HA
      simp only [cantingref02_points.l0] at H
      by_cases c7 : x9_1 < (t793.length : Int)
      · rw [if_pos c7] at H
        have c7b0 : decide (x9_1 < (t793.length : Int)) = true := decide_eq_true c7
        clear c7
        by_cases c8 : 0 ≤ x9_1
        · rw [if_pos c8] at H
          have c8b0 : decide (0 ≤ x9_1) = true := decide_eq_true c8
          clear c8
          by_cases c9 : x9_1 < (t793.length : Int)
          · rw [if_pos c9] at H
            have c9b0 : decide (x9_1 < (t793.length : Int)) = true := decide_eq_true c9
            clear c9
            obtain ⟨bq10, hbq10⟩ : ∃ b_ : Bool, b_ = (rdOf false t793 x9_1) := ⟨_, rfl⟩
            replace H : (if bq10 = true then (if x3_1.length < 17592186044416 then (cantingref02_points.l0 k1 (x3_1 ++ [x9_1]) t793 (t793.length : Int) (wrap64 (x9_1 + 1))) else (none)) else (cantingref02_points.l0 k1 x3_1 t793 (t793.length : Int) (wrap64 (x9_1 + 1)))) = some r := by rw [← hbq10] at H; exact H
            have Nbq10 := Aside0.mk hbq10
            clear hbq10
            by_cases c11 : bq10 = true
            · subst c11
              have H1 : (if x3_1.length < 17592186044416 then (cantingref02_points.l0 k1 (x3_1 ++ [x9_1]) t793 (t793.length : Int) (wrap64 (x9_1 + 1))) else (none)) = some r := by rw [if_pos rfl] at H; exact H
              clear H
              have H := H1
              clear H1
              by_cases c12 : x3_1.length < 17592186044416
              · rw [if_pos c12] at H
                have LMc12 := Aside0.mk c12
                clear c12
                obtain ⟨y797, hy797⟩ : ∃ y_ : List Int, y_ = (x3_1 ++ [x9_1]) := ⟨_, rfl⟩
                replace H : (cantingref02_points.l0 k1 y797 t793 (t793.length : Int) (wrap64 (x9_1 + 1))) = some r := by first | (rw [hy797]; with_reducible exact H) | (have H2_ := (Option.bind_some _ _).symm.trans H; rw [hy797]; with_reducible exact H2_) | (have H2_ := (Option.bind_some _ _).symm.trans H; with_reducible exact H2_) | with_reducible exact H | (rw [hy797]; exact H) | exact H
                have Ny797 := Aside0.mk hy797
                clear hy797
                have H' := Aside0.mk H
                clear H
                have p796 : 0 ≤ (x9_1 : Int) := of_decide_eq_true (by first | (with_reducible assumption) | assumption)
                have q796 : x9_1 < (t793.length : Int) := of_decide_eq_true (by first | (with_reducible assumption) | assumption)
                obtain ⟨ad796, e796, hx796_0⟩ := Kd.at_bool (Kd.R_reads' HO_7.out).2.2 x9_1 p796 q796
                (try rw [← Nbq10.out] at hx796_0)
                cases e796
                replace p796 := eq_true p796
                replace q796 := eq_true q796
                go_wp2_with (first | ((with_reducible refine gate_builtin (b := .append) (xs := #[.tmp 15, .tmp 17]) rfl ?_); at_builtin; refine Kd.R_append (Kd.int .i64) (w0 := w) w.heap.size rfl (.tmp 15) (.tmp 17) 82 3 (.int .i64 0) 8 rfl Try.underlying82 info3 rfl (by decide) (by omega) u3 x3_1 x9_1 [.int .i64 x9_1] (fun _ => True) (fun _ => False) rfl rfl ?aP (fun _ hk => hk.elim) ?aF ?aO ?aB ?aS ?aL ?_; (case aP => exact rfl); (case aB => exact (by repeat (first | (with_reducible first | exact HB.out | apply below_alloc | apply pw_below_drewN | apply below_drew1 | refine below_set ?_ GE792.out) | exact HB.out))); (case aF => exact (fun _ _ => trivial)); (case aO => exact (by (with_reducible repeat (first | apply Kd.R_alloc | apply Kd.R_drewN | apply Kd.R_drew)); exact HO_3.out)); (case aS => exact (below_size (by repeat (first | (with_reducible first | exact HB.out | apply below_alloc | apply pw_below_drewN | apply below_drew1 | refine below_set ?_ GE792.out) | exact HB.out)))); (case aL => have := LMc12.out; omega); intro v798 w13 ho hb hg hat; rw [← Ny797.out] at ho; have n0_ := Aside0.mk (Kd.R_over' (by (with_reducible repeat (first | apply Kd.R_alloc | apply Kd.R_drewN | apply Kd.R_drew)); exact HO_7.out) (Kd.R_typed (by (with_reducible repeat (first | apply Kd.R_alloc | apply Kd.R_drewN | apply Kd.R_drew)); exact HO_3.out)) (by decide) hg); have n1_ := Aside0.mk (blk_grown (g := gb792) (o := .cells #[.int .i64 a0_0, .slice A0_1 l0_1.length c0_1, .int .i64 a0_2] 33 (0, 0)) (by (with_reducible repeat (first | refine blk_drewN ?_ _ | refine blk_drew ?_ | refine blk_alloc ?_ _)); exact BK792.out) hg (Kd.R_ne HO_3.out BK792.out (by decide))); have n2_ := Aside0.mk (hb); have n3_ := Aside0.mk (ho); clear HO_7; clear BK792; clear HB; clear HO_3; have HO_7 := n0_; have BK792 := n1_; have HB := n2_; have HO799 := n3_; clear n0_ n1_ n2_ n3_; clear ho hb hg hat))
                go_roundg k1
                case measure => have := HK1.out; omega
                case rel => exact ⟨(y797), (wrap64 (x9_1 + 1)), (by first | rfl | (simp; done) | (simp [*]; done)), H', ⟨by have := HK1.out; omega⟩, ⟨by (with_reducible repeat (first | apply Kd.R_alloc | apply Kd.R_drewN | apply Kd.R_drew)); exact HO799.out⟩, ⟨by (with_reducible repeat (first | apply Kd.R_alloc | apply Kd.R_drewN | apply Kd.R_drew)); exact HO_7.out⟩, ⟨by (with_reducible repeat (first | refine blk_drewN ?_ _ | refine blk_drew ?_ | refine blk_alloc ?_ _)); exact BK792.out⟩, ⟨by repeat (first | (with_reducible first | exact HB.out | apply below_alloc | apply pw_below_drewN | apply below_drew1 | refine below_set ?_ GE792.out) | exact HB.out)⟩⟩
              · rw [if_neg c12] at H
                exact absurd H (by simp)
            · replace c11 := Bool.eq_false_iff.mpr c11
              subst c11
              have H1 : (cantingref02_points.l0 k1 x3_1 t793 (t793.length : Int) (wrap64 (x9_1 + 1))) = some r := by rw [if_neg (show ¬ (false = true) by decide)] at H; exact H
              clear H
              have H := H1
              clear H1
              have H' := Aside0.mk H
              clear H
              have p796 : 0 ≤ (x9_1 : Int) := of_decide_eq_true (by first | (with_reducible assumption) | assumption)
              have q796 : x9_1 < (t793.length : Int) := of_decide_eq_true (by first | (with_reducible assumption) | assumption)
              obtain ⟨ad796, e796, hx796_0⟩ := Kd.at_bool (Kd.R_reads' HO_7.out).2.2 x9_1 p796 q796
              (try rw [← Nbq10.out] at hx796_0)
              cases e796
              replace p796 := eq_true p796
              replace q796 := eq_true q796
              go_wp2
              go_roundg k1
              case measure => have := HK1.out; omega
              case rel => exact ⟨(x3_1), (wrap64 (x9_1 + 1)), (by first | rfl | (simp; done) | (simp [*]; done)), H', ⟨by have := HK1.out; omega⟩, ⟨by (with_reducible repeat (first | apply Kd.R_alloc | apply Kd.R_drewN | apply Kd.R_drew)); exact HO_3.out⟩, ⟨by (with_reducible repeat (first | apply Kd.R_alloc | apply Kd.R_drewN | apply Kd.R_drew)); exact HO_7.out⟩, ⟨by (with_reducible repeat (first | refine blk_drewN ?_ _ | refine blk_drew ?_ | refine blk_alloc ?_ _)); exact BK792.out⟩, ⟨by repeat (first | (with_reducible first | exact HB.out | apply below_alloc | apply pw_below_drewN | apply below_drew1 | refine below_set ?_ GE792.out) | exact HB.out)⟩⟩
          · rw [if_neg c9] at H
            exact absurd H (by simp)
        · rw [if_neg c8] at H
          exact absurd H (by simp)
      · rw [if_neg c7] at H
        have c7b0 : decide (x9_1 < (t793.length : Int)) = false := decide_eq_false c7
        clear c7
        obtain rfl := Option.some.inj H
        go_wp2
        go_ret
        exact ⟨_, by first | rfl | (simp [errW_none, errW_some] <;> rfl) | (simp [*, errW_none, errW_some] <;> rfl), by (with_reducible repeat (first | apply Kd.R_alloc | apply Kd.R_drewN | apply Kd.R_drew)); exact HO_3.out, by repeat (first | (with_reducible first | exact HB.out | apply below_alloc | apply pw_below_drewN | apply below_drew1 | refine below_set ?_ GE792.out) | exact HB.out)⟩
end Go.Proofs.Ytlplphgoldkoeaa.X
end

section
set_option linter.unusedVariables false
set_option linter.unusedSimpArgs false
namespace Go.Proofs.Ytlplphgoldkoeaa.HTab
open Go.RowKit Go.Proofs.YtlplphgoldkoeaaW.PrintWords Go.Proofs.YtlplphgoldkoeaaW.PrintLast Go.Proofs.YtlplphgoldkoeaaW.PrintMore Go.Proofs.Ytlplphgoldkoeaa.HMap Go.Proofs.Ytlplphgoldkoeaa.X
set_option linter.unusedVariables false
set_option linter.unusedSimpArgs false
def ptsL : Nat → List Bool → List Int
  | _, [] => []
  | o, b :: t => if b then (o : Int) :: ptsL (o + 1) t else ptsL (o + 1) t
theorem ptsL_append : ∀ (a b : List Bool) (o : Nat), ptsL o (a ++ b) = ptsL o a ++ ptsL (o + a.length) b
  | [], b, o => by simp [ptsL]
  | x :: a, b, o => by
    have := ptsL_append a b (o + 1)
    have e : o + 1 + a.length = o + (a.length + 1) := by omega
    simp only [List.cons_append, ptsL, List.length_cons, this, e]
    split <;> simp
theorem ptsL_len : ∀ (t : List Bool) (o : Nat), (ptsL o t).length = cntL t
  | [], o => rfl
  | true :: t, o => by
    have := ptsL_len t (o + 1)
    unfold cntL at *
    simp [ptsL, this]
  | false :: t, o => by
    have := ptsL_len t (o + 1)
    unfold cntL at *
    simp [ptsL, this]
theorem rdI_left {a b : List Int} {i : Int} (h0 : 0 ≤ i) (h : i < a.length) : rd (a ++ b) i = rd a i := by
  unfold rd
  rw [List.getD_eq_getElem?_getD, List.getElem?_append_left (by omega), ← List.getD_eq_getElem?_getD]
theorem rdI_right {a b : List Int} {i : Int} (h0 : 0 ≤ i) (h : a.length ≤ i) : rd (a ++ b) i = rd b (i - a.length) := by
  unfold rd
  rw [List.getD_eq_getElem?_getD, List.getElem?_append_right (by omega), ← List.getD_eq_getElem?_getD]
  congr 1
  omega
theorem ptsL_rise : ∀ (t : List Bool) (o : Nat) (p : Int), ∃ q : Nat, q ≤ (ptsL o t).length ∧ ∀ i : Int, 0 ≤ i → i < (ptsL o t).length → (rd (ptsL o t) i < p ↔ i < q)
  | [], o, p => ⟨0, Nat.le_refl _, fun i h0 h1 => absurd h1 (by simp [ptsL]; omega)⟩
  | false :: t, o, p => by
    have := ptsL_rise t (o + 1) p
    simpa [ptsL] using this
  | true :: t, o, p => by
    have hge : ∀ (t : List Bool) (o : Nat) (i : Int), 0 ≤ i → i < (ptsL o t).length → (o : Int) ≤ rd (ptsL o t) i := by
      intro t
      induction t with
      | nil => intro o i h0 h1; simp [ptsL] at h1; omega
      | cons b t ih =>
        intro o i h0 h1
        cases b with
        | false =>
          have := ih (o + 1) i h0 (by simpa [ptsL] using h1)
          have e : rd (ptsL o (false :: t)) i = rd (ptsL (o + 1) t) i := by simp [ptsL]
          rw [e]; omega
        | true =>
          have e : ptsL o (true :: t) = [(o : Int)] ++ ptsL (o + 1) t := by simp [ptsL]
          rw [e] at h1 ⊢
          by_cases hi : i < 1
          · rw [rdI_left h0 (by simpa using hi)]
            have : i = 0 := by omega
            subst this
            exact Int.le_refl _
          · rw [rdI_right h0 (by simp; omega)]
            simp only [List.length_append, List.length_cons, List.length_nil] at h1 ⊢
            have := ih (o + 1) (i - 1) (by omega) (by omega)
            have e2 : i - ((0 + 1 : Nat) : Int) = i - 1 := by omega
            rw [e2]; omega
    have e : ptsL o (true :: t) = [(o : Int)] ++ ptsL (o + 1) t := by simp [ptsL]
    by_cases hp : (o : Int) < p
    · obtain ⟨q, q1, q2⟩ := ptsL_rise t (o + 1) p
      refine ⟨q + 1, by rw [e]; simp; omega, fun i h0 h1 => ?_⟩
      rw [e] at h1 ⊢
      simp only [List.length_append, List.length_cons, List.length_nil] at h1
      by_cases hi : i < 1
      · rw [rdI_left h0 (by simpa using hi)]
        have : i = 0 := by omega
        subst this
        show (o : Int) < p ↔ _
        omega
      · rw [rdI_right h0 (by simp; omega)]
        have e2 : i - (([(o : Int)].length : Nat) : Int) = i - 1 := by simp
        rw [e2, q2 (i - 1) (by omega) (by omega)]
        omega
    · refine ⟨0, Nat.zero_le _, fun i h0 h1 => ?_⟩
      have := hge (true :: t) o i h0 h1
      constructor <;> intro h <;> omega
theorem side_pl {T : TB} (hw : WO T) {p a : Int} {b : Bool} (hp : Pl T p) (ha : a < T.vars) : Pl T (sideP T p a b) := by
  by_cases h : asksP T p = a
  · rw [side_eq h]
    have h2 : 2 ≤ p := by
      by_cases h2 : 2 ≤ p
      · exact h2
      · rw [asks_lt (by omega)] at h; omega
    have ok := hw.ok p h2 hp.2
    have := hp.2
    cases b
    · exact ⟨ok.2.2.1, by simp only [Bool.false_eq_true, if_false]; omega⟩
    · exact ⟨ok.2.2.2.2.1, by simp only [if_true]; omega⟩
  · rwa [side_ne h]
theorem side_asks {T : TB} (hw : WO T) {p a : Int} {b : Bool} (hp : Pl T p) (ha : a < T.vars) (h1 : a ≤ asksP T p) : a + 1 ≤ asksP T (sideP T p a b) := by
  by_cases h : asksP T p = a
  · rw [side_eq h]
    have h2 : 2 ≤ p := by
      by_cases h2 : 2 ≤ p
      · exact h2
      · rw [asks_lt (by omega)] at h; omega
    have ok := hw.ok p h2 hp.2
    rw [asks_ge (by omega)] at h
    cases b
    · simp only [Bool.false_eq_true, if_false]; omega
    · simp only [if_true]; omega
  · rw [side_ne h]; omega
theorem nth_l0 (v : Int) (l : List S107) (r : Int) (hv : v ≤ 12) (hl : l.length < 1000000000) (hw : WO (TM v l)) : ∀ (m fu : Nat) (k at_ : Int) (o : Nat), (m : Int) ≤ v → m < fu → Pl (TM v l) at_ → v - m ≤ asksP (TM v l) at_ → 0 ≤ k → k < cntL (den (TM v l) m at_) → (o + 1) * 2 ^ m ≤ 4096 →
    mask_Mask_nth.l0 fu k (cnts v l (l.length + 2)) at_ o v (v - m) v l r = some (rd (ptsL (o * 2 ^ m) (den (TM v l) m at_)) k)
  | 0, fu, k, at_, o, hm, hf, hp, ha, k0, k1, ho => by
    obtain ⟨fu, rfl⟩ : ∃ n, fu = n + 1 := ⟨fu - 1, by omega⟩
    simp only [mask_Mask_nth.l0]
    rw [if_neg (by omega)]
    have hd : den (TM v l) 0 at_ = [decide (at_ = 1)] := rfl
    rw [hd] at k1 ⊢
    by_cases h1 : at_ = 1
    · rw [decide_eq_true h1] at k1 ⊢
      have : k = 0 := by simp [cntL] at k1; omega
      subst this
      simp [ptsL, rd]
    · rw [decide_eq_false h1] at k1
      simp [cntL] at k1
      omega
  | m + 1, fu, k, at_, o, hm, hf, hp, ha, k0, k1, ho => by
    obtain ⟨fu, rfl⟩ : ∃ n, fu = n + 1 := ⟨fu - 1, by omega⟩
    have hvv := TM_vars v l
    have hlen : ((TM v l).ns.length : Int) = l.length + 2 := by rw [TM_len]; omega
    have hcl : ((cnts v l (l.length + 2)).length : Int) = l.length + 2 := by simp [cnts]
    have hb := p12 (k := m) (by omega)
    have hb0 : 0 < 2 ^ m := Nat.pow_pos (by decide)
    have ho2 : o ≤ 4096 := by
      have h1 : (o + 1) * 1 ≤ (o + 1) * 2 ^ (m + 1) := Nat.mul_le_mul_left _ (Nat.pow_pos (by decide))
      omega
    have ev : (TM v l).vars - ((m : Int) + 1) = v - (m + 1) := by rw [hvv]
    have hpl : ∀ b, Pl (TM v l) (sideP (TM v l) at_ (v - (m + 1)) b) := fun b => side_pl hw hp (by omega)
    have hpa : ∀ b, v - m ≤ asksP (TM v l) (sideP (TM v l) at_ (v - (m + 1)) b) := fun b => by
      have := side_asks hw (b := b) hp (a := v - (m + 1)) (by omega) (by omega)
      omega
    have hds := den_succ (TM v l) m at_
    rw [ev] at hds
    obtain ⟨lo, hlo⟩ : ∃ lo, lo = sideP (TM v l) at_ (v - (m + 1)) false := ⟨_, rfl⟩
    obtain ⟨hi, hhi⟩ : ∃ hi, hi = sideP (TM v l) at_ (v - (m + 1)) true := ⟨_, rfl⟩
    have plo := hpl false
    have phi := hpl true
    have alo := hpa false
    have ahi := hpa true
    rw [← hlo] at plo alo
    rw [← hhi] at phi ahi
    rw [← hlo, ← hhi] at hds
    have llo := hw.asks_le plo
    have hlo0 := plo.1
    have hlo1 := plo.2
    have ccd := cnt_den (hw.asks_nonneg plo) llo m (by omega) (by omega)
    have cle := cntL_le (den (TM v l) m lo)
    rw [den_length] at cle
    have cc := pow_cast (m - ((TM v l).vars - asksP (TM v l) lo).toNat)
    have hcp : (cn (TM v l) lo : Int) * 2 ^ (asksP (TM v l) lo - (v - (m + 1)) - 1).toNat = (cntL (den (TM v l) m lo) : Int) := by
      rw [ccd, Int.natCast_mul, cc, hvv]
      congr 2
      omega
    have h63 : (2 : Int) ^ 63 = 9223372036854775808 := by decide
    have hsh : shl .i64 (cn (TM v l) lo) (asksP (TM v l) lo - (v - (m + 1)) - 1) = (cntL (den (TM v l) m lo) : Int) := by
      rw [shl_ok _ _ (by omega) (by omega) (by omega) (by rw [hcp]; omega), hcp]
    have w1 : wrap64 (wrap64 (asksP (TM v l) lo - (v - ((m + 1 : Nat) : Int))) - 1) = asksP (TM v l) lo - (v - (m + 1)) - 1 := by unfold wrap64; omega
    have w2 : wrap64 (v - ((m + 1 : Nat) : Int) + 1) = v - m := by unfold wrap64; omega
    have w3 : wrap64 ((o : Int) * 2) = ((2 * o : Nat) : Int) := by unfold wrap64; omega
    have w4 : wrap64 (wrap64 ((o : Int) * 2) + 1) = ((2 * o + 1 : Nat) : Int) := by rw [w3]; unfold wrap64; omega
    have hpow : 2 ^ (m + 1) = 2 * 2 ^ m := by rw [Nat.pow_succ, Nat.mul_comm]
    have eo : o * 2 ^ (m + 1) = 2 * o * 2 ^ m := by rw [hpow, ← Nat.mul_assoc, Nat.mul_comm o 2]
    have eo2 : 2 * o * 2 ^ m + 2 ^ m = (2 * o + 1) * 2 ^ m := by rw [Nat.add_mul, Nat.one_mul]
    have eo3 : (2 * o + 1 + 1) * 2 ^ m = (o + 1) * 2 ^ (m + 1) := by
      rw [hpow, ← Nat.mul_assoc]
      congr 1
      omega
    have hgo : ∀ (kk p1 p2 : Int), kk = k → p1 = wrap64 (wrap64 ((o : Int) * 2) + 1) → p2 = wrap64 ((o : Int) * 2) →
        (if kk ≥ (cntL (den (TM v l) m lo) : Int) then mask_Mask_nth.l0 fu (wrap64 (kk - (cntL (den (TM v l) m lo) : Int))) (cnts v l (l.length + 2)) hi p1 v (v - m) v l r
          else mask_Mask_nth.l0 fu kk (cnts v l (l.length + 2)) lo p2 v (v - m) v l r) = some (rd (ptsL (o * 2 ^ (m + 1)) (den (TM v l) (m + 1) at_)) k) := by
      intro kk p1 p2 e1 e2 e3
      subst e1 e2 e3
      rw [hds, cntL_append] at k1
      rw [hds, ptsL_append, den_length, eo, eo2, w4, w3]
      have hpl2 := ptsL_len (den (TM v l) m lo) (2 * o * 2 ^ m)
      by_cases hk : (cntL (den (TM v l) m lo) : Int) ≤ kk
      · have wk : wrap64 (kk - (cntL (den (TM v l) m lo) : Int)) = kk - (cntL (den (TM v l) m lo) : Int) := by
          have := cntL_le (den (TM v l) m hi)
          rw [den_length] at this
          unfold wrap64; omega
        rw [if_pos hk, wk, nth_l0 v l r hv hl hw m fu _ hi (2 * o + 1) (by omega) (by omega) phi ahi (by omega) (by omega) (by omega), rdI_right k0 (by omega), hpl2]
      · rw [if_neg hk, nth_l0 v l r hv hl hw m fu kk lo (2 * o) (by omega) (by omega) plo alo k0 (by omega) (by
          have : (2 * o + 1) * 2 ^ m ≤ (2 * o + 1 + 1) * 2 ^ m := Nat.mul_le_mul_right _ (by omega)
          omega), rdI_left k0 (by omega)]
    simp only [mask_Mask_nth.l0]
    rw [if_pos (by omega), masks_f v l r at_ hl hp]
    simp only [Option.bind_some]
    have hrd := cnts_rd v l (l.length + 2) lo hlo0 (by omega)
    by_cases hv2 : asksP (TM v l) at_ = v - ((m + 1 : Nat) : Int)
    · have h2 : 2 ≤ at_ := by
        by_cases h2 : 2 ≤ at_
        · exact h2
        · rw [asks_lt (by omega), hvv] at hv2; omega
      have hp2 := hp.2
      have g1 : wrap64 (at_ - 2) = at_ - 2 := by unfold wrap64; omega
      have e1 : lo = (getN (TM v l) at_).f1 := by rw [hlo, side_eq (by omega)]; rfl
      have e2 : hi = (getN (TM v l) at_).f2 := by rw [hhi, side_eq (by omega)]; rfl
      rw [if_pos hv2, g1, if_pos (by omega), if_pos (by omega), rdN_get v l at_ h2 (by omega), ← e1, ← e2, if_pos hlo0, if_pos (by omega), masks_f v l r lo hl plo]
      simp only [Option.bind_some]
      rw [w1, if_pos (by omega), hrd, hsh, w2]
      exact hgo k _ _ rfl rfl rfl
    · have e1 : lo = at_ := by rw [hlo, side_ne (by omega)]
      have e2 : hi = at_ := by rw [hhi, side_ne (by omega)]
      rw [if_neg hv2]
      rw [e1] at hlo0 hlo1 plo w1 hrd hsh alo llo hgo
      rw [e2] at hgo
      rw [if_pos hlo0, if_pos (by omega), w1, if_pos (by omega), hrd, hsh, w2]
      exact hgo k _ _ rfl rfl rfl
theorem nth_f {v r : Int} {l : List S107} (h : VM v l r) (k : Int) (k0 : 0 ≤ k) (k1 : k < cntL (tab v l r)) (fu : Nat) (hf : 5000 ≤ fu) : mask_Mask_nth.f fu v l r k = some (rd (ptsL 0 (tab v l r)) k) := by
  have hn := h.root.2.2
  have v0 := h.v0
  have v12 := h.v12
  unfold mask_Mask_nth.f
  rw [counts_f v l r v12 (by omega) h.wf.wo fu (by omega)]
  simp only [Option.bind_some]
  have hb := p12 (k := v.toNat) (by omega)
  have hvv := TM_vars v l
  have := nth_l0 v l r v12 (by omega) h.wf.wo v.toNat fu k r 0 (by omega) (by omega) h.pl (by have := h.wf.wo.asks_nonneg h.pl; omega) k0 k1 (by omega)
  rw [Nat.zero_mul] at this
  have e : v - (v.toNat : Int) = 0 := by omega
  rw [e] at this
  exact this
theorem points_l0 (t : List Bool) (ht : t.length ≤ 4096) : ∀ (d i fu : Nat) (acc : List Int), i + d = t.length → d < fu → acc.length ≤ i → cantingref02_points.l0 fu acc t t.length i = some (acc ++ ptsL i (t.drop i))
  | 0, i, fu, acc, hi, hf, ha => by
    obtain ⟨fu, rfl⟩ : ∃ n, fu = n + 1 := ⟨fu - 1, by omega⟩
    simp only [cantingref02_points.l0]
    rw [if_neg (by omega), List.drop_eq_nil_of_le (by omega)]
    simp [ptsL]
  | d + 1, i, fu, acc, hi, hf, ha => by
    obtain ⟨fu, rfl⟩ : ∃ n, fu = n + 1 := ⟨fu - 1, by omega⟩
    have hit : i < t.length := by omega
    have hd : t.drop i = t.getD i false :: t.drop (i + 1) := by
      rw [List.drop_eq_getElem_cons hit]
      simp [List.getD_eq_getElem?_getD, hit]
    have hr : rdOf false t (i : Int) = t.getD i false := by simp [rdOf]
    simp only [cantingref02_points.l0]
    rw [if_pos (by omega), if_pos (by omega), if_pos (by omega), hr, hd, wrap_add1 (by omega) (by omega)]
    cases hb : t.getD i false with
    | true =>
      rw [if_pos rfl, if_pos (by omega)]
      have := points_l0 t ht d (i + 1) fu (acc ++ [(i : Int)]) (by omega) (by omega) (by simp; omega)
      rw [Int.natCast_add, Int.natCast_one] at this
      rw [this]
      simp [ptsL]
    | false =>
      rw [if_neg (by simp)]
      have := points_l0 t ht d (i + 1) fu acc (by omega) (by omega) (by omega)
      rw [Int.natCast_add, Int.natCast_one] at this
      rw [this]
      simp [ptsL]
theorem points_f {v r : Int} {l : List S106} (h : VM v (l.map ofR) r) (fu : Nat) (hf : 5000 ≤ fu) : cantingref02_points.f fu v l r = some (ptsL 0 (tab v (l.map ofR) r)) := by
  have v12 := h.v12
  have hb := p12 (k := v.toNat) (by omega)
  have htl := tab_length v (l.map ofR) r
  unfold cantingref02_points.f
  rw [table_f v l r v12 (by have := h.root.2.2; rw [List.length_map] at this; omega) h.wf.wo h.pl fu hf]
  simp only [Option.bind_some]
  have := points_l0 (tab v (l.map ofR) r) (by omega) (tab v (l.map ofR) r).length 0 fu [] (by omega) (by omega) (by simp)
  simpa using this
end Go.Proofs.Ytlplphgoldkoeaa.HTab
end
