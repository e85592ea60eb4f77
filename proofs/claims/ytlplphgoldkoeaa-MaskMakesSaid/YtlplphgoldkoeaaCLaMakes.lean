/- The law MaskMakes holds of the program, for every input that its statement lets in. -/
import Derived.Test.YtlplphgoldkoeaaBc
import Derived.Test.YtlplphgoldkoeaaBe
import Derived.Test.YtlplphgoldkoeaaBk
import Derived.Deep.DeepMust
import Derived.Test.YtlplphgoldkoeaaBn
import Derived.Test.YtlplphgoldkoeaaRows
import Derived.WalkKit
import Derived.ProofKit
import Derived.OpenShut
import Derived.ShutString
import Derived.ChangeOld
import Derived.Below
import Derived.SizedLaws
import Derived.Test.YtlplphgoldkoeaaBb
section
set_option linter.unusedVariables false
set_option linter.unusedSimpArgs false
namespace Go.Proofs.Ytlplphgoldkoeaa.X
open Go.RowKit Go.Proofs.YtlplphgoldkoeaaW.PrintWords Go.Proofs.YtlplphgoldkoeaaW.PrintLast Go.Proofs.YtlplphgoldkoeaaW.PrintMore
attribute [local go_sem] max2_int min2_int max_two min_two max_three min_three max_four min_four   -- for this text's walks alone
set_option linter.unusedVariables false
set_option linter.unusedSimpArgs false
mutual
def cantingref02_Const.j0 : Nat → Int → Bool → Bool → Option (Int × (List (S106)) × Int × Int)
  | 0, _, _, _ => none
  | k + 1, x0, x1, x13 => if x13 = true then (some (0, ([] : List (S106)), 0, 2)) else (if 0 ≤ x0 then (if 0 ≤ (shl .i64 1 x0) then (if (shl .i64 1 x0 : Int).toNat ≤ 281474976710656 then ((some (List.replicate (shl .i64 1 x0 : Int).toNat false : List Bool)).bind fun y184 => (cantingref02_Const.l0 k x0 x1 y184 (y184.length : Int) 0)) else (none)) else (none)) else (none))
def cantingref02_Const.l0 : Nat → Int → Bool → List Bool → Int → Int → Option (Int × (List (S106)) × Int × Int)
  | 0, _, _, _, _, _ => none
  | k + 1, x0, x1, x6, x19, x20 => if x20 < x19 then (if 0 ≤ x20 then (if x20 < (x6.length : Int) then (cantingref02_Const.l0 k x0 x1 (x6.set (x20 : Int).toNat x1) x19 (wrap64 (x20 + 1))) else (none)) else (none)) else ((cantingref02_Of.f x0 x6).bind fun bt188 => (some (bt188.1, bt188.2.1, bt188.2.2, 0)))
end
def cantingref02_Const.f (k : Nat) (a0 : Int) (a1 : Bool) : Option (Int × (List (S106)) × Int × Int) := if a0 < 0 then (cantingref02_Const.j0 k a0 a1 true) else (cantingref02_Const.j0 k a0 a1 (decide (a0 > 12)))
theorem cantingref02_Const.mono_l : ∀ k, (∀ y0 y1 y2, LeO (cantingref02_Const.j0 k y0 y1 y2) (cantingref02_Const.j0 (k + 1) y0 y1 y2)) ∧ (∀ y0 y1 y2 y3 y4, LeO (cantingref02_Const.l0 k y0 y1 y2 y3 y4) (cantingref02_Const.l0 (k + 1) y0 y1 y2 y3 y4))
  | 0 => ⟨fun _ _ _ r h => by simp [cantingref02_Const.j0] at h, fun _ _ _ _ _ r h => by simp [cantingref02_Const.l0] at h⟩
  | k + 1 => by
    obtain ⟨ih0, ih1⟩ := cantingref02_Const.mono_l k
    refine ⟨?_, ?_⟩
    · intro y0 y1 y2
      unfold cantingref02_Const.j0
      repeat' first
      | (with_reducible exact ih0 _ _ _)
      | (with_reducible exact ih1 _ _ _ _ _)
      | (with_reducible exact LeO.refl _)
      | (with_reducible exact LeO.none _)
      | (with_reducible refine LeO.ite ?_ ?_)
      | (with_reducible refine LeO.bind ?_ (fun _ => ?_))
      | exact ih0 _ _ _
      | exact ih1 _ _ _ _ _
      | exact LeO.none _
      | refine LeO.ite ?_ ?_
      | refine LeO.bind ?_ (fun _ => ?_)
    · intro y0 y1 y2 y3 y4
      unfold cantingref02_Const.l0
      repeat' first
      | (with_reducible exact ih0 _ _ _)
      | (with_reducible exact ih1 _ _ _ _ _)
      | (with_reducible exact LeO.refl _)
      | (with_reducible exact LeO.none _)
      | (with_reducible refine LeO.ite ?_ ?_)
      | (with_reducible refine LeO.bind ?_ (fun _ => ?_))
      | exact ih0 _ _ _
      | exact ih1 _ _ _ _ _
      | exact LeO.none _
      | refine LeO.ite ?_ ?_
      | refine LeO.bind ?_ (fun _ => ?_)
theorem cantingref02_Const.mono : ∀ a0 a1 k, LeO (cantingref02_Const.f k a0 a1) (cantingref02_Const.f (k + 1) a0 a1) := by
  intro a0 a1 k
  obtain ⟨ih0, ih1⟩ := cantingref02_Const.mono_l k
  unfold cantingref02_Const.f
  repeat' first
      | (with_reducible exact ih0 _ _ _)
      | (with_reducible exact ih1 _ _ _ _ _)
      | (with_reducible exact LeO.refl _)
      | (with_reducible exact LeO.none _)
      | (with_reducible refine LeO.ite ?_ ?_)
      | (with_reducible refine LeO.bind ?_ (fun _ => ?_))
      | exact ih0 _ _ _
      | exact ih1 _ _ _ _ _
      | exact LeO.none _
      | refine LeO.ite ?_ ?_
      | refine LeO.bind ?_ (fun _ => ?_)
set_option maxHeartbeats 8000000 in
set_option maxRecDepth 100000 in
theorem cantingref02_Const.calls (k : Nat) (a0 : Int) (a1 : Bool) (r1 : Int) (r2 : List (S106)) (r3 : Int) (r4 : Int) (w : World) (h : cantingref02_Const.f k a0 a1 = some (r1, r2, r3, r4)) :
    Calls Try.prog 26 #[.int .i64 a0, .bool a1] w fun e w' => ∃ v1_ : Value, e = .returned (.tuple #[.agg #[.int .i64 r1, v1_, .int .i64 r3], .int .i64 r4]) ∧ Kd.R k106 106 w' w.heap.size (fun _ => True) v1_ r2 ∧ Below w.heap.size w w' := by
  have hu33 := Try.underlying33
  have HB := Aside0.mk (Below.refl w.heap.size w)
  have H : (if a0 < 0 then (cantingref02_Const.j0 k a0 a1 true) else (cantingref02_Const.j0 k a0 a1 (decide (a0 > 12)))) = some (r1, r2, r3, r4) := h
  clear h
  have HC3 := Aside0.mk H
  clear H
  go_enter Try.func26, Try.ntmps26
  go_upto_region 1 with (first | ((with_reducible refine gate_dst (N := 4) rfl ?_); refine box_event ?hg (N := 4) ?hd (cs := #[.int .i64 0, .slice none 0 0, .int .i64 0]) (t := 33) ?hr ?_; (case hd => rfl); (case hg => rfl); (case hr => first | (go_simp; done) | (go_simp; rfl)); intro gb183 hg w4 hbox hb; have n0_ := Aside0.mk (below_step (by repeat (first | (with_reducible first | exact HB.out | apply below_alloc | apply pw_below_drewN | apply below_drew1) | exact HB.out)) hb); have n1_ := Aside0.mk (hbox); have n2_ := Aside0.mk ((by rw [hg]; exact (below_size (by repeat (first | (with_reducible first | exact HB.out | apply below_alloc | apply pw_below_drewN | apply below_drew1) | exact HB.out))) : w.heap.size ≤ gb183)); have n3_ := Aside0.mk ((by rw [hg]; exact (below_size (by repeat (first | (with_reducible first | exact HB.out | apply below_alloc | apply pw_below_drewN | apply below_drew1) | exact HB.out))) : w.heap.size ≤ gb183)); clear HB; have HB := n0_; have BK183 := n1_; have GW183 := n2_; have GE183 := n3_; clear n0_ n1_ n2_ n3_; clear hb hbox hg))
  (try simp only [Act.put, List.setIfInBounds_toArray, List.set_cons_zero, List.set_cons_succ])
  go_cut [13] (fun v13 wc => ∃ (kq : Nat) (x13_2 : Bool), v13 = .bool x13_2 ∧ Aside0 (cantingref02_Const.j0 kq a0 a1 x13_2 = some (r1, r2, r3, r4)) ∧ Aside0 (kq ≤ k) ∧ Aside0 (wc.heap[gb183]? = some (.cells #[.int .i64 0, (.slice none 0 0), .int .i64 0] 33 (0, 0))) ∧ Aside0 (Below w.heap.size w wc))
  case first =>
    have H := HC3.out
    clear HC3
    by_cases c5 : a0 < 0
    · rw [if_pos c5] at H
      have c5b0 : decide (a0 < 0) = true := decide_eq_true c5
      (try (have c5b0_0 := c5b0; rw [hl6_2] at c5b0_0))
      clear c5
      (first | rw [c5b0] | (simp only [i64_w, i32_w]; rw [c5b0]) | skip)
      have H' := Aside0.mk H
      clear H
      go_wp2
      go_meet
      case rel => exact ⟨_, (true), (by first | rfl | (simp; done) | (simp [*]; done)), H', ⟨by first | omega | exact Nat.le_refl _⟩, ⟨by (with_reducible repeat (first | refine blk_drewN ?_ _ | refine blk_drew ?_ | refine blk_alloc ?_ _)); exact BK183.out⟩, ⟨by repeat (first | (with_reducible first | exact HB.out | apply below_alloc | apply pw_below_drewN | apply below_drew1 | refine below_set ?_ GE183.out) | exact HB.out)⟩⟩
    · rw [if_neg c5] at H
      have c5b0 : decide (a0 < 0) = false := decide_eq_false c5
      (try (have c5b0_0 := c5b0; rw [hl6_2] at c5b0_0))
      clear c5
      (first | rw [c5b0] | (simp only [i64_w, i32_w]; rw [c5b0]) | skip)
      have H' := Aside0.mk H
      clear H
      go_wp2
      go_meet
      case rel => exact ⟨_, (decide (a0 > 12)), (by first | rfl | (simp; done) | (simp [*]; done)), H', ⟨by first | omega | exact Nat.le_refl _⟩, ⟨by (with_reducible repeat (first | refine blk_drewN ?_ _ | refine blk_drew ?_ | refine blk_alloc ?_ _)); exact BK183.out⟩, ⟨by repeat (first | (with_reducible first | exact HB.out | apply below_alloc | apply pw_below_drewN | apply below_drew1 | refine below_set ?_ GE183.out) | exact HB.out)⟩⟩
  case rest =>
    clear HC3
    try clear c2
    try clear p2
    try clear c5
    try clear c5b0
    obtain ⟨kq, x13_2, rfl, HA, HJ2, BK183, HB⟩ := hcut
    cases kq with
    | zero => exact absurd HA.out (by simp [cantingref02_Const.j0])
    | succ kj2 =>
      have H := HA.out
      clear HA
      simp only [cantingref02_Const.j0] at H
      by_cases c6 : x13_2 = true
      · subst c6
        have H1 : (some (0, ([] : List (S106)), 0, 2)) = some (r1, r2, r3, r4) := by rw [if_pos rfl] at H; exact H
        clear H
        have H := H1
        clear H1
        simp only [Option.some.injEq, Prod.mk.injEq] at H
        obtain ⟨rfl, rfl, rfl, rfl⟩ := H
        have hcz7_0 : wc.cell? ⟨gb183, 0, none⟩ = some (.int .i64 0) := (blk_cell BK183.out 0).trans rfl
        have hcz7_1 : wc.cell? ⟨gb183, 1, none⟩ = some (.slice none 0 0) := (blk_cell BK183.out 1).trans rfl
        have hcz7_2 : wc.cell? ⟨gb183, 2, none⟩ = some (.int .i64 0) := (blk_cell BK183.out 2).trans rfl
        have hfz7_0 := blk_frozen BK183.out 0
        have hfz7_1 := blk_frozen BK183.out 1
        have hfz7_2 := blk_frozen BK183.out 2
        go_wp2
        refine bodyPost_ret (results_ct rfl _ _ gb183 33 #[.int .i64 0, .slice none 0 0, .int .i64 0] (0, 0) _ rfl (by (with_reducible repeat (first | refine blk_drewN ?_ _ | refine blk_drew ?_ | refine blk_alloc ?_ _)); refine blk_put (cs := #[.int .i64 0, .slice none 0 0, .int .i64 0]) ?_ 2 _ rfl; (with_reducible repeat (first | refine blk_drewN ?_ _ | refine blk_drew ?_ | refine blk_alloc ?_ _)); refine blk_put (cs := #[.int .i64 0, .slice none 0 0, .int .i64 0]) ?_ 1 _ rfl; (with_reducible repeat (first | refine blk_drewN ?_ _ | refine blk_drew ?_ | refine blk_alloc ?_ _)); refine blk_put (cs := #[.int .i64 0, .slice none 0 0, .int .i64 0]) ?_ 0 _ rfl; (with_reducible repeat (first | refine blk_drewN ?_ _ | refine blk_drew ?_ | refine blk_alloc ?_ _)); exact BK183.out) Try.underlying33 rfl (by kernel_rfl)) rfl ?_
        exact ⟨_, by first | rfl | (simp [errW_none, errW_some] <;> rfl) | (simp [*, errW_none, errW_some] <;> rfl), by first | exact Kd.R_nil _ _ _ _ _ | exact Kd.N_nil _ _ _ _ _ | exact Kd.V_nil _ _ _ _ _ | exact Kd.Q_nil _ _ _ _ _ | exact Kd.S_nil _ _ _ _ _, by repeat (first | (with_reducible first | exact HB.out | apply below_alloc | apply pw_below_drewN | apply below_drew1 | refine below_set ?_ GE183.out) | exact HB.out)⟩
      · replace c6 := Bool.eq_false_iff.mpr c6
        subst c6
        have H1 : (if 0 ≤ a0 then (if 0 ≤ (shl .i64 1 a0) then (if (shl .i64 1 a0 : Int).toNat ≤ 281474976710656 then ((some (List.replicate (shl .i64 1 a0 : Int).toNat false : List Bool)).bind fun y184 => (cantingref02_Const.l0 kj2 a0 a1 y184 (y184.length : Int) 0)) else (none)) else (none)) else (none)) = some (r1, r2, r3, r4) := by rw [if_neg (show ¬ (false = true) by decide)] at H; exact H
        clear H
        have H := H1
        clear H1
        by_cases c8 : 0 ≤ a0
        · rw [if_pos c8] at H
          have c8b0 := eq_true c8
          (try (have c8b0_0 := c8b0; rw [hl6_2] at c8b0_0))
          have c8b1 : decide (0 ≤ a0) = true := decide_eq_true c8
          (try (have c8b1_0 := c8b1; rw [hl6_2] at c8b1_0))
          clear c8
          obtain ⟨ji9, hji9⟩ : ∃ j_ : Int, (shl .i64 1 a0) = j_ := ⟨_, rfl⟩
          replace H : (if 0 ≤ (ji9) then (if (ji9 : Int).toNat ≤ 281474976710656 then ((some (List.replicate (ji9 : Int).toNat false : List Bool)).bind fun y184 => (cantingref02_Const.l0 kj2 a0 a1 y184 (y184.length : Int) 0)) else (none)) else (none)) = some (r1, r2, r3, r4) := by first | (rw [hji9] at H; exact H) | (simp only [hji9] at H ⊢; exact H)
          have hji9_ : (IntKind.i64.wrap (1 * 2 ^ min a0.toNat 64)) = ji9 := hji9
          have hji9z : a0 ≤ 64 → (IntKind.i64.wrap (1 * 2 ^ a0.toNat)) = ji9 := shl_small hji9
          have hji9u : (IntKind.i64.wrap (2 ^ min a0.toNat 64)) = ji9 := by have h_ := hji9_; rw [Int.one_mul] at h_; exact h_
          have hji9v : a0 ≤ 64 → (IntKind.i64.wrap (2 ^ a0.toNat)) = ji9 := fun hle_ => by have h_ := hji9z hle_; rw [Int.one_mul] at h_; exact h_
          have hji9y : (wrap64 (1 * 2 ^ min a0.toNat 64)) = ji9 := (i64_w _).symm.trans hji9_
          have hji9x : a0 ≤ 64 → (wrap64 (1 * 2 ^ a0.toNat)) = ji9 := fun h_ => (i64_w _).symm.trans (hji9z h_)
          by_cases c10 : 0 ≤ (ji9)
          · rw [if_pos c10] at H
            have c10b0 := eq_true c10
            (try (have c10b0_0 := c10b0; rw [hl6_2] at c10b0_0))
            have c10b1 : decide (0 ≤ (ji9)) = true := decide_eq_true c10
            (try (have c10b1_0 := c10b1; rw [hl6_2] at c10b1_0))
            clear c10
            by_cases c11 : (ji9 : Int).toNat ≤ 281474976710656
            · rw [if_pos c11] at H
              have c11b0 := eq_true c11
              (try (have c11b0_0 := c11b0; rw [hl6_2] at c11b0_0))
              have c11b1 : decide ((ji9 : Int).toNat ≤ 281474976710656) = true := decide_eq_true c11
              (try (have c11b1_0 := c11b1; rw [hl6_2] at c11b1_0))
              clear c11
              obtain ⟨y184, hy184⟩ : ∃ y_ : List Bool, y_ = (List.replicate (ji9 : Int).toNat false) := ⟨_, rfl⟩
              replace H : (cantingref02_Const.l0 kj2 a0 a1 y184 (y184.length : Int) 0) = some (r1, r2, r3, r4) := by first | (rw [hy184]; with_reducible exact H) | (have H2_ := (Option.bind_some _ _).symm.trans H; rw [hy184]; with_reducible exact H2_) | (have H2_ := (Option.bind_some _ _).symm.trans H; with_reducible exact H2_) | with_reducible exact H | (rw [hy184]; exact H) | exact H
              have Ny184 := Aside0.mk hy184
              clear hy184
              have H' := Aside0.mk H
              clear H
              go_wp2_with (first | ((with_reducible refine gate_dst (N := 17) rfl ?_); refine Kd.R_make Kd.bool _ 4 rfl (N := 17) rfl 47 _ _ rfl ji9 rfl rfl Try.underlying47 (.bool false) 1 info4 rfl (by decide) (by omega) false (ok := fun _ => True) (okp := fun _ => True) rfl (fun _ hk => hk) trivial (of_decide_eq_true (by first | (with_reducible assumption) | assumption)) (Nat.le_trans (Nat.mul_le_mul_right _ (of_decide_eq_true (by first | (with_reducible assumption) | assumption) : ji9.toNat ≤ 281474976710656)) (by omega)) (Below.refl _ _) (Nat.le_refl _) ?_; intro v185 w12 ho13 hb hg_ hnew_; clear hg_ hnew_; (first | rw [← Ny184.out] at ho13 | (simp only [Int.reduceToNat] at ho13; rw [← Ny184.out] at ho13)); have n0_ := Aside0.mk (Kd.R_lower ho13 (below_size (by repeat (first | (with_reducible first | exact HB.out | apply below_alloc | apply pw_below_drewN | apply below_drew1 | refine below_set ?_ GE183.out) | exact HB.out)))); have n1_ := Aside0.mk (blk_below (g := gb183) (o := .cells #[.int .i64 0, .slice none 0 0, .int .i64 0] 33 (0, 0)) (by (with_reducible repeat (first | refine blk_drewN ?_ _ | refine blk_drew ?_ | refine blk_alloc ?_ _)); exact BK183.out) hb); have n2_ := Aside0.mk (below_step (by repeat (first | (with_reducible first | exact HB.out | apply below_alloc | apply pw_below_drewN | apply below_drew1 | refine below_set ?_ GE183.out) | exact HB.out)) hb); clear BK183; clear HB; have HO186 := n0_; have BK183 := n1_; have HB := n2_; clear n0_ n1_ n2_; clear hb ho13; obtain ⟨Ao14, co14, eo14⟩ := Kd.R_slice HO186.out; subst eo14))
              go_loopg [20] kj2 (fun kq v20 w' => ∃ (x6_2 : List Bool) (x20_2 : Int), v20 = .int .i64 x20_2 ∧ Aside0 (cantingref02_Const.l0 kq a0 a1 x6_2 (y184.length : Int) x20_2 = some (r1, r2, r3, r4)) ∧ Aside0 (kq ≤ kj2) ∧ Aside0 (Kd.R Kd.bool 4 w' w.heap.size (fun _ => True) (.slice Ao14 y184.length co14) x6_2) ∧ Aside0 (w'.heap[gb183]? = some (.cells #[.int .i64 0, (.slice none 0 0), .int .i64 0] 33 (0, 0))) ∧ Aside0 (Below w.heap.size w w'))
              case atStart => exact ⟨(y184), (0), (by first | rfl | (simp; done) | (simp [*]; done)), H', ⟨Nat.le_refl _⟩, ⟨by (with_reducible repeat (first | apply Kd.R_alloc | apply Kd.R_drewN | apply Kd.R_drew)); exact HO186.out⟩, ⟨by (with_reducible repeat (first | refine blk_drewN ?_ _ | refine blk_drew ?_ | refine blk_alloc ?_ _)); exact BK183.out⟩, ⟨by repeat (first | (with_reducible first | exact HB.out | apply below_alloc | apply pw_below_drewN | apply below_drew1 | refine below_set ?_ GE183.out) | exact HB.out)⟩⟩
              case round =>
                clear H'
                try clear c1
                try clear c2
                try clear p2
                try clear c5
                try clear c5b0
                try clear c6
                try clear p6
                try clear c8
                try clear c8b0
                try clear c8b1
                try clear c10
                try clear c10b0
                try clear c10b1
                try clear c11
                try clear c11b0
                try clear c11b1
                try clear hcz7_0
                try clear hcz7_1
                try clear hcz7_2
                try clear hfz7_0
                try clear hfz7_1
                try clear hfz7_2
                try clear p2
                obtain ⟨x6_2, x20_2, rfl, HA, HK2, HO_6, BK183, HB⟩ := hrel
                have hl6_2 := (Kd.R_reads' HO_6.out).1
                rw [hl6_2] at HO_6
                (try simp only [hl6_2])
                (try simp only [hl6_2] at BK183)
                cases gk with
                | zero => exact absurd HA.out (by simp [cantingref02_Const.l0])
                | succ k2 =>
                  have H := HA.out
                  clear HA
                  simp only [cantingref02_Const.l0] at H
                  by_cases c15 : x20_2 < (y184.length : Int)
                  · rw [if_pos c15] at H
                    have c15b0 : decide (x20_2 < (y184.length : Int)) = true := decide_eq_true c15
                    (try (have c15b0_0 := c15b0; rw [hl6_2] at c15b0_0))
                    clear c15
                    by_cases c16 : 0 ≤ x20_2
                    · rw [if_pos c16] at H
                      have c16b0 : decide (0 ≤ x20_2) = true := decide_eq_true c16
                      (try (have c16b0_0 := c16b0; rw [hl6_2] at c16b0_0))
                      clear c16
                      by_cases c17 : x20_2 < (x6_2.length : Int)
                      · rw [if_pos c17] at H
                        have c17b0 : decide (x20_2 < (x6_2.length : Int)) = true := decide_eq_true c17
                        (try (have c17b0_0 := c17b0; rw [hl6_2] at c17b0_0))
                        clear c17
                        obtain ⟨y187, hy187⟩ : ∃ y_ : List Bool, y_ = (x6_2.set (x20_2 : Int).toNat a1) := ⟨_, rfl⟩
                        replace H : (cantingref02_Const.l0 k2 a0 a1 y187 (y184.length : Int) (wrap64 (x20_2 + 1))) = some (r1, r2, r3, r4) := by first | (rw [hy187]; with_reducible exact H) | (have H2_ := (Option.bind_some _ _).symm.trans H; rw [hy187]; with_reducible exact H2_) | (have H2_ := (Option.bind_some _ _).symm.trans H; with_reducible exact H2_) | with_reducible exact H | (rw [hy187]; exact H) | exact H
                        have Ny187 := Aside0.mk hy187
                        clear hy187
                        have H' := Aside0.mk H
                        clear H
                        have p18 : 0 ≤ (x20_2 : Int) := of_decide_eq_true (by first | (with_reducible assumption) | assumption)
                        have q18 : (x20_2 : Int) < ((x6_2.length : Int) : Int) := of_decide_eq_true (by first | (with_reducible assumption) | assumption)
                        obtain ⟨go18, co18, eo18, gb18, gl18, cl18, HG18⟩ := Kd.R_form HO_6.out (by omega)
                        (first | cases eo18 | (injection eo18 with ea_ en_ ec_; (first | subst ea_ | (injection ea_ with ea_; subst ea_)); subst ec_; clear en_))
                        have GB18 := Aside0.mk gb18
                        have GG18 := Aside0.mk HG18
                        clear gb18 gl18 HG18
                        obtain ⟨hx18_0, hf18_0⟩ := Kd.R_celln false HO_6.out (x20_2 : Int) p18 q18
                        replace p18 := eq_true p18
                        replace q18 := eq_true q18
                        have HP19 := Kd.R_putg HO_6.out (x20_2 : Int) a1
                        go_wp2_with (first | ((with_reducible refine gate_store (t := 4) (p := 26) rfl ?_); refine store_event (t := 4) (p := 26) (v := ?vo_w20) (w1 := (wr.setCell ⟨go18, (x20_2 : Int).toNat, none⟩ (.bool a1))) ?hg ?ho ?hn ?hr ?_; (case ho => rfl); (case hg => rfl); (case hn => rfl); (case hr => first | (go_simp; done) | (go_simp; rfl)); intro w20 hw; have hg : wr.grownBy w20 (some go18) := (by rw [hw]; exact HP19.2); have hp_ : Kd.R Kd.bool 4 w20 w.heap.size (fun _ => True) (.slice (some ⟨go18, 0, none⟩) x6_2.length co14) y187 := (by rw [hw, Ny187.out]; exact HP19.1); clear HP19; have n0_ := Aside0.mk (hp_); have n1_ := Aside0.mk (blk_grown (g := gb183) (o := .cells #[.int .i64 0, .slice none 0 0, .int .i64 0] 33 (0, 0)) (by (with_reducible repeat (first | refine blk_drewN ?_ _ | refine blk_drew ?_ | refine blk_alloc ?_ _)); exact BK183.out) hg (Kd.R_ne HO_6.out BK183.out (by decide))); have n2_ := Aside0.mk ((by rw [hw]; exact below_set (HB.out) GB18.out : Below w.heap.size w w20)); clear HO_6; clear BK183; clear HB; have HO_6 := n0_; have BK183 := n1_; have HB := n2_; clear n0_ n1_ n2_; clear hg hw hp_))
                        (try simp only [← hl6_2])
                        go_roundg k2
                        case measure => have := HJ2.out; have := HK2.out; omega
                        case rel => exact ⟨(y187), (wrap64 (x20_2 + 1)), (by first | rfl | (simp; done) | (simp [*]; done)), H', ⟨by have := HJ2.out; have := HK2.out; omega⟩, ⟨by (try simp only [hl6_2]); (with_reducible repeat (first | apply Kd.R_alloc | apply Kd.R_drewN | apply Kd.R_drew)); exact HO_6.out⟩, ⟨by (try simp only [hl6_2]); (with_reducible repeat (first | refine blk_drewN ?_ _ | refine blk_drew ?_ | refine blk_alloc ?_ _)); exact BK183.out⟩, ⟨by repeat (first | (with_reducible first | exact HB.out | apply below_alloc | apply pw_below_drewN | apply below_drew1 | refine below_set ?_ GE183.out) | exact HB.out)⟩⟩
                      · rw [if_neg c17] at H
                        exact absurd H (by simp)
                    · rw [if_neg c16] at H
                      exact absurd H (by simp)
                  · rw [if_neg c15] at H
                    have c15b0 : decide (x20_2 < (y184.length : Int)) = false := decide_eq_false c15
                    (try (have c15b0_0 := c15b0; rw [hl6_2] at c15b0_0))
                    clear c15
                    replace H := Option.bind_eq_some_iff.mp H
                    obtain ⟨⟨t188, t189, t192⟩, A210, H⟩ := H
                    replace H : (some (t188, t189, t192, 0)) = some (r1, r2, r3, r4) := H
                    have A21 := Aside0.mk A210
                    clear A210
                    simp only [Option.some.injEq, Prod.mk.injEq] at H
                    obtain ⟨rfl, rfl, rfl, rfl⟩ := H
                    go_wp2_with (first | ((with_reducible refine gate_callee (f := 87) rfl ?_); refine goesL_ (some 30) rfl rfl Try.func87 (by kernel_rfl) rfl #[.int .i64 a0, .slice Ao14 x6_2.length co14] rfl (by (try simp only [List.map_toArray, List.map_cons, List.map_nil]); first | done | rfl | (simp only [List.length_drop, List.length_take]; rfl)) ?_; (with_reducible refine (cantingref02_Of.calls a0 _ _ x6_2 t188 t189 t192 _ ?side1 ?side2 A21.out).mono ?_); (case side1 => repeat (first | exact (Kd.R_reads' HO_6.out).2.2 | (with_reducible refine Kd.C_alloc ?_ _) | (with_reducible refine Kd.C_drewN ?_ _) | (with_reducible refine Kd.C_drew ?_))); (case side2 => exact (Kd.R_reads' HO_6.out).2.1); rintro e w22 ⟨v190, rfl, ho0, hb⟩; refine ⟨_, rfl, ?_⟩; have n0_ := Aside0.mk (Kd.R_below (by (with_reducible repeat (first | apply Kd.R_alloc | apply Kd.R_drewN | apply Kd.R_drew)); exact HO_6.out) hb); have n1_ := Aside0.mk (Kd.R_lower ho0 (below_size (by repeat (first | (with_reducible first | exact HB.out | apply below_alloc | apply pw_below_drewN | apply below_drew1 | refine below_set ?_ GE183.out) | exact HB.out)))); have n2_ := Aside0.mk (blk_below (g := gb183) (o := .cells #[.int .i64 0, .slice none 0 0, .int .i64 0] 33 (0, 0)) (by (with_reducible repeat (first | refine blk_drewN ?_ _ | refine blk_drew ?_ | refine blk_alloc ?_ _)); exact BK183.out) hb); have n3_ := Aside0.mk (below_step (by repeat (first | (with_reducible first | exact HB.out | apply below_alloc | apply pw_below_drewN | apply below_drew1 | refine below_set ?_ GE183.out) | exact HB.out)) hb); clear HO_6; clear BK183; clear HB; have HO_6 := n0_; have HO191 := n1_; have BK183 := n2_; have HB := n3_; clear n0_ n1_ n2_ n3_; (try clear hb); (try clear hb2); (try clear hk); (try clear hi); (try clear ho0); have hcz23_0 : w22.cell? ⟨gb183, 0, none⟩ = some (.int .i64 0) := (blk_cell BK183.out 0).trans rfl; have hcz23_1 : w22.cell? ⟨gb183, 1, none⟩ = some (.slice none 0 0) := (blk_cell BK183.out 1).trans rfl; have hcz23_2 : w22.cell? ⟨gb183, 2, none⟩ = some (.int .i64 0) := (blk_cell BK183.out 2).trans rfl; have hfz23_0 := blk_frozen BK183.out 0; have hfz23_1 := blk_frozen BK183.out 1; have hfz23_2 := blk_frozen BK183.out 2; obtain ⟨Ao24, co24, eo24⟩ := Kd.R_slice HO191.out; subst eo24))
                    refine bodyPost_ret (results_ct rfl _ _ gb183 33 #[.int .i64 t188, .slice Ao24 t189.length co24, .int .i64 t192] (0, 0) _ rfl (by (with_reducible repeat (first | refine blk_drewN ?_ _ | refine blk_drew ?_ | refine blk_alloc ?_ _)); refine blk_put (cs := #[.int .i64 t188, .slice Ao24 t189.length co24, .int .i64 0]) ?_ 2 _ rfl; (with_reducible repeat (first | refine blk_drewN ?_ _ | refine blk_drew ?_ | refine blk_alloc ?_ _)); refine blk_put (cs := #[.int .i64 t188, .slice none 0 0, .int .i64 0]) ?_ 1 _ rfl; (with_reducible repeat (first | refine blk_drewN ?_ _ | refine blk_drew ?_ | refine blk_alloc ?_ _)); refine blk_put (cs := #[.int .i64 0, .slice none 0 0, .int .i64 0]) ?_ 0 _ rfl; (with_reducible repeat (first | refine blk_drewN ?_ _ | refine blk_drew ?_ | refine blk_alloc ?_ _)); exact BK183.out) Try.underlying33 rfl (by kernel_rfl)) rfl ?_
                    exact ⟨_, by first | rfl | (simp [errW_none, errW_some] <;> rfl) | (simp only [← hji9]; first | rfl | (simp [errW_none, errW_some] <;> rfl)) | (simp [*, errW_none, errW_some] <;> rfl), by (with_reducible repeat (first | apply Kd.R_alloc | apply Kd.R_drewN | apply Kd.R_drew)); exact Kd.R_mono (Kd.R_far (p := ⟨gb183, 2, none⟩) (Kd.R_far (p := ⟨gb183, 1, none⟩) (Kd.R_far (p := ⟨gb183, 0, none⟩) (Kd.R_types HO191.out BK183.out (by decide)) (fun _ hk => hk.2) (.int .i64 t188)) (fun _ hk => hk.2) (.slice Ao24 t189.length co24)) (fun _ hk => hk.2) (.int .i64 t192)) (fun _ hk => trivial), by repeat (first | (with_reducible first | exact HB.out | apply below_alloc | apply pw_below_drewN | apply below_drew1 | refine below_set ?_ GE183.out) | exact HB.out)⟩
            · rw [if_neg c11] at H
              exact absurd H (by simp)
          · rw [if_neg c10] at H
            exact absurd H (by simp)
        · rw [if_neg c8] at H
          exact absurd H (by simp)
end Go.Proofs.Ytlplphgoldkoeaa.X
end

section
set_option linter.unusedVariables false
set_option linter.unusedSimpArgs false
namespace Go.Proofs.Ytlplphgoldkoeaa.X
open Go.RowKit Go.Proofs.YtlplphgoldkoeaaW.PrintWords Go.Proofs.YtlplphgoldkoeaaW.PrintLast Go.Proofs.YtlplphgoldkoeaaW.PrintMore
attribute [local go_sem] max2_int min2_int max_two min_two max_three min_three max_four min_four   -- for this text's walks alone
set_option linter.unusedVariables false
set_option linter.unusedSimpArgs false
mutual
def cantingref02_Var.j0 : Nat → Int → Int → Bool → Option (Int × (List (S106)) × Int × Int)
  | 0, _, _, _ => none
  | k + 1, x0, x1, x22 => if x22 = true then (some (0, ([] : List (S106)), 0, 2)) else (if 0 ≤ x0 then (if 0 ≤ (shl .i64 1 x0) then (if (shl .i64 1 x0 : Int).toNat ≤ 281474976710656 then ((some (List.replicate (shl .i64 1 x0 : Int).toNat false : List Bool)).bind fun y194 => (cantingref02_Var.l0 k x0 x1 y194 (y194.length : Int) 0)) else (none)) else (none)) else (none))
def cantingref02_Var.l0 : Nat → Int → Int → List Bool → Int → Int → Option (Int × (List (S106)) × Int × Int)
  | 0, _, _, _, _, _ => none
  | k + 1, x0, x1, x6, x28, x29 => if x29 < x28 then ((cantingref02_Bit.f x0 x29 x1).bind fun t197 => (if 0 ≤ x29 then (if x29 < (x6.length : Int) then (cantingref02_Var.l0 k x0 x1 (x6.set (x29 : Int).toNat t197) x28 (wrap64 (x29 + 1))) else (none)) else (none))) else ((cantingref02_Of.f x0 x6).bind fun bt199 => (some (bt199.1, bt199.2.1, bt199.2.2, 0)))
end
def cantingref02_Var.f (k : Nat) (a0 : Int) (a1 : Int) : Option (Int × (List (S106)) × Int × Int) := if a0 < 0 then (cantingref02_Var.j0 k a0 a1 true) else (if a0 > 12 then (cantingref02_Var.j0 k a0 a1 true) else (if a1 < 0 then (cantingref02_Var.j0 k a0 a1 true) else (cantingref02_Var.j0 k a0 a1 (decide (a1 ≥ a0)))))
theorem cantingref02_Var.mono_l : ∀ k, (∀ y0 y1 y2, LeO (cantingref02_Var.j0 k y0 y1 y2) (cantingref02_Var.j0 (k + 1) y0 y1 y2)) ∧ (∀ y0 y1 y2 y3 y4, LeO (cantingref02_Var.l0 k y0 y1 y2 y3 y4) (cantingref02_Var.l0 (k + 1) y0 y1 y2 y3 y4))
  | 0 => ⟨fun _ _ _ r h => by simp [cantingref02_Var.j0] at h, fun _ _ _ _ _ r h => by simp [cantingref02_Var.l0] at h⟩
  | k + 1 => by
    obtain ⟨ih0, ih1⟩ := cantingref02_Var.mono_l k
    refine ⟨?_, ?_⟩
    · intro y0 y1 y2
      unfold cantingref02_Var.j0
      repeat' first
      | (with_reducible exact ih0 _ _ _)
      | (with_reducible exact ih1 _ _ _ _ _)
      | (with_reducible exact LeO.refl _)
      | (with_reducible exact LeO.none _)
      | (with_reducible refine LeO.ite ?_ ?_)
      | (with_reducible refine LeO.bind ?_ (fun _ => ?_))
      | exact ih0 _ _ _
      | exact ih1 _ _ _ _ _
      | exact LeO.none _
      | refine LeO.ite ?_ ?_
      | refine LeO.bind ?_ (fun _ => ?_)
    · intro y0 y1 y2 y3 y4
      unfold cantingref02_Var.l0
      repeat' first
      | (with_reducible exact ih0 _ _ _)
      | (with_reducible exact ih1 _ _ _ _ _)
      | (with_reducible exact LeO.refl _)
      | (with_reducible exact LeO.none _)
      | (with_reducible refine LeO.ite ?_ ?_)
      | (with_reducible refine LeO.bind ?_ (fun _ => ?_))
      | exact ih0 _ _ _
      | exact ih1 _ _ _ _ _
      | exact LeO.none _
      | refine LeO.ite ?_ ?_
      | refine LeO.bind ?_ (fun _ => ?_)
theorem cantingref02_Var.mono : ∀ a0 a1 k, LeO (cantingref02_Var.f k a0 a1) (cantingref02_Var.f (k + 1) a0 a1) := by
  intro a0 a1 k
  obtain ⟨ih0, ih1⟩ := cantingref02_Var.mono_l k
  unfold cantingref02_Var.f
  repeat' first
      | (with_reducible exact ih0 _ _ _)
      | (with_reducible exact ih1 _ _ _ _ _)
      | (with_reducible exact LeO.refl _)
      | (with_reducible exact LeO.none _)
      | (with_reducible refine LeO.ite ?_ ?_)
      | (with_reducible refine LeO.bind ?_ (fun _ => ?_))
      | exact ih0 _ _ _
      | exact ih1 _ _ _ _ _
      | exact LeO.none _
      | refine LeO.ite ?_ ?_
      | refine LeO.bind ?_ (fun _ => ?_)
set_option maxHeartbeats 8000000 in
set_option maxRecDepth 100000 in
theorem cantingref02_Var.calls (k : Nat) (a0 : Int) (a1 : Int) (r1 : Int) (r2 : List (S106)) (r3 : Int) (r4 : Int) (w : World) (h : cantingref02_Var.f k a0 a1 = some (r1, r2, r3, r4)) :
    Calls Try.prog 28 #[.int .i64 a0, .int .i64 a1] w fun e w' => ∃ v1_ : Value, e = .returned (.tuple #[.agg #[.int .i64 r1, v1_, .int .i64 r3], .int .i64 r4]) ∧ Kd.R k106 106 w' w.heap.size (fun _ => True) v1_ r2 ∧ Below w.heap.size w w' := by
  have hu33 := Try.underlying33
  have HB := Aside0.mk (Below.refl w.heap.size w)
  have H : (if a0 < 0 then (cantingref02_Var.j0 k a0 a1 true) else (if a0 > 12 then (cantingref02_Var.j0 k a0 a1 true) else (if a1 < 0 then (cantingref02_Var.j0 k a0 a1 true) else (cantingref02_Var.j0 k a0 a1 (decide (a1 ≥ a0)))))) = some (r1, r2, r3, r4) := h
  clear h
  have HC3 := Aside0.mk H
  clear H
  go_enter Try.func28, Try.ntmps28
  go_upto_region 1 with (first | ((with_reducible refine gate_dst (N := 4) rfl ?_); refine box_event ?hg (N := 4) ?hd (cs := #[.int .i64 0, .slice none 0 0, .int .i64 0]) (t := 33) ?hr ?_; (case hd => rfl); (case hg => rfl); (case hr => first | (go_simp; done) | (go_simp; rfl)); intro gb193 hg w4 hbox hb; have n0_ := Aside0.mk (below_step (by repeat (first | (with_reducible first | exact HB.out | apply below_alloc | apply pw_below_drewN | apply below_drew1) | exact HB.out)) hb); have n1_ := Aside0.mk (hbox); have n2_ := Aside0.mk ((by rw [hg]; exact (below_size (by repeat (first | (with_reducible first | exact HB.out | apply below_alloc | apply pw_below_drewN | apply below_drew1) | exact HB.out))) : w.heap.size ≤ gb193)); have n3_ := Aside0.mk ((by rw [hg]; exact (below_size (by repeat (first | (with_reducible first | exact HB.out | apply below_alloc | apply pw_below_drewN | apply below_drew1) | exact HB.out))) : w.heap.size ≤ gb193)); clear HB; have HB := n0_; have BK193 := n1_; have GW193 := n2_; have GE193 := n3_; clear n0_ n1_ n2_ n3_; clear hb hbox hg))
  (try simp only [Act.put, List.setIfInBounds_toArray, List.set_cons_zero, List.set_cons_succ])
  go_cut [22] (fun v22 wc => ∃ (kq : Nat) (x22_2 : Bool), v22 = .bool x22_2 ∧ Aside0 (cantingref02_Var.j0 kq a0 a1 x22_2 = some (r1, r2, r3, r4)) ∧ Aside0 (kq ≤ k) ∧ Aside0 (wc.heap[gb193]? = some (.cells #[.int .i64 0, (.slice none 0 0), .int .i64 0] 33 (0, 0))) ∧ Aside0 (Below w.heap.size w wc))
  case first =>
    have H := HC3.out
    clear HC3
    by_cases c5 : a0 < 0
    · rw [if_pos c5] at H
      have c5b0 : decide (a0 < 0) = true := decide_eq_true c5
      (try (have c5b0_0 := c5b0; rw [hl6_2] at c5b0_0))
      clear c5
      (first | rw [c5b0] | (simp only [i64_w, i32_w]; rw [c5b0]) | skip)
      have H' := Aside0.mk H
      clear H
      go_wp2
      go_meet
      case rel => exact ⟨_, (true), (by first | rfl | (simp; done) | (simp [*]; done)), H', ⟨by first | omega | exact Nat.le_refl _⟩, ⟨by (with_reducible repeat (first | refine blk_drewN ?_ _ | refine blk_drew ?_ | refine blk_alloc ?_ _)); exact BK193.out⟩, ⟨by repeat (first | (with_reducible first | exact HB.out | apply below_alloc | apply pw_below_drewN | apply below_drew1 | refine below_set ?_ GE193.out) | exact HB.out)⟩⟩
    · rw [if_neg c5] at H
      have c5b0 : decide (a0 < 0) = false := decide_eq_false c5
      (try (have c5b0_0 := c5b0; rw [hl6_2] at c5b0_0))
      clear c5
      (first | rw [c5b0] | (simp only [i64_w, i32_w]; rw [c5b0]) | skip)
      by_cases c6 : a0 > 12
      · rw [if_pos c6] at H
        have c6b0 : decide (12 < a0) = true := decide_eq_true c6
        (try (have c6b0_0 := c6b0; rw [hl6_2] at c6b0_0))
        clear c6
        have H' := Aside0.mk H
        clear H
        go_wp2
        go_meet
        case rel => exact ⟨_, (true), (by first | rfl | (simp; done) | (simp [*]; done)), H', ⟨by first | omega | exact Nat.le_refl _⟩, ⟨by (with_reducible repeat (first | refine blk_drewN ?_ _ | refine blk_drew ?_ | refine blk_alloc ?_ _)); exact BK193.out⟩, ⟨by repeat (first | (with_reducible first | exact HB.out | apply below_alloc | apply pw_below_drewN | apply below_drew1 | refine below_set ?_ GE193.out) | exact HB.out)⟩⟩
      · rw [if_neg c6] at H
        have c6b0 : decide (12 < a0) = false := decide_eq_false c6
        (try (have c6b0_0 := c6b0; rw [hl6_2] at c6b0_0))
        clear c6
        by_cases c7 : a1 < 0
        · rw [if_pos c7] at H
          have c7b0 : decide (a1 < 0) = true := decide_eq_true c7
          (try (have c7b0_0 := c7b0; rw [hl6_2] at c7b0_0))
          clear c7
          have H' := Aside0.mk H
          clear H
          go_wp2
          go_meet
          case rel => exact ⟨_, (true), (by first | rfl | (simp; done) | (simp [*]; done)), H', ⟨by first | omega | exact Nat.le_refl _⟩, ⟨by (with_reducible repeat (first | refine blk_drewN ?_ _ | refine blk_drew ?_ | refine blk_alloc ?_ _)); exact BK193.out⟩, ⟨by repeat (first | (with_reducible first | exact HB.out | apply below_alloc | apply pw_below_drewN | apply below_drew1 | refine below_set ?_ GE193.out) | exact HB.out)⟩⟩
        · rw [if_neg c7] at H
          have c7b0 : decide (a1 < 0) = false := decide_eq_false c7
          (try (have c7b0_0 := c7b0; rw [hl6_2] at c7b0_0))
          clear c7
          have H' := Aside0.mk H
          clear H
          go_wp2
          go_meet
          case rel => exact ⟨_, (decide (a1 ≥ a0)), (by first | rfl | (simp; done) | (simp [*]; done)), H', ⟨by first | omega | exact Nat.le_refl _⟩, ⟨by (with_reducible repeat (first | refine blk_drewN ?_ _ | refine blk_drew ?_ | refine blk_alloc ?_ _)); exact BK193.out⟩, ⟨by repeat (first | (with_reducible first | exact HB.out | apply below_alloc | apply pw_below_drewN | apply below_drew1 | refine below_set ?_ GE193.out) | exact HB.out)⟩⟩
  case rest =>
    clear HC3
    try clear c2
    try clear p2
    try clear c5
    try clear c5b0
    try clear c6
    try clear c6b0
    try clear c7
    try clear c7b0
    obtain ⟨kq, x22_2, rfl, HA, HJ2, BK193, HB⟩ := hcut
    cases kq with
    | zero => exact absurd HA.out (by simp [cantingref02_Var.j0])
    | succ kj2 =>
      have H := HA.out
      clear HA
      simp only [cantingref02_Var.j0] at H
      by_cases c8 : x22_2 = true
      · subst c8
        have H1 : (some (0, ([] : List (S106)), 0, 2)) = some (r1, r2, r3, r4) := by rw [if_pos rfl] at H; exact H
        clear H
        have H := H1
        clear H1
        simp only [Option.some.injEq, Prod.mk.injEq] at H
        obtain ⟨rfl, rfl, rfl, rfl⟩ := H
        have hcz9_0 : wc.cell? ⟨gb193, 0, none⟩ = some (.int .i64 0) := (blk_cell BK193.out 0).trans rfl
        have hcz9_1 : wc.cell? ⟨gb193, 1, none⟩ = some (.slice none 0 0) := (blk_cell BK193.out 1).trans rfl
        have hcz9_2 : wc.cell? ⟨gb193, 2, none⟩ = some (.int .i64 0) := (blk_cell BK193.out 2).trans rfl
        have hfz9_0 := blk_frozen BK193.out 0
        have hfz9_1 := blk_frozen BK193.out 1
        have hfz9_2 := blk_frozen BK193.out 2
        go_wp2
        refine bodyPost_ret (results_ct rfl _ _ gb193 33 #[.int .i64 0, .slice none 0 0, .int .i64 0] (0, 0) _ rfl (by (with_reducible repeat (first | refine blk_drewN ?_ _ | refine blk_drew ?_ | refine blk_alloc ?_ _)); refine blk_put (cs := #[.int .i64 0, .slice none 0 0, .int .i64 0]) ?_ 2 _ rfl; (with_reducible repeat (first | refine blk_drewN ?_ _ | refine blk_drew ?_ | refine blk_alloc ?_ _)); refine blk_put (cs := #[.int .i64 0, .slice none 0 0, .int .i64 0]) ?_ 1 _ rfl; (with_reducible repeat (first | refine blk_drewN ?_ _ | refine blk_drew ?_ | refine blk_alloc ?_ _)); refine blk_put (cs := #[.int .i64 0, .slice none 0 0, .int .i64 0]) ?_ 0 _ rfl; (with_reducible repeat (first | refine blk_drewN ?_ _ | refine blk_drew ?_ | refine blk_alloc ?_ _)); exact BK193.out) Try.underlying33 rfl (by kernel_rfl)) rfl ?_
        exact ⟨_, by first | rfl | (simp [errW_none, errW_some] <;> rfl) | (simp [*, errW_none, errW_some] <;> rfl), by first | exact Kd.R_nil _ _ _ _ _ | exact Kd.N_nil _ _ _ _ _ | exact Kd.V_nil _ _ _ _ _ | exact Kd.Q_nil _ _ _ _ _ | exact Kd.S_nil _ _ _ _ _, by repeat (first | (with_reducible first | exact HB.out | apply below_alloc | apply pw_below_drewN | apply below_drew1 | refine below_set ?_ GE193.out) | exact HB.out)⟩
      · replace c8 := Bool.eq_false_iff.mpr c8
        subst c8
        have H1 : (if 0 ≤ a0 then (if 0 ≤ (shl .i64 1 a0) then (if (shl .i64 1 a0 : Int).toNat ≤ 281474976710656 then ((some (List.replicate (shl .i64 1 a0 : Int).toNat false : List Bool)).bind fun y194 => (cantingref02_Var.l0 kj2 a0 a1 y194 (y194.length : Int) 0)) else (none)) else (none)) else (none)) = some (r1, r2, r3, r4) := by rw [if_neg (show ¬ (false = true) by decide)] at H; exact H
        clear H
        have H := H1
        clear H1
        by_cases c10 : 0 ≤ a0
        · rw [if_pos c10] at H
          have c10b0 := eq_true c10
          (try (have c10b0_0 := c10b0; rw [hl6_2] at c10b0_0))
          have c10b1 : decide (0 ≤ a0) = true := decide_eq_true c10
          (try (have c10b1_0 := c10b1; rw [hl6_2] at c10b1_0))
          clear c10
          obtain ⟨ji11, hji11⟩ : ∃ j_ : Int, (shl .i64 1 a0) = j_ := ⟨_, rfl⟩
          replace H : (if 0 ≤ (ji11) then (if (ji11 : Int).toNat ≤ 281474976710656 then ((some (List.replicate (ji11 : Int).toNat false : List Bool)).bind fun y194 => (cantingref02_Var.l0 kj2 a0 a1 y194 (y194.length : Int) 0)) else (none)) else (none)) = some (r1, r2, r3, r4) := by first | (rw [hji11] at H; exact H) | (simp only [hji11] at H ⊢; exact H)
          have hji11_ : (IntKind.i64.wrap (1 * 2 ^ min a0.toNat 64)) = ji11 := hji11
          have hji11z : a0 ≤ 64 → (IntKind.i64.wrap (1 * 2 ^ a0.toNat)) = ji11 := shl_small hji11
          have hji11u : (IntKind.i64.wrap (2 ^ min a0.toNat 64)) = ji11 := by have h_ := hji11_; rw [Int.one_mul] at h_; exact h_
          have hji11v : a0 ≤ 64 → (IntKind.i64.wrap (2 ^ a0.toNat)) = ji11 := fun hle_ => by have h_ := hji11z hle_; rw [Int.one_mul] at h_; exact h_
          have hji11y : (wrap64 (1 * 2 ^ min a0.toNat 64)) = ji11 := (i64_w _).symm.trans hji11_
          have hji11x : a0 ≤ 64 → (wrap64 (1 * 2 ^ a0.toNat)) = ji11 := fun h_ => (i64_w _).symm.trans (hji11z h_)
          by_cases c12 : 0 ≤ (ji11)
          · rw [if_pos c12] at H
            have c12b0 := eq_true c12
            (try (have c12b0_0 := c12b0; rw [hl6_2] at c12b0_0))
            have c12b1 : decide (0 ≤ (ji11)) = true := decide_eq_true c12
            (try (have c12b1_0 := c12b1; rw [hl6_2] at c12b1_0))
            clear c12
            by_cases c13 : (ji11 : Int).toNat ≤ 281474976710656
            · rw [if_pos c13] at H
              have c13b0 := eq_true c13
              (try (have c13b0_0 := c13b0; rw [hl6_2] at c13b0_0))
              have c13b1 : decide ((ji11 : Int).toNat ≤ 281474976710656) = true := decide_eq_true c13
              (try (have c13b1_0 := c13b1; rw [hl6_2] at c13b1_0))
              clear c13
              obtain ⟨y194, hy194⟩ : ∃ y_ : List Bool, y_ = (List.replicate (ji11 : Int).toNat false) := ⟨_, rfl⟩
              replace H : (cantingref02_Var.l0 kj2 a0 a1 y194 (y194.length : Int) 0) = some (r1, r2, r3, r4) := by first | (rw [hy194]; with_reducible exact H) | (have H2_ := (Option.bind_some _ _).symm.trans H; rw [hy194]; with_reducible exact H2_) | (have H2_ := (Option.bind_some _ _).symm.trans H; with_reducible exact H2_) | with_reducible exact H | (rw [hy194]; exact H) | exact H
              have Ny194 := Aside0.mk hy194
              clear hy194
              have H' := Aside0.mk H
              clear H
              go_wp2_with (first | ((with_reducible refine gate_dst (N := 26) rfl ?_); refine Kd.R_make Kd.bool _ 4 rfl (N := 26) rfl 47 _ _ rfl ji11 rfl rfl Try.underlying47 (.bool false) 1 info4 rfl (by decide) (by omega) false (ok := fun _ => True) (okp := fun _ => True) rfl (fun _ hk => hk) trivial (of_decide_eq_true (by first | (with_reducible assumption) | assumption)) (Nat.le_trans (Nat.mul_le_mul_right _ (of_decide_eq_true (by first | (with_reducible assumption) | assumption) : ji11.toNat ≤ 281474976710656)) (by omega)) (Below.refl _ _) (Nat.le_refl _) ?_; intro v195 w14 ho15 hb hg_ hnew_; clear hg_ hnew_; (first | rw [← Ny194.out] at ho15 | (simp only [Int.reduceToNat] at ho15; rw [← Ny194.out] at ho15)); have n0_ := Aside0.mk (Kd.R_lower ho15 (below_size (by repeat (first | (with_reducible first | exact HB.out | apply below_alloc | apply pw_below_drewN | apply below_drew1 | refine below_set ?_ GE193.out) | exact HB.out)))); have n1_ := Aside0.mk (blk_below (g := gb193) (o := .cells #[.int .i64 0, .slice none 0 0, .int .i64 0] 33 (0, 0)) (by (with_reducible repeat (first | refine blk_drewN ?_ _ | refine blk_drew ?_ | refine blk_alloc ?_ _)); exact BK193.out) hb); have n2_ := Aside0.mk (below_step (by repeat (first | (with_reducible first | exact HB.out | apply below_alloc | apply pw_below_drewN | apply below_drew1 | refine below_set ?_ GE193.out) | exact HB.out)) hb); clear BK193; clear HB; have HO196 := n0_; have BK193 := n1_; have HB := n2_; clear n0_ n1_ n2_; clear hb ho15; obtain ⟨Ao16, co16, eo16⟩ := Kd.R_slice HO196.out; subst eo16))
              go_loopg [29] kj2 (fun kq v29 w' => ∃ (x6_2 : List Bool) (x29_2 : Int), v29 = .int .i64 x29_2 ∧ Aside0 (cantingref02_Var.l0 kq a0 a1 x6_2 (y194.length : Int) x29_2 = some (r1, r2, r3, r4)) ∧ Aside0 (kq ≤ kj2) ∧ Aside0 (Kd.R Kd.bool 4 w' w.heap.size (fun _ => True) (.slice Ao16 y194.length co16) x6_2) ∧ Aside0 (w'.heap[gb193]? = some (.cells #[.int .i64 0, (.slice none 0 0), .int .i64 0] 33 (0, 0))) ∧ Aside0 (Below w.heap.size w w'))
              case atStart => exact ⟨(y194), (0), (by first | rfl | (simp; done) | (simp [*]; done)), H', ⟨Nat.le_refl _⟩, ⟨by (with_reducible repeat (first | apply Kd.R_alloc | apply Kd.R_drewN | apply Kd.R_drew)); exact HO196.out⟩, ⟨by (with_reducible repeat (first | refine blk_drewN ?_ _ | refine blk_drew ?_ | refine blk_alloc ?_ _)); exact BK193.out⟩, ⟨by repeat (first | (with_reducible first | exact HB.out | apply below_alloc | apply pw_below_drewN | apply below_drew1 | refine below_set ?_ GE193.out) | exact HB.out)⟩⟩
              case round =>
                clear H'
                try clear c1
                try clear c2
                try clear p2
                try clear c5
                try clear c5b0
                try clear c6
                try clear c6b0
                try clear p6
                try clear c7
                try clear c7b0
                try clear c8
                try clear c10
                try clear c10b0
                try clear c10b1
                try clear c12
                try clear c12b0
                try clear c12b1
                try clear c13
                try clear c13b0
                try clear c13b1
                try clear hcz9_0
                try clear hcz9_1
                try clear hcz9_2
                try clear hfz9_0
                try clear hfz9_1
                try clear hfz9_2
                try clear p2
                obtain ⟨x6_2, x29_2, rfl, HA, HK2, HO_6, BK193, HB⟩ := hrel
                have hl6_2 := (Kd.R_reads' HO_6.out).1
                rw [hl6_2] at HO_6
                (try simp only [hl6_2])
                (try simp only [hl6_2] at BK193)
                cases gk with
                | zero => exact absurd HA.out (by simp [cantingref02_Var.l0])
                | succ k2 =>
                  have H := HA.out
                  clear HA
                  simp only [cantingref02_Var.l0] at H
                  by_cases c17 : x29_2 < (y194.length : Int)
                  · rw [if_pos c17] at H
                    have c17b0 : decide (x29_2 < (y194.length : Int)) = true := decide_eq_true c17
                    (try (have c17b0_0 := c17b0; rw [hl6_2] at c17b0_0))
                    clear c17
                    replace H := Option.bind_eq_some_iff.mp H
                    obtain ⟨t197, A180, H⟩ := H
                    replace H : (if 0 ≤ x29_2 then (if x29_2 < (x6_2.length : Int) then (cantingref02_Var.l0 k2 a0 a1 (x6_2.set (x29_2 : Int).toNat t197) (y194.length : Int) (wrap64 (x29_2 + 1))) else (none)) else (none)) = some (r1, r2, r3, r4) := H
                    have A18 := Aside0.mk A180
                    clear A180
                    by_cases c19 : 0 ≤ x29_2
                    · rw [if_pos c19] at H
                      have c19b0 : decide (0 ≤ x29_2) = true := decide_eq_true c19
                      (try (have c19b0_0 := c19b0; rw [hl6_2] at c19b0_0))
                      clear c19
                      by_cases c20 : x29_2 < (x6_2.length : Int)
                      · rw [if_pos c20] at H
                        have c20b0 : decide (x29_2 < (x6_2.length : Int)) = true := decide_eq_true c20
                        (try (have c20b0_0 := c20b0; rw [hl6_2] at c20b0_0))
                        clear c20
                        obtain ⟨y198, hy198⟩ : ∃ y_ : List Bool, y_ = (x6_2.set (x29_2 : Int).toNat t197) := ⟨_, rfl⟩
                        replace H : (cantingref02_Var.l0 k2 a0 a1 y198 (y194.length : Int) (wrap64 (x29_2 + 1))) = some (r1, r2, r3, r4) := by first | (rw [hy198]; with_reducible exact H) | (have H2_ := (Option.bind_some _ _).symm.trans H; rw [hy198]; with_reducible exact H2_) | (have H2_ := (Option.bind_some _ _).symm.trans H; with_reducible exact H2_) | with_reducible exact H | (rw [hy198]; exact H) | exact H
                        have Ny198 := Aside0.mk hy198
                        clear hy198
                        have H' := Aside0.mk H
                        clear H
                        go_wp2_with (first | ((with_reducible refine gate_callee (f := 88) rfl ?_); refine goesL_ (some 37) rfl rfl Try.func88 (by kernel_rfl) rfl #[.int .i64 a0, .int .i64 x29_2, .int .i64 a1] rfl (by (try simp only [List.map_toArray, List.map_cons, List.map_nil]); first | done | rfl | (simp only [List.length_drop, List.length_take]; rfl)) ?_; (with_reducible refine (cantingref02_Bit.calls a0 x29_2 a1 t197 _ A18.out).mono ?_); rintro e w' ⟨rfl, ⟨nd, rfl⟩⟩; refine ⟨_, rfl, ?_⟩; (try (rw [drewN_self wr]; generalize hq_ : World.drewN wr _ = wr; have n0_ : Aside0 (Kd.R Kd.bool 4 wr w.heap.size (fun _ => True) (.slice Ao16 x6_2.length co16) x6_2) := ⟨by rw [← hq_]; exact (by (with_reducible repeat (first | apply Kd.R_alloc | apply Kd.R_drewN | apply Kd.R_drew)); exact HO_6.out)⟩; have n1_ : Aside0 (wr.heap[gb193]? = some (.cells #[.int .i64 0, .slice none 0 0, .int .i64 0] 33 (0, 0))) := ⟨by rw [← hq_]; exact (by (with_reducible repeat (first | refine blk_drewN ?_ _ | refine blk_drew ?_ | refine blk_alloc ?_ _)); exact BK193.out)⟩; have n2_ : Aside0 (Below w.heap.size w wr) := ⟨by rw [← hq_]; exact (by repeat (first | (with_reducible first | exact HB.out | apply below_alloc | apply pw_below_drewN | apply below_drew1 | refine below_set ?_ GE193.out) | exact HB.out))⟩; clear HO_6 BK193 HB hq_; have HO_6 := n0_; have BK193 := n1_; have HB := n2_; clear n0_ n1_ n2_)); have p21 : 0 ≤ (x29_2 : Int) := of_decide_eq_true (by first | (with_reducible assumption) | assumption); have q21 : (x29_2 : Int) < ((x6_2.length : Int) : Int) := of_decide_eq_true (by first | (with_reducible assumption) | assumption); obtain ⟨go21, co21, eo21, gb21, gl21, cl21, HG21⟩ := Kd.R_form HO_6.out (by omega); (first | cases eo21 | (injection eo21 with ea_ en_ ec_; (first | subst ea_ | (injection ea_ with ea_; subst ea_)); subst ec_; clear en_)); have GB21 := Aside0.mk gb21; have GG21 := Aside0.mk HG21; clear gb21 gl21 HG21; obtain ⟨hx21_0, hf21_0⟩ := Kd.R_celln false HO_6.out (x29_2 : Int) p21 q21; replace p21 := eq_true p21; replace q21 := eq_true q21; obtain ⟨hy22_, hz22_⟩ := Kd.R_celln false HO_6.out (x29_2 : Int) (of_decide_eq_true (by first | (with_reducible assumption) | assumption)) (of_decide_eq_true (by first | (with_reducible assumption) | assumption)); have HP22 := Kd.R_putg HO_6.out (x29_2 : Int) t197) | ((with_reducible refine gate_store (t := 4) (p := 38) rfl ?_); refine store_event (t := 4) (p := 38) (v := ?vo_w23) (w1 := (wr.setCell ⟨go21, (x29_2 : Int).toNat, none⟩ (.bool t197))) ?hg ?ho ?hn ?hr ?_; (case ho => rfl); (case hg => rfl); (case hn => rfl); (case hr => first | (go_simp; done) | (go_simp; rfl)); intro w23 hw; have hg : wr.grownBy w23 (some go21) := (by rw [hw]; exact HP22.2); have hp_ : Kd.R Kd.bool 4 w23 w.heap.size (fun _ => True) (.slice (some ⟨go21, 0, none⟩) x6_2.length co16) y198 := (by rw [hw, Ny198.out]; exact HP22.1); clear HP22; have n0_ := Aside0.mk (hp_); have n1_ := Aside0.mk (blk_grown (g := gb193) (o := .cells #[.int .i64 0, .slice none 0 0, .int .i64 0] 33 (0, 0)) (by (with_reducible repeat (first | refine blk_drewN ?_ _ | refine blk_drew ?_ | refine blk_alloc ?_ _)); exact BK193.out) hg (Kd.R_ne HO_6.out BK193.out (by decide))); have n2_ := Aside0.mk ((by rw [hw]; exact below_set (HB.out) GB21.out : Below w.heap.size w w23)); clear HO_6; clear BK193; clear HB; have HO_6 := n0_; have BK193 := n1_; have HB := n2_; clear n0_ n1_ n2_; clear hg hw hp_))
                        (try simp only [← hl6_2])
                        go_roundg k2
                        case measure => have := HJ2.out; have := HK2.out; omega
                        case rel => exact ⟨(y198), (wrap64 (x29_2 + 1)), (by first | rfl | (simp; done) | (simp [*]; done)), H', ⟨by have := HJ2.out; have := HK2.out; omega⟩, ⟨by (try simp only [hl6_2]); (with_reducible repeat (first | apply Kd.R_alloc | apply Kd.R_drewN | apply Kd.R_drew)); exact HO_6.out⟩, ⟨by (try simp only [hl6_2]); (with_reducible repeat (first | refine blk_drewN ?_ _ | refine blk_drew ?_ | refine blk_alloc ?_ _)); exact BK193.out⟩, ⟨by repeat (first | (with_reducible first | exact HB.out | apply below_alloc | apply pw_below_drewN | apply below_drew1 | refine below_set ?_ GE193.out) | exact HB.out)⟩⟩
                      · rw [if_neg c20] at H
                        exact absurd H (by simp)
                    · rw [if_neg c19] at H
                      exact absurd H (by simp)
                  · rw [if_neg c17] at H
                    have c17b0 : decide (x29_2 < (y194.length : Int)) = false := decide_eq_false c17
                    (try (have c17b0_0 := c17b0; rw [hl6_2] at c17b0_0))
                    clear c17
                    replace H := Option.bind_eq_some_iff.mp H
                    obtain ⟨⟨t199, t200, t203⟩, A240, H⟩ := H
                    replace H : (some (t199, t200, t203, 0)) = some (r1, r2, r3, r4) := H
                    have A24 := Aside0.mk A240
                    clear A240
                    simp only [Option.some.injEq, Prod.mk.injEq] at H
                    obtain ⟨rfl, rfl, rfl, rfl⟩ := H
                    go_wp2_with (first | ((with_reducible refine gate_callee (f := 87) rfl ?_); refine goesL_ (some 42) rfl rfl Try.func87 (by kernel_rfl) rfl #[.int .i64 a0, .slice Ao16 x6_2.length co16] rfl (by (try simp only [List.map_toArray, List.map_cons, List.map_nil]); first | done | rfl | (simp only [List.length_drop, List.length_take]; rfl)) ?_; (with_reducible refine (cantingref02_Of.calls a0 _ _ x6_2 t199 t200 t203 _ ?side1 ?side2 A24.out).mono ?_); (case side1 => repeat (first | exact (Kd.R_reads' HO_6.out).2.2 | (with_reducible refine Kd.C_alloc ?_ _) | (with_reducible refine Kd.C_drewN ?_ _) | (with_reducible refine Kd.C_drew ?_))); (case side2 => exact (Kd.R_reads' HO_6.out).2.1); rintro e w25 ⟨v201, rfl, ho0, hb⟩; refine ⟨_, rfl, ?_⟩; have n0_ := Aside0.mk (Kd.R_below (by (with_reducible repeat (first | apply Kd.R_alloc | apply Kd.R_drewN | apply Kd.R_drew)); exact HO_6.out) hb); have n1_ := Aside0.mk (Kd.R_lower ho0 (below_size (by repeat (first | (with_reducible first | exact HB.out | apply below_alloc | apply pw_below_drewN | apply below_drew1 | refine below_set ?_ GE193.out) | exact HB.out)))); have n2_ := Aside0.mk (blk_below (g := gb193) (o := .cells #[.int .i64 0, .slice none 0 0, .int .i64 0] 33 (0, 0)) (by (with_reducible repeat (first | refine blk_drewN ?_ _ | refine blk_drew ?_ | refine blk_alloc ?_ _)); exact BK193.out) hb); have n3_ := Aside0.mk (below_step (by repeat (first | (with_reducible first | exact HB.out | apply below_alloc | apply pw_below_drewN | apply below_drew1 | refine below_set ?_ GE193.out) | exact HB.out)) hb); clear HO_6; clear BK193; clear HB; have HO_6 := n0_; have HO202 := n1_; have BK193 := n2_; have HB := n3_; clear n0_ n1_ n2_ n3_; (try clear hb); (try clear hb2); (try clear hk); (try clear hi); (try clear ho0); have hcz26_0 : w25.cell? ⟨gb193, 0, none⟩ = some (.int .i64 0) := (blk_cell BK193.out 0).trans rfl; have hcz26_1 : w25.cell? ⟨gb193, 1, none⟩ = some (.slice none 0 0) := (blk_cell BK193.out 1).trans rfl; have hcz26_2 : w25.cell? ⟨gb193, 2, none⟩ = some (.int .i64 0) := (blk_cell BK193.out 2).trans rfl; have hfz26_0 := blk_frozen BK193.out 0; have hfz26_1 := blk_frozen BK193.out 1; have hfz26_2 := blk_frozen BK193.out 2; obtain ⟨Ao27, co27, eo27⟩ := Kd.R_slice HO202.out; subst eo27))
                    refine bodyPost_ret (results_ct rfl _ _ gb193 33 #[.int .i64 t199, .slice Ao27 t200.length co27, .int .i64 t203] (0, 0) _ rfl (by (with_reducible repeat (first | refine blk_drewN ?_ _ | refine blk_drew ?_ | refine blk_alloc ?_ _)); refine blk_put (cs := #[.int .i64 t199, .slice Ao27 t200.length co27, .int .i64 0]) ?_ 2 _ rfl; (with_reducible repeat (first | refine blk_drewN ?_ _ | refine blk_drew ?_ | refine blk_alloc ?_ _)); refine blk_put (cs := #[.int .i64 t199, .slice none 0 0, .int .i64 0]) ?_ 1 _ rfl; (with_reducible repeat (first | refine blk_drewN ?_ _ | refine blk_drew ?_ | refine blk_alloc ?_ _)); refine blk_put (cs := #[.int .i64 0, .slice none 0 0, .int .i64 0]) ?_ 0 _ rfl; (with_reducible repeat (first | refine blk_drewN ?_ _ | refine blk_drew ?_ | refine blk_alloc ?_ _)); exact BK193.out) Try.underlying33 rfl (by kernel_rfl)) rfl ?_
                    exact ⟨_, by first | rfl | (simp [errW_none, errW_some] <;> rfl) | (simp only [← hji11]; first | rfl | (simp [errW_none, errW_some] <;> rfl)) | (simp [*, errW_none, errW_some] <;> rfl), by (with_reducible repeat (first | apply Kd.R_alloc | apply Kd.R_drewN | apply Kd.R_drew)); exact Kd.R_mono (Kd.R_far (p := ⟨gb193, 2, none⟩) (Kd.R_far (p := ⟨gb193, 1, none⟩) (Kd.R_far (p := ⟨gb193, 0, none⟩) (Kd.R_types HO202.out BK193.out (by decide)) (fun _ hk => hk.2) (.int .i64 t199)) (fun _ hk => hk.2) (.slice Ao27 t200.length co27)) (fun _ hk => hk.2) (.int .i64 t203)) (fun _ hk => trivial), by repeat (first | (with_reducible first | exact HB.out | apply below_alloc | apply pw_below_drewN | apply below_drew1 | refine below_set ?_ GE193.out) | exact HB.out)⟩
            · rw [if_neg c13] at H
              exact absurd H (by simp)
          · rw [if_neg c12] at H
            exact absurd H (by simp)
        · rw [if_neg c10] at H
          exact absurd H (by simp)
end Go.Proofs.Ytlplphgoldkoeaa.X
end

section
set_option linter.unusedVariables false
set_option linter.unusedSimpArgs false
namespace Go.Proofs.Ytlplphgoldkoeaa.HTab
open Go.RowKit Go.Proofs.YtlplphgoldkoeaaW.PrintWords Go.Proofs.YtlplphgoldkoeaaW.PrintLast Go.Proofs.YtlplphgoldkoeaaW.PrintMore Go.Proofs.Ytlplphgoldkoeaa.X
set_option linter.unusedVariables false
set_option linter.unusedSimpArgs false
set_option maxRecDepth 100000 in
set_option maxHeartbeats 4000000 in
theorem mconst_err (n : Int) (b : Bool) (w : World) (h : n < 0 ∨ 12 < n) :
    Calls Try.prog 25 #[.int .i64 n, .bool b] w fun e w' => e = .returned (.tuple #[.agg #[.int .i64 0, .slice none 0 0, .int .i64 0], .int .i64 2]) ∧ Below w.heap.size w w' := by
  have hu := Try.underlying28
  by_cases h0 : n < 0
  · have d0 : decide (n < 0) = true := decide_eq_true h0
    clear h h0
    go_enter Try.func25, Try.ntmps25
    go_wp2
    refine bodyPost_ret (results_ct rfl _ _ w.heap.size 28 #[.int .i64 0, .slice none 0 0, .int .i64 0] (0, 0) _ rfl (blk_new _ _) hu rfl (by kernel_rfl)) rfl ?_
    exact ⟨by rfl, below_alloc (Below.refl _ _) _⟩
  · have d0 : decide (n < 0) = false := decide_eq_false h0
    have d1 : decide (12 < n) = true := decide_eq_true (by omega)
    clear h h0
    go_enter Try.func25, Try.ntmps25
    go_wp2
    refine bodyPost_ret (results_ct rfl _ _ w.heap.size 28 #[.int .i64 0, .slice none 0 0, .int .i64 0] (0, 0) _ rfl (blk_new _ _) hu rfl (by kernel_rfl)) rfl ?_
    exact ⟨by rfl, below_alloc (Below.refl _ _) _⟩
set_option maxRecDepth 100000 in
set_option maxHeartbeats 4000000 in
theorem mconst_ok (n : Int) (b : Bool) (w : World) (h0 : 0 ≤ n) (h1 : n ≤ 12) :
    Calls Try.prog 25 #[.int .i64 n, .bool b] w fun e w' => e = .returned (.tuple #[.agg #[.int .i64 n, .slice none 0 0, .int .i64 (if b then 1 else 0)], .int .i64 0]) ∧ Below w.heap.size w w' := by
  have hu := Try.underlying28
  have d0 : decide (n < 0) = false := decide_eq_false (by omega)
  have d1 : decide (12 < n) = false := decide_eq_false (by omega)
  clear h0 h1
  cases b
  · go_enter Try.func25, Try.ntmps25
    go_wp2
    refine bodyPost_ret (results_ct rfl _ _ w.heap.size 28 #[.int .i64 n, .slice none 0 0, .int .i64 0] (0, 0) _ rfl (blk_alloc (blk_new _ _) _) hu rfl (by kernel_rfl)) rfl ?_
    exact ⟨by rfl, below_alloc (below_alloc (Below.refl _ _) _) _⟩
  · go_enter Try.func25, Try.ntmps25
    go_wp2
    refine bodyPost_ret (results_ct rfl _ _ w.heap.size 28 #[.int .i64 n, .slice none 0 0, .int .i64 1] (0, 0) _ rfl (blk_alloc (blk_new _ _) _) hu rfl (by kernel_rfl)) rfl ?_
    exact ⟨by rfl, below_alloc (below_alloc (Below.refl _ _) _) _⟩
end Go.Proofs.Ytlplphgoldkoeaa.HTab
namespace Go.Proofs.Ytlplphgoldkoeaa.X
open Go.RowKit Go.Proofs.YtlplphgoldkoeaaW.PrintWords Go.Proofs.YtlplphgoldkoeaaW.PrintLast Go.Proofs.YtlplphgoldkoeaaW.PrintMore Go.Proofs.Ytlplphgoldkoeaa.HTab
set_option linter.unusedVariables false
def mask_Const.f (a0 : Int) (a1 : Bool) : Option (Int × (List (S107)) × Int × Int) := if a0 < 0 ∨ 12 < a0 then some (0, [], 0, 2) else some (a0, [], if a1 then 1 else 0, 0)
theorem mask_Const.calls (a0 : Int) (a1 : Bool) (r1 : Int) (r2 : List (S107)) (r3 : Int) (r4 : Int) (w : World) (h : mask_Const.f a0 a1 = some (r1, r2, r3, r4)) :
    Calls Try.prog 25 #[.int .i64 a0, .bool a1] w fun e w' => ∃ v1_ : Value, e = .returned (.tuple #[.agg #[.int .i64 r1, v1_, .int .i64 r3], .int .i64 r4]) ∧ Kd.R k107 107 w' w.heap.size (fun _ => True) v1_ r2 ∧ Below w.heap.size w w' := by
  unfold mask_Const.f at h
  split at h
  · rename_i hc
    simp only [Option.some.injEq, Prod.mk.injEq] at h
    obtain ⟨rfl, rfl, rfl, rfl⟩ := h
    refine (mconst_err a0 a1 w hc).mono ?_
    rintro e w' ⟨rfl, hb⟩
    exact ⟨_, rfl, Kd.R_nil _ _ _ _ _, hb⟩
  · rename_i hc
    simp only [Option.some.injEq, Prod.mk.injEq] at h
    obtain ⟨rfl, rfl, rfl, rfl⟩ := h
    refine (mconst_ok a0 a1 w (by omega) (by omega)).mono ?_
    rintro e w' ⟨rfl, hb⟩
    exact ⟨_, rfl, Kd.R_nil _ _ _ _ _, hb⟩
end Go.Proofs.Ytlplphgoldkoeaa.X
end

section
set_option linter.unusedVariables false
set_option linter.unusedSimpArgs false
namespace Go.Proofs.Ytlplphgoldkoeaa.HTab
open Go.RowKit Go.Proofs.YtlplphgoldkoeaaW.PrintWords Go.Proofs.YtlplphgoldkoeaaW.PrintLast Go.Proofs.YtlplphgoldkoeaaW.PrintMore Go.Proofs.Ytlplphgoldkoeaa.HMap Go.Proofs.Ytlplphgoldkoeaa.X
set_option linter.unusedVariables false
set_option linter.unusedSimpArgs false
theorem constR_l0 (n : Int) (b : Bool) (N : Nat) (hN : N ≤ 4096) : ∀ (d i k : Nat) (acc : List Bool), i + d = N → d < k → acc.length = N → acc.take i = List.replicate i b →
    cantingref02_Const.l0 k n b acc N i = (cantingref02_Of.f n (List.replicate N b)).bind fun q => some (q.1, q.2.1, q.2.2, 0)
  | 0, i, k, acc, hi, hk, ha, ht => by
    obtain ⟨k, rfl⟩ : ∃ m, k = m + 1 := ⟨k - 1, by omega⟩
    simp only [cantingref02_Const.l0]
    rw [if_neg (by omega)]
    rw [List.take_of_length_le (by omega), show i = N by omega] at ht
    rw [ht]
  | d + 1, i, k, acc, hi, hk, ha, ht => by
    obtain ⟨k, rfl⟩ : ∃ m, k = m + 1 := ⟨k - 1, by omega⟩
    simp only [cantingref02_Const.l0]
    rw [if_pos (by omega), if_pos (by omega), if_pos (by omega), wrap_add1 (by omega) (by omega), Int.toNat_natCast]
    refine constR_l0 n b N hN d (i + 1) k _ (by omega) (by omega) (by simp [ha]) ?_
    have := fill_set (List.replicate N b) acc i (by simp; omega) (by simp [ha]) (by rw [ht]; simp; omega)
    have h2 : (List.replicate N b).getD i false = b := by simp [List.getD_eq_getElem?_getD, List.getElem?_replicate, show i < N by omega]
    rw [h2] at this
    rw [this]
    simp
    omega
theorem const_ok (n : Int) (b : Bool) (k : Nat) (hk : 5000 ≤ k) : ∃ v l r e, mask_Const.f n b = some (v, l, r, e) ∧ cantingref02_Const.f k n b = some (v, l.map toR, r, e) ∧ l.length ≤ 4096 := by
  obtain ⟨k, rfl⟩ : ∃ m, k = m + 1 := ⟨k - 1, by omega⟩
  by_cases h : n < 0 ∨ 12 < n
  · refine ⟨0, [], 0, 2, ?_, ?_, by simp⟩
    · unfold mask_Const.f
      rw [if_pos h]
    · unfold cantingref02_Const.f
      by_cases h0 : n < 0
      · rw [if_pos h0]; rfl
      · rw [if_neg h0, decide_eq_true (by omega)]; rfl
  · have h0 : ¬ n < 0 := by omega
    have hb := p12 (k := n.toNat) (by omega)
    have hc := pow_cast n.toNat
    refine ⟨n, [], if b then 1 else 0, 0, ?_, ?_, by simp⟩
    · unfold mask_Const.f
      rw [if_neg h]
    · unfold cantingref02_Const.f
      rw [if_neg h0, decide_eq_false (by omega)]
      simp only [cantingref02_Const.j0, Bool.false_eq_true, if_false]
      rw [shl1 (by omega) (by omega), ← hc, if_pos (by omega), if_pos (by omega), if_pos (by omega), Int.toNat_natCast]
      simp only [Option.bind_some, List.length_replicate]
      have := constR_l0 n b (2 ^ n.toNat) (by omega) (2 ^ n.toNat) 0 k (List.replicate (2 ^ n.toNat) false) (by omega) (by omega) (by simp) (by simp)
      rw [Int.ofNat_zero] at this
      rw [this, (VM.const (by omega) (by omega) b).of_f (tab_const (by omega) b)]
      rfl
theorem varR_l0 (n i : Int) (h0 : 0 ≤ i) (h1 : i < n) (h12 : n ≤ 12) : ∀ (d P k : Nat) (acc : List Bool), P + d = 2 ^ n.toNat → d < k → acc.length = 2 ^ n.toNat → acc.take P = (tab n [⟨i, 0, 1⟩] 2).take P →
    cantingref02_Var.l0 k n i acc (2 ^ n.toNat : Nat) P = (cantingref02_Of.f n (tab n [⟨i, 0, 1⟩] 2)).bind fun q => some (q.1, q.2.1, q.2.2, 0)
  | 0, P, k, acc, hi, hk, ha, ht => by
    obtain ⟨k, rfl⟩ : ∃ m, k = m + 1 := ⟨k - 1, by omega⟩
    simp only [cantingref02_Var.l0]
    rw [if_neg (by omega)]
    rw [List.take_of_length_le (by omega), List.take_of_length_le (by rw [tab_length]; omega)] at ht
    rw [ht]
  | d + 1, P, k, acc, hi, hk, ha, ht => by
    obtain ⟨k, rfl⟩ : ∃ m, k = m + 1 := ⟨k - 1, by omega⟩
    have hb := p12 (k := n.toNat) (by omega)
    simp only [cantingref02_Var.l0]
    rw [if_pos (by omega), bit_f (v := n) (P := P) (i := i) (by omega) (by omega) (n - 1 - i).toNat (by omega) (by omega) (by omega) h0]
    simp only [Option.bind_some]
    rw [if_pos (by omega), if_pos (by omega), wrap_add1 (by omega) (by omega), Int.toNat_natCast]
    refine varR_l0 n i h0 h1 h12 d (P + 1) k _ (by omega) (by omega) (by simp [ha]) ?_
    have := fill_set (tab n [⟨i, 0, 1⟩] 2) acc P (by rw [tab_length]; omega) (by rw [tab_length]; omega) ht
    rw [tab_var h0 h1 P (by omega)] at this
    rw [← this]
    congr 2
    rw [decide_eq_decide, ← pow_cast]
    omega
theorem var_ok (n i : Int) (k : Nat) (hk : 5000 ≤ k) : ∃ v l r e, mask_Var.f n i = some (v, l, r, e) ∧ cantingref02_Var.f k n i = some (v, l.map toR, r, e) ∧ l.length ≤ 4096 := by
  obtain ⟨k, rfl⟩ : ∃ m, k = m + 1 := ⟨k - 1, by omega⟩
  unfold mask_Var.f cantingref02_Var.f
  by_cases h0 : n < 0
  · exact ⟨0, [], 0, 2, by rw [if_pos h0], by rw [if_pos h0]; rfl, by simp⟩
  by_cases h1 : n > 12
  · exact ⟨0, [], 0, 2, by rw [if_neg h0, if_pos h1], by rw [if_neg h0, if_pos h1]; rfl, by simp⟩
  by_cases h2 : i < 0
  · exact ⟨0, [], 0, 2, by rw [if_neg h0, if_neg h1, if_pos h2], by rw [if_neg h0, if_neg h1, if_pos h2]; rfl, by simp⟩
  by_cases h3 : i ≥ n
  · exact ⟨0, [], 0, 2, by rw [if_neg h0, if_neg h1, if_neg h2, if_pos h3], by rw [if_neg h0, if_neg h1, if_neg h2, decide_eq_true h3]; rfl, by simp⟩
  have hb := p12 (k := n.toNat) (by omega)
  have hc := pow_cast n.toNat
  refine ⟨n, [⟨i, 0, 1⟩], 2, 0, by rw [if_neg h0, if_neg h1, if_neg h2, if_neg h3], ?_, by simp⟩
  rw [if_neg h0, if_neg h1, if_neg h2, decide_eq_false h3]
  simp only [cantingref02_Var.j0, Bool.false_eq_true, if_false]
  rw [shl1 (by omega) (by omega), ← hc, if_pos (by omega), if_pos (by omega), if_pos (by omega), Int.toNat_natCast]
  simp only [Option.bind_some, List.length_replicate]
  have := varR_l0 n i (by omega) (by omega) (by omega) (2 ^ n.toNat) 0 k (List.replicate (2 ^ n.toNat) false) (by omega) (by omega) (by simp) (by simp)
  rw [Int.ofNat_zero] at this
  rw [this, (VM.var (by omega) (by omega) (by omega)).of_f rfl]
  rfl
end Go.Proofs.Ytlplphgoldkoeaa.HTab
end

section
set_option linter.unusedVariables false
set_option linter.unusedSimpArgs false
namespace Go.Proofs.Ytlplphgoldkoeaa.HTab
open Go.RowKit Go.Proofs.YtlplphgoldkoeaaW.PrintWords Go.Proofs.YtlplphgoldkoeaaW.PrintLast Go.Proofs.YtlplphgoldkoeaaW.PrintMore Go.Proofs.Ytlplphgoldkoeaa.HMap Go.Proofs.Ytlplphgoldkoeaa.X
set_option linter.unusedVariables false
set_option linter.unusedSimpArgs false
def tb_MaskMakes_5.T : Bool × List (List Nat × List Nat) := (true, [([], []), ([0], [0]), ([1, 1], [1]), ([], []), ([3, 2], [3]), ([2, 4], [2, 4]), ([5, 4], [5]), ([6], [6]), ([6], [6]), ([6], [6]), ([6], [6]), ([7, 8, 9, 10, 6, 6], [6, 7, 8, 9, 10]), ([6, 11], [6, 11]), ([12, 11], [12]), ([13], [13]), ([13], [13]), ([13], [13]), ([13], [13]), ([14, 15, 16, 17, 13, 13], [13, 14, 15, 16, 17]), ([13, 18], [13, 18]), ([19, 18], [19]), ([20, 20], [20]), ([20, 21], [20, 21]), ([22, 21, 0, 1, 2, 3, 4, 5, 6, 7, 8, 9, 10, 11, 12, 13, 14, 15, 16, 17, 18, 19, 20, 21, 22], [22])])
def tb_MaskMakes_5.B : List Nat := [0, 1, 3, 0, 15, 31, 63, 127, 127, 127, 127, 2047, 4095, 8191, 16383, 16383, 16383, 16383, 262143, 524287, 1048575, 2097151, 4194303, 8388607]
theorem tb_MaskMakes_5.tab : rtab .any (opsOf Try.f4 5) = tb_MaskMakes_5.T := by kernel_rfl
theorem tb_MaskMakes_5.bits : waitsOk tb_MaskMakes_5.T.2 tb_MaskMakes_5.B = true := by kernel_rfl
set_option maxRecDepth 100000 in
set_option maxHeartbeats 4000000 in
theorem makes_calls (fu : Nat) (v : Int) (A : Option Addr) (c : Nat) (l : List S106) (r n i : Int) (b q : Bool) (lo l1 l2 : List S107) (m1 m2 : List S106) (v1 r1 e1 v2 r2 e2 : Int) (w : World) (hC : Kd.C k106 w A l.length l) (hc : l.length ≤ c)
    (h1 : mask_Const.f n b = some (v1, l1, r1, e1)) (h2 : cantingref02_Const.f fu n b = some (v1, m1, r1, e1)) (h3 : mask_Var.f n i = some (v2, l2, r2, e2)) (h4 : cantingref02_Var.f fu n i = some (v2, m2, r2, e2)) (h5 : cantinglaw02_of.f fu v l r = some (v, lo, r))
    (h6 : mask_Valid.f v lo r = some q) (h7 : cantingref02_Valid.f v l r = some q) (h8 : cantinglaw02_is.f fu v1 l1 r1 e1 v1 m1 r1 e1 = some true) (h9 : cantinglaw02_is.f fu v2 l2 r2 e2 v2 m2 r2 e2 = some true) (h10 : cantinglaw02_awake.f fu = some true) :
    Calls Try.prog 4 #[.agg #[.int .i64 v, .slice A l.length c, .int .i64 r], .int .i64 n, .int .i64 i, .bool b] w fun e w' => e = .returned (.bool true) ∧ Below w.heap.size w w' := by
  have H1 := Aside0.mk h1
  have H2 := Aside0.mk h2
  have H3 := Aside0.mk h3
  have H4 := Aside0.mk h4
  have H5 := Aside0.mk h5
  have H6 := Aside0.mk h6
  have H7 := Aside0.mk h7
  have H8 := Aside0.mk h8
  have H9 := Aside0.mk h9
  have H10 := Aside0.mk h10
  have HC := Aside0.mk hC
  have hu1 := Try.underlying28
  have hu2 := Try.underlying33
  clear h1 h2 h3 h4 h5 h6 h7 h8 h9 h10 hC
  cases q
  all_goals
    go_enter Try.func4, Try.ntmps4
    go_wp2_with fail
    refine (mask_Const.calls n b v1 l1 r1 e1 _ H1.out).mono ?_
    rintro e w1 ⟨vl1_, rfl, hRl1, hb1⟩
    obtain ⟨Al1, cl1, rfl, hcl1, _⟩ := Kd.R_reads hRl1
    have HB2 := Aside0.mk (below_then (below_alloc (Below.refl w.heap.size w) (.cells #[.int .i64 v, .slice A l.length c, .int .i64 r] 33)) ((below_alloc (Below.refl w.heap.size w) (.cells #[.int .i64 v, .slice A l.length c, .int .i64 r] 33))).size hb1)
    have Kf2 := Aside0.mk (blk_below (blk_new w (.cells #[.int .i64 v, .slice A l.length c, .int .i64 r] 33)) hb1)
    have Rl11 := Aside0.mk (Kd.R_lower hRl1 ((below_alloc (Below.refl w.heap.size w) (.cells #[.int .i64 v, .slice A l.length c, .int .i64 r] 33))).size)
    clear hb1 hRl1
    go_wp2_with fail
    refine (cantingref02_Const.calls fu n b v1 m1 r1 e1 _ H2.out).mono ?_
    rintro e w3 ⟨vm1_, rfl, hRm1, hb3⟩
    obtain ⟨Am1, cm1, rfl, hcm1, _⟩ := Kd.R_reads hRm1
    have HB4 := Aside0.mk (below_then (below_alloc HB2.out (.cells #[.int .i64 v1, .slice Al1 l1.length cl1, .int .i64 r1] 28)) ((below_alloc HB2.out (.cells #[.int .i64 v1, .slice Al1 l1.length cl1, .int .i64 r1] 28))).size hb3)
    have Kf4 := Aside0.mk (blk_below (blk_alloc Kf2.out (.cells #[.int .i64 v1, .slice Al1 l1.length cl1, .int .i64 r1] 28)) hb3)
    have Ka4 := Aside0.mk (blk_below (blk_new w1 (.cells #[.int .i64 v1, .slice Al1 l1.length cl1, .int .i64 r1] 28)) hb3)
    have Rl14 := Aside0.mk (Kd.R_below (Kd.R_alloc Rl11.out (.cells #[.int .i64 v1, .slice Al1 l1.length cl1, .int .i64 r1] 28)) hb3)
    have Rm13 := Aside0.mk (Kd.R_lower hRm1 ((below_alloc HB2.out (.cells #[.int .i64 v1, .slice Al1 l1.length cl1, .int .i64 r1] 28))).size)
    clear hb3 hRm1
    go_wp2_with fail
    refine (mask_Var.calls n i v2 l2 r2 e2 _ H3.out).mono ?_
    rintro e w5 ⟨vl2_, rfl, hRl2, hb5⟩
    obtain ⟨Al2, cl2, rfl, hcl2, _⟩ := Kd.R_reads hRl2
    have HB6 := Aside0.mk (below_then (below_alloc HB4.out (.cells #[.int .i64 v1, .slice Am1 m1.length cm1, .int .i64 r1] 33)) ((below_alloc HB4.out (.cells #[.int .i64 v1, .slice Am1 m1.length cm1, .int .i64 r1] 33))).size hb5)
    have Kf6 := Aside0.mk (blk_below (blk_alloc Kf4.out (.cells #[.int .i64 v1, .slice Am1 m1.length cm1, .int .i64 r1] 33)) hb5)
    have Ka6 := Aside0.mk (blk_below (blk_alloc Ka4.out (.cells #[.int .i64 v1, .slice Am1 m1.length cm1, .int .i64 r1] 33)) hb5)
    have Kb6 := Aside0.mk (blk_below (blk_new w3 (.cells #[.int .i64 v1, .slice Am1 m1.length cm1, .int .i64 r1] 33)) hb5)
    have Rl16 := Aside0.mk (Kd.R_below (Kd.R_alloc Rl14.out (.cells #[.int .i64 v1, .slice Am1 m1.length cm1, .int .i64 r1] 33)) hb5)
    have Rm16 := Aside0.mk (Kd.R_below (Kd.R_alloc Rm13.out (.cells #[.int .i64 v1, .slice Am1 m1.length cm1, .int .i64 r1] 33)) hb5)
    have Rl25 := Aside0.mk (Kd.R_lower hRl2 ((below_alloc HB4.out (.cells #[.int .i64 v1, .slice Am1 m1.length cm1, .int .i64 r1] 33))).size)
    clear hb5 hRl2
    go_wp2_with fail
    refine (cantingref02_Var.calls fu n i v2 m2 r2 e2 _ H4.out).mono ?_
    rintro e w7 ⟨vm2_, rfl, hRm2, hb7⟩
    obtain ⟨Am2, cm2, rfl, hcm2, _⟩ := Kd.R_reads hRm2
    have HB8 := Aside0.mk (below_then (below_alloc HB6.out (.cells #[.int .i64 v2, .slice Al2 l2.length cl2, .int .i64 r2] 28)) ((below_alloc HB6.out (.cells #[.int .i64 v2, .slice Al2 l2.length cl2, .int .i64 r2] 28))).size hb7)
    have Kf8 := Aside0.mk (blk_below (blk_alloc Kf6.out (.cells #[.int .i64 v2, .slice Al2 l2.length cl2, .int .i64 r2] 28)) hb7)
    have Ka8 := Aside0.mk (blk_below (blk_alloc Ka6.out (.cells #[.int .i64 v2, .slice Al2 l2.length cl2, .int .i64 r2] 28)) hb7)
    have Kb8 := Aside0.mk (blk_below (blk_alloc Kb6.out (.cells #[.int .i64 v2, .slice Al2 l2.length cl2, .int .i64 r2] 28)) hb7)
    have Kc8 := Aside0.mk (blk_below (blk_new w5 (.cells #[.int .i64 v2, .slice Al2 l2.length cl2, .int .i64 r2] 28)) hb7)
    have Rl18 := Aside0.mk (Kd.R_below (Kd.R_alloc Rl16.out (.cells #[.int .i64 v2, .slice Al2 l2.length cl2, .int .i64 r2] 28)) hb7)
    have Rm18 := Aside0.mk (Kd.R_below (Kd.R_alloc Rm16.out (.cells #[.int .i64 v2, .slice Al2 l2.length cl2, .int .i64 r2] 28)) hb7)
    have Rl28 := Aside0.mk (Kd.R_below (Kd.R_alloc Rl25.out (.cells #[.int .i64 v2, .slice Al2 l2.length cl2, .int .i64 r2] 28)) hb7)
    have Rm27 := Aside0.mk (Kd.R_lower hRm2 ((below_alloc HB6.out (.cells #[.int .i64 v2, .slice Al2 l2.length cl2, .int .i64 r2] 28))).size)
    clear hb7 hRm2
    go_wp2
    obtain ⟨W9, hW9⟩ : ∃ W, W = (w7.alloc (.cells #[.int .i64 v2, .slice Am2 m2.length cm2, .int .i64 r2] 33)) := ⟨_, rfl⟩
    have HB10 := Aside0.mk (show Below w.heap.size w W9 by rw [hW9]; exact (below_alloc HB8.out (.cells #[.int .i64 v2, .slice Am2 m2.length cm2, .int .i64 r2] 33)))
    have Kf10 := Aside0.mk (show W9.heap[w.heap.size]? = some (.cells #[.int .i64 v, .slice A l.length c, .int .i64 r] 33 (0, 0)) by rw [hW9]; exact (blk_alloc Kf8.out (.cells #[.int .i64 v2, .slice Am2 m2.length cm2, .int .i64 r2] 33)))
    have Ka10 := Aside0.mk (show W9.heap[w1.heap.size]? = some (.cells #[.int .i64 v1, .slice Al1 l1.length cl1, .int .i64 r1] 28 (0, 0)) by rw [hW9]; exact (blk_alloc Ka8.out (.cells #[.int .i64 v2, .slice Am2 m2.length cm2, .int .i64 r2] 33)))
    have Kb10 := Aside0.mk (show W9.heap[w3.heap.size]? = some (.cells #[.int .i64 v1, .slice Am1 m1.length cm1, .int .i64 r1] 33 (0, 0)) by rw [hW9]; exact (blk_alloc Kb8.out (.cells #[.int .i64 v2, .slice Am2 m2.length cm2, .int .i64 r2] 33)))
    have Kc10 := Aside0.mk (show W9.heap[w5.heap.size]? = some (.cells #[.int .i64 v2, .slice Al2 l2.length cl2, .int .i64 r2] 28 (0, 0)) by rw [hW9]; exact (blk_alloc Kc8.out (.cells #[.int .i64 v2, .slice Am2 m2.length cm2, .int .i64 r2] 33)))
    have Kd10 := Aside0.mk (show W9.heap[w7.heap.size]? = some (.cells #[.int .i64 v2, .slice Am2 m2.length cm2, .int .i64 r2] 33 (0, 0)) by rw [hW9]; exact (blk_new w7 (.cells #[.int .i64 v2, .slice Am2 m2.length cm2, .int .i64 r2] 33)))
    have Rl110 := Aside0.mk (show k107.R 107 W9 w.heap.size (fun _ => True) (.slice Al1 l1.length cl1) l1 by rw [hW9]; exact (Kd.R_alloc Rl18.out (.cells #[.int .i64 v2, .slice Am2 m2.length cm2, .int .i64 r2] 33)))
    have Rm110 := Aside0.mk (show k106.R 106 W9 w.heap.size (fun _ => True) (.slice Am1 m1.length cm1) m1 by rw [hW9]; exact (Kd.R_alloc Rm18.out (.cells #[.int .i64 v2, .slice Am2 m2.length cm2, .int .i64 r2] 33)))
    have Rl210 := Aside0.mk (show k107.R 107 W9 w.heap.size (fun _ => True) (.slice Al2 l2.length cl2) l2 by rw [hW9]; exact (Kd.R_alloc Rl28.out (.cells #[.int .i64 v2, .slice Am2 m2.length cm2, .int .i64 r2] 33)))
    have Rm210 := Aside0.mk (show k106.R 106 W9 w.heap.size (fun _ => True) (.slice Am2 m2.length cm2) m2 by rw [hW9]; exact (Kd.R_alloc Rm27.out (.cells #[.int .i64 v2, .slice Am2 m2.length cm2, .int .i64 r2] 33)))
    rw [← hW9]
    clear hW9
    have yf0 := (blk_cell Kf10.out 0).trans rfl
    have yf1 := (blk_cell Kf10.out 1).trans rfl
    have yf2 := (blk_cell Kf10.out 2).trans rfl
    have ya0 := (blk_cell Ka10.out 0).trans rfl
    have ya1 := (blk_cell Ka10.out 1).trans rfl
    have ya2 := (blk_cell Ka10.out 2).trans rfl
    have yb0 := (blk_cell Kb10.out 0).trans rfl
    have yb1 := (blk_cell Kb10.out 1).trans rfl
    have yb2 := (blk_cell Kb10.out 2).trans rfl
    have yc0 := (blk_cell Kc10.out 0).trans rfl
    have yc1 := (blk_cell Kc10.out 1).trans rfl
    have yc2 := (blk_cell Kc10.out 2).trans rfl
    have yd0 := (blk_cell Kd10.out 0).trans rfl
    have yd1 := (blk_cell Kd10.out 1).trans rfl
    have yd2 := (blk_cell Kd10.out 2).trans rfl
    refine start_ (n := 24) (S := fun w' => (w'.cell? ⟨w.heap.size, 0, none⟩ = some (.int .i64 v)) ∧ (w'.cell? ⟨w.heap.size, 1, none⟩ = some (.slice A l.length c)) ∧ (w'.cell? ⟨w.heap.size, 2, none⟩ = some (.int .i64 r)) ∧ (w'.cell? ⟨w1.heap.size, 0, none⟩ = some (.int .i64 v1)) ∧ (w'.cell? ⟨w1.heap.size, 1, none⟩ = some (.slice Al1 l1.length cl1)) ∧ (w'.cell? ⟨w1.heap.size, 2, none⟩ = some (.int .i64 r1)) ∧ (w'.cell? ⟨w3.heap.size, 0, none⟩ = some (.int .i64 v1)) ∧ (w'.cell? ⟨w3.heap.size, 1, none⟩ = some (.slice Am1 m1.length cm1)) ∧ (w'.cell? ⟨w3.heap.size, 2, none⟩ = some (.int .i64 r1)) ∧ (w'.cell? ⟨w5.heap.size, 0, none⟩ = some (.int .i64 v2)) ∧ (w'.cell? ⟨w5.heap.size, 1, none⟩ = some (.slice Al2 l2.length cl2)) ∧ (w'.cell? ⟨w5.heap.size, 2, none⟩ = some (.int .i64 r2)) ∧ (w'.cell? ⟨w7.heap.size, 0, none⟩ = some (.int .i64 v2)) ∧ (w'.cell? ⟨w7.heap.size, 1, none⟩ = some (.slice Am2 m2.length cm2)) ∧ (w'.cell? ⟨w7.heap.size, 2, none⟩ = some (.int .i64 r2))) (ds := [18, 21]) #[false, false, false, false, false, false, false, false, false, false, false, false, false, false, false, false, false, false, false, false, false, false, false, false] (by kernel_rfl) rfl rfl ⟨yf0, yf1, yf2, ya0, ya1, ya2, yb0, yb1, yb2, yc0, yc1, yc2, yd0, yd1, yd2⟩ (fun hHeld => ?_)
    refine with_tabW tb_MaskMakes_5.tab tb_MaskMakes_5.bits (fun HT_ HW_ => ?_)
    refine take_ (i := 0) (N := some 41) (v := ?_) (a' := ?_) #[true, false, false, false, false, false, false, false, false, false, false, false, false, false, false, false, false, false, false, false, false, false, false, false] rfl rfl (take_ofW HT_.out HW_.out (by kernel_rfl)) (fun _ _ _ h => h) (Or.inl ⟨by rfl, ?_⟩) hHeld ?_ ?_
    rotate_left
    · rintro w' ⟨s0, s1, s2, s3, s4, s5, s6, s7, s8, s9, s10, s11, s12, s13, s14⟩
      go_simp
      with_reducible rfl
    rotate_left
    · simp only [Act.put, List.setIfInBounds_toArray, List.set_cons_zero, List.set_cons_succ, i64_w, i32_w]
      rfl
    refine take_ (i := 3) (N := some 44) (v := ?_) (a' := ?_) #[true, false, false, true, false, false, false, false, false, false, false, false, false, false, false, false, false, false, false, false, false, false, false, false] rfl rfl (take_ofW HT_.out HW_.out (by kernel_rfl)) (fun _ _ _ h => h) (Or.inl ⟨by rfl, ?_⟩) hHeld ?_ ?_
    rotate_left
    · rintro w' ⟨s0, s1, s2, s3, s4, s5, s6, s7, s8, s9, s10, s11, s12, s13, s14⟩
      go_simp
      with_reducible rfl
    rotate_left
    · simp only [Act.put, List.setIfInBounds_toArray, List.set_cons_zero, List.set_cons_succ, i64_w, i32_w]
      rfl
    refine one_ (i := 1) (N := some 42) #[true, true, false, true, false, false, false, false, false, false, false, false, false, false, false, false, false, false, false, false, false, false, false, false] rfl rfl (one_of HT_.out (by kernel_rfl)) (by decide) (fun K hK => ?_)
    refine goes_ Try.func30 (by kernel_rfl) rfl #[.agg #[.int .i64 v, .slice A l.length c, .int .i64 r]] (by rfl) rfl rfl (by simp only [List.map_toArray, List.map_cons, List.map_nil]; rfl) ?_
    refine (cantinglaw02_of.calls fu v A c l r v lo r _ (Kd.C_below HC.out (below_drew HB10.out)) hc H5.out).mono ?_
    rintro e w11 ⟨vlo_, rfl, hRlo, hb11⟩
    obtain ⟨Alo, clo, rfl, hclo, _⟩ := Kd.R_reads hRlo
    have HB12 := Aside0.mk (below_then (below_drew HB10.out) ((below_drew HB10.out)).size hb11)
    have Kf12 := Aside0.mk (blk_below (blk_drew Kf10.out) hb11)
    have Ka12 := Aside0.mk (blk_below (blk_drew Ka10.out) hb11)
    have Kb12 := Aside0.mk (blk_below (blk_drew Kb10.out) hb11)
    have Kc12 := Aside0.mk (blk_below (blk_drew Kc10.out) hb11)
    have Kd12 := Aside0.mk (blk_below (blk_drew Kd10.out) hb11)
    have Rl112 := Aside0.mk (Kd.R_below (Kd.R_drew Rl110.out) hb11)
    have Rm112 := Aside0.mk (Kd.R_below (Kd.R_drew Rm110.out) hb11)
    have Rl212 := Aside0.mk (Kd.R_below (Kd.R_drew Rl210.out) hb11)
    have Rm212 := Aside0.mk (Kd.R_below (Kd.R_drew Rm210.out) hb11)
    have Rlo11 := Aside0.mk (Kd.R_lower hRlo ((below_drew HB10.out)).size)
    clear hb11 hRlo
    refine ⟨_, rfl, ?_⟩
    refine hK.out _ _ ⟨(blk_cell Kf12.out 0).trans rfl, (blk_cell Kf12.out 1).trans rfl, (blk_cell Kf12.out 2).trans rfl, (blk_cell Ka12.out 0).trans rfl, (blk_cell Ka12.out 1).trans rfl, (blk_cell Ka12.out 2).trans rfl, (blk_cell Kb12.out 0).trans rfl, (blk_cell Kb12.out 1).trans rfl, (blk_cell Kb12.out 2).trans rfl, (blk_cell Kc12.out 0).trans rfl, (blk_cell Kc12.out 1).trans rfl, (blk_cell Kc12.out 2).trans rfl, (blk_cell Kd12.out 0).trans rfl, (blk_cell Kd12.out 1).trans rfl, (blk_cell Kd12.out 2).trans rfl⟩ (fun hHeld => ?_)
    clear hK K
    refine norm_ (a' := ?_) ?_ ?_
    rotate_left
    · show Act.put _ (some 42) _ = _
      (try simp only [Act.put, List.setIfInBounds_toArray, List.set_cons_zero, List.set_cons_succ, i64_w, i32_w])
      rfl
    refine one_ (i := 2) (N := some 43) #[true, true, true, true, false, false, false, false, false, false, false, false, false, false, false, false, false, false, false, false, false, false, false, false] rfl rfl (one_of HT_.out (by kernel_rfl)) (by decide) (fun K hK => ?_)
    refine goes_ Try.func29 (by kernel_rfl) rfl #[.agg #[.int .i64 v, .slice Alo lo.length clo, .int .i64 r]] (by rfl) rfl rfl (by simp only [List.map_toArray, List.map_cons, List.map_nil]; rfl) ?_
    refine (mask_Valid.calls v Alo clo lo r _ _ (Kd.R_reads' Rlo11.out).2.2 (Kd.R_reads' Rlo11.out).2.1 H6.out).mono ?_
    rintro e w13 ⟨rfl, hb13⟩
    have HB14 := Aside0.mk (below_then HB12.out (HB12.out).size hb13)
    have Kf14 := Aside0.mk (blk_below Kf12.out hb13)
    have Ka14 := Aside0.mk (blk_below Ka12.out hb13)
    have Kb14 := Aside0.mk (blk_below Kb12.out hb13)
    have Kc14 := Aside0.mk (blk_below Kc12.out hb13)
    have Kd14 := Aside0.mk (blk_below Kd12.out hb13)
    have Rl114 := Aside0.mk (Kd.R_below Rl112.out hb13)
    have Rm114 := Aside0.mk (Kd.R_below Rm112.out hb13)
    have Rl214 := Aside0.mk (Kd.R_below Rl212.out hb13)
    have Rm214 := Aside0.mk (Kd.R_below Rm212.out hb13)
    have Rlo14 := Aside0.mk (Kd.R_below Rlo11.out hb13)
    clear hb13
    refine ⟨_, rfl, ?_⟩
    refine hK.out _ _ ⟨(blk_cell Kf14.out 0).trans rfl, (blk_cell Kf14.out 1).trans rfl, (blk_cell Kf14.out 2).trans rfl, (blk_cell Ka14.out 0).trans rfl, (blk_cell Ka14.out 1).trans rfl, (blk_cell Ka14.out 2).trans rfl, (blk_cell Kb14.out 0).trans rfl, (blk_cell Kb14.out 1).trans rfl, (blk_cell Kb14.out 2).trans rfl, (blk_cell Kc14.out 0).trans rfl, (blk_cell Kc14.out 1).trans rfl, (blk_cell Kc14.out 2).trans rfl, (blk_cell Kd14.out 0).trans rfl, (blk_cell Kd14.out 1).trans rfl, (blk_cell Kd14.out 2).trans rfl⟩ (fun hHeld => ?_)
    clear hK K
    refine norm_ (a' := ?_) ?_ ?_
    rotate_left
    · show Act.put _ (some 43) _ = _
      (try simp only [Act.put, List.setIfInBounds_toArray, List.set_cons_zero, List.set_cons_succ, i64_w, i32_w])
      rfl
    refine one_ (i := 4) (N := some 45) #[true, true, true, true, true, false, false, false, false, false, false, false, false, false, false, false, false, false, false, false, false, false, false, false] rfl rfl (one_of HT_.out (by kernel_rfl)) (by decide) (fun K hK => ?_)
    refine goes_ Try.func31 (by kernel_rfl) rfl #[.agg #[.int .i64 v, .slice A l.length c, .int .i64 r]] (by rfl) rfl rfl (by simp only [List.map_toArray, List.map_cons, List.map_nil]; rfl) ?_
    refine (cantingref02_Valid.calls v A c l r _ _ (Kd.C_below HC.out HB14.out) hc H7.out).mono ?_
    rintro e w15 ⟨rfl, hb15⟩
    have HB16 := Aside0.mk (below_then HB14.out (HB14.out).size hb15)
    have Kf16 := Aside0.mk (blk_below Kf14.out hb15)
    have Ka16 := Aside0.mk (blk_below Ka14.out hb15)
    have Kb16 := Aside0.mk (blk_below Kb14.out hb15)
    have Kc16 := Aside0.mk (blk_below Kc14.out hb15)
    have Kd16 := Aside0.mk (blk_below Kd14.out hb15)
    have Rl116 := Aside0.mk (Kd.R_below Rl114.out hb15)
    have Rm116 := Aside0.mk (Kd.R_below Rm114.out hb15)
    have Rl216 := Aside0.mk (Kd.R_below Rl214.out hb15)
    have Rm216 := Aside0.mk (Kd.R_below Rm214.out hb15)
    have Rlo16 := Aside0.mk (Kd.R_below Rlo14.out hb15)
    clear hb15
    refine ⟨_, rfl, ?_⟩
    refine hK.out _ _ ⟨(blk_cell Kf16.out 0).trans rfl, (blk_cell Kf16.out 1).trans rfl, (blk_cell Kf16.out 2).trans rfl, (blk_cell Ka16.out 0).trans rfl, (blk_cell Ka16.out 1).trans rfl, (blk_cell Ka16.out 2).trans rfl, (blk_cell Kb16.out 0).trans rfl, (blk_cell Kb16.out 1).trans rfl, (blk_cell Kb16.out 2).trans rfl, (blk_cell Kc16.out 0).trans rfl, (blk_cell Kc16.out 1).trans rfl, (blk_cell Kc16.out 2).trans rfl, (blk_cell Kd16.out 0).trans rfl, (blk_cell Kd16.out 1).trans rfl, (blk_cell Kd16.out 2).trans rfl⟩ (fun hHeld => ?_)
    clear hK K
    refine norm_ (a' := ?_) ?_ ?_
    rotate_left
    · show Act.put _ (some 45) _ = _
      (try simp only [Act.put, List.setIfInBounds_toArray, List.set_cons_zero, List.set_cons_succ, i64_w, i32_w])
      rfl
    refine pure_ (i := 5) (N := some 46) (v := ?_) (a' := ?_) #[true, true, true, true, true, true, false, false, false, false, false, false, false, false, false, false, false, false, false, false, false, false, false, false] rfl rfl (any_of HT_.out (by kernel_rfl)) (fun _ _ _ h => h) (Or.inl ⟨by rfl, ?_⟩) ?_ ?_
    rotate_left
    · intro w'
      go_simp
      with_reducible rfl
    rotate_left
    · simp only [Act.put, List.setIfInBounds_toArray, List.set_cons_zero, List.set_cons_succ, i64_w, i32_w]
      rfl
    refine pure_ (i := 6) (N := some 47) (v := ?_) (a' := ?_) #[true, true, true, true, true, true, true, false, false, false, false, false, false, false, false, false, false, false, false, false, false, false, false, false] rfl rfl (any_of HT_.out (by kernel_rfl)) (fun _ _ _ h => h) (Or.inl ⟨by rfl, ?_⟩) ?_ ?_
    rotate_left
    · intro w'
      go_simp
      with_reducible rfl
    rotate_left
    · simp only [Act.put, List.setIfInBounds_toArray, List.set_cons_zero, List.set_cons_succ, i64_w, i32_w]
      rfl
    refine take_ (i := 7) (N := some 48) (v := ?_) (a' := ?_) #[true, true, true, true, true, true, true, true, false, false, false, false, false, false, false, false, false, false, false, false, false, false, false, false] rfl rfl (take_ofW HT_.out HW_.out (by kernel_rfl)) (fun _ _ _ h => h) (Or.inl ⟨by rfl, ?_⟩) hHeld ?_ ?_
    rotate_left
    · rintro w' ⟨s0, s1, s2, s3, s4, s5, s6, s7, s8, s9, s10, s11, s12, s13, s14⟩
      go_simp
      with_reducible rfl
    rotate_left
    · simp only [Act.put, List.setIfInBounds_toArray, List.set_cons_zero, List.set_cons_succ, i64_w, i32_w]
      rfl
    refine pure_ (i := 8) (N := some 49) (v := ?_) (a' := ?_) #[true, true, true, true, true, true, true, true, true, false, false, false, false, false, false, false, false, false, false, false, false, false, false, false] rfl rfl (any_of HT_.out (by kernel_rfl)) (fun _ _ _ h => h) (Or.inl ⟨by rfl, ?_⟩) ?_ ?_
    rotate_left
    · intro w'
      go_simp
      with_reducible rfl
    rotate_left
    · simp only [Act.put, List.setIfInBounds_toArray, List.set_cons_zero, List.set_cons_succ, i64_w, i32_w]
      rfl
    refine take_ (i := 9) (N := some 50) (v := ?_) (a' := ?_) #[true, true, true, true, true, true, true, true, true, true, false, false, false, false, false, false, false, false, false, false, false, false, false, false] rfl rfl (take_ofW HT_.out HW_.out (by kernel_rfl)) (fun _ _ _ h => h) (Or.inl ⟨by rfl, ?_⟩) hHeld ?_ ?_
    rotate_left
    · rintro w' ⟨s0, s1, s2, s3, s4, s5, s6, s7, s8, s9, s10, s11, s12, s13, s14⟩
      go_simp
      with_reducible rfl
    rotate_left
    · simp only [Act.put, List.setIfInBounds_toArray, List.set_cons_zero, List.set_cons_succ, i64_w, i32_w]
      rfl
    refine pure_ (i := 10) (N := some 51) (v := ?_) (a' := ?_) #[true, true, true, true, true, true, true, true, true, true, true, false, false, false, false, false, false, false, false, false, false, false, false, false] rfl rfl (any_of HT_.out (by kernel_rfl)) (fun _ _ _ h => h) (Or.inl ⟨by rfl, ?_⟩) ?_ ?_
    rotate_left
    · intro w'
      go_simp
      with_reducible rfl
    rotate_left
    · simp only [Act.put, List.setIfInBounds_toArray, List.set_cons_zero, List.set_cons_succ, i64_w, i32_w]
      rfl
    refine one_ (i := 11) (N := some 52) #[true, true, true, true, true, true, true, true, true, true, true, true, false, false, false, false, false, false, false, false, false, false, false, false] rfl rfl (one_of HT_.out (by kernel_rfl)) (by decide) (fun K hK => ?_)
    refine goes_ Try.func23 (by kernel_rfl) rfl #[.agg #[.int .i64 v1, .slice Al1 l1.length cl1, .int .i64 r1], .int .i64 e1, .agg #[.int .i64 v1, .slice Am1 m1.length cm1, .int .i64 r1], .int .i64 e1] (by rfl) rfl rfl (by simp only [List.map_toArray, List.map_cons, List.map_nil]; rfl) ?_
    refine (cantinglaw02_is.calls fu v1 Al1 cl1 l1 r1 e1 v1 Am1 cm1 m1 r1 e1 true _ (Kd.R_reads' Rl116.out).2.2 (Kd.R_reads' Rl116.out).2.1 (Kd.R_reads' Rm116.out).2.2 (Kd.R_reads' Rm116.out).2.1 H8.out).mono ?_
    rintro e w17 ⟨rfl, hb17⟩
    have HB18 := Aside0.mk (below_then HB16.out (HB16.out).size hb17)
    have Kf18 := Aside0.mk (blk_below Kf16.out hb17)
    have Ka18 := Aside0.mk (blk_below Ka16.out hb17)
    have Kb18 := Aside0.mk (blk_below Kb16.out hb17)
    have Kc18 := Aside0.mk (blk_below Kc16.out hb17)
    have Kd18 := Aside0.mk (blk_below Kd16.out hb17)
    have Rl118 := Aside0.mk (Kd.R_below Rl116.out hb17)
    have Rm118 := Aside0.mk (Kd.R_below Rm116.out hb17)
    have Rl218 := Aside0.mk (Kd.R_below Rl216.out hb17)
    have Rm218 := Aside0.mk (Kd.R_below Rm216.out hb17)
    have Rlo18 := Aside0.mk (Kd.R_below Rlo16.out hb17)
    clear hb17
    refine ⟨_, rfl, ?_⟩
    refine hK.out _ _ ⟨(blk_cell Kf18.out 0).trans rfl, (blk_cell Kf18.out 1).trans rfl, (blk_cell Kf18.out 2).trans rfl, (blk_cell Ka18.out 0).trans rfl, (blk_cell Ka18.out 1).trans rfl, (blk_cell Ka18.out 2).trans rfl, (blk_cell Kb18.out 0).trans rfl, (blk_cell Kb18.out 1).trans rfl, (blk_cell Kb18.out 2).trans rfl, (blk_cell Kc18.out 0).trans rfl, (blk_cell Kc18.out 1).trans rfl, (blk_cell Kc18.out 2).trans rfl, (blk_cell Kd18.out 0).trans rfl, (blk_cell Kd18.out 1).trans rfl, (blk_cell Kd18.out 2).trans rfl⟩ (fun hHeld => ?_)
    clear hK K
    refine norm_ (a' := ?_) ?_ ?_
    rotate_left
    · show Act.put _ (some 52) _ = _
      (try simp only [Act.put, List.setIfInBounds_toArray, List.set_cons_zero, List.set_cons_succ, i64_w, i32_w])
      rfl
    refine pure_ (i := 12) (N := some 53) (v := ?_) (a' := ?_) #[true, true, true, true, true, true, true, true, true, true, true, true, true, false, false, false, false, false, false, false, false, false, false, false] rfl rfl (any_of HT_.out (by kernel_rfl)) (fun _ _ _ h => h) (Or.inl ⟨by rfl, ?_⟩) ?_ ?_
    rotate_left
    · intro w'
      go_simp
      with_reducible rfl
    rotate_left
    · simp only [Act.put, List.setIfInBounds_toArray, List.set_cons_zero, List.set_cons_succ, i64_w, i32_w]
      rfl
    refine pure_ (i := 13) (N := some 54) (v := ?_) (a' := ?_) #[true, true, true, true, true, true, true, true, true, true, true, true, true, true, false, false, false, false, false, false, false, false, false, false] rfl rfl (any_of HT_.out (by kernel_rfl)) (fun _ _ _ h => h) (Or.inl ⟨by rfl, ?_⟩) ?_ ?_
    rotate_left
    · intro w'
      go_simp
      with_reducible rfl
    rotate_left
    · simp only [Act.put, List.setIfInBounds_toArray, List.set_cons_zero, List.set_cons_succ, i64_w, i32_w]
      rfl
    refine take_ (i := 14) (N := some 55) (v := ?_) (a' := ?_) #[true, true, true, true, true, true, true, true, true, true, true, true, true, true, true, false, false, false, false, false, false, false, false, false] rfl rfl (take_ofW HT_.out HW_.out (by kernel_rfl)) (fun _ _ _ h => h) (Or.inl ⟨by rfl, ?_⟩) hHeld ?_ ?_
    rotate_left
    · rintro w' ⟨s0, s1, s2, s3, s4, s5, s6, s7, s8, s9, s10, s11, s12, s13, s14⟩
      go_simp
      with_reducible rfl
    rotate_left
    · simp only [Act.put, List.setIfInBounds_toArray, List.set_cons_zero, List.set_cons_succ, i64_w, i32_w]
      rfl
    refine pure_ (i := 15) (N := some 56) (v := ?_) (a' := ?_) #[true, true, true, true, true, true, true, true, true, true, true, true, true, true, true, true, false, false, false, false, false, false, false, false] rfl rfl (any_of HT_.out (by kernel_rfl)) (fun _ _ _ h => h) (Or.inl ⟨by rfl, ?_⟩) ?_ ?_
    rotate_left
    · intro w'
      go_simp
      with_reducible rfl
    rotate_left
    · simp only [Act.put, List.setIfInBounds_toArray, List.set_cons_zero, List.set_cons_succ, i64_w, i32_w]
      rfl
    refine take_ (i := 16) (N := some 57) (v := ?_) (a' := ?_) #[true, true, true, true, true, true, true, true, true, true, true, true, true, true, true, true, true, false, false, false, false, false, false, false] rfl rfl (take_ofW HT_.out HW_.out (by kernel_rfl)) (fun _ _ _ h => h) (Or.inl ⟨by rfl, ?_⟩) hHeld ?_ ?_
    rotate_left
    · rintro w' ⟨s0, s1, s2, s3, s4, s5, s6, s7, s8, s9, s10, s11, s12, s13, s14⟩
      go_simp
      with_reducible rfl
    rotate_left
    · simp only [Act.put, List.setIfInBounds_toArray, List.set_cons_zero, List.set_cons_succ, i64_w, i32_w]
      rfl
    refine pure_ (i := 17) (N := some 58) (v := ?_) (a' := ?_) #[true, true, true, true, true, true, true, true, true, true, true, true, true, true, true, true, true, true, false, false, false, false, false, false] rfl rfl (any_of HT_.out (by kernel_rfl)) (fun _ _ _ h => h) (Or.inl ⟨by rfl, ?_⟩) ?_ ?_
    rotate_left
    · intro w'
      go_simp
      with_reducible rfl
    rotate_left
    · simp only [Act.put, List.setIfInBounds_toArray, List.set_cons_zero, List.set_cons_succ, i64_w, i32_w]
      rfl
    refine last_ (i := 18) (N := some 59) #[true, true, true, true, true, true, true, true, true, true, true, true, true, true, true, true, true, true, true, false, false, false, false, false] rfl rfl (one_of HT_.out (by kernel_rfl)) (by decide) (fun K hK => ?_)
    refine goes_ Try.func23 (by kernel_rfl) rfl #[.agg #[.int .i64 v2, .slice Al2 l2.length cl2, .int .i64 r2], .int .i64 e2, .agg #[.int .i64 v2, .slice Am2 m2.length cm2, .int .i64 r2], .int .i64 e2] (by rfl) rfl rfl (by simp only [List.map_toArray, List.map_cons, List.map_nil]; rfl) ?_
    refine (cantinglaw02_is.calls fu v2 Al2 cl2 l2 r2 e2 v2 Am2 cm2 m2 r2 e2 true _ (Kd.R_reads' Rl218.out).2.2 (Kd.R_reads' Rl218.out).2.1 (Kd.R_reads' Rm218.out).2.2 (Kd.R_reads' Rm218.out).2.1 H9.out).mono ?_
    rintro e w19 ⟨rfl, hb19⟩
    have HB20 := Aside0.mk (below_then HB18.out (HB18.out).size hb19)
    have Kf20 := Aside0.mk (blk_below Kf18.out hb19)
    have Ka20 := Aside0.mk (blk_below Ka18.out hb19)
    have Kb20 := Aside0.mk (blk_below Kb18.out hb19)
    have Kc20 := Aside0.mk (blk_below Kc18.out hb19)
    have Kd20 := Aside0.mk (blk_below Kd18.out hb19)
    have Rl120 := Aside0.mk (Kd.R_below Rl118.out hb19)
    have Rm120 := Aside0.mk (Kd.R_below Rm118.out hb19)
    have Rl220 := Aside0.mk (Kd.R_below Rl218.out hb19)
    have Rm220 := Aside0.mk (Kd.R_below Rm218.out hb19)
    have Rlo20 := Aside0.mk (Kd.R_below Rlo18.out hb19)
    clear hb19
    refine ⟨_, rfl, ?_⟩
    refine hK.out _ _ ?_
    clear hK K
    refine norm_ (a' := ?_) ?_ ?_
    rotate_left
    · show Act.put _ (some 59) _ = _
      (try simp only [Act.put, List.setIfInBounds_toArray, List.set_cons_zero, List.set_cons_succ, i64_w, i32_w])
      rfl
    refine pure_ (i := 19) (N := some 60) (v := ?_) (a' := ?_) #[true, true, true, true, true, true, true, true, true, true, true, true, true, true, true, true, true, true, true, true, false, false, false, false] rfl rfl (any_of HT_.out (by kernel_rfl)) (fun _ _ _ h => h) (Or.inl ⟨by rfl, ?_⟩) ?_ ?_
    rotate_left
    · intro w'
      go_simp
      with_reducible rfl
    rotate_left
    · simp only [Act.put, List.setIfInBounds_toArray, List.set_cons_zero, List.set_cons_succ, i64_w, i32_w]
      rfl
    refine pure_ (i := 20) (N := some 61) (v := ?_) (a' := ?_) #[true, true, true, true, true, true, true, true, true, true, true, true, true, true, true, true, true, true, true, true, true, false, false, false] rfl rfl (any_of HT_.out (by kernel_rfl)) (fun _ _ _ h => h) (Or.inl ⟨by rfl, ?_⟩) ?_ ?_
    rotate_left
    · intro w'
      go_simp
      with_reducible rfl
    rotate_left
    · simp only [Act.put, List.setIfInBounds_toArray, List.set_cons_zero, List.set_cons_succ, i64_w, i32_w]
      rfl
    refine last_ (i := 21) (N := some 62) #[true, true, true, true, true, true, true, true, true, true, true, true, true, true, true, true, true, true, true, true, true, true, false, false] rfl rfl (one_of HT_.out (by kernel_rfl)) (by decide) (fun K hK => ?_)
    refine goes_ Try.func24 (by kernel_rfl) rfl #[] (by rfl) rfl rfl (by simp only [List.map_toArray, List.map_nil]) ?_
    refine (cantinglaw02_awake.calls fu true _ H10.out).mono ?_
    rintro e w21 ⟨rfl, hb21⟩
    have HB22 := Aside0.mk (below_then HB20.out (HB20.out).size hb21)
    have Kf22 := Aside0.mk (blk_below Kf20.out hb21)
    have Ka22 := Aside0.mk (blk_below Ka20.out hb21)
    have Kb22 := Aside0.mk (blk_below Kb20.out hb21)
    have Kc22 := Aside0.mk (blk_below Kc20.out hb21)
    have Kd22 := Aside0.mk (blk_below Kd20.out hb21)
    have Rl122 := Aside0.mk (Kd.R_below Rl120.out hb21)
    have Rm122 := Aside0.mk (Kd.R_below Rm120.out hb21)
    have Rl222 := Aside0.mk (Kd.R_below Rl220.out hb21)
    have Rm222 := Aside0.mk (Kd.R_below Rm220.out hb21)
    have Rlo22 := Aside0.mk (Kd.R_below Rlo20.out hb21)
    clear hb21
    refine ⟨_, rfl, ?_⟩
    refine hK.out _ _ ?_
    clear hK K
    refine norm_ (a' := ?_) ?_ ?_
    rotate_left
    · show Act.put _ (some 62) _ = _
      (try simp only [Act.put, List.setIfInBounds_toArray, List.set_cons_zero, List.set_cons_succ, i64_w, i32_w])
      rfl
    refine pure_ (i := 22) (N := some 63) (v := ?_) (a' := ?_) #[true, true, true, true, true, true, true, true, true, true, true, true, true, true, true, true, true, true, true, true, true, true, true, false] rfl rfl (any_of HT_.out (by kernel_rfl)) (fun _ _ _ h => h) (Or.inl ⟨by rfl, ?_⟩) ?_ ?_
    rotate_left
    · intro w'
      go_simp
      with_reducible rfl
    rotate_left
    · simp only [Act.put, List.setIfInBounds_toArray, List.set_cons_zero, List.set_cons_succ, i64_w, i32_w]
      rfl
    refine pure_ (i := 23) (N := some 8) (v := ?_) (a' := ?_) #[true, true, true, true, true, true, true, true, true, true, true, true, true, true, true, true, true, true, true, true, true, true, true, true] rfl rfl (any_of HT_.out (by kernel_rfl)) (fun _ _ _ h => h) (Or.inl ⟨by rfl, ?_⟩) ?_ ?_
    rotate_left
    · intro w'
      go_simp
      with_reducible rfl
    rotate_left
    · simp only [Act.put, List.setIfInBounds_toArray, List.set_cons_zero, List.set_cons_succ, i64_w, i32_w]
      rfl
    refine done_ (done_of HT_.out (by kernel_rfl)) ?_
    go_wp2
    go_ret
    exact ⟨by rfl, HB22.out⟩
end Go.Proofs.Ytlplphgoldkoeaa.HTab
end

section
set_option linter.unusedVariables false
set_option linter.unusedSimpArgs false
namespace Go.Proofs.Ytlplphgoldkoeaa.HTab
open Go.RowKit Go.Proofs.YtlplphgoldkoeaaW.PrintWords Go.Proofs.YtlplphgoldkoeaaW.PrintLast Go.Proofs.YtlplphgoldkoeaaW.PrintMore Go.Proofs.Ytlplphgoldkoeaa.HMap Go.Proofs.Ytlplphgoldkoeaa.X
theorem makes_walk (v : Int) (A : Option Addr) (c : Nat) (l : List S106) (r n i : Int) (b : Bool) (w : World) (hC : Kd.C k106 w A l.length l) (hc : l.length ≤ c) (hl : l.length < 10000000000000) :
    Calls Try.prog 4 #[.agg #[.int .i64 v, .slice A l.length c, .int .i64 r], .int .i64 n, .int .i64 i, .bool b] w fun e w' => e = .returned (.bool true) ∧ Below w.heap.size w w' := by
  obtain ⟨v1, l1, r1, e1, c1, c2, c3⟩ := const_ok n b 10000 (by omega)
  obtain ⟨v2, l2, r2, e2, d1, d2, d3⟩ := var_ok n i 10000 (by omega)
  exact makes_calls 10000 v A c l r n i b _ _ l1 l2 _ _ v1 r1 e1 v2 r2 e2 w hC hc c1 c2 d1 d2 (of_f l v r hl 10000 (by omega)) (validM_f v r l) rfl (is_f l1 (by omega) v1 r1 e1 10000 (by omega)) (is_f l2 (by omega) v2 r2 e2 10000 (by omega)) (awake_f 10000 (by omega))
end Go.Proofs.Ytlplphgoldkoeaa.HTab
end

section
set_option linter.unusedVariables false
set_option linter.unusedSimpArgs false
namespace Go.Proofs.Ytlplphgoldkoeaa.maskMakes
open Go.ChangeShapes Go.WideShapes Go.ChangeAt Go.RowKit Go.Proofs.YtlplphgoldkoeaaW.PrintWords Go.Proofs.Ytlplphgoldkoeaa.HTab Go.Proofs.Ytlplphgoldkoeaa.X
open Go.ChangeMaps (open_string shut_string)
set_option linter.unusedVariables false
theorem own : ownKnob Try.prog.godebug = none := by kernel_rfl
theorem laidOut : laidOutB Try.prog = true := by kernel_rfl
set_option maxRecDepth 100000 in
theorem lifted (os : Os) (started : os.Started) (H : Type) (enc : TypeId × Value → H) :
    ReturnsInHanded {} Try.checked os 4 .any (Rows.maskMakesSpec.pre6 enc Try.prog Try.f4 Rows.maskMakesRow.domain false) (Rows.maskMakesSpec.post enc Try.prog Try.f4 false true false false) := by
  refine returnsInHanded_of_change_sized (C := Try.checked) own started (by kernel_rfl) Try.func4
    (ChangeSpec.witness6 (enc := enc) (C := Try.checked) false ⟨#[], #[.agg #[.int .i64 0, .slice none 0 0, .int .i64 0], .int .i64 0, .int .i64 0, .bool false], []⟩ 8 (by kernel_rfl) (by kernel_rfl) (by kernel_rfl) (by kernel_rfl)) ?_
  intro W base args ds gs before hval0 hW hcnd hsz0 _
  have hsz : (DataW.weightsEach Try.prog (Try.f4.params.toList ++ Rows.maskMakesSpec.plain.varTypes Try.prog) (ds ++ gs)).all (· ≤ reachBytes) = true := hsz0
  have hval : ∀ (j : Nat) t v, Try.f4.params[j]? = some t → args[j]? = some v → Value.okWide Try.prog W .any base t v := hval0
  have hW' := hW
  obtain ⟨p, q, hA0, hV, rfl, hfz, hnd⟩ := hW
  have hA : DataW.TrodAll enc Try.prog W 0 (fun _ => true) true Try.f4.params.toList args.toList ds p := hA0
  rw [Try.params4] at hA hval hsz
  obtain ⟨v0, vs0, d0, ds0, p0, q0, hargs, rfl, rfl, h0, r0⟩ := trodAll_cons hA
  obtain ⟨v1, vs1, d1, ds1, p1, q1, rfl, rfl, rfl, h1, r1⟩ := trodAll_cons r0
  obtain ⟨v2, vs2, d2, ds2, p2, q2, rfl, rfl, rfl, h2, r2⟩ := trodAll_cons r1
  obtain ⟨v3, vs3, d3, ds3, p3, q3, rfl, rfl, rfl, h3, r3⟩ := trodAll_cons r2
  obtain ⟨rfl, rfl, rfl⟩ := trodAll_nil r3
  obtain rfl : args = #[v0, v1, v2, v3] := by cases args; simp_all
  obtain ⟨rfl, rfl⟩ := trodVars_none hV
  have k0 := h0
  have lt0 : ∀ x ∈ p0, x.block < W.heap.size := by obtain ⟨m, hm⟩ := k0; exact DataW.trod_lt m _ _ _ hm
  obtain ⟨n0, A0, c0, l0, r0_, rfl, C0, L0, B0, wn0, wr0⟩ := open_mask (hval 0 33 v0 rfl rfl) h0 hsz (j := 0) rfl rfl
  obtain ⟨a1, rfl, rfl, rfl, w1⟩ := open_int Try.underlying3 (hval 1 3 v1 rfl rfl) h1
  obtain ⟨a2, rfl, rfl, rfl, w2⟩ := open_int Try.underlying3 (hval 2 3 v2 rfl rfl) h2
  obtain ⟨a3, rfl, rfl, rfl⟩ := open_bool Try.underlying4 (hval 3 4 v3 rfl rfl) h3
  clear hA0 hval0 hsz0 hsz
  refine ((makes_walk n0 A0 c0 l0 r0_ a1 a2 a3 W C0 L0 B0)).mono fun e W' ⟨he, bel⟩ => ?_
  subst he
  exact ⟨_, rfl, _, _, _, [], _, [], hW', trodAll_mk1 (shut_bool Try.underlying4 _), (trodAll_cons_mk (Below.trod laidOut (by kernel_rfl) (of_decide_eq_true (by kernel_rfl)) k0 bel lt0) (trodAll_cons_mk (shut_int Try.underlying3 w1) (trodAll_cons_mk (shut_int Try.underlying3 w2) (trodAll_cons_mk (shut_bool Try.underlying4 _) trodAll_mk0)))), rfl, bel.frame _, fun h => by cases h⟩
theorem over : Rows.maskMakesRow.holds Try.pinned (OpenSpec.ofChange Rows.maskMakesSpec) :=
  OpenClaim.holds_of_wide 4 Try.f4 rfl rfl rfl rfl rfl rfl rfl ⟨rfl, rfl, rfl, rfl, rfl⟩ rfl rfl rfl rfl rfl (by kernel_rfl) Try.func4 (by kernel_rfl)
    (of_decide_eq_true (by kernel_rfl)) (by unfold Func.isWrapper; first | (rw [if_pos (by decide +kernel)]; kernel_rfl) | (rw [if_neg (by decide +kernel)]; exact ⟨rfl, rfl⟩))
    (fun os started H enc _ => lifted os started H enc)
theorem proved : Rows.MaskMakesSaid := over
end Go.Proofs.Ytlplphgoldkoeaa.maskMakes
namespace Go.Proofs.Ytlplphgoldkoeaa
theorem maskMakes_holds : Rows.MaskMakesSaid := maskMakes.proved
end Go.Proofs.Ytlplphgoldkoeaa
#print axioms Go.Proofs.Ytlplphgoldkoeaa.maskMakes_holds
end
