/- Lemmas of the masks: part Bk. -/
import Derived.Test.YtlplphgoldkoeaaBc
import Derived.Test.YtlplphgoldkoeaaBh
section
set_option linter.unusedVariables false
set_option linter.unusedSimpArgs false
namespace Go.Proofs.Ytlplphgoldkoeaa.X
open Go.RowKit Go.Proofs.YtlplphgoldkoeaaW.PrintWords Go.Proofs.YtlplphgoldkoeaaW.PrintLast Go.Proofs.YtlplphgoldkoeaaW.PrintMore
attribute [local go_sem] max2_int min2_int max_two min_two max_three min_three max_four min_four   -- for this text's walks alone
set_option linter.unusedVariables false
set_option linter.unusedSimpArgs false
def cantingref02_Bit.f (a0 : Int) (a1 : Int) (a2 : Int) : Option (Bool) := if 0 ≤ (wrap64 ((wrap64 (a0 - 1)) - a2)) then (some ((Go.bits .and .i64 (shr .i64 a1 (wrap64 ((wrap64 (a0 - 1)) - a2))) 1) == 1)) else (none)
set_option maxHeartbeats 8000000 in
set_option maxRecDepth 100000 in
theorem cantingref02_Bit.calls (a0 : Int) (a1 : Int) (a2 : Int) (r : Bool) (w : World) (h : cantingref02_Bit.f a0 a1 a2 = some r) :
    Calls Try.prog 88 #[.int .i64 a0, .int .i64 a1, .int .i64 a2] w fun e w' => e = .returned (.bool r) ∧ Drawn0 w w' := by
  have H : (if 0 ≤ (wrap64 ((wrap64 (a0 - 1)) - a2)) then (some ((Go.bits .and .i64 (shr .i64 a1 (wrap64 ((wrap64 (a0 - 1)) - a2))) 1) == 1)) else (none)) = some r := h
  clear h
  obtain ⟨ji4, hji4⟩ : ∃ j_ : Int, (wrap64 ((wrap64 (a0 - 1)) - a2)) = j_ := ⟨_, rfl⟩
  replace H : (if 0 ≤ (ji4) then (some ((Go.bits .and .i64 (shr .i64 a1 (ji4)) 1) == 1)) else (none)) = some r := by first | (rw [hji4] at H; exact H) | (simp only [hji4] at H ⊢; exact H)
  have hji4w : (IntKind.i64.wrap ((wrap64 (a0 - 1)) - a2)) = ji4 := (i64_w _).trans hji4
  by_cases c5 : 0 ≤ (ji4)
  · rw [if_pos c5] at H
    have c5b0 := eq_true c5
    have c5b1 : decide (0 ≤ (ji4)) = true := decide_eq_true c5
    clear c5
    obtain ⟨ji6, hji6⟩ : ∃ j_ : Int, (shr .i64 a1 (ji4)) = j_ := ⟨_, rfl⟩
    replace H : (some ((Go.bits .and .i64 (ji6) 1) == 1)) = some r := by first | (rw [hji6] at H; exact H) | (simp only [hji6] at H ⊢; exact H)
    have hji6_ : (a1 / 2 ^ min (ji4).toNat 64) = ji6 := hji6
    have hji6z : (ji4) ≤ 64 → (a1 / 2 ^ (ji4).toNat) = ji6 := shr_small hji6
    obtain rfl := Option.some.inj H
    go_enter Try.func88, Try.ntmps88
    go_wp2
    go_ret
    exact ⟨by first | rfl | (simp; done) | (simp only [← hji4, ← hji6] <;> (first | rfl | simp)) | (simp [*]; done), by repeat (first | exact Drawn0.refl _ | apply Drawn0.step)⟩
  · rw [if_neg c5] at H
    exact absurd H (by simp)
end Go.Proofs.Ytlplphgoldkoeaa.X
end

section
set_option linter.unusedVariables false
set_option linter.unusedSimpArgs false
namespace Go.Proofs.Ytlplphgoldkoeaa.X
open Go.RowKit Go.Proofs.YtlplphgoldkoeaaW.PrintWords Go.Proofs.YtlplphgoldkoeaaW.PrintLast Go.Proofs.YtlplphgoldkoeaaW.PrintMore
attribute [local go_sem] max2_int min2_int max_two min_two max_three min_three max_four min_four   -- for this text's walks alone
set_option linter.unusedVariables false
set_option linter.unusedSimpArgs false
def cantingref02_value.l0 : Nat → Int → Int → Int → List (S106) → Int → Option (Bool)
  | 0, _, _, _, _, _ => none
  | k + 1, x1, x5, x215000, x215001, x215002 => if x5 > 1 then (if 0 ≤ (wrap64 (x5 - 2)) then (if (wrap64 (x5 - 2)) < (x215001.length : Int) then ((cantingref02_Bit.f x215000 x1 ((rd_T106 x215001 (wrap64 (x5 - 2))).f0)).bind fun t217 => (if t217 = true then (cantingref02_value.l0 k x1 ((rd_T106 x215001 (wrap64 (x5 - 2))).f2) x215000 x215001 x215002) else (cantingref02_value.l0 k x1 ((rd_T106 x215001 (wrap64 (x5 - 2))).f1) x215000 x215001 x215002))) else (none)) else (none)) else (some (x5 == 1))
def cantingref02_value.f (k : Nat) (a0_0 : Int) (l0_1 : List (S106)) (a0_2 : Int) (a1 : Int) : Option (Bool) := cantingref02_value.l0 k a1 a0_2 a0_0 l0_1 a0_2
theorem cantingref02_value.mono_l : ∀ k, (∀ y0 y1 y2 y3 y4, LeO (cantingref02_value.l0 k y0 y1 y2 y3 y4) (cantingref02_value.l0 (k + 1) y0 y1 y2 y3 y4))
  | 0 => fun _ _ _ _ _ r h => by simp [cantingref02_value.l0] at h
  | k + 1 => by
    have ih0 := cantingref02_value.mono_l k
    · intro y0 y1 y2 y3 y4
      unfold cantingref02_value.l0
      repeat' first
      | (with_reducible exact ih0 _ _ _ _ _)
      | (with_reducible exact LeO.refl _)
      | (with_reducible exact LeO.none _)
      | (with_reducible refine LeO.ite ?_ ?_)
      | (with_reducible refine LeO.bind ?_ (fun _ => ?_))
      | exact ih0 _ _ _ _ _
      | exact LeO.none _
      | refine LeO.ite ?_ ?_
      | refine LeO.bind ?_ (fun _ => ?_)
theorem cantingref02_value.mono : ∀ a0 a1 a2 a3 k, LeO (cantingref02_value.f k a0 a1 a2 a3) (cantingref02_value.f (k + 1) a0 a1 a2 a3) := by
  intro a0 a1 a2 a3 k
  have ih0 := cantingref02_value.mono_l k
  unfold cantingref02_value.f
  repeat' first
      | (with_reducible exact ih0 _ _ _ _ _)
      | (with_reducible exact LeO.refl _)
      | (with_reducible exact LeO.none _)
      | (with_reducible refine LeO.ite ?_ ?_)
      | (with_reducible refine LeO.bind ?_ (fun _ => ?_))
      | exact ih0 _ _ _ _ _
      | exact LeO.none _
      | refine LeO.ite ?_ ?_
      | refine LeO.bind ?_ (fun _ => ?_)
set_option maxHeartbeats 8000000 in
set_option maxRecDepth 100000 in
theorem cantingref02_value.calls (k : Nat) (a0_0 : Int) (A0_1 : Option Addr) (c0_1 : Nat) (l0_1 : List (S106)) (a0_2 : Int) (a1 : Int) (r : Bool) (w : World) (hr0_1 : Kd.C k106 w A0_1 l0_1.length l0_1) (hc0_1 : l0_1.length ≤ c0_1) (h : cantingref02_value.f k a0_0 l0_1 a0_2 a1 = some r) :
    Calls Try.prog 108 #[.agg #[.int .i64 a0_0, .slice A0_1 l0_1.length c0_1, .int .i64 a0_2], .int .i64 a1] w fun e w' => e = .returned (.bool r) ∧ Below w.heap.size w w' := by
  have hu33 := Try.underlying33
  have hu106 := Try.underlying106
  have HR0_1 := Aside0.mk hr0_1
  have HC0_1 := Aside0.mk hc0_1
  clear hr0_1 hc0_1
  have HB := Aside0.mk (Below.refl w.heap.size w)
  have H : (cantingref02_value.l0 k a1 a0_2 a0_0 l0_1 a0_2) = some r := h
  clear h
  have H' := Aside0.mk H
  clear H
  go_enter Try.func108, Try.ntmps108
  go_wp2_with (first | ((with_reducible refine gate_dst (N := 2) rfl ?_); refine box_event ?hg (N := 2) ?hd (cs := #[.int .i64 a0_0, .slice A0_1 l0_1.length c0_1, .int .i64 a0_2]) (t := 33) ?hr ?_; (case hd => rfl); (case hg => rfl); (case hr => first | (go_simp; done) | (go_simp; rfl)); intro gb214 hg w3 hbox hb; have n0_ := Aside0.mk (below_step (by repeat (first | (with_reducible first | exact HB.out | apply below_alloc | apply pw_below_drewN | apply below_drew1) | exact HB.out)) hb); have n1_ := Aside0.mk (hbox); have n2_ := Aside0.mk ((by rw [hg]; exact (below_size (by repeat (first | (with_reducible first | exact HB.out | apply below_alloc | apply pw_below_drewN | apply below_drew1) | exact HB.out))) : w.heap.size ≤ gb214)); have n3_ := Aside0.mk ((by rw [hg]; exact (below_size (by repeat (first | (with_reducible first | exact HB.out | apply below_alloc | apply pw_below_drewN | apply below_drew1) | exact HB.out))) : w.heap.size ≤ gb214)); clear HB; have HB := n0_; have BK214 := n1_; have GW214 := n2_; have GE214 := n3_; clear n0_ n1_ n2_ n3_; clear hb hbox hg; have hcz4_0 : w3.cell? ⟨gb214, 0, none⟩ = some (.int .i64 a0_0) := (blk_cell BK214.out 0).trans rfl; have hcz4_1 : w3.cell? ⟨gb214, 1, none⟩ = some (.slice A0_1 l0_1.length c0_1) := (blk_cell BK214.out 1).trans rfl; have hcz4_2 : w3.cell? ⟨gb214, 2, none⟩ = some (.int .i64 a0_2) := (blk_cell BK214.out 2).trans rfl; have hfz4_0 := blk_frozen BK214.out 0; have hfz4_1 := blk_frozen BK214.out 1; have hfz4_2 := blk_frozen BK214.out 2))
  go_loopg [5] k (fun kq v5 w' => ∃ (x5_1 : Int), v5 = .int .i64 x5_1 ∧ Aside0 (cantingref02_value.l0 kq a1 x5_1 a0_0 l0_1 a0_2 = some r) ∧ Aside0 (kq ≤ k) ∧ Aside0 (w'.heap[gb214]? = some (.cells #[.int .i64 a0_0, (.slice A0_1 l0_1.length c0_1), .int .i64 a0_2] 33 (0, 0))) ∧ Aside0 (Below w.heap.size w w'))
  case atStart => exact ⟨(a0_2), (by first | rfl | (simp; done) | (simp [*]; done)), H', ⟨Nat.le_refl _⟩, ⟨by (with_reducible repeat (first | refine blk_drewN ?_ _ | refine blk_drew ?_ | refine blk_alloc ?_ _)); exact BK214.out⟩, ⟨by repeat (first | (with_reducible first | exact HB.out | apply below_alloc | apply pw_below_drewN | apply below_drew1 | refine below_set ?_ GE214.out) | exact HB.out)⟩⟩
  case round =>
    clear H'
    try clear c1
    try clear p2
    try clear hcz4_0
    try clear hcz4_1
    try clear hcz4_2
    try clear hfz4_0
    try clear hfz4_1
    try clear hfz4_2
    obtain ⟨x5_1, rfl, HA, HK1, BK214, HB⟩ := hrel
    cases gk with
    | zero => exact absurd HA.out (by simp [cantingref02_value.l0])
    | succ k1 =>
      have H := HA.out
      clear HA
      simp only [cantingref02_value.l0] at H
      by_cases c5 : x5_1 > 1
      · rw [if_pos c5] at H
        have c5b0 : decide (1 < x5_1) = true := decide_eq_true c5
        clear c5
        obtain ⟨ji6, hji6⟩ : ∃ j_ : Int, (wrap64 (x5_1 - 2)) = j_ := ⟨_, rfl⟩
        replace H : (if 0 ≤ (ji6) then (if (ji6) < (l0_1.length : Int) then ((cantingref02_Bit.f a0_0 a1 ((rd_T106 l0_1 (ji6)).f0)).bind fun t217 => (if t217 = true then (cantingref02_value.l0 k1 a1 ((rd_T106 l0_1 (ji6)).f2) a0_0 l0_1 a0_2) else (cantingref02_value.l0 k1 a1 ((rd_T106 l0_1 (ji6)).f1) a0_0 l0_1 a0_2))) else (none)) else (none)) = some r := by first | (rw [hji6] at H; exact H) | (simp only [hji6] at H ⊢; exact H)
        have hji6w : (IntKind.i64.wrap (x5_1 - 2)) = ji6 := (i64_w _).trans hji6
        by_cases c7 : 0 ≤ (ji6)
        · rw [if_pos c7] at H
          have c7b0 : decide (0 ≤ (ji6)) = true := decide_eq_true c7
          clear c7
          by_cases c8 : (ji6) < (l0_1.length : Int)
          · rw [if_pos c8] at H
            have c8b0 : decide ((ji6) < (l0_1.length : Int)) = true := decide_eq_true c8
            clear c8
            replace H := Option.bind_eq_some_iff.mp H
            obtain ⟨t217, A90, H⟩ := H
            replace H : (if t217 = true then (cantingref02_value.l0 k1 a1 ((rd_T106 l0_1 (ji6)).f2) a0_0 l0_1 a0_2) else (cantingref02_value.l0 k1 a1 ((rd_T106 l0_1 (ji6)).f1) a0_0 l0_1 a0_2)) = some r := H
            have A9 := Aside0.mk A90
            clear A90
            by_cases c10 : t217 = true
            · subst c10
              have H1 : (cantingref02_value.l0 k1 a1 ((rd_T106 l0_1 (ji6)).f2) a0_0 l0_1 a0_2) = some r := by rw [if_pos rfl] at H; exact H
              clear H
              have H := H1
              clear H1
              have H' := Aside0.mk H
              clear H
              have hcz11_0 : wr.cell? ⟨gb214, 0, none⟩ = some (.int .i64 a0_0) := (blk_cell BK214.out 0).trans rfl
              have hcz11_1 : wr.cell? ⟨gb214, 1, none⟩ = some (.slice A0_1 l0_1.length c0_1) := (blk_cell BK214.out 1).trans rfl
              have hcz11_2 : wr.cell? ⟨gb214, 2, none⟩ = some (.int .i64 a0_2) := (blk_cell BK214.out 2).trans rfl
              have hfz11_0 := blk_frozen BK214.out 0
              have hfz11_1 := blk_frozen BK214.out 1
              have hfz11_2 := blk_frozen BK214.out 2
              have p215 : 0 ≤ ((ji6) : Int) := of_decide_eq_true (by first | (with_reducible assumption) | assumption)
              have q215 : (ji6) < (l0_1.length : Int) := of_decide_eq_true (by first | (with_reducible assumption) | assumption)
              obtain ⟨ad215, e215, hx215_0, hx215_1, hx215_2⟩ := at_T106 HR0_1.out (ji6) p215 q215
              cases e215
              replace hx215_0 := (HB.out.cell (World.block_lt_of_cell? w _ hx215_0)).trans hx215_0
              replace hx215_1 := (HB.out.cell (World.block_lt_of_cell? w _ hx215_1)).trans hx215_1
              replace hx215_2 := (HB.out.cell (World.block_lt_of_cell? w _ hx215_2)).trans hx215_2
              replace p215 := eq_true p215
              replace q215 := eq_true q215
              go_wp2_with (first | ((with_reducible refine gate_dst (N := 6) rfl ?_); refine box_event ?hg (N := 6) ?hd (cs := #[.int .i64 0, .int .i64 0, .int .i64 0]) (t := 106) ?hr ?_; (case hd => rfl); (case hg => rfl); (case hr => first | (go_simp; done) | (go_simp; rfl)); intro gb216 hg w12 hbox hb; have n0_ := Aside0.mk (blk_below (g := gb214) (o := .cells #[.int .i64 a0_0, .slice (some ad215) l0_1.length c0_1, .int .i64 a0_2] 33 (0, 0)) (by (with_reducible repeat (first | refine blk_drewN ?_ _ | refine blk_drew ?_ | refine blk_alloc ?_ _)); exact BK214.out) hb); have n1_ := Aside0.mk (below_step (by repeat (first | (with_reducible first | exact HB.out | apply below_alloc | apply pw_below_drewN | apply below_drew1 | refine below_set ?_ GE214.out) | exact HB.out)) hb); have n2_ := Aside0.mk (hbox); have n3_ := Aside0.mk ((by rw [hg]; exact (below_size (by repeat (first | (with_reducible first | exact HB.out | apply below_alloc | apply pw_below_drewN | apply below_drew1 | refine below_set ?_ GE214.out) | exact HB.out))) : w.heap.size ≤ gb216)); have n4_ := Aside0.mk ((by rw [hg]; exact (below_size (by repeat (first | (with_reducible first | exact HB.out | apply below_alloc | apply pw_below_drewN | apply below_drew1 | refine below_set ?_ GE214.out) | exact HB.out))) : w.heap.size ≤ gb216)); have n5_ := Aside0.mk ((by rw [hg]; exact Nat.ne_of_lt (blk_lt (g := gb214) (o := .cells #[.int .i64 a0_0, .slice (some ad215) l0_1.length c0_1, .int .i64 a0_2] 33 (0, 0)) (by (with_reducible repeat (first | refine blk_drewN ?_ _ | refine blk_drew ?_ | refine blk_alloc ?_ _)); exact BK214.out)) : gb214 ≠ gb216)); have n6_ := Aside0.mk ((by rw [hg]; exact Nat.ne_of_gt (blk_lt (g := gb214) (o := .cells #[.int .i64 a0_0, .slice (some ad215) l0_1.length c0_1, .int .i64 a0_2] 33 (0, 0)) (by (with_reducible repeat (first | refine blk_drewN ?_ _ | refine blk_drew ?_ | refine blk_alloc ?_ _)); exact BK214.out)) : gb216 ≠ gb214)); clear BK214; clear HB; have BK214 := n0_; have HB := n1_; have BK216 := n2_; have GW216 := n3_; have GE216 := n4_; have NB214_216 := n5_; have NB216_214 := n6_; clear n0_ n1_ n2_ n3_ n4_ n5_ n6_; clear hb hbox hg; have hnb13 := NB216_214.out; have hnc13 := NB214_216.out; have hcz14_0 : w12.cell? ⟨gb216, 0, none⟩ = some (.int .i64 0) := (blk_cell BK216.out 0).trans rfl; have hcz14_1 : w12.cell? ⟨gb216, 1, none⟩ = some (.int .i64 0) := (blk_cell BK216.out 1).trans rfl; have hcz14_2 : w12.cell? ⟨gb216, 2, none⟩ = some (.int .i64 0) := (blk_cell BK216.out 2).trans rfl; have hfz14_0 := blk_frozen BK216.out 0; have hfz14_1 := blk_frozen BK216.out 1; have hfz14_2 := blk_frozen BK216.out 2; have hcz15_0 : w12.cell? ⟨gb214, 0, none⟩ = some (.int .i64 a0_0) := (blk_cell BK214.out 0).trans rfl; have hcz15_1 : w12.cell? ⟨gb214, 1, none⟩ = some (.slice (some ad215) l0_1.length c0_1) := (blk_cell BK214.out 1).trans rfl; have hcz15_2 : w12.cell? ⟨gb214, 2, none⟩ = some (.int .i64 a0_2) := (blk_cell BK214.out 2).trans rfl; have hfz15_0 := blk_frozen BK214.out 0; have hfz15_1 := blk_frozen BK214.out 1; have hfz15_2 := blk_frozen BK214.out 2) | ((with_reducible refine gate_callee (f := 88) rfl ?_); refine goesL_ (some 24) rfl rfl Try.func88 (by kernel_rfl) rfl #[.int .i64 a0_0, .int .i64 a1, .int .i64 ((rd_T106 l0_1 (ji6)).f0)] rfl (by (try simp only [List.map_toArray, List.map_cons, List.map_nil]); first | done | (simp only [hji6]; rfl) | rfl | (simp only [List.length_drop, List.length_take]; rfl)) ?_; (with_reducible refine (cantingref02_Bit.calls a0_0 a1 ((rd_T106 l0_1 (ji6)).f0) true _ A9.out).mono ?_); rintro e w' ⟨rfl, ⟨nd, rfl⟩⟩; refine ⟨_, rfl, ?_⟩))
              go_roundg k1
              case measure => have := HK1.out; omega
              case rel => exact ⟨((rd_T106 l0_1 (ji6)).f2), (by first | rfl | (simp; done) | (simp only [← hji6] <;> (first | rfl | simp)) | (simp [*]; done)), H', ⟨by have := HK1.out; omega⟩, ⟨by (with_reducible repeat (first | refine blk_drewN ?_ _ | refine blk_drew ?_ | refine blk_alloc ?_ _)); refine blk_far ?_ NB214_216.out _; (with_reducible repeat (first | refine blk_drewN ?_ _ | refine blk_drew ?_ | refine blk_alloc ?_ _)); refine blk_far ?_ NB214_216.out _; (with_reducible repeat (first | refine blk_drewN ?_ _ | refine blk_drew ?_ | refine blk_alloc ?_ _)); refine blk_far ?_ NB214_216.out _; (with_reducible repeat (first | refine blk_drewN ?_ _ | refine blk_drew ?_ | refine blk_alloc ?_ _)); exact BK214.out⟩, ⟨by repeat (first | (with_reducible first | exact HB.out | apply below_alloc | apply pw_below_drewN | apply below_drew1 | refine below_set ?_ GE214.out | refine below_set ?_ GE216.out) | exact HB.out)⟩⟩
            · replace c10 := Bool.eq_false_iff.mpr c10
              subst c10
              have H1 : (cantingref02_value.l0 k1 a1 ((rd_T106 l0_1 (ji6)).f1) a0_0 l0_1 a0_2) = some r := by rw [if_neg (show ¬ (false = true) by decide)] at H; exact H
              clear H
              have H := H1
              clear H1
              have H' := Aside0.mk H
              clear H
              have hcz16_0 : wr.cell? ⟨gb214, 0, none⟩ = some (.int .i64 a0_0) := (blk_cell BK214.out 0).trans rfl
              have hcz16_1 : wr.cell? ⟨gb214, 1, none⟩ = some (.slice A0_1 l0_1.length c0_1) := (blk_cell BK214.out 1).trans rfl
              have hcz16_2 : wr.cell? ⟨gb214, 2, none⟩ = some (.int .i64 a0_2) := (blk_cell BK214.out 2).trans rfl
              have hfz16_0 := blk_frozen BK214.out 0
              have hfz16_1 := blk_frozen BK214.out 1
              have hfz16_2 := blk_frozen BK214.out 2
              have p215 : 0 ≤ ((ji6) : Int) := of_decide_eq_true (by first | (with_reducible assumption) | assumption)
              have q215 : (ji6) < (l0_1.length : Int) := of_decide_eq_true (by first | (with_reducible assumption) | assumption)
              obtain ⟨ad215, e215, hx215_0, hx215_1, hx215_2⟩ := at_T106 HR0_1.out (ji6) p215 q215
              cases e215
              replace hx215_0 := (HB.out.cell (World.block_lt_of_cell? w _ hx215_0)).trans hx215_0
              replace hx215_1 := (HB.out.cell (World.block_lt_of_cell? w _ hx215_1)).trans hx215_1
              replace hx215_2 := (HB.out.cell (World.block_lt_of_cell? w _ hx215_2)).trans hx215_2
              replace p215 := eq_true p215
              replace q215 := eq_true q215
              go_wp2_with (first | ((with_reducible refine gate_dst (N := 6) rfl ?_); refine box_event ?hg (N := 6) ?hd (cs := #[.int .i64 0, .int .i64 0, .int .i64 0]) (t := 106) ?hr ?_; (case hd => rfl); (case hg => rfl); (case hr => first | (go_simp; done) | (go_simp; rfl)); intro gb216 hg w17 hbox hb; have n0_ := Aside0.mk (blk_below (g := gb214) (o := .cells #[.int .i64 a0_0, .slice (some ad215) l0_1.length c0_1, .int .i64 a0_2] 33 (0, 0)) (by (with_reducible repeat (first | refine blk_drewN ?_ _ | refine blk_drew ?_ | refine blk_alloc ?_ _)); exact BK214.out) hb); have n1_ := Aside0.mk (below_step (by repeat (first | (with_reducible first | exact HB.out | apply below_alloc | apply pw_below_drewN | apply below_drew1 | refine below_set ?_ GE214.out) | exact HB.out)) hb); have n2_ := Aside0.mk (hbox); have n3_ := Aside0.mk ((by rw [hg]; exact (below_size (by repeat (first | (with_reducible first | exact HB.out | apply below_alloc | apply pw_below_drewN | apply below_drew1 | refine below_set ?_ GE214.out) | exact HB.out))) : w.heap.size ≤ gb216)); have n4_ := Aside0.mk ((by rw [hg]; exact (below_size (by repeat (first | (with_reducible first | exact HB.out | apply below_alloc | apply pw_below_drewN | apply below_drew1 | refine below_set ?_ GE214.out) | exact HB.out))) : w.heap.size ≤ gb216)); have n5_ := Aside0.mk ((by rw [hg]; exact Nat.ne_of_lt (blk_lt (g := gb214) (o := .cells #[.int .i64 a0_0, .slice (some ad215) l0_1.length c0_1, .int .i64 a0_2] 33 (0, 0)) (by (with_reducible repeat (first | refine blk_drewN ?_ _ | refine blk_drew ?_ | refine blk_alloc ?_ _)); exact BK214.out)) : gb214 ≠ gb216)); have n6_ := Aside0.mk ((by rw [hg]; exact Nat.ne_of_gt (blk_lt (g := gb214) (o := .cells #[.int .i64 a0_0, .slice (some ad215) l0_1.length c0_1, .int .i64 a0_2] 33 (0, 0)) (by (with_reducible repeat (first | refine blk_drewN ?_ _ | refine blk_drew ?_ | refine blk_alloc ?_ _)); exact BK214.out)) : gb216 ≠ gb214)); clear BK214; clear HB; have BK214 := n0_; have HB := n1_; have BK216 := n2_; have GW216 := n3_; have GE216 := n4_; have NB214_216 := n5_; have NB216_214 := n6_; clear n0_ n1_ n2_ n3_ n4_ n5_ n6_; clear hb hbox hg; have hnb18 := NB216_214.out; have hnc18 := NB214_216.out; have hcz19_0 : w17.cell? ⟨gb216, 0, none⟩ = some (.int .i64 0) := (blk_cell BK216.out 0).trans rfl; have hcz19_1 : w17.cell? ⟨gb216, 1, none⟩ = some (.int .i64 0) := (blk_cell BK216.out 1).trans rfl; have hcz19_2 : w17.cell? ⟨gb216, 2, none⟩ = some (.int .i64 0) := (blk_cell BK216.out 2).trans rfl; have hfz19_0 := blk_frozen BK216.out 0; have hfz19_1 := blk_frozen BK216.out 1; have hfz19_2 := blk_frozen BK216.out 2; have hcz20_0 : w17.cell? ⟨gb214, 0, none⟩ = some (.int .i64 a0_0) := (blk_cell BK214.out 0).trans rfl; have hcz20_1 : w17.cell? ⟨gb214, 1, none⟩ = some (.slice (some ad215) l0_1.length c0_1) := (blk_cell BK214.out 1).trans rfl; have hcz20_2 : w17.cell? ⟨gb214, 2, none⟩ = some (.int .i64 a0_2) := (blk_cell BK214.out 2).trans rfl; have hfz20_0 := blk_frozen BK214.out 0; have hfz20_1 := blk_frozen BK214.out 1; have hfz20_2 := blk_frozen BK214.out 2) | ((with_reducible refine gate_callee (f := 88) rfl ?_); refine goesL_ (some 24) rfl rfl Try.func88 (by kernel_rfl) rfl #[.int .i64 a0_0, .int .i64 a1, .int .i64 ((rd_T106 l0_1 (ji6)).f0)] rfl (by (try simp only [List.map_toArray, List.map_cons, List.map_nil]); first | done | (simp only [hji6]; rfl) | rfl | (simp only [List.length_drop, List.length_take]; rfl)) ?_; (with_reducible refine (cantingref02_Bit.calls a0_0 a1 ((rd_T106 l0_1 (ji6)).f0) false _ A9.out).mono ?_); rintro e w' ⟨rfl, ⟨nd, rfl⟩⟩; refine ⟨_, rfl, ?_⟩))
              go_roundg k1
              case measure => have := HK1.out; omega
              case rel => exact ⟨((rd_T106 l0_1 (ji6)).f1), (by first | rfl | (simp; done) | (simp only [← hji6] <;> (first | rfl | simp)) | (simp [*]; done)), H', ⟨by have := HK1.out; omega⟩, ⟨by (with_reducible repeat (first | refine blk_drewN ?_ _ | refine blk_drew ?_ | refine blk_alloc ?_ _)); refine blk_far ?_ NB214_216.out _; (with_reducible repeat (first | refine blk_drewN ?_ _ | refine blk_drew ?_ | refine blk_alloc ?_ _)); refine blk_far ?_ NB214_216.out _; (with_reducible repeat (first | refine blk_drewN ?_ _ | refine blk_drew ?_ | refine blk_alloc ?_ _)); refine blk_far ?_ NB214_216.out _; (with_reducible repeat (first | refine blk_drewN ?_ _ | refine blk_drew ?_ | refine blk_alloc ?_ _)); exact BK214.out⟩, ⟨by repeat (first | (with_reducible first | exact HB.out | apply below_alloc | apply pw_below_drewN | apply below_drew1 | refine below_set ?_ GE214.out | refine below_set ?_ GE216.out) | exact HB.out)⟩⟩
          · rw [if_neg c8] at H
            exact absurd H (by simp)
        · rw [if_neg c7] at H
          exact absurd H (by simp)
      · rw [if_neg c5] at H
        have c5b0 : decide (1 < x5_1) = false := decide_eq_false c5
        clear c5
        obtain rfl := Option.some.inj H
        go_wp2
        go_ret
        exact ⟨by first | rfl | (simp [errW_none, errW_some] <;> rfl) | (simp [*, errW_none, errW_some] <;> rfl), by repeat (first | (with_reducible first | exact HB.out | apply below_alloc | apply pw_below_drewN | apply below_drew1 | refine below_set ?_ GE214.out) | exact HB.out)⟩
end Go.Proofs.Ytlplphgoldkoeaa.X
end

section
set_option linter.unusedVariables false
set_option linter.unusedSimpArgs false
namespace Go.Proofs.Ytlplphgoldkoeaa.X
open Go.RowKit Go.Proofs.YtlplphgoldkoeaaW.PrintWords Go.Proofs.YtlplphgoldkoeaaW.PrintLast Go.Proofs.YtlplphgoldkoeaaW.PrintMore
attribute [local go_sem] max2_int min2_int max_two min_two max_three min_three max_four min_four   -- for this text's walks alone
set_option linter.unusedVariables false
set_option linter.unusedSimpArgs false
def cantingref02_table.l0 : Nat → List Bool → Int → Int → Int → List (S106) → Int → Option (List Bool)
  | 0, _, _, _, _, _, _ => none
  | k + 1, x3, x10, x11, x219000, x219001, x219002 => if x11 < x10 then ((cantingref02_value.f k x219000 x219001 x219002 x11).bind fun t222 => (if 0 ≤ x11 then (if x11 < (x3.length : Int) then (cantingref02_table.l0 k (x3.set (x11 : Int).toNat t222) x10 (wrap64 (x11 + 1)) x219000 x219001 x219002) else (none)) else (none))) else (some x3)
def cantingref02_table.f (k : Nat) (a0_0 : Int) (l0_1 : List (S106)) (a0_2 : Int) : Option (List Bool) := if 0 ≤ a0_0 then (if 0 ≤ (shl .i64 1 a0_0) then (if (shl .i64 1 a0_0 : Int).toNat ≤ 281474976710656 then ((some (List.replicate (shl .i64 1 a0_0 : Int).toNat false : List Bool)).bind fun y219 => (cantingref02_table.l0 k y219 (y219.length : Int) 0 a0_0 l0_1 a0_2)) else (none)) else (none)) else (none)
theorem cantingref02_table.mono_l : ∀ k, (∀ y0 y1 y2 y3 y4 y5, LeO (cantingref02_table.l0 k y0 y1 y2 y3 y4 y5) (cantingref02_table.l0 (k + 1) y0 y1 y2 y3 y4 y5))
  | 0 => fun _ _ _ _ _ _ r h => by simp [cantingref02_table.l0] at h
  | k + 1 => by
    have ih0 := cantingref02_table.mono_l k
    · intro y0 y1 y2 y3 y4 y5
      unfold cantingref02_table.l0
      repeat' first
      | (with_reducible exact ih0 _ _ _ _ _ _)
      | (with_reducible exact cantingref02_value.mono _ _ _ _ _)
      | (with_reducible exact LeO.refl _)
      | (with_reducible exact LeO.none _)
      | (with_reducible refine LeO.ite ?_ ?_)
      | (with_reducible refine LeO.bind ?_ (fun _ => ?_))
      | exact ih0 _ _ _ _ _ _
      | exact cantingref02_value.mono _ _ _ _ _
      | exact LeO.none _
      | refine LeO.ite ?_ ?_
      | refine LeO.bind ?_ (fun _ => ?_)
theorem cantingref02_table.mono : ∀ a0 a1 a2 k, LeO (cantingref02_table.f k a0 a1 a2) (cantingref02_table.f (k + 1) a0 a1 a2) := by
  intro a0 a1 a2 k
  have ih0 := cantingref02_table.mono_l k
  unfold cantingref02_table.f
  repeat' first
      | (with_reducible exact ih0 _ _ _ _ _ _)
      | (with_reducible exact cantingref02_value.mono _ _ _ _ _)
      | (with_reducible exact LeO.refl _)
      | (with_reducible exact LeO.none _)
      | (with_reducible refine LeO.ite ?_ ?_)
      | (with_reducible refine LeO.bind ?_ (fun _ => ?_))
      | exact ih0 _ _ _ _ _ _
      | exact cantingref02_value.mono _ _ _ _ _
      | exact LeO.none _
      | refine LeO.ite ?_ ?_
      | refine LeO.bind ?_ (fun _ => ?_)
set_option maxHeartbeats 8000000 in
set_option maxRecDepth 100000 in
theorem cantingref02_table.calls (k : Nat) (a0_0 : Int) (A0_1 : Option Addr) (c0_1 : Nat) (l0_1 : List (S106)) (a0_2 : Int) (r : List Bool) (w : World) (hr0_1 : Kd.C k106 w A0_1 l0_1.length l0_1) (hc0_1 : l0_1.length ≤ c0_1) (h : cantingref02_table.f k a0_0 l0_1 a0_2 = some r) :
    Calls Try.prog 93 #[.agg #[.int .i64 a0_0, .slice A0_1 l0_1.length c0_1, .int .i64 a0_2]] w fun e w' => ∃ v0_ : Value, e = .returned (v0_) ∧ Kd.R Kd.bool 4 w' w.heap.size (fun _ => True) v0_ r ∧ Below w.heap.size w w' := by
  have hu33 := Try.underlying33
  have HR0_1 := Aside0.mk hr0_1
  have HC0_1 := Aside0.mk hc0_1
  clear hr0_1 hc0_1
  have HB := Aside0.mk (Below.refl w.heap.size w)
  have H : (if 0 ≤ a0_0 then (if 0 ≤ (shl .i64 1 a0_0) then (if (shl .i64 1 a0_0 : Int).toNat ≤ 281474976710656 then ((some (List.replicate (shl .i64 1 a0_0 : Int).toNat false : List Bool)).bind fun y219 => (cantingref02_table.l0 k y219 (y219.length : Int) 0 a0_0 l0_1 a0_2)) else (none)) else (none)) else (none)) = some r := h
  clear h
  by_cases c2 : 0 ≤ a0_0
  · rw [if_pos c2] at H
    have c2b0 := eq_true c2
    (try (have c2b0_0 := c2b0; rw [hl3_1] at c2b0_0))
    have c2b1 : decide (0 ≤ a0_0) = true := decide_eq_true c2
    (try (have c2b1_0 := c2b1; rw [hl3_1] at c2b1_0))
    clear c2
    obtain ⟨ji3, hji3⟩ : ∃ j_ : Int, (shl .i64 1 a0_0) = j_ := ⟨_, rfl⟩
    replace H : (if 0 ≤ (ji3) then (if (ji3 : Int).toNat ≤ 281474976710656 then ((some (List.replicate (ji3 : Int).toNat false : List Bool)).bind fun y219 => (cantingref02_table.l0 k y219 (y219.length : Int) 0 a0_0 l0_1 a0_2)) else (none)) else (none)) = some r := by first | (rw [hji3] at H; exact H) | (simp only [hji3] at H ⊢; exact H)
    have hji3_ : (IntKind.i64.wrap (1 * 2 ^ min a0_0.toNat 64)) = ji3 := hji3
    have hji3z : a0_0 ≤ 64 → (IntKind.i64.wrap (1 * 2 ^ a0_0.toNat)) = ji3 := shl_small hji3
    have hji3u : (IntKind.i64.wrap (2 ^ min a0_0.toNat 64)) = ji3 := by have h_ := hji3_; rw [Int.one_mul] at h_; exact h_
    have hji3v : a0_0 ≤ 64 → (IntKind.i64.wrap (2 ^ a0_0.toNat)) = ji3 := fun hle_ => by have h_ := hji3z hle_; rw [Int.one_mul] at h_; exact h_
    have hji3y : (wrap64 (1 * 2 ^ min a0_0.toNat 64)) = ji3 := (i64_w _).symm.trans hji3_
    have hji3x : a0_0 ≤ 64 → (wrap64 (1 * 2 ^ a0_0.toNat)) = ji3 := fun h_ => (i64_w _).symm.trans (hji3z h_)
    by_cases c4 : 0 ≤ (ji3)
    · rw [if_pos c4] at H
      have c4b0 := eq_true c4
      (try (have c4b0_0 := c4b0; rw [hl3_1] at c4b0_0))
      have c4b1 : decide (0 ≤ (ji3)) = true := decide_eq_true c4
      (try (have c4b1_0 := c4b1; rw [hl3_1] at c4b1_0))
      clear c4
      by_cases c5 : (ji3 : Int).toNat ≤ 281474976710656
      · rw [if_pos c5] at H
        have c5b0 := eq_true c5
        (try (have c5b0_0 := c5b0; rw [hl3_1] at c5b0_0))
        have c5b1 : decide ((ji3 : Int).toNat ≤ 281474976710656) = true := decide_eq_true c5
        (try (have c5b1_0 := c5b1; rw [hl3_1] at c5b1_0))
        clear c5
        obtain ⟨y219, hy219⟩ : ∃ y_ : List Bool, y_ = (List.replicate (ji3 : Int).toNat false) := ⟨_, rfl⟩
        replace H : (cantingref02_table.l0 k y219 (y219.length : Int) 0 a0_0 l0_1 a0_2) = some r := by first | (rw [hy219]; with_reducible exact H) | (have H2_ := (Option.bind_some _ _).symm.trans H; rw [hy219]; with_reducible exact H2_) | (have H2_ := (Option.bind_some _ _).symm.trans H; with_reducible exact H2_) | with_reducible exact H | (rw [hy219]; exact H) | exact H
        have Ny219 := Aside0.mk hy219
        clear hy219
        have H' := Aside0.mk H
        clear H
        go_enter Try.func93, Try.ntmps93
        go_wp2_with (first | ((with_reducible refine gate_dst (N := 1) rfl ?_); refine box_event ?hg (N := 1) ?hd (cs := #[.int .i64 a0_0, .slice A0_1 l0_1.length c0_1, .int .i64 a0_2]) (t := 33) ?hr ?_; (case hd => rfl); (case hg => rfl); (case hr => first | (go_simp; done) | (go_simp; rfl)); intro gb218 hg w6 hbox hb; have n0_ := Aside0.mk (below_step (by repeat (first | (with_reducible first | exact HB.out | apply below_alloc | apply pw_below_drewN | apply below_drew1) | exact HB.out)) hb); have n1_ := Aside0.mk (hbox); have n2_ := Aside0.mk ((by rw [hg]; exact (below_size (by repeat (first | (with_reducible first | exact HB.out | apply below_alloc | apply pw_below_drewN | apply below_drew1) | exact HB.out))) : w.heap.size ≤ gb218)); have n3_ := Aside0.mk ((by rw [hg]; exact (below_size (by repeat (first | (with_reducible first | exact HB.out | apply below_alloc | apply pw_below_drewN | apply below_drew1) | exact HB.out))) : w.heap.size ≤ gb218)); clear HB; have HB := n0_; have BK218 := n1_; have GW218 := n2_; have GE218 := n3_; clear n0_ n1_ n2_ n3_; clear hb hbox hg; have hcz7_0 : w6.cell? ⟨gb218, 0, none⟩ = some (.int .i64 a0_0) := (blk_cell BK218.out 0).trans rfl; have hcz7_1 : w6.cell? ⟨gb218, 1, none⟩ = some (.slice A0_1 l0_1.length c0_1) := (blk_cell BK218.out 1).trans rfl; have hcz7_2 : w6.cell? ⟨gb218, 2, none⟩ = some (.int .i64 a0_2) := (blk_cell BK218.out 2).trans rfl; have hfz7_0 := blk_frozen BK218.out 0; have hfz7_1 := blk_frozen BK218.out 1; have hfz7_2 := blk_frozen BK218.out 2) | ((with_reducible refine gate_dst (N := 8) rfl ?_); refine Kd.R_make Kd.bool _ 4 rfl (N := 8) rfl 47 _ _ rfl ji3 rfl rfl Try.underlying47 (.bool false) 1 info4 rfl (by decide) (by omega) false (ok := fun _ => True) (okp := fun _ => True) rfl (fun _ hk => hk) trivial (of_decide_eq_true (by first | (with_reducible assumption) | assumption)) (Nat.le_trans (Nat.mul_le_mul_right _ (of_decide_eq_true (by first | (with_reducible assumption) | assumption) : ji3.toNat ≤ 281474976710656)) (by omega)) (Below.refl _ _) (Nat.le_refl _) ?_; intro v220 w8 ho9 hb hg_ hnew_; clear hg_ hnew_; (first | rw [← Ny219.out] at ho9 | (simp only [Int.reduceToNat] at ho9; rw [← Ny219.out] at ho9)); have n0_ := Aside0.mk (Kd.R_lower ho9 (below_size (by repeat (first | (with_reducible first | exact HB.out | apply below_alloc | apply pw_below_drewN | apply below_drew1 | refine below_set ?_ GE218.out) | exact HB.out)))); have n1_ := Aside0.mk (blk_below (g := gb218) (o := .cells #[.int .i64 a0_0, .slice A0_1 l0_1.length c0_1, .int .i64 a0_2] 33 (0, 0)) (by (with_reducible repeat (first | refine blk_drewN ?_ _ | refine blk_drew ?_ | refine blk_alloc ?_ _)); exact BK218.out) hb); have n2_ := Aside0.mk (below_step (by repeat (first | (with_reducible first | exact HB.out | apply below_alloc | apply pw_below_drewN | apply below_drew1 | refine below_set ?_ GE218.out) | exact HB.out)) hb); clear BK218; clear HB; have HO221 := n0_; have BK218 := n1_; have HB := n2_; clear n0_ n1_ n2_; clear hb ho9; obtain ⟨Ao10, co10, eo10⟩ := Kd.R_slice HO221.out; subst eo10))
        go_loopg [11] k (fun kq v11 w' => ∃ (x3_1 : List Bool) (x11_1 : Int), v11 = .int .i64 x11_1 ∧ Aside0 (cantingref02_table.l0 kq x3_1 (y219.length : Int) x11_1 a0_0 l0_1 a0_2 = some r) ∧ Aside0 (kq ≤ k) ∧ Aside0 (Kd.R Kd.bool 4 w' w.heap.size (fun _ => True) (.slice Ao10 y219.length co10) x3_1) ∧ Aside0 (w'.heap[gb218]? = some (.cells #[.int .i64 a0_0, (.slice A0_1 l0_1.length c0_1), .int .i64 a0_2] 33 (0, 0))) ∧ Aside0 (Below w.heap.size w w'))
        case atStart => exact ⟨(y219), (0), (by first | rfl | (simp; done) | (simp [*]; done)), H', ⟨Nat.le_refl _⟩, ⟨by (with_reducible repeat (first | apply Kd.R_alloc | apply Kd.R_drewN | apply Kd.R_drew)); exact HO221.out⟩, ⟨by (with_reducible repeat (first | refine blk_drewN ?_ _ | refine blk_drew ?_ | refine blk_alloc ?_ _)); exact BK218.out⟩, ⟨by repeat (first | (with_reducible first | exact HB.out | apply below_alloc | apply pw_below_drewN | apply below_drew1 | refine below_set ?_ GE218.out) | exact HB.out)⟩⟩
        case round =>
          clear H'
          try clear c2
          try clear c2b0
          try clear c2b1
          try clear p2
          try clear c4
          try clear c4b0
          try clear c4b1
          try clear c5
          try clear c5b0
          try clear c5b1
          try clear p6
          try clear c9
          try clear hcz7_0
          try clear hcz7_1
          try clear hcz7_2
          try clear hfz7_0
          try clear hfz7_1
          try clear hfz7_2
          obtain ⟨x3_1, x11_1, rfl, HA, HK1, HO_3, BK218, HB⟩ := hrel
          have hl3_1 := (Kd.R_reads' HO_3.out).1
          rw [hl3_1] at HO_3
          (try simp only [hl3_1])
          (try simp only [hl3_1] at BK218)
          cases gk with
          | zero => exact absurd HA.out (by simp [cantingref02_table.l0])
          | succ k1 =>
            have H := HA.out
            clear HA
            simp only [cantingref02_table.l0] at H
            by_cases c11 : x11_1 < (y219.length : Int)
            · rw [if_pos c11] at H
              have c11b0 : decide (x11_1 < (y219.length : Int)) = true := decide_eq_true c11
              (try (have c11b0_0 := c11b0; rw [hl3_1] at c11b0_0))
              clear c11
              replace H := Option.bind_eq_some_iff.mp H
              obtain ⟨t222, A120, H⟩ := H
              replace H : (if 0 ≤ x11_1 then (if x11_1 < (x3_1.length : Int) then (cantingref02_table.l0 k1 (x3_1.set (x11_1 : Int).toNat t222) (y219.length : Int) (wrap64 (x11_1 + 1)) a0_0 l0_1 a0_2) else (none)) else (none)) = some r := H
              have A12 := Aside0.mk A120
              clear A120
              by_cases c13 : 0 ≤ x11_1
              · rw [if_pos c13] at H
                have c13b0 : decide (0 ≤ x11_1) = true := decide_eq_true c13
                (try (have c13b0_0 := c13b0; rw [hl3_1] at c13b0_0))
                clear c13
                by_cases c14 : x11_1 < (x3_1.length : Int)
                · rw [if_pos c14] at H
                  have c14b0 : decide (x11_1 < (x3_1.length : Int)) = true := decide_eq_true c14
                  (try (have c14b0_0 := c14b0; rw [hl3_1] at c14b0_0))
                  clear c14
                  obtain ⟨y223, hy223⟩ : ∃ y_ : List Bool, y_ = (x3_1.set (x11_1 : Int).toNat t222) := ⟨_, rfl⟩
                  replace H : (cantingref02_table.l0 k1 y223 (y219.length : Int) (wrap64 (x11_1 + 1)) a0_0 l0_1 a0_2) = some r := by first | (rw [hy223]; with_reducible exact H) | (have H2_ := (Option.bind_some _ _).symm.trans H; rw [hy223]; with_reducible exact H2_) | (have H2_ := (Option.bind_some _ _).symm.trans H; with_reducible exact H2_) | with_reducible exact H | (rw [hy223]; exact H) | exact H
                  have Ny223 := Aside0.mk hy223
                  clear hy223
                  have H' := Aside0.mk H
                  clear H
                  have hcz16_0 : wr.cell? ⟨gb218, 0, none⟩ = some (.int .i64 a0_0) := (blk_cell BK218.out 0).trans rfl
                  have hcz16_1 : wr.cell? ⟨gb218, 1, none⟩ = some (.slice A0_1 l0_1.length c0_1) := (blk_cell BK218.out 1).trans rfl
                  have hcz16_2 : wr.cell? ⟨gb218, 2, none⟩ = some (.int .i64 a0_2) := (blk_cell BK218.out 2).trans rfl
                  have hfz16_0 := blk_frozen BK218.out 0
                  have hfz16_1 := blk_frozen BK218.out 1
                  have hfz16_2 := blk_frozen BK218.out 2
                  go_wp2_with (first | ((with_reducible refine gate_callee (f := 108) rfl ?_); refine goesL_ (some 18) rfl rfl Try.func108 (by kernel_rfl) rfl #[.agg #[.int .i64 a0_0, .slice A0_1 l0_1.length c0_1, .int .i64 a0_2], .int .i64 x11_1] rfl (by (try simp only [List.map_toArray, List.map_cons, List.map_nil]); first | done | rfl | (simp only [List.length_drop, List.length_take]; rfl)) ?_; (with_reducible refine (cantingref02_value.calls k1 a0_0 _ _ l0_1 a0_2 x11_1 t222 _ ?side1 ?side2 A12.out).mono ?_); (case side1 => repeat (first | exact (Kd.C_below HR0_1.out HB.out) | (with_reducible refine Kd.C_alloc ?_ _) | (with_reducible refine Kd.C_drewN ?_ _) | (with_reducible refine Kd.C_drew ?_))); (case side2 => exact HC0_1.out); rintro e w17 ⟨rfl, hb⟩; refine ⟨_, rfl, ?_⟩; have n0_ := Aside0.mk (Kd.R_below (by (with_reducible repeat (first | apply Kd.R_alloc | apply Kd.R_drewN | apply Kd.R_drew)); exact HO_3.out) hb); have n1_ := Aside0.mk (blk_below (g := gb218) (o := .cells #[.int .i64 a0_0, .slice A0_1 l0_1.length c0_1, .int .i64 a0_2] 33 (0, 0)) (by (with_reducible repeat (first | refine blk_drewN ?_ _ | refine blk_drew ?_ | refine blk_alloc ?_ _)); exact BK218.out) hb); have n2_ := Aside0.mk (below_step (by repeat (first | (with_reducible first | exact HB.out | apply below_alloc | apply pw_below_drewN | apply below_drew1 | refine below_set ?_ GE218.out) | exact HB.out)) hb); clear HO_3; clear BK218; clear HB; have HO_3 := n0_; have BK218 := n1_; have HB := n2_; clear n0_ n1_ n2_; (try clear hb); (try clear hb2); (try clear hk); (try clear hi); have p15 : 0 ≤ (x11_1 : Int) := of_decide_eq_true (by first | (with_reducible assumption) | assumption); have q15 : (x11_1 : Int) < ((x3_1.length : Int) : Int) := of_decide_eq_true (by first | (with_reducible assumption) | assumption); obtain ⟨go15, co15, eo15, gb15, gl15, cl15, HG15⟩ := Kd.R_form HO_3.out (by omega); (first | cases eo15 | (injection eo15 with ea_ en_ ec_; (first | subst ea_ | (injection ea_ with ea_; subst ea_)); subst ec_; clear en_)); have GB15 := Aside0.mk gb15; have GG15 := Aside0.mk HG15; clear gb15 gl15 HG15; obtain ⟨hx15_0, hf15_0⟩ := Kd.R_celln false HO_3.out (x11_1 : Int) p15 q15; replace p15 := eq_true p15; replace q15 := eq_true q15; obtain ⟨hy18_, hz18_⟩ := Kd.R_celln false HO_3.out (x11_1 : Int) (of_decide_eq_true (by first | (with_reducible assumption) | assumption)) (of_decide_eq_true (by first | (with_reducible assumption) | assumption)); have HP18 := Kd.R_putg HO_3.out (x11_1 : Int) t222) | ((with_reducible refine gate_store (t := 4) (p := 19) rfl ?_); refine store_event (t := 4) (p := 19) (v := ?vo_w19) (w1 := (w17.setCell ⟨go15, (x11_1 : Int).toNat, none⟩ (.bool t222))) ?hg ?ho ?hn ?hr ?_; (case ho => rfl); (case hg => rfl); (case hn => rfl); (case hr => first | (go_simp; done) | (go_simp; rfl)); intro w19 hw; have hg : w17.grownBy w19 (some go15) := (by rw [hw]; exact HP18.2); have hp_ : Kd.R Kd.bool 4 w19 w.heap.size (fun _ => True) (.slice (some ⟨go15, 0, none⟩) x3_1.length co10) y223 := (by rw [hw, Ny223.out]; exact HP18.1); clear HP18; have n0_ := Aside0.mk (hp_); have n1_ := Aside0.mk (blk_grown (g := gb218) (o := .cells #[.int .i64 a0_0, .slice A0_1 l0_1.length c0_1, .int .i64 a0_2] 33 (0, 0)) (by (with_reducible repeat (first | refine blk_drewN ?_ _ | refine blk_drew ?_ | refine blk_alloc ?_ _)); exact BK218.out) hg (Kd.R_ne HO_3.out BK218.out (by decide))); have n2_ := Aside0.mk ((by rw [hw]; exact below_set (HB.out) GB15.out : Below w.heap.size w w19)); clear HO_3; clear BK218; clear HB; have HO_3 := n0_; have BK218 := n1_; have HB := n2_; clear n0_ n1_ n2_; clear hg hw hp_))
                  (try simp only [← hl3_1])
                  go_roundg k1
                  case measure => have := HK1.out; omega
                  case rel => exact ⟨(y223), (wrap64 (x11_1 + 1)), (by first | rfl | (simp; done) | (simp [*]; done)), H', ⟨by have := HK1.out; omega⟩, ⟨by (try simp only [hl3_1]); (with_reducible repeat (first | apply Kd.R_alloc | apply Kd.R_drewN | apply Kd.R_drew)); exact HO_3.out⟩, ⟨by (try simp only [hl3_1]); (with_reducible repeat (first | refine blk_drewN ?_ _ | refine blk_drew ?_ | refine blk_alloc ?_ _)); exact BK218.out⟩, ⟨by repeat (first | (with_reducible first | exact HB.out | apply below_alloc | apply pw_below_drewN | apply below_drew1 | refine below_set ?_ GE218.out) | exact HB.out)⟩⟩
                · rw [if_neg c14] at H
                  exact absurd H (by simp)
              · rw [if_neg c13] at H
                exact absurd H (by simp)
            · rw [if_neg c11] at H
              have c11b0 : decide (x11_1 < (y219.length : Int)) = false := decide_eq_false c11
              (try (have c11b0_0 := c11b0; rw [hl3_1] at c11b0_0))
              clear c11
              obtain rfl := Option.some.inj H
              go_wp2
              go_ret
              exact ⟨_, by first | rfl | (simp [errW_none, errW_some] <;> rfl) | (simp only [← hji3]; first | rfl | (simp [errW_none, errW_some] <;> rfl)) | (simp [*, errW_none, errW_some] <;> rfl), by (with_reducible repeat (first | apply Kd.R_alloc | apply Kd.R_drewN | apply Kd.R_drew)); exact HO_3.out, by repeat (first | (with_reducible first | exact HB.out | apply below_alloc | apply pw_below_drewN | apply below_drew1 | refine below_set ?_ GE218.out) | exact HB.out)⟩
      · rw [if_neg c5] at H
        exact absurd H (by simp)
    · rw [if_neg c4] at H
      exact absurd H (by simp)
  · rw [if_neg c2] at H
    exact absurd H (by simp)
end Go.Proofs.Ytlplphgoldkoeaa.X
end

section
set_option linter.unusedVariables false
set_option linter.unusedSimpArgs false
namespace Go.Proofs.Ytlplphgoldkoeaa.X
open Go.RowKit Go.Proofs.YtlplphgoldkoeaaW.PrintWords Go.Proofs.YtlplphgoldkoeaaW.PrintLast Go.Proofs.YtlplphgoldkoeaaW.PrintMore
attribute [local go_sem] max2_int min2_int max_two min_two max_three min_three max_four min_four   -- for this text's walks alone
set_option linter.unusedVariables false
set_option linter.unusedSimpArgs false
def mask_Mask_holds.l0 : Nat → Int → Int → Int → List (S107) → Int → Option (Bool)
  | 0, _, _, _, _, _ => none
  | k + 1, x1, x5, x264000, x264001, x264002 => if x5 > 1 then (if 0 ≤ (wrap64 (x5 - 2)) then (if (wrap64 (x5 - 2)) < (x264001.length : Int) then (if 0 ≤ (wrap64 ((wrap64 (x264000 - 1)) - ((rd_T107 x264001 (wrap64 (x5 - 2))).f0))) then (if (Go.bits .and .i64 (shr .i64 x1 (wrap64 ((wrap64 (x264000 - 1)) - ((rd_T107 x264001 (wrap64 (x5 - 2))).f0)))) 1) = 1 then (mask_Mask_holds.l0 k x1 ((rd_T107 x264001 (wrap64 (x5 - 2))).f2) x264000 x264001 x264002) else (mask_Mask_holds.l0 k x1 ((rd_T107 x264001 (wrap64 (x5 - 2))).f1) x264000 x264001 x264002)) else (none)) else (none)) else (none)) else (some (x5 == 1))
def mask_Mask_holds.f (k : Nat) (a0_0 : Int) (l0_1 : List (S107)) (a0_2 : Int) (a1 : Int) : Option (Bool) := mask_Mask_holds.l0 k a1 a0_2 a0_0 l0_1 a0_2
theorem mask_Mask_holds.mono_l : ∀ k, (∀ y0 y1 y2 y3 y4, LeO (mask_Mask_holds.l0 k y0 y1 y2 y3 y4) (mask_Mask_holds.l0 (k + 1) y0 y1 y2 y3 y4))
  | 0 => fun _ _ _ _ _ r h => by simp [mask_Mask_holds.l0] at h
  | k + 1 => by
    have ih0 := mask_Mask_holds.mono_l k
    · intro y0 y1 y2 y3 y4
      unfold mask_Mask_holds.l0
      repeat' first
      | (with_reducible exact ih0 _ _ _ _ _)
      | (with_reducible exact LeO.refl _)
      | (with_reducible exact LeO.none _)
      | (with_reducible refine LeO.ite ?_ ?_)
      | (with_reducible refine LeO.bind ?_ (fun _ => ?_))
      | exact ih0 _ _ _ _ _
      | exact LeO.none _
      | refine LeO.ite ?_ ?_
      | refine LeO.bind ?_ (fun _ => ?_)
theorem mask_Mask_holds.mono : ∀ a0 a1 a2 a3 k, LeO (mask_Mask_holds.f k a0 a1 a2 a3) (mask_Mask_holds.f (k + 1) a0 a1 a2 a3) := by
  intro a0 a1 a2 a3 k
  have ih0 := mask_Mask_holds.mono_l k
  unfold mask_Mask_holds.f
  repeat' first
      | (with_reducible exact ih0 _ _ _ _ _)
      | (with_reducible exact LeO.refl _)
      | (with_reducible exact LeO.none _)
      | (with_reducible refine LeO.ite ?_ ?_)
      | (with_reducible refine LeO.bind ?_ (fun _ => ?_))
      | exact ih0 _ _ _ _ _
      | exact LeO.none _
      | refine LeO.ite ?_ ?_
      | refine LeO.bind ?_ (fun _ => ?_)
set_option maxHeartbeats 8000000 in
set_option maxRecDepth 100000 in
theorem mask_Mask_holds.calls (k : Nat) (a0_0 : Int) (A0_1 : Option Addr) (c0_1 : Nat) (l0_1 : List (S107)) (a0_2 : Int) (a1 : Int) (r : Bool) (w : World) (hr0_1 : Kd.C k107 w A0_1 l0_1.length l0_1) (hc0_1 : l0_1.length ≤ c0_1) (h : mask_Mask_holds.f k a0_0 l0_1 a0_2 a1 = some r) :
    Calls Try.prog 94 #[.agg #[.int .i64 a0_0, .slice A0_1 l0_1.length c0_1, .int .i64 a0_2], .int .i64 a1] w fun e w' => e = .returned (.bool r) ∧ Below w.heap.size w w' := by
  have hu28 := Try.underlying28
  have hu107 := Try.underlying107
  have HR0_1 := Aside0.mk hr0_1
  have HC0_1 := Aside0.mk hc0_1
  clear hr0_1 hc0_1
  have HB := Aside0.mk (Below.refl w.heap.size w)
  have H : (mask_Mask_holds.l0 k a1 a0_2 a0_0 l0_1 a0_2) = some r := h
  clear h
  have H' := Aside0.mk H
  clear H
  go_enter Try.func94, Try.ntmps94
  go_wp2_with (first | ((with_reducible refine gate_dst (N := 2) rfl ?_); refine box_event ?hg (N := 2) ?hd (cs := #[.int .i64 a0_0, .slice A0_1 l0_1.length c0_1, .int .i64 a0_2]) (t := 28) ?hr ?_; (case hd => rfl); (case hg => rfl); (case hr => first | (go_simp; done) | (go_simp; rfl)); intro gb263 hg w3 hbox hb; have n0_ := Aside0.mk (below_step (by repeat (first | (with_reducible first | exact HB.out | apply below_alloc | apply pw_below_drewN | apply below_drew1) | exact HB.out)) hb); have n1_ := Aside0.mk (hbox); have n2_ := Aside0.mk ((by rw [hg]; exact (below_size (by repeat (first | (with_reducible first | exact HB.out | apply below_alloc | apply pw_below_drewN | apply below_drew1) | exact HB.out))) : w.heap.size ≤ gb263)); have n3_ := Aside0.mk ((by rw [hg]; exact (below_size (by repeat (first | (with_reducible first | exact HB.out | apply below_alloc | apply pw_below_drewN | apply below_drew1) | exact HB.out))) : w.heap.size ≤ gb263)); clear HB; have HB := n0_; have BK263 := n1_; have GW263 := n2_; have GE263 := n3_; clear n0_ n1_ n2_ n3_; clear hb hbox hg; have hcz4_0 : w3.cell? ⟨gb263, 0, none⟩ = some (.int .i64 a0_0) := (blk_cell BK263.out 0).trans rfl; have hcz4_1 : w3.cell? ⟨gb263, 1, none⟩ = some (.slice A0_1 l0_1.length c0_1) := (blk_cell BK263.out 1).trans rfl; have hcz4_2 : w3.cell? ⟨gb263, 2, none⟩ = some (.int .i64 a0_2) := (blk_cell BK263.out 2).trans rfl; have hfz4_0 := blk_frozen BK263.out 0; have hfz4_1 := blk_frozen BK263.out 1; have hfz4_2 := blk_frozen BK263.out 2))
  go_loopg [5] k (fun kq v5 w' => ∃ (x5_1 : Int), v5 = .int .i64 x5_1 ∧ Aside0 (mask_Mask_holds.l0 kq a1 x5_1 a0_0 l0_1 a0_2 = some r) ∧ Aside0 (kq ≤ k) ∧ Aside0 (w'.heap[gb263]? = some (.cells #[.int .i64 a0_0, (.slice A0_1 l0_1.length c0_1), .int .i64 a0_2] 28 (0, 0))) ∧ Aside0 (Below w.heap.size w w'))
  case atStart => exact ⟨(a0_2), (by first | rfl | (simp; done) | (simp [*]; done)), H', ⟨Nat.le_refl _⟩, ⟨by (with_reducible repeat (first | refine blk_drewN ?_ _ | refine blk_drew ?_ | refine blk_alloc ?_ _)); exact BK263.out⟩, ⟨by repeat (first | (with_reducible first | exact HB.out | apply below_alloc | apply pw_below_drewN | apply below_drew1 | refine below_set ?_ GE263.out) | exact HB.out)⟩⟩
  case round =>
    clear H'
    try clear p2
    try clear hcz4_0
    try clear hcz4_1
    try clear hcz4_2
    try clear hfz4_0
    try clear hfz4_1
    try clear hfz4_2
    obtain ⟨x5_1, rfl, HA, HK1, BK263, HB⟩ := hrel
    cases gk with
    | zero => exact absurd HA.out (by simp [mask_Mask_holds.l0])
    | succ k1 =>
      have H := HA.out
      clear HA
      simp only [mask_Mask_holds.l0] at H
      by_cases c5 : x5_1 > 1
      · rw [if_pos c5] at H
        have c5b0 : decide (1 < x5_1) = true := decide_eq_true c5
        clear c5
        obtain ⟨ji6, hji6⟩ : ∃ j_ : Int, (wrap64 (x5_1 - 2)) = j_ := ⟨_, rfl⟩
        replace H : (if 0 ≤ (ji6) then (if (ji6) < (l0_1.length : Int) then (if 0 ≤ (wrap64 ((wrap64 (a0_0 - 1)) - ((rd_T107 l0_1 (ji6)).f0))) then (if (Go.bits .and .i64 (shr .i64 a1 (wrap64 ((wrap64 (a0_0 - 1)) - ((rd_T107 l0_1 (ji6)).f0)))) 1) = 1 then (mask_Mask_holds.l0 k1 a1 ((rd_T107 l0_1 (ji6)).f2) a0_0 l0_1 a0_2) else (mask_Mask_holds.l0 k1 a1 ((rd_T107 l0_1 (ji6)).f1) a0_0 l0_1 a0_2)) else (none)) else (none)) else (none)) = some r := by first | (rw [hji6] at H; exact H) | (simp only [hji6] at H ⊢; exact H)
        have hji6w : (IntKind.i64.wrap (x5_1 - 2)) = ji6 := (i64_w _).trans hji6
        by_cases c7 : 0 ≤ (ji6)
        · rw [if_pos c7] at H
          have c7b0 : decide (0 ≤ (ji6)) = true := decide_eq_true c7
          clear c7
          by_cases c8 : (ji6) < (l0_1.length : Int)
          · rw [if_pos c8] at H
            have c8b0 : decide ((ji6) < (l0_1.length : Int)) = true := decide_eq_true c8
            clear c8
            obtain ⟨ji9, hji9⟩ : ∃ j_ : Int, (wrap64 ((wrap64 (a0_0 - 1)) - ((rd_T107 l0_1 (ji6)).f0))) = j_ := ⟨_, rfl⟩
            replace H : (if 0 ≤ (ji9) then (if (Go.bits .and .i64 (shr .i64 a1 (ji9)) 1) = 1 then (mask_Mask_holds.l0 k1 a1 ((rd_T107 l0_1 (ji6)).f2) a0_0 l0_1 a0_2) else (mask_Mask_holds.l0 k1 a1 ((rd_T107 l0_1 (ji6)).f1) a0_0 l0_1 a0_2)) else (none)) = some r := by first | (rw [hji9] at H; exact H) | (simp only [hji9] at H ⊢; exact H)
            have hji9w : (IntKind.i64.wrap ((wrap64 (a0_0 - 1)) - ((rd_T107 l0_1 (ji6)).f0))) = ji9 := (i64_w _).trans hji9
            by_cases c10 : 0 ≤ (ji9)
            · rw [if_pos c10] at H
              have c10b0 := eq_true c10
              have c10b1 : decide (0 ≤ (ji9)) = true := decide_eq_true c10
              clear c10
              obtain ⟨ji11, hji11⟩ : ∃ j_ : Int, (shr .i64 a1 (ji9)) = j_ := ⟨_, rfl⟩
              replace H : (if (Go.bits .and .i64 (ji11) 1) = 1 then (mask_Mask_holds.l0 k1 a1 ((rd_T107 l0_1 (ji6)).f2) a0_0 l0_1 a0_2) else (mask_Mask_holds.l0 k1 a1 ((rd_T107 l0_1 (ji6)).f1) a0_0 l0_1 a0_2)) = some r := by first | (rw [hji11] at H; exact H) | (simp only [hji11] at H ⊢; exact H)
              have hji11_ : (a1 / 2 ^ min (ji9).toNat 64) = ji11 := hji11
              have hji11z : (ji9) ≤ 64 → (a1 / 2 ^ (ji9).toNat) = ji11 := shr_small hji11
              by_cases c12 : (Go.bits .and .i64 (ji11) 1) = 1
              · rw [if_pos c12] at H
                have c12b0 : ((Go.bits .and .i64 (ji11) 1) == 1) = true := beq_iff_eq.mpr c12
                have c12b1 : ((Go.bits .and .i64 (ji11) 1) != 1) = false := bne_eq_false_iff_eq.mpr c12
                clear c12
                have H' := Aside0.mk H
                clear H
                have hcz13_0 : wr.cell? ⟨gb263, 0, none⟩ = some (.int .i64 a0_0) := (blk_cell BK263.out 0).trans rfl
                have hcz13_1 : wr.cell? ⟨gb263, 1, none⟩ = some (.slice A0_1 l0_1.length c0_1) := (blk_cell BK263.out 1).trans rfl
                have hcz13_2 : wr.cell? ⟨gb263, 2, none⟩ = some (.int .i64 a0_2) := (blk_cell BK263.out 2).trans rfl
                have hfz13_0 := blk_frozen BK263.out 0
                have hfz13_1 := blk_frozen BK263.out 1
                have hfz13_2 := blk_frozen BK263.out 2
                have p264 : 0 ≤ ((ji6) : Int) := of_decide_eq_true (by first | (with_reducible assumption) | assumption)
                have q264 : (ji6) < (l0_1.length : Int) := of_decide_eq_true (by first | (with_reducible assumption) | assumption)
                obtain ⟨ad264, e264, hx264_0, hx264_1, hx264_2⟩ := at_T107 HR0_1.out (ji6) p264 q264
                cases e264
                replace hx264_0 := (HB.out.cell (World.block_lt_of_cell? w _ hx264_0)).trans hx264_0
                replace hx264_1 := (HB.out.cell (World.block_lt_of_cell? w _ hx264_1)).trans hx264_1
                replace hx264_2 := (HB.out.cell (World.block_lt_of_cell? w _ hx264_2)).trans hx264_2
                replace p264 := eq_true p264
                replace q264 := eq_true q264
                go_wp2_with (first | ((with_reducible refine gate_dst (N := 6) rfl ?_); refine box_event ?hg (N := 6) ?hd (cs := #[.int .i64 0, .int .i64 0, .int .i64 0]) (t := 107) ?hr ?_; (case hd => rfl); (case hg => rfl); (case hr => first | (go_simp; done) | (go_simp; rfl)); intro gb265 hg w14 hbox hb; have n0_ := Aside0.mk (blk_below (g := gb263) (o := .cells #[.int .i64 a0_0, .slice (some ad264) l0_1.length c0_1, .int .i64 a0_2] 28 (0, 0)) (by (with_reducible repeat (first | refine blk_drewN ?_ _ | refine blk_drew ?_ | refine blk_alloc ?_ _)); exact BK263.out) hb); have n1_ := Aside0.mk (below_step (by repeat (first | (with_reducible first | exact HB.out | apply below_alloc | apply pw_below_drewN | apply below_drew1 | refine below_set ?_ GE263.out) | exact HB.out)) hb); have n2_ := Aside0.mk (hbox); have n3_ := Aside0.mk ((by rw [hg]; exact (below_size (by repeat (first | (with_reducible first | exact HB.out | apply below_alloc | apply pw_below_drewN | apply below_drew1 | refine below_set ?_ GE263.out) | exact HB.out))) : w.heap.size ≤ gb265)); have n4_ := Aside0.mk ((by rw [hg]; exact (below_size (by repeat (first | (with_reducible first | exact HB.out | apply below_alloc | apply pw_below_drewN | apply below_drew1 | refine below_set ?_ GE263.out) | exact HB.out))) : w.heap.size ≤ gb265)); have n5_ := Aside0.mk ((by rw [hg]; exact Nat.ne_of_lt (blk_lt (g := gb263) (o := .cells #[.int .i64 a0_0, .slice (some ad264) l0_1.length c0_1, .int .i64 a0_2] 28 (0, 0)) (by (with_reducible repeat (first | refine blk_drewN ?_ _ | refine blk_drew ?_ | refine blk_alloc ?_ _)); exact BK263.out)) : gb263 ≠ gb265)); have n6_ := Aside0.mk ((by rw [hg]; exact Nat.ne_of_gt (blk_lt (g := gb263) (o := .cells #[.int .i64 a0_0, .slice (some ad264) l0_1.length c0_1, .int .i64 a0_2] 28 (0, 0)) (by (with_reducible repeat (first | refine blk_drewN ?_ _ | refine blk_drew ?_ | refine blk_alloc ?_ _)); exact BK263.out)) : gb265 ≠ gb263)); clear BK263; clear HB; have BK263 := n0_; have HB := n1_; have BK265 := n2_; have GW265 := n3_; have GE265 := n4_; have NB263_265 := n5_; have NB265_263 := n6_; clear n0_ n1_ n2_ n3_ n4_ n5_ n6_; clear hb hbox hg; have hnb15 := NB265_263.out; have hnc15 := NB263_265.out; have hcz16_0 : w14.cell? ⟨gb265, 0, none⟩ = some (.int .i64 0) := (blk_cell BK265.out 0).trans rfl; have hcz16_1 : w14.cell? ⟨gb265, 1, none⟩ = some (.int .i64 0) := (blk_cell BK265.out 1).trans rfl; have hcz16_2 : w14.cell? ⟨gb265, 2, none⟩ = some (.int .i64 0) := (blk_cell BK265.out 2).trans rfl; have hfz16_0 := blk_frozen BK265.out 0; have hfz16_1 := blk_frozen BK265.out 1; have hfz16_2 := blk_frozen BK265.out 2; have hcz17_0 : w14.cell? ⟨gb263, 0, none⟩ = some (.int .i64 a0_0) := (blk_cell BK263.out 0).trans rfl; have hcz17_1 : w14.cell? ⟨gb263, 1, none⟩ = some (.slice (some ad264) l0_1.length c0_1) := (blk_cell BK263.out 1).trans rfl; have hcz17_2 : w14.cell? ⟨gb263, 2, none⟩ = some (.int .i64 a0_2) := (blk_cell BK263.out 2).trans rfl; have hfz17_0 := blk_frozen BK263.out 0; have hfz17_1 := blk_frozen BK263.out 1; have hfz17_2 := blk_frozen BK263.out 2))
                go_roundg k1
                case measure => have := HK1.out; omega
                case rel => exact ⟨((rd_T107 l0_1 (ji6)).f2), (by first | rfl | (simp; done) | (simp only [← hji6] <;> (first | rfl | simp)) | (simp [*]; done)), H', ⟨by have := HK1.out; omega⟩, ⟨by (with_reducible repeat (first | refine blk_drewN ?_ _ | refine blk_drew ?_ | refine blk_alloc ?_ _)); refine blk_far ?_ NB263_265.out _; (with_reducible repeat (first | refine blk_drewN ?_ _ | refine blk_drew ?_ | refine blk_alloc ?_ _)); refine blk_far ?_ NB263_265.out _; (with_reducible repeat (first | refine blk_drewN ?_ _ | refine blk_drew ?_ | refine blk_alloc ?_ _)); refine blk_far ?_ NB263_265.out _; (with_reducible repeat (first | refine blk_drewN ?_ _ | refine blk_drew ?_ | refine blk_alloc ?_ _)); exact BK263.out⟩, ⟨by repeat (first | (with_reducible first | exact HB.out | apply below_alloc | apply pw_below_drewN | apply below_drew1 | refine below_set ?_ GE263.out | refine below_set ?_ GE265.out) | exact HB.out)⟩⟩
              · rw [if_neg c12] at H
                have c12b0 : ((Go.bits .and .i64 (ji11) 1) == 1) = false := beq_eq_false_iff_ne.mpr c12
                have c12b1 : ((Go.bits .and .i64 (ji11) 1) != 1) = true := bne_iff_ne.mpr c12
                have H' := Aside0.mk H
                clear H
                have hcz18_0 : wr.cell? ⟨gb263, 0, none⟩ = some (.int .i64 a0_0) := (blk_cell BK263.out 0).trans rfl
                have hcz18_1 : wr.cell? ⟨gb263, 1, none⟩ = some (.slice A0_1 l0_1.length c0_1) := (blk_cell BK263.out 1).trans rfl
                have hcz18_2 : wr.cell? ⟨gb263, 2, none⟩ = some (.int .i64 a0_2) := (blk_cell BK263.out 2).trans rfl
                have hfz18_0 := blk_frozen BK263.out 0
                have hfz18_1 := blk_frozen BK263.out 1
                have hfz18_2 := blk_frozen BK263.out 2
                have p264 : 0 ≤ ((ji6) : Int) := of_decide_eq_true (by first | (with_reducible assumption) | assumption)
                have q264 : (ji6) < (l0_1.length : Int) := of_decide_eq_true (by first | (with_reducible assumption) | assumption)
                obtain ⟨ad264, e264, hx264_0, hx264_1, hx264_2⟩ := at_T107 HR0_1.out (ji6) p264 q264
                cases e264
                replace hx264_0 := (HB.out.cell (World.block_lt_of_cell? w _ hx264_0)).trans hx264_0
                replace hx264_1 := (HB.out.cell (World.block_lt_of_cell? w _ hx264_1)).trans hx264_1
                replace hx264_2 := (HB.out.cell (World.block_lt_of_cell? w _ hx264_2)).trans hx264_2
                replace p264 := eq_true p264
                replace q264 := eq_true q264
                go_wp2_with (first | ((with_reducible refine gate_dst (N := 6) rfl ?_); refine box_event ?hg (N := 6) ?hd (cs := #[.int .i64 0, .int .i64 0, .int .i64 0]) (t := 107) ?hr ?_; (case hd => rfl); (case hg => rfl); (case hr => first | (go_simp; done) | (go_simp; rfl)); intro gb265 hg w19 hbox hb; have n0_ := Aside0.mk (blk_below (g := gb263) (o := .cells #[.int .i64 a0_0, .slice (some ad264) l0_1.length c0_1, .int .i64 a0_2] 28 (0, 0)) (by (with_reducible repeat (first | refine blk_drewN ?_ _ | refine blk_drew ?_ | refine blk_alloc ?_ _)); exact BK263.out) hb); have n1_ := Aside0.mk (below_step (by repeat (first | (with_reducible first | exact HB.out | apply below_alloc | apply pw_below_drewN | apply below_drew1 | refine below_set ?_ GE263.out) | exact HB.out)) hb); have n2_ := Aside0.mk (hbox); have n3_ := Aside0.mk ((by rw [hg]; exact (below_size (by repeat (first | (with_reducible first | exact HB.out | apply below_alloc | apply pw_below_drewN | apply below_drew1 | refine below_set ?_ GE263.out) | exact HB.out))) : w.heap.size ≤ gb265)); have n4_ := Aside0.mk ((by rw [hg]; exact (below_size (by repeat (first | (with_reducible first | exact HB.out | apply below_alloc | apply pw_below_drewN | apply below_drew1 | refine below_set ?_ GE263.out) | exact HB.out))) : w.heap.size ≤ gb265)); have n5_ := Aside0.mk ((by rw [hg]; exact Nat.ne_of_lt (blk_lt (g := gb263) (o := .cells #[.int .i64 a0_0, .slice (some ad264) l0_1.length c0_1, .int .i64 a0_2] 28 (0, 0)) (by (with_reducible repeat (first | refine blk_drewN ?_ _ | refine blk_drew ?_ | refine blk_alloc ?_ _)); exact BK263.out)) : gb263 ≠ gb265)); have n6_ := Aside0.mk ((by rw [hg]; exact Nat.ne_of_gt (blk_lt (g := gb263) (o := .cells #[.int .i64 a0_0, .slice (some ad264) l0_1.length c0_1, .int .i64 a0_2] 28 (0, 0)) (by (with_reducible repeat (first | refine blk_drewN ?_ _ | refine blk_drew ?_ | refine blk_alloc ?_ _)); exact BK263.out)) : gb265 ≠ gb263)); clear BK263; clear HB; have BK263 := n0_; have HB := n1_; have BK265 := n2_; have GW265 := n3_; have GE265 := n4_; have NB263_265 := n5_; have NB265_263 := n6_; clear n0_ n1_ n2_ n3_ n4_ n5_ n6_; clear hb hbox hg; have hnb20 := NB265_263.out; have hnc20 := NB263_265.out; have hcz21_0 : w19.cell? ⟨gb265, 0, none⟩ = some (.int .i64 0) := (blk_cell BK265.out 0).trans rfl; have hcz21_1 : w19.cell? ⟨gb265, 1, none⟩ = some (.int .i64 0) := (blk_cell BK265.out 1).trans rfl; have hcz21_2 : w19.cell? ⟨gb265, 2, none⟩ = some (.int .i64 0) := (blk_cell BK265.out 2).trans rfl; have hfz21_0 := blk_frozen BK265.out 0; have hfz21_1 := blk_frozen BK265.out 1; have hfz21_2 := blk_frozen BK265.out 2; have hcz22_0 : w19.cell? ⟨gb263, 0, none⟩ = some (.int .i64 a0_0) := (blk_cell BK263.out 0).trans rfl; have hcz22_1 : w19.cell? ⟨gb263, 1, none⟩ = some (.slice (some ad264) l0_1.length c0_1) := (blk_cell BK263.out 1).trans rfl; have hcz22_2 : w19.cell? ⟨gb263, 2, none⟩ = some (.int .i64 a0_2) := (blk_cell BK263.out 2).trans rfl; have hfz22_0 := blk_frozen BK263.out 0; have hfz22_1 := blk_frozen BK263.out 1; have hfz22_2 := blk_frozen BK263.out 2))
                go_roundg k1
                case measure => have := HK1.out; omega
                case rel => exact ⟨((rd_T107 l0_1 (ji6)).f1), (by first | rfl | (simp; done) | (simp only [← hji6] <;> (first | rfl | simp)) | (simp [*]; done)), H', ⟨by have := HK1.out; omega⟩, ⟨by (with_reducible repeat (first | refine blk_drewN ?_ _ | refine blk_drew ?_ | refine blk_alloc ?_ _)); refine blk_far ?_ NB263_265.out _; (with_reducible repeat (first | refine blk_drewN ?_ _ | refine blk_drew ?_ | refine blk_alloc ?_ _)); refine blk_far ?_ NB263_265.out _; (with_reducible repeat (first | refine blk_drewN ?_ _ | refine blk_drew ?_ | refine blk_alloc ?_ _)); refine blk_far ?_ NB263_265.out _; (with_reducible repeat (first | refine blk_drewN ?_ _ | refine blk_drew ?_ | refine blk_alloc ?_ _)); exact BK263.out⟩, ⟨by repeat (first | (with_reducible first | exact HB.out | apply below_alloc | apply pw_below_drewN | apply below_drew1 | refine below_set ?_ GE263.out | refine below_set ?_ GE265.out) | exact HB.out)⟩⟩
            · rw [if_neg c10] at H
              exact absurd H (by simp)
          · rw [if_neg c8] at H
            exact absurd H (by simp)
        · rw [if_neg c7] at H
          exact absurd H (by simp)
      · rw [if_neg c5] at H
        have c5b0 : decide (1 < x5_1) = false := decide_eq_false c5
        clear c5
        obtain rfl := Option.some.inj H
        go_wp2
        go_ret
        exact ⟨by first | rfl | (simp [errW_none, errW_some] <;> rfl) | (simp [*, errW_none, errW_some] <;> rfl), by repeat (first | (with_reducible first | exact HB.out | apply below_alloc | apply pw_below_drewN | apply below_drew1 | refine below_set ?_ GE263.out) | exact HB.out)⟩
end Go.Proofs.Ytlplphgoldkoeaa.X
end

section
set_option linter.unusedVariables false
set_option linter.unusedSimpArgs false
namespace Go.Proofs.Ytlplphgoldkoeaa.HTab
open Go.RowKit Go.Proofs.YtlplphgoldkoeaaW.PrintWords Go.Proofs.YtlplphgoldkoeaaW.PrintLast Go.Proofs.YtlplphgoldkoeaaW.PrintMore Go.Proofs.Ytlplphgoldkoeaa.HMap Go.Proofs.Ytlplphgoldkoeaa.X
set_option linter.unusedVariables false
set_option linter.unusedSimpArgs false
structure WO (T : TB) : Prop where
  vars : 0 ≤ T.vars
  ok : ∀ p : Int, 2 ≤ p → p < T.ns.length → 0 ≤ (getN T p).f0 ∧ (getN T p).f0 < T.vars ∧ 0 ≤ (getN T p).f1 ∧ (getN T p).f1 < p ∧ 0 ≤ (getN T p).f2 ∧ (getN T p).f2 < p ∧
    (getN T p).f0 < asksP T (getN T p).f1 ∧ (getN T p).f0 < asksP T (getN T p).f2
theorem WF.wo {T : TB} (h : WF T) : WO T := ⟨h.vars, fun p h2 hp => by
  have := h.ok p h2 hp
  exact ⟨this.1, this.2.1, this.2.2.2.1, this.2.2.2.2.1, this.2.2.2.2.2.1, this.2.2.2.2.2.2.1, this.2.2.2.2.2.2.2.1, this.2.2.2.2.2.2.2.2⟩⟩
theorem WO.leaf {T : TB} (h : WO T) {p : Int} (hp : Pl T p) (ha : T.vars ≤ asksP T p) : p < 2 := by
  apply Classical.byContradiction
  intro h2
  rw [asks_ge h2] at ha
  have := (h.ok p (by omega) hp.2).2.1
  omega
def ofR (n : S106) : S107 := ⟨n.f0, n.f1, n.f2⟩
theorem toR_ofR (l : List S106) : (l.map ofR).map toR = l := by
  rw [List.map_map]; exact (List.map_congr_left (fun x _ => by cases x; rfl)).trans (List.map_id _)
theorem ofR_toR (l : List S107) : (l.map toR).map ofR = l := by
  rw [List.map_map]; exact (List.map_congr_left (fun x _ => by cases x; rfl)).trans (List.map_id _)
theorem rdR_get (v : Int) (l : List S106) (p : Int) (h2 : 2 ≤ p) (hp : p < l.length + 2) : rd_T106 l (p - 2) = toR (getN (TM v (l.map ofR)) p) := by
  rw [TM_get _ _ _ h2]
  have hlt : (p - 2).toNat < l.length := by omega
  simp only [rd_T106]
  rw [List.getD_eq_getElem?_getD, List.getD_eq_getElem?_getD, List.getElem?_map, List.getElem?_eq_getElem hlt]
  rfl
theorem rdN_get (v : Int) (l : List S107) (p : Int) (h2 : 2 ≤ p) (hp : p < l.length + 2) : rd_T107 l (p - 2) = getN (TM v l) p := by
  rw [TM_get _ _ _ h2]; rfl
theorem bit_f {v P i : Int} (h0 : 0 ≤ P) (h1 : P < 2 ^ 63) (j : Nat) (hj : v - 1 - i = j) (hj2 : j ≤ 60) (hv : v ≤ 100) (hi : 0 ≤ i) : cantingref02_Bit.f v P i = some (decide (P / 2 ^ j % 2 = 1)) := by
  unfold cantingref02_Bit.f
  have e1 : wrap64 (wrap64 (v - 1) - i) = j := by unfold wrap64; omega
  rw [e1, if_pos (by omega), bit_eq h0 h1 j (by omega)]
  congr 1
theorem den_get {T : TB} {k : Nat} {p : Int} {P : Nat} (ha : asksP T p = T.vars - ((k : Int) + 1)) :
    (den T (k + 1) p).getD (P % 2 ^ (k + 1)) false = (den T k (if P / 2 ^ k % 2 = 1 then (getN T p).f2 else (getN T p).f1)).getD (P % 2 ^ k) false := by
  rw [den_succ, side_eq ha, side_eq ha]
  simp only [Bool.false_eq_true, if_false, if_true]
  have hk : P % 2 ^ k < 2 ^ k := Nat.mod_lt _ (Nat.two_pow_pos k)
  by_cases h : P / 2 ^ k % 2 = 1
  · rw [if_pos h, bit_hi h, getD_right (by rw [den_length]; omega), den_length]
    congr 1; omega
  · rw [if_neg h, bit_lo (by omega), getD_left (by rw [den_length]; omega)]
theorem den_get_ne {T : TB} {k : Nat} {p : Int} {P : Nat} (ha : asksP T p ≠ T.vars - ((k : Int) + 1)) :
    (den T (k + 1) p).getD (P % 2 ^ (k + 1)) false = (den T k p).getD (P % 2 ^ k) false := by
  rw [den_succ, side_ne ha, side_ne ha]
  have hk : P % 2 ^ k < 2 ^ k := Nat.mod_lt _ (Nat.two_pow_pos k)
  by_cases h : P / 2 ^ k % 2 = 1
  · rw [bit_hi h, getD_right (by rw [den_length]; omega), den_length]
    congr 1; omega
  · rw [bit_lo (by omega), getD_left (by rw [den_length]; omega)]
theorem value_l0 (v : Int) (l : List S106) (r : Int) (hv : v ≤ 12) (hl : l.length < 1000000000) (hw : WO (TM v (l.map ofR))) (P : Nat) (hP : (P : Int) < 2 ^ 63) : ∀ (k fu : Nat) (p : Int), (k : Int) ≤ v → Pl (TM v (l.map ofR)) p → v - k ≤ asksP (TM v (l.map ofR)) p → k < fu →
    cantingref02_value.l0 fu P p v l r = some ((den (TM v (l.map ofR)) k p).getD (P % 2 ^ k) false)
  | 0, fu, p, hk, hp, ha, hf => by
    obtain ⟨fu, rfl⟩ : ∃ m, fu = m + 1 := ⟨fu - 1, by omega⟩
    have hvv := TM_vars v (l.map ofR)
    have h2 := hw.leaf hp (by omega)
    simp only [cantingref02_value.l0, den]
    rw [if_neg (by omega)]
    rw [Nat.pow_zero, Nat.mod_one]
    by_cases h : p = 1 <;> simp [h]
  | k + 1, fu, p, hk, hp, ha, hf => by
    have hvv := TM_vars v (l.map ofR)
    by_cases hav : asksP (TM v (l.map ofR)) p = v - ((k : Int) + 1)
    · obtain ⟨fu, rfl⟩ : ∃ m, fu = m + 1 := ⟨fu - 1, by omega⟩
      have h2 : ¬ p < 2 := fun h2 => by rw [asks_lt h2, hvv] at hav; omega
      have okp := hw.ok p (by omega) hp.2
      have hpl := (TM_pl _ _ _).1 hp
      rw [List.length_map] at hpl
      have hap := hav
      rw [asks_ge h2] at hap
      have e2 : wrap64 (p - 2) = p - 2 := by unfold wrap64; omega
      simp only [cantingref02_value.l0]
      rw [e2, if_pos (by omega), if_pos (by omega), if_pos (by omega), rdR_get v l p (by omega) (by omega)]
      have hb := bit_f (v := v) (P := P) (i := (toR (getN (TM v (l.map ofR)) p)).f0) (by omega) hP k (by simp only [toR]; omega) (by omega) (by omega) okp.1
      rw [hb]
      simp only [Option.bind_some]
      rw [den_get (by rw [hvv]; exact hav)]
      have hbit : ((P : Int) / 2 ^ k % 2 = 1) ↔ (P / 2 ^ k % 2 = 1) := by
        rw [← pow_cast]; omega
      have hp2 := hp.2
      by_cases hb1 : P / 2 ^ k % 2 = 1
      · rw [if_pos (by simpa using hbit.2 hb1), if_pos hb1]
        exact value_l0 v l r hv hl hw P hP k fu (getN (TM v (l.map ofR)) p).f2 (by omega) ⟨okp.2.2.2.2.1, by omega⟩ (by omega) (by omega)
      · rw [if_neg (by simpa using fun h => hb1 (hbit.1 h)), if_neg hb1]
        exact value_l0 v l r hv hl hw P hP k fu (getN (TM v (l.map ofR)) p).f1 (by omega) ⟨okp.2.2.1, by omega⟩ (by omega) (by omega)
    · rw [den_get_ne (by rw [hvv]; exact hav)]
      exact value_l0 v l r hv hl hw P hP k fu p (by omega) hp (by omega) (by omega)
theorem WO.asks_nonneg {T : TB} (h : WO T) {p : Int} (hp : Pl T p) : 0 ≤ asksP T p := by
  by_cases h2 : p < 2
  · rw [asks_lt h2]; exact h.vars
  · rw [asks_ge h2]; exact (h.ok p (by omega) hp.2).1
theorem value_f (v : Int) (l : List S106) (r : Int) (hv : v ≤ 12) (hl : l.length < 1000000000) (hw : WO (TM v (l.map ofR))) (hp : Pl (TM v (l.map ofR)) r) (P : Nat) (hP : P < 2 ^ v.toNat) (fu : Nat) (hf : 13 ≤ fu) :
    cantingref02_value.f fu v l r P = some ((tab v (l.map ofR) r).getD P false) := by
  have h0 := hw.vars
  rw [TM_vars] at h0
  have hb := p12 (k := v.toNat) (by omega)
  unfold cantingref02_value.f
  rw [value_l0 v l r hv hl hw P (by omega) v.toNat fu r (by omega) hp (by have := hw.asks_nonneg hp; omega) (by omega), Nat.mod_eq_of_lt hP]
  rfl
theorem fill_set (t : List Bool) (acc : List Bool) (i : Nat) (hi : i < t.length) (hl : acc.length = t.length) (ha : acc.take i = t.take i) : (acc.set i (t.getD i false)).take (i + 1) = t.take (i + 1) := by
  rw [List.take_set, List.take_succ_eq_append_getElem (by omega), ha, List.take_succ_eq_append_getElem hi]
  rw [List.set_append_right _ _ (by simp; omega)]
  congr 1
  simp [show i - min i t.length = 0 by omega, List.getElem?_eq_getElem hi]
theorem table_l0 (v : Int) (l : List S106) (r : Int) (hv : v ≤ 12) (hl : l.length < 1000000000) (hw : WO (TM v (l.map ofR))) (hp : Pl (TM v (l.map ofR)) r) : ∀ (d i fu : Nat) (acc : List Bool), i + d = 2 ^ v.toNat → d + 14 ≤ fu → acc.length = 2 ^ v.toNat → acc.take i = (tab v (l.map ofR) r).take i →
    cantingref02_table.l0 fu acc (2 ^ v.toNat : Nat) i v l r = some (tab v (l.map ofR) r)
  | 0, i, fu, acc, hi, hf, hal, ha => by
    obtain ⟨fu, rfl⟩ : ∃ m, fu = m + 1 := ⟨fu - 1, by omega⟩
    simp only [cantingref02_table.l0]
    rw [if_neg (by omega)]
    rw [List.take_of_length_le (by omega), List.take_of_length_le (by rw [tab_length]; omega)] at ha
    rw [ha]
  | d + 1, i, fu, acc, hi, hf, hal, ha => by
    obtain ⟨fu, rfl⟩ : ∃ m, fu = m + 1 := ⟨fu - 1, by omega⟩
    have h0 := hw.vars
    rw [TM_vars] at h0
    have hb := p12 (k := v.toNat) (by omega)
    simp only [cantingref02_table.l0]
    rw [if_pos (by omega), value_f v l r hv hl hw hp i (by omega) fu (by omega)]
    simp only [Option.bind_some]
    rw [if_pos (by omega), if_pos (by omega), wrap_add1 (by omega) (by omega), Int.toNat_natCast]
    exact table_l0 v l r hv hl hw hp d (i + 1) fu _ (by omega) (by omega) (by simp [hal]) (fill_set _ _ _ (by rw [tab_length]; omega) (by rw [tab_length]; exact hal) ha)
theorem table_f (v : Int) (l : List S106) (r : Int) (hv : v ≤ 12) (hl : l.length < 1000000000) (hw : WO (TM v (l.map ofR))) (hp : Pl (TM v (l.map ofR)) r) (fu : Nat) (hf : 5000 ≤ fu) :
    cantingref02_table.f fu v l r = some (tab v (l.map ofR) r) := by
  have h0 := hw.vars
  rw [TM_vars] at h0
  have hb := p12 (k := v.toNat) (by omega)
  have hc := pow_cast v.toNat
  unfold cantingref02_table.f
  rw [shl1 h0 hv, ← hc, if_pos (by omega), if_pos (by omega), if_pos (by omega), Int.toNat_natCast]
  simp only [Option.bind_some, List.length_replicate]
  exact table_l0 v l r hv hl hw hp (2 ^ v.toNat) 0 fu _ (by omega) (by omega) (by simp) (by simp)
end Go.Proofs.Ytlplphgoldkoeaa.HTab
end

section
set_option linter.unusedVariables false
set_option linter.unusedSimpArgs false
namespace Go.Proofs.Ytlplphgoldkoeaa.HTab
open Go.RowKit Go.Proofs.YtlplphgoldkoeaaW.PrintWords Go.Proofs.YtlplphgoldkoeaaW.PrintLast Go.Proofs.YtlplphgoldkoeaaW.PrintMore Go.Proofs.Ytlplphgoldkoeaa.HMap Go.Proofs.Ytlplphgoldkoeaa.X
set_option linter.unusedVariables false
set_option linter.unusedSimpArgs false
instance : DecidableEq S106 := fun a b => if h : a.f0 = b.f0 ∧ a.f1 = b.f1 ∧ a.f2 = b.f2 then .isTrue (by cases a; cases b; simp_all) else .isFalse (fun e => h (by subst e; simp))
def allFrom (g : Nat → Bool) (n i : Nat) : Bool := (List.range (n - i)).all fun j => g (i + j)
theorem allFrom_end (g : Nat → Bool) (n i : Nat) (h : n ≤ i) : allFrom g n i = true := by
  unfold allFrom
  rw [show n - i = 0 by omega]
  rfl
theorem allFrom_next (g : Nat → Bool) (n i : Nat) (h : i < n) : allFrom g n i = (g i && allFrom g n (i + 1)) := by
  unfold allFrom
  rw [show n - i = (n - (i + 1)) + 1 by omega, List.range_succ_eq_map, List.all_cons, List.all_map]
  congr 1
  congr 1
  funext j
  simp only [Function.comp]
  rw [show i + (j + 1) = i + 1 + j by omega]
theorem allFrom_iff (g : Nat → Bool) (n : Nat) : allFrom g n 0 = true ↔ ∀ i, i < n → g i = true := by
  unfold allFrom
  rw [List.all_eq_true]
  simp
def behindR (l : List S106) (v p : Int) : Bool := !(decide (1 < p) && decide ((rd_T106 l (p - 2)).f0 ≤ v))
def nodeR (vars : Int) (l : List S106) (i : Nat) : Bool :=
  decide (0 ≤ (rd_T106 l i).f0) && decide ((rd_T106 l i).f0 < vars) && decide (0 ≤ (rd_T106 l i).f1) && decide ((rd_T106 l i).f1 < i + 2) && decide (0 ≤ (rd_T106 l i).f2) && decide ((rd_T106 l i).f2 < i + 2) &&
    behindR l (rd_T106 l i).f0 (rd_T106 l i).f1 && behindR l (rd_T106 l i).f0 (rd_T106 l i).f2
def behindV (l : List S107) (v p : Int) : Bool := !(decide (1 < p) && decide ((rd_T107 l (p - 2)).f0 ≤ v))
def nodeV (vars : Int) (l : List S107) (i : Nat) : Bool :=
  decide (0 ≤ (rd_T107 l i).f0) && decide ((rd_T107 l i).f0 < vars) && !((rd_T107 l i).f1 == (rd_T107 l i).f2) && decide (0 ≤ (rd_T107 l i).f1) && decide ((rd_T107 l i).f1 < i + 2) && decide (0 ≤ (rd_T107 l i).f2) && decide ((rd_T107 l i).f2 < i + 2) &&
    behindV l (rd_T107 l i).f0 (rd_T107 l i).f1 && behindV l (rd_T107 l i).f0 (rd_T107 l i).f2
theorem rdR_nat (v : Int) (l : List S106) (i : Nat) (h : i < l.length) : rd_T106 l i = toR (getN (TM v (l.map ofR)) ((i : Int) + 2)) := by
  have := rdR_get v l ((i : Int) + 2) (by omega) (by omega)
  rwa [show (i : Int) + 2 - 2 = i by omega] at this
theorem rdN_nat (v : Int) (l : List S107) (i : Nat) (h : i < l.length) : rd_T107 l i = getN (TM v l) ((i : Int) + 2) := by
  have := rdN_get v l ((i : Int) + 2) (by omega) (by omega)
  rwa [show (i : Int) + 2 - 2 = i by omega] at this
theorem behindR_iff (v : Int) (l : List S106) (a p : Int) (ha : a < v) (h1 : p < l.length + 2) : behindR l a p = true ↔ a < asksP (TM v (l.map ofR)) p := by
  unfold behindR
  by_cases h : p < 2
  · rw [asks_lt h, TM_vars]
    simp [show ¬ 1 < p by omega, ha]
  · rw [asks_ge h, rdR_get v l p (by omega) h1]
    simp only [show 1 < p by omega, decide_true, Bool.true_and, Bool.not_eq_true', decide_eq_false_iff_not]
    simp only [toR]; omega
theorem behindV_iff (v : Int) (l : List S107) (a p : Int) (ha : a < v) (h1 : p < l.length + 2) : behindV l a p = true ↔ a < asksP (TM v l) p := by
  unfold behindV
  by_cases h : p < 2
  · rw [asks_lt h, TM_vars]
    simp [show ¬ 1 < p by omega, ha]
  · rw [asks_ge h, rdN_get v l p (by omega) h1]
    simp [show 1 < p by omega]
theorem wo_R (v : Int) (l : List S106) (hv : 0 ≤ v) : allFrom (nodeR v l) l.length 0 = true ↔ WO (TM v (l.map ofR)) := by
  rw [allFrom_iff]
  have hlen : ((TM v (l.map ofR)).ns.length : Int) = l.length + 2 := by rw [TM_len, List.length_map]; omega
  constructor
  · intro h
    refine ⟨by rw [TM_vars]; exact hv, fun p h2 hp => ?_⟩
    have hi := h (p - 2).toNat (by omega)
    unfold nodeR at hi
    rw [rdR_nat v l (p - 2).toNat (by omega), show (((p - 2).toNat : Nat) : Int) + 2 = p by omega] at hi
    simp only [Bool.and_eq_true, decide_eq_true_eq] at hi
    simp only [toR] at hi
    obtain ⟨⟨⟨⟨⟨⟨⟨g1, g2⟩, g3⟩, g4⟩, g5⟩, g6⟩, g7⟩, g8⟩ := hi
    rw [TM_vars]
    exact ⟨g1, g2, g3, by omega, g5, by omega, (behindR_iff v l _ _ g2 (by omega)).1 g7, (behindR_iff v l _ _ g2 (by omega)).1 g8⟩
  · intro h i hi
    have := h.ok ((i : Int) + 2) (by omega) (by omega)
    rw [TM_vars] at this
    unfold nodeR
    rw [rdR_nat v l i hi]
    simp only [Bool.and_eq_true, decide_eq_true_eq]
    simp only [toR]
    exact ⟨⟨⟨⟨⟨⟨⟨this.1, this.2.1⟩, this.2.2.1⟩, by omega⟩, this.2.2.2.2.1⟩, by omega⟩, (behindR_iff v l _ _ this.2.1 (by omega)).2 this.2.2.2.2.2.2.1⟩, (behindR_iff v l _ _ this.2.1 (by omega)).2 this.2.2.2.2.2.2.2⟩
theorem wo_V (v : Int) (l : List S107) (hv : 0 ≤ v) (h : allFrom (nodeV v l) l.length 0 = true) : WO (TM v l) := by
  rw [allFrom_iff] at h
  have hlen : ((TM v l).ns.length : Int) = l.length + 2 := by rw [TM_len]; omega
  refine ⟨by rw [TM_vars]; exact hv, fun p h2 hp => ?_⟩
  have hi := h (p - 2).toNat (by omega)
  unfold nodeV at hi
  rw [rdN_nat v l (p - 2).toNat (by omega), show (((p - 2).toNat : Nat) : Int) + 2 = p by omega] at hi
  simp only [Bool.and_eq_true, decide_eq_true_eq] at hi
  obtain ⟨⟨⟨⟨⟨⟨⟨⟨g1, g2⟩, g0⟩, g3⟩, g4⟩, g5⟩, g6⟩, g7⟩, g8⟩ := hi
  rw [TM_vars]
  exact ⟨g1, g2, g3, by omega, g5, by omega, (behindV_iff v l _ _ g2 (by omega)).1 g7, (behindV_iff v l _ _ g2 (by omega)).1 g8⟩
theorem wf_V (v : Int) (l : List S107) (h : WF (TM v l)) : allFrom (nodeV v l) l.length 0 = true := by
  rw [allFrom_iff]
  have hlen : ((TM v l).ns.length : Int) = l.length + 2 := by rw [TM_len]; omega
  intro i hi
  have := h.ok ((i : Int) + 2) (by omega) (by omega)
  rw [TM_vars] at this
  unfold nodeV
  rw [rdN_nat v l i hi]
  simp only [Bool.and_eq_true, decide_eq_true_eq, Bool.not_eq_true', beq_eq_false_iff_ne]
  exact ⟨⟨⟨⟨⟨⟨⟨⟨this.1, this.2.1⟩, this.2.2.1⟩, this.2.2.2.1⟩, by omega⟩, this.2.2.2.2.2.1⟩, by omega⟩, (behindV_iff v l _ _ this.2.1 (by omega)).2 this.2.2.2.2.2.2.2.1⟩, (behindV_iff v l _ _ this.2.1 (by omega)).2 this.2.2.2.2.2.2.2.2⟩
theorem rd_left {a b : List Int} {p : Int} (h0 : 0 ≤ p) (h : p < a.length) : rd (a ++ b) p = rd a p := by
  unfold rd
  rw [List.getD_eq_getElem?_getD, List.getElem?_append_left (by omega), List.getD_eq_getElem?_getD]
theorem rd_snoc (a : List Int) (x : Int) : rd (a ++ [x]) a.length = x := by
  unfold rd
  rw [List.getD_eq_getElem?_getD, List.getElem?_append_right (by omega)]
  simp
def Placed (v : Int) (l : List S107) (T : TB) (at_ : List Int) : Prop :=
  ∀ p : Int, 0 ≤ p → p < at_.length → Pl T (rd at_ p) ∧ asksP (TM v l) p ≤ asksP T (rd at_ p) ∧ ∀ k : Nat, (k : Int) ≤ v → v - k ≤ asksP (TM v l) p → den T k (rd at_ p) = den (TM v l) k p
theorem loads_on (v : Int) (l : List S107) (hw : WO (TM v l)) : ∀ (rest : List S107) (m : Nat) (at_ : List Int) (T : TB), rest = l.drop m → m ≤ l.length → at_.length = m + 2 → WF T → T.vars = v → Placed v l T at_ →
    ∃ at' T', loadP rest at_ T = some (at', T') ∧ WF T' ∧ Ext T T' ∧ at'.length = l.length + 2 ∧ Placed v l T' at' ∧ T'.ns.length ≤ T.ns.length + rest.length
  | [], m, at_, T, hr, hm, hal, hT, hv, hP => by
    have : m = l.length := by
      have := congrArg List.length hr
      simp at this
      omega
    exact ⟨at_, T, rfl, hT, Ext.refl T, by omega, hP, by simp⟩
  | n :: rest, m, at_, T, hr, hm, hal, hT, hv, hP => by
    have hlt : m < l.length := by
      have := congrArg List.length hr
      simp at this
      omega
    have hn : getN (TM v l) ((m : Int) + 2) = n := by
      rw [TM_get _ _ _ (by omega), show ((m : Int) + 2 - 2).toNat = m by omega]
      rw [List.drop_eq_getElem_cons hlt] at hr
      injection hr with h1 _
      rw [List.getD_eq_getElem?_getD, List.getElem?_eq_getElem hlt, h1]
      rfl
    have hvv : (TM v l).vars = v := TM_vars v l
    have hlen : ((TM v l).ns.length : Int) = l.length + 2 := by rw [TM_len]; omega
    have ok := hw.ok ((m : Int) + 2) (by omega) (by omega)
    rw [hn] at ok
    obtain ⟨o1, o2, o3, o4, o5, o6, o7, o8⟩ := ok
    obtain ⟨P1, A1, D1⟩ := hP n.f1 o3 (by omega)
    obtain ⟨P2, A2, D2⟩ := hP n.f2 o5 (by omega)
    obtain ⟨w3, e3, p3, a3, d3⟩ := hT.node n.f0 (rd at_ n.f1) (rd at_ n.f2) o1 (by omega) P1 P2 (by omega) (by omega)
    have ham : asksP (TM v l) ((m : Int) + 2) = n.f0 := by rw [asks_ge (by omega), hn]
    have hlast : ((at_.length : Nat) : Int) = (m : Int) + 2 := by omega
    have hP3 : Placed v l (nodeP T ⟨n.f0, rd at_ n.f1, rd at_ n.f2⟩).2 (at_ ++ [(nodeP T ⟨n.f0, rd at_ n.f1, rd at_ n.f2⟩).1]) := by
      intro p h0 h1
      rw [List.length_append, List.length_singleton] at h1
      by_cases hp : p < at_.length
      · rw [rd_left h0 hp]
        obtain ⟨q1, q2, q3⟩ := hP p h0 hp
        refine ⟨e3.pl q1, by rw [e3.asks q1]; exact q2, fun k hk hka => ?_⟩
        rw [e3.den hT k _ (by omega) q1 (by omega)]
        exact q3 k hk hka
      · have hpe : p = at_.length := by omega
        rw [hpe, rd_snoc, hlast, ham]
        refine ⟨p3, a3, fun k hk hka => ?_⟩
        obtain ⟨j, hj⟩ : ∃ j : Nat, v - n.f0 = j + 1 := ⟨(v - n.f0 - 1).toNat, by omega⟩
        have base : den (nodeP T ⟨n.f0, rd at_ n.f1, rd at_ n.f2⟩).2 (j + 1) (nodeP T ⟨n.f0, rd at_ n.f1, rd at_ n.f2⟩).1 = den (TM v l) (j + 1) ((m : Int) + 2) := by
          rw [d3 j (by omega), D1 j (by omega) (by omega), D2 j (by omega) (by omega), den_succ, side_eq (by omega), side_eq (by omega), hn]
          rfl
        have up : ∀ d : Nat, ((j + 1 + d : Nat) : Int) ≤ v → den (nodeP T ⟨n.f0, rd at_ n.f1, rd at_ n.f2⟩).2 (j + 1 + d) (nodeP T ⟨n.f0, rd at_ n.f1, rd at_ n.f2⟩).1 = den (TM v l) (j + 1 + d) ((m : Int) + 2) := by
          intro d
          induction d with
          | zero => intro _; exact base
          | succ d ih =>
            intro hd
            show den _ (j + 1 + d + 1) _ = den (TM v l) (j + 1 + d + 1) _
            have he1 := e3.1
            rw [den_succ, den_succ, side_ne (by omega), side_ne (by omega), side_ne (by omega), side_ne (by omega), ih (by omega)]
        have := up (k - (j + 1)) (by omega)
        rwa [show j + 1 + (k - (j + 1)) = k by omega] at this
    obtain ⟨at', T', h1, h2, h3, h4, h5, h6⟩ := loads_on v l hw rest (m + 1) _ _ (by
      rw [List.drop_eq_getElem_cons hlt] at hr
      injection hr) (by omega) (by simp [hal]) w3 (e3.1.trans hv) hP3
    refine ⟨at', T', ?_, h2, e3.then_ h3, h4, h5, ?_⟩
    · unfold loadP
      rw [if_pos ⟨o3, by omega, o5, by omega⟩]
      exact h1
    · have hnl := nodeP_len T ⟨n.f0, rd at_ n.f1, rd at_ n.f2⟩
      simp only [List.length_cons]
      omega
theorem load_ok {T : TB} {v : Int} {l : List S107} (hT : WF T) (hv : T.vars = v) (hw : WO (TM v l)) :
    ∃ at' T', loadP l [0, 1] T = some (at', T') ∧ WF T' ∧ Ext T T' ∧ at'.length = l.length + 2 ∧ Placed v l T' at' ∧ T'.ns.length ≤ T.ns.length + l.length := by
  have hvv : (TM v l).vars = v := TM_vars v l
  have ht := hT.two
  refine loads_on v l hw l 0 [0, 1] T (by simp) (by omega) rfl hT hv ?_
  intro p h0 h1
  have h2 : p = 0 ∨ p = 1 := by
    have : (([0, 1] : List Int).length : Int) = 2 := rfl
    omega
  have hp : rd [0, 1] p = p := by rcases h2 with rfl | rfl <;> rfl
  rw [hp]
  refine ⟨⟨by omega, by omega⟩, by rw [asks_lt (by omega), asks_lt (by omega)]; omega, fun k hk _ => ?_⟩
  have leaf : ∀ (U : TB) (k : Nat), (k : Int) ≤ U.vars → den U k p = List.replicate (2 ^ k) (decide (p = 1)) := by
    intro U k
    induction k with
    | zero => intro _; rfl
    | succ k ih =>
      intro hk
      rw [den_succ, side_ne (by rw [asks_lt (by omega)]; omega), side_ne (by rw [asks_lt (by omega)]; omega), ih (by omega), List.replicate_append_replicate, Nat.pow_succ, Nat.mul_two]
  rw [leaf T k (by omega), leaf (TM v l) k (by omega)]
theorem VM.load {T : TB} {v : Int} {l : List S107} {r : Int} (h : VM v l r) (hT : WF T) (hv : T.vars = v) :
    ∃ at' T', loadP l [0, 1] T = some (at', T') ∧ WF T' ∧ Ext T T' ∧ (0 ≤ r ∧ r < at'.length) ∧ Pl T' (rd at' r) ∧ den T' v.toNat (rd at' r) = tab v l r ∧ T'.ns.length ≤ T.ns.length + l.length := by
  obtain ⟨at', T', h1, h2, h3, h4, h5, h6⟩ := load_ok hT hv h.wf.wo
  have hr := (TM_pl _ _ _).1 h.pl
  obtain ⟨q1, q2, q3⟩ := h5 r hr.1 (by omega)
  have := h.v0
  have := h.wf.asks_nonneg h.pl
  exact ⟨at', T', h1, h2, h3, ⟨hr.1, by omega⟩, q1, q3 v.toNat (by omega) (by omega), h6⟩
theorem VM.root {v : Int} {l : List S107} {r : Int} (h : VM v l r) : (l.length = 0 → r = 0 ∨ r = 1) ∧ (0 < l.length → r = l.length + 1) ∧ l.length ≤ 4095 := by
  obtain ⟨s', h1, h2, h3, h4⟩ := h.mask
  have hp := (TM_pl _ _ _).1 h.pl
  refine ⟨fun hl => by omega, fun hl => ?_, h3⟩
  rcases h4 with h4 | h4
  · rw [h4] at hl; simp at hl
  · exact h4
theorem VM.nodes {v : Int} {l : List S107} {r : Int} (h : VM v l r) : allFrom (nodeV v l) l.length 0 = true := wf_V v l h.wf
def vmB (v : Int) (l : List S107) (r : Int) : Bool :=
  decide (0 ≤ v) && decide (v ≤ 12) && decide (0 ≤ r) && decide (r < l.length + 2) && allFrom (nodeV v l) l.length 0 &&
    match loadP l [0, 1] (T0 v) with
    | none => false
    | some R => match maskP R.2 64 M0 (rd R.1 r) with
      | none => false
      | some q => decide (q.1 = r) && decide (q.2.out = l)
theorem back_core (v : Int) (l : List S107) (r : Int) (h0 : 0 ≤ v) (h12 : v ≤ 12) (hn : allFrom (nodeV v l) l.length 0 = true) (hr : 0 ≤ r ∧ r < l.length + 2) :
    ∃ R r' s', loadP l [0, 1] (T0 v) = some R ∧ R.1.length = l.length + 2 ∧ R.2.vars = v ∧ R.2.ns.length ≤ 2 + l.length ∧ maskP R.2 64 M0 (rd R.1 r) = some (r', s') ∧ s'.out.length ≤ 4095 ∧ (VM v l r ↔ r' = r ∧ s'.out = l) := by
  have hw := wo_V v l h0 hn
  obtain ⟨at', T', h1, h2, h3, h4, h5, h6⟩ := load_ok (v := v) (WF.t0 v h0) rfl hw
  have hv' : T'.vars = v := h3.1
  obtain ⟨q1, q2, q3⟩ := h5 r hr.1 (by omega)
  obtain ⟨r', s', g1, g2, g3, g4, g5⟩ := mask_VM h2 (by omega) _ q1
  rw [hv'] at g2 g3
  have hpl : Pl (TM v l) r := (TM_pl _ _ _).2 ⟨hr.1, by omega⟩
  have hden := q3 v.toNat (by omega) (by have := hw.asks_nonneg hpl; omega)
  refine ⟨(at', T'), r', s', h1, h4, hv', h6, g1, g4, fun hV => ?_, fun he => ?_⟩
  · obtain ⟨e1, e2⟩ := VM.same g2 hV (g3.trans hden)
    exact ⟨e2, e1⟩
  · obtain ⟨rfl, e2⟩ := he
    subst e2
    exact g2
theorem vmB_iff {v : Int} {l : List S107} {r : Int} : vmB v l r = true ↔ VM v l r := by
  constructor
  · intro h
    unfold vmB at h
    simp only [Bool.and_eq_true, decide_eq_true_eq] at h
    obtain ⟨⟨⟨⟨⟨h0, h12⟩, hr0⟩, hr1⟩, hn⟩, h⟩ := h
    obtain ⟨R, r', s', g1, g2, g3, g4, g5, g6, g7⟩ := back_core v l r h0 h12 hn ⟨hr0, hr1⟩
    rw [g1] at h
    simp only at h
    rw [g5] at h
    simp only [Bool.and_eq_true, decide_eq_true_eq] at h
    exact g7.2 h
  · intro h
    have hp := (TM_pl _ _ _).1 h.pl
    obtain ⟨R, r', s', g1, g2, g3, g4, g5, g6, g7⟩ := back_core v l r h.v0 h.v12 h.nodes hp
    unfold vmB
    simp only [Bool.and_eq_true, decide_eq_true_eq]
    refine ⟨⟨⟨⟨⟨h.v0, h.v12⟩, hp.1⟩, hp.2⟩, h.nodes⟩, ?_⟩
    rw [g1]
    simp only
    rw [g5]
    simp only [Bool.and_eq_true, decide_eq_true_eq]
    exact g7.1 h
theorem vmB_true {v : Int} {l : List S107} {r : Int} (h : VM v l r) : vmB v l r = true := vmB_iff.2 h
theorem vmB_false {v : Int} {l : List S107} {r : Int} (h : ¬ VM v l r) : vmB v l r = false := by
  cases hb : vmB v l r with
  | false => rfl
  | true => exact absurd (vmB_iff.1 hb) h
theorem back_V (v : Int) (l : List S107) (r : Int) (h0 : 0 ≤ v) (h12 : v ≤ 12) (hn : allFrom (nodeV v l) l.length 0 = true) (hr : 0 ≤ r ∧ r < l.length + 2) :
    ∃ R r' s', loadP l [0, 1] (T0 v) = some R ∧ R.1.length = l.length + 2 ∧ R.2.vars = v ∧ R.2.ns.length ≤ 2 + l.length ∧ maskP R.2 64 M0 (rd R.1 r) = some (r', s') ∧ s'.out.length ≤ 4095 ∧ vmB v l r = (decide (r' = r) && decide (s'.out = l)) := by
  obtain ⟨R, r', s', g1, g2, g3, g4, g5, g6, g7⟩ := back_core v l r h0 h12 hn hr
  refine ⟨R, r', s', g1, g2, g3, g4, g5, g6, ?_⟩
  by_cases he : r' = r ∧ s'.out = l
  · rw [vmB_true (g7.2 he), decide_eq_true he.1, decide_eq_true he.2]
    rfl
  · rw [vmB_false (fun h => he (g7.1 h))]
    symm
    rw [Bool.and_eq_false_iff, decide_eq_false_iff_not, decide_eq_false_iff_not]
    by_cases e1 : r' = r
    · exact .inr (fun e2 => he ⟨e1, e2⟩)
    · exact .inl e1
theorem back_R (v : Int) (l : List S106) (r : Int) (h0 : 0 ≤ v) (h12 : v ≤ 12) (hl : l.length < 1000000000) (hn : allFrom (nodeR v l) l.length 0 = true) (hr : 0 ≤ r ∧ r < l.length + 2) :
    ∃ t r' l', cantingref02_table.f 5000 v l r = some t ∧ t.length ≤ 4096 ∧ cantingref02_Of.f v t = some (v, l', r') ∧ l'.length ≤ 4095 ∧ vmB v (l.map ofR) r = (decide (r = r') && decide (l = l')) := by
  have hw := (wo_R v l h0).1 hn
  have hpl : Pl (TM v (l.map ofR)) r := (TM_pl _ _ _).2 ⟨hr.1, by rw [List.length_map]; omega⟩
  have hlen := tab_length v (l.map ofR) r
  have hb := p12 (k := v.toNat) (by omega)
  obtain ⟨l2, r2, ts, g1, g2, g3, g4⟩ := of_VM v.toNat (by omega) (tab v (l.map ofR) r) hlen
  rw [Int.toNat_of_nonneg h0] at g2 g3
  refine ⟨_, r2, l2.map toR, table_f v l r h12 hl hw hpl 5000 (by omega), by omega, ?_, by rw [List.length_map]; exact g4, ?_⟩
  · unfold cantingref02_Of.f
    rw [if_pos (by omega), g1]
    rfl
  · by_cases he : r = r2 ∧ l = l2.map toR
    · obtain ⟨rfl, rfl⟩ := he
      rw [ofR_toR, vmB_true g2]
      simp
    · have : ¬ VM v (l.map ofR) r := fun hV => by
        obtain ⟨e1, e2⟩ := VM.same g2 hV g3
        exact he ⟨e2.symm, by rw [e1, toR_ofR]⟩
      rw [vmB_false this]
      symm
      rw [Bool.and_eq_false_iff, decide_eq_false_iff_not, decide_eq_false_iff_not]
      by_cases e1 : r = r2
      · exact .inr (fun e2 => he ⟨e1, e2⟩)
      · exact .inl e1
theorem VM.nodesR {v : Int} {l : List S106} {r : Int} (h : VM v (l.map ofR) r) : allFrom (nodeR v l) l.length 0 = true := (wo_R v l h.v0).2 h.wf.wo
end Go.Proofs.Ytlplphgoldkoeaa.HTab
end
