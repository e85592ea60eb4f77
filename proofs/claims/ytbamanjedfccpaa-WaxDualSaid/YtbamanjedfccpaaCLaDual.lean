/- The law WaxDual holds of the program, for every input that its statement lets in. -/
import Derived.Test.YtbamanjedfccpaaBc
import Derived.Test.YtbamanjedfccpaaBi
import Derived.Test.YtbamanjedfccpaaBl
import Derived.Test.YtbamanjedfccpaaBm
import Derived.Test.YtbamanjedfccpaaBn
import Derived.Test.YtbamanjedfccpaaBo
import Derived.Test.YtbamanjedfccpaaRows
import Derived.Test.YtbamanjedfccpaaBj
import Derived.WalkKit
import Derived.ProofKit
import Derived.OpenShut
import Derived.ShutString
import Derived.ChangeOld
import Derived.Below
import Derived.SizedLaws
import Derived.Test.YtbamanjedfccpaaBb
section
set_option linter.unusedVariables false
set_option linter.unusedSimpArgs false
namespace Go.Proofs.Ytbamanjedfccpaa.X
open Go.RowKit Go.Proofs.YtbamanjedfccpaaW.PrintWords Go.Proofs.YtbamanjedfccpaaW.PrintLast Go.Proofs.YtbamanjedfccpaaW.PrintMore
attribute [local go_sem] max2_int min2_int max_two min_two max_three min_three max_four min_four   -- for this text's walks alone
set_option linter.unusedVariables false
set_option linter.unusedSimpArgs false
def cantinglaw07_WaxChecks.f (k : Nat) (a0_0 : Int) (l0_1 : List (S34)) (l1 : List Int) (l2 : List Bool) : Option (Bool) := (cantinglaw07_net.f k a0_0 l0_1).bind fun bt339 => ((wax_Check.f k bt339.1 bt339.2 l1 l2).bind fun bt343 => ((cantingref07_Check.f k a0_0 l0_1 l1 l2).bind fun bt345 => (if (bt343.1 == bt345.1) = true then (if bt343.2 = bt345.2 then ((cantinglaw07_awake.f).bind fun t347 => (some t347)) else (some false)) else (some false))))
theorem cantinglaw07_WaxChecks.mono : ∀ a0 a1 a2 a3 k, LeO (cantinglaw07_WaxChecks.f k a0 a1 a2 a3) (cantinglaw07_WaxChecks.f (k + 1) a0 a1 a2 a3) := by
  intro a0 a1 a2 a3 k
  unfold cantinglaw07_WaxChecks.f
  repeat' first
      | (with_reducible exact cantinglaw07_net.mono _ _ _)
      | (with_reducible exact cantingref07_Check.mono _ _ _ _ _)
      | (with_reducible exact wax_Check.mono _ _ _ _ _)
      | (with_reducible exact LeO.refl _)
      | (with_reducible exact LeO.none _)
      | (with_reducible refine LeO.ite ?_ ?_)
      | (with_reducible refine LeO.bind ?_ (fun _ => ?_))
      | exact cantinglaw07_net.mono _ _ _
      | exact cantingref07_Check.mono _ _ _ _ _
      | exact wax_Check.mono _ _ _ _ _
      | exact LeO.none _
      | refine LeO.ite ?_ ?_
      | refine LeO.bind ?_ (fun _ => ?_)
set_option maxHeartbeats 8000000 in
set_option maxRecDepth 100000 in
theorem cantinglaw07_WaxChecks.calls (k : Nat) (a0_0 : Int) (A0_1 : Option Addr) (c0_1 : Nat) (l0_1 : List (S34)) (A1 : Option Addr) (c1 : Nat) (l1 : List Int) (A2 : Option Addr) (c2 : Nat) (l2 : List Bool) (r : Bool) (w : World) (hr0_1 : Kd.C k34 w A0_1 l0_1.length l0_1) (hc0_1 : l0_1.length ≤ c0_1) (hr1 : Kd.C (Kd.int .i64) w A1 l1.length l1) (hc1 : l1.length ≤ c1) (hr2 : Kd.C Kd.bool w A2 l2.length l2) (hc2 : l2.length ≤ c2) (h : cantinglaw07_WaxChecks.f k a0_0 l0_1 l1 l2 = some r) :
    Calls Try.prog 6 #[.agg #[.int .i64 a0_0, .slice A0_1 l0_1.length c0_1], .slice A1 l1.length c1, .slice A2 l2.length c2] w fun e w' => e = .returned (.bool r) ∧ Below w.heap.size w w' := by
  have hu24 := Try.underlying24
  have HR0_1 := Aside0.mk hr0_1
  have HC0_1 := Aside0.mk hc0_1
  clear hr0_1 hc0_1
  have HR1 := Aside0.mk hr1
  have HC1 := Aside0.mk hc1
  clear hr1 hc1
  have HR2 := Aside0.mk hr2
  have HC2 := Aside0.mk hc2
  clear hr2 hc2
  have HB := Aside0.mk (Below.refl w.heap.size w)
  have H : ((cantinglaw07_net.f k a0_0 l0_1).bind fun bt339 => ((wax_Check.f k bt339.1 bt339.2 l1 l2).bind fun bt343 => ((cantingref07_Check.f k a0_0 l0_1 l1 l2).bind fun bt345 => (if (bt343.1 == bt345.1) = true then (if bt343.2 = bt345.2 then ((cantinglaw07_awake.f).bind fun t347 => (some t347)) else (some false)) else (some false))))) = some r := h
  clear h
  replace H := Option.bind_eq_some_iff.mp H
  obtain ⟨⟨t339, t340⟩, A40, H⟩ := H
  replace H : ((wax_Check.f k t339 t340 l1 l2).bind fun bt343 => ((cantingref07_Check.f k a0_0 l0_1 l1 l2).bind fun bt345 => (if (bt343.1 == bt345.1) = true then (if bt343.2 = bt345.2 then ((cantinglaw07_awake.f).bind fun t347 => (some t347)) else (some false)) else (some false)))) = some r := H
  have A4 := Aside0.mk A40
  clear A40
  replace H := Option.bind_eq_some_iff.mp H
  obtain ⟨⟨t343, t344⟩, A50, H⟩ := H
  replace H : ((cantingref07_Check.f k a0_0 l0_1 l1 l2).bind fun bt345 => (if (t343 == bt345.1) = true then (if t344 = bt345.2 then ((cantinglaw07_awake.f).bind fun t347 => (some t347)) else (some false)) else (some false))) = some r := H
  have A5 := Aside0.mk A50
  clear A50
  replace H := Option.bind_eq_some_iff.mp H
  obtain ⟨⟨t345, t346⟩, A60, H⟩ := H
  replace H : (if (t343 == t345) = true then (if t344 = t346 then ((cantinglaw07_awake.f).bind fun t347 => (some t347)) else (some false)) else (some false)) = some r := H
  have A6 := Aside0.mk A60
  clear A60
  by_cases c7 : (t343 == t345) = true
  · rw [if_pos c7] at H
    have c7b0 : (t343 == t345) = true := c7
    (try (have c7b1 : decide (t343 = t345) = true := by simpa using c7))
    (try (have c7b2 : (t343 == t345) = true := by simpa using c7))
    clear c7
    by_cases c8 : t344 = t346
    · rw [if_pos c8] at H
      have c8b0 : (t344 == t346) = true := beq_iff_eq.mpr c8
      have c8b1 : (t344 != t346) = false := bne_eq_false_iff_eq.mpr c8
      clear c8
      replace H := Option.bind_eq_some_iff.mp H
      obtain ⟨t347, A90, H⟩ := H
      replace H : (some t347) = some r := H
      have A9 := Aside0.mk A90
      clear A90
      obtain rfl := Option.some.inj H
      go_enter Try.func6, Try.ntmps6
      go_wp2_with (first | ((with_reducible refine gate_dst (N := 3) rfl ?_); refine box_event ?hg (N := 3) ?hd (cs := #[.int .i64 a0_0, .slice A0_1 l0_1.length c0_1]) (t := 24) ?hr ?_; (case hd => rfl); (case hg => rfl); (case hr => first | (go_simp; done) | (go_simp; rfl)); intro gb338 hg w10 hbox hb; have n0_ := Aside0.mk (below_step (by repeat (first | (with_reducible first | exact HB.out | apply below_alloc | apply pw_below_drewN | apply below_drew1) | exact HB.out)) hb); have n1_ := Aside0.mk (hbox); have n2_ := Aside0.mk ((by rw [hg]; exact (below_size (by repeat (first | (with_reducible first | exact HB.out | apply below_alloc | apply pw_below_drewN | apply below_drew1) | exact HB.out))) : w.heap.size ≤ gb338)); have n3_ := Aside0.mk ((by rw [hg]; exact (below_size (by repeat (first | (with_reducible first | exact HB.out | apply below_alloc | apply pw_below_drewN | apply below_drew1) | exact HB.out))) : w.heap.size ≤ gb338)); clear HB; have HB := n0_; have BK338 := n1_; have GW338 := n2_; have GE338 := n3_; clear n0_ n1_ n2_ n3_; clear hb hbox hg; have hcz11_0 : w10.cell? ⟨gb338, 0, none⟩ = some (.int .i64 a0_0) := (blk_cell BK338.out 0).trans rfl; have hcz11_1 : w10.cell? ⟨gb338, 1, none⟩ = some (.slice A0_1 l0_1.length c0_1) := (blk_cell BK338.out 1).trans rfl; have hfz11_0 := blk_frozen BK338.out 0; have hfz11_1 := blk_frozen BK338.out 1) | ((with_reducible refine gate_callee (f := 17) rfl ?_); refine goesL_ (some 13) rfl rfl Try.func17 (by kernel_rfl) rfl #[.agg #[.int .i64 a0_0, .slice A0_1 l0_1.length c0_1]] rfl (by (try simp only [List.map_toArray, List.map_cons, List.map_nil]); first | done | rfl | (simp only [List.length_drop, List.length_take]; rfl)) ?_; (with_reducible refine (cantinglaw07_net.calls k a0_0 _ _ l0_1 t339 t340 _ ?side1 ?side2 A4.out).mono ?_); (case side1 => repeat (first | exact (Kd.C_below HR0_1.out HB.out) | (with_reducible refine Kd.C_alloc ?_ _) | (with_reducible refine Kd.C_drewN ?_ _) | (with_reducible refine Kd.C_drew ?_))); (case side2 => exact HC0_1.out); rintro e w12 ⟨v341, rfl, ho0, hb⟩; refine ⟨_, rfl, ?_⟩; have n0_ := Aside0.mk (Kd.R_lower ho0 (below_size (by repeat (first | (with_reducible first | exact HB.out | apply below_alloc | apply pw_below_drewN | apply below_drew1 | refine below_set ?_ GE338.out) | exact HB.out)))); have n1_ := Aside0.mk (blk_below (g := gb338) (o := .cells #[.int .i64 a0_0, .slice A0_1 l0_1.length c0_1] 24 (0, 0)) (by (with_reducible repeat (first | refine blk_drewN ?_ _ | refine blk_drew ?_ | refine blk_alloc ?_ _)); exact BK338.out) hb); have n2_ := Aside0.mk (below_step (by repeat (first | (with_reducible first | exact HB.out | apply below_alloc | apply pw_below_drewN | apply below_drew1 | refine below_set ?_ GE338.out) | exact HB.out)) hb); clear BK338; clear HB; have HO342 := n0_; have BK338 := n1_; have HB := n2_; clear n0_ n1_ n2_; (try clear hb); (try clear hb2); (try clear hk); (try clear hi); (try clear ho0); obtain ⟨Ao13, co13, eo13⟩ := Kd.R_slice HO342.out; subst eo13) | ((with_reducible refine gate_callee (f := 23) rfl ?_); refine goesL_ (some 16) rfl rfl Try.func23 (by kernel_rfl) rfl #[.agg #[.int .i64 t339, .slice Ao13 t340.length co13], .slice A1 l1.length c1, .slice A2 l2.length c2] rfl (by (try simp only [List.map_toArray, List.map_cons, List.map_nil]); first | done | rfl | (simp only [List.length_drop, List.length_take]; rfl)) ?_; (with_reducible refine (wax_Check.calls k t339 _ _ t340 _ _ l1 _ _ l2 t343 t344 _ ?side1 ?side2 ?side3 ?side4 ?side5 ?side6 A5.out).mono ?_); (case side1 => repeat (first | exact (Kd.R_reads' HO342.out).2.2 | (with_reducible refine Kd.C_alloc ?_ _) | (with_reducible refine Kd.C_drewN ?_ _) | (with_reducible refine Kd.C_drew ?_))); (case side2 => exact (Kd.R_reads' HO342.out).2.1); (case side3 => repeat (first | exact (Kd.C_below HR1.out HB.out) | (with_reducible refine Kd.C_alloc ?_ _) | (with_reducible refine Kd.C_drewN ?_ _) | (with_reducible refine Kd.C_drew ?_))); (case side4 => exact HC1.out); (case side5 => repeat (first | exact (Kd.C_below HR2.out HB.out) | (with_reducible refine Kd.C_alloc ?_ _) | (with_reducible refine Kd.C_drewN ?_ _) | (with_reducible refine Kd.C_drew ?_))); (case side6 => exact HC2.out); rintro e w14 ⟨rfl, hb⟩; refine ⟨_, rfl, ?_⟩; have n0_ := Aside0.mk (Kd.R_below (by (with_reducible repeat (first | apply Kd.R_alloc | apply Kd.R_drewN | apply Kd.R_drew)); exact HO342.out) hb); have n1_ := Aside0.mk (blk_below (g := gb338) (o := .cells #[.int .i64 a0_0, .slice A0_1 l0_1.length c0_1] 24 (0, 0)) (by (with_reducible repeat (first | refine blk_drewN ?_ _ | refine blk_drew ?_ | refine blk_alloc ?_ _)); exact BK338.out) hb); have n2_ := Aside0.mk (below_step (by repeat (first | (with_reducible first | exact HB.out | apply below_alloc | apply pw_below_drewN | apply below_drew1 | refine below_set ?_ GE338.out) | exact HB.out)) hb); clear HO342; clear BK338; clear HB; have HO342 := n0_; have BK338 := n1_; have HB := n2_; clear n0_ n1_ n2_; (try clear hb); (try clear hb2); (try clear hk); (try clear hi); have hcz15_0 : w14.cell? ⟨gb338, 0, none⟩ = some (.int .i64 a0_0) := (blk_cell BK338.out 0).trans rfl; have hcz15_1 : w14.cell? ⟨gb338, 1, none⟩ = some (.slice A0_1 l0_1.length c0_1) := (blk_cell BK338.out 1).trans rfl; have hfz15_0 := blk_frozen BK338.out 0; have hfz15_1 := blk_frozen BK338.out 1) | ((with_reducible refine gate_callee (f := 24) rfl ?_); refine goesL_ (some 23) rfl rfl Try.func24 (by kernel_rfl) rfl #[.agg #[.int .i64 a0_0, .slice A0_1 l0_1.length c0_1], .slice A1 l1.length c1, .slice A2 l2.length c2] rfl (by (try simp only [List.map_toArray, List.map_cons, List.map_nil]); first | done | rfl | (simp only [List.length_drop, List.length_take]; rfl)) ?_; (with_reducible refine (cantingref07_Check.calls k a0_0 _ _ l0_1 _ _ l1 _ _ l2 t345 t346 _ ?side1 ?side2 ?side3 ?side4 ?side5 ?side6 A6.out).mono ?_); (case side1 => repeat (first | exact (Kd.C_below HR0_1.out HB.out) | (with_reducible refine Kd.C_alloc ?_ _) | (with_reducible refine Kd.C_drewN ?_ _) | (with_reducible refine Kd.C_drew ?_))); (case side2 => exact HC0_1.out); (case side3 => repeat (first | exact (Kd.C_below HR1.out HB.out) | (with_reducible refine Kd.C_alloc ?_ _) | (with_reducible refine Kd.C_drewN ?_ _) | (with_reducible refine Kd.C_drew ?_))); (case side4 => exact HC1.out); (case side5 => repeat (first | exact (Kd.C_below HR2.out HB.out) | (with_reducible refine Kd.C_alloc ?_ _) | (with_reducible refine Kd.C_drewN ?_ _) | (with_reducible refine Kd.C_drew ?_))); (case side6 => exact HC2.out); rintro e w16 ⟨rfl, hb⟩; refine ⟨_, rfl, ?_⟩; have n0_ := Aside0.mk (Kd.R_below (by (with_reducible repeat (first | apply Kd.R_alloc | apply Kd.R_drewN | apply Kd.R_drew)); exact HO342.out) hb); have n1_ := Aside0.mk (blk_below (g := gb338) (o := .cells #[.int .i64 a0_0, .slice A0_1 l0_1.length c0_1] 24 (0, 0)) (by (with_reducible repeat (first | refine blk_drewN ?_ _ | refine blk_drew ?_ | refine blk_alloc ?_ _)); exact BK338.out) hb); have n2_ := Aside0.mk (below_step (by repeat (first | (with_reducible first | exact HB.out | apply below_alloc | apply pw_below_drewN | apply below_drew1 | refine below_set ?_ GE338.out) | exact HB.out)) hb); clear HO342; clear BK338; clear HB; have HO342 := n0_; have BK338 := n1_; have HB := n2_; clear n0_ n1_ n2_; (try clear hb); (try clear hb2); (try clear hk); (try clear hi)) | (go_at_call 18; (with_reducible refine (cantinglaw07_awake.calls  t347 _ A9.out).mono ?_); rintro e w17 ⟨rfl, hb⟩; have n0_ := Aside0.mk (Kd.R_below (by (with_reducible repeat (first | apply Kd.R_alloc | apply Kd.R_drewN | apply Kd.R_drew)); exact HO342.out) hb); have n1_ := Aside0.mk (blk_below (g := gb338) (o := .cells #[.int .i64 a0_0, .slice A0_1 l0_1.length c0_1] 24 (0, 0)) (by (with_reducible repeat (first | refine blk_drewN ?_ _ | refine blk_drew ?_ | refine blk_alloc ?_ _)); exact BK338.out) hb); have n2_ := Aside0.mk (below_step (by repeat (first | (with_reducible first | exact HB.out | apply below_alloc | apply pw_below_drewN | apply below_drew1 | refine below_set ?_ GE338.out) | exact HB.out)) hb); clear HO342; clear BK338; clear HB; have HO342 := n0_; have BK338 := n1_; have HB := n2_; clear n0_ n1_ n2_; (try clear hb); (try clear hb2); (try clear hk); (try clear hi)))
      go_ret
      exact ⟨by first | rfl | (simp [errW_none, errW_some] <;> rfl) | (simp [*, errW_none, errW_some] <;> rfl), by repeat (first | (with_reducible first | exact HB.out | apply below_alloc | apply pw_below_drewN | apply below_drew1 | refine below_set ?_ GE338.out) | exact HB.out)⟩
    · rw [if_neg c8] at H
      have c8b0 : (t344 == t346) = false := beq_eq_false_iff_ne.mpr c8
      have c8b1 : (t344 != t346) = true := bne_iff_ne.mpr c8
      obtain rfl := Option.some.inj H
      go_enter Try.func6, Try.ntmps6
      go_wp2_with (first | ((with_reducible refine gate_dst (N := 3) rfl ?_); refine box_event ?hg (N := 3) ?hd (cs := #[.int .i64 a0_0, .slice A0_1 l0_1.length c0_1]) (t := 24) ?hr ?_; (case hd => rfl); (case hg => rfl); (case hr => first | (go_simp; done) | (go_simp; rfl)); intro gb338 hg w18 hbox hb; have n0_ := Aside0.mk (below_step (by repeat (first | (with_reducible first | exact HB.out | apply below_alloc | apply pw_below_drewN | apply below_drew1) | exact HB.out)) hb); have n1_ := Aside0.mk (hbox); have n2_ := Aside0.mk ((by rw [hg]; exact (below_size (by repeat (first | (with_reducible first | exact HB.out | apply below_alloc | apply pw_below_drewN | apply below_drew1) | exact HB.out))) : w.heap.size ≤ gb338)); have n3_ := Aside0.mk ((by rw [hg]; exact (below_size (by repeat (first | (with_reducible first | exact HB.out | apply below_alloc | apply pw_below_drewN | apply below_drew1) | exact HB.out))) : w.heap.size ≤ gb338)); clear HB; have HB := n0_; have BK338 := n1_; have GW338 := n2_; have GE338 := n3_; clear n0_ n1_ n2_ n3_; clear hb hbox hg; have hcz19_0 : w18.cell? ⟨gb338, 0, none⟩ = some (.int .i64 a0_0) := (blk_cell BK338.out 0).trans rfl; have hcz19_1 : w18.cell? ⟨gb338, 1, none⟩ = some (.slice A0_1 l0_1.length c0_1) := (blk_cell BK338.out 1).trans rfl; have hfz19_0 := blk_frozen BK338.out 0; have hfz19_1 := blk_frozen BK338.out 1) | ((with_reducible refine gate_callee (f := 17) rfl ?_); refine goesL_ (some 13) rfl rfl Try.func17 (by kernel_rfl) rfl #[.agg #[.int .i64 a0_0, .slice A0_1 l0_1.length c0_1]] rfl (by (try simp only [List.map_toArray, List.map_cons, List.map_nil]); first | done | rfl | (simp only [List.length_drop, List.length_take]; rfl)) ?_; (with_reducible refine (cantinglaw07_net.calls k a0_0 _ _ l0_1 t339 t340 _ ?side1 ?side2 A4.out).mono ?_); (case side1 => repeat (first | exact (Kd.C_below HR0_1.out HB.out) | (with_reducible refine Kd.C_alloc ?_ _) | (with_reducible refine Kd.C_drewN ?_ _) | (with_reducible refine Kd.C_drew ?_))); (case side2 => exact HC0_1.out); rintro e w20 ⟨v341, rfl, ho0, hb⟩; refine ⟨_, rfl, ?_⟩; have n0_ := Aside0.mk (Kd.R_lower ho0 (below_size (by repeat (first | (with_reducible first | exact HB.out | apply below_alloc | apply pw_below_drewN | apply below_drew1 | refine below_set ?_ GE338.out) | exact HB.out)))); have n1_ := Aside0.mk (blk_below (g := gb338) (o := .cells #[.int .i64 a0_0, .slice A0_1 l0_1.length c0_1] 24 (0, 0)) (by (with_reducible repeat (first | refine blk_drewN ?_ _ | refine blk_drew ?_ | refine blk_alloc ?_ _)); exact BK338.out) hb); have n2_ := Aside0.mk (below_step (by repeat (first | (with_reducible first | exact HB.out | apply below_alloc | apply pw_below_drewN | apply below_drew1 | refine below_set ?_ GE338.out) | exact HB.out)) hb); clear BK338; clear HB; have HO342 := n0_; have BK338 := n1_; have HB := n2_; clear n0_ n1_ n2_; (try clear hb); (try clear hb2); (try clear hk); (try clear hi); (try clear ho0); obtain ⟨Ao21, co21, eo21⟩ := Kd.R_slice HO342.out; subst eo21) | ((with_reducible refine gate_callee (f := 23) rfl ?_); refine goesL_ (some 16) rfl rfl Try.func23 (by kernel_rfl) rfl #[.agg #[.int .i64 t339, .slice Ao21 t340.length co21], .slice A1 l1.length c1, .slice A2 l2.length c2] rfl (by (try simp only [List.map_toArray, List.map_cons, List.map_nil]); first | done | rfl | (simp only [List.length_drop, List.length_take]; rfl)) ?_; (with_reducible refine (wax_Check.calls k t339 _ _ t340 _ _ l1 _ _ l2 t343 t344 _ ?side1 ?side2 ?side3 ?side4 ?side5 ?side6 A5.out).mono ?_); (case side1 => repeat (first | exact (Kd.R_reads' HO342.out).2.2 | (with_reducible refine Kd.C_alloc ?_ _) | (with_reducible refine Kd.C_drewN ?_ _) | (with_reducible refine Kd.C_drew ?_))); (case side2 => exact (Kd.R_reads' HO342.out).2.1); (case side3 => repeat (first | exact (Kd.C_below HR1.out HB.out) | (with_reducible refine Kd.C_alloc ?_ _) | (with_reducible refine Kd.C_drewN ?_ _) | (with_reducible refine Kd.C_drew ?_))); (case side4 => exact HC1.out); (case side5 => repeat (first | exact (Kd.C_below HR2.out HB.out) | (with_reducible refine Kd.C_alloc ?_ _) | (with_reducible refine Kd.C_drewN ?_ _) | (with_reducible refine Kd.C_drew ?_))); (case side6 => exact HC2.out); rintro e w22 ⟨rfl, hb⟩; refine ⟨_, rfl, ?_⟩; have n0_ := Aside0.mk (Kd.R_below (by (with_reducible repeat (first | apply Kd.R_alloc | apply Kd.R_drewN | apply Kd.R_drew)); exact HO342.out) hb); have n1_ := Aside0.mk (blk_below (g := gb338) (o := .cells #[.int .i64 a0_0, .slice A0_1 l0_1.length c0_1] 24 (0, 0)) (by (with_reducible repeat (first | refine blk_drewN ?_ _ | refine blk_drew ?_ | refine blk_alloc ?_ _)); exact BK338.out) hb); have n2_ := Aside0.mk (below_step (by repeat (first | (with_reducible first | exact HB.out | apply below_alloc | apply pw_below_drewN | apply below_drew1 | refine below_set ?_ GE338.out) | exact HB.out)) hb); clear HO342; clear BK338; clear HB; have HO342 := n0_; have BK338 := n1_; have HB := n2_; clear n0_ n1_ n2_; (try clear hb); (try clear hb2); (try clear hk); (try clear hi); have hcz23_0 : w22.cell? ⟨gb338, 0, none⟩ = some (.int .i64 a0_0) := (blk_cell BK338.out 0).trans rfl; have hcz23_1 : w22.cell? ⟨gb338, 1, none⟩ = some (.slice A0_1 l0_1.length c0_1) := (blk_cell BK338.out 1).trans rfl; have hfz23_0 := blk_frozen BK338.out 0; have hfz23_1 := blk_frozen BK338.out 1) | ((with_reducible refine gate_callee (f := 24) rfl ?_); refine goesL_ (some 23) rfl rfl Try.func24 (by kernel_rfl) rfl #[.agg #[.int .i64 a0_0, .slice A0_1 l0_1.length c0_1], .slice A1 l1.length c1, .slice A2 l2.length c2] rfl (by (try simp only [List.map_toArray, List.map_cons, List.map_nil]); first | done | rfl | (simp only [List.length_drop, List.length_take]; rfl)) ?_; (with_reducible refine (cantingref07_Check.calls k a0_0 _ _ l0_1 _ _ l1 _ _ l2 t345 t346 _ ?side1 ?side2 ?side3 ?side4 ?side5 ?side6 A6.out).mono ?_); (case side1 => repeat (first | exact (Kd.C_below HR0_1.out HB.out) | (with_reducible refine Kd.C_alloc ?_ _) | (with_reducible refine Kd.C_drewN ?_ _) | (with_reducible refine Kd.C_drew ?_))); (case side2 => exact HC0_1.out); (case side3 => repeat (first | exact (Kd.C_below HR1.out HB.out) | (with_reducible refine Kd.C_alloc ?_ _) | (with_reducible refine Kd.C_drewN ?_ _) | (with_reducible refine Kd.C_drew ?_))); (case side4 => exact HC1.out); (case side5 => repeat (first | exact (Kd.C_below HR2.out HB.out) | (with_reducible refine Kd.C_alloc ?_ _) | (with_reducible refine Kd.C_drewN ?_ _) | (with_reducible refine Kd.C_drew ?_))); (case side6 => exact HC2.out); rintro e w24 ⟨rfl, hb⟩; refine ⟨_, rfl, ?_⟩; have n0_ := Aside0.mk (Kd.R_below (by (with_reducible repeat (first | apply Kd.R_alloc | apply Kd.R_drewN | apply Kd.R_drew)); exact HO342.out) hb); have n1_ := Aside0.mk (blk_below (g := gb338) (o := .cells #[.int .i64 a0_0, .slice A0_1 l0_1.length c0_1] 24 (0, 0)) (by (with_reducible repeat (first | refine blk_drewN ?_ _ | refine blk_drew ?_ | refine blk_alloc ?_ _)); exact BK338.out) hb); have n2_ := Aside0.mk (below_step (by repeat (first | (with_reducible first | exact HB.out | apply below_alloc | apply pw_below_drewN | apply below_drew1 | refine below_set ?_ GE338.out) | exact HB.out)) hb); clear HO342; clear BK338; clear HB; have HO342 := n0_; have BK338 := n1_; have HB := n2_; clear n0_ n1_ n2_; (try clear hb); (try clear hb2); (try clear hk); (try clear hi)))
      go_ret
      exact ⟨by first | rfl | (simp [errW_none, errW_some] <;> rfl) | (simp [*, errW_none, errW_some] <;> rfl), by repeat (first | (with_reducible first | exact HB.out | apply below_alloc | apply pw_below_drewN | apply below_drew1 | refine below_set ?_ GE338.out) | exact HB.out)⟩
  · rw [if_neg c7] at H
    have c7b0 : (t343 == t345) = false := by simpa using c7
    (try (have c7b1 : decide (t343 = t345) = false := by simpa using c7))
    (try (have c7b2 : (t343 == t345) = false := by simpa using c7))
    (try (have c7b3 : ¬ (t343 = t345) := by simpa using c7))
    clear c7
    obtain rfl := Option.some.inj H
    go_enter Try.func6, Try.ntmps6
    go_wp2_with (first | ((with_reducible refine gate_dst (N := 3) rfl ?_); refine box_event ?hg (N := 3) ?hd (cs := #[.int .i64 a0_0, .slice A0_1 l0_1.length c0_1]) (t := 24) ?hr ?_; (case hd => rfl); (case hg => rfl); (case hr => first | (go_simp; done) | (go_simp; rfl)); intro gb338 hg w25 hbox hb; have n0_ := Aside0.mk (below_step (by repeat (first | (with_reducible first | exact HB.out | apply below_alloc | apply pw_below_drewN | apply below_drew1) | exact HB.out)) hb); have n1_ := Aside0.mk (hbox); have n2_ := Aside0.mk ((by rw [hg]; exact (below_size (by repeat (first | (with_reducible first | exact HB.out | apply below_alloc | apply pw_below_drewN | apply below_drew1) | exact HB.out))) : w.heap.size ≤ gb338)); have n3_ := Aside0.mk ((by rw [hg]; exact (below_size (by repeat (first | (with_reducible first | exact HB.out | apply below_alloc | apply pw_below_drewN | apply below_drew1) | exact HB.out))) : w.heap.size ≤ gb338)); clear HB; have HB := n0_; have BK338 := n1_; have GW338 := n2_; have GE338 := n3_; clear n0_ n1_ n2_ n3_; clear hb hbox hg; have hcz26_0 : w25.cell? ⟨gb338, 0, none⟩ = some (.int .i64 a0_0) := (blk_cell BK338.out 0).trans rfl; have hcz26_1 : w25.cell? ⟨gb338, 1, none⟩ = some (.slice A0_1 l0_1.length c0_1) := (blk_cell BK338.out 1).trans rfl; have hfz26_0 := blk_frozen BK338.out 0; have hfz26_1 := blk_frozen BK338.out 1) | ((with_reducible refine gate_callee (f := 17) rfl ?_); refine goesL_ (some 13) rfl rfl Try.func17 (by kernel_rfl) rfl #[.agg #[.int .i64 a0_0, .slice A0_1 l0_1.length c0_1]] rfl (by (try simp only [List.map_toArray, List.map_cons, List.map_nil]); first | done | rfl | (simp only [List.length_drop, List.length_take]; rfl)) ?_; (with_reducible refine (cantinglaw07_net.calls k a0_0 _ _ l0_1 t339 t340 _ ?side1 ?side2 A4.out).mono ?_); (case side1 => repeat (first | exact (Kd.C_below HR0_1.out HB.out) | (with_reducible refine Kd.C_alloc ?_ _) | (with_reducible refine Kd.C_drewN ?_ _) | (with_reducible refine Kd.C_drew ?_))); (case side2 => exact HC0_1.out); rintro e w27 ⟨v341, rfl, ho0, hb⟩; refine ⟨_, rfl, ?_⟩; have n0_ := Aside0.mk (Kd.R_lower ho0 (below_size (by repeat (first | (with_reducible first | exact HB.out | apply below_alloc | apply pw_below_drewN | apply below_drew1 | refine below_set ?_ GE338.out) | exact HB.out)))); have n1_ := Aside0.mk (blk_below (g := gb338) (o := .cells #[.int .i64 a0_0, .slice A0_1 l0_1.length c0_1] 24 (0, 0)) (by (with_reducible repeat (first | refine blk_drewN ?_ _ | refine blk_drew ?_ | refine blk_alloc ?_ _)); exact BK338.out) hb); have n2_ := Aside0.mk (below_step (by repeat (first | (with_reducible first | exact HB.out | apply below_alloc | apply pw_below_drewN | apply below_drew1 | refine below_set ?_ GE338.out) | exact HB.out)) hb); clear BK338; clear HB; have HO342 := n0_; have BK338 := n1_; have HB := n2_; clear n0_ n1_ n2_; (try clear hb); (try clear hb2); (try clear hk); (try clear hi); (try clear ho0); obtain ⟨Ao28, co28, eo28⟩ := Kd.R_slice HO342.out; subst eo28) | ((with_reducible refine gate_callee (f := 23) rfl ?_); refine goesL_ (some 16) rfl rfl Try.func23 (by kernel_rfl) rfl #[.agg #[.int .i64 t339, .slice Ao28 t340.length co28], .slice A1 l1.length c1, .slice A2 l2.length c2] rfl (by (try simp only [List.map_toArray, List.map_cons, List.map_nil]); first | done | rfl | (simp only [List.length_drop, List.length_take]; rfl)) ?_; (with_reducible refine (wax_Check.calls k t339 _ _ t340 _ _ l1 _ _ l2 t343 t344 _ ?side1 ?side2 ?side3 ?side4 ?side5 ?side6 A5.out).mono ?_); (case side1 => repeat (first | exact (Kd.R_reads' HO342.out).2.2 | (with_reducible refine Kd.C_alloc ?_ _) | (with_reducible refine Kd.C_drewN ?_ _) | (with_reducible refine Kd.C_drew ?_))); (case side2 => exact (Kd.R_reads' HO342.out).2.1); (case side3 => repeat (first | exact (Kd.C_below HR1.out HB.out) | (with_reducible refine Kd.C_alloc ?_ _) | (with_reducible refine Kd.C_drewN ?_ _) | (with_reducible refine Kd.C_drew ?_))); (case side4 => exact HC1.out); (case side5 => repeat (first | exact (Kd.C_below HR2.out HB.out) | (with_reducible refine Kd.C_alloc ?_ _) | (with_reducible refine Kd.C_drewN ?_ _) | (with_reducible refine Kd.C_drew ?_))); (case side6 => exact HC2.out); rintro e w29 ⟨rfl, hb⟩; refine ⟨_, rfl, ?_⟩; have n0_ := Aside0.mk (Kd.R_below (by (with_reducible repeat (first | apply Kd.R_alloc | apply Kd.R_drewN | apply Kd.R_drew)); exact HO342.out) hb); have n1_ := Aside0.mk (blk_below (g := gb338) (o := .cells #[.int .i64 a0_0, .slice A0_1 l0_1.length c0_1] 24 (0, 0)) (by (with_reducible repeat (first | refine blk_drewN ?_ _ | refine blk_drew ?_ | refine blk_alloc ?_ _)); exact BK338.out) hb); have n2_ := Aside0.mk (below_step (by repeat (first | (with_reducible first | exact HB.out | apply below_alloc | apply pw_below_drewN | apply below_drew1 | refine below_set ?_ GE338.out) | exact HB.out)) hb); clear HO342; clear BK338; clear HB; have HO342 := n0_; have BK338 := n1_; have HB := n2_; clear n0_ n1_ n2_; (try clear hb); (try clear hb2); (try clear hk); (try clear hi); have hcz30_0 : w29.cell? ⟨gb338, 0, none⟩ = some (.int .i64 a0_0) := (blk_cell BK338.out 0).trans rfl; have hcz30_1 : w29.cell? ⟨gb338, 1, none⟩ = some (.slice A0_1 l0_1.length c0_1) := (blk_cell BK338.out 1).trans rfl; have hfz30_0 := blk_frozen BK338.out 0; have hfz30_1 := blk_frozen BK338.out 1) | ((with_reducible refine gate_callee (f := 24) rfl ?_); refine goesL_ (some 23) rfl rfl Try.func24 (by kernel_rfl) rfl #[.agg #[.int .i64 a0_0, .slice A0_1 l0_1.length c0_1], .slice A1 l1.length c1, .slice A2 l2.length c2] rfl (by (try simp only [List.map_toArray, List.map_cons, List.map_nil]); first | done | rfl | (simp only [List.length_drop, List.length_take]; rfl)) ?_; (with_reducible refine (cantingref07_Check.calls k a0_0 _ _ l0_1 _ _ l1 _ _ l2 t345 t346 _ ?side1 ?side2 ?side3 ?side4 ?side5 ?side6 A6.out).mono ?_); (case side1 => repeat (first | exact (Kd.C_below HR0_1.out HB.out) | (with_reducible refine Kd.C_alloc ?_ _) | (with_reducible refine Kd.C_drewN ?_ _) | (with_reducible refine Kd.C_drew ?_))); (case side2 => exact HC0_1.out); (case side3 => repeat (first | exact (Kd.C_below HR1.out HB.out) | (with_reducible refine Kd.C_alloc ?_ _) | (with_reducible refine Kd.C_drewN ?_ _) | (with_reducible refine Kd.C_drew ?_))); (case side4 => exact HC1.out); (case side5 => repeat (first | exact (Kd.C_below HR2.out HB.out) | (with_reducible refine Kd.C_alloc ?_ _) | (with_reducible refine Kd.C_drewN ?_ _) | (with_reducible refine Kd.C_drew ?_))); (case side6 => exact HC2.out); rintro e w31 ⟨rfl, hb⟩; refine ⟨_, rfl, ?_⟩; have n0_ := Aside0.mk (Kd.R_below (by (with_reducible repeat (first | apply Kd.R_alloc | apply Kd.R_drewN | apply Kd.R_drew)); exact HO342.out) hb); have n1_ := Aside0.mk (blk_below (g := gb338) (o := .cells #[.int .i64 a0_0, .slice A0_1 l0_1.length c0_1] 24 (0, 0)) (by (with_reducible repeat (first | refine blk_drewN ?_ _ | refine blk_drew ?_ | refine blk_alloc ?_ _)); exact BK338.out) hb); have n2_ := Aside0.mk (below_step (by repeat (first | (with_reducible first | exact HB.out | apply below_alloc | apply pw_below_drewN | apply below_drew1 | refine below_set ?_ GE338.out) | exact HB.out)) hb); clear HO342; clear BK338; clear HB; have HO342 := n0_; have BK338 := n1_; have HB := n2_; clear n0_ n1_ n2_; (try clear hb); (try clear hb2); (try clear hk); (try clear hi)))
    go_ret
    exact ⟨by first | rfl | (simp [errW_none, errW_some] <;> rfl) | (simp [*, errW_none, errW_some] <;> rfl), by repeat (first | (with_reducible first | exact HB.out | apply below_alloc | apply pw_below_drewN | apply below_drew1 | refine below_set ?_ GE338.out) | exact HB.out)⟩
end Go.Proofs.Ytbamanjedfccpaa.X
end

section
set_option linter.unusedVariables false
set_option linter.unusedSimpArgs false
namespace Go.Proofs.Ytbamanjedfccpaa.HTab
open Go.RowKit Go.Proofs.YtbamanjedfccpaaW.PrintWords Go.Proofs.YtbamanjedfccpaaW.PrintLast Go.Proofs.YtbamanjedfccpaaW.PrintMore Go.Proofs.Ytbamanjedfccpaa.X
set_option linter.unusedVariables false
set_option linter.unusedSimpArgs false
def ovS (o : List Int) (a : S34) (f : Int) : List Int := (o.set a.f0.toNat (wrap64 (rd o a.f0 - f))).set a.f1.toNat (wrap64 (rd (o.set a.f0.toNat (wrap64 (rd o a.f0 - f))) a.f1 + f))
def ovF : List S34 → List Int → List Int → Option (List Int)
  | [], _, o => some o
  | _ :: _, [], _ => none
  | a :: l, f :: fl, o => if f < 0 then none else if f > a.f2 then none else ovF l fl (ovS o a f)
def innB (o : List Int) : Nat → Nat → Bool
  | 0, _ => true
  | d + 1, i => rd o (i : Int) == 0 && innB o d (i + 1)
def csF (s : List Bool) : List S34 → Int → Int
  | [], x => x
  | a :: l, x => csF s l (if rdOf false s a.f0 && !rdOf false s a.f1 then wrap64 (x + a.f2) else x)
def GoodR (N : Nat) (l : List S34) : Prop := ∀ a ∈ l, 0 ≤ a.f0 ∧ a.f0 < (N : Int) ∧ 0 ≤ a.f1 ∧ a.f1 < (N : Int)
theorem ovS_len (o : List Int) (a : S34) (f : Int) : (ovS o a f).length = o.length := by unfold ovS; simp
theorem rd_get (N : Nat) (_ : 2 ≤ N) (_ : N ≤ 40) (l : List S34) (_ : l.length ≤ 160) (_ : GoodR N l) (i : Nat) (h : i < l.length) : rd_T34 l (i : Int) = l[i] ∧ rd_T35 (l.map cvA) (i : Int) = cvA l[i] := by
  constructor
  · simp [rd_T34, h]
  · simp [rd_T35, h]
section
variable (N : Nat) (hN2 : 2 ≤ N) (hN : N ≤ 40) (l : List S34) (hl : l.length ≤ 160) (hg : GoodR N l)
include hN2 hN
theorem rflow_l1 (o : List Int) (ho : o.length = N) : ∀ (d i fu : Nat), i + d = N - 1 → d < fu → cantingref07_Flow.l1 fu o i N l = cond (innB o d i) (some (wrap64 (-(rd o 0)), true)) (some (0, false))
  | d, i, 0, h, hf => by omega
  | 0, i, fu + 1, h, hf => by
    have w : wrap64 ((N : Int) - 1) = (N : Int) - 1 := wrap_id (by omega) (by omega)
    simp only [cantingref07_Flow.l1, innB]
    rw [w, if_neg (by clear w; omega), if_pos (by clear w; omega)]
    rfl
  | d + 1, i, fu + 1, h, hf => by
    have w : wrap64 ((N : Int) - 1) = (N : Int) - 1 := wrap_id (by omega) (by omega)
    have ih := rflow_l1 o ho d (i + 1) fu (by omega) (by omega)
    simp only [cantingref07_Flow.l1, innB]
    rw [w]
    clear w
    rw [if_pos (by omega), if_pos (by omega), if_pos (by omega), show wrap64 ((i : Int) + 1) = ((i + 1 : Nat) : Int) from wrap_add1 (by omega) (by omega), ih]
    by_cases h0 : rd o (i : Int) = 0
    · rw [if_pos h0, show (rd o (i : Int) == 0) = true by simp [h0], Bool.true_and]
    · rw [if_neg h0, show (rd o (i : Int) == 0) = false by simp [h0], Bool.false_and]
      rfl
def finC (N : Nat) (s : List Bool) (o : List Int) (C : Int) : Bool := rdOf false s 0 && (!rdOf false s ((N : Int) - 1) && (wrap64 (-(rd o 0)) == C))
theorem wcheck_end (s : List Bool) (hs : s.length = N) (o : List Int) (ho : o.length = N) (l2 : List S35) (C : Int) (fu : Nat) (hC : wax_Net_cost.f fu N l2 s = some C) : wax_Check.l1 (fu + 1) s o o N N N l2 = some (finC N s o C, 0) := by
  have w : wrap64 ((N : Int) - 1) = (N : Int) - 1 := wrap_id (by omega) (by omega)
  simp only [wax_Check.l1]
  rw [w]
  clear w
  rw [if_neg (by omega), if_pos (by omega)]
  unfold finC
  cases h0 : rdOf false s 0 with
  | false => rw [if_neg (by simp), Bool.false_and]
  | true =>
    rw [if_pos rfl, if_pos (by omega), if_pos (by omega)]
    cases h1 : rdOf false s ((N : Int) - 1) with
    | true => rw [if_pos rfl]; rfl
    | false => rw [if_neg (by simp), if_pos (by omega), hC]; rfl
theorem wcheck_l1 (s : List Bool) (hs : s.length = N) (o : List Int) (ho : o.length = N) (l2 : List S35) (C : Int) (hC : ∀ fu, 170 ≤ fu → wax_Net_cost.f fu N l2 s = some C) : ∀ (d i fu : Nat), 1 ≤ i → i + d = N - 1 → 172 + d < fu →
    wax_Check.l1 fu s o o N i N l2 = cond (innB o d i) (some (finC N s o C, 0)) (some (false, 0))
  | d, i, 0, h1, h, hf => by omega
  | 0, i, fu + 1, h1, h, hf => by
    obtain ⟨fu, rfl⟩ : ∃ g, fu = g + 1 := ⟨fu - 1, by omega⟩
    obtain rfl : i = N - 1 := by omega
    have he := wcheck_end N hN2 hN s hs o ho l2 C fu (hC fu (by omega))
    have w : wrap64 ((N : Int) - 1) = (N : Int) - 1 := wrap_id (by omega) (by omega)
    have e : wrap64 (((N - 1 : Nat) : Int) + 1) = (N : Int) := by rw [wrap_add1 (by omega) (by omega)]; omega
    rw [wax_Check.l1, e, w, he]
    clear e w
    rw [if_pos (by omega), if_pos (by omega), if_pos (by omega)]
    by_cases h0 : rd o ((N - 1 : Nat) : Int) = 0
    · rw [if_pos h0]; rfl
    · rw [if_neg h0, if_neg (by omega), if_pos (by omega)]; rfl
  | d + 1, i, fu + 1, h1, h, hf => by
    have ih := wcheck_l1 s hs o ho l2 C hC d (i + 1) fu (by omega) (by omega) (by omega)
    have w : wrap64 ((N : Int) - 1) = (N : Int) - 1 := wrap_id (by omega) (by omega)
    rw [wax_Check.l1, w]
    clear w
    simp only [innB]
    rw [if_pos (by omega), if_pos (by omega), if_pos (by omega), show wrap64 ((i : Int) + 1) = ((i + 1 : Nat) : Int) from wrap_add1 (by omega) (by omega), ih]
    by_cases h0 : rd o (i : Int) = 0
    · rw [if_pos h0, show (rd o (i : Int) == 0) = true by simp [h0], Bool.true_and]
    · rw [if_neg h0, if_neg (by omega), if_neg (by omega), show (rd o (i : Int) == 0) = false by simp [h0], Bool.false_and]
      rfl
theorem wcheck_l1' (s : List Bool) (hs : s.length = N) (o : List Int) (ho : o.length = N) (l2 : List S35) (C : Int) (hC : ∀ fu, 170 ≤ fu → wax_Net_cost.f fu N l2 s = some C) (fu : Nat) (hf : 250 ≤ fu) :
    wax_Check.l1 fu s o o N 0 N l2 = cond (innB o (N - 2) 1) (some (finC N s o C, 0)) (some (false, 0)) := by
  obtain ⟨fu, rfl⟩ : ∃ g, fu = g + 1 := ⟨fu - 1, by omega⟩
  have ih := wcheck_l1 N hN2 hN s hs o ho l2 C hC (N - 2) 1 fu (by omega) (by omega) (by omega)
  rw [wax_Check.l1, if_pos (by omega), if_pos (by omega), if_pos (by omega), show wrap64 ((0 : Int) + 1) = ((1 : Nat) : Int) from (wrap_add1 (by omega) (by omega)).trans rfl, ih, if_pos rfl, ite_self]
include hl hg
theorem rflow_l0 (fl : List Int) (hfl : fl.length = l.length) : ∀ (d i fu : Nat) (o : List Int), i + d = l.length → d + N + 10 < fu → o.length = N →
    cantingref07_Flow.l0 fu fl o l l.length i N l = match ovF (l.drop i) (fl.drop i) o with | none => some (0, false) | some o' => cond (innB o' (N - 2) 1) (some (wrap64 (-(rd o' 0)), true)) (some (0, false))
  | d, i, 0, o, h, hf, ho => by omega
  | 0, i, fu + 1, o, h, hf, ho => by
    simp only [cantingref07_Flow.l0]
    rw [if_neg (by omega), List.drop_eq_nil_of_le (by omega)]
    simp only [ovF]
    exact rflow_l1 N hN2 hN l o ho (N - 2) 1 fu (by omega) (by omega)
  | d + 1, i, fu + 1, o, h, hf, ho => by
    have hi : i < l.length := by omega
    have hi2 : i < fl.length := by omega
    have hr := (rd_get N hN2 hN l hl hg i hi).1
    have hf2 : rd fl (i : Int) = fl[i] := by simp [rd, hi2]
    obtain ⟨g0, g1, g2, g3⟩ := hg l[i] (List.getElem_mem _)
    simp only [cantingref07_Flow.l0]
    rw [if_pos (by omega), if_pos (by omega), if_pos (by omega), if_pos (by omega), hr, hf2, List.drop_eq_getElem_cons hi, List.drop_eq_getElem_cons hi2]
    simp only [ovF]
    by_cases c1 : fl[i] < 0
    · rw [if_pos c1, if_pos c1]
    rw [if_neg c1, if_neg c1]
    by_cases c2 : fl[i] > l[i].f2
    · rw [if_pos c2, if_pos c2]
    rw [if_neg c2, if_neg c2, if_pos g0, if_pos (by omega)]
    simp only [Option.bind_some]
    rw [if_pos g2, if_pos (by (try rw [List.length_set]); omega), show wrap64 ((i : Int) + 1) = ((i + 1 : Nat) : Int) from wrap_add1 (by omega) (by omega)]
    exact rflow_l0 fl hfl d (i + 1) fu _ (by omega) (by omega) (by rw [List.length_set, List.length_set]; exact ho)
theorem wcheck_l0 (fl : List Int) (hfl : fl.length = l.length) (s : List Bool) (hs : s.length = N) (C : Int) (hC : ∀ fu, 170 ≤ fu → wax_Net_cost.f fu N (l.map cvA) s = some C) : ∀ (d i fu : Nat) (o : List Int), i + d = l.length → d + 260 < fu → o.length = N →
    wax_Check.l0 fu fl s o (l.map cvA) l.length i N (l.map cvA) = match ovF (l.drop i) (fl.drop i) o with | none => some (false, 0) | some o' => cond (innB o' (N - 2) 1) (some (finC N s o' C, 0)) (some (false, 0))
  | d, i, 0, o, h, hf, ho => by omega
  | 0, i, fu + 1, o, h, hf, ho => by
    simp only [wax_Check.l0]
    rw [if_neg (by omega), List.drop_eq_nil_of_le (by omega)]
    simp only [ovF]
    have := wcheck_l1' N hN2 hN s hs o ho (l.map cvA) C hC fu (by omega)
    rw [ho]
    exact this
  | d + 1, i, fu + 1, o, h, hf, ho => by
    have hi : i < l.length := by omega
    have hi2 : i < fl.length := by omega
    have hr := (rd_get N hN2 hN l hl hg i hi).2
    have hf2 : rd fl (i : Int) = fl[i] := by simp [rd, hi2]
    obtain ⟨g0, g1, g2, g3⟩ := hg l[i] (List.getElem_mem _)
    simp only [wax_Check.l0]
    rw [if_pos (by omega), if_pos (by omega), if_pos (by rw [List.length_map]; omega), if_pos (by omega), hr, hf2, List.drop_eq_getElem_cons hi, List.drop_eq_getElem_cons hi2]
    simp only [ovF]
    by_cases c1 : fl[i] < 0
    · rw [if_pos c1, if_pos c1]
    rw [if_neg c1, if_neg c1]
    by_cases c2 : fl[i] > l[i].f2
    · rw [if_pos (show fl[i] > (cvA l[i]).f2 from c2), if_pos c2]
    rw [if_neg (show ¬ fl[i] > (cvA l[i]).f2 from c2), if_neg c2, if_pos (show 0 ≤ (cvA l[i]).f0 from g0), if_pos (show (cvA l[i]).f0 < (o.length : Int) by rw [ho]; exact g1)]
    simp only [Option.bind_some]
    rw [if_pos (show 0 ≤ (cvA l[i]).f1 from g2), if_pos (show (cvA l[i]).f1 < (_ : Int) by (try rw [List.length_set]); rw [ho]; exact g3), show wrap64 ((i : Int) + 1) = ((i + 1 : Nat) : Int) from wrap_add1 (by omega) (by omega)]
    exact wcheck_l0 fl hfl s hs C hC d (i + 1) fu _ (by omega) (by omega) (by rw [List.length_set, List.length_set]; exact ho)
theorem cost_l0 (s : List Bool) (hs : s.length = N) : ∀ (d i fu : Nat) (x : Int), i + d = l.length → d < fu → wax_Net_cost.l0 fu s x (l.map cvA) l.length i = some (csF s (l.drop i) x)
  | d, i, 0, x, h, hf => by omega
  | 0, i, fu + 1, x, h, hf => by
    simp only [wax_Net_cost.l0]
    rw [if_neg (by omega), List.drop_eq_nil_of_le (by omega)]
    rfl
  | d + 1, i, fu + 1, x, h, hf => by
    have hi : i < l.length := by omega
    have hr := (rd_get N hN2 hN l hl hg i hi).2
    obtain ⟨g0, g1, g2, g3⟩ := hg l[i] (List.getElem_mem _)
    simp only [wax_Net_cost.l0]
    rw [if_pos (by omega), if_pos (by omega), if_pos (by rw [List.length_map]; omega), hr, List.drop_eq_getElem_cons hi]
    simp only [csF]
    have ih := fun (x : Int) => cost_l0 s hs d (i + 1) fu x (by omega) (by omega)
    rw [if_pos (show 0 ≤ (cvA l[i]).f0 from g0), if_pos (show (cvA l[i]).f0 < (s.length : Int) by rw [hs]; exact g1), if_pos (show 0 ≤ (cvA l[i]).f1 from g2), if_pos (show (cvA l[i]).f1 < (s.length : Int) by rw [hs]; exact g3), show wrap64 ((i : Int) + 1) = ((i + 1 : Nat) : Int) from wrap_add1 (by omega) (by omega), ih, ih]
    show (if rdOf false s l[i].f0 = true then (if rdOf false s l[i].f1 = true then some (csF s (l.drop (i + 1)) x) else some (csF s (l.drop (i + 1)) (wrap64 (x + l[i].f2)))) else some (csF s (l.drop (i + 1)) x)) = _
    cases rdOf false s l[i].f0 <;> cases rdOf false s l[i].f1 <;> simp
theorem side_l0 (s : List Bool) (hs : s.length = N) : ∀ (d i fu : Nat) (x : Int), i + d = l.length → d < fu → cantingref07_Side.l0 fu s x l l.length i N l = some (csF s (l.drop i) x, rdOf false s 0 && !rdOf false s ((N : Int) - 1))
  | d, i, 0, x, h, hf => by omega
  | 0, i, fu + 1, x, h, hf => by
    have w : wrap64 ((N : Int) - 1) = (N : Int) - 1 := wrap_id (by omega) (by omega)
    simp only [cantingref07_Side.l0]
    rw [w]
    clear w
    rw [if_neg (by omega), List.drop_eq_nil_of_le (by omega), if_pos (show (0 : Int) < (s.length : Int) by omega), if_pos (show 0 ≤ (N : Int) - 1 by omega), if_pos (show (N : Int) - 1 < (s.length : Int) by omega)]
    simp only [csF]
    cases rdOf false s 0 <;> simp
  | d + 1, i, fu + 1, x, h, hf => by
    have hi : i < l.length := by omega
    have hr := (rd_get N hN2 hN l hl hg i hi).1
    obtain ⟨g0, g1, g2, g3⟩ := hg l[i] (List.getElem_mem _)
    simp only [cantingref07_Side.l0]
    rw [if_pos (by omega), if_pos (by omega), if_pos (by omega), hr, List.drop_eq_getElem_cons hi]
    simp only [csF]
    have ih := fun (x : Int) => side_l0 s hs d (i + 1) fu x (by omega) (by omega)
    rw [if_pos g0, if_pos (show l[i].f0 < (s.length : Int) by omega), if_pos g2, if_pos (show l[i].f1 < (s.length : Int) by omega), show wrap64 ((i : Int) + 1) = ((i + 1 : Nat) : Int) from wrap_add1 (by omega) (by omega), ih, ih]
    cases rdOf false s l[i].f0 <;> cases rdOf false s l[i].f1 <;> simp
end
theorem bad_good {N : Nat} {l : List S34} (h : (l.map cvA).any (badA N) = false) : GoodR N l := fun a ha => by
  have := any_good h (cvA a) (List.mem_map_of_mem ha)
  exact this
theorem rvalid_l0 (n : Int) (l l2 : List S34) (hl : l.length < 10000000000000) : ∀ (d i fu : Nat), i + d = l.length → d < fu → cantingref07_Valid.l0 fu l l.length i n l2 = some (!((l.drop i).map cvA).any (badA n))
  | d, i, 0, h, hf => by omega
  | 0, i, fu + 1, h, hf => by
    simp only [cantingref07_Valid.l0]
    rw [if_neg (by omega), List.drop_eq_nil_of_le (by omega)]
    rfl
  | d + 1, i, fu + 1, h, hf => by
    have hi : i < l.length := by omega
    have hr : rd_T34 l (i : Int) = l[i] := by simp [rd_T34, hi]
    have ih := rvalid_l0 n l l2 hl d (i + 1) fu (by omega) (by omega)
    simp only [cantingref07_Valid.l0]
    rw [if_pos (by omega), if_pos (by omega), if_pos (by omega), hr, List.drop_eq_getElem_cons hi, show wrap64 ((i : Int) + 1) = ((i + 1 : Nat) : Int) from wrap_add1 (by omega) (by omega), ih, List.map_cons, List.any_cons]
    have hb : badA n (cvA l[i]) = true ↔ (l[i].f0 < 0 ∨ l[i].f0 ≥ n ∨ l[i].f1 < 0 ∨ l[i].f1 ≥ n ∨ l[i].f0 = l[i].f1 ∨ l[i].f2 < 0 ∨ l[i].f2 > 1000000) := by
      have e : badA n (cvA l[i]) = (decide (l[i].f0 = l[i].f1) || (decide (l[i].f0 < 0) || decide (l[i].f1 < 0)) || (decide (n ≤ l[i].f0) || decide (n ≤ l[i].f1)) || decide (l[i].f2 < 0) || decide (1000000 < l[i].f2)) := rfl
      rw [e]
      simp only [Bool.or_eq_true, decide_eq_true_eq]
      constructor
      · rintro ((((q | q | q) | q | q) | q) | q)
        · exact .inr (.inr (.inr (.inr (.inl q))))
        · exact .inl q
        · exact .inr (.inr (.inl q))
        · exact .inr (.inl q)
        · exact .inr (.inr (.inr (.inl q)))
        · exact .inr (.inr (.inr (.inr (.inr (.inl q)))))
        · exact .inr (.inr (.inr (.inr (.inr (.inr q)))))
      · rintro (q | q | q | q | q | q | q)
        · exact .inl (.inl (.inl (.inr (.inl q))))
        · exact .inl (.inl (.inr (.inl q)))
        · exact .inl (.inl (.inl (.inr (.inr q))))
        · exact .inl (.inl (.inr (.inr q)))
        · exact .inl (.inl (.inl (.inl q)))
        · exact .inl (.inr q)
        · exact .inr q
    cases hbb : badA n (cvA l[i]) with
    | true =>
      have := hb.1 hbb
      rw [Bool.true_or]
      by_cases c1 : l[i].f0 < 0
      · rw [if_pos c1]; rfl
      rw [if_neg c1]
      by_cases c2 : l[i].f0 ≥ n
      · rw [if_pos c2]; rfl
      rw [if_neg c2]
      by_cases c3 : l[i].f1 < 0
      · rw [if_pos c3]; rfl
      rw [if_neg c3]
      by_cases c4 : l[i].f1 ≥ n
      · rw [if_pos c4]; rfl
      rw [if_neg c4]
      by_cases c5 : l[i].f0 = l[i].f1
      · rw [if_pos c5]; rfl
      rw [if_neg c5]
      by_cases c6 : l[i].f2 < 0
      · rw [if_pos c6]; rfl
      rw [if_neg c6, if_pos (by omega)]
      rfl
    | false =>
      have hn : ¬ (l[i].f0 < 0 ∨ l[i].f0 ≥ n ∨ l[i].f1 < 0 ∨ l[i].f1 ≥ n ∨ l[i].f0 = l[i].f1 ∨ l[i].f2 < 0 ∨ l[i].f2 > 1000000) := fun h => by rw [hb.2 h] at hbb; cases hbb
      rw [Bool.false_or, if_neg (by omega), if_neg (by omega), if_neg (by omega), if_neg (by omega), if_neg (by omega), if_neg (by omega), if_neg (by omega)]
theorem rvalid_f (n : Int) (l : List S34) (hl : l.length < 10000000000000) (fu : Nat) (hf : 200 ≤ fu) : cantingref07_Valid.f fu n l = some (vdB n (netL l)) := by
  obtain ⟨fu, rfl⟩ : ∃ g, fu = g + 1 := ⟨fu - 1, by omega⟩
  have hnl : 160 < l.length → ¬ (netL l).length ≤ 160 := fun h => by unfold netL; simp; omega
  unfold cantingref07_Valid.f vdB
  by_cases h1 : n < 2
  · rw [if_pos h1]
    simp only [cantingref07_Valid.j0, if_true]
    rw [decide_eq_false (by omega)]
    rfl
  rw [if_neg h1]
  by_cases h2 : n > 40
  · rw [if_pos h2]
    simp only [cantingref07_Valid.j0, if_true]
    rw [decide_eq_false (p := n ≤ 40) (by omega), Bool.and_false]
    rfl
  rw [if_neg h2]
  by_cases h3 : (l.length : Int) > 160
  · rw [decide_eq_true h3]
    simp only [cantingref07_Valid.j0, if_true]
    rw [decide_eq_false (p := (netL l).length ≤ 160) (hnl (by omega)), Bool.and_false]
    rfl
  · rw [decide_eq_false h3]
    simp only [cantingref07_Valid.j0, Bool.false_eq_true, if_false]
    have := rvalid_l0 n l l hl l.length 0 fu (by omega) (by omega)
    rw [List.drop_zero] at this
    have e := netL_all (l := l) (by omega)
    refine this.trans ?_
    rw [e, decide_eq_true (by omega), decide_eq_true (p := n ≤ 40) (by omega), decide_eq_true (p := (l.map cvA).length ≤ 160) (by rw [List.length_map]; omega)]
    rfl
theorem checks_f (n : Int) (l : List S34) (fl : List Int) (s : List Bool) (hl : l.length < 10000000000000) : cantinglaw07_WaxChecks.f 1001 n l fl s = some true := by
  have fin : ∀ (b : Bool) (e : Int), (if (b == b) = true then (if e = e then (cantinglaw07_awake.f.bind fun t => some t) else some false) else some false) = some true := fun b e => by rw [awake_f]; simp
  unfold cantinglaw07_WaxChecks.f
  rw [net_f l hl n 1001 (by omega)]
  simp only [Option.bind_some]
  have hrv := rvalid_f n l hl 1001 (by omega)
  unfold wax_Check.f cantingref07_Check.f wax_Net_valid.f
  rw [hrv]
  simp only [Option.bind_some]
  cases hv : vdB n (netL l) with
  | false =>
    simp only [Bool.false_eq_true, if_false, Option.bind_some]
    exact fin false 2
  | true =>
    obtain ⟨N, rfl, a, b, c, d, e⟩ := vdB_facts hv
    have hlen : l.length ≤ 160 := by
      have : (netL l).length = min 162 l.length := by unfold netL; simp
      omega
    have hnl := netL_all (l := l) (by omega)
    have hg : GoodR N l := bad_good (by rw [← hnl]; exact (vdB_iff.1 hv).2.2.2)
    simp only [if_true]
    rw [hnl, List.length_map]
    by_cases h1 : (fl.length : Int) = l.length
    · rw [if_pos h1, if_pos h1]
      by_cases h2 : (s.length : Int) = N
      · rw [if_pos h2, if_pos (by omega), if_pos (by omega)]
        have hs : s.length = N := by omega
        have e2 : ((s.length : Int) != (N : Int)) = false := by simp [hs]
        rw [e2]
        simp only [cantingref07_Check.j0, Bool.false_eq_true, if_false]
        have hC : ∀ fu, 170 ≤ fu → wax_Net_cost.f fu N (l.map cvA) s = some (csF s l 0) := fun fu hf => by
          unfold wax_Net_cost.f
          have := cost_l0 N a b l hlen hg s hs l.length 0 fu 0 (by omega) (by omega)
          rw [List.length_map]
          exact this
        have hW := wcheck_l0 N a b l hlen hg fl (by omega) s hs (csF s l 0) hC l.length 0 1001 (List.replicate N 0) (by omega) (by omega) (by simp)
        have hR := rflow_l0 N a b l hlen hg fl (by omega) l.length 0 1000 (List.replicate N 0) (by omega) (by omega) (by simp)
        have hS := side_l0 N a b l hlen hg s hs l.length 0 1000 0 (by omega) (by omega)
        simp only [List.drop_zero] at hW hR hS
        unfold cantingref07_Flow.f cantingref07_Side.f
        rw [if_pos (by omega), if_pos (by omega), Int.toNat_natCast]
        have hW' : wax_Check.l0 1001 fl s (List.replicate N 0) (l.map cvA) (l.length : Int) 0 N (l.map cvA) = _ := hW
        have hR' : cantingref07_Flow.l0 1000 fl (List.replicate N 0) l (l.length : Int) 0 N l = _ := hR
        have hS' : cantingref07_Side.l0 1000 s 0 l (l.length : Int) 0 N l = _ := hS
        rw [hW', hR', hS']
        cases ovF l fl (List.replicate N 0) with
        | none =>
          simp only [Option.bind_some, Bool.false_eq_true, if_false]
          exact fin false 0
        | some o =>
          dsimp only
          cases innB o (N - 2) 1 with
          | false =>
            simp only [cond_false, Option.bind_some, Bool.false_eq_true, if_false]
            exact fin false 0
          | true =>
            simp only [cond_true, Option.bind_some, if_true]
            unfold finC
            cases rdOf false s 0 <;> cases rdOf false s ((N : Int) - 1) <;> simp [awake_f]
      · rw [if_neg h2]
        have e2 : ((s.length : Int) != (N : Int)) = true := by simpa using h2
        rw [e2]
        simp only [cantingref07_Check.j0, if_true, Option.bind_some]
        exact fin false 3
    · rw [if_neg h1, if_neg h1]
      simp only [cantingref07_Check.j0, if_true, Option.bind_some]
      exact fin false 3
end Go.Proofs.Ytbamanjedfccpaa.HTab
end

section
set_option linter.unusedVariables false
set_option linter.unusedSimpArgs false
namespace Go.Proofs.Ytbamanjedfccpaa.HTab
open Go.RowKit Go.Proofs.YtbamanjedfccpaaW.PrintWords Go.Proofs.YtbamanjedfccpaaW.PrintLast Go.Proofs.YtbamanjedfccpaaW.PrintMore Go.Proofs.Ytbamanjedfccpaa.X
set_option linter.unusedVariables false
set_option linter.unusedSimpArgs false
def ovX : List S34 → List Int → Int → Int
  | a :: l, f :: fl, v => ((if a.f1 = v then f else 0) - (if a.f0 = v then f else 0)) + ovX l fl v
  | _, _, _ => 0
def crX (T : Int → Bool) : List S34 → List Int → Int
  | a :: l, f :: fl => ((if T a.f1 then f else 0) - (if T a.f0 then f else 0)) + crX T l fl
  | _, _ => 0
def CapR (l : List S34) : Prop := ∀ a ∈ l, 0 ≤ a.f2 ∧ a.f2 ≤ 1000000
theorem ovF_sum {N : Nat} : ∀ (l : List S34) (fl o o' : List Int) (B : Int), GoodR N l → CapR l → o.length = N → (∀ x : Int, 0 ≤ x → x < N → -B ≤ rd o x ∧ rd o x ≤ B) → 0 ≤ B → B + 2000000 * l.length ≤ 100000000000 → ovF l fl o = some o' →
    ∀ x : Int, 0 ≤ x → x < N → rd o' x = rd o x + ovX l fl x
  | [], fl, o, o', B, hg, hc, ho, hb, B0, hB, h, x, x0, x1 => by
    simp only [ovF] at h
    injection h with h
    rw [h]
    simp [ovX]
  | a :: l, [], o, o', B, hg, hc, ho, hb, B0, hB, h, x, x0, x1 => by simp [ovF] at h
  | a :: l, f :: fl, o, o', B, hg, hc, ho, hb, B0, hB, h, x, x0, x1 => by
    simp only [ovF] at h
    split at h
    · cases h
    rename_i c1
    split at h
    · cases h
    rename_i c2
    obtain ⟨g0, g1, g2, g3⟩ := hg a (List.mem_cons_self ..)
    have hcap := hc a (List.mem_cons_self ..)
    have hbl : B + 2000000 + 2000000 * (l.length : Int) ≤ 100000000000 := by simp only [List.length_cons] at hB; omega
    have b0 := hb a.f0 g0 g1
    have w0 : wrap64 (rd o a.f0 - f) = rd o a.f0 - f := wrap_id (by omega) (by omega)
    have r0 : ∀ y : Int, 0 ≤ y → rd (o.set a.f0.toNat (rd o a.f0 - f)) y = if y = a.f0 then rd o a.f0 - f else rd o y := fun y y0 => rd_set o a.f0 y _ g0 (by omega) y0
    have b1 : -(B + 1000000) ≤ rd (o.set a.f0.toNat (rd o a.f0 - f)) a.f1 ∧ rd (o.set a.f0.toNat (rd o a.f0 - f)) a.f1 ≤ B + 1000000 := by
      rw [r0 _ g2]
      have := hb a.f1 g2 g3
      split <;> omega
    have w1 : wrap64 (rd (o.set a.f0.toNat (rd o a.f0 - f)) a.f1 + f) = rd (o.set a.f0.toNat (rd o a.f0 - f)) a.f1 + f := wrap_id (by omega) (by omega)
    have r1 : ∀ y : Int, 0 ≤ y → rd (ovS o a f) y = rd o y + ((if a.f1 = y then f else 0) - (if a.f0 = y then f else 0)) := fun y y0 => by
      unfold ovS
      rw [w0, w1, rd_set _ _ _ _ g2 (by rw [List.length_set]; omega) y0, r0 _ g2, r0 _ y0]
      by_cases q1 : a.f1 = y <;> by_cases q0 : a.f0 = y
      · rw [if_pos q1.symm, if_pos (by omega), if_pos q1, if_pos q0]; rw [q0]; omega
      · rw [if_pos q1.symm, if_neg (by omega), if_pos q1, if_neg q0]; rw [q1]; omega
      · rw [if_neg (fun z => q1 z.symm), if_pos q0.symm, if_neg q1, if_pos q0]; rw [q0]; omega
      · rw [if_neg (fun z => q1 z.symm), if_neg (fun z => q0 z.symm), if_neg q1, if_neg q0]; omega
    have ih := ovF_sum l fl (ovS o a f) o' (B + 2000000) (fun b hb => hg b (List.mem_cons_of_mem _ hb)) (fun b hb => hc b (List.mem_cons_of_mem _ hb)) (by rw [ovS_len]; exact ho) (fun y y0 y1 => by
      rw [r1 y y0]
      have := hb y y0 y1
      split <;> split <;> omega) (by omega) (by omega) h x x0 x1
    rw [ih, r1 x x0]
    simp only [ovX]
    omega
def sumF (g : Int → Int) : Nat → Int
  | 0 => 0
  | n + 1 => sumF g n + g (n : Int)
theorem sumF_add (g h : Int → Int) : ∀ n, sumF (fun v => g v + h v) n = sumF g n + sumF h n
  | 0 => rfl
  | n + 1 => by simp only [sumF]; rw [sumF_add g h n]; omega
theorem sumF_sub (g h : Int → Int) : ∀ n, sumF (fun v => g v - h v) n = sumF g n - sumF h n
  | 0 => rfl
  | n + 1 => by simp only [sumF]; rw [sumF_sub g h n]; omega
theorem sumF_zero : ∀ n, sumF (fun _ => 0) n = 0
  | 0 => rfl
  | n + 1 => by simp only [sumF]; rw [sumF_zero n]; rfl
theorem sumF_congr {g h : Int → Int} : ∀ n : Nat, (∀ v : Int, 0 ≤ v → v < n → g v = h v) → sumF g n = sumF h n
  | 0, _ => rfl
  | n + 1, hh => by
    simp only [sumF]
    rw [sumF_congr n (fun v v0 v1 => hh v v0 (by omega)), hh n (by omega) (by omega)]
theorem sumF_one (T : Int → Bool) (a f : Int) (a0 : 0 ≤ a) : ∀ n : Nat, sumF (fun v => if T v then (if a = v then f else 0) else 0) n = if a < n then (if T a then f else 0) else 0
  | 0 => by rw [if_neg (by omega)]; rfl
  | n + 1 => by
    simp only [sumF]
    rw [sumF_one T a f a0 n]
    have c : a < n → a < ((n + 1 : Nat) : Int) := fun h => by omega
    by_cases h : a = n
    · have c1 : a < ((n + 1 : Nat) : Int) := by omega
      have c2 : ¬ a < (n : Int) := by omega
      rw [if_pos c1, if_neg c2, if_pos h, ← h, Int.zero_add]
    · rw [if_neg h, ite_self, Int.add_zero]
      by_cases h2 : a < (n : Int)
      · rw [if_pos h2, if_pos (c h2)]
      · have c2 : ¬ a < ((n + 1 : Nat) : Int) := by omega
        rw [if_neg h2, if_neg c2]
theorem sum_cr {N : Nat} (T : Int → Bool) : ∀ (l : List S34) (fl : List Int), GoodR N l → sumF (fun v => if T v then ovX l fl v else 0) N = crX T l fl
  | [], fl, _ => by
    simp only [ovX, crX, ite_self]
    exact sumF_zero N
  | a :: l, [], _ => by
    simp only [ovX, crX, ite_self]
    exact sumF_zero N
  | a :: l, f :: fl, hg => by
    obtain ⟨g0, g1, g2, g3⟩ := hg a (List.mem_cons_self ..)
    have ih := sum_cr T l fl (fun b hb => hg b (List.mem_cons_of_mem _ hb))
    simp only [crX]
    rw [← ih]
    have e1 := sumF_one T a.f1 f g2 N
    have e0 := sumF_one T a.f0 f g0 N
    rw [if_pos g3] at e1
    rw [if_pos g1] at e0
    rw [← e1, ← e0, ← sumF_sub, ← sumF_add]
    refine sumF_congr N (fun v _ _ => ?_)
    simp only [ovX]
    split <;> omega
theorem cr_cost (T : Int → Bool) : ∀ (l : List S34) (fl : List Int) (o o' : List Int), CapR l → ovF l fl o = some o' → -(crX T l fl) ≤ costF false T (l.map cvA)
  | [], fl, o, o', hc, h => by simp [crX, costF]
  | a :: l, [], o, o', hc, h => by simp [ovF] at h
  | a :: l, f :: fl, o, o', hc, h => by
    simp only [ovF] at h
    split at h
    · cases h
    rename_i c1
    split at h
    · cases h
    rename_i c2
    have ih := cr_cost T l fl _ o' (fun b hb => hc b (List.mem_cons_of_mem _ hb)) h
    simp only [List.map_cons, costF, crX, cvA]
    cases T a.f0 <;> cases T a.f1 <;> simp <;> omega
theorem innB_zero (o : List Int) : ∀ (d i : Nat), innB o d i = true → ∀ j : Nat, i ≤ j → j < i + d → rd o (j : Int) = 0
  | 0, i, _, j, h1, h2 => by omega
  | d + 1, i, h, j, h1, h2 => by
    simp only [innB, Bool.and_eq_true, beq_iff_eq] at h
    by_cases hj : j = i
    · rw [hj]; exact h.1
    · exact innB_zero o d (i + 1) h.2 j (by omega) (by omega)
theorem innB_all (o : List Int) : ∀ (d i : Nat), (∀ j : Nat, i ≤ j → j < i + d → rd o (j : Int) = 0) → innB o d i = true
  | 0, i, _ => rfl
  | d + 1, i, h => by
    simp only [innB, Bool.and_eq_true, beq_iff_eq]
    exact ⟨h i (by omega) (by omega), innB_all o d (i + 1) (fun j h1 h2 => h j (by omega) (by omega))⟩
theorem flow_le {N : Nat} (hN : 2 ≤ N) (hN2 : N ≤ 40) {l : List S34} {fl o' : List Int} (hg : GoodR N l) (hc : CapR l) (hl : l.length ≤ 160) (h : ovF l fl (List.replicate N 0) = some o') (hi : innB o' (N - 2) 1 = true) (T : Int → Bool) (hT : side T 0 ((N : Int) - 1)) : -(rd o' 0) ≤ costF false T (l.map cvA) := by
  have hz : ∀ x : Int, 0 ≤ x → x < N → rd (List.replicate N 0) x = 0 := fun x x0 x1 => by
    unfold rd
    rw [List.getD_eq_getElem?_getD, List.getElem?_replicate, if_pos (by omega)]
    rfl
  have hs := ovF_sum l fl (List.replicate N 0) o' 0 hg hc (by simp) (fun x x0 x1 => by rw [hz x x0 x1]; omega) (by omega) (by omega) h
  have h1 := sum_cr (N := N) T l fl hg
  have h2 : sumF (fun v => if T v then ovX l fl v else 0) N = rd o' 0 := by
    have h3 : sumF (fun v => if T v then ovX l fl v else 0) N = sumF (fun v => if (fun _ => true) v then (if 0 = v then rd o' 0 else 0) else 0) N := sumF_congr N (fun v v0 v1 => by
      have hv := hs v v0 v1
      rw [hz v v0 v1, Int.zero_add] at hv
      rw [← hv]
      by_cases q0 : 0 = v
      · subst q0; rw [hT.1]; simp
      · rw [if_neg q0]
        by_cases q1 : v = (N : Int) - 1
        · rw [q1, hT.2]; simp
        · have := innB_zero o' (N - 2) 1 hi v.toNat (by omega) (by omega)
          rw [Int.toNat_of_nonneg v0] at this
          rw [this]; simp)
    rw [h3, sumF_one (fun _ => true) 0 (rd o' 0) (by omega) N, if_pos (by omega)]
    rfl
  have h4 := cr_cost T l fl _ o' hc h
  omega
end Go.Proofs.Ytbamanjedfccpaa.HTab
end

section
set_option linter.unusedVariables false
set_option linter.unusedSimpArgs false
namespace Go.Proofs.Ytbamanjedfccpaa.HTab
open Go.RowKit Go.Proofs.YtbamanjedfccpaaW.PrintWords Go.Proofs.YtbamanjedfccpaaW.PrintLast Go.Proofs.YtbamanjedfccpaaW.PrintMore Go.Proofs.Ytbamanjedfccpaa.X
set_option linter.unusedVariables false
set_option linter.unusedSimpArgs false
theorem rdB_set (d : List Bool) (w x : Int) (val : Bool) (w0 : 0 ≤ w) (w1 : w < d.length) (x0 : 0 ≤ x) : rdOf false (d.set w.toNat val) x = if x = w then val else rdOf false d x := by
  unfold rdOf
  rw [List.getD_eq_getElem?_getD, List.getElem?_set, List.getD_eq_getElem?_getD]
  by_cases h : x = w
  · subst h
    rw [if_pos rfl, if_pos (by omega), if_pos rfl]
    rfl
  · rw [if_neg (by omega), if_neg h]
def trueC : List Bool → Nat
  | [] => 0
  | x :: d => (if x then 1 else 0) + trueC d
theorem trueC_set : ∀ (d : List Bool) (n : Nat), n < d.length → d.getD n false = true → trueC (d.set n false) + 1 = trueC d
  | [], n, h, _ => by simp at h
  | x :: d, 0, h, hx => by
    have hx' : x = true := hx
    subst hx'
    show 0 + trueC d + 1 = 1 + trueC d
    omega
  | x :: d, n + 1, h, hx => by
    have := trueC_set d n (by simpa using h) hx
    show (if x then 1 else 0) + trueC (d.set n false) + 1 = (if x then 1 else 0) + trueC d
    omega
theorem trueC_rep (n : Nat) : trueC (List.replicate n true) = n := by
  induction n with
  | zero => rfl
  | succ n ih => rw [List.replicate_succ]; simp only [trueC]; rw [ih]; simp; omega
section
variable (arcs : List S35) (left : List Int) (out : List (List Int)) (snk : Int) (N : Nat)
def Back (P : Int → Prop) : Prop := P snk ∧ ∀ y e : Int, 0 ≤ y → y < N → P y → e ∈ rowOf out y → 0 < rd left (xrP e) → P (endP arcs e)
structure GrI (Pnd : Int → Int → Prop) (q : List Int) (d : List Bool) : Prop where
  len : d.length = N
  rng : ∀ x ∈ q, 0 ≤ x ∧ x < N ∧ rdOf false d x = false
  s0 : rdOf false d snk = false
  back : ∀ P, Back arcs left out snk N P → ∀ x : Int, 0 ≤ x → x < N → rdOf false d x = false → P x
  clo : ∀ y e : Int, 0 ≤ y → y < N → rdOf false d y = false → e ∈ rowOf out y → 0 < rd left (xrP e) → ¬ Pnd y e → rdOf false d (endP arcs e) = false
variable {arcs left out snk N}
theorem GrI.step (hs : 0 ≤ snk ∧ snk < N) {v e : Int} {rest q : List Int} {d : List Bool} (h : GrI arcs left out snk N (fun y e' => y ∈ q ∨ y = v ∧ e' ∈ e :: rest) q d) (v0 : 0 ≤ v) (v1 : v < N) (dv : rdOf false d v = false) (he : e ∈ rowOf out v) (w0 : 0 ≤ endP arcs e) (w1 : endP arcs e < N) :
    GrI arcs left out snk N (fun y e' => y ∈ (grE arcs left (q, d) e).1 ∨ y = v ∧ e' ∈ rest) (grE arcs left (q, d) e).1 (grE arcs left (q, d) e).2 ∧ rdOf false (grE arcs left (q, d) e).2 v = false ∧ (grE arcs left (q, d) e).1.length + trueC (grE arcs left (q, d) e).2 = q.length + trueC d := by
  unfold grE
  dsimp only
  by_cases hc : rdOf false d (endP arcs e) = true ∧ 0 < rd left (xrP e)
  · rw [if_pos hc]
    dsimp only
    obtain ⟨hd, hl⟩ := hc
    have hr : ∀ x : Int, 0 ≤ x → rdOf false (d.set (endP arcs e).toNat false) x = if x = endP arcs e then false else rdOf false d x := fun x x0 => rdB_set d _ x _ w0 (by rw [h.len]; omega) x0
    have hn : trueC (d.set (endP arcs e).toNat false) + 1 = trueC d := trueC_set d _ (by rw [h.len]; omega) hd
    obtain ⟨w, hwd⟩ : ∃ w, w = endP arcs e := ⟨_, rfl⟩
    rw [← hwd] at hr hn hd w0 w1 ⊢
    have hkeep : ∀ x : Int, 0 ≤ x → rdOf false d x = false → rdOf false (d.set w.toNat false) x = false := fun x x0 hx => by rw [hr x x0]; split; rfl; exact hx
    refine ⟨⟨by rw [List.length_set]; exact h.len, fun x hx => ?_, hkeep snk hs.1 h.s0, fun P hP x x0 x1 hx => ?_, fun y e' y0 y1 hy he' hl' hp => ?_⟩, hkeep v v0 dv, ?_⟩
    · rcases List.mem_append.1 hx with hx | hx
      · obtain ⟨a, b, c⟩ := h.rng x hx
        exact ⟨a, b, hkeep x a c⟩
      · rw [List.mem_singleton] at hx
        subst hx
        exact ⟨w0, w1, by rw [hr x w0, if_pos rfl]⟩
    · rw [hr x x0] at hx
      by_cases hxw : x = w
      · rw [hxw, hwd]
        exact hP.2 v e v0 v1 (h.back P hP v v0 v1 dv) he hl
      · rw [if_neg hxw] at hx
        exact h.back P hP x x0 x1 hx
    · rw [hr y y0] at hy
      by_cases hyw : y = w
      · exact absurd (.inl (List.mem_append.2 (.inr (List.mem_singleton.2 hyw)))) hp
      · rw [if_neg hyw] at hy
        by_cases hee : y = v ∧ e' = e
        · obtain ⟨-, rfl⟩ := hee
          rw [← hwd, hr w w0, if_pos rfl]
        · have h1 := h.clo y e' y0 y1 hy he' hl' (fun hq => by
            rcases hq with hq | ⟨hq, hm⟩
            · exact hp (.inl (List.mem_append.2 (.inl hq)))
            · rcases List.mem_cons.1 hm with hm | hm
              · exact hee ⟨hq, hm⟩
              · exact hp (.inr ⟨hq, hm⟩))
          by_cases hz : 0 ≤ endP arcs e'
          · exact hkeep _ hz h1
          · have e1 : ∀ l : List Bool, rdOf false l (endP arcs e') = rdOf false l 0 := fun l => by unfold rdOf; rw [show (endP arcs e').toNat = (0 : Int).toNat by omega]
            rw [e1] at h1 ⊢
            exact hkeep 0 (by omega) h1
    · rw [List.length_append, List.length_singleton]; omega
  · rw [if_neg hc]
    dsimp only
    refine ⟨⟨h.len, h.rng, h.s0, h.back, fun y e' y0 y1 hy he' hl' hp => ?_⟩, dv, rfl⟩
    by_cases hee : y = v ∧ e' = e
    · obtain ⟨-, rfl⟩ := hee
      cases hq : rdOf false d (endP arcs e') with
      | false => rfl
      | true => exact absurd ⟨hq, hl'⟩ hc
    · exact h.clo y e' y0 y1 hy he' hl' (fun hq => by
        rcases hq with hq | ⟨hq, hm⟩
        · exact hp (.inl hq)
        · rcases List.mem_cons.1 hm with hm | hm
          · exact hee ⟨hq, hm⟩
          · exact hp (.inr ⟨hq, hm⟩))
theorem GrI.fold (hs : 0 ≤ snk ∧ snk < N) {v : Int} (v0 : 0 ≤ v) (v1 : v < N) : ∀ (rest q : List Int) (d : List Bool), GrI arcs left out snk N (fun y e' => y ∈ q ∨ y = v ∧ e' ∈ rest) q d → rdOf false d v = false → (∀ e ∈ rest, e ∈ rowOf out v ∧ 0 ≤ endP arcs e ∧ endP arcs e < N) →
    GrI arcs left out snk N (fun y _ => y ∈ (rest.foldl (grE arcs left) (q, d)).1) (rest.foldl (grE arcs left) (q, d)).1 (rest.foldl (grE arcs left) (q, d)).2 ∧ (rest.foldl (grE arcs left) (q, d)).1.length + trueC (rest.foldl (grE arcs left) (q, d)).2 = q.length + trueC d
  | [], q, d, h, dv, hr => ⟨⟨h.len, h.rng, h.s0, h.back, fun y e y0 y1 hy he hl hp => h.clo y e y0 y1 hy he hl (fun hq => by
      rcases hq with hq | ⟨_, hm⟩
      · exact hp hq
      · cases hm)⟩, rfl⟩
  | e :: rest, q, d, h, dv, hr => by
    obtain ⟨he, w0, w1⟩ := hr e (List.mem_cons_self ..)
    obtain ⟨h1, h2, h3⟩ := h.step hs v0 v1 dv he w0 w1
    obtain ⟨h4, h5⟩ := GrI.fold hs v0 v1 rest _ _ h1 h2 (fun e' he' => hr e' (List.mem_cons_of_mem _ he'))
    exact ⟨h4, h5.trans h3⟩
theorem grQ_ok (hs : 0 ≤ snk ∧ snk < N) (hrow : ∀ v e : Int, 0 ≤ v → v < N → e ∈ rowOf out v → 0 ≤ endP arcs e ∧ endP arcs e < N) : ∀ (k : Nat) (q : List Int) (d : List Bool), GrI arcs left out snk N (fun y _ => y ∈ q) q d → q.length + trueC d ≤ k →
    ∃ D, grQ arcs left out k q d = some D ∧ GrI arcs left out snk N (fun _ _ => False) [] D
  | k, [], d, h, hk => ⟨d, grQ_nil _ _ _ _ _, ⟨h.len, h.rng, h.s0, h.back, fun y e y0 y1 hy he hl hp => h.clo y e y0 y1 hy he hl (fun hq => by cases hq)⟩⟩
  | 0, v :: q, d, h, hk => by simp at hk
  | k + 1, v :: q, d, h, hk => by
    obtain ⟨v0, v1, dv⟩ := h.rng v (List.mem_cons_self ..)
    have h1 : GrI arcs left out snk N (fun y e' => y ∈ q ∨ y = v ∧ e' ∈ rowOf out v) q d :=
      ⟨h.len, fun x hx => h.rng x (List.mem_cons_of_mem _ hx), h.s0, h.back, fun y e y0 y1 hy he hl hp => h.clo y e y0 y1 hy he hl (fun hq => by
        rcases List.mem_cons.1 hq with hq | hq
        · exact hp (.inr ⟨hq, by rw [← hq]; exact he⟩)
        · exact hp (.inl hq))⟩
    obtain ⟨h2, h3⟩ := h1.fold hs v0 v1 (rowOf out v) q d dv (fun e he => ⟨he, hrow v e v0 v1 he⟩)
    simp only [grQ]
    exact grQ_ok hs hrow k _ _ h2 (by simp only [List.length_cons] at hk; omega)
end
structure GrD (arcs : List S35) (left : List Int) (out : List (List Int)) (snk : Int) (N : Nat) (D : List Bool) : Prop where
  len : D.length = N
  s0 : rdOf false D snk = false
  back : ∀ P, Back arcs left out snk N P → ∀ x : Int, 0 ≤ x → x < N → rdOf false D x = false → P x
  clo : ∀ y e : Int, 0 ≤ y → y < N → rdOf false D y = false → e ∈ rowOf out y → 0 < rd left (xrP e) → rdOf false D (endP arcs e) = false
theorem great_ok (arcs : List S35) (left : List Int) (out : List (List Int)) (src snk : Int) (N : Nat) (dep nxt : List Int) (hs : 0 ≤ snk ∧ snk < N) (hrow : ∀ v e : Int, 0 ≤ v → v < N → e ∈ rowOf out v → 0 ≤ endP arcs e ∧ endP arcs e < N) (k : Nat) (hk : N ≤ k) :
    ∃ D, greatP k ⟨N, arcs, left, out, src, snk, dep, nxt⟩ = some D ∧ GrD arcs left out snk N D := by
  have hr : ∀ x : Int, 0 ≤ x → x < N → rdOf false ((List.replicate N true).set snk.toNat false) x = if x = snk then false else true := fun x x0 x1 => by
    rw [rdB_set _ _ _ _ hs.1 (by simp; omega) x0]
    congr 1
    unfold rdOf
    rw [List.getD_eq_getElem?_getD, List.getElem?_replicate, if_pos (by omega)]
    rfl
  have hn : trueC ((List.replicate N true).set snk.toNat false) + 1 = N := by
    have := trueC_set (List.replicate N true) snk.toNat (by simp; omega) (by rw [List.getD_eq_getElem?_getD, List.getElem?_replicate, if_pos (by omega)]; rfl)
    rw [trueC_rep] at this
    exact this
  have h0 : GrI arcs left out snk N (fun y _ => y ∈ [snk]) [snk] ((List.replicate N true).set snk.toNat false) := by
    refine ⟨by simp, fun x hx => ?_, by rw [hr snk hs.1 hs.2, if_pos rfl], fun P hP x x0 x1 hx => ?_, fun y e y0 y1 hy he hl hp => ?_⟩
    · rw [List.mem_singleton] at hx
      subst hx
      exact ⟨hs.1, hs.2, by rw [hr x hs.1 hs.2, if_pos rfl]⟩
    · rw [hr x x0 x1] at hx
      split at hx
      · rename_i h; rw [h]; exact hP.1
      · cases hx
    · rw [hr y y0 y1] at hy
      split at hy
      · rename_i h; exact absurd (List.mem_singleton.2 h) hp
      · cases hy
  obtain ⟨D, hD, hI⟩ := grQ_ok hs hrow k [snk] _ h0 (by simp only [List.length_singleton]; omega)
  refine ⟨D, ?_, hI.len, hI.s0, hI.back, fun y e y0 y1 hy he hl => hI.clo y e y0 y1 hy he hl (fun q => q)⟩
  unfold greatP
  dsimp only
  rw [Int.toNat_natCast]
  exact hD
end Go.Proofs.Ytbamanjedfccpaa.HTab
end

section
set_option linter.unusedVariables false
set_option linter.unusedSimpArgs false
namespace Go.Proofs.Ytbamanjedfccpaa.HTab
open Go.RowKit Go.Proofs.YtbamanjedfccpaaW.PrintWords Go.Proofs.YtbamanjedfccpaaW.PrintLast Go.Proofs.YtbamanjedfccpaaW.PrintMore Go.Proofs.Ytbamanjedfccpaa.X
set_option linter.unusedVariables false
set_option linter.unusedSimpArgs false
def flL : List Int → List Int
  | _ :: y :: L => y :: flL L
  | _ => []
theorem flowL_cons (x y : Int) (L : List Int) (m : Nat) : flowL (x :: y :: L) (m + 1) = y :: flowL L m := by
  unfold flowL
  rw [List.range_succ_eq_map, List.map_cons, List.map_map]
  congr 1
theorem flowL_eq : ∀ (l : List S34) (L : List Int), LOK false (l.map cvA) L → flowL L l.length = flL L
  | [], [], _ => rfl
  | a :: l, x :: y :: L, h => by
    rw [List.length_cons, flowL_cons, flowL_eq l L h.2.2.2]
    rfl
  | [], x :: L, h => h.elim
  | a :: l, [], h => h.elim
  | a :: l, [x], h => h.elim
theorem flL_len : ∀ (l : List S34) (L : List Int), LOK false (l.map cvA) L → (flL L).length = l.length
  | [], [], _ => rfl
  | a :: l, x :: y :: L, h => by simp only [flL, List.length_cons]; rw [flL_len l L h.2.2.2]
  | [], x :: L, h => h.elim
  | a :: l, [], h => h.elim
  | a :: l, [x], h => h.elim
theorem ov_some : ∀ (l : List S34) (L o : List Int), LOK false (l.map cvA) L → ∃ o', ovF l (flL L) o = some o'
  | [], [], o, _ => ⟨o, rfl⟩
  | a :: l, x :: y :: L, o, h => by
    obtain ⟨h1, h2, h3, h4⟩ := h
    have h3' : x + y = a.f2 + 0 := h3
    simp only [flL, ovF]
    rw [if_neg (by omega), if_neg (by omega)]
    exact ov_some l L _ h4
  | [], x :: L, o, h => h.elim
  | a :: l, [], o, h => h.elim
  | a :: l, [x], o, h => h.elim
theorem ov_res (v : Int) : ∀ (l : List S34) (L : List Int), LOK false (l.map cvA) L → ovX l (flL L) v = resF (fun u => u == v) (l.map cvA) L - costF false (fun u => u == v) (l.map cvA)
  | [], [], _ => rfl
  | a :: l, x :: y :: L, h => by
    obtain ⟨h1, h2, h3, h4⟩ := h
    have h3' : x + y = a.f2 + 0 := h3
    have ih := ov_res v l L h4
    have e0 : (a.f0 == v) = decide (a.f0 = v) := rfl
    have e1 : (a.f1 == v) = decide (a.f1 = v) := rfl
    simp only [flL, ovX, List.map_cons, resF, costF, cvA]
    rw [ih, e0, e1]
    by_cases q0 : a.f0 = v <;> by_cases q1 : a.f1 = v <;> simp [q0, q1] <;> omega
  | [], x :: L, h => h.elim
  | a :: l, [], h => h.elim
  | a :: l, [x], h => h.elim
theorem costF_congr {N : Nat} (both : Bool) (T T' : Int → Bool) (hT : ∀ v : Int, 0 ≤ v → v < N → T v = T' v) : ∀ l : List S35, Good N l → costF both T l = costF both T' l
  | [], _ => rfl
  | a :: l, hg => by
    obtain ⟨g0, g1, g2, g3⟩ := hg a (List.mem_cons_self ..)
    simp only [costF]
    rw [costF_congr both T T' hT l (fun b hb => hg b (List.mem_cons_of_mem _ hb)), hT a.f0 g0 g1, hT a.f1 g2 g3]
theorem csF_cost (s : List Bool) : ∀ (l : List S34) (x : Int), CapR l → 0 ≤ x → x + 1000000 * l.length ≤ 100000000000 → csF s l x = x + costF false (fun v => rdOf false s v) (l.map cvA)
  | [], x, _, _, _ => by simp [csF, costF]
  | a :: l, x, hc, h0, h1 => by
    have hcap := hc a (List.mem_cons_self ..)
    simp only [List.length_cons] at h1
    have ih := fun (y : Int) (hy : 0 ≤ y) (hy1 : y ≤ x + 1000000) => csF_cost s l y (fun b hb => hc b (List.mem_cons_of_mem _ hb)) hy (by omega)
    have w : wrap64 (x + a.f2) = x + a.f2 := wrap_id (by omega) (by omega)
    simp only [csF, List.map_cons, costF, cvA]
    rw [w]
    clear w
    cases rdOf false s a.f0 <;> cases rdOf false s a.f1 <;> simp
    · rw [ih x h0 (by omega)]
    · rw [ih x h0 (by omega)]
    · rw [ih _ (by omega) (by omega)]; omega
    · rw [ih x h0 (by omega)]
theorem resF_pos (T : Int → Bool) : ∀ (l : List S35) (L : List Int), LOK false l L → resF T l L = 0 → ∀ n, n < 2 * l.length → T (tlN l n) = true → T (hdN l n) = false → L.getD n 0 = 0
  | [], [], _, _, n, hn, _, _ => by simp at hn
  | a :: l, x :: y :: L, h, hr, n, hn, ht, hh => by
    obtain ⟨h1, h2, h3, h4⟩ := h
    have hnn := resF_nonneg T h4
    simp only [resF] at hr
    match n, hn, ht, hh with
    | 0, hn, ht, hh =>
      have ht' : T a.f0 = true := ht
      have hh' : T a.f1 = false := hh
      rw [ht', hh'] at hr
      simp at hr
      show x = 0
      omega
    | 1, hn, ht, hh =>
      have ht' : T a.f1 = true := ht
      have hh' : T a.f0 = false := hh
      rw [ht', hh'] at hr
      simp at hr
      show y = 0
      omega
    | n + 2, hn, ht, hh =>
      refine resF_pos T l L h4 ?_ n (by simp at hn; omega) ht hh
      have a1 : 0 ≤ (if T a.f0 && !T a.f1 then x else 0) := by split <;> omega
      have a2 : 0 ≤ (if T a.f1 && !T a.f0 then y else 0) := by split <;> omega
      omega
  | [], x :: L, h, _, _, _, _, _ => h.elim
  | a :: l, [], h, _, _, _, _, _ => h.elim
  | a :: l, [x], h, _, _, _, _, _ => h.elim
section
variable {N : Nat} {arcs : List S35} {src snk : Int} {l1 D : List Int} {G : List Bool}
theorem great_src (hg : Good N arcs) (hv : LvD arcs l1 (outZ N arcs) src N D) (hG : GrD arcs l1 (outZ N arcs) snk N G) (hn : rd D snk < 0) (x : Int) (x0 : 0 ≤ x) (x1 : x < N) (hx : 0 ≤ rd D x) : rdOf false G x = true := by
  cases hq : rdOf false G x with
  | true => rfl
  | false =>
    have := hG.back (fun v => rd D v < 0) ⟨hn, fun y e y0 y1 hy he hl => by
      obtain ⟨n, a, b, c⟩ := ((outZ_rel hg).2 y y0 y1 e).1 he
      have ht := tl_in hg n a
      subst b
      rw [xrP_N] at hl
      rw [endP_N arcs n a]
      refine Int.not_le.1 (fun hw => ?_)
      have hx2 := xrN_lt n arcs.length a
      have h1 := hv.clo (hdN arcs n) ((xrN n : Nat) : Int) ht.2.2.1 ht.2.2.2 hw (((outZ_rel hg).2 _ ht.2.2.1 ht.2.2.2 _).2 ⟨xrN n, hx2, rfl, tl_xr arcs n⟩) hl
      rw [endP_N arcs _ hx2, hd_xr, c] at h1
      omega⟩ x x0 x1 hq
    omega
theorem great_zero (hg : Good N arcs) (hL : LOK false arcs l1) (hG : GrD arcs l1 (outZ N arcs) snk N G) : resF (fun v => rdOf false G v) arcs l1 = 0 := by
  refine resF_zero _ arcs l1 hL.len (fun n hn ht hh => ?_)
  have hi := tl_in hg n hn
  have h3 := hL.nonneg n
  rcases Int.lt_or_eq_of_le h3 with q | q
  · exfalso
    have hx2 := xrN_lt n arcs.length hn
    have := hG.clo (hdN arcs n) ((xrN n : Nat) : Int) hi.2.2.1 hi.2.2.2 hh (((outZ_rel hg).2 _ hi.2.2.1 hi.2.2.2 _).2 ⟨xrN n, hx2, rfl, tl_xr arcs n⟩) (by rw [xrP_N, xrN_xrN]; exact q)
    rw [endP_N arcs _ hx2, hd_xr] at this
    have ht' : rdOf false G (tlN arcs n) = true := ht
    rw [this] at ht'
    cases ht'
  · exact q.symm
theorem least_in (hg : Good N arcs) (hL : LOK false arcs l1) (hv : LvD arcs l1 (outZ N arcs) src N D) (T : Int → Bool) (hT : T src = true) (h0 : resF T arcs l1 = 0) : ∀ (d : Nat) (x : Int), 0 ≤ x → x < N → rd D x = d → T x = true := by
  intro d
  induction d with
  | zero => intro x x0 x1 hx; rw [hv.uni x x0 x1 hx]; exact hT
  | succ d ih =>
    intro x x0 x1 hx
    obtain ⟨y, e, y0, y1, hy, he, hl, hex⟩ := hv.pred x x0 x1 (by omega)
    have hy2 := ih y y0 y1 (by omega)
    obtain ⟨n, a, b, c⟩ := ((outZ_rel hg).2 y y0 y1 e).1 he
    subst b
    rw [endP_N arcs n a] at hex
    cases hq : T x with
    | true => rfl
    | false =>
      have := resF_pos T arcs l1 hL h0 n a (by rw [c]; exact hy2) (by rw [hex]; exact hq)
      have hl' : 0 < l1.getD n 0 := hl
      omega
theorem great_in (hg : Good N arcs) (hL : LOK false arcs l1) (hG : GrD arcs l1 (outZ N arcs) snk N G) (T : Int → Bool) (hT : T snk = false) (h0 : resF T arcs l1 = 0) (x : Int) (x0 : 0 ≤ x) (x1 : x < N) (hx : rdOf false G x = false) : T x = false := by
  refine hG.back (fun v => T v = false) ⟨hT, fun y e y0 y1 hy he hl => ?_⟩ x x0 x1 hx
  obtain ⟨n, a, b, c⟩ := ((outZ_rel hg).2 y y0 y1 e).1 he
  subst b
  rw [xrP_N] at hl
  have hx2 := xrN_lt n arcs.length a
  show T (endP arcs (n : Int)) = false
  rw [endP_N arcs n a]
  cases hq : T (hdN arcs n) with
  | false => rfl
  | true =>
    have := resF_pos T arcs l1 hL h0 (xrN n) hx2 (by rw [tl_xr]; exact hq) (by rw [hd_xr, c]; exact hy)
    have hl' : 0 < l1.getD (xrN n) 0 := hl
    omega
end
end Go.Proofs.Ytbamanjedfccpaa.HTab
end

section
set_option linter.unusedVariables false
set_option linter.unusedSimpArgs false
namespace Go.Proofs.Ytbamanjedfccpaa.HTab
open Go.RowKit Go.Proofs.YtbamanjedfccpaaW.PrintWords Go.Proofs.YtbamanjedfccpaaW.PrintLast Go.Proofs.YtbamanjedfccpaaW.PrintMore Go.Proofs.Ytbamanjedfccpaa.X
set_option linter.unusedVariables false
set_option linter.unusedSimpArgs false
theorem rows_in {N : Nat} {arcs : List S35} (hg : Good N arcs) : ∀ v e : Int, 0 ≤ v → v < N → e ∈ rowOf (outZ N arcs) v → 0 ≤ endP arcs e ∧ endP arcs e < N := by
  intro v e v0 v1 he
  obtain ⟨n, a, b, c⟩ := ((outZ_rel hg).2 v v0 v1 e).1 he
  subst b
  rw [endP_N arcs n a]
  exact (tl_in hg n a).2.2
structure NetD (N : Nat) (arcs : List S35) (s : Int) (l1 D : List Int) (G : List Bool) : Prop where
  value : wax_Value.f N arcs = some (s, 0)
  flow : wax_Flow.f N arcs = some (flowL l1 arcs.length, 0)
  least : wax_Least.f N arcs = some (leastL D, 0)
  great : wax_Greatest.f N arcs = some (G, 0)
  s0 : 0 ≤ s
  lok : LOK false arcs l1
  res : ∀ T, resF T arcs l1 = costF false T arcs - s * (ind T 0 - ind T ((N : Int) - 1))
  lv : LvD arcs l1 (outZ N arcs) 0 N D
  gr : GrD arcs l1 (outZ N arcs) ((N : Int) - 1) N G
  no : rd D ((N : Int) - 1) < 0
theorem netD {N : Nat} {arcs : List S35} (h : vdB N arcs = true) : ∃ s l1 D G, NetD N arcs s l1 D G := by
  obtain ⟨N', e1, a, b, c, d, e⟩ := vdB_facts h
  obtain rfl : N = N' := by omega
  obtain ⟨s, l1, d1, n1, hF, hs, hL, hr, hv, hn⟩ := fillZ_ok false N arcs 0 ((N : Int) - 1) (by omega) (by omega) d e (by omega) (by omega) (by omega)
  obtain ⟨D, hD, hvD⟩ := level_ok arcs l1 (outZ N arcs) 0 ((N : Int) - 1) N d1 n1 (by omega) (by omega) (rows_in d) fuelW (by unfold fuelW; omega)
  obtain ⟨G, hG, hgG⟩ := great_ok arcs l1 (outZ N arcs) 0 ((N : Int) - 1) N d1 n1 (by omega) (rows_in d) fuelW (by unfold fuelW; omega)
  have hno : rd D ((N : Int) - 1) < 0 := by
    refine Int.not_le.1 (fun hq => ?_)
    have h0 := reach_zero d hL hv
    have := least_in d hL hvD (fun v => decide (0 ≤ rd d1 v)) (by simp [hv.s0]) h0 (rd D ((N : Int) - 1)).toNat ((N : Int) - 1) (by omega) (by omega) (by omega)
    have := of_decide_eq_true this
    omega
  refine ⟨s, l1, D, G, ?_, ?_, ?_, ?_, hs, hL, hr, hvD, hgG, hno⟩
  · unfold wax_Value.f
    rw [if_pos h, Int.toNat_natCast, hF]
    rfl
  · unfold wax_Flow.f
    rw [if_pos h, Int.toNat_natCast, hF]
    rfl
  · unfold wax_Least.f
    rw [if_pos h, Int.toNat_natCast, hF, Option.bind_some]
    have hD' : levelP fuelW ((restP false N arcs 0 ((N : Int) - 1)).dat_ l1 d1 n1) = some D := hD
    rw [hD']
    rfl
  · unfold wax_Greatest.f
    rw [if_pos h, Int.toNat_natCast, hF, Option.bind_some]
    have hG' : greatP fuelW ((restP false N arcs 0 ((N : Int) - 1)).dat_ l1 d1 n1) = some G := hG
    rw [hG']
    rfl
section
variable {N : Nat} {arcs : List S35} {s : Int} {l1 D : List Int} {G : List Bool}
theorem NetD.min (h : NetD N arcs s l1 D G) (T : Int → Bool) (hT : side T 0 ((N : Int) - 1)) : s ≤ costF false T arcs := by
  have h1 := h.res T
  have h2 := resF_nonneg T h.lok
  rw [ind_side hT] at h1
  omega
theorem NetD.zero (h : NetD N arcs s l1 D G) (T : Int → Bool) (hT : side T 0 ((N : Int) - 1)) : costF false T arcs = s ↔ resF T arcs l1 = 0 := by
  have h1 := h.res T
  rw [ind_side hT] at h1
  omega
theorem leastL_rd (D : List Int) (x : Int) (x0 : 0 ≤ x) (x1 : x < D.length) : rdOf false (leastL D) x = decide (0 ≤ rd D x) := by
  obtain ⟨n, rfl⟩ : ∃ n : Nat, x = n := ⟨x.toNat, by omega⟩
  have h : n < D.length := by omega
  simp [rdOf, rd, leastL, h]
theorem NetD.least_rd (h : NetD N arcs s l1 D G) (x : Int) (x0 : 0 ≤ x) (x1 : x < N) : rdOf false (leastL D) x = decide (0 ≤ rd D x) := leastL_rd D x x0 (by rw [h.lv.len]; exact x1)
theorem NetD.least_side (h : NetD N arcs s l1 D G) (hN : 2 ≤ N) : side (fun v => rdOf false (leastL D) v) 0 ((N : Int) - 1) := by
  constructor
  · show rdOf false (leastL D) 0 = true
    rw [h.least_rd 0 (by omega) (by omega), h.lv.s0]
    rfl
  · show rdOf false (leastL D) ((N : Int) - 1) = false
    rw [h.least_rd _ (by omega) (by omega)]
    exact decide_eq_false (by have := h.no; omega)
theorem NetD.least_cost (h : NetD N arcs s l1 D G) (hN : 2 ≤ N) (hg : Good N arcs) : costF false (fun v => rdOf false (leastL D) v) arcs = s := by
  rw [costF_congr (N := N) false _ (fun v => decide (0 ≤ rd D v)) (fun v v0 v1 => h.least_rd v v0 v1) arcs hg]
  refine (h.zero _ ⟨by simp [h.lv.s0], ?_⟩).2 (reach_zero hg h.lok h.lv)
  exact decide_eq_false (by have := h.no; omega)
theorem NetD.great_side (h : NetD N arcs s l1 D G) (hN : 2 ≤ N) (hg : Good N arcs) : side (fun v => rdOf false G v) 0 ((N : Int) - 1) :=
  ⟨great_src hg h.lv h.gr h.no 0 (by omega) (by omega) (by rw [h.lv.s0]; omega), h.gr.s0⟩
theorem NetD.great_cost (h : NetD N arcs s l1 D G) (hN : 2 ≤ N) (hg : Good N arcs) : costF false (fun v => rdOf false G v) arcs = s :=
  (h.zero _ (h.great_side hN hg)).2 (great_zero hg h.lok h.gr)
theorem NetD.between (h : NetD N arcs s l1 D G) (hN : 2 ≤ N) (hg : Good N arcs) (T : Int → Bool) (hT : side T 0 ((N : Int) - 1)) (hc : costF false T arcs = s) (x : Int) (x0 : 0 ≤ x) (x1 : x < N) : (rdOf false (leastL D) x = true → T x = true) ∧ (T x = true → rdOf false G x = true) := by
  have h0 := (h.zero T hT).1 hc
  refine ⟨fun hx => ?_, fun hx => ?_⟩
  · rw [h.least_rd x x0 x1] at hx
    have := of_decide_eq_true hx
    exact least_in hg h.lok h.lv T hT.1 h0 (rd D x).toNat x x0 x1 (by omega)
  · cases hq : rdOf false G x with
    | true => rfl
    | false =>
      have := great_in hg h.lok h.gr T hT.2 h0 x x0 x1 hq
      rw [this] at hx
      cases hx
end
end Go.Proofs.Ytbamanjedfccpaa.HTab
end

section
set_option linter.unusedVariables false
set_option linter.unusedSimpArgs false
namespace Go.Proofs.Ytbamanjedfccpaa.HTab
open Go.RowKit Go.Proofs.YtbamanjedfccpaaW.PrintWords Go.Proofs.YtbamanjedfccpaaW.PrintLast Go.Proofs.YtbamanjedfccpaaW.PrintMore Go.Proofs.Ytbamanjedfccpaa.X
set_option linter.unusedVariables false
set_option linter.unusedSimpArgs false
theorem ovX_le (v : Int) : ∀ (l : List S34) (fl o o' : List Int), CapR l → ovF l fl o = some o' → -(1000000 * (l.length : Int)) ≤ ovX l fl v ∧ ovX l fl v ≤ 1000000 * (l.length : Int)
  | [], fl, o, o', hc, h => by simp [ovX]
  | a :: l, [], o, o', hc, h => by simp [ovF] at h
  | a :: l, f :: fl, o, o', hc, h => by
    simp only [ovF] at h
    split at h
    · cases h
    rename_i c1
    split at h
    · cases h
    rename_i c2
    have ih := ovX_le v l fl _ o' (fun b hb => hc b (List.mem_cons_of_mem _ hb)) h
    have hcap := hc a (List.mem_cons_self ..)
    simp only [ovX, List.length_cons]
    split <;> split <;> omega
theorem ind_eq (x v : Int) : ind (fun u => u == x) v = if v = x then 1 else 0 := by
  unfold ind
  by_cases h : v = x
  · rw [if_pos h, h]; simp
  · rw [if_neg h, if_neg (by simpa using h)]
theorem rep_zero (N : Nat) (x : Int) : rd (List.replicate N 0) x = 0 := by
  unfold rd
  rw [List.getD_eq_getElem?_getD, List.getElem?_replicate]
  split <;> rfl
theorem between_l0 (a s b : List Bool) (ha : a.length = s.length) (hb : b.length = s.length) (hl : s.length < 10000000000000) (h : ∀ x : Int, 0 ≤ x → x < s.length → (rdOf false a x = true → rdOf false s x = true) ∧ (rdOf false s x = true → rdOf false b x = true)) : ∀ (d i fu : Nat), i + d = s.length → d < fu → cantinglaw07_between.l0 fu a b s s.length i = some true
  | d, i, 0, hi, hf => by omega
  | 0, i, fu + 1, hi, hf => by
    simp only [cantinglaw07_between.l0]
    rw [if_neg (by omega)]
  | d + 1, i, fu + 1, hi, hf => by
    have ih := between_l0 a s b ha hb hl h d (i + 1) fu (by omega) (by omega)
    have hx := h (i : Int) (by omega) (by omega)
    simp only [cantinglaw07_between.l0]
    rw [if_pos (by omega), if_pos (by omega), if_pos (by omega), if_pos (by omega), if_pos (show (i : Int) < (b.length : Int) by omega), show wrap64 ((i : Int) + 1) = ((i + 1 : Nat) : Int) from wrap_add1 (by omega) (by omega), ih]
    revert hx
    cases rdOf false a (i : Int) <;> cases rdOf false s (i : Int) <;> cases rdOf false b (i : Int) <;> simp
theorem between_f (a s b : List Bool) (ha : a.length = s.length) (hb : b.length = s.length) (hl : s.length < 10000000000000) (h : ∀ x : Int, 0 ≤ x → x < s.length → (rdOf false a x = true → rdOf false s x = true) ∧ (rdOf false s x = true → rdOf false b x = true)) (fu : Nat) (hf : s.length + 2 ≤ fu) : cantinglaw07_between.f fu a s b = some true := by
  obtain ⟨fu, rfl⟩ : ∃ g, fu = g + 1 := ⟨fu - 1, by omega⟩
  unfold cantinglaw07_between.f
  rw [if_pos (by omega), show ((b.length : Int) != (s.length : Int)) = false by simp [hb]]
  simp only [cantinglaw07_between.j0, Bool.false_eq_true, if_false]
  have := between_l0 a s b ha hb hl h s.length 0 fu (by omega) (by omega)
  exact this
theorem check_ok {N : Nat} {l : List S34} (hv : vdB N (l.map cvA) = true) (fl : List Int) (hfl : fl.length = l.length) (s : List Bool) (hs : s.length = N) (hg : GoodR N l) (o' : List Int) (ho : ovF l fl (List.replicate N 0) = some o') (hi : innB o' (N - 2) 1 = true) (h0 : rdOf false s 0 = true) (h1 : rdOf false s ((N : Int) - 1) = false) (hc : wrap64 (-(rd o' 0)) = csF s l 0) :
    wax_Check.f 1001 N (l.map cvA) fl s = some (true, 0) := by
  obtain ⟨N', e1, a, b, c, d, e⟩ := vdB_facts hv
  obtain rfl : N = N' := by omega
  rw [List.length_map] at c
  have hC : ∀ fu, 170 ≤ fu → wax_Net_cost.f fu N (l.map cvA) s = some (csF s l 0) := fun fu hf => by
    unfold wax_Net_cost.f
    have := cost_l0 N a b l c hg s hs l.length 0 fu 0 (by omega) (by omega)
    rw [List.length_map]
    exact this
  have hW := wcheck_l0 N a b l c hg fl (by omega) s hs (csF s l 0) hC l.length 0 1001 (List.replicate N 0) (by omega) (by omega) (by simp)
  simp only [List.drop_zero] at hW
  unfold wax_Check.f wax_Net_valid.f
  rw [hv]
  simp only [Option.bind_some, if_true]
  rw [List.length_map, if_pos (by omega), if_pos (by omega), if_pos (by omega), if_pos (by omega), Int.toNat_natCast]
  have hW' : wax_Check.l0 1001 fl s (List.replicate N 0) (l.map cvA) (l.length : Int) 0 N (l.map cvA) = _ := hW
  rw [hW', ho]
  dsimp only
  rw [hi, cond_true]
  unfold finC
  rw [h0, h1, hc]
  simp
theorem dual_f (n : Int) (l : List S34) (fl : List Int) (s : List Bool) (hl : l.length < 10000000000000) : cantinglaw07_WaxDual.f 1001 n l fl s = some true := by
  unfold cantinglaw07_WaxDual.f
  rw [net_f l hl n 1001 (by omega)]
  simp only [Option.bind_some]
  cases hv : vdB n (netL l) with
  | false =>
    have : wax_Flow.f n (netL l) = some ([], 2) := by unfold wax_Flow.f; rw [hv]; rfl
    rw [this, awake_f]
    rfl
  | true =>
    obtain ⟨N, rfl, a, b, c, d, e⟩ := vdB_facts hv
    have hlen : l.length ≤ 160 := by
      have : (netL l).length = min 162 l.length := by unfold netL; simp
      omega
    have hnl := netL_all (l := l) (by omega)
    rw [hnl] at hv c d e ⊢
    have hg : GoodR N l := bad_good (vdB_iff.1 hv).2.2.2
    have hc : CapR l := fun a ha => e (cvA a) (List.mem_map_of_mem ha)
    obtain ⟨w, l1, D, G, h⟩ := netD hv
    have hfl := flL_len l l1 h.lok
    have hflow := h.flow
    rw [List.length_map, flowL_eq l l1 h.lok] at hflow
    obtain ⟨o', ho⟩ := ov_some l l1 (List.replicate N 0) h.lok
    have hov : ∀ x : Int, 0 ≤ x → x < N → rd o' x = -(w * (ind (fun u => u == x) 0 - ind (fun u => u == x) ((N : Int) - 1))) := fun x x0 x1 => by
      have h1 := ovF_sum l (flL l1) (List.replicate N 0) o' 0 hg hc (by simp) (fun y _ _ => by rw [rep_zero]; omega) (by omega) (by omega) ho x x0 x1
      rw [h1, rep_zero, ov_res x l l1 h.lok, h.res]
      omega
    have hw2 : w ≤ 320000000 := by
      have h1 := h.least_cost a d
      have h2 := (costF_le false (fun v => rdOf false (leastL D) v) (l.map cvA) e).2
      rw [List.length_map] at h2
      omega
    have hi : innB o' (N - 2) 1 = true := innB_all o' (N - 2) 1 (fun j j1 j2 => by
      rw [hov (j : Int) (by omega) (by omega)]
      rw [ind_eq, ind_eq, if_neg (by omega), if_neg (by omega)]
      simp)
    have h00 : rd o' 0 = -w := by
      rw [hov 0 (by omega) (by omega)]
      rw [ind_eq, ind_eq, if_pos rfl, if_neg (by omega)]
      simp
    have hw0 := h.s0
    have hwr : wrap64 (-(rd o' 0)) = w := by
      rw [h00, Int.neg_neg]
      exact wrap_id (by omega) (by omega)
    have hcs : ∀ s : List Bool, csF s l 0 = costF false (fun v => rdOf false s v) (l.map cvA) := fun s => by
      rw [csF_cost s l 0 hc (by omega) (by omega), Int.zero_add]
    have k1 := check_ok hv (flL l1) hfl (leastL D) (by unfold leastL; rw [List.length_map]; exact h.lv.len) hg o' ho hi (h.least_side a).1 (h.least_side a).2 (by rw [hwr, hcs]; exact (h.least_cost a d).symm)
    have k2 := check_ok hv (flL l1) hfl G h.gr.len hg o' ho hi (h.great_side a d).1 (h.great_side a d).2 (by rw [hwr, hcs]; exact (h.great_cost a d).symm)
    rw [hflow, h.value, h.least, h.great]
    simp only [Option.bind_some, if_true]
    rw [k1, k2]
    simp only [Option.bind_some, if_true, Bool.not_true]
    have j1 : cantinglaw07_WaxDual.j1 1000 s w (leastL D) G N l = some true := by
      simp only [cantinglaw07_WaxDual.j1, awake_f, Option.bind_some]
      by_cases q : (s.length : Int) = (N : Int)
      · rw [if_pos q]
        have hs : s.length = N := by omega
        have hS := side_l0 N a b l hlen hg s hs l.length 0 999 0 (by omega) (by omega)
        simp only [List.drop_zero] at hS
        have hS' : cantingref07_Side.f 999 N l s = _ := hS
        rw [hS', hcs]
        simp only [Option.bind_some]
        cases hb : (rdOf false s 0 && !rdOf false s ((N : Int) - 1)) with
        | false => rfl
        | true =>
          have hT : side (fun v => rdOf false s v) 0 ((N : Int) - 1) := by
            rw [Bool.and_eq_true, Bool.not_eq_true'] at hb
            exact hb
          have hm := h.min _ hT
          rw [if_pos rfl, if_neg (by omega)]
          by_cases q2 : costF false (fun v => rdOf false s v) (l.map cvA) = w
          · rw [if_pos q2, between_f (leastL D) s G (by unfold leastL; rw [List.length_map, h.lv.len, hs]) (by rw [h.gr.len, hs]) (by omega) (fun x x0 x1 => h.between a d _ hT q2 x x0 (by omega)) 999 (by omega)]
            rfl
          · rw [if_neg q2]
      · rw [if_neg q]
    simp only [cantinglaw07_WaxDual.j0, Bool.false_eq_true, if_false]
    by_cases q : (fl.length : Int) = (l.length : Int)
    · rw [if_pos q]
      have hR := rflow_l0 N a b l hlen hg fl (by omega) l.length 0 1000 (List.replicate N 0) (by omega) (by omega) (by simp)
      simp only [List.drop_zero] at hR
      have hR' : cantingref07_Flow.f 1000 N l fl = match ovF l fl (List.replicate N 0) with | none => some (0, false) | some o' => cond (innB o' (N - 2) 1) (some (wrap64 (-(rd o' 0)), true)) (some (0, false)) := by
        unfold cantingref07_Flow.f
        rw [if_pos (by omega), if_pos (by omega), Int.toNat_natCast]
        exact hR
      rw [hR']
      cases ho2 : ovF l fl (List.replicate N 0) with
      | none => exact j1
      | some o2 =>
        dsimp only
        cases hi2 : innB o2 (N - 2) 1 with
        | false => exact j1
        | true =>
          have f1 := flow_le a b hg hc hlen ho2 hi2 _ (h.least_side a)
          rw [h.least_cost a d] at f1
          have f2 := ovF_sum l fl (List.replicate N 0) o2 0 hg hc (by simp) (fun y _ _ => by rw [rep_zero]; omega) (by omega) (by omega) ho2 0 (by omega) (by omega)
          rw [rep_zero] at f2
          have f3 := ovX_le 0 l fl _ o2 hc ho2
          have f4 : wrap64 (-(rd o2 0)) = -(rd o2 0) := wrap_id (by omega) (by omega)
          simp only [cond_true, Option.bind_some, if_true]
          rw [f4, if_neg (by omega)]
          exact j1
    · rw [if_neg q]
      exact j1
end Go.Proofs.Ytbamanjedfccpaa.HTab
end

section
set_option linter.unusedVariables false
set_option linter.unusedSimpArgs false
namespace Go.Proofs.Ytbamanjedfccpaa.waxDual
open Go.ChangeShapes Go.WideShapes Go.ChangeAt Go.RowKit Go.Proofs.YtbamanjedfccpaaW.PrintWords Go.Proofs.Ytbamanjedfccpaa.HTab Go.Proofs.Ytbamanjedfccpaa.X
open Go.ChangeMaps (open_string shut_string)
set_option linter.unusedVariables false
theorem own : ownKnob Try.prog.godebug = none := by kernel_rfl
theorem laidOut : laidOutB Try.prog = true := by kernel_rfl
set_option maxRecDepth 100000 in
theorem lifted (os : Os) (started : os.Started) (H : Type) (enc : TypeId × Value → H) :
    ReturnsInHanded {} Try.checked os 10 .any (Rows.waxDualSpec.pre6 enc Try.prog Try.f10 Rows.waxDualRow.domain false) (Rows.waxDualSpec.post enc Try.prog Try.f10 false true false false) := by
  refine returnsInHanded_of_change_sized (C := Try.checked) own started (by kernel_rfl) Try.func10
    (ChangeSpec.witness6 (enc := enc) (C := Try.checked) false ⟨#[], #[.agg #[.int .i64 0, .slice none 0 0], .slice none 0 0, .slice none 0 0], []⟩ 8 (by kernel_rfl) (by kernel_rfl) (by kernel_rfl) (by kernel_rfl)) ?_
  intro W base args ds gs before hval0 hW hcnd hsz0 _
  have hsz : (DataW.weightsEach Try.prog (Try.f10.params.toList ++ Rows.waxDualSpec.plain.varTypes Try.prog) (ds ++ gs)).all (· ≤ reachBytes) = true := hsz0
  have hval : ∀ (j : Nat) t v, Try.f10.params[j]? = some t → args[j]? = some v → Value.okWide Try.prog W .any base t v := hval0
  have hW' := hW
  obtain ⟨p, q, hA0, hV, rfl, hfz, hnd⟩ := hW
  have hA : DataW.TrodAll enc Try.prog W 0 (fun _ => true) true Try.f10.params.toList args.toList ds p := hA0
  rw [Try.params10] at hA hval hsz
  obtain ⟨v0, vs0, d0, ds0, p0, q0, hargs, rfl, rfl, h0, r0⟩ := trodAll_cons hA
  obtain ⟨v1, vs1, d1, ds1, p1, q1, rfl, rfl, rfl, h1, r1⟩ := trodAll_cons r0
  obtain ⟨v2, vs2, d2, ds2, p2, q2, rfl, rfl, rfl, h2, r2⟩ := trodAll_cons r1
  obtain ⟨rfl, rfl, rfl⟩ := trodAll_nil r2
  obtain rfl : args = #[v0, v1, v2] := by cases args; simp_all
  obtain ⟨rfl, rfl⟩ := trodVars_none hV
  have k0 := h0
  have lt0 : ∀ x ∈ p0, x.block < W.heap.size := by obtain ⟨m, hm⟩ := k0; exact DataW.trod_lt m _ _ _ hm
  obtain ⟨n0, A0, c0, l0, rfl, C0, L0, B0, wn0⟩ := open_net (hval 0 24 v0 rfl rfl) h0 hsz (j := 0) rfl rfl
  have k1 := h1
  have lt1 : ∀ x ∈ p1, x.block < W.heap.size := by obtain ⟨m, hm⟩ := k1; exact DataW.trod_lt m _ _ _ hm
  obtain ⟨A1, c1, l1, rfl, C1, L1, B1, w1⟩ := open_ints_ (hval 1 40 v1 rfl rfl) h1 hsz (j := 1) rfl rfl
  have k2 := h2
  have lt2 : ∀ x ∈ p2, x.block < W.heap.size := by obtain ⟨m, hm⟩ := k2; exact DataW.trod_lt m _ _ _ hm
  obtain ⟨A2, c2, l2, rfl, C2, L2, B2⟩ := open_bools (hval 2 45 v2 rfl rfl) h2 hsz (j := 2) rfl rfl
  clear hA0 hval0 hsz0 hsz
  refine ((cantinglaw07_WaxDual.calls 1001 n0 A0 c0 l0 A1 c1 l1 A2 c2 l2 true W C0 L0 C1 L1 C2 L2 (dual_f n0 l0 l1 l2 B0))).mono fun e W' ⟨he, bel⟩ => ?_
  subst he
  exact ⟨_, rfl, _, _, _, [], _, [], hW', trodAll_mk1 (shut_bool Try.underlying4 _), (trodAll_cons_mk (Below.trod laidOut (by kernel_rfl) (of_decide_eq_true (by kernel_rfl)) k0 bel lt0) (trodAll_cons_mk (Below.trod laidOut (by kernel_rfl) (of_decide_eq_true (by kernel_rfl)) k1 bel lt1) (trodAll_cons_mk (Below.trod laidOut (by kernel_rfl) (of_decide_eq_true (by kernel_rfl)) k2 bel lt2) trodAll_mk0))), rfl, bel.frame _, fun h => by cases h⟩
theorem over : Rows.waxDualRow.holds Try.pinned (OpenSpec.ofChange Rows.waxDualSpec) :=
  OpenClaim.holds_of_wide 10 Try.f10 rfl rfl rfl rfl rfl rfl rfl ⟨rfl, rfl, rfl, rfl, rfl⟩ rfl rfl rfl rfl rfl (by kernel_rfl) Try.func10 (by kernel_rfl)
    (of_decide_eq_true (by kernel_rfl)) (by unfold Func.isWrapper; first | (rw [if_pos (by decide +kernel)]; kernel_rfl) | (rw [if_neg (by decide +kernel)]; exact ⟨rfl, rfl⟩))
    (fun os started H enc _ => lifted os started H enc)
theorem proved : Rows.WaxDualSaid := over
end Go.Proofs.Ytbamanjedfccpaa.waxDual
namespace Go.Proofs.Ytbamanjedfccpaa
theorem waxDual_holds : Rows.WaxDualSaid := waxDual.proved
end Go.Proofs.Ytbamanjedfccpaa
#print axioms Go.Proofs.Ytbamanjedfccpaa.waxDual_holds
end
