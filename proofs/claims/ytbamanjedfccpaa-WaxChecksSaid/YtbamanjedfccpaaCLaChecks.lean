/- The law WaxChecks holds of the program, for every input that its statement lets in. -/
import Derived.Test.YtbamanjedfccpaaBc
import Derived.Test.YtbamanjedfccpaaBi
import Derived.Test.YtbamanjedfccpaaBl
import Derived.Test.YtbamanjedfccpaaBm
import Derived.Test.YtbamanjedfccpaaRows
import Derived.Test.YtbamanjedfccpaaBj
import Derived.WalkKit
import Derived.ProofKit
import Derived.OpenShut
import Derived.ShutString
import Derived.ChangeOld
import Derived.Below
import Derived.SizedLaws
import Derived.Test.YtbamanjedfccpaaBb
section
set_option linter.unusedVariables false
set_option linter.unusedSimpArgs false
namespace Go.Proofs.Ytbamanjedfccpaa.X
open Go.RowKit Go.Proofs.YtbamanjedfccpaaW.PrintWords Go.Proofs.YtbamanjedfccpaaW.PrintLast Go.Proofs.YtbamanjedfccpaaW.PrintMore
attribute [local go_sem] max2_int min2_int max_two min_two max_three min_three max_four min_four   -- for this text's walks alone
set_option linter.unusedVariables false
set_option linter.unusedSimpArgs false
def cantinglaw07_WaxChecks.f (k : Nat) (a0_0 : Int) (l0_1 : List (S34)) (l1 : List Int) (l2 : List Bool) : Option (Bool) := (cantinglaw07_net.f k a0_0 l0_1).bind fun bt339 => ((wax_Check.f k bt339.1 bt339.2 l1 l2).bind fun bt343 => ((cantingref07_Check.f k a0_0 l0_1 l1 l2).bind fun bt345 => (if (bt343.1 == bt345.1) = true then (if bt343.2 = bt345.2 then ((cantinglaw07_awake.f).bind fun t347 => (some t347)) else (some false)) else (some false))))
theorem cantinglaw07_WaxChecks.mono : ∀ a0 a1 a2 a3 k, LeO (cantinglaw07_WaxChecks.f k a0 a1 a2 a3) (cantinglaw07_WaxChecks.f (k + 1) a0 a1 a2 a3) := by
  intro a0 a1 a2 a3 k
  unfold cantinglaw07_WaxChecks.f
  repeat' first
      | (with_reducible exact cantinglaw07_net.mono _ _ _)
      | (with_reducible exact cantingref07_Check.mono _ _ _ _ _)
      | (with_reducible exact wax_Check.mono _ _ _ _ _)
      | (with_reducible exact LeO.refl _)
      | (with_reducible exact LeO.none _)
      | (with_reducible refine LeO.ite ?_ ?_)
      | (with_reducible refine LeO.bind ?_ (fun _ => ?_))
      | exact cantinglaw07_net.mono _ _ _
      | exact cantingref07_Check.mono _ _ _ _ _
      | exact wax_Check.mono _ _ _ _ _
      | exact LeO.none _
      | refine LeO.ite ?_ ?_
      | refine LeO.bind ?_ (fun _ => ?_)
set_option maxHeartbeats 8000000 in
set_option maxRecDepth 100000 in
theorem cantinglaw07_WaxChecks.calls (k : Nat) (a0_0 : Int) (A0_1 : Option Addr) (c0_1 : Nat) (l0_1 : List (S34)) (A1 : Option Addr) (c1 : Nat) (l1 : List Int) (A2 : Option Addr) (c2 : Nat) (l2 : List Bool) (r : Bool) (w : World) (hr0_1 : Kd.C k34 w A0_1 l0_1.length l0_1) (hc0_1 : l0_1.length ≤ c0_1) (hr1 : Kd.C (Kd.int .i64) w A1 l1.length l1) (hc1 : l1.length ≤ c1) (hr2 : Kd.C Kd.bool w A2 l2.length l2) (hc2 : l2.length ≤ c2) (h : cantinglaw07_WaxChecks.f k a0_0 l0_1 l1 l2 = some r) :
    Calls Try.prog 6 #[.agg #[.int .i64 a0_0, .slice A0_1 l0_1.length c0_1], .slice A1 l1.length c1, .slice A2 l2.length c2] w fun e w' => e = .returned (.bool r) ∧ Below w.heap.size w w' := by
  have hu24 := Try.underlying24
  have HR0_1 := Aside0.mk hr0_1
  have HC0_1 := Aside0.mk hc0_1
  clear hr0_1 hc0_1
  have HR1 := Aside0.mk hr1
  have HC1 := Aside0.mk hc1
  clear hr1 hc1
  have HR2 := Aside0.mk hr2
  have HC2 := Aside0.mk hc2
  clear hr2 hc2
  have HB := Aside0.mk (Below.refl w.heap.size w)
  have H : ((cantinglaw07_net.f k a0_0 l0_1).bind fun bt339 => ((wax_Check.f k bt339.1 bt339.2 l1 l2).bind fun bt343 => ((cantingref07_Check.f k a0_0 l0_1 l1 l2).bind fun bt345 => (if (bt343.1 == bt345.1) = true then (if bt343.2 = bt345.2 then ((cantinglaw07_awake.f).bind fun t347 => (some t347)) else (some false)) else (some false))))) = some r := h
  clear h
  replace H := Option.bind_eq_some_iff.mp H
  obtain ⟨⟨t339, t340⟩, A40, H⟩ := H
  replace H : ((wax_Check.f k t339 t340 l1 l2).bind fun bt343 => ((cantingref07_Check.f k a0_0 l0_1 l1 l2).bind fun bt345 => (if (bt343.1 == bt345.1) = true then (if bt343.2 = bt345.2 then ((cantinglaw07_awake.f).bind fun t347 => (some t347)) else (some false)) else (some false)))) = some r := H
  have A4 := Aside0.mk A40
  clear A40
  replace H := Option.bind_eq_some_iff.mp H
  obtain ⟨⟨t343, t344⟩, A50, H⟩ := H
  replace H : ((cantingref07_Check.f k a0_0 l0_1 l1 l2).bind fun bt345 => (if (t343 == bt345.1) = true then (if t344 = bt345.2 then ((cantinglaw07_awake.f).bind fun t347 => (some t347)) else (some false)) else (some false))) = some r := H
  have A5 := Aside0.mk A50
  clear A50
  replace H := Option.bind_eq_some_iff.mp H
  obtain ⟨⟨t345, t346⟩, A60, H⟩ := H
  replace H : (if (t343 == t345) = true then (if t344 = t346 then ((cantinglaw07_awake.f).bind fun t347 => (some t347)) else (some false)) else (some false)) = some r := H
  have A6 := Aside0.mk A60
  clear A60
  by_cases c7 : (t343 == t345) = true
  · rw [if_pos c7] at H
    have c7b0 : (t343 == t345) = true := c7
    (try (have c7b1 : decide (t343 = t345) = true := by simpa using c7))
    (try (have c7b2 : (t343 == t345) = true := by simpa using c7))
    clear c7
    by_cases c8 : t344 = t346
    · rw [if_pos c8] at H
      have c8b0 : (t344 == t346) = true := beq_iff_eq.mpr c8
      have c8b1 : (t344 != t346) = false := bne_eq_false_iff_eq.mpr c8
      clear c8
      replace H := Option.bind_eq_some_iff.mp H
      obtain ⟨t347, A90, H⟩ := H
      replace H : (some t347) = some r := H
      have A9 := Aside0.mk A90
      clear A90
      obtain rfl := Option.some.inj H
      go_enter Try.func6, Try.ntmps6
      go_wp2_with (first | ((with_reducible refine gate_dst (N := 3) rfl ?_); refine box_event ?hg (N := 3) ?hd (cs := #[.int .i64 a0_0, .slice A0_1 l0_1.length c0_1]) (t := 24) ?hr ?_; (case hd => rfl); (case hg => rfl); (case hr => first | (go_simp; done) | (go_simp; rfl)); intro gb338 hg w10 hbox hb; have n0_ := Aside0.mk (below_step (by repeat (first | (with_reducible first | exact HB.out | apply below_alloc | apply pw_below_drewN | apply below_drew1) | exact HB.out)) hb); have n1_ := Aside0.mk (hbox); have n2_ := Aside0.mk ((by rw [hg]; exact (below_size (by repeat (first | (with_reducible first | exact HB.out | apply below_alloc | apply pw_below_drewN | apply below_drew1) | exact HB.out))) : w.heap.size ≤ gb338)); have n3_ := Aside0.mk ((by rw [hg]; exact (below_size (by repeat (first | (with_reducible first | exact HB.out | apply below_alloc | apply pw_below_drewN | apply below_drew1) | exact HB.out))) : w.heap.size ≤ gb338)); clear HB; have HB := n0_; have BK338 := n1_; have GW338 := n2_; have GE338 := n3_; clear n0_ n1_ n2_ n3_; clear hb hbox hg; have hcz11_0 : w10.cell? ⟨gb338, 0, none⟩ = some (.int .i64 a0_0) := (blk_cell BK338.out 0).trans rfl; have hcz11_1 : w10.cell? ⟨gb338, 1, none⟩ = some (.slice A0_1 l0_1.length c0_1) := (blk_cell BK338.out 1).trans rfl; have hfz11_0 := blk_frozen BK338.out 0; have hfz11_1 := blk_frozen BK338.out 1) | ((with_reducible refine gate_callee (f := 17) rfl ?_); refine goesL_ (some 13) rfl rfl Try.func17 (by kernel_rfl) rfl #[.agg #[.int .i64 a0_0, .slice A0_1 l0_1.length c0_1]] rfl (by (try simp only [List.map_toArray, List.map_cons, List.map_nil]); first | done | rfl | (simp only [List.length_drop, List.length_take]; rfl)) ?_; (with_reducible refine (cantinglaw07_net.calls k a0_0 _ _ l0_1 t339 t340 _ ?side1 ?side2 A4.out).mono ?_); (case side1 => repeat (first | exact (Kd.C_below HR0_1.out HB.out) | (with_reducible refine Kd.C_alloc ?_ _) | (with_reducible refine Kd.C_drewN ?_ _) | (with_reducible refine Kd.C_drew ?_))); (case side2 => exact HC0_1.out); rintro e w12 ⟨v341, rfl, ho0, hb⟩; refine ⟨_, rfl, ?_⟩; have n0_ := Aside0.mk (Kd.R_lower ho0 (below_size (by repeat (first | (with_reducible first | exact HB.out | apply below_alloc | apply pw_below_drewN | apply below_drew1 | refine below_set ?_ GE338.out) | exact HB.out)))); have n1_ := Aside0.mk (blk_below (g := gb338) (o := .cells #[.int .i64 a0_0, .slice A0_1 l0_1.length c0_1] 24 (0, 0)) (by (with_reducible repeat (first | refine blk_drewN ?_ _ | refine blk_drew ?_ | refine blk_alloc ?_ _)); exact BK338.out) hb); have n2_ := Aside0.mk (below_step (by repeat (first | (with_reducible first | exact HB.out | apply below_alloc | apply pw_below_drewN | apply below_drew1 | refine below_set ?_ GE338.out) | exact HB.out)) hb); clear BK338; clear HB; have HO342 := n0_; have BK338 := n1_; have HB := n2_; clear n0_ n1_ n2_; (try clear hb); (try clear hb2); (try clear hk); (try clear hi); (try clear ho0); obtain ⟨Ao13, co13, eo13⟩ := Kd.R_slice HO342.out; subst eo13) | ((with_reducible refine gate_callee (f := 23) rfl ?_); refine goesL_ (some 16) rfl rfl Try.func23 (by kernel_rfl) rfl #[.agg #[.int .i64 t339, .slice Ao13 t340.length co13], .slice A1 l1.length c1, .slice A2 l2.length c2] rfl (by (try simp only [List.map_toArray, List.map_cons, List.map_nil]); first | done | rfl | (simp only [List.length_drop, List.length_take]; rfl)) ?_; (with_reducible refine (wax_Check.calls k t339 _ _ t340 _ _ l1 _ _ l2 t343 t344 _ ?side1 ?side2 ?side3 ?side4 ?side5 ?side6 A5.out).mono ?_); (case side1 => repeat (first | exact (Kd.R_reads' HO342.out).2.2 | (with_reducible refine Kd.C_alloc ?_ _) | (with_reducible refine Kd.C_drewN ?_ _) | (with_reducible refine Kd.C_drew ?_))); (case side2 => exact (Kd.R_reads' HO342.out).2.1); (case side3 => repeat (first | exact (Kd.C_below HR1.out HB.out) | (with_reducible refine Kd.C_alloc ?_ _) | (with_reducible refine Kd.C_drewN ?_ _) | (with_reducible refine Kd.C_drew ?_))); (case side4 => exact HC1.out); (case side5 => repeat (first | exact (Kd.C_below HR2.out HB.out) | (with_reducible refine Kd.C_alloc ?_ _) | (with_reducible refine Kd.C_drewN ?_ _) | (with_reducible refine Kd.C_drew ?_))); (case side6 => exact HC2.out); rintro e w14 ⟨rfl, hb⟩; refine ⟨_, rfl, ?_⟩; have n0_ := Aside0.mk (Kd.R_below (by (with_reducible repeat (first | apply Kd.R_alloc | apply Kd.R_drewN | apply Kd.R_drew)); exact HO342.out) hb); have n1_ := Aside0.mk (blk_below (g := gb338) (o := .cells #[.int .i64 a0_0, .slice A0_1 l0_1.length c0_1] 24 (0, 0)) (by (with_reducible repeat (first | refine blk_drewN ?_ _ | refine blk_drew ?_ | refine blk_alloc ?_ _)); exact BK338.out) hb); have n2_ := Aside0.mk (below_step (by repeat (first | (with_reducible first | exact HB.out | apply below_alloc | apply pw_below_drewN | apply below_drew1 | refine below_set ?_ GE338.out) | exact HB.out)) hb); clear HO342; clear BK338; clear HB; have HO342 := n0_; have BK338 := n1_; have HB := n2_; clear n0_ n1_ n2_; (try clear hb); (try clear hb2); (try clear hk); (try clear hi); have hcz15_0 : w14.cell? ⟨gb338, 0, none⟩ = some (.int .i64 a0_0) := (blk_cell BK338.out 0).trans rfl; have hcz15_1 : w14.cell? ⟨gb338, 1, none⟩ = some (.slice A0_1 l0_1.length c0_1) := (blk_cell BK338.out 1).trans rfl; have hfz15_0 := blk_frozen BK338.out 0; have hfz15_1 := blk_frozen BK338.out 1) | ((with_reducible refine gate_callee (f := 24) rfl ?_); refine goesL_ (some 23) rfl rfl Try.func24 (by kernel_rfl) rfl #[.agg #[.int .i64 a0_0, .slice A0_1 l0_1.length c0_1], .slice A1 l1.length c1, .slice A2 l2.length c2] rfl (by (try simp only [List.map_toArray, List.map_cons, List.map_nil]); first | done | rfl | (simp only [List.length_drop, List.length_take]; rfl)) ?_; (with_reducible refine (cantingref07_Check.calls k a0_0 _ _ l0_1 _ _ l1 _ _ l2 t345 t346 _ ?side1 ?side2 ?side3 ?side4 ?side5 ?side6 A6.out).mono ?_); (case side1 => repeat (first | exact (Kd.C_below HR0_1.out HB.out) | (with_reducible refine Kd.C_alloc ?_ _) | (with_reducible refine Kd.C_drewN ?_ _) | (with_reducible refine Kd.C_drew ?_))); (case side2 => exact HC0_1.out); (case side3 => repeat (first | exact (Kd.C_below HR1.out HB.out) | (with_reducible refine Kd.C_alloc ?_ _) | (with_reducible refine Kd.C_drewN ?_ _) | (with_reducible refine Kd.C_drew ?_))); (case side4 => exact HC1.out); (case side5 => repeat (first | exact (Kd.C_below HR2.out HB.out) | (with_reducible refine Kd.C_alloc ?_ _) | (with_reducible refine Kd.C_drewN ?_ _) | (with_reducible refine Kd.C_drew ?_))); (case side6 => exact HC2.out); rintro e w16 ⟨rfl, hb⟩; refine ⟨_, rfl, ?_⟩; have n0_ := Aside0.mk (Kd.R_below (by (with_reducible repeat (first | apply Kd.R_alloc | apply Kd.R_drewN | apply Kd.R_drew)); exact HO342.out) hb); have n1_ := Aside0.mk (blk_below (g := gb338) (o := .cells #[.int .i64 a0_0, .slice A0_1 l0_1.length c0_1] 24 (0, 0)) (by (with_reducible repeat (first | refine blk_drewN ?_ _ | refine blk_drew ?_ | refine blk_alloc ?_ _)); exact BK338.out) hb); have n2_ := Aside0.mk (below_step (by repeat (first | (with_reducible first | exact HB.out | apply below_alloc | apply pw_below_drewN | apply below_drew1 | refine below_set ?_ GE338.out) | exact HB.out)) hb); clear HO342; clear BK338; clear HB; have HO342 := n0_; have BK338 := n1_; have HB := n2_; clear n0_ n1_ n2_; (try clear hb); (try clear hb2); (try clear hk); (try clear hi)) | (go_at_call 18; (with_reducible refine (cantinglaw07_awake.calls  t347 _ A9.out).mono ?_); rintro e w17 ⟨rfl, hb⟩; have n0_ := Aside0.mk (Kd.R_below (by (with_reducible repeat (first | apply Kd.R_alloc | apply Kd.R_drewN | apply Kd.R_drew)); exact HO342.out) hb); have n1_ := Aside0.mk (blk_below (g := gb338) (o := .cells #[.int .i64 a0_0, .slice A0_1 l0_1.length c0_1] 24 (0, 0)) (by (with_reducible repeat (first | refine blk_drewN ?_ _ | refine blk_drew ?_ | refine blk_alloc ?_ _)); exact BK338.out) hb); have n2_ := Aside0.mk (below_step (by repeat (first | (with_reducible first | exact HB.out | apply below_alloc | apply pw_below_drewN | apply below_drew1 | refine below_set ?_ GE338.out) | exact HB.out)) hb); clear HO342; clear BK338; clear HB; have HO342 := n0_; have BK338 := n1_; have HB := n2_; clear n0_ n1_ n2_; (try clear hb); (try clear hb2); (try clear hk); (try clear hi)))
      go_ret
      exact ⟨by first | rfl | (simp [errW_none, errW_some] <;> rfl) | (simp [*, errW_none, errW_some] <;> rfl), by repeat (first | (with_reducible first | exact HB.out | apply below_alloc | apply pw_below_drewN | apply below_drew1 | refine below_set ?_ GE338.out) | exact HB.out)⟩
    · rw [if_neg c8] at H
      have c8b0 : (t344 == t346) = false := beq_eq_false_iff_ne.mpr c8
      have c8b1 : (t344 != t346) = true := bne_iff_ne.mpr c8
      obtain rfl := Option.some.inj H
      go_enter Try.func6, Try.ntmps6
      go_wp2_with (first | ((with_reducible refine gate_dst (N := 3) rfl ?_); refine box_event ?hg (N := 3) ?hd (cs := #[.int .i64 a0_0, .slice A0_1 l0_1.length c0_1]) (t := 24) ?hr ?_; (case hd => rfl); (case hg => rfl); (case hr => first | (go_simp; done) | (go_simp; rfl)); intro gb338 hg w18 hbox hb; have n0_ := Aside0.mk (below_step (by repeat (first | (with_reducible first | exact HB.out | apply below_alloc | apply pw_below_drewN | apply below_drew1) | exact HB.out)) hb); have n1_ := Aside0.mk (hbox); have n2_ := Aside0.mk ((by rw [hg]; exact (below_size (by repeat (first | (with_reducible first | exact HB.out | apply below_alloc | apply pw_below_drewN | apply below_drew1) | exact HB.out))) : w.heap.size ≤ gb338)); have n3_ := Aside0.mk ((by rw [hg]; exact (below_size (by repeat (first | (with_reducible first | exact HB.out | apply below_alloc | apply pw_below_drewN | apply below_drew1) | exact HB.out))) : w.heap.size ≤ gb338)); clear HB; have HB := n0_; have BK338 := n1_; have GW338 := n2_; have GE338 := n3_; clear n0_ n1_ n2_ n3_; clear hb hbox hg; have hcz19_0 : w18.cell? ⟨gb338, 0, none⟩ = some (.int .i64 a0_0) := (blk_cell BK338.out 0).trans rfl; have hcz19_1 : w18.cell? ⟨gb338, 1, none⟩ = some (.slice A0_1 l0_1.length c0_1) := (blk_cell BK338.out 1).trans rfl; have hfz19_0 := blk_frozen BK338.out 0; have hfz19_1 := blk_frozen BK338.out 1) | ((with_reducible refine gate_callee (f := 17) rfl ?_); refine goesL_ (some 13) rfl rfl Try.func17 (by kernel_rfl) rfl #[.agg #[.int .i64 a0_0, .slice A0_1 l0_1.length c0_1]] rfl (by (try simp only [List.map_toArray, List.map_cons, List.map_nil]); first | done | rfl | (simp only [List.length_drop, List.length_take]; rfl)) ?_; (with_reducible refine (cantinglaw07_net.calls k a0_0 _ _ l0_1 t339 t340 _ ?side1 ?side2 A4.out).mono ?_); (case side1 => repeat (first | exact (Kd.C_below HR0_1.out HB.out) | (with_reducible refine Kd.C_alloc ?_ _) | (with_reducible refine Kd.C_drewN ?_ _) | (with_reducible refine Kd.C_drew ?_))); (case side2 => exact HC0_1.out); rintro e w20 ⟨v341, rfl, ho0, hb⟩; refine ⟨_, rfl, ?_⟩; have n0_ := Aside0.mk (Kd.R_lower ho0 (below_size (by repeat (first | (with_reducible first | exact HB.out | apply below_alloc | apply pw_below_drewN | apply below_drew1 | refine below_set ?_ GE338.out) | exact HB.out)))); have n1_ := Aside0.mk (blk_below (g := gb338) (o := .cells #[.int .i64 a0_0, .slice A0_1 l0_1.length c0_1] 24 (0, 0)) (by (with_reducible repeat (first | refine blk_drewN ?_ _ | refine blk_drew ?_ | refine blk_alloc ?_ _)); exact BK338.out) hb); have n2_ := Aside0.mk (below_step (by repeat (first | (with_reducible first | exact HB.out | apply below_alloc | apply pw_below_drewN | apply below_drew1 | refine below_set ?_ GE338.out) | exact HB.out)) hb); clear BK338; clear HB; have HO342 := n0_; have BK338 := n1_; have HB := n2_; clear n0_ n1_ n2_; (try clear hb); (try clear hb2); (try clear hk); (try clear hi); (try clear ho0); obtain ⟨Ao21, co21, eo21⟩ := Kd.R_slice HO342.out; subst eo21) | ((with_reducible refine gate_callee (f := 23) rfl ?_); refine goesL_ (some 16) rfl rfl Try.func23 (by kernel_rfl) rfl #[.agg #[.int .i64 t339, .slice Ao21 t340.length co21], .slice A1 l1.length c1, .slice A2 l2.length c2] rfl (by (try simp only [List.map_toArray, List.map_cons, List.map_nil]); first | done | rfl | (simp only [List.length_drop, List.length_take]; rfl)) ?_; (with_reducible refine (wax_Check.calls k t339 _ _ t340 _ _ l1 _ _ l2 t343 t344 _ ?side1 ?side2 ?side3 ?side4 ?side5 ?side6 A5.out).mono ?_); (case side1 => repeat (first | exact (Kd.R_reads' HO342.out).2.2 | (with_reducible refine Kd.C_alloc ?_ _) | (with_reducible refine Kd.C_drewN ?_ _) | (with_reducible refine Kd.C_drew ?_))); (case side2 => exact (Kd.R_reads' HO342.out).2.1); (case side3 => repeat (first | exact (Kd.C_below HR1.out HB.out) | (with_reducible refine Kd.C_alloc ?_ _) | (with_reducible refine Kd.C_drewN ?_ _) | (with_reducible refine Kd.C_drew ?_))); (case side4 => exact HC1.out); (case side5 => repeat (first | exact (Kd.C_below HR2.out HB.out) | (with_reducible refine Kd.C_alloc ?_ _) | (with_reducible refine Kd.C_drewN ?_ _) | (with_reducible refine Kd.C_drew ?_))); (case side6 => exact HC2.out); rintro e w22 ⟨rfl, hb⟩; refine ⟨_, rfl, ?_⟩; have n0_ := Aside0.mk (Kd.R_below (by (with_reducible repeat (first | apply Kd.R_alloc | apply Kd.R_drewN | apply Kd.R_drew)); exact HO342.out) hb); have n1_ := Aside0.mk (blk_below (g := gb338) (o := .cells #[.int .i64 a0_0, .slice A0_1 l0_1.length c0_1] 24 (0, 0)) (by (with_reducible repeat (first | refine blk_drewN ?_ _ | refine blk_drew ?_ | refine blk_alloc ?_ _)); exact BK338.out) hb); have n2_ := Aside0.mk (below_step (by repeat (first | (with_reducible first | exact HB.out | apply below_alloc | apply pw_below_drewN | apply below_drew1 | refine below_set ?_ GE338.out) | exact HB.out)) hb); clear HO342; clear BK338; clear HB; have HO342 := n0_; have BK338 := n1_; have HB := n2_; clear n0_ n1_ n2_; (try clear hb); (try clear hb2); (try clear hk); (try clear hi); have hcz23_0 : w22.cell? ⟨gb338, 0, none⟩ = some (.int .i64 a0_0) := (blk_cell BK338.out 0).trans rfl; have hcz23_1 : w22.cell? ⟨gb338, 1, none⟩ = some (.slice A0_1 l0_1.length c0_1) := (blk_cell BK338.out 1).trans rfl; have hfz23_0 := blk_frozen BK338.out 0; have hfz23_1 := blk_frozen BK338.out 1) | ((with_reducible refine gate_callee (f := 24) rfl ?_); refine goesL_ (some 23) rfl rfl Try.func24 (by kernel_rfl) rfl #[.agg #[.int .i64 a0_0, .slice A0_1 l0_1.length c0_1], .slice A1 l1.length c1, .slice A2 l2.length c2] rfl (by (try simp only [List.map_toArray, List.map_cons, List.map_nil]); first | done | rfl | (simp only [List.length_drop, List.length_take]; rfl)) ?_; (with_reducible refine (cantingref07_Check.calls k a0_0 _ _ l0_1 _ _ l1 _ _ l2 t345 t346 _ ?side1 ?side2 ?side3 ?side4 ?side5 ?side6 A6.out).mono ?_); (case side1 => repeat (first | exact (Kd.C_below HR0_1.out HB.out) | (with_reducible refine Kd.C_alloc ?_ _) | (with_reducible refine Kd.C_drewN ?_ _) | (with_reducible refine Kd.C_drew ?_))); (case side2 => exact HC0_1.out); (case side3 => repeat (first | exact (Kd.C_below HR1.out HB.out) | (with_reducible refine Kd.C_alloc ?_ _) | (with_reducible refine Kd.C_drewN ?_ _) | (with_reducible refine Kd.C_drew ?_))); (case side4 => exact HC1.out); (case side5 => repeat (first | exact (Kd.C_below HR2.out HB.out) | (with_reducible refine Kd.C_alloc ?_ _) | (with_reducible refine Kd.C_drewN ?_ _) | (with_reducible refine Kd.C_drew ?_))); (case side6 => exact HC2.out); rintro e w24 ⟨rfl, hb⟩; refine ⟨_, rfl, ?_⟩; have n0_ := Aside0.mk (Kd.R_below (by (with_reducible repeat (first | apply Kd.R_alloc | apply Kd.R_drewN | apply Kd.R_drew)); exact HO342.out) hb); have n1_ := Aside0.mk (blk_below (g := gb338) (o := .cells #[.int .i64 a0_0, .slice A0_1 l0_1.length c0_1] 24 (0, 0)) (by (with_reducible repeat (first | refine blk_drewN ?_ _ | refine blk_drew ?_ | refine blk_alloc ?_ _)); exact BK338.out) hb); have n2_ := Aside0.mk (below_step (by repeat (first | (with_reducible first | exact HB.out | apply below_alloc | apply pw_below_drewN | apply below_drew1 | refine below_set ?_ GE338.out) | exact HB.out)) hb); clear HO342; clear BK338; clear HB; have HO342 := n0_; have BK338 := n1_; have HB := n2_; clear n0_ n1_ n2_; (try clear hb); (try clear hb2); (try clear hk); (try clear hi)))
      go_ret
      exact ⟨by first | rfl | (simp [errW_none, errW_some] <;> rfl) | (simp [*, errW_none, errW_some] <;> rfl), by repeat (first | (with_reducible first | exact HB.out | apply below_alloc | apply pw_below_drewN | apply below_drew1 | refine below_set ?_ GE338.out) | exact HB.out)⟩
  · rw [if_neg c7] at H
    have c7b0 : (t343 == t345) = false := by simpa using c7
    (try (have c7b1 : decide (t343 = t345) = false := by simpa using c7))
    (try (have c7b2 : (t343 == t345) = false := by simpa using c7))
    (try (have c7b3 : ¬ (t343 = t345) := by simpa using c7))
    clear c7
    obtain rfl := Option.some.inj H
    go_enter Try.func6, Try.ntmps6
    go_wp2_with (first | ((with_reducible refine gate_dst (N := 3) rfl ?_); refine box_event ?hg (N := 3) ?hd (cs := #[.int .i64 a0_0, .slice A0_1 l0_1.length c0_1]) (t := 24) ?hr ?_; (case hd => rfl); (case hg => rfl); (case hr => first | (go_simp; done) | (go_simp; rfl)); intro gb338 hg w25 hbox hb; have n0_ := Aside0.mk (below_step (by repeat (first | (with_reducible first | exact HB.out | apply below_alloc | apply pw_below_drewN | apply below_drew1) | exact HB.out)) hb); have n1_ := Aside0.mk (hbox); have n2_ := Aside0.mk ((by rw [hg]; exact (below_size (by repeat (first | (with_reducible first | exact HB.out | apply below_alloc | apply pw_below_drewN | apply below_drew1) | exact HB.out))) : w.heap.size ≤ gb338)); have n3_ := Aside0.mk ((by rw [hg]; exact (below_size (by repeat (first | (with_reducible first | exact HB.out | apply below_alloc | apply pw_below_drewN | apply below_drew1) | exact HB.out))) : w.heap.size ≤ gb338)); clear HB; have HB := n0_; have BK338 := n1_; have GW338 := n2_; have GE338 := n3_; clear n0_ n1_ n2_ n3_; clear hb hbox hg; have hcz26_0 : w25.cell? ⟨gb338, 0, none⟩ = some (.int .i64 a0_0) := (blk_cell BK338.out 0).trans rfl; have hcz26_1 : w25.cell? ⟨gb338, 1, none⟩ = some (.slice A0_1 l0_1.length c0_1) := (blk_cell BK338.out 1).trans rfl; have hfz26_0 := blk_frozen BK338.out 0; have hfz26_1 := blk_frozen BK338.out 1) | ((with_reducible refine gate_callee (f := 17) rfl ?_); refine goesL_ (some 13) rfl rfl Try.func17 (by kernel_rfl) rfl #[.agg #[.int .i64 a0_0, .slice A0_1 l0_1.length c0_1]] rfl (by (try simp only [List.map_toArray, List.map_cons, List.map_nil]); first | done | rfl | (simp only [List.length_drop, List.length_take]; rfl)) ?_; (with_reducible refine (cantinglaw07_net.calls k a0_0 _ _ l0_1 t339 t340 _ ?side1 ?side2 A4.out).mono ?_); (case side1 => repeat (first | exact (Kd.C_below HR0_1.out HB.out) | (with_reducible refine Kd.C_alloc ?_ _) | (with_reducible refine Kd.C_drewN ?_ _) | (with_reducible refine Kd.C_drew ?_))); (case side2 => exact HC0_1.out); rintro e w27 ⟨v341, rfl, ho0, hb⟩; refine ⟨_, rfl, ?_⟩; have n0_ := Aside0.mk (Kd.R_lower ho0 (below_size (by repeat (first | (with_reducible first | exact HB.out | apply below_alloc | apply pw_below_drewN | apply below_drew1 | refine below_set ?_ GE338.out) | exact HB.out)))); have n1_ := Aside0.mk (blk_below (g := gb338) (o := .cells #[.int .i64 a0_0, .slice A0_1 l0_1.length c0_1] 24 (0, 0)) (by (with_reducible repeat (first | refine blk_drewN ?_ _ | refine blk_drew ?_ | refine blk_alloc ?_ _)); exact BK338.out) hb); have n2_ := Aside0.mk (below_step (by repeat (first | (with_reducible first | exact HB.out | apply below_alloc | apply pw_below_drewN | apply below_drew1 | refine below_set ?_ GE338.out) | exact HB.out)) hb); clear BK338; clear HB; have HO342 := n0_; have BK338 := n1_; have HB := n2_; clear n0_ n1_ n2_; (try clear hb); (try clear hb2); (try clear hk); (try clear hi); (try clear ho0); obtain ⟨Ao28, co28, eo28⟩ := Kd.R_slice HO342.out; subst eo28) | ((with_reducible refine gate_callee (f := 23) rfl ?_); refine goesL_ (some 16) rfl rfl Try.func23 (by kernel_rfl) rfl #[.agg #[.int .i64 t339, .slice Ao28 t340.length co28], .slice A1 l1.length c1, .slice A2 l2.length c2] rfl (by (try simp only [List.map_toArray, List.map_cons, List.map_nil]); first | done | rfl | (simp only [List.length_drop, List.length_take]; rfl)) ?_; (with_reducible refine (wax_Check.calls k t339 _ _ t340 _ _ l1 _ _ l2 t343 t344 _ ?side1 ?side2 ?side3 ?side4 ?side5 ?side6 A5.out).mono ?_); (case side1 => repeat (first | exact (Kd.R_reads' HO342.out).2.2 | (with_reducible refine Kd.C_alloc ?_ _) | (with_reducible refine Kd.C_drewN ?_ _) | (with_reducible refine Kd.C_drew ?_))); (case side2 => exact (Kd.R_reads' HO342.out).2.1); (case side3 => repeat (first | exact (Kd.C_below HR1.out HB.out) | (with_reducible refine Kd.C_alloc ?_ _) | (with_reducible refine Kd.C_drewN ?_ _) | (with_reducible refine Kd.C_drew ?_))); (case side4 => exact HC1.out); (case side5 => repeat (first | exact (Kd.C_below HR2.out HB.out) | (with_reducible refine Kd.C_alloc ?_ _) | (with_reducible refine Kd.C_drewN ?_ _) | (with_reducible refine Kd.C_drew ?_))); (case side6 => exact HC2.out); rintro e w29 ⟨rfl, hb⟩; refine ⟨_, rfl, ?_⟩; have n0_ := Aside0.mk (Kd.R_below (by (with_reducible repeat (first | apply Kd.R_alloc | apply Kd.R_drewN | apply Kd.R_drew)); exact HO342.out) hb); have n1_ := Aside0.mk (blk_below (g := gb338) (o := .cells #[.int .i64 a0_0, .slice A0_1 l0_1.length c0_1] 24 (0, 0)) (by (with_reducible repeat (first | refine blk_drewN ?_ _ | refine blk_drew ?_ | refine blk_alloc ?_ _)); exact BK338.out) hb); have n2_ := Aside0.mk (below_step (by repeat (first | (with_reducible first | exact HB.out | apply below_alloc | apply pw_below_drewN | apply below_drew1 | refine below_set ?_ GE338.out) | exact HB.out)) hb); clear HO342; clear BK338; clear HB; have HO342 := n0_; have BK338 := n1_; have HB := n2_; clear n0_ n1_ n2_; (try clear hb); (try clear hb2); (try clear hk); (try clear hi); have hcz30_0 : w29.cell? ⟨gb338, 0, none⟩ = some (.int .i64 a0_0) := (blk_cell BK338.out 0).trans rfl; have hcz30_1 : w29.cell? ⟨gb338, 1, none⟩ = some (.slice A0_1 l0_1.length c0_1) := (blk_cell BK338.out 1).trans rfl; have hfz30_0 := blk_frozen BK338.out 0; have hfz30_1 := blk_frozen BK338.out 1) | ((with_reducible refine gate_callee (f := 24) rfl ?_); refine goesL_ (some 23) rfl rfl Try.func24 (by kernel_rfl) rfl #[.agg #[.int .i64 a0_0, .slice A0_1 l0_1.length c0_1], .slice A1 l1.length c1, .slice A2 l2.length c2] rfl (by (try simp only [List.map_toArray, List.map_cons, List.map_nil]); first | done | rfl | (simp only [List.length_drop, List.length_take]; rfl)) ?_; (with_reducible refine (cantingref07_Check.calls k a0_0 _ _ l0_1 _ _ l1 _ _ l2 t345 t346 _ ?side1 ?side2 ?side3 ?side4 ?side5 ?side6 A6.out).mono ?_); (case side1 => repeat (first | exact (Kd.C_below HR0_1.out HB.out) | (with_reducible refine Kd.C_alloc ?_ _) | (with_reducible refine Kd.C_drewN ?_ _) | (with_reducible refine Kd.C_drew ?_))); (case side2 => exact HC0_1.out); (case side3 => repeat (first | exact (Kd.C_below HR1.out HB.out) | (with_reducible refine Kd.C_alloc ?_ _) | (with_reducible refine Kd.C_drewN ?_ _) | (with_reducible refine Kd.C_drew ?_))); (case side4 => exact HC1.out); (case side5 => repeat (first | exact (Kd.C_below HR2.out HB.out) | (with_reducible refine Kd.C_alloc ?_ _) | (with_reducible refine Kd.C_drewN ?_ _) | (with_reducible refine Kd.C_drew ?_))); (case side6 => exact HC2.out); rintro e w31 ⟨rfl, hb⟩; refine ⟨_, rfl, ?_⟩; have n0_ := Aside0.mk (Kd.R_below (by (with_reducible repeat (first | apply Kd.R_alloc | apply Kd.R_drewN | apply Kd.R_drew)); exact HO342.out) hb); have n1_ := Aside0.mk (blk_below (g := gb338) (o := .cells #[.int .i64 a0_0, .slice A0_1 l0_1.length c0_1] 24 (0, 0)) (by (with_reducible repeat (first | refine blk_drewN ?_ _ | refine blk_drew ?_ | refine blk_alloc ?_ _)); exact BK338.out) hb); have n2_ := Aside0.mk (below_step (by repeat (first | (with_reducible first | exact HB.out | apply below_alloc | apply pw_below_drewN | apply below_drew1 | refine below_set ?_ GE338.out) | exact HB.out)) hb); clear HO342; clear BK338; clear HB; have HO342 := n0_; have BK338 := n1_; have HB := n2_; clear n0_ n1_ n2_; (try clear hb); (try clear hb2); (try clear hk); (try clear hi)))
    go_ret
    exact ⟨by first | rfl | (simp [errW_none, errW_some] <;> rfl) | (simp [*, errW_none, errW_some] <;> rfl), by repeat (first | (with_reducible first | exact HB.out | apply below_alloc | apply pw_below_drewN | apply below_drew1 | refine below_set ?_ GE338.out) | exact HB.out)⟩
end Go.Proofs.Ytbamanjedfccpaa.X
end

section
set_option linter.unusedVariables false
set_option linter.unusedSimpArgs false
namespace Go.Proofs.Ytbamanjedfccpaa.HTab
open Go.RowKit Go.Proofs.YtbamanjedfccpaaW.PrintWords Go.Proofs.YtbamanjedfccpaaW.PrintLast Go.Proofs.YtbamanjedfccpaaW.PrintMore Go.Proofs.Ytbamanjedfccpaa.X
set_option linter.unusedVariables false
set_option linter.unusedSimpArgs false
def ovS (o : List Int) (a : S34) (f : Int) : List Int := (o.set a.f0.toNat (wrap64 (rd o a.f0 - f))).set a.f1.toNat (wrap64 (rd (o.set a.f0.toNat (wrap64 (rd o a.f0 - f))) a.f1 + f))
def ovF : List S34 → List Int → List Int → Option (List Int)
  | [], _, o => some o
  | _ :: _, [], _ => none
  | a :: l, f :: fl, o => if f < 0 then none else if f > a.f2 then none else ovF l fl (ovS o a f)
def innB (o : List Int) : Nat → Nat → Bool
  | 0, _ => true
  | d + 1, i => rd o (i : Int) == 0 && innB o d (i + 1)
def csF (s : List Bool) : List S34 → Int → Int
  | [], x => x
  | a :: l, x => csF s l (if rdOf false s a.f0 && !rdOf false s a.f1 then wrap64 (x + a.f2) else x)
def GoodR (N : Nat) (l : List S34) : Prop := ∀ a ∈ l, 0 ≤ a.f0 ∧ a.f0 < (N : Int) ∧ 0 ≤ a.f1 ∧ a.f1 < (N : Int)
theorem rd_get (N : Nat) (_ : 2 ≤ N) (_ : N ≤ 40) (l : List S34) (_ : l.length ≤ 160) (_ : GoodR N l) (i : Nat) (h : i < l.length) : rd_T34 l (i : Int) = l[i] ∧ rd_T35 (l.map cvA) (i : Int) = cvA l[i] := by
  constructor
  · simp [rd_T34, h]
  · simp [rd_T35, h]
section
variable (N : Nat) (hN2 : 2 ≤ N) (hN : N ≤ 40) (l : List S34) (hl : l.length ≤ 160) (hg : GoodR N l)
include hN2 hN
theorem rflow_l1 (o : List Int) (ho : o.length = N) : ∀ (d i fu : Nat), i + d = N - 1 → d < fu → cantingref07_Flow.l1 fu o i N l = cond (innB o d i) (some (wrap64 (-(rd o 0)), true)) (some (0, false))
  | d, i, 0, h, hf => by omega
  | 0, i, fu + 1, h, hf => by
    have w : wrap64 ((N : Int) - 1) = (N : Int) - 1 := wrap_id (by omega) (by omega)
    simp only [cantingref07_Flow.l1, innB]
    rw [w, if_neg (by clear w; omega), if_pos (by clear w; omega)]
    rfl
  | d + 1, i, fu + 1, h, hf => by
    have w : wrap64 ((N : Int) - 1) = (N : Int) - 1 := wrap_id (by omega) (by omega)
    have ih := rflow_l1 o ho d (i + 1) fu (by omega) (by omega)
    simp only [cantingref07_Flow.l1, innB]
    rw [w]
    clear w
    rw [if_pos (by omega), if_pos (by omega), if_pos (by omega), show wrap64 ((i : Int) + 1) = ((i + 1 : Nat) : Int) from wrap_add1 (by omega) (by omega), ih]
    by_cases h0 : rd o (i : Int) = 0
    · rw [if_pos h0, show (rd o (i : Int) == 0) = true by simp [h0], Bool.true_and]
    · rw [if_neg h0, show (rd o (i : Int) == 0) = false by simp [h0], Bool.false_and]
      rfl
def finC (N : Nat) (s : List Bool) (o : List Int) (C : Int) : Bool := rdOf false s 0 && (!rdOf false s ((N : Int) - 1) && (wrap64 (-(rd o 0)) == C))
theorem wcheck_end (s : List Bool) (hs : s.length = N) (o : List Int) (ho : o.length = N) (l2 : List S35) (C : Int) (fu : Nat) (hC : wax_Net_cost.f fu N l2 s = some C) : wax_Check.l1 (fu + 1) s o o N N N l2 = some (finC N s o C, 0) := by
  have w : wrap64 ((N : Int) - 1) = (N : Int) - 1 := wrap_id (by omega) (by omega)
  simp only [wax_Check.l1]
  rw [w]
  clear w
  rw [if_neg (by omega), if_pos (by omega)]
  unfold finC
  cases h0 : rdOf false s 0 with
  | false => rw [if_neg (by simp), Bool.false_and]
  | true =>
    rw [if_pos rfl, if_pos (by omega), if_pos (by omega)]
    cases h1 : rdOf false s ((N : Int) - 1) with
    | true => rw [if_pos rfl]; rfl
    | false => rw [if_neg (by simp), if_pos (by omega), hC]; rfl
theorem wcheck_l1 (s : List Bool) (hs : s.length = N) (o : List Int) (ho : o.length = N) (l2 : List S35) (C : Int) (hC : ∀ fu, 170 ≤ fu → wax_Net_cost.f fu N l2 s = some C) : ∀ (d i fu : Nat), 1 ≤ i → i + d = N - 1 → 172 + d < fu →
    wax_Check.l1 fu s o o N i N l2 = cond (innB o d i) (some (finC N s o C, 0)) (some (false, 0))
  | d, i, 0, h1, h, hf => by omega
  | 0, i, fu + 1, h1, h, hf => by
    obtain ⟨fu, rfl⟩ : ∃ g, fu = g + 1 := ⟨fu - 1, by omega⟩
    obtain rfl : i = N - 1 := by omega
    have he := wcheck_end N hN2 hN s hs o ho l2 C fu (hC fu (by omega))
    have w : wrap64 ((N : Int) - 1) = (N : Int) - 1 := wrap_id (by omega) (by omega)
    have e : wrap64 (((N - 1 : Nat) : Int) + 1) = (N : Int) := by rw [wrap_add1 (by omega) (by omega)]; omega
    rw [wax_Check.l1, e, w, he]
    clear e w
    rw [if_pos (by omega), if_pos (by omega), if_pos (by omega)]
    by_cases h0 : rd o ((N - 1 : Nat) : Int) = 0
    · rw [if_pos h0]; rfl
    · rw [if_neg h0, if_neg (by omega), if_pos (by omega)]; rfl
  | d + 1, i, fu + 1, h1, h, hf => by
    have ih := wcheck_l1 s hs o ho l2 C hC d (i + 1) fu (by omega) (by omega) (by omega)
    have w : wrap64 ((N : Int) - 1) = (N : Int) - 1 := wrap_id (by omega) (by omega)
    rw [wax_Check.l1, w]
    clear w
    simp only [innB]
    rw [if_pos (by omega), if_pos (by omega), if_pos (by omega), show wrap64 ((i : Int) + 1) = ((i + 1 : Nat) : Int) from wrap_add1 (by omega) (by omega), ih]
    by_cases h0 : rd o (i : Int) = 0
    · rw [if_pos h0, show (rd o (i : Int) == 0) = true by simp [h0], Bool.true_and]
    · rw [if_neg h0, if_neg (by omega), if_neg (by omega), show (rd o (i : Int) == 0) = false by simp [h0], Bool.false_and]
      rfl
theorem wcheck_l1' (s : List Bool) (hs : s.length = N) (o : List Int) (ho : o.length = N) (l2 : List S35) (C : Int) (hC : ∀ fu, 170 ≤ fu → wax_Net_cost.f fu N l2 s = some C) (fu : Nat) (hf : 250 ≤ fu) :
    wax_Check.l1 fu s o o N 0 N l2 = cond (innB o (N - 2) 1) (some (finC N s o C, 0)) (some (false, 0)) := by
  obtain ⟨fu, rfl⟩ : ∃ g, fu = g + 1 := ⟨fu - 1, by omega⟩
  have ih := wcheck_l1 N hN2 hN s hs o ho l2 C hC (N - 2) 1 fu (by omega) (by omega) (by omega)
  rw [wax_Check.l1, if_pos (by omega), if_pos (by omega), if_pos (by omega), show wrap64 ((0 : Int) + 1) = ((1 : Nat) : Int) from (wrap_add1 (by omega) (by omega)).trans rfl, ih, if_pos rfl, ite_self]
include hl hg
theorem rflow_l0 (fl : List Int) (hfl : fl.length = l.length) : ∀ (d i fu : Nat) (o : List Int), i + d = l.length → d + N + 10 < fu → o.length = N →
    cantingref07_Flow.l0 fu fl o l l.length i N l = match ovF (l.drop i) (fl.drop i) o with | none => some (0, false) | some o' => cond (innB o' (N - 2) 1) (some (wrap64 (-(rd o' 0)), true)) (some (0, false))
  | d, i, 0, o, h, hf, ho => by omega
  | 0, i, fu + 1, o, h, hf, ho => by
    simp only [cantingref07_Flow.l0]
    rw [if_neg (by omega), List.drop_eq_nil_of_le (by omega)]
    simp only [ovF]
    exact rflow_l1 N hN2 hN l o ho (N - 2) 1 fu (by omega) (by omega)
  | d + 1, i, fu + 1, o, h, hf, ho => by
    have hi : i < l.length := by omega
    have hi2 : i < fl.length := by omega
    have hr := (rd_get N hN2 hN l hl hg i hi).1
    have hf2 : rd fl (i : Int) = fl[i] := by simp [rd, hi2]
    obtain ⟨g0, g1, g2, g3⟩ := hg l[i] (List.getElem_mem _)
    simp only [cantingref07_Flow.l0]
    rw [if_pos (by omega), if_pos (by omega), if_pos (by omega), if_pos (by omega), hr, hf2, List.drop_eq_getElem_cons hi, List.drop_eq_getElem_cons hi2]
    simp only [ovF]
    by_cases c1 : fl[i] < 0
    · rw [if_pos c1, if_pos c1]
    rw [if_neg c1, if_neg c1]
    by_cases c2 : fl[i] > l[i].f2
    · rw [if_pos c2, if_pos c2]
    rw [if_neg c2, if_neg c2, if_pos g0, if_pos (by omega)]
    simp only [Option.bind_some]
    rw [if_pos g2, if_pos (by (try rw [List.length_set]); omega), show wrap64 ((i : Int) + 1) = ((i + 1 : Nat) : Int) from wrap_add1 (by omega) (by omega)]
    exact rflow_l0 fl hfl d (i + 1) fu _ (by omega) (by omega) (by rw [List.length_set, List.length_set]; exact ho)
theorem wcheck_l0 (fl : List Int) (hfl : fl.length = l.length) (s : List Bool) (hs : s.length = N) (C : Int) (hC : ∀ fu, 170 ≤ fu → wax_Net_cost.f fu N (l.map cvA) s = some C) : ∀ (d i fu : Nat) (o : List Int), i + d = l.length → d + 260 < fu → o.length = N →
    wax_Check.l0 fu fl s o (l.map cvA) l.length i N (l.map cvA) = match ovF (l.drop i) (fl.drop i) o with | none => some (false, 0) | some o' => cond (innB o' (N - 2) 1) (some (finC N s o' C, 0)) (some (false, 0))
  | d, i, 0, o, h, hf, ho => by omega
  | 0, i, fu + 1, o, h, hf, ho => by
    simp only [wax_Check.l0]
    rw [if_neg (by omega), List.drop_eq_nil_of_le (by omega)]
    simp only [ovF]
    have := wcheck_l1' N hN2 hN s hs o ho (l.map cvA) C hC fu (by omega)
    rw [ho]
    exact this
  | d + 1, i, fu + 1, o, h, hf, ho => by
    have hi : i < l.length := by omega
    have hi2 : i < fl.length := by omega
    have hr := (rd_get N hN2 hN l hl hg i hi).2
    have hf2 : rd fl (i : Int) = fl[i] := by simp [rd, hi2]
    obtain ⟨g0, g1, g2, g3⟩ := hg l[i] (List.getElem_mem _)
    simp only [wax_Check.l0]
    rw [if_pos (by omega), if_pos (by omega), if_pos (by rw [List.length_map]; omega), if_pos (by omega), hr, hf2, List.drop_eq_getElem_cons hi, List.drop_eq_getElem_cons hi2]
    simp only [ovF]
    by_cases c1 : fl[i] < 0
    · rw [if_pos c1, if_pos c1]
    rw [if_neg c1, if_neg c1]
    by_cases c2 : fl[i] > l[i].f2
    · rw [if_pos (show fl[i] > (cvA l[i]).f2 from c2), if_pos c2]
    rw [if_neg (show ¬ fl[i] > (cvA l[i]).f2 from c2), if_neg c2, if_pos (show 0 ≤ (cvA l[i]).f0 from g0), if_pos (show (cvA l[i]).f0 < (o.length : Int) by rw [ho]; exact g1)]
    simp only [Option.bind_some]
    rw [if_pos (show 0 ≤ (cvA l[i]).f1 from g2), if_pos (show (cvA l[i]).f1 < (_ : Int) by (try rw [List.length_set]); rw [ho]; exact g3), show wrap64 ((i : Int) + 1) = ((i + 1 : Nat) : Int) from wrap_add1 (by omega) (by omega)]
    exact wcheck_l0 fl hfl s hs C hC d (i + 1) fu _ (by omega) (by omega) (by rw [List.length_set, List.length_set]; exact ho)
theorem cost_l0 (s : List Bool) (hs : s.length = N) : ∀ (d i fu : Nat) (x : Int), i + d = l.length → d < fu → wax_Net_cost.l0 fu s x (l.map cvA) l.length i = some (csF s (l.drop i) x)
  | d, i, 0, x, h, hf => by omega
  | 0, i, fu + 1, x, h, hf => by
    simp only [wax_Net_cost.l0]
    rw [if_neg (by omega), List.drop_eq_nil_of_le (by omega)]
    rfl
  | d + 1, i, fu + 1, x, h, hf => by
    have hi : i < l.length := by omega
    have hr := (rd_get N hN2 hN l hl hg i hi).2
    obtain ⟨g0, g1, g2, g3⟩ := hg l[i] (List.getElem_mem _)
    simp only [wax_Net_cost.l0]
    rw [if_pos (by omega), if_pos (by omega), if_pos (by rw [List.length_map]; omega), hr, List.drop_eq_getElem_cons hi]
    simp only [csF]
    have ih := fun (x : Int) => cost_l0 s hs d (i + 1) fu x (by omega) (by omega)
    rw [if_pos (show 0 ≤ (cvA l[i]).f0 from g0), if_pos (show (cvA l[i]).f0 < (s.length : Int) by rw [hs]; exact g1), if_pos (show 0 ≤ (cvA l[i]).f1 from g2), if_pos (show (cvA l[i]).f1 < (s.length : Int) by rw [hs]; exact g3), show wrap64 ((i : Int) + 1) = ((i + 1 : Nat) : Int) from wrap_add1 (by omega) (by omega), ih, ih]
    show (if rdOf false s l[i].f0 = true then (if rdOf false s l[i].f1 = true then some (csF s (l.drop (i + 1)) x) else some (csF s (l.drop (i + 1)) (wrap64 (x + l[i].f2)))) else some (csF s (l.drop (i + 1)) x)) = _
    cases rdOf false s l[i].f0 <;> cases rdOf false s l[i].f1 <;> simp
theorem side_l0 (s : List Bool) (hs : s.length = N) : ∀ (d i fu : Nat) (x : Int), i + d = l.length → d < fu → cantingref07_Side.l0 fu s x l l.length i N l = some (csF s (l.drop i) x, rdOf false s 0 && !rdOf false s ((N : Int) - 1))
  | d, i, 0, x, h, hf => by omega
  | 0, i, fu + 1, x, h, hf => by
    have w : wrap64 ((N : Int) - 1) = (N : Int) - 1 := wrap_id (by omega) (by omega)
    simp only [cantingref07_Side.l0]
    rw [w]
    clear w
    rw [if_neg (by omega), List.drop_eq_nil_of_le (by omega), if_pos (show (0 : Int) < (s.length : Int) by omega), if_pos (show 0 ≤ (N : Int) - 1 by omega), if_pos (show (N : Int) - 1 < (s.length : Int) by omega)]
    simp only [csF]
    cases rdOf false s 0 <;> simp
  | d + 1, i, fu + 1, x, h, hf => by
    have hi : i < l.length := by omega
    have hr := (rd_get N hN2 hN l hl hg i hi).1
    obtain ⟨g0, g1, g2, g3⟩ := hg l[i] (List.getElem_mem _)
    simp only [cantingref07_Side.l0]
    rw [if_pos (by omega), if_pos (by omega), if_pos (by omega), hr, List.drop_eq_getElem_cons hi]
    simp only [csF]
    have ih := fun (x : Int) => side_l0 s hs d (i + 1) fu x (by omega) (by omega)
    rw [if_pos g0, if_pos (show l[i].f0 < (s.length : Int) by omega), if_pos g2, if_pos (show l[i].f1 < (s.length : Int) by omega), show wrap64 ((i : Int) + 1) = ((i + 1 : Nat) : Int) from wrap_add1 (by omega) (by omega), ih, ih]
    cases rdOf false s l[i].f0 <;> cases rdOf false s l[i].f1 <;> simp
end
theorem bad_good {N : Nat} {l : List S34} (h : (l.map cvA).any (badA N) = false) : GoodR N l := fun a ha => by
  have := any_good h (cvA a) (List.mem_map_of_mem ha)
  exact this
theorem rvalid_l0 (n : Int) (l l2 : List S34) (hl : l.length < 10000000000000) : ∀ (d i fu : Nat), i + d = l.length → d < fu → cantingref07_Valid.l0 fu l l.length i n l2 = some (!((l.drop i).map cvA).any (badA n))
  | d, i, 0, h, hf => by omega
  | 0, i, fu + 1, h, hf => by
    simp only [cantingref07_Valid.l0]
    rw [if_neg (by omega), List.drop_eq_nil_of_le (by omega)]
    rfl
  | d + 1, i, fu + 1, h, hf => by
    have hi : i < l.length := by omega
    have hr : rd_T34 l (i : Int) = l[i] := by simp [rd_T34, hi]
    have ih := rvalid_l0 n l l2 hl d (i + 1) fu (by omega) (by omega)
    simp only [cantingref07_Valid.l0]
    rw [if_pos (by omega), if_pos (by omega), if_pos (by omega), hr, List.drop_eq_getElem_cons hi, show wrap64 ((i : Int) + 1) = ((i + 1 : Nat) : Int) from wrap_add1 (by omega) (by omega), ih, List.map_cons, List.any_cons]
    have hb : badA n (cvA l[i]) = true ↔ (l[i].f0 < 0 ∨ l[i].f0 ≥ n ∨ l[i].f1 < 0 ∨ l[i].f1 ≥ n ∨ l[i].f0 = l[i].f1 ∨ l[i].f2 < 0 ∨ l[i].f2 > 1000000) := by
      have e : badA n (cvA l[i]) = (decide (l[i].f0 = l[i].f1) || (decide (l[i].f0 < 0) || decide (l[i].f1 < 0)) || (decide (n ≤ l[i].f0) || decide (n ≤ l[i].f1)) || decide (l[i].f2 < 0) || decide (1000000 < l[i].f2)) := rfl
      rw [e]
      simp only [Bool.or_eq_true, decide_eq_true_eq]
      constructor
      · rintro ((((q | q | q) | q | q) | q) | q)
        · exact .inr (.inr (.inr (.inr (.inl q))))
        · exact .inl q
        · exact .inr (.inr (.inl q))
        · exact .inr (.inl q)
        · exact .inr (.inr (.inr (.inl q)))
        · exact .inr (.inr (.inr (.inr (.inr (.inl q)))))
        · exact .inr (.inr (.inr (.inr (.inr (.inr q)))))
      · rintro (q | q | q | q | q | q | q)
        · exact .inl (.inl (.inl (.inr (.inl q))))
        · exact .inl (.inl (.inr (.inl q)))
        · exact .inl (.inl (.inl (.inr (.inr q))))
        · exact .inl (.inl (.inr (.inr q)))
        · exact .inl (.inl (.inl (.inl q)))
        · exact .inl (.inr q)
        · exact .inr q
    cases hbb : badA n (cvA l[i]) with
    | true =>
      have := hb.1 hbb
      rw [Bool.true_or]
      by_cases c1 : l[i].f0 < 0
      · rw [if_pos c1]; rfl
      rw [if_neg c1]
      by_cases c2 : l[i].f0 ≥ n
      · rw [if_pos c2]; rfl
      rw [if_neg c2]
      by_cases c3 : l[i].f1 < 0
      · rw [if_pos c3]; rfl
      rw [if_neg c3]
      by_cases c4 : l[i].f1 ≥ n
      · rw [if_pos c4]; rfl
      rw [if_neg c4]
      by_cases c5 : l[i].f0 = l[i].f1
      · rw [if_pos c5]; rfl
      rw [if_neg c5]
      by_cases c6 : l[i].f2 < 0
      · rw [if_pos c6]; rfl
      rw [if_neg c6, if_pos (by omega)]
      rfl
    | false =>
      have hn : ¬ (l[i].f0 < 0 ∨ l[i].f0 ≥ n ∨ l[i].f1 < 0 ∨ l[i].f1 ≥ n ∨ l[i].f0 = l[i].f1 ∨ l[i].f2 < 0 ∨ l[i].f2 > 1000000) := fun h => by rw [hb.2 h] at hbb; cases hbb
      rw [Bool.false_or, if_neg (by omega), if_neg (by omega), if_neg (by omega), if_neg (by omega), if_neg (by omega), if_neg (by omega), if_neg (by omega)]
theorem rvalid_f (n : Int) (l : List S34) (hl : l.length < 10000000000000) (fu : Nat) (hf : 200 ≤ fu) : cantingref07_Valid.f fu n l = some (vdB n (netL l)) := by
  obtain ⟨fu, rfl⟩ : ∃ g, fu = g + 1 := ⟨fu - 1, by omega⟩
  have hnl : 160 < l.length → ¬ (netL l).length ≤ 160 := fun h => by unfold netL; simp; omega
  unfold cantingref07_Valid.f vdB
  by_cases h1 : n < 2
  · rw [if_pos h1]
    simp only [cantingref07_Valid.j0, if_true]
    rw [decide_eq_false (by omega)]
    rfl
  rw [if_neg h1]
  by_cases h2 : n > 40
  · rw [if_pos h2]
    simp only [cantingref07_Valid.j0, if_true]
    rw [decide_eq_false (p := n ≤ 40) (by omega), Bool.and_false]
    rfl
  rw [if_neg h2]
  by_cases h3 : (l.length : Int) > 160
  · rw [decide_eq_true h3]
    simp only [cantingref07_Valid.j0, if_true]
    rw [decide_eq_false (p := (netL l).length ≤ 160) (hnl (by omega)), Bool.and_false]
    rfl
  · rw [decide_eq_false h3]
    simp only [cantingref07_Valid.j0, Bool.false_eq_true, if_false]
    have := rvalid_l0 n l l hl l.length 0 fu (by omega) (by omega)
    rw [List.drop_zero] at this
    have e := netL_all (l := l) (by omega)
    refine this.trans ?_
    rw [e, decide_eq_true (by omega), decide_eq_true (p := n ≤ 40) (by omega), decide_eq_true (p := (l.map cvA).length ≤ 160) (by rw [List.length_map]; omega)]
    rfl
theorem checks_f (n : Int) (l : List S34) (fl : List Int) (s : List Bool) (hl : l.length < 10000000000000) : cantinglaw07_WaxChecks.f 1001 n l fl s = some true := by
  have fin : ∀ (b : Bool) (e : Int), (if (b == b) = true then (if e = e then (cantinglaw07_awake.f.bind fun t => some t) else some false) else some false) = some true := fun b e => by rw [awake_f]; simp
  unfold cantinglaw07_WaxChecks.f
  rw [net_f l hl n 1001 (by omega)]
  simp only [Option.bind_some]
  have hrv := rvalid_f n l hl 1001 (by omega)
  unfold wax_Check.f cantingref07_Check.f wax_Net_valid.f
  rw [hrv]
  simp only [Option.bind_some]
  cases hv : vdB n (netL l) with
  | false =>
    simp only [Bool.false_eq_true, if_false, Option.bind_some]
    exact fin false 2
  | true =>
    obtain ⟨N, rfl, a, b, c, d, e⟩ := vdB_facts hv
    have hlen : l.length ≤ 160 := by
      have : (netL l).length = min 162 l.length := by unfold netL; simp
      omega
    have hnl := netL_all (l := l) (by omega)
    have hg : GoodR N l := bad_good (by rw [← hnl]; exact (vdB_iff.1 hv).2.2.2)
    simp only [if_true]
    rw [hnl, List.length_map]
    by_cases h1 : (fl.length : Int) = l.length
    · rw [if_pos h1, if_pos h1]
      by_cases h2 : (s.length : Int) = N
      · rw [if_pos h2, if_pos (by omega), if_pos (by omega)]
        have hs : s.length = N := by omega
        have e2 : ((s.length : Int) != (N : Int)) = false := by simp [hs]
        rw [e2]
        simp only [cantingref07_Check.j0, Bool.false_eq_true, if_false]
        have hC : ∀ fu, 170 ≤ fu → wax_Net_cost.f fu N (l.map cvA) s = some (csF s l 0) := fun fu hf => by
          unfold wax_Net_cost.f
          have := cost_l0 N a b l hlen hg s hs l.length 0 fu 0 (by omega) (by omega)
          rw [List.length_map]
          exact this
        have hW := wcheck_l0 N a b l hlen hg fl (by omega) s hs (csF s l 0) hC l.length 0 1001 (List.replicate N 0) (by omega) (by omega) (by simp)
        have hR := rflow_l0 N a b l hlen hg fl (by omega) l.length 0 1000 (List.replicate N 0) (by omega) (by omega) (by simp)
        have hS := side_l0 N a b l hlen hg s hs l.length 0 1000 0 (by omega) (by omega)
        simp only [List.drop_zero] at hW hR hS
        unfold cantingref07_Flow.f cantingref07_Side.f
        rw [if_pos (by omega), if_pos (by omega), Int.toNat_natCast]
        have hW' : wax_Check.l0 1001 fl s (List.replicate N 0) (l.map cvA) (l.length : Int) 0 N (l.map cvA) = _ := hW
        have hR' : cantingref07_Flow.l0 1000 fl (List.replicate N 0) l (l.length : Int) 0 N l = _ := hR
        have hS' : cantingref07_Side.l0 1000 s 0 l (l.length : Int) 0 N l = _ := hS
        rw [hW', hR', hS']
        cases ovF l fl (List.replicate N 0) with
        | none =>
          simp only [Option.bind_some, Bool.false_eq_true, if_false]
          exact fin false 0
        | some o =>
          dsimp only
          cases innB o (N - 2) 1 with
          | false =>
            simp only [cond_false, Option.bind_some, Bool.false_eq_true, if_false]
            exact fin false 0
          | true =>
            simp only [cond_true, Option.bind_some, if_true]
            unfold finC
            cases rdOf false s 0 <;> cases rdOf false s ((N : Int) - 1) <;> simp [awake_f]
      · rw [if_neg h2]
        have e2 : ((s.length : Int) != (N : Int)) = true := by simpa using h2
        rw [e2]
        simp only [cantingref07_Check.j0, if_true, Option.bind_some]
        exact fin false 3
    · rw [if_neg h1, if_neg h1]
      simp only [cantingref07_Check.j0, if_true, Option.bind_some]
      exact fin false 3
end Go.Proofs.Ytbamanjedfccpaa.HTab
end

section
set_option linter.unusedVariables false
set_option linter.unusedSimpArgs false
namespace Go.Proofs.Ytbamanjedfccpaa.waxChecks
open Go.ChangeShapes Go.WideShapes Go.ChangeAt Go.RowKit Go.Proofs.YtbamanjedfccpaaW.PrintWords Go.Proofs.Ytbamanjedfccpaa.HTab Go.Proofs.Ytbamanjedfccpaa.X
open Go.ChangeMaps (open_string shut_string)
set_option linter.unusedVariables false
theorem own : ownKnob Try.prog.godebug = none := by kernel_rfl
theorem laidOut : laidOutB Try.prog = true := by kernel_rfl
set_option maxRecDepth 100000 in
theorem lifted (os : Os) (started : os.Started) (H : Type) (enc : TypeId × Value → H) :
    ReturnsInHanded {} Try.checked os 6 .any (Rows.waxChecksSpec.pre6 enc Try.prog Try.f6 Rows.waxChecksRow.domain false) (Rows.waxChecksSpec.post enc Try.prog Try.f6 false true false false) := by
  refine returnsInHanded_of_change_sized (C := Try.checked) own started (by kernel_rfl) Try.func6
    (ChangeSpec.witness6 (enc := enc) (C := Try.checked) false ⟨#[], #[.agg #[.int .i64 0, .slice none 0 0], .slice none 0 0, .slice none 0 0], []⟩ 8 (by kernel_rfl) (by kernel_rfl) (by kernel_rfl) (by kernel_rfl)) ?_
  intro W base args ds gs before hval0 hW hcnd hsz0 _
  have hsz : (DataW.weightsEach Try.prog (Try.f6.params.toList ++ Rows.waxChecksSpec.plain.varTypes Try.prog) (ds ++ gs)).all (· ≤ reachBytes) = true := hsz0
  have hval : ∀ (j : Nat) t v, Try.f6.params[j]? = some t → args[j]? = some v → Value.okWide Try.prog W .any base t v := hval0
  have hW' := hW
  obtain ⟨p, q, hA0, hV, rfl, hfz, hnd⟩ := hW
  have hA : DataW.TrodAll enc Try.prog W 0 (fun _ => true) true Try.f6.params.toList args.toList ds p := hA0
  rw [Try.params6] at hA hval hsz
  obtain ⟨v0, vs0, d0, ds0, p0, q0, hargs, rfl, rfl, h0, r0⟩ := trodAll_cons hA
  obtain ⟨v1, vs1, d1, ds1, p1, q1, rfl, rfl, rfl, h1, r1⟩ := trodAll_cons r0
  obtain ⟨v2, vs2, d2, ds2, p2, q2, rfl, rfl, rfl, h2, r2⟩ := trodAll_cons r1
  obtain ⟨rfl, rfl, rfl⟩ := trodAll_nil r2
  obtain rfl : args = #[v0, v1, v2] := by cases args; simp_all
  obtain ⟨rfl, rfl⟩ := trodVars_none hV
  have k0 := h0
  have lt0 : ∀ x ∈ p0, x.block < W.heap.size := by obtain ⟨m, hm⟩ := k0; exact DataW.trod_lt m _ _ _ hm
  obtain ⟨n0, A0, c0, l0, rfl, C0, L0, B0, wn0⟩ := open_net (hval 0 24 v0 rfl rfl) h0 hsz (j := 0) rfl rfl
  have k1 := h1
  have lt1 : ∀ x ∈ p1, x.block < W.heap.size := by obtain ⟨m, hm⟩ := k1; exact DataW.trod_lt m _ _ _ hm
  obtain ⟨A1, c1, l1, rfl, C1, L1, B1, w1⟩ := open_ints_ (hval 1 40 v1 rfl rfl) h1 hsz (j := 1) rfl rfl
  have k2 := h2
  have lt2 : ∀ x ∈ p2, x.block < W.heap.size := by obtain ⟨m, hm⟩ := k2; exact DataW.trod_lt m _ _ _ hm
  obtain ⟨A2, c2, l2, rfl, C2, L2, B2⟩ := open_bools (hval 2 45 v2 rfl rfl) h2 hsz (j := 2) rfl rfl
  clear hA0 hval0 hsz0 hsz
  refine ((cantinglaw07_WaxChecks.calls 1001 n0 A0 c0 l0 A1 c1 l1 A2 c2 l2 true W C0 L0 C1 L1 C2 L2 (checks_f n0 l0 l1 l2 B0))).mono fun e W' ⟨he, bel⟩ => ?_
  subst he
  exact ⟨_, rfl, _, _, _, [], _, [], hW', trodAll_mk1 (shut_bool Try.underlying4 _), (trodAll_cons_mk (Below.trod laidOut (by kernel_rfl) (of_decide_eq_true (by kernel_rfl)) k0 bel lt0) (trodAll_cons_mk (Below.trod laidOut (by kernel_rfl) (of_decide_eq_true (by kernel_rfl)) k1 bel lt1) (trodAll_cons_mk (Below.trod laidOut (by kernel_rfl) (of_decide_eq_true (by kernel_rfl)) k2 bel lt2) trodAll_mk0))), rfl, bel.frame _, fun h => by cases h⟩
theorem over : Rows.waxChecksRow.holds Try.pinned (OpenSpec.ofChange Rows.waxChecksSpec) :=
  OpenClaim.holds_of_wide 6 Try.f6 rfl rfl rfl rfl rfl rfl rfl ⟨rfl, rfl, rfl, rfl, rfl⟩ rfl rfl rfl rfl rfl (by kernel_rfl) Try.func6 (by kernel_rfl)
    (of_decide_eq_true (by kernel_rfl)) (by unfold Func.isWrapper; first | (rw [if_pos (by decide +kernel)]; kernel_rfl) | (rw [if_neg (by decide +kernel)]; exact ⟨rfl, rfl⟩))
    (fun os started H enc _ => lifted os started H enc)
theorem proved : Rows.WaxChecksSaid := over
end Go.Proofs.Ytbamanjedfccpaa.waxChecks
namespace Go.Proofs.Ytbamanjedfccpaa
theorem waxChecks_holds : Rows.WaxChecksSaid := waxChecks.proved
end Go.Proofs.Ytbamanjedfccpaa
#print axioms Go.Proofs.Ytbamanjedfccpaa.waxChecks_holds
end
