/- Lemmas of the proof: part Bs. -/
import Derived.Test.YtbamanjedfccpaaBh
import Derived.Test.YtbamanjedfccpaaBc
import Derived.Test.YtbamanjedfccpaaBd
import Derived.Test.YtbamanjedfccpaaBl
section
set_option linter.unusedVariables false
set_option linter.unusedSimpArgs false
namespace Go.Proofs.Ytbamanjedfccpaa.HTab
open Go.RowKit Go.Proofs.YtbamanjedfccpaaW.PrintWords Go.Proofs.YtbamanjedfccpaaW.PrintLast Go.Proofs.YtbamanjedfccpaaW.PrintMore Go.Proofs.Ytbamanjedfccpaa.X
set_option linter.unusedVariables false
set_option linter.unusedSimpArgs false
theorem filled_value (a0_0 : Int) (A0_1 : Option Addr) (c0_1 : Nat) (l0_1 : List S35) (r1 r2 : Int) (w : World) (hr : Kd.C k35 w A0_1 l0_1.length l0_1) (hc : l0_1.length ≤ c0_1) (hv : wax_Net_valid.f a0_0 l0_1 = some true) (h : wax_Value.f a0_0 l0_1 = some (r1, r2)) :
    Calls Try.prog 52 #[.agg #[.int .i64 a0_0, .slice A0_1 l0_1.length c0_1]] w fun e w' => ∃ g : Nat, e = .returned (.tuple #[.pointer (some ⟨g, 0, none⟩), .int .i64 r1]) ∧ Below w.heap.size w w' := by
  have hv2 : vdB a0_0 l0_1 = true := Option.some.inj hv
  obtain ⟨v1, v2, v3, v4⟩ := vdB_iff.1 hv2
  unfold wax_Value.f at h
  rw [hv2, if_pos rfl] at h
  obtain ⟨⟨s, l1, d1, n1⟩, hF, hr2⟩ := Option.map_eq_some_iff.1 h
  injection hr2 with h1 h2
  subst h1; subst h2
  obtain ⟨N, rfl⟩ : ∃ N : Nat, a0_0 = N := ⟨a0_0.toNat, by omega⟩
  rw [Int.toNat_natCast] at hF
  refine (filled_calls N A0_1 c0_1 l0_1 w hr hc (by omega) (by omega) (by omega) (any_good v4) fuelW (by unfold fuelW; decide) s l1 d1 n1 hF).mono ?_
  rintro e w3 ⟨g, col3, vL, vO, v6, v7, rfl, hR3⟩
  exact ⟨g, rfl, hR3.bel⟩
end Go.Proofs.Ytbamanjedfccpaa.HTab
end

section
set_option linter.unusedVariables false
set_option linter.unusedSimpArgs false
namespace Go.Proofs.Ytbamanjedfccpaa.X
open Go.Proofs.Ytbamanjedfccpaa.HTab (filled_value)
open Go.RowKit Go.Proofs.YtbamanjedfccpaaW.PrintWords Go.Proofs.YtbamanjedfccpaaW.PrintLast Go.Proofs.YtbamanjedfccpaaW.PrintMore
attribute [local go_sem] max2_int min2_int max_two min_two max_three min_three max_four min_four   -- for this text's walks alone
set_option linter.unusedVariables false
set_option linter.unusedSimpArgs false
mutual
def wax_Sides.l0 : Nat → Int → List (List Bool) → Int → Int → Int → List (S35) → Option ((List (List Bool)) × Int)
  | 0, _, _, _, _, _, _ => none
  | k + 1, x4, x6, x26, x27, x403000, x403001 => if x27 < x26 then (if 0 ≤ x403000 then (if (x403000 : Int).toNat ≤ 281474976710656 then ((some (List.replicate (x403000 : Int).toNat false : List Bool)).bind fun y406 => (if 0 < (y406.length : Int) then (wax_Sides.l1 k x4 x6 x27 (y406.set (0 : Int).toNat true) 1 x26 x27 x403000 x403001) else (none))) else (none)) else (none)) else (some (x6, 0))
def wax_Sides.l1 : Nat → Int → List (List Bool) → Int → List Bool → Int → Int → Int → Int → List (S35) → Option ((List (List Bool)) × Int)
  | 0, _, _, _, _, _, _, _, _, _ => none
  | k + 1, x4, x6, x7, x8, x9, x26, x27, x403000, x403001 => if x9 < (wrap64 (x403000 - 1)) then (if 0 ≤ (wrap64 ((wrap64 (x403000 - 2)) - x9)) then (if 0 ≤ x9 then (if x9 < (x8.length : Int) then (wax_Sides.l1 k x4 x6 x7 (x8.set (x9 : Int).toNat ((Go.bits .and .i64 (shr .i64 x7 (wrap64 ((wrap64 (x403000 - 2)) - x9))) 1) == 1)) (wrap64 (x9 + 1)) x26 x27 x403000 x403001) else (none)) else (none)) else (none)) else ((wax_Net_cost.f k x403000 x403001 x8).bind fun t411 => (if t411 = x4 then (if x6.length < 5864062014805 then (wax_Sides.l0 k x4 (x6 ++ [x8]) x26 (wrap64 (x27 + 1)) x403000 x403001) else (none)) else (wax_Sides.l0 k x4 x6 x26 (wrap64 (x27 + 1)) x403000 x403001)))
end
def wax_Sides.f (k : Nat) (a0_0 : Int) (l0_1 : List (S35)) : Option ((List (List Bool)) × Int) := (wax_Net_valid.f a0_0 l0_1).bind fun t403 => (if t403 = true then (if a0_0 > 12 then (some (([] : List (List Bool)), 3)) else ((wax_Value.f a0_0 l0_1).bind fun bt404 => (if 0 ≤ (wrap64 (a0_0 - 2)) then (wax_Sides.l0 k bt404.1 ([] : List (List Bool)) (shl .i64 1 (wrap64 (a0_0 - 2))) 0 a0_0 l0_1) else (none)))) else (some (([] : List (List Bool)), 2)))
set_option maxHeartbeats 8000000 in
set_option maxRecDepth 100000 in
theorem wax_Sides.calls (k : Nat) (a0_0 : Int) (A0_1 : Option Addr) (c0_1 : Nat) (l0_1 : List (S35)) (r1 : List (List Bool)) (r2 : Int) (w : World) (hr0_1 : Kd.C k35 w A0_1 l0_1.length l0_1) (hc0_1 : l0_1.length ≤ c0_1) (h : wax_Sides.f k a0_0 l0_1 = some (r1, r2)) :
    Calls Try.prog 29 #[.agg #[.int .i64 a0_0, .slice A0_1 l0_1.length c0_1]] w fun e w' => ∃ v0_ : Value, e = .returned (.tuple #[v0_, .int .i64 r2]) ∧ Kd.S (Kd.slice 4 Kd.bool) 45 w' w.heap.size (fun _ => True) v0_ r1 ∧ Below w.heap.size w w' := by
  have hu30 := Try.underlying30
  have HR0_1 := Aside0.mk hr0_1
  have HC0_1 := Aside0.mk hc0_1
  clear hr0_1 hc0_1
  have HB := Aside0.mk (Below.refl w.heap.size w)
  have H : ((wax_Net_valid.f a0_0 l0_1).bind fun t403 => (if t403 = true then (if a0_0 > 12 then (some (([] : List (List Bool)), 3)) else ((wax_Value.f a0_0 l0_1).bind fun bt404 => (if 0 ≤ (wrap64 (a0_0 - 2)) then (wax_Sides.l0 k bt404.1 ([] : List (List Bool)) (shl .i64 1 (wrap64 (a0_0 - 2))) 0 a0_0 l0_1) else (none)))) else (some (([] : List (List Bool)), 2)))) = some (r1, r2) := h
  clear h
  replace H := Option.bind_eq_some_iff.mp H
  obtain ⟨t403, A20, H⟩ := H
  replace H : (if t403 = true then (if a0_0 > 12 then (some (([] : List (List Bool)), 3)) else ((wax_Value.f a0_0 l0_1).bind fun bt404 => (if 0 ≤ (wrap64 (a0_0 - 2)) then (wax_Sides.l0 k bt404.1 ([] : List (List Bool)) (shl .i64 1 (wrap64 (a0_0 - 2))) 0 a0_0 l0_1) else (none)))) else (some (([] : List (List Bool)), 2))) = some (r1, r2) := H
  have A2 := Aside0.mk A20
  clear A20
  by_cases c3 : t403 = true
  · subst c3
    have H1 : (if a0_0 > 12 then (some (([] : List (List Bool)), 3)) else ((wax_Value.f a0_0 l0_1).bind fun bt404 => (if 0 ≤ (wrap64 (a0_0 - 2)) then (wax_Sides.l0 k bt404.1 ([] : List (List Bool)) (shl .i64 1 (wrap64 (a0_0 - 2))) 0 a0_0 l0_1) else (none)))) = some (r1, r2) := by rw [if_pos rfl] at H; exact H
    clear H
    have H := H1
    clear H1
    by_cases c4 : a0_0 > 12
    · rw [if_pos c4] at H
      have c4b0 : decide (12 < a0_0) = true := decide_eq_true c4
      (try (have c4b0_0 := c4b0; rw [hl8_2] at c4b0_0))
      clear c4
      simp only [Option.some.injEq, Prod.mk.injEq] at H
      obtain ⟨rfl, rfl⟩ := H
      go_enter Try.func29, Try.ntmps29
      go_wp2_with (first | ((with_reducible refine gate_dst (N := 1) rfl ?_); refine box_event ?hg (N := 1) ?hd (cs := #[.int .i64 a0_0, .slice A0_1 l0_1.length c0_1]) (t := 30) ?hr ?_; (case hd => rfl); (case hg => rfl); (case hr => first | (go_simp; done) | (go_simp; rfl)); intro gb402 hg w5 hbox hb; have n0_ := Aside0.mk (below_step (by repeat (first | (with_reducible first | exact HB.out | apply below_alloc | apply pw_below_drewN | apply below_drew1) | exact HB.out)) hb); have n1_ := Aside0.mk (hbox); have n2_ := Aside0.mk ((by rw [hg]; exact (below_size (by repeat (first | (with_reducible first | exact HB.out | apply below_alloc | apply pw_below_drewN | apply below_drew1) | exact HB.out))) : w.heap.size ≤ gb402)); have n3_ := Aside0.mk ((by rw [hg]; exact (below_size (by repeat (first | (with_reducible first | exact HB.out | apply below_alloc | apply pw_below_drewN | apply below_drew1) | exact HB.out))) : w.heap.size ≤ gb402)); clear HB; have HB := n0_; have BK402 := n1_; have GW402 := n2_; have GE402 := n3_; clear n0_ n1_ n2_ n3_; clear hb hbox hg; have hcz6_0 : w5.cell? ⟨gb402, 0, none⟩ = some (.int .i64 a0_0) := (blk_cell BK402.out 0).trans rfl; have hcz6_1 : w5.cell? ⟨gb402, 1, none⟩ = some (.slice A0_1 l0_1.length c0_1) := (blk_cell BK402.out 1).trans rfl; have hfz6_0 := blk_frozen BK402.out 0; have hfz6_1 := blk_frozen BK402.out 1) | ((with_reducible refine gate_callee (f := 51) rfl ?_); refine goesL_ (some 12) rfl rfl Try.func51 (by kernel_rfl) rfl #[.agg #[.int .i64 a0_0, .slice A0_1 l0_1.length c0_1]] rfl (by (try simp only [List.map_toArray, List.map_cons, List.map_nil]); first | done | rfl | (simp only [List.length_drop, List.length_take]; rfl)) ?_; (with_reducible refine (wax_Net_valid.calls a0_0 _ _ l0_1 true _ ?side1 ?side2 A2.out).mono ?_); (case side1 => repeat (first | exact (Kd.C_below HR0_1.out HB.out) | (with_reducible refine Kd.C_alloc ?_ _) | (with_reducible refine Kd.C_drewN ?_ _) | (with_reducible refine Kd.C_drew ?_))); (case side2 => exact HC0_1.out); rintro e w7 ⟨rfl, hb⟩; refine ⟨_, rfl, ?_⟩; have n0_ := Aside0.mk (blk_below (g := gb402) (o := .cells #[.int .i64 a0_0, .slice A0_1 l0_1.length c0_1] 30 (0, 0)) (by (with_reducible repeat (first | refine blk_drewN ?_ _ | refine blk_drew ?_ | refine blk_alloc ?_ _)); exact BK402.out) hb); have n1_ := Aside0.mk (below_step (by repeat (first | (with_reducible first | exact HB.out | apply below_alloc | apply pw_below_drewN | apply below_drew1 | refine below_set ?_ GE402.out) | exact HB.out)) hb); clear BK402; clear HB; have BK402 := n0_; have HB := n1_; clear n0_ n1_; (try clear hb); (try clear hb2); (try clear hk); (try clear hi); have hcz8_0 : w7.cell? ⟨gb402, 0, none⟩ = some (.int .i64 a0_0) := (blk_cell BK402.out 0).trans rfl; have hcz8_1 : w7.cell? ⟨gb402, 1, none⟩ = some (.slice A0_1 l0_1.length c0_1) := (blk_cell BK402.out 1).trans rfl; have hfz8_0 := blk_frozen BK402.out 0; have hfz8_1 := blk_frozen BK402.out 1))
      go_ret2
      exact ⟨_, by first | rfl | (simp [errW_none, errW_some] <;> rfl) | (simp [*, errW_none, errW_some] <;> rfl), by first | exact Kd.S_nil _ _ _ _ _ | exact Kd.N_nil _ _ _ _ _ | exact Kd.V_nil _ _ _ _ _ | exact Kd.Q_nil _ _ _ _ _ | exact Kd.R_nil _ _ _ _ _, by repeat (first | (with_reducible first | exact HB.out | apply below_alloc | apply pw_below_drewN | apply below_drew1 | refine below_set ?_ GE402.out) | exact HB.out)⟩
    · rw [if_neg c4] at H
      have c4b0 : decide (12 < a0_0) = false := decide_eq_false c4
      (try (have c4b0_0 := c4b0; rw [hl8_2] at c4b0_0))
      clear c4
      replace H := Option.bind_eq_some_iff.mp H
      obtain ⟨⟨t404, t405⟩, A90, H⟩ := H
      replace H : (if 0 ≤ (wrap64 (a0_0 - 2)) then (wax_Sides.l0 k t404 ([] : List (List Bool)) (shl .i64 1 (wrap64 (a0_0 - 2))) 0 a0_0 l0_1) else (none)) = some (r1, r2) := H
      have A9 := Aside0.mk A90
      clear A90
      obtain ⟨ji10, hji10⟩ : ∃ j_ : Int, (wrap64 (a0_0 - 2)) = j_ := ⟨_, rfl⟩
      replace H : (if 0 ≤ (ji10) then (wax_Sides.l0 k t404 ([] : List (List Bool)) (shl .i64 1 (ji10)) 0 a0_0 l0_1) else (none)) = some (r1, r2) := by first | (rw [hji10] at H; exact H) | (simp only [hji10] at H ⊢; exact H)
      (try rw [hji10] at A2)
      (try rw [hji10] at A9)
      have hji10w : (IntKind.i64.wrap (a0_0 - 2)) = ji10 := (i64_w _).trans hji10
      by_cases c11 : 0 ≤ (ji10)
      · rw [if_pos c11] at H
        have c11b0 := eq_true c11
        (try (have c11b0_0 := c11b0; rw [hl8_2] at c11b0_0))
        have c11b1 : decide (0 ≤ (ji10)) = true := decide_eq_true c11
        (try (have c11b1_0 := c11b1; rw [hl8_2] at c11b1_0))
        clear c11
        obtain ⟨ji12, hji12⟩ : ∃ j_ : Int, (shl .i64 1 (ji10)) = j_ := ⟨_, rfl⟩
        replace H : (wax_Sides.l0 k t404 ([] : List (List Bool)) ji12 0 a0_0 l0_1) = some (r1, r2) := by first | (rw [hji12] at H; exact H) | (simp only [hji12] at H ⊢; exact H)
        (try rw [hji12] at A2)
        (try rw [hji12] at A9)
        have hji12_ : (IntKind.i64.wrap (1 * 2 ^ min (ji10).toNat 64)) = ji12 := hji12
        have hji12z : (ji10) ≤ 64 → (IntKind.i64.wrap (1 * 2 ^ (ji10).toNat)) = ji12 := shl_small hji12
        have hji12u : (IntKind.i64.wrap (2 ^ min (ji10).toNat 64)) = ji12 := by have h_ := hji12_; rw [Int.one_mul] at h_; exact h_
        have hji12v : (ji10) ≤ 64 → (IntKind.i64.wrap (2 ^ (ji10).toNat)) = ji12 := fun hle_ => by have h_ := hji12z hle_; rw [Int.one_mul] at h_; exact h_
        have hji12y : (wrap64 (1 * 2 ^ min (ji10).toNat 64)) = ji12 := (i64_w _).symm.trans hji12_
        have hji12x : (ji10) ≤ 64 → (wrap64 (1 * 2 ^ (ji10).toNat)) = ji12 := fun h_ => (i64_w _).symm.trans (hji12z h_)
        have H' := Aside0.mk H
        clear H
        go_enter Try.func29, Try.ntmps29
        go_wp2_with (first | ((with_reducible refine gate_dst (N := 1) rfl ?_); refine box_event ?hg (N := 1) ?hd (cs := #[.int .i64 a0_0, .slice A0_1 l0_1.length c0_1]) (t := 30) ?hr ?_; (case hd => rfl); (case hg => rfl); (case hr => first | (go_simp; done) | (go_simp; rfl)); intro gb402 hg w13 hbox hb; have n0_ := Aside0.mk (below_step (by repeat (first | (with_reducible first | exact HB.out | apply below_alloc | apply pw_below_drewN | apply below_drew1) | exact HB.out)) hb); have n1_ := Aside0.mk (hbox); have n2_ := Aside0.mk ((by rw [hg]; exact (below_size (by repeat (first | (with_reducible first | exact HB.out | apply below_alloc | apply pw_below_drewN | apply below_drew1) | exact HB.out))) : w.heap.size ≤ gb402)); have n3_ := Aside0.mk ((by rw [hg]; exact (below_size (by repeat (first | (with_reducible first | exact HB.out | apply below_alloc | apply pw_below_drewN | apply below_drew1) | exact HB.out))) : w.heap.size ≤ gb402)); clear HB; have HB := n0_; have BK402 := n1_; have GW402 := n2_; have GE402 := n3_; clear n0_ n1_ n2_ n3_; clear hb hbox hg; have hcz14_0 : w13.cell? ⟨gb402, 0, none⟩ = some (.int .i64 a0_0) := (blk_cell BK402.out 0).trans rfl; have hcz14_1 : w13.cell? ⟨gb402, 1, none⟩ = some (.slice A0_1 l0_1.length c0_1) := (blk_cell BK402.out 1).trans rfl; have hfz14_0 := blk_frozen BK402.out 0; have hfz14_1 := blk_frozen BK402.out 1) | ((with_reducible refine gate_callee (f := 51) rfl ?_); refine goesL_ (some 12) rfl rfl Try.func51 (by kernel_rfl) rfl #[.agg #[.int .i64 a0_0, .slice A0_1 l0_1.length c0_1]] rfl (by (try simp only [List.map_toArray, List.map_cons, List.map_nil]); first | done | rfl | (simp only [List.length_drop, List.length_take]; rfl)) ?_; (with_reducible refine (wax_Net_valid.calls a0_0 _ _ l0_1 true _ ?side1 ?side2 A2.out).mono ?_); (case side1 => repeat (first | exact (Kd.C_below HR0_1.out HB.out) | (with_reducible refine Kd.C_alloc ?_ _) | (with_reducible refine Kd.C_drewN ?_ _) | (with_reducible refine Kd.C_drew ?_))); (case side2 => exact HC0_1.out); rintro e w15 ⟨rfl, hb⟩; refine ⟨_, rfl, ?_⟩; have n0_ := Aside0.mk (blk_below (g := gb402) (o := .cells #[.int .i64 a0_0, .slice A0_1 l0_1.length c0_1] 30 (0, 0)) (by (with_reducible repeat (first | refine blk_drewN ?_ _ | refine blk_drew ?_ | refine blk_alloc ?_ _)); exact BK402.out) hb); have n1_ := Aside0.mk (below_step (by repeat (first | (with_reducible first | exact HB.out | apply below_alloc | apply pw_below_drewN | apply below_drew1 | refine below_set ?_ GE402.out) | exact HB.out)) hb); clear BK402; clear HB; have BK402 := n0_; have HB := n1_; clear n0_ n1_; (try clear hb); (try clear hb2); (try clear hk); (try clear hi); have hcz16_0 : w15.cell? ⟨gb402, 0, none⟩ = some (.int .i64 a0_0) := (blk_cell BK402.out 0).trans rfl; have hcz16_1 : w15.cell? ⟨gb402, 1, none⟩ = some (.slice A0_1 l0_1.length c0_1) := (blk_cell BK402.out 1).trans rfl; have hfz16_0 := blk_frozen BK402.out 0; have hfz16_1 := blk_frozen BK402.out 1) | ((with_reducible refine gate_callee (f := 52) rfl ?_); refine goesL_ (some 20) rfl rfl Try.func52 (by kernel_rfl) rfl #[.agg #[.int .i64 a0_0, .slice A0_1 l0_1.length c0_1]] rfl (by (try simp only [List.map_toArray, List.map_cons, List.map_nil]); first | done | rfl | (simp only [List.length_drop, List.length_take]; rfl)) ?_; (with_reducible refine (filled_value a0_0 _ _ l0_1 t404 t405 _ ?side1 ?side2 A2.out A9.out).mono ?_); (case side1 => repeat (first | exact (Kd.C_below HR0_1.out HB.out) | (with_reducible refine Kd.C_alloc ?_ _) | (with_reducible refine Kd.C_drewN ?_ _) | (with_reducible refine Kd.C_drew ?_))); (case side2 => exact HC0_1.out); rintro e w17 ⟨gq, rfl, hb⟩; refine ⟨_, rfl, ?_⟩; have n0_ := Aside0.mk (blk_below (g := gb402) (o := .cells #[.int .i64 a0_0, .slice A0_1 l0_1.length c0_1] 30 (0, 0)) (by (with_reducible repeat (first | refine blk_drewN ?_ _ | refine blk_drew ?_ | refine blk_alloc ?_ _)); exact BK402.out) hb); have n1_ := Aside0.mk (below_step (by repeat (first | (with_reducible first | exact HB.out | apply below_alloc | apply pw_below_drewN | apply below_drew1 | refine below_set ?_ GE402.out) | exact HB.out)) hb); clear BK402; clear HB; have BK402 := n0_; have HB := n1_; clear n0_ n1_; (try clear hb); (try clear hb2); (try clear hk); (try clear hi); have hcz18_0 : w17.cell? ⟨gb402, 0, none⟩ = some (.int .i64 a0_0) := (blk_cell BK402.out 0).trans rfl; have hcz18_1 : w17.cell? ⟨gb402, 1, none⟩ = some (.slice A0_1 l0_1.length c0_1) := (blk_cell BK402.out 1).trans rfl; have hfz18_0 := blk_frozen BK402.out 0; have hfz18_1 := blk_frozen BK402.out 1))
        go_loopg [6, 27] k (fun kq v6 v27 w' => ∃ (x6_1 : List (List Bool)) (x27_1 : Int), v27 = .int .i64 x27_1 ∧ Aside0 (wax_Sides.l0 kq t404 x6_1 ji12 x27_1 a0_0 l0_1 = some (r1, r2)) ∧ Aside0 (kq ≤ k) ∧ Aside0 (Kd.S (Kd.slice 4 Kd.bool) 45 w' w.heap.size (fun _ => True) v6 x6_1) ∧ Aside0 (w'.heap[gb402]? = some (.cells #[.int .i64 a0_0, (.slice A0_1 l0_1.length c0_1)] 30 (0, 0))) ∧ Aside0 (Below w.heap.size w w'))
        case atStart => exact ⟨(([] : List (List Bool))), (0), (by first | rfl | (simp; done) | (simp [*]; done)), H', ⟨Nat.le_refl _⟩, ⟨by first | exact Kd.S_nil _ _ _ _ _ | exact Kd.N_nil _ _ _ _ _ | exact Kd.V_nil _ _ _ _ _ | exact Kd.Q_nil _ _ _ _ _ | exact Kd.R_nil _ _ _ _ _⟩, ⟨by (with_reducible repeat (first | refine blk_drewN ?_ _ | refine blk_drew ?_ | refine blk_alloc ?_ _)); exact BK402.out⟩, ⟨by repeat (first | (with_reducible first | exact HB.out | apply below_alloc | apply pw_below_drewN | apply below_drew1 | refine below_set ?_ GE402.out) | exact HB.out)⟩⟩
        case round =>
          clear H'
          try clear c1
          try clear c2
          try clear p2
          try clear c3
          try clear c4
          try clear c4b0
          try clear c5
          try clear p6
          try clear c11
          try clear c11b0
          try clear c11b1
          try clear hcz14_0
          try clear hcz14_1
          try clear hcz16_0
          try clear hcz16_1
          try clear hcz18_0
          try clear hcz18_1
          try clear hcz6_0
          try clear hcz6_1
          try clear hcz8_0
          try clear hcz8_1
          try clear hfz14_0
          try clear hfz14_1
          try clear hfz16_0
          try clear hfz16_1
          try clear hfz18_0
          try clear hfz18_1
          try clear hfz6_0
          try clear hfz6_1
          try clear hfz8_0
          try clear hfz8_1
          obtain ⟨x6_1, x27_1, rfl, HA, HK1, HO_6, BK402, HB⟩ := hrel
          cases gk with
          | zero => exact absurd HA.out (by simp [wax_Sides.l0])
          | succ k1 =>
            have H := HA.out
            clear HA
            simp only [wax_Sides.l0] at H
            by_cases c19 : x27_1 < ji12
            · rw [if_pos c19] at H
              have c19b0 : decide (x27_1 < ji12) = true := decide_eq_true c19
              (try (have c19b0_0 := c19b0; rw [hl8_2] at c19b0_0))
              clear c19
              by_cases c20 : 0 ≤ a0_0
              · rw [if_pos c20] at H
                have c20b0 := eq_true c20
                (try (have c20b0_0 := c20b0; rw [hl8_2] at c20b0_0))
                have c20b1 : decide (0 ≤ a0_0) = true := decide_eq_true c20
                (try (have c20b1_0 := c20b1; rw [hl8_2] at c20b1_0))
                clear c20
                by_cases c21 : (a0_0 : Int).toNat ≤ 281474976710656
                · rw [if_pos c21] at H
                  have c21b0 := eq_true c21
                  (try (have c21b0_0 := c21b0; rw [hl8_2] at c21b0_0))
                  have c21b1 : decide ((a0_0 : Int).toNat ≤ 281474976710656) = true := decide_eq_true c21
                  (try (have c21b1_0 := c21b1; rw [hl8_2] at c21b1_0))
                  clear c21
                  obtain ⟨y406, hy406⟩ : ∃ y_ : List Bool, y_ = (List.replicate (a0_0 : Int).toNat false) := ⟨_, rfl⟩
                  replace H : (if 0 < (y406.length : Int) then (wax_Sides.l1 k1 t404 x6_1 x27_1 (y406.set (0 : Int).toNat true) 1 ji12 x27_1 a0_0 l0_1) else (none)) = some (r1, r2) := by first | (rw [hy406]; with_reducible exact H) | (have H2_ := (Option.bind_some _ _).symm.trans H; rw [hy406]; with_reducible exact H2_) | (have H2_ := (Option.bind_some _ _).symm.trans H; with_reducible exact H2_) | with_reducible exact H | (rw [hy406]; exact H) | exact H
                  have Ny406 := Aside0.mk hy406
                  clear hy406
                  by_cases c22 : 0 < (y406.length : Int)
                  · rw [if_pos c22] at H
                    have c22b0 : decide (0 < (y406.length : Int)) = true := decide_eq_true c22
                    (try (have c22b0_0 := c22b0; rw [hl8_2] at c22b0_0))
                    have c22b1 : decide (0 < y406.length) = true := decide_eq_true (by omega)
                    clear c22
                    obtain ⟨y409, hy409⟩ : ∃ y_ : List Bool, y_ = (y406.set (0 : Int).toNat true) := ⟨_, rfl⟩
                    replace H : (wax_Sides.l1 k1 t404 x6_1 x27_1 y409 1 ji12 x27_1 a0_0 l0_1) = some (r1, r2) := by first | (rw [hy409]; with_reducible exact H) | (have H2_ := (Option.bind_some _ _).symm.trans H; rw [hy409]; with_reducible exact H2_) | (have H2_ := (Option.bind_some _ _).symm.trans H; with_reducible exact H2_) | with_reducible exact H | (rw [hy409]; exact H) | exact H
                    have Ny409 := Aside0.mk hy409
                    clear hy409
                    have H' := Aside0.mk H
                    clear H
                    have hcz24_0 : wr.cell? ⟨gb402, 0, none⟩ = some (.int .i64 a0_0) := (blk_cell BK402.out 0).trans rfl
                    have hcz24_1 : wr.cell? ⟨gb402, 1, none⟩ = some (.slice A0_1 l0_1.length c0_1) := (blk_cell BK402.out 1).trans rfl
                    have hfz24_0 := blk_frozen BK402.out 0
                    have hfz24_1 := blk_frozen BK402.out 1
                    go_wp2_with (first | ((with_reducible refine gate_dst (N := 32) rfl ?_); refine Kd.R_make Kd.bool _ 4 rfl (N := 32) rfl 45 _ _ rfl a0_0 rfl rfl Try.underlying45 (.bool false) 1 info4 rfl (by decide) (by omega) false (ok := fun _ => True) (okp := fun _ => True) rfl (fun _ hk => hk) trivial (of_decide_eq_true (by first | (with_reducible assumption) | assumption)) (Nat.le_trans (Nat.mul_le_mul_right _ (of_decide_eq_true (by first | (with_reducible assumption) | assumption) : a0_0.toNat ≤ 281474976710656)) (by omega)) (Below.refl _ _) (Nat.le_refl _) ?_; intro v407 w25 ho26 hb hg_ hnew_; clear hg_ hnew_; (first | rw [← Ny406.out] at ho26 | (simp only [Int.reduceToNat] at ho26; rw [← Ny406.out] at ho26)); have n0_ := Aside0.mk (Kd.S_elder' (by (with_reducible repeat (first | apply Kd.S_alloc | apply Kd.S_drewN | apply Kd.S_drew)); exact HO_6.out) (Kd.R_base ho26) hb); have n1_ := Aside0.mk (Kd.R_lower ho26 (below_size (by repeat (first | (with_reducible first | exact HB.out | apply below_alloc | apply pw_below_drewN | apply below_drew1 | refine below_set ?_ GE402.out) | exact HB.out)))); have n2_ := Aside0.mk (blk_below (g := gb402) (o := .cells #[.int .i64 a0_0, .slice A0_1 l0_1.length c0_1] 30 (0, 0)) (by (with_reducible repeat (first | refine blk_drewN ?_ _ | refine blk_drew ?_ | refine blk_alloc ?_ _)); exact BK402.out) hb); have n3_ := Aside0.mk (below_step (by repeat (first | (with_reducible first | exact HB.out | apply below_alloc | apply pw_below_drewN | apply below_drew1 | refine below_set ?_ GE402.out) | exact HB.out)) hb); clear HO_6; clear BK402; clear HB; have HO_6 := n0_; have HO408 := n1_; have BK402 := n2_; have HB := n3_; clear n0_ n1_ n2_ n3_; clear hb ho26; have p23 : 0 ≤ (0 : Int) := (by omega); have q23 : (0 : Int) < ((y406.length : Int) : Int) := of_decide_eq_true (by first | (with_reducible assumption) | assumption); have qi23 : (0 < y406.length) = True := eq_true (by omega); obtain ⟨go23, co23, eo23, gb23, gl23, cl23, HG23⟩ := Kd.R_form HO408.out (by omega); (first | cases eo23 | (injection eo23 with ea_ en_ ec_; (first | subst ea_ | (injection ea_ with ea_; subst ea_)); subst ec_; clear en_)); have GB23 := Aside0.mk gb23; have GG23 := Aside0.mk HG23; clear gb23 gl23 HG23; obtain ⟨hx23_0, hf23_0⟩ := Kd.R_celln false HO408.out (0 : Int) p23 q23; (try rw [show ((0 : Int)).toNat = 0 from rfl] at hx23_0); (try simp only [Nat.reduceMul, Nat.zero_mul, Nat.zero_add, Nat.reduceAdd] at hx23_0); (try rw [show ((0 : Int)).toNat = 0 from rfl] at hf23_0); (try simp only [Nat.reduceMul, Nat.zero_mul, Nat.zero_add, Nat.reduceAdd] at hf23_0); replace p23 := eq_true p23; replace q23 := eq_true q23; obtain ⟨hy27_, hz27_⟩ := Kd.R_celln false HO408.out (0 : Int) (by omega) (of_decide_eq_true (by first | (with_reducible assumption) | assumption)); (try simp only [Int.reduceToNat, Int.toNat_zero, Int.toNat_ofNat, Nat.reduceMul, Nat.zero_mul, Nat.zero_add] at hy27_ hz27_); (try rw [show ((0 : Int)).toNat = 0 from rfl] at hy27_); (try rw [show ((0 : Int)).toNat = 0 from rfl] at hz27_); have HP27 := Kd.R_putg HO408.out (0 : Int) true) | ((with_reducible refine gate_store (t := 4) (p := 34) rfl ?_); refine store_event (t := 4) (p := 34) (v := ?vo_w28) (w1 := (w25.setCell ⟨go23, (0 : Int).toNat, none⟩ (.bool true))) ?hg ?ho ?hn ?hr ?_; (case ho => rfl); (case hg => rfl); (case hn => rfl); (case hr => first | (go_simp; done) | (go_simp; rfl)); intro w28 hw; have hg : w25.grownBy w28 (some go23) := (by rw [hw]; exact HP27.2); have hp_ : Kd.R Kd.bool 4 w28 w.heap.size (fun _ => True) (.slice (some ⟨go23, 0, none⟩) y406.length co23) y409 := (by rw [hw, Ny409.out]; exact HP27.1); clear HP27; have n0_ := Aside0.mk (Kd.S_after (v := (.slice (some ⟨go23, 0, none⟩) y406.length co23)) (v1 := (.slice (some ⟨go23, 0, none⟩) y406.length co23)) (ok := (fun _ => True)) (by (with_reducible repeat (first | apply Kd.S_alloc | apply Kd.S_drewN | apply Kd.S_drew)); exact HO_6.out) hg (.inl rfl)); have n1_ := Aside0.mk (blk_grown (g := gb402) (o := .cells #[.int .i64 a0_0, .slice A0_1 l0_1.length c0_1] 30 (0, 0)) (by (with_reducible repeat (first | refine blk_drewN ?_ _ | refine blk_drew ?_ | refine blk_alloc ?_ _)); exact BK402.out) hg (Kd.R_ne HO408.out BK402.out (by decide))); have n2_ := Aside0.mk (hp_); have n3_ := Aside0.mk ((by rw [hw]; exact below_set (HB.out) GB23.out : Below w.heap.size w w28)); clear HO_6; clear BK402; clear HO408; clear HB; have HO_6 := n0_; have BK402 := n1_; have HO408 := n2_; have HB := n3_; clear n0_ n1_ n2_ n3_; clear hg hw hp_))
                    go_loopg [9] k1 (fun kq v9 w' => ∃ (x8_2 : List Bool) (x9_2 : Int), v9 = .int .i64 x9_2 ∧ Aside0 (wax_Sides.l1 kq t404 x6_1 x27_1 x8_2 x9_2 ji12 x27_1 a0_0 l0_1 = some (r1, r2)) ∧ Aside0 (kq ≤ k1) ∧ Aside0 (Kd.S (Kd.slice 4 Kd.bool) 45 w' w.heap.size (fun k_ => some k_ ≠ ((.slice (some ⟨go23, 0, none⟩) y406.length co23) : Value).ownBlock) u6 x6_1) ∧ Aside0 (Kd.R Kd.bool 4 w' w.heap.size (fun _ => True) (.slice (some ⟨go23, 0, none⟩) y406.length co23) x8_2) ∧ Aside0 (w'.heap[gb402]? = some (.cells #[.int .i64 a0_0, (.slice A0_1 l0_1.length c0_1)] 30 (0, 0))) ∧ Aside0 (Below w.heap.size w w'))
                    case atStart => exact ⟨(y409), (1), (by first | rfl | (simp; done) | (simp [*]; done)), H', ⟨Nat.le_refl _⟩, ⟨by (with_reducible repeat (first | apply Kd.S_alloc | apply Kd.S_drewN | apply Kd.S_drew)); exact Kd.S_mono HO_6.out (fun _ hk => hk.2)⟩, ⟨by (with_reducible repeat (first | apply Kd.R_alloc | apply Kd.R_drewN | apply Kd.R_drew)); exact HO408.out⟩, ⟨by (with_reducible repeat (first | refine blk_drewN ?_ _ | refine blk_drew ?_ | refine blk_alloc ?_ _)); exact BK402.out⟩, ⟨by repeat (first | (with_reducible first | exact HB.out | apply below_alloc | apply pw_below_drewN | apply below_drew1 | refine below_set ?_ GE402.out) | exact HB.out)⟩⟩
                    case round =>
                      clear H'
                      try clear c1
                      try clear c2
                      try clear p2
                      try clear q2
                      try clear hx2
                      try clear qi2
                      try clear hf2
                      try clear c3
                      try clear c4
                      try clear c4b0
                      try clear c5
                      try clear p6
                      try clear c11
                      try clear c11b0
                      try clear c11b1
                      try clear c19
                      try clear c19b0
                      try clear c20
                      try clear c20b0
                      try clear c20b1
                      try clear c21
                      try clear c21b0
                      try clear c21b1
                      try clear c22
                      try clear c22b0
                      try clear c22b1
                      try clear p23
                      try clear q23
                      try clear hx23
                      try clear qi23
                      try clear hf23
                      try clear hcz14_0
                      try clear hcz14_1
                      try clear hcz16_0
                      try clear hcz16_1
                      try clear hcz18_0
                      try clear hcz18_1
                      try clear hcz24_0
                      try clear hcz24_1
                      try clear hcz6_0
                      try clear hcz6_1
                      try clear hcz8_0
                      try clear hcz8_1
                      try clear hfz14_0
                      try clear hfz14_1
                      try clear hfz16_0
                      try clear hfz16_1
                      try clear hfz18_0
                      try clear hfz18_1
                      try clear hfz24_0
                      try clear hfz24_1
                      try clear hfz6_0
                      try clear hfz6_1
                      try clear hfz8_0
                      try clear hfz8_1
                      try clear hx23_0
                      try clear p2
                      try clear p23
                      try clear p6
                      try clear q23
                      obtain ⟨x8_2, x9_2, rfl, HA, HK2, HO_6, HO_8, BK402, HB⟩ := hrel
                      have hl8_2 := (Kd.R_reads' HO_8.out).1
                      rw [hl8_2] at HO_8
                      (try simp only [hl8_2])
                      (try simp only [hl8_2] at BK402)
                      (try simp only [hl8_2] at HO_6)
                      cases gk with
                      | zero => exact absurd HA.out (by simp [wax_Sides.l1])
                      | succ k2 =>
                        have H := HA.out
                        clear HA
                        simp only [wax_Sides.l1] at H
                        by_cases c29 : x9_2 < (wrap64 (a0_0 - 1))
                        · rw [if_pos c29] at H
                          have c29b0 : decide (x9_2 < (wrap64 (a0_0 - 1))) = true := decide_eq_true c29
                          (try (have c29b0_0 := c29b0; rw [hl8_2] at c29b0_0))
                          clear c29
                          obtain ⟨ji30, hji30⟩ : ∃ j_ : Int, (wrap64 ((wrap64 (a0_0 - 2)) - x9_2)) = j_ := ⟨_, rfl⟩
                          replace H : (if 0 ≤ (ji30) then (if 0 ≤ x9_2 then (if x9_2 < (x8_2.length : Int) then (wax_Sides.l1 k2 t404 x6_1 x27_1 (x8_2.set (x9_2 : Int).toNat ((Go.bits .and .i64 (shr .i64 x27_1 (ji30)) 1) == 1)) (wrap64 (x9_2 + 1)) ji12 x27_1 a0_0 l0_1) else (none)) else (none)) else (none)) = some (r1, r2) := by first | (rw [hji30] at H; exact H) | (simp only [hji30] at H ⊢; exact H)
                          have hji30w : (IntKind.i64.wrap ((wrap64 (a0_0 - 2)) - x9_2)) = ji30 := (i64_w _).trans hji30
                          have hji30x : wrap64 (ji10 - x9_2) = ji30 := by rw [← hji10]; exact hji30
                          by_cases c31 : 0 ≤ (ji30)
                          · rw [if_pos c31] at H
                            have c31b0 := eq_true c31
                            (try (have c31b0_0 := c31b0; rw [hl8_2] at c31b0_0))
                            have c31b1 : decide (0 ≤ (ji30)) = true := decide_eq_true c31
                            (try (have c31b1_0 := c31b1; rw [hl8_2] at c31b1_0))
                            clear c31
                            obtain ⟨ji32, hji32⟩ : ∃ j_ : Int, (shr .i64 x27_1 (ji30)) = j_ := ⟨_, rfl⟩
                            replace H : (if 0 ≤ x9_2 then (if x9_2 < (x8_2.length : Int) then (wax_Sides.l1 k2 t404 x6_1 x27_1 (x8_2.set (x9_2 : Int).toNat ((Go.bits .and .i64 (ji32) 1) == 1)) (wrap64 (x9_2 + 1)) ji12 x27_1 a0_0 l0_1) else (none)) else (none)) = some (r1, r2) := by first | (rw [hji32] at H; exact H) | (simp only [hji32] at H ⊢; exact H)
                            have hji32_ : (x27_1 / 2 ^ min (ji30).toNat 64) = ji32 := hji32
                            have hji32z : (ji30) ≤ 64 → (x27_1 / 2 ^ (ji30).toNat) = ji32 := shr_small hji32
                            by_cases c33 : 0 ≤ x9_2
                            · rw [if_pos c33] at H
                              have c33b0 : decide (0 ≤ x9_2) = true := decide_eq_true c33
                              (try (have c33b0_0 := c33b0; rw [hl8_2] at c33b0_0))
                              clear c33
                              by_cases c34 : x9_2 < (x8_2.length : Int)
                              · rw [if_pos c34] at H
                                have c34b0 : decide (x9_2 < (x8_2.length : Int)) = true := decide_eq_true c34
                                (try (have c34b0_0 := c34b0; rw [hl8_2] at c34b0_0))
                                clear c34
                                obtain ⟨y410, hy410⟩ : ∃ y_ : List Bool, y_ = (x8_2.set (x9_2 : Int).toNat ((Go.bits .and .i64 (ji32) 1) == 1)) := ⟨_, rfl⟩
                                replace H : (wax_Sides.l1 k2 t404 x6_1 x27_1 y410 (wrap64 (x9_2 + 1)) ji12 x27_1 a0_0 l0_1) = some (r1, r2) := by first | (rw [hy410]; with_reducible exact H) | (have H2_ := (Option.bind_some _ _).symm.trans H; rw [hy410]; with_reducible exact H2_) | (have H2_ := (Option.bind_some _ _).symm.trans H; with_reducible exact H2_) | with_reducible exact H | (rw [hy410]; exact H) | exact H
                                have Ny410 := Aside0.mk hy410
                                clear hy410
                                have H' := Aside0.mk H
                                clear H
                                have hcz36_0 : wr.cell? ⟨gb402, 0, none⟩ = some (.int .i64 a0_0) := (blk_cell BK402.out 0).trans rfl
                                have hcz36_1 : wr.cell? ⟨gb402, 1, none⟩ = some (.slice A0_1 l0_1.length c0_1) := (blk_cell BK402.out 1).trans rfl
                                have hfz36_0 := blk_frozen BK402.out 0
                                have hfz36_1 := blk_frozen BK402.out 1
                                have p35 : 0 ≤ (x9_2 : Int) := of_decide_eq_true (by first | (with_reducible assumption) | assumption)
                                have q35 : (x9_2 : Int) < ((x8_2.length : Int) : Int) := of_decide_eq_true (by first | (with_reducible assumption) | assumption)
                                obtain ⟨hx35_0, hf35_0⟩ := Kd.R_celln false HO_8.out (x9_2 : Int) p35 q35
                                replace p35 := eq_true p35
                                replace q35 := eq_true q35
                                have HP37 := Kd.R_putg HO_8.out (x9_2 : Int) ((Go.bits .and .i64 (ji32) 1) == 1)
                                go_wp2_with (first | ((with_reducible refine gate_store (t := 4) (p := 53) rfl ?_); refine store_event (t := 4) (p := 53) (v := ?vo_w38) (w1 := (wr.setCell ⟨go23, (x9_2 : Int).toNat, none⟩ (.bool ((Go.bits .and .i64 (ji32) 1) == 1)))) ?hg ?ho ?hn ?hr ?_; (case ho => rfl); (case hg => rfl); (case hn => rfl); (case hr => first | (go_simp; done) | (go_simp; rfl)); intro w38 hw; have hg : wr.grownBy w38 (some go23) := (by rw [hw]; exact HP37.2); have hp_ : Kd.R Kd.bool 4 w38 w.heap.size (fun _ => True) (.slice (some ⟨go23, 0, none⟩) x8_2.length co23) y410 := (by rw [hw, Ny410.out]; exact HP37.1); clear HP37; have n0_ := Aside0.mk (Kd.S_after (v := (.slice (some ⟨go23, 0, none⟩) x8_2.length co23)) (v1 := (.slice (some ⟨go23, 0, none⟩) x8_2.length co23)) (ok := (fun _ => True)) (by (with_reducible repeat (first | apply Kd.S_alloc | apply Kd.S_drewN | apply Kd.S_drew)); exact Kd.S_mono HO_6.out (fun _ hk => ⟨trivial, hk⟩)) hg (.inl rfl)); have n1_ := Aside0.mk (hp_); have n2_ := Aside0.mk (blk_grown (g := gb402) (o := .cells #[.int .i64 a0_0, .slice A0_1 l0_1.length c0_1] 30 (0, 0)) (by (with_reducible repeat (first | refine blk_drewN ?_ _ | refine blk_drew ?_ | refine blk_alloc ?_ _)); exact BK402.out) hg (Kd.R_ne HO_8.out BK402.out (by decide))); have n3_ := Aside0.mk ((by rw [hw]; exact below_set (HB.out) GB23.out : Below w.heap.size w w38)); clear HO_6; clear HO_8; clear BK402; clear HB; have HO_6 := n0_; have HO_8 := n1_; have BK402 := n2_; have HB := n3_; clear n0_ n1_ n2_ n3_; clear hg hw hp_))
                                (try simp only [← hl8_2])
                                go_roundg k2
                                case measure => have := HK1.out; have := HK2.out; omega
                                case rel => exact ⟨(y410), (wrap64 (x9_2 + 1)), (by first | rfl | (simp; done) | (simp [*]; done)), H', ⟨by have := HK1.out; have := HK2.out; omega⟩, ⟨by (try simp only [hl8_2]); (with_reducible repeat (first | apply Kd.S_alloc | apply Kd.S_drewN | apply Kd.S_drew)); exact Kd.S_mono HO_6.out (fun _ hk => hk.2)⟩, ⟨by (try simp only [hl8_2]); (with_reducible repeat (first | apply Kd.R_alloc | apply Kd.R_drewN | apply Kd.R_drew)); exact HO_8.out⟩, ⟨by (try simp only [hl8_2]); (with_reducible repeat (first | refine blk_drewN ?_ _ | refine blk_drew ?_ | refine blk_alloc ?_ _)); exact BK402.out⟩, ⟨by repeat (first | (with_reducible first | exact HB.out | apply below_alloc | apply pw_below_drewN | apply below_drew1 | refine below_set ?_ GE402.out) | exact HB.out)⟩⟩
                              · rw [if_neg c34] at H
                                exact absurd H (by simp)
                            · rw [if_neg c33] at H
                              exact absurd H (by simp)
                          · rw [if_neg c31] at H
                            exact absurd H (by simp)
                        · rw [if_neg c29] at H
                          have c29b0 : decide (x9_2 < (wrap64 (a0_0 - 1))) = false := decide_eq_false c29
                          (try (have c29b0_0 := c29b0; rw [hl8_2] at c29b0_0))
                          clear c29
                          replace H := Option.bind_eq_some_iff.mp H
                          obtain ⟨t411, A390, H⟩ := H
                          replace H : (if t411 = t404 then (if x6_1.length < 5864062014805 then (wax_Sides.l0 k2 t404 (x6_1 ++ [x8_2]) ji12 (wrap64 (x27_1 + 1)) a0_0 l0_1) else (none)) else (wax_Sides.l0 k2 t404 x6_1 ji12 (wrap64 (x27_1 + 1)) a0_0 l0_1)) = some (r1, r2) := H
                          have A39 := Aside0.mk A390
                          clear A390
                          by_cases c40 : t411 = t404
                          · rw [if_pos c40] at H
                            have c40b0 : (t411 == t404) = true := beq_iff_eq.mpr c40
                            have c40b1 : (t411 != t404) = false := bne_eq_false_iff_eq.mpr c40
                            clear c40
                            by_cases c41 : x6_1.length < 5864062014805
                            · rw [if_pos c41] at H
                              have LMc41 := Aside0.mk c41
                              clear c41
                              obtain ⟨y412, hy412⟩ : ∃ y_ : List (List Bool), y_ = (x6_1 ++ [x8_2]) := ⟨_, rfl⟩
                              replace H : (wax_Sides.l0 k2 t404 y412 ji12 (wrap64 (x27_1 + 1)) a0_0 l0_1) = some (r1, r2) := by first | (rw [hy412]; with_reducible exact H) | (have H2_ := (Option.bind_some _ _).symm.trans H; rw [hy412]; with_reducible exact H2_) | (have H2_ := (Option.bind_some _ _).symm.trans H; with_reducible exact H2_) | with_reducible exact H | (rw [hy412]; exact H) | exact H
                              have Ny412 := Aside0.mk hy412
                              clear hy412
                              have H' := Aside0.mk H
                              clear H
                              have hcz42_0 : wr.cell? ⟨gb402, 0, none⟩ = some (.int .i64 a0_0) := (blk_cell BK402.out 0).trans rfl
                              have hcz42_1 : wr.cell? ⟨gb402, 1, none⟩ = some (.slice A0_1 l0_1.length c0_1) := (blk_cell BK402.out 1).trans rfl
                              have hfz42_0 := blk_frozen BK402.out 0
                              have hfz42_1 := blk_frozen BK402.out 1
                              go_wp2_with (first | ((with_reducible refine gate_callee (f := 56) rfl ?_); refine goesL_ (some 56) rfl rfl Try.func56 (by kernel_rfl) rfl #[.agg #[.int .i64 a0_0, .slice A0_1 l0_1.length c0_1], .slice (some ⟨go23, 0, none⟩) x8_2.length co23] rfl (by (try simp only [List.map_toArray, List.map_cons, List.map_nil]); first | done | rfl | (simp only [List.length_drop, List.length_take]; rfl)) ?_; (with_reducible refine (wax_Net_cost.calls k2 a0_0 _ _ l0_1 _ _ x8_2 t411 _ ?side1 ?side2 ?side3 ?side4 A39.out).mono ?_); (case side1 => repeat (first | exact (Kd.C_below HR0_1.out HB.out) | (with_reducible refine Kd.C_alloc ?_ _) | (with_reducible refine Kd.C_drewN ?_ _) | (with_reducible refine Kd.C_drew ?_))); (case side2 => exact HC0_1.out); (case side3 => repeat (first | exact (Kd.R_reads' HO_8.out).2.2 | (with_reducible refine Kd.C_alloc ?_ _) | (with_reducible refine Kd.C_drewN ?_ _) | (with_reducible refine Kd.C_drew ?_))); (case side4 => exact (Kd.R_reads' HO_8.out).2.1); rintro e w43 ⟨rfl, hb⟩; refine ⟨_, rfl, ?_⟩; have n0_ := Aside0.mk (Kd.S_below (by (with_reducible repeat (first | apply Kd.S_alloc | apply Kd.S_drewN | apply Kd.S_drew)); exact HO_6.out) hb); have n1_ := Aside0.mk (Kd.R_below (by (with_reducible repeat (first | apply Kd.R_alloc | apply Kd.R_drewN | apply Kd.R_drew)); exact HO_8.out) hb); have n2_ := Aside0.mk (blk_below (g := gb402) (o := .cells #[.int .i64 a0_0, .slice A0_1 l0_1.length c0_1] 30 (0, 0)) (by (with_reducible repeat (first | refine blk_drewN ?_ _ | refine blk_drew ?_ | refine blk_alloc ?_ _)); exact BK402.out) hb); have n3_ := Aside0.mk (below_step (by repeat (first | (with_reducible first | exact HB.out | apply below_alloc | apply pw_below_drewN | apply below_drew1 | refine below_set ?_ GE402.out) | exact HB.out)) hb); clear HO_6; clear HO_8; clear BK402; clear HB; have HO_6 := n0_; have HO_8 := n1_; have BK402 := n2_; have HB := n3_; clear n0_ n1_ n2_ n3_; (try clear hb); (try clear hb2); (try clear hk); (try clear hi)) | ((with_reducible refine gate_builtin (b := .append) (xs := #[.tmp 59, .tmp 61]) rfl ?_); at_builtin; refine Kd.S_append (Kd.slice 4 Kd.bool) (w0 := w) w.heap.size rfl (.tmp 59) (.tmp 61) 55 45 (.slice none 0 0) 24 rfl Try.underlying55 info45 rfl (by decide) (by omega) u6 x6_1 x8_2 [.slice (some ⟨go23, 0, none⟩) x8_2.length co23] (fun _ => True) (fun k_ => some k_ = (.slice (some ⟨go23, 0, none⟩) x8_2.length co23 : Value).ownBlock) rfl rfl ?aP (fun k_ hk_ => ((Kd.R_mono (ok' := fun k_ => ((fun _ => True)) k_ ∧ some k_ ≠ (u6 : Value).ownBlock) (Kd.R_apart' (HO_8.out) (Kd.S_typed HO_6.out) (by decide)) (fun k_ hk => ⟨trivial, hk.2⟩))).1 k_ hk_.symm) ?aF ?aO ?aB ?aS ?aL ?_; (case aP => exact Kd.M_row (Kd.R_mono (Kd.R_tight rfl (Kd.R_mono (ok' := fun k_ => ((fun _ => True)) k_ ∧ some k_ ≠ (u6 : Value).ownBlock) (Kd.R_apart' (HO_8.out) (Kd.S_typed HO_6.out) (by decide)) (fun k_ hk => ⟨trivial, hk.2⟩))) (fun _ h_ => h_))); (case aB => exact (by repeat (first | (with_reducible first | exact HB.out | apply below_alloc | apply pw_below_drewN | apply below_drew1 | refine below_set ?_ GE402.out) | exact HB.out))); (case aF => exact (fun _ _ => trivial)); (case aO => exact (by (with_reducible repeat (first | apply Kd.S_alloc | apply Kd.S_drewN | apply Kd.S_drew)); exact Kd.S_mono HO_6.out (fun k_ hk => ⟨trivial, fun e_ => hk e_⟩))); (case aS => exact (below_size (by repeat (first | (with_reducible first | exact HB.out | apply below_alloc | apply pw_below_drewN | apply below_drew1 | refine below_set ?_ GE402.out) | exact HB.out)))); (case aL => have := LMc41.out; omega); intro v413 w44 ho hb hg hat; rw [← Ny412.out] at ho; have n0_ := Aside0.mk (blk_grown (g := gb402) (o := .cells #[.int .i64 a0_0, .slice A0_1 l0_1.length c0_1] 30 (0, 0)) (by (with_reducible repeat (first | refine blk_drewN ?_ _ | refine blk_drew ?_ | refine blk_alloc ?_ _)); exact BK402.out) hg (Kd.S_ne HO_6.out BK402.out (by decide))); have n1_ := Aside0.mk (hb); have n2_ := Aside0.mk (ho); clear BK402; clear HB; clear HO_6; clear HO_8; have BK402 := n0_; have HB := n1_; have HO414 := n2_; clear n0_ n1_ n2_; clear ho hb hg hat))
                              (try simp only [← hl8_2])
                              go_roundg k2
                              case measure => have := HK1.out; have := HK2.out; omega
                              case rel => exact ⟨(y412), (wrap64 (x27_1 + 1)), (by first | rfl | (simp; done) | (simp [*]; done)), H', ⟨by have := HK1.out; have := HK2.out; omega⟩, ⟨by (try simp only [hl8_2]); (with_reducible repeat (first | apply Kd.S_alloc | apply Kd.S_drewN | apply Kd.S_drew)); exact HO414.out⟩, ⟨by (try simp only [hl8_2]); (with_reducible repeat (first | refine blk_drewN ?_ _ | refine blk_drew ?_ | refine blk_alloc ?_ _)); exact BK402.out⟩, ⟨by repeat (first | (with_reducible first | exact HB.out | apply below_alloc | apply pw_below_drewN | apply below_drew1 | refine below_set ?_ GE402.out) | exact HB.out)⟩⟩
                            · rw [if_neg c41] at H
                              exact absurd H (by simp)
                          · rw [if_neg c40] at H
                            have c40b0 : (t411 == t404) = false := beq_eq_false_iff_ne.mpr c40
                            have c40b1 : (t411 != t404) = true := bne_iff_ne.mpr c40
                            have H' := Aside0.mk H
                            clear H
                            have hcz45_0 : wr.cell? ⟨gb402, 0, none⟩ = some (.int .i64 a0_0) := (blk_cell BK402.out 0).trans rfl
                            have hcz45_1 : wr.cell? ⟨gb402, 1, none⟩ = some (.slice A0_1 l0_1.length c0_1) := (blk_cell BK402.out 1).trans rfl
                            have hfz45_0 := blk_frozen BK402.out 0
                            have hfz45_1 := blk_frozen BK402.out 1
                            go_wp2_with (first | ((with_reducible refine gate_callee (f := 56) rfl ?_); refine goesL_ (some 56) rfl rfl Try.func56 (by kernel_rfl) rfl #[.agg #[.int .i64 a0_0, .slice A0_1 l0_1.length c0_1], .slice (some ⟨go23, 0, none⟩) x8_2.length co23] rfl (by (try simp only [List.map_toArray, List.map_cons, List.map_nil]); first | done | rfl | (simp only [List.length_drop, List.length_take]; rfl)) ?_; (with_reducible refine (wax_Net_cost.calls k2 a0_0 _ _ l0_1 _ _ x8_2 t411 _ ?side1 ?side2 ?side3 ?side4 A39.out).mono ?_); (case side1 => repeat (first | exact (Kd.C_below HR0_1.out HB.out) | (with_reducible refine Kd.C_alloc ?_ _) | (with_reducible refine Kd.C_drewN ?_ _) | (with_reducible refine Kd.C_drew ?_))); (case side2 => exact HC0_1.out); (case side3 => repeat (first | exact (Kd.R_reads' HO_8.out).2.2 | (with_reducible refine Kd.C_alloc ?_ _) | (with_reducible refine Kd.C_drewN ?_ _) | (with_reducible refine Kd.C_drew ?_))); (case side4 => exact (Kd.R_reads' HO_8.out).2.1); rintro e w46 ⟨rfl, hb⟩; refine ⟨_, rfl, ?_⟩; have n0_ := Aside0.mk (Kd.S_below (by (with_reducible repeat (first | apply Kd.S_alloc | apply Kd.S_drewN | apply Kd.S_drew)); exact HO_6.out) hb); have n1_ := Aside0.mk (Kd.R_below (by (with_reducible repeat (first | apply Kd.R_alloc | apply Kd.R_drewN | apply Kd.R_drew)); exact HO_8.out) hb); have n2_ := Aside0.mk (blk_below (g := gb402) (o := .cells #[.int .i64 a0_0, .slice A0_1 l0_1.length c0_1] 30 (0, 0)) (by (with_reducible repeat (first | refine blk_drewN ?_ _ | refine blk_drew ?_ | refine blk_alloc ?_ _)); exact BK402.out) hb); have n3_ := Aside0.mk (below_step (by repeat (first | (with_reducible first | exact HB.out | apply below_alloc | apply pw_below_drewN | apply below_drew1 | refine below_set ?_ GE402.out) | exact HB.out)) hb); clear HO_6; clear HO_8; clear BK402; clear HB; have HO_6 := n0_; have HO_8 := n1_; have BK402 := n2_; have HB := n3_; clear n0_ n1_ n2_ n3_; (try clear hb); (try clear hb2); (try clear hk); (try clear hi)))
                            (try simp only [← hl8_2])
                            go_roundg k2
                            case measure => have := HK1.out; have := HK2.out; omega
                            case rel => exact ⟨(x6_1), (wrap64 (x27_1 + 1)), (by first | rfl | (simp; done) | (simp [*]; done)), H', ⟨by have := HK1.out; have := HK2.out; omega⟩, ⟨by (try simp only [hl8_2]); (with_reducible repeat (first | apply Kd.S_alloc | apply Kd.S_drewN | apply Kd.S_drew)); exact Kd.S_mono HO_6.out (fun _ hk => trivial)⟩, ⟨by (try simp only [hl8_2]); (with_reducible repeat (first | refine blk_drewN ?_ _ | refine blk_drew ?_ | refine blk_alloc ?_ _)); exact BK402.out⟩, ⟨by repeat (first | (with_reducible first | exact HB.out | apply below_alloc | apply pw_below_drewN | apply below_drew1 | refine below_set ?_ GE402.out) | exact HB.out)⟩⟩
                  · rw [if_neg c22] at H
                    exact absurd H (by simp)
                · rw [if_neg c21] at H
                  exact absurd H (by simp)
              · rw [if_neg c20] at H
                exact absurd H (by simp)
            · rw [if_neg c19] at H
              have c19b0 : decide (x27_1 < ji12) = false := decide_eq_false c19
              (try (have c19b0_0 := c19b0; rw [hl8_2] at c19b0_0))
              clear c19
              simp only [Option.some.injEq, Prod.mk.injEq] at H
              obtain ⟨rfl, rfl⟩ := H
              go_wp2
              go_ret2
              exact ⟨_, by first | rfl | (simp [errW_none, errW_some] <;> rfl) | (simp only [← hji10, ← hji12]; first | rfl | (simp [errW_none, errW_some] <;> rfl)) | (simp [*, errW_none, errW_some] <;> rfl), by (with_reducible repeat (first | apply Kd.S_alloc | apply Kd.S_drewN | apply Kd.S_drew)); exact HO_6.out, by repeat (first | (with_reducible first | exact HB.out | apply below_alloc | apply pw_below_drewN | apply below_drew1 | refine below_set ?_ GE402.out) | exact HB.out)⟩
      · rw [if_neg c11] at H
        exact absurd H (by simp)
  · replace c3 := Bool.eq_false_iff.mpr c3
    subst c3
    have H1 : (some (([] : List (List Bool)), 2)) = some (r1, r2) := by rw [if_neg (show ¬ (false = true) by decide)] at H; exact H
    clear H
    have H := H1
    clear H1
    simp only [Option.some.injEq, Prod.mk.injEq] at H
    obtain ⟨rfl, rfl⟩ := H
    go_enter Try.func29, Try.ntmps29
    go_wp2_with (first | ((with_reducible refine gate_dst (N := 1) rfl ?_); refine box_event ?hg (N := 1) ?hd (cs := #[.int .i64 a0_0, .slice A0_1 l0_1.length c0_1]) (t := 30) ?hr ?_; (case hd => rfl); (case hg => rfl); (case hr => first | (go_simp; done) | (go_simp; rfl)); intro gb402 hg w47 hbox hb; have n0_ := Aside0.mk (below_step (by repeat (first | (with_reducible first | exact HB.out | apply below_alloc | apply pw_below_drewN | apply below_drew1) | exact HB.out)) hb); have n1_ := Aside0.mk (hbox); have n2_ := Aside0.mk ((by rw [hg]; exact (below_size (by repeat (first | (with_reducible first | exact HB.out | apply below_alloc | apply pw_below_drewN | apply below_drew1) | exact HB.out))) : w.heap.size ≤ gb402)); have n3_ := Aside0.mk ((by rw [hg]; exact (below_size (by repeat (first | (with_reducible first | exact HB.out | apply below_alloc | apply pw_below_drewN | apply below_drew1) | exact HB.out))) : w.heap.size ≤ gb402)); clear HB; have HB := n0_; have BK402 := n1_; have GW402 := n2_; have GE402 := n3_; clear n0_ n1_ n2_ n3_; clear hb hbox hg; have hcz48_0 : w47.cell? ⟨gb402, 0, none⟩ = some (.int .i64 a0_0) := (blk_cell BK402.out 0).trans rfl; have hcz48_1 : w47.cell? ⟨gb402, 1, none⟩ = some (.slice A0_1 l0_1.length c0_1) := (blk_cell BK402.out 1).trans rfl; have hfz48_0 := blk_frozen BK402.out 0; have hfz48_1 := blk_frozen BK402.out 1) | ((with_reducible refine gate_callee (f := 51) rfl ?_); refine goesL_ (some 12) rfl rfl Try.func51 (by kernel_rfl) rfl #[.agg #[.int .i64 a0_0, .slice A0_1 l0_1.length c0_1]] rfl (by (try simp only [List.map_toArray, List.map_cons, List.map_nil]); first | done | rfl | (simp only [List.length_drop, List.length_take]; rfl)) ?_; (with_reducible refine (wax_Net_valid.calls a0_0 _ _ l0_1 false _ ?side1 ?side2 A2.out).mono ?_); (case side1 => repeat (first | exact (Kd.C_below HR0_1.out HB.out) | (with_reducible refine Kd.C_alloc ?_ _) | (with_reducible refine Kd.C_drewN ?_ _) | (with_reducible refine Kd.C_drew ?_))); (case side2 => exact HC0_1.out); rintro e w49 ⟨rfl, hb⟩; refine ⟨_, rfl, ?_⟩; have n0_ := Aside0.mk (blk_below (g := gb402) (o := .cells #[.int .i64 a0_0, .slice A0_1 l0_1.length c0_1] 30 (0, 0)) (by (with_reducible repeat (first | refine blk_drewN ?_ _ | refine blk_drew ?_ | refine blk_alloc ?_ _)); exact BK402.out) hb); have n1_ := Aside0.mk (below_step (by repeat (first | (with_reducible first | exact HB.out | apply below_alloc | apply pw_below_drewN | apply below_drew1 | refine below_set ?_ GE402.out) | exact HB.out)) hb); clear BK402; clear HB; have BK402 := n0_; have HB := n1_; clear n0_ n1_; (try clear hb); (try clear hb2); (try clear hk); (try clear hi)))
    go_ret2
    exact ⟨_, by first | rfl | (simp [errW_none, errW_some] <;> rfl) | (simp [*, errW_none, errW_some] <;> rfl), by first | exact Kd.S_nil _ _ _ _ _ | exact Kd.N_nil _ _ _ _ _ | exact Kd.V_nil _ _ _ _ _ | exact Kd.Q_nil _ _ _ _ _ | exact Kd.R_nil _ _ _ _ _, by repeat (first | (with_reducible first | exact HB.out | apply below_alloc | apply pw_below_drewN | apply below_drew1 | refine below_set ?_ GE402.out) | exact HB.out)⟩
end Go.Proofs.Ytbamanjedfccpaa.X
end
