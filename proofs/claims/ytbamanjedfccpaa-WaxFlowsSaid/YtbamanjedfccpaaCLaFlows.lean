/- The law WaxFlows holds of the program, for every input that its statement lets in. -/
import Derived.Test.YtbamanjedfccpaaBq
import Derived.Test.YtbamanjedfccpaaRows
import Derived.Test.YtbamanjedfccpaaBj
import Derived.WalkKit
import Derived.ProofKit
import Derived.OpenShut
import Derived.ShutString
import Derived.ChangeOld
import Derived.Below
import Derived.SizedLaws
import Derived.Test.YtbamanjedfccpaaBb
section
set_option linter.unusedVariables false
set_option linter.unusedSimpArgs false
namespace Go.Proofs.Ytbamanjedfccpaa.HTab
open Go.RowKit Go.Proofs.YtbamanjedfccpaaW.PrintWords Go.Proofs.YtbamanjedfccpaaW.PrintLast Go.Proofs.YtbamanjedfccpaaW.PrintMore Go.Proofs.Ytbamanjedfccpaa.X
set_option linter.unusedVariables false
set_option linter.unusedSimpArgs false
structure RNetD (N : Nat) (l : List S34) (v : Int) (G : List (List Int)) (fr bk : List Int) : Prop where
  grt : rgrt N l = some (v, G)
  ok : GOK N G
  res : ∀ T, resG N T G = costF false T (l.map cvA) - v * (ind T 0 - ind T ((N : Int) - 1))
  v0 : 0 ≤ v
  f1 : cantingref07_way.f fuelK G 0 = some fr
  w1 : WayD N G 0 fr
  no : rd fr ((N : Int) - 1) < 0
  f2 : cantingref07_way.f fuelK (backG N G) ((N : Int) - 1) = some bk
  w2 : WayD N (backG N G) ((N : Int) - 1) bk
theorem back_sq (N : Nat) (G : List (List Int)) : GSq N (backG N G) ∧ ∀ i j : Int, 0 ≤ i → i < N → 0 ≤ j → j < N → gr (backG N G) i j = gr G j i := by
  have e : ∀ i : Int, 0 ≤ i → i < N → rd_L4 (backG N G) i = (List.range N).map fun (j : Nat) => gr G (j : Int) i := fun i i0 i1 => by
    obtain ⟨n, rfl⟩ : ∃ n : Nat, i = n := ⟨i.toNat, by omega⟩
    have hn : n < N := by omega
    simp [rd_L4, backG, hn]
  refine ⟨⟨by simp [backG], fun i i0 i1 => by rw [e i i0 i1]; simp⟩, fun i j i0 i1 j0 j1 => ?_⟩
  have h2 : gr (backG N G) i j = rd (rd_L4 (backG N G) i) j := rfl
  rw [h2, e i i0 i1]
  obtain ⟨n, rfl⟩ : ∃ n : Nat, j = n := ⟨j.toNat, by omega⟩
  have hn : n < N := by omega
  simp [rd, hn]
theorem rnetD {N : Nat} {l : List S34} (h2 : 2 ≤ N) (hN : N ≤ 40) (hl : l.length ≤ 160) (hg : GoodR N l) (hc : CapR l) : ∃ v G fr bk, RNetD N l v G fr bk := by
  obtain ⟨c1, c2⟩ := cap_ok hg hc hl
  have hcost := costF_le false (fun v => v == (0 : Int)) (l.map cvA) (fun a ha => by obtain ⟨b, hb, rfl⟩ := List.mem_map.1 ha; exact hc b hb)
  rw [List.length_map] at hcost
  obtain ⟨v, G, fr, e, ok, r, le, f1, w1, no⟩ := grtP_ok hN (s := 0) (t := (N : Int) - 1) (by omega) (by omega) (by omega) fuelW (capG N l) 0 c1 (Int.le_refl _) (by rw [c2]; omega) (by rw [c2]; unfold fuelW; omega)
  have hNN : N * (N + 2) ≤ 40 * 42 := Nat.mul_le_mul hN (by omega)
  obtain ⟨bk, f2, w2⟩ := way_f (by omega) (back_sq N G).1 (s := (N : Int) - 1) (by omega) fuelK (by unfold fuelK; omega)
  exact ⟨v, G, fr, bk, e, ok, fun T => by rw [r T, c2 T, Int.sub_zero], le, f1, w1, no, f2, w2⟩
section
variable {N : Nat} {l : List S34} {v : Int} {G : List (List Int)} {fr bk : List Int}
theorem RNetD.reach (h : RNetD N l v G fr bk) : resG N (fun x => decide (0 ≤ rd fr x)) G = 0 := resG_zero _ (fun i j i0 i1 j0 j1 hi hj => by
  have h1 := of_decide_eq_true hi
  have h2 := of_decide_eq_false hj
  have h3 := h.ok.nn i j i0 i1 j0 j1
  rcases Int.lt_or_eq_of_le h3 with q | q
  · exact absurd (h.w1.clo i j i0 i1 j0 j1 h1 q) h2
  · exact q.symm)
theorem RNetD.isMin (h : RNetD N l v G fr bk) : IsMin false (l.map cvA) 0 ((N : Int) - 1) v := by
  have hs : side (fun x => decide (0 ≤ rd fr x)) 0 ((N : Int) - 1) := ⟨by simp [h.w1.s0], decide_eq_false (by have := h.no; omega)⟩
  refine ⟨⟨_, hs, ?_⟩, fun T hT => ?_⟩
  · have h1 := h.res (fun x => decide (0 ≤ rd fr x))
    rw [h.reach, ind_side hs] at h1
    omega
  · have h1 := h.res T
    have h2 := resG_nonneg h.ok T
    rw [ind_side hT] at h1
    omega
end
theorem NetD.isMin {N : Nat} {arcs : List S35} {s : Int} {l1 D : List Int} {G : List Bool} (h : NetD N arcs s l1 D G) (hN : 2 ≤ N) (hg : Good N arcs) : IsMin false arcs 0 ((N : Int) - 1) s :=
  ⟨⟨_, h.least_side hN, h.least_cost hN hg⟩, fun T hT => h.min T hT⟩
theorem NetD.flow_ov {N : Nat} {l : List S34} {w : Int} {l1 D : List Int} {G : List Bool} (h : NetD N (l.map cvA) w l1 D G) (a : 2 ≤ N) (b : N ≤ 40) (hlen : l.length ≤ 160) (hg : GoodR N l) (hc : CapR l) (d : Good N (l.map cvA)) :
    ∃ o', ovF l (flL l1) (List.replicate N 0) = some o' ∧ innB o' (N - 2) 1 = true ∧ wrap64 (-(rd o' 0)) = w := by
  have e : ∀ a ∈ l.map cvA, 0 ≤ a.f2 ∧ a.f2 ≤ 1000000 := fun a ha => by obtain ⟨b, hb, rfl⟩ := List.mem_map.1 ha; exact hc b hb
  obtain ⟨o', ho⟩ := ov_some l l1 (List.replicate N 0) h.lok
  have hov : ∀ x : Int, 0 ≤ x → x < N → rd o' x = -(w * (ind (fun u => u == x) 0 - ind (fun u => u == x) ((N : Int) - 1))) := fun x x0 x1 => by
    have h1 := ovF_sum l (flL l1) (List.replicate N 0) o' 0 hg hc (by simp) (fun y _ _ => by rw [rep_zero]; omega) (by omega) (by omega) ho x x0 x1
    rw [h1, rep_zero, ov_res x l l1 h.lok, h.res]
    omega
  have hw2 : w ≤ 320000000 := by
    have h1 := h.least_cost a d
    have h2 := (costF_le false (fun v => rdOf false (leastL D) v) (l.map cvA) e).2
    rw [List.length_map] at h2
    omega
  have h00 : rd o' 0 = -w := by
    rw [hov 0 (by omega) (by omega)]
    rw [ind_eq, ind_eq, if_pos rfl, if_neg (by omega)]
    simp
  have hw0 := h.s0
  refine ⟨o', ho, innB_all o' (N - 2) 1 (fun j j1 j2 => ?_), ?_⟩
  · rw [hov (j : Int) (by omega) (by omega)]
    rw [ind_eq, ind_eq, if_neg (by omega), if_neg (by omega)]
    simp
  · rw [h00, Int.neg_neg]
    exact wrap_id (by omega) (by omega)
theorem flows_f (n : Int) (l : List S34) (hl : l.length < 10000000000000) : cantinglaw07_WaxFlows.f 1001 n l = some true := by
  unfold cantinglaw07_WaxFlows.f
  rw [net_f l hl n 1001 (by omega)]
  simp only [Option.bind_some]
  cases hv : vdB n (netL l) with
  | false =>
    have e1 : wax_Flow.f n (netL l) = some ([], 2) := by unfold wax_Flow.f; rw [hv]; rfl
    have e2 : cantingref07_Value.f n l = some (0, 2) := by unfold cantingref07_Value.f; rw [hv]; rfl
    rw [value_f0 hv, e1, e2, awake_f]
    rfl
  | true =>
    obtain ⟨N, rfl, a, b, hlen, hnl, hg, hc⟩ := vd_facts hv
    have hv2 := hv
    rw [hnl] at hv2 ⊢
    obtain ⟨N', e1, -, -, -, d, -⟩ := vdB_facts hv2
    obtain rfl : N = N' := by omega
    obtain ⟨w, l1, D, G, h⟩ := netD hv2
    obtain ⟨v, G1, fr, bk, r⟩ := rnetD a b hlen hg hc
    have hvw : w = v := (h.isMin a d).eq r.isMin
    have hflow := h.flow
    rw [List.length_map, flowL_eq l l1 h.lok] at hflow
    have e2 : cantingref07_Value.f N l = some (v, 0) := by
      unfold cantingref07_Value.f
      rw [hv, if_pos rfl, Int.toNat_natCast, r.grt]
      rfl
    obtain ⟨o', ho, hi, hw⟩ := h.flow_ov a b hlen hg hc d
    have hfl := flL_len l l1 h.lok
    rw [h.value, hflow, e2, awake_f, hvw]
    simp only [Option.bind_some, if_true, Bool.not_true, cantinglaw07_WaxFlows.j0, Bool.false_eq_true, if_false]
    rw [if_pos (by omega)]
    have hR := rflow_l0 N a b l hlen hg (flL l1) hfl l.length 0 1000 (List.replicate N 0) (by omega) (by omega) (by simp)
    simp only [List.drop_zero] at hR
    have hR' : cantingref07_Flow.f 1000 N l (flL l1) = match ovF l (flL l1) (List.replicate N 0) with | none => some (0, false) | some o' => cond (innB o' (N - 2) 1) (some (wrap64 (-(rd o' 0)), true)) (some (0, false)) := by
      unfold cantingref07_Flow.f
      rw [if_pos (by omega), if_pos (by omega), Int.toNat_natCast]
      exact hR
    rw [hR', ho]
    dsimp only
    rw [hi, hw, hvw]
    simp
end Go.Proofs.Ytbamanjedfccpaa.HTab
end

section
set_option linter.unusedVariables false
set_option linter.unusedSimpArgs false
namespace Go.Proofs.Ytbamanjedfccpaa.waxFlows
open Go.ChangeShapes Go.WideShapes Go.ChangeAt Go.RowKit Go.Proofs.YtbamanjedfccpaaW.PrintWords Go.Proofs.Ytbamanjedfccpaa.HTab Go.Proofs.Ytbamanjedfccpaa.X
open Go.ChangeMaps (open_string shut_string)
set_option linter.unusedVariables false
theorem own : ownKnob Try.prog.godebug = none := by kernel_rfl
theorem laidOut : laidOutB Try.prog = true := by kernel_rfl
set_option maxRecDepth 100000 in
theorem lifted (os : Os) (started : os.Started) (H : Type) (enc : TypeId × Value → H) :
    ReturnsInHanded {} Try.checked os 5 .any (Rows.waxFlowsSpec.pre6 enc Try.prog Try.f5 Rows.waxFlowsRow.domain false) (Rows.waxFlowsSpec.post enc Try.prog Try.f5 false true false false) := by
  refine returnsInHanded_of_change_sized (C := Try.checked) own started (by kernel_rfl) Try.func5
    (ChangeSpec.witness6 (enc := enc) (C := Try.checked) false ⟨#[], #[.agg #[.int .i64 0, .slice none 0 0]], []⟩ 8 (by kernel_rfl) (by kernel_rfl) (by kernel_rfl) (by kernel_rfl)) ?_
  intro W base args ds gs before hval0 hW hcnd hsz0 _
  have hsz : (DataW.weightsEach Try.prog (Try.f5.params.toList ++ Rows.waxFlowsSpec.plain.varTypes Try.prog) (ds ++ gs)).all (· ≤ reachBytes) = true := hsz0
  have hval : ∀ (j : Nat) t v, Try.f5.params[j]? = some t → args[j]? = some v → Value.okWide Try.prog W .any base t v := hval0
  have hW' := hW
  obtain ⟨p, q, hA0, hV, rfl, hfz, hnd⟩ := hW
  have hA : DataW.TrodAll enc Try.prog W 0 (fun _ => true) true Try.f5.params.toList args.toList ds p := hA0
  rw [Try.params5] at hA hval hsz
  obtain ⟨v0, vs0, d0, ds0, p0, q0, hargs, rfl, rfl, h0, r0⟩ := trodAll_cons hA
  obtain ⟨rfl, rfl, rfl⟩ := trodAll_nil r0
  obtain rfl : args = #[v0] := by cases args; simp_all
  obtain ⟨rfl, rfl⟩ := trodVars_none hV
  have k0 := h0
  have lt0 : ∀ x ∈ p0, x.block < W.heap.size := by obtain ⟨m, hm⟩ := k0; exact DataW.trod_lt m _ _ _ hm
  obtain ⟨n0, A0, c0, l0, rfl, C0, L0, B0, wn0⟩ := open_net (hval 0 24 v0 rfl rfl) h0 hsz (j := 0) rfl rfl
  clear hA0 hval0 hsz0 hsz
  refine ((cantinglaw07_WaxFlows.calls 1001 n0 A0 c0 l0 true W C0 L0 (flows_f n0 l0 B0))).mono fun e W' ⟨he, bel⟩ => ?_
  subst he
  exact ⟨_, rfl, _, _, _, [], _, [], hW', trodAll_mk1 (shut_bool Try.underlying4 _), (trodAll_cons_mk (Below.trod laidOut (by kernel_rfl) (of_decide_eq_true (by kernel_rfl)) k0 bel lt0) trodAll_mk0), rfl, bel.frame _, fun h => by cases h⟩
theorem over : Rows.waxFlowsRow.holds Try.pinned (OpenSpec.ofChange Rows.waxFlowsSpec) :=
  OpenClaim.holds_of_wide 5 Try.f5 rfl rfl rfl rfl rfl rfl rfl ⟨rfl, rfl, rfl, rfl, rfl⟩ rfl rfl rfl rfl rfl (by kernel_rfl) Try.func5 (by kernel_rfl)
    (of_decide_eq_true (by kernel_rfl)) (by unfold Func.isWrapper; first | (rw [if_pos (by decide +kernel)]; kernel_rfl) | (rw [if_neg (by decide +kernel)]; exact ⟨rfl, rfl⟩))
    (fun os started H enc _ => lifted os started H enc)
theorem proved : Rows.WaxFlowsSaid := over
end Go.Proofs.Ytbamanjedfccpaa.waxFlows
namespace Go.Proofs.Ytbamanjedfccpaa
theorem waxFlows_holds : Rows.WaxFlowsSaid := waxFlows.proved
end Go.Proofs.Ytbamanjedfccpaa
#print axioms Go.Proofs.Ytbamanjedfccpaa.waxFlows_holds
end
