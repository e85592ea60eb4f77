/- Lemmas of the proof: part Bu. -/
import Derived.Test.YtbamanjedfccpaaBn
import Derived.Test.YtbamanjedfccpaaBc
import Derived.Test.YtbamanjedfccpaaBt
section
set_option linter.unusedVariables false
set_option linter.unusedSimpArgs false
namespace Go.Proofs.Ytbamanjedfccpaa.HTab
open Go.RowKit Go.Proofs.YtbamanjedfccpaaW.PrintWords Go.Proofs.YtbamanjedfccpaaW.PrintLast Go.Proofs.YtbamanjedfccpaaW.PrintMore Go.Proofs.Ytbamanjedfccpaa.X
set_option linter.unusedVariables false
set_option linter.unusedSimpArgs false
def KV (w : World) (base : Nat) (v : Value) (xs : List Bool) : Prop := (∀ k, v.ownBlock = some k → base ≤ k ∧ k < w.heap.size ∧ ∃ cells, w.heap[k]? = some (.cells cells 4 (0, 0))) ∧ ∃ A c, v = .slice A xs.length c ∧ xs.length ≤ c ∧ Kd.C Kd.bool w A xs.length xs
def midL (S : List Bool) (N : Nat) : List Bool := (S.drop 1).take (N - 2)
theorem midL_len (S : List Bool) (N : Nat) (h : S.length = N) (h2 : 2 ≤ N) : (midL S N).length = N - 2 := by unfold midL; rw [List.length_take, List.length_drop]; omega
theorem KV.below {w w1 : World} {base : Nat} {v : Value} {xs : List Bool} (h : KV w base v xs) (hb : Below w.heap.size w w1) : KV w1 base v xs := by
  obtain ⟨ho, A, c, e, l, hC⟩ := h
  refine ⟨fun k hk => ?_, A, c, e, l, Kd.C_below hC hb⟩
  obtain ⟨h1, h2, cells, h3⟩ := ho k hk
  exact ⟨h1, Nat.lt_of_lt_of_le h2 hb.size, cells, (hb.block k h2).trans h3⟩
theorem KV.lower {w : World} {base base' : Nat} {v : Value} {xs : List Bool} (h : KV w base v xs) (hb : base' ≤ base) : KV w base' v xs :=
  ⟨fun k hk => ⟨Nat.le_trans hb (h.1 k hk).1, (h.1 k hk).2⟩, h.2⟩
theorem KV.mid {w : World} {base g N c : Nat} {ok : Nat → Prop} {S : List Bool} (h : KB.R 4 w base ok (.slice (some ⟨g, 0, none⟩) N c) S) (h2 : 2 ≤ N) : KV w base (.slice (some ⟨g, 1, none⟩) (N - 2) (c - 1)) (midL S N) := by
  obtain ⟨e1, e2, hC⟩ := Kd.R_reads' h
  have hl := midL_len S N e1.symm h2
  refine ⟨fun k hk => ?_, some ⟨g, 1, none⟩, c - 1, by rw [hl], by rw [hl]; omega, rfl, by rw [hl]; have := Kd.C_max hC; omega, fun hp => ⟨_, rfl, fun j p hj => ?_⟩⟩
  · exact ⟨Kd.R_base h k hk, Kd.R_lt h k hk, Kd.R_typed h k hk⟩
  have hjl : j < N - 2 := by rw [← hl]; exact (List.getElem?_eq_some_iff.1 hj).1
  obtain ⟨ad, had, hrow⟩ := hC.2.2 (by omega)
  injection had with had
  have hp2 : S[j + 1]? = some p := by
    have : (midL S N)[j]? = S[j + 1]? := by
      unfold midL
      rw [List.getElem?_take, if_pos hjl, List.getElem?_drop, Nat.add_comm]
    rw [← this]
    exact hj
  obtain ⟨cs, q1, q2, q3⟩ := hrow (j + 1) p hp2
  refine ⟨cs, q1, q2, fun i u hu => ?_⟩
  have h0 := q3 i u hu
  have hz : KB.sz = 1 := rfl
  rw [← had] at h0
  rw [hz] at h0 ⊢
  have ea : (⟨g, 1, none⟩ : Addr).add (j * 1 + i) = (⟨g, 0, none⟩ : Addr).add ((j + 1) * 1 + i) := by
    rw [add_at, add_at]
    congr 1
    omega
  rw [ea]
  exact h0
end Go.Proofs.Ytbamanjedfccpaa.HTab
namespace Go.Proofs.Ytbamanjedfccpaa.X.Kv
open Go.RowKit Go.Proofs.YtbamanjedfccpaaW.PrintWords Go.Proofs.YtbamanjedfccpaaW.PrintLast Go.Proofs.YtbamanjedfccpaaW.PrintMore Go.Proofs.Ytbamanjedfccpaa.HTab
set_option linter.unusedVariables false
def R (w : World) (base : Nat) (ok : Nat → Prop) (v : Value) (xs : List Bool) : Prop := KV w base v xs
section
variable {w w1 : World} {base base' : Nat} {ok ok' : Nat → Prop} {v u : Value} {xs : List Bool}
theorem R_nil (w : World) (base : Nat) (ok : Nat → Prop) : R w base ok (.slice none 0 0) [] := ⟨fun k hk => by simp [Value.ownBlock] at hk, none, 0, rfl, Nat.le_refl _, (Kd.R_reads' (Kd.R_nil Kd.bool 4 w base (fun _ => True))).2.2⟩
theorem R_below (h : R w base ok v xs) (hb : Below w.heap.size w w1) : R w1 base ok v xs := KV.below h hb
theorem R_alloc (h : R w base ok v xs) (o : Obj) : R (w.alloc o) base ok v xs := R_below h (below_alloc (Below.refl _ _) o)
theorem R_drew (h : R w base ok v xs) : R w.drew base ok v xs := R_below h (below_drew (Below.refl _ _))
theorem R_drewN (h : R w base ok v xs) (m : Nat) : R (w.drewN m) base ok v xs := R_below h (pw_below_drewN (Below.refl _ _) m)
theorem R_lower (h : R w base ok v xs) (hb : base' ≤ base) : R w base' ok v xs := KV.lower h hb
theorem R_mono (h : R w base ok v xs) (hok : ∀ k, ok k → ok' k) : R w base ok' v xs := h
theorem R_new' {W : World} (h : R w W.heap.size ok v xs) (hlt : ∀ k, u.ownBlock = some k → k < W.heap.size) : R w W.heap.size (fun k => ok k ∧ some k ≠ u.ownBlock) v xs := h
theorem R_base (h : R w base ok v xs) : ∀ k, v.ownBlock = some k → base ≤ k := fun k hk => (h.1 k hk).1
theorem R_lt (h : R w base ok v xs) : ∀ k, v.ownBlock = some k → k < w.heap.size := fun k hk => (h.1 k hk).2.1
theorem R_slice (h : R w base ok v xs) : ∃ A c, v = .slice A xs.length c := by
  obtain ⟨_, A, c, he, _⟩ := h
  exact ⟨A, c, he⟩
theorem R_reads' {A : Option Addr} {n c : Nat} (h : R w base ok (.slice A n c) xs) : n = xs.length ∧ n ≤ c ∧ Kd.C Kd.bool w A xs.length xs := by
  obtain ⟨_, A', c', he, hl, hr⟩ := h
  injection he with h1 h2 h3
  subst h1
  exact ⟨h2, by omega, hr⟩
end
end Go.Proofs.Ytbamanjedfccpaa.X.Kv
end

section
set_option linter.unusedVariables false
set_option linter.unusedSimpArgs false
namespace Go.Proofs.Ytbamanjedfccpaa.X
open Go.Proofs.Ytbamanjedfccpaa.HTab
open Go.RowKit Go.Proofs.YtbamanjedfccpaaW.PrintWords Go.Proofs.YtbamanjedfccpaaW.PrintLast Go.Proofs.YtbamanjedfccpaaW.PrintMore
attribute [local go_sem] max2_int min2_int max_two min_two max_three min_three max_four min_four   -- for this text's walks alone
set_option linter.unusedVariables false
set_option linter.unusedSimpArgs false
mutual
def wax_Cloth_arcs.l0 : Nat → Int → Int → Int → Int → Int → List Int → List Int → List Int → List Int → Int → List (S35) → Option ((List (S35)))
  | 0, _, _, _, _, _, _, _, _, _, _, _ => none
  | k + 1, x1, x25, x26, x675000, x675001, x675002, x675003, x675004, x675005, x676000, x676001 => if x26 < x25 then (if 0 ≤ x26 then (if x26 < (x675003.length : Int) then (if x26 < (x675002.length : Int) then ((some (([(⟨0, wrap64 (x26 + 1), wrap64 ((rd x675002 x26) - (mn (wrap64 ((rd x675003 x26) + x1)) 0))⟩ : S35), (⟨wrap64 (x26 + 1), wrap64 (x676000 - 1), wrap64 ((wrap64 ((rd x675003 x26) + x1)) - (mn (wrap64 ((rd x675003 x26) + x1)) 0))⟩ : S35)] : List (S35)) : List (S35))).bind fun y678 => (if x676001.length + y678.length < 5864062014805 then (wax_Cloth_arcs.l0 k x1 x25 (wrap64 (x26 + 1)) x675000 x675001 x675002 x675003 x675004 x675005 x676000 (x676001 ++ y678)) else (none))) else (none)) else (none)) else (none)) else ((wax_Cloth_pairs.f k x675000 x675001 x675002 x675003 x675004 x675005).bind fun t684 => (wax_Cloth_arcs.l1 k t684 (t684.length : Int) 0 x676000 x676001))
def wax_Cloth_arcs.l1 : Nat → List (S100) → Int → Int → Int → List (S35) → Option ((List (S35)))
  | 0, _, _, _, _, _ => none
  | k + 1, x64, x65, x66, x676000, x676001 => if x66 < x65 then (if 0 ≤ x66 then (if x66 < (x64.length : Int) then ((some (([(⟨wrap64 (((rd_T100 x64 x66).f0) + 1), wrap64 (((rd_T100 x64 x66).f1) + 1), (rd_T100 x64 x66).f2⟩ : S35), (⟨wrap64 (((rd_T100 x64 x66).f1) + 1), wrap64 (((rd_T100 x64 x66).f0) + 1), (rd_T100 x64 x66).f2⟩ : S35)] : List (S35)) : List (S35))).bind fun y689 => (if x676001.length + y689.length < 5864062014805 then (wax_Cloth_arcs.l1 k x64 x65 (wrap64 (x66 + 1)) x676000 (x676001 ++ y689)) else (none))) else (none)) else (none)) else (some x676001)
end
def wax_Cloth_arcs.f (k : Nat) (a0_0 : Int) (a0_1 : Int) (l0_2 : List Int) (l0_3 : List Int) (l0_4 : List Int) (l0_5 : List Int) (a1 : Int) : Option ((List (S35))) := wax_Cloth_arcs.l0 k a1 (wrap64 (a0_0 * a0_1)) 0 a0_0 a0_1 l0_2 l0_3 l0_4 l0_5 (wrap64 ((wrap64 (a0_0 * a0_1)) + 2)) ([] : List (S35))
def wax_Cloth_arcs.T7 : Bool × List (List Nat × List Nat) := (true, [([], []), ([0], [0]), ([], []), ([2], [2]), ([], []), ([4], [4]), ([], []), ([5, 6], [5, 6]), ([7], [7]), ([], []), ([8, 9], [8, 9]), ([3, 10], [3, 10]), ([], []), ([12], [12]), ([], []), ([14], [14]), ([15], [15]), ([], []), ([], []), ([17, 18], [17, 18]), ([13, 16, 19], [13, 16, 19]), ([11, 20], [11, 20]), ([1, 21], [1, 21]), ([0, 1, 2, 3, 4, 5, 6, 7, 8, 9, 10, 11, 12, 13, 14, 15, 16, 17, 18, 19, 20, 21, 22], []), ([23, 22, 22, 0, 1, 2, 3, 4, 5, 6, 7, 8, 9, 10, 11, 12, 13, 14, 15, 16, 17, 18, 19, 20, 21, 22], [22, 23])])
def wax_Cloth_arcs.B7 : List Nat := [0, 1, 0, 4, 0, 16, 0, 112, 240, 0, 1008, 2044, 0, 4096, 0, 16384, 49152, 0, 0, 393216, 1044480, 2097148, 4194303, 8388607, 16777215]
theorem wax_Cloth_arcs.tab7 : rtab .any (opsOf Try.f64 7) = wax_Cloth_arcs.T7 := by kernel_rfl
theorem wax_Cloth_arcs.bits7 : waitsOk wax_Cloth_arcs.T7.2 wax_Cloth_arcs.B7 = true := by kernel_rfl
def tb_labels_15.T : Bool × List (List Nat × List Nat) := (true, [([], []), ([0], [0]), ([], []), ([2], [2]), ([3], [3]), ([1, 4], [1, 4]), ([], []), ([6, 1], [6]), ([], []), ([8], [8]), ([9], [9]), ([7, 10], [7, 10]), ([5, 7, 0, 1, 2, 3, 4, 5], [5]), ([11, 12, 0, 1, 2, 3, 4, 5, 6, 7, 8, 9, 10, 11, 12], [11])])
def tb_labels_15.B : List Nat := [0, 1, 0, 4, 12, 31, 0, 67, 0, 256, 768, 1987, 255, 8191]
theorem tb_labels_15.tab : rtab .any (opsOf Try.f64 15) = tb_labels_15.T := by kernel_rfl
theorem tb_labels_15.bits : waitsOk tb_labels_15.T.2 tb_labels_15.B = true := by kernel_rfl
set_option maxHeartbeats 8000000 in
set_option maxRecDepth 100000 in
theorem wax_Cloth_arcs.calls (k : Nat) (a0_0 : Int) (a0_1 : Int) (A0_2 : Option Addr) (c0_2 : Nat) (l0_2 : List Int) (A0_3 : Option Addr) (c0_3 : Nat) (l0_3 : List Int) (A0_4 : Option Addr) (c0_4 : Nat) (l0_4 : List Int) (A0_5 : Option Addr) (c0_5 : Nat) (l0_5 : List Int) (a1 : Int) (r : List (S35)) (w : World) (hr0_2 : Kd.C (Kd.int .i64) w A0_2 l0_2.length l0_2) (hc0_2 : l0_2.length ≤ c0_2) (hr0_3 : Kd.C (Kd.int .i64) w A0_3 l0_3.length l0_3) (hc0_3 : l0_3.length ≤ c0_3) (hr0_4 : Kd.C (Kd.int .i64) w A0_4 l0_4.length l0_4) (hc0_4 : l0_4.length ≤ c0_4) (hr0_5 : Kd.C (Kd.int .i64) w A0_5 l0_5.length l0_5) (hc0_5 : l0_5.length ≤ c0_5) (h : wax_Cloth_arcs.f k a0_0 a0_1 l0_2 l0_3 l0_4 l0_5 a1 = some r) (N : Nat) (hN : wrap64 (wrap64 (a0_0 * a0_1) + 2) = (N : Int)) (h3 : 3 ≤ N) (hN2 : N ≤ 1000) (hl : r.length ≤ 1000) (hg : Go.Proofs.Ytbamanjedfccpaa.HTab.Good N r) (sm : Int) (l1 d1 n1 D : List Int) (G : List Bool) (hF : fillZ fuelW (restP false N r 0 ((N : Int) - 1)) = some (sm, l1, d1, n1)) (hl1 : l1.length = 2 * r.length) (hDl : D.length = N) (hGl : G.length = N) (hD : levelP fuelW ((restP false N r 0 ((N : Int) - 1)).dat_ l1 d1 n1) = some D) (hG : greatP fuelW ((restP false N r 0 ((N : Int) - 1)).dat_ l1 D n1) = some G) :
    Calls Try.prog 64 #[.agg #[.int .i64 a0_0, .int .i64 a0_1, .slice A0_2 l0_2.length c0_2, .slice A0_3 l0_3.length c0_3, .slice A0_4 l0_4.length c0_4, .slice A0_5 l0_5.length c0_5], .int .i64 a1] w fun e w' => ∃ v0_ v1_ : Value, e = .returned (.tuple #[v0_, v1_]) ∧ KV w' w.heap.size v0_ (midL (leastL D) N) ∧ KV w' w.heap.size v1_ (midL G N) ∧ Below w.heap.size w w' := by
  have ZN := Aside0.mk hN
  have ZL := Aside0.mk (And.intro hl hg)
  have ZF := Aside0.mk (And.intro hF hl1)
  have ZD := Aside0.mk (And.intro hD hDl)
  have ZG := Aside0.mk (And.intro hG hGl)
  have Z3 := Aside0.mk h3
  have Z2 : Aside0 (2 ≤ N ∧ N ≤ 1000) := ⟨by omega⟩
  clear hN hl hg hF hl1 hD hDl hG hGl h3 hN2
  have hu63 := Try.underlying63
  have hu30 := Try.underlying30
  have hu35 := Try.underlying35
  have hu100 := Try.underlying100
  have HR0_2 := Aside0.mk hr0_2
  have HC0_2 := Aside0.mk hc0_2
  clear hr0_2 hc0_2
  have HR0_3 := Aside0.mk hr0_3
  have HC0_3 := Aside0.mk hc0_3
  clear hr0_3 hc0_3
  have HR0_4 := Aside0.mk hr0_4
  have HC0_4 := Aside0.mk hc0_4
  clear hr0_4 hc0_4
  have HR0_5 := Aside0.mk hr0_5
  have HC0_5 := Aside0.mk hc0_5
  clear hr0_5 hc0_5
  have HB := Aside0.mk (Below.refl w.heap.size w)
  have H : (wax_Cloth_arcs.l0 k a1 (wrap64 (a0_0 * a0_1)) 0 a0_0 a0_1 l0_2 l0_3 l0_4 l0_5 (wrap64 ((wrap64 (a0_0 * a0_1)) + 2)) ([] : List (S35))) = some r := h
  clear h
  have H' := Aside0.mk H
  clear H
  go_enter Try.func64, Try.ntmps64
  go_wp2_with (first | ((with_reducible refine gate_dst (N := 2) rfl ?_); refine box_event ?hg (N := 2) ?hd (cs := #[.int .i64 a0_0, .int .i64 a0_1, .slice A0_2 l0_2.length c0_2, .slice A0_3 l0_3.length c0_3, .slice A0_4 l0_4.length c0_4, .slice A0_5 l0_5.length c0_5]) (t := 63) ?hr ?_; (case hd => rfl); (case hg => rfl); (case hr => first | (go_simp; done) | (go_simp; rfl)); intro gb674 hg w3 hbox hb; have n0_ := Aside0.mk (below_step (by repeat (first | (with_reducible first | exact HB.out | apply below_alloc | apply pw_below_drewN | apply below_drew1) | exact HB.out)) hb); have n1_ := Aside0.mk (hbox); have n2_ := Aside0.mk ((by rw [hg]; exact (below_size (by repeat (first | (with_reducible first | exact HB.out | apply below_alloc | apply pw_below_drewN | apply below_drew1) | exact HB.out))) : w.heap.size ≤ gb674)); have n3_ := Aside0.mk ((by rw [hg]; exact (below_size (by repeat (first | (with_reducible first | exact HB.out | apply below_alloc | apply pw_below_drewN | apply below_drew1) | exact HB.out))) : w.heap.size ≤ gb674)); clear HB; have HB := n0_; have BK674 := n1_; have GW674 := n2_; have GE674 := n3_; clear n0_ n1_ n2_ n3_; clear hb hbox hg; have hcz4_0 : w3.cell? ⟨gb674, 0, none⟩ = some (.int .i64 a0_0) := (blk_cell BK674.out 0).trans rfl; have hcz4_1 : w3.cell? ⟨gb674, 1, none⟩ = some (.int .i64 a0_1) := (blk_cell BK674.out 1).trans rfl; have hcz4_2 : w3.cell? ⟨gb674, 2, none⟩ = some (.slice A0_2 l0_2.length c0_2) := (blk_cell BK674.out 2).trans rfl; have hcz4_3 : w3.cell? ⟨gb674, 3, none⟩ = some (.slice A0_3 l0_3.length c0_3) := (blk_cell BK674.out 3).trans rfl; have hcz4_4 : w3.cell? ⟨gb674, 4, none⟩ = some (.slice A0_4 l0_4.length c0_4) := (blk_cell BK674.out 4).trans rfl; have hcz4_5 : w3.cell? ⟨gb674, 5, none⟩ = some (.slice A0_5 l0_5.length c0_5) := (blk_cell BK674.out 5).trans rfl; have hfz4_0 := blk_frozen BK674.out 0; have hfz4_1 := blk_frozen BK674.out 1; have hfz4_2 := blk_frozen BK674.out 2; have hfz4_3 := blk_frozen BK674.out 3; have hfz4_4 := blk_frozen BK674.out 4; have hfz4_5 := blk_frozen BK674.out 5) | ((with_reducible refine gate_dst (N := 6) rfl ?_); refine box_event ?hg (N := 6) ?hd (cs := #[.int .i64 0, .slice none 0 0]) (t := 30) ?hr ?_; (case hd => rfl); (case hg => rfl); (case hr => first | (go_simp; done) | (go_simp; rfl)); intro gb675 hg w5 hbox hb; have n0_ := Aside0.mk (blk_below (g := gb674) (o := .cells #[.int .i64 a0_0, .int .i64 a0_1, .slice A0_2 l0_2.length c0_2, .slice A0_3 l0_3.length c0_3, .slice A0_4 l0_4.length c0_4, .slice A0_5 l0_5.length c0_5] 63 (0, 0)) (by (with_reducible repeat (first | refine blk_drewN ?_ _ | refine blk_drew ?_ | refine blk_alloc ?_ _)); exact BK674.out) hb); have n1_ := Aside0.mk (below_step (by repeat (first | (with_reducible first | exact HB.out | apply below_alloc | apply pw_below_drewN | apply below_drew1 | refine below_set ?_ GE674.out) | exact HB.out)) hb); have n2_ := Aside0.mk (hbox); have n3_ := Aside0.mk ((by rw [hg]; exact (below_size (by repeat (first | (with_reducible first | exact HB.out | apply below_alloc | apply pw_below_drewN | apply below_drew1 | refine below_set ?_ GE674.out) | exact HB.out))) : w.heap.size ≤ gb675)); have n4_ := Aside0.mk ((by rw [hg]; exact (below_size (by repeat (first | (with_reducible first | exact HB.out | apply below_alloc | apply pw_below_drewN | apply below_drew1 | refine below_set ?_ GE674.out) | exact HB.out))) : w.heap.size ≤ gb675)); have n5_ := Aside0.mk ((by rw [hg]; exact Nat.ne_of_lt (blk_lt (g := gb674) (o := .cells #[.int .i64 a0_0, .int .i64 a0_1, .slice A0_2 l0_2.length c0_2, .slice A0_3 l0_3.length c0_3, .slice A0_4 l0_4.length c0_4, .slice A0_5 l0_5.length c0_5] 63 (0, 0)) (by (with_reducible repeat (first | refine blk_drewN ?_ _ | refine blk_drew ?_ | refine blk_alloc ?_ _)); exact BK674.out)) : gb674 ≠ gb675)); have n6_ := Aside0.mk ((by rw [hg]; exact Nat.ne_of_gt (blk_lt (g := gb674) (o := .cells #[.int .i64 a0_0, .int .i64 a0_1, .slice A0_2 l0_2.length c0_2, .slice A0_3 l0_3.length c0_3, .slice A0_4 l0_4.length c0_4, .slice A0_5 l0_5.length c0_5] 63 (0, 0)) (by (with_reducible repeat (first | refine blk_drewN ?_ _ | refine blk_drew ?_ | refine blk_alloc ?_ _)); exact BK674.out)) : gb675 ≠ gb674)); clear BK674; clear HB; have BK674 := n0_; have HB := n1_; have BK675 := n2_; have GW675 := n3_; have GE675 := n4_; have NB674_675 := n5_; have NB675_674 := n6_; clear n0_ n1_ n2_ n3_ n4_ n5_ n6_; clear hb hbox hg; have hnb6 := NB675_674.out; have hnc6 := NB674_675.out; have hcz7_0 : w5.cell? ⟨gb675, 0, none⟩ = some (.int .i64 0) := (blk_cell BK675.out 0).trans rfl; have hcz7_1 : w5.cell? ⟨gb675, 1, none⟩ = some (.slice none 0 0) := (blk_cell BK675.out 1).trans rfl; have hfz7_0 := blk_frozen BK675.out 0; have hfz7_1 := blk_frozen BK675.out 1; have hcz8_0 : w5.cell? ⟨gb674, 0, none⟩ = some (.int .i64 a0_0) := (blk_cell BK674.out 0).trans rfl; have hcz8_1 : w5.cell? ⟨gb674, 1, none⟩ = some (.int .i64 a0_1) := (blk_cell BK674.out 1).trans rfl; have hcz8_2 : w5.cell? ⟨gb674, 2, none⟩ = some (.slice A0_2 l0_2.length c0_2) := (blk_cell BK674.out 2).trans rfl; have hcz8_3 : w5.cell? ⟨gb674, 3, none⟩ = some (.slice A0_3 l0_3.length c0_3) := (blk_cell BK674.out 3).trans rfl; have hcz8_4 : w5.cell? ⟨gb674, 4, none⟩ = some (.slice A0_4 l0_4.length c0_4) := (blk_cell BK674.out 4).trans rfl; have hcz8_5 : w5.cell? ⟨gb674, 5, none⟩ = some (.slice A0_5 l0_5.length c0_5) := (blk_cell BK674.out 5).trans rfl; have hfz8_0 := blk_frozen BK674.out 0; have hfz8_1 := blk_frozen BK674.out 1; have hfz8_2 := blk_frozen BK674.out 2; have hfz8_3 := blk_frozen BK674.out 3; have hfz8_4 := blk_frozen BK674.out 4; have hfz8_5 := blk_frozen BK674.out 5))
  go_loopg [26] k (fun kq v26 w' => ∃ (x26_1 : Int) (x676001_1 : List (S35)) (u676001 : Value), v26 = .int .i64 x26_1 ∧ Aside0 (wax_Cloth_arcs.l0 kq a1 (wrap64 (a0_0 * a0_1)) x26_1 a0_0 a0_1 l0_2 l0_3 l0_4 l0_5 (wrap64 ((wrap64 (a0_0 * a0_1)) + 2)) x676001_1 = some r) ∧ Aside0 (kq ≤ k) ∧ Aside0 (Kd.R k35 35 w' w.heap.size (fun _ => True) u676001 x676001_1) ∧ Aside0 (w'.heap[gb674]? = some (.cells #[.int .i64 a0_0, .int .i64 a0_1, (.slice A0_2 l0_2.length c0_2), (.slice A0_3 l0_3.length c0_3), (.slice A0_4 l0_4.length c0_4), (.slice A0_5 l0_5.length c0_5)] 63 (0, 0))) ∧ Aside0 (w'.heap[gb675]? = some (.cells #[.int .i64 (wrap64 ((wrap64 (a0_0 * a0_1)) + 2)), u676001] 30 (0, 0))) ∧ Aside0 (Below w.heap.size w w'))
  case atStart => exact ⟨(0), (([] : List (S35))), (.slice none 0 0), (by first | rfl | (simp; done) | (simp [*]; done)), H', ⟨Nat.le_refl _⟩, ⟨by first | exact Kd.R_nil _ _ _ _ _ | exact Kd.N_nil _ _ _ _ _ | exact Kd.V_nil _ _ _ _ _ | exact Kd.Q_nil _ _ _ _ _ | exact Kd.S_nil _ _ _ _ _⟩, ⟨by (with_reducible repeat (first | refine blk_drewN ?_ _ | refine blk_drew ?_ | refine blk_alloc ?_ _)); refine blk_far ?_ NB674_675.out _; (with_reducible repeat (first | refine blk_drewN ?_ _ | refine blk_drew ?_ | refine blk_alloc ?_ _)); refine blk_far ?_ NB674_675.out _; (with_reducible repeat (first | refine blk_drewN ?_ _ | refine blk_drew ?_ | refine blk_alloc ?_ _)); exact BK674.out⟩, ⟨by (with_reducible repeat (first | refine blk_drewN ?_ _ | refine blk_drew ?_ | refine blk_alloc ?_ _)); refine blk_put (cs := #[.int .i64 (wrap64 ((wrap64 (a0_0 * a0_1)) + 2)), .slice none 0 0]) ?_ 1 _ rfl; (with_reducible repeat (first | refine blk_drewN ?_ _ | refine blk_drew ?_ | refine blk_alloc ?_ _)); refine blk_put (cs := #[.int .i64 0, .slice none 0 0]) ?_ 0 _ rfl; (with_reducible repeat (first | refine blk_drewN ?_ _ | refine blk_drew ?_ | refine blk_alloc ?_ _)); exact BK675.out⟩, ⟨by repeat (first | (with_reducible first | exact HB.out | apply below_alloc | apply pw_below_drewN | apply below_drew1 | refine below_set ?_ GE674.out | refine below_set ?_ GE675.out) | exact HB.out)⟩⟩
  case round =>
    clear H'
    try clear p2
    try clear c6
    try clear p6
    try clear hcz4_0
    try clear hcz4_1
    try clear hcz4_2
    try clear hcz4_3
    try clear hcz4_4
    try clear hcz4_5
    try clear hcz7_0
    try clear hcz7_1
    try clear hcz8_0
    try clear hcz8_1
    try clear hcz8_2
    try clear hcz8_3
    try clear hcz8_4
    try clear hcz8_5
    try clear hfz4_0
    try clear hfz4_1
    try clear hfz4_2
    try clear hfz4_3
    try clear hfz4_4
    try clear hfz4_5
    try clear hfz7_0
    try clear hfz7_1
    try clear hfz8_0
    try clear hfz8_1
    try clear hfz8_2
    try clear hfz8_3
    try clear hfz8_4
    try clear hfz8_5
    obtain ⟨x26_1, x676001_1, u676001, rfl, HA, HK1, HO_676001, BK674, BK675, HB⟩ := hrel
    cases gk with
    | zero => exact absurd HA.out (by simp [wax_Cloth_arcs.l0])
    | succ k1 =>
      have H := HA.out
      clear HA
      simp only [wax_Cloth_arcs.l0] at H
      by_cases c9 : x26_1 < (wrap64 (a0_0 * a0_1))
      · rw [if_pos c9] at H
        have c9b0 : decide (x26_1 < (wrap64 (a0_0 * a0_1))) = true := decide_eq_true c9
        clear c9
        by_cases c10 : 0 ≤ x26_1
        · rw [if_pos c10] at H
          have c10b0 : decide (0 ≤ x26_1) = true := decide_eq_true c10
          clear c10
          by_cases c11 : x26_1 < (l0_3.length : Int)
          · rw [if_pos c11] at H
            have c11b0 : decide (x26_1 < (l0_3.length : Int)) = true := decide_eq_true c11
            clear c11
            obtain ⟨ji12, hji12⟩ : ∃ j_ : Int, (mn (wrap64 ((rd l0_3 x26_1) + a1)) 0) = j_ := ⟨_, rfl⟩
            replace H : (if x26_1 < (l0_2.length : Int) then ((some (([(⟨0, wrap64 (x26_1 + 1), wrap64 ((rd l0_2 x26_1) - (ji12))⟩ : S35), (⟨wrap64 (x26_1 + 1), wrap64 ((wrap64 ((wrap64 (a0_0 * a0_1)) + 2)) - 1), wrap64 ((wrap64 ((rd l0_3 x26_1) + a1)) - (ji12))⟩ : S35)] : List (S35)) : List (S35))).bind fun y678 => (if x676001_1.length + y678.length < 5864062014805 then (wax_Cloth_arcs.l0 k1 a1 (wrap64 (a0_0 * a0_1)) (wrap64 (x26_1 + 1)) a0_0 a0_1 l0_2 l0_3 l0_4 l0_5 (wrap64 ((wrap64 (a0_0 * a0_1)) + 2)) (x676001_1 ++ y678)) else (none))) else (none)) = some r := by first | (rw [hji12] at H; exact H) | (simp only [hji12] at H ⊢; exact H)
            have hji12_ : (if 0 < (wrap64 ((rd l0_3 x26_1) + a1)) then 0 else (wrap64 ((rd l0_3 x26_1) + a1))) = ji12 := hji12
            by_cases c13 : x26_1 < (l0_2.length : Int)
            · rw [if_pos c13] at H
              have c13b0 : decide (x26_1 < (l0_2.length : Int)) = true := decide_eq_true c13
              clear c13
              obtain ⟨y678, hy678⟩ : ∃ y_ : List (S35), y_ = (([(⟨0, wrap64 (x26_1 + 1), wrap64 ((rd l0_2 x26_1) - (ji12))⟩ : S35), (⟨wrap64 (x26_1 + 1), wrap64 ((wrap64 ((wrap64 (a0_0 * a0_1)) + 2)) - 1), wrap64 ((wrap64 ((rd l0_3 x26_1) + a1)) - (ji12))⟩ : S35)] : List (S35))) := ⟨_, rfl⟩
              replace H : (if x676001_1.length + y678.length < 5864062014805 then (wax_Cloth_arcs.l0 k1 a1 (wrap64 (a0_0 * a0_1)) (wrap64 (x26_1 + 1)) a0_0 a0_1 l0_2 l0_3 l0_4 l0_5 (wrap64 ((wrap64 (a0_0 * a0_1)) + 2)) (x676001_1 ++ y678)) else (none)) = some r := by first | (rw [hy678]; with_reducible exact H) | (have H2_ := (Option.bind_some _ _).symm.trans H; rw [hy678]; with_reducible exact H2_) | (have H2_ := (Option.bind_some _ _).symm.trans H; with_reducible exact H2_) | with_reducible exact H | (rw [hy678]; exact H) | exact H
              have Ny678 := Aside0.mk hy678
              clear hy678
              by_cases c14 : x676001_1.length + y678.length < 5864062014805
              · rw [if_pos c14] at H
                have LMc14 := Aside0.mk c14
                clear c14
                obtain ⟨y681, hy681⟩ : ∃ y_ : List (S35), y_ = (x676001_1 ++ y678) := ⟨_, rfl⟩
                replace H : (wax_Cloth_arcs.l0 k1 a1 (wrap64 (a0_0 * a0_1)) (wrap64 (x26_1 + 1)) a0_0 a0_1 l0_2 l0_3 l0_4 l0_5 (wrap64 ((wrap64 (a0_0 * a0_1)) + 2)) y681) = some r := by first | (rw [hy681]; with_reducible exact H) | (have H2_ := (Option.bind_some _ _).symm.trans H; rw [hy681]; with_reducible exact H2_) | (have H2_ := (Option.bind_some _ _).symm.trans H; with_reducible exact H2_) | with_reducible exact H | (rw [hy681]; exact H) | exact H
                have Ny681 := Aside0.mk hy681
                clear hy681
                have H' := Aside0.mk H
                clear H
                have hnb15 := NB674_675.out
                have hnc15 := NB675_674.out
                have hcz16_0 : wr.cell? ⟨gb674, 0, none⟩ = some (.int .i64 a0_0) := (blk_cell BK674.out 0).trans rfl
                have hcz16_1 : wr.cell? ⟨gb674, 1, none⟩ = some (.int .i64 a0_1) := (blk_cell BK674.out 1).trans rfl
                have hcz16_2 : wr.cell? ⟨gb674, 2, none⟩ = some (.slice A0_2 l0_2.length c0_2) := (blk_cell BK674.out 2).trans rfl
                have hcz16_3 : wr.cell? ⟨gb674, 3, none⟩ = some (.slice A0_3 l0_3.length c0_3) := (blk_cell BK674.out 3).trans rfl
                have hcz16_4 : wr.cell? ⟨gb674, 4, none⟩ = some (.slice A0_4 l0_4.length c0_4) := (blk_cell BK674.out 4).trans rfl
                have hcz16_5 : wr.cell? ⟨gb674, 5, none⟩ = some (.slice A0_5 l0_5.length c0_5) := (blk_cell BK674.out 5).trans rfl
                have hfz16_0 := blk_frozen BK674.out 0
                have hfz16_1 := blk_frozen BK674.out 1
                have hfz16_2 := blk_frozen BK674.out 2
                have hfz16_3 := blk_frozen BK674.out 3
                have hfz16_4 := blk_frozen BK674.out 4
                have hfz16_5 := blk_frozen BK674.out 5
                have p676 : 0 ≤ (x26_1 : Int) := of_decide_eq_true (by first | (with_reducible assumption) | assumption)
                have q676 : x26_1 < (l0_3.length : Int) := of_decide_eq_true (by first | (with_reducible assumption) | assumption)
                obtain ⟨ad676, e676, hx676_0⟩ := Kd.at_int HR0_3.out x26_1 p676 q676
                cases e676
                replace hx676_0 := (HB.out.cell (World.block_lt_of_cell? w _ hx676_0)).trans hx676_0
                replace p676 := eq_true p676
                replace q676 := eq_true q676
                try go_wp2
                have n0_ := Aside0.mk (Kd.R_drew HO_676001.out)
                have n1_ := Aside0.mk (blk_drew BK674.out)
                have n2_ := Aside0.mk (blk_drew BK675.out)
                have n3_ := Aside0.mk (below_drew1 HB.out)
                clear HO_676001
                clear BK674
                clear BK675
                clear HB
                have HO_676001 := n0_
                have BK674 := n1_
                have BK675 := n2_
                have HB := n3_
                clear n0_ n1_ n2_ n3_
                have p677 : 0 ≤ (x26_1 : Int) := of_decide_eq_true (by first | (with_reducible assumption) | assumption)
                have q677 : x26_1 < (l0_2.length : Int) := of_decide_eq_true (by first | (with_reducible assumption) | assumption)
                obtain ⟨ad677, e677, hx677_0⟩ := Kd.at_int HR0_2.out x26_1 p677 q677
                have hw677_0 := hx677_0
                cases e677
                replace hx677_0 := (HB.out.cell (World.block_lt_of_cell? w _ hx677_0)).trans hx677_0
                replace p677 := eq_true p677
                replace q677 := eq_true q677
                refine start_ (n := 25) (S := fun w' => w'.cell? ⟨gb675, 0, none⟩ = some (.int .i64 (wrap64 ((wrap64 (a0_0 * a0_1)) + 2))) ∧ w'.cell? ⟨gb675, 1, none⟩ = some (u676001) ∧ w'.cell? ⟨gb674, 0, none⟩ = some (.int .i64 a0_0) ∧ w'.cell? ⟨gb674, 1, none⟩ = some (.int .i64 a0_1) ∧ w'.cell? ⟨gb674, 2, none⟩ = some (.slice (some ad677) l0_2.length c0_2) ∧ w'.cell? ⟨gb674, 3, none⟩ = some (.slice (some ad676) l0_3.length c0_3) ∧ w'.cell? ⟨gb674, 4, none⟩ = some (.slice A0_4 l0_4.length c0_4) ∧ w'.cell? ⟨gb674, 5, none⟩ = some (.slice A0_5 l0_5.length c0_5) ∧ w'.cell? (ad677.add (x26_1).toNat) = some (.int .i64 (rd l0_2 x26_1))) (ds := [24]) #[false, false, false, false, false, false, false, false, false, false, false, false, false, false, false, false, false, false, false, false, false, false, false, false, false] (by kernel_rfl) rfl rfl ⟨(blk_cell BK675.out 0).trans rfl, (blk_cell BK675.out 1).trans rfl, (blk_cell BK674.out 0).trans rfl, (blk_cell BK674.out 1).trans rfl, (blk_cell BK674.out 2).trans rfl, (blk_cell BK674.out 3).trans rfl, (blk_cell BK674.out 4).trans rfl, (blk_cell BK674.out 5).trans rfl, (by first | exact (HB.out.cell (World.block_lt_of_cell? w _ hw677_0)).trans hw677_0 | exact hx677_0)⟩ (fun hHeld => ?_); refine with_tabW wax_Cloth_arcs.tab7 wax_Cloth_arcs.bits7 (fun HT_ HW_ => ?_)
                generalize wr.drew = w17 at HO_676001 BK674 BK675 HB hx677_0 hHeld ⊢
                refine pure_ (i := 0) (N := some 38) (v := ?_) (a' := ?_) #[true, false, false, false, false, false, false, false, false, false, false, false, false, false, false, false, false, false, false, false, false, false, false, false, false] rfl rfl (any_of HT_.out (by kernel_rfl)) (fun _ _ _ h => h) (Or.inl ⟨by rfl, ?_⟩) ?_ ?_
                rotate_left
                · intro w'
                  go_simp
                  with_reducible rfl
                rotate_left
                · simp only [Act.put, List.setIfInBounds_toArray, List.set_cons_zero, List.set_cons_succ, i64_w, i32_w]
                  rfl
                refine pure_ (i := 2) (N := some 40) (v := ?_) (a' := ?_) #[true, false, true, false, false, false, false, false, false, false, false, false, false, false, false, false, false, false, false, false, false, false, false, false, false] rfl rfl (any_of HT_.out (by kernel_rfl)) (fun _ _ _ h => h) (Or.inl ⟨by rfl, ?_⟩) ?_ ?_
                rotate_left
                · intro w'
                  go_simp
                  with_reducible rfl
                rotate_left
                · simp only [Act.put, List.setIfInBounds_toArray, List.set_cons_zero, List.set_cons_succ, i64_w, i32_w]
                  rfl
                refine pure_ (i := 3) (N := some 41) (v := ?_) (a' := ?_) #[true, false, true, true, false, false, false, false, false, false, false, false, false, false, false, false, false, false, false, false, false, false, false, false, false] rfl rfl (any_of HT_.out (by kernel_rfl)) (fun _ _ _ h => h) (Or.inl ⟨by rfl, ?_⟩) ?_ ?_
                rotate_left
                · intro w'
                  go_simp
                  with_reducible rfl
                rotate_left
                · simp only [Act.put, List.setIfInBounds_toArray, List.set_cons_zero, List.set_cons_succ, i64_w, i32_w]
                  rfl
                refine pure_ (i := 4) (N := some 42) (v := ?_) (a' := ?_) #[true, false, true, true, true, false, false, false, false, false, false, false, false, false, false, false, false, false, false, false, false, false, false, false, false] rfl rfl (any_of HT_.out (by kernel_rfl)) (fun _ _ _ h => h) (Or.inl ⟨by rfl, ?_⟩) ?_ ?_
                rotate_left
                · intro w'
                  go_simp
                  with_reducible rfl
                rotate_left
                · simp only [Act.put, List.setIfInBounds_toArray, List.set_cons_zero, List.set_cons_succ, i64_w, i32_w]
                  rfl
                refine pure_ (i := 6) (N := some 44) (v := ?_) (a' := ?_) #[true, false, true, true, true, false, true, false, false, false, false, false, false, false, false, false, false, false, false, false, false, false, false, false, false] rfl rfl (any_of HT_.out (by kernel_rfl)) (fun _ _ _ h => h) (Or.inl ⟨by rfl, ?_⟩) ?_ ?_
                rotate_left
                · intro w'
                  go_simp
                  with_reducible rfl
                rotate_left
                · simp only [Act.put, List.setIfInBounds_toArray, List.set_cons_zero, List.set_cons_succ, i64_w, i32_w]
                  rfl
                refine pure_ (i := 9) (N := some 47) (v := ?_) (a' := ?_) #[true, false, true, true, true, false, true, false, false, true, false, false, false, false, false, false, false, false, false, false, false, false, false, false, false] rfl rfl (any_of HT_.out (by kernel_rfl)) (fun _ _ _ h => h) (Or.inl ⟨by rfl, ?_⟩) ?_ ?_
                rotate_left
                · intro w'
                  go_simp
                  with_reducible rfl
                rotate_left
                · simp only [Act.put, List.setIfInBounds_toArray, List.set_cons_zero, List.set_cons_succ, i64_w, i32_w]
                  rfl
                refine pure_ (i := 12) (N := some 50) (v := ?_) (a' := ?_) #[true, false, true, true, true, false, true, false, false, true, false, false, true, false, false, false, false, false, false, false, false, false, false, false, false] rfl rfl (any_of HT_.out (by kernel_rfl)) (fun _ _ _ h => h) (Or.inl ⟨by rfl, ?_⟩) ?_ ?_
                rotate_left
                · intro w'
                  go_simp
                  with_reducible rfl
                rotate_left
                · simp only [Act.put, List.setIfInBounds_toArray, List.set_cons_zero, List.set_cons_succ, i64_w, i32_w]
                  rfl
                refine pure_ (i := 13) (N := some 51) (v := ?_) (a' := ?_) #[true, false, true, true, true, false, true, false, false, true, false, false, true, true, false, false, false, false, false, false, false, false, false, false, false] rfl rfl (any_of HT_.out (by kernel_rfl)) (fun _ _ _ h => h) (Or.inl ⟨by rfl, ?_⟩) ?_ ?_
                rotate_left
                · intro w'
                  go_simp
                  with_reducible rfl
                rotate_left
                · simp only [Act.put, List.setIfInBounds_toArray, List.set_cons_zero, List.set_cons_succ, i64_w, i32_w]
                  rfl
                refine pure_ (i := 14) (N := some 52) (v := ?_) (a' := ?_) #[true, false, true, true, true, false, true, false, false, true, false, false, true, true, true, false, false, false, false, false, false, false, false, false, false] rfl rfl (any_of HT_.out (by kernel_rfl)) (fun _ _ _ h => h) (Or.inl ⟨by rfl, ?_⟩) ?_ ?_
                rotate_left
                · intro w'
                  go_simp
                  with_reducible rfl
                rotate_left
                · simp only [Act.put, List.setIfInBounds_toArray, List.set_cons_zero, List.set_cons_succ, i64_w, i32_w]
                  rfl
                refine pure_ (i := 17) (N := some 55) (v := ?_) (a' := ?_) #[true, false, true, true, true, false, true, false, false, true, false, false, true, true, true, false, false, true, false, false, false, false, false, false, false] rfl rfl (any_of HT_.out (by kernel_rfl)) (fun _ _ _ h => h) (Or.inl ⟨by rfl, ?_⟩) ?_ ?_
                rotate_left
                · intro w'
                  go_simp
                  with_reducible rfl
                rotate_left
                · simp only [Act.put, List.setIfInBounds_toArray, List.set_cons_zero, List.set_cons_succ, i64_w, i32_w]
                  rfl
                refine pure_ (i := 18) (N := some 56) (v := ?_) (a' := ?_) #[true, false, true, true, true, false, true, false, false, true, false, false, true, true, true, false, false, true, true, false, false, false, false, false, false] rfl rfl (any_of HT_.out (by kernel_rfl)) (fun _ _ _ h => h) (Or.inl ⟨by rfl, ?_⟩) ?_ ?_
                rotate_left
                · intro w'
                  go_simp
                  with_reducible rfl
                rotate_left
                · simp only [Act.put, List.setIfInBounds_toArray, List.set_cons_zero, List.set_cons_succ, i64_w, i32_w]
                  rfl
                refine pure_ (i := 19) (N := some 57) (v := ?_) (a' := ?_) #[true, false, true, true, true, false, true, false, false, true, false, false, true, true, true, false, false, true, true, true, false, false, false, false, false] rfl rfl (any_of HT_.out (by kernel_rfl)) (fun _ _ _ h => h) (Or.inl ⟨by rfl, ?_⟩) ?_ ?_
                rotate_left
                · intro w'
                  go_simp
                  with_reducible rfl
                rotate_left
                · simp only [Act.put, List.setIfInBounds_toArray, List.set_cons_zero, List.set_cons_succ, i64_w, i32_w]
                  rfl
                refine take_ (i := 1) (N := some 39) (v := ?_) (a' := ?_) #[true, true, true, true, true, false, true, false, false, true, false, false, true, true, true, false, false, true, true, true, false, false, false, false, false] rfl rfl (take_ofW HT_.out HW_.out (by kernel_rfl)) (fun _ _ _ h => h) (Or.inl ⟨by rfl, ?_⟩) hHeld ?_ ?_
                rotate_left
                · rintro w' ⟨s0, s1, s2, s3, s4, s5, s6, s7, s8⟩
                  go_simp
                  with_reducible rfl
                rotate_left
                · simp only [Act.put, List.setIfInBounds_toArray, List.set_cons_zero, List.set_cons_succ, i64_w, i32_w]
                  rfl
                refine take_ (i := 5) (N := some 43) (v := ?_) (a' := ?_) #[true, true, true, true, true, true, true, false, false, true, false, false, true, true, true, false, false, true, true, true, false, false, false, false, false] rfl rfl (take_ofW HT_.out HW_.out (by kernel_rfl)) (fun _ _ _ h => h) (Or.inl ⟨by rfl, ?_⟩) hHeld ?_ ?_
                rotate_left
                · rintro w' ⟨s0, s1, s2, s3, s4, s5, s6, s7, s8⟩
                  go_simp
                  with_reducible rfl
                rotate_left
                · simp only [Act.put, List.setIfInBounds_toArray, List.set_cons_zero, List.set_cons_succ, i64_w, i32_w]
                  rfl
                refine pure_ (i := 7) (N := some 45) (v := ?_) (a' := ?_) #[true, true, true, true, true, true, true, true, false, true, false, false, true, true, true, false, false, true, true, true, false, false, false, false, false] rfl rfl (any_of HT_.out (by kernel_rfl)) (fun _ _ _ h => h) (Or.inl ⟨by rfl, ?_⟩) ?_ ?_
                rotate_left
                · intro w'
                  go_simp
                  with_reducible rfl
                rotate_left
                · simp only [Act.put, List.setIfInBounds_toArray, List.set_cons_zero, List.set_cons_succ, i64_w, i32_w]
                  rfl
                refine take_ (i := 8) (N := some 46) (v := ?_) (a' := ?_) #[true, true, true, true, true, true, true, true, true, true, false, false, true, true, true, false, false, true, true, true, false, false, false, false, false] rfl rfl (take_ofW HT_.out HW_.out (by kernel_rfl)) (fun _ _ _ h => h) (Or.inl ⟨by rfl, ?_⟩) hHeld ?_ ?_
                rotate_left
                · rintro w' ⟨s0, s1, s2, s3, s4, s5, s6, s7, s8⟩
                  go_simp
                  with_reducible rfl
                rotate_left
                · simp only [Act.put, List.setIfInBounds_toArray, List.set_cons_zero, List.set_cons_succ, i64_w, i32_w]
                  rfl
                refine pure_ (i := 10) (N := some 48) (v := ?_) (a' := ?_) #[true, true, true, true, true, true, true, true, true, true, true, false, true, true, true, false, false, true, true, true, false, false, false, false, false] rfl rfl (any_of HT_.out (by kernel_rfl)) (fun _ _ _ h => h) (Or.inl ⟨by rfl, ?_⟩) ?_ ?_
                rotate_left
                · intro w'
                  go_simp
                  with_reducible rfl
                rotate_left
                · simp only [Act.put, List.setIfInBounds_toArray, List.set_cons_zero, List.set_cons_succ, i64_w, i32_w]
                  rfl
                refine pure_ (i := 11) (N := some 49) (v := ?_) (a' := ?_) #[true, true, true, true, true, true, true, true, true, true, true, true, true, true, true, false, false, true, true, true, false, false, false, false, false] rfl rfl (any_of HT_.out (by kernel_rfl)) (fun _ _ _ h => h) (Or.inl ⟨by rfl, ?_⟩) ?_ ?_
                rotate_left
                · intro w'
                  go_simp
                  with_reducible rfl
                rotate_left
                · simp only [Act.put, List.setIfInBounds_toArray, List.set_cons_zero, List.set_cons_succ, i64_w, i32_w]
                  rfl
                refine take_ (i := 15) (N := some 53) (v := ?_) (a' := ?_) #[true, true, true, true, true, true, true, true, true, true, true, true, true, true, true, true, false, true, true, true, false, false, false, false, false] rfl rfl (take_ofW HT_.out HW_.out (by kernel_rfl)) (fun _ _ _ h => h) (Or.inl ⟨by rfl, ?_⟩) hHeld ?_ ?_
                rotate_left
                · rintro w' ⟨s0, s1, s2, s3, s4, s5, s6, s7, s8⟩
                  go_simp
                  with_reducible rfl
                rotate_left
                · simp only [Act.put, List.setIfInBounds_toArray, List.set_cons_zero, List.set_cons_succ, i64_w, i32_w]
                  rfl
                refine pure_ (i := 16) (N := some 54) (v := ?_) (a' := ?_) #[true, true, true, true, true, true, true, true, true, true, true, true, true, true, true, true, true, true, true, true, false, false, false, false, false] rfl rfl (any_of HT_.out (by kernel_rfl)) (fun _ _ _ h => h) (Or.inl ⟨by rfl, ?_⟩) ?_ ?_
                rotate_left
                · intro w'
                  go_simp
                  with_reducible rfl
                rotate_left
                · simp only [Act.put, List.setIfInBounds_toArray, List.set_cons_zero, List.set_cons_succ, i64_w, i32_w]
                  rfl
                refine pure_ (i := 20) (N := some 58) (v := ?_) (a' := ?_) #[true, true, true, true, true, true, true, true, true, true, true, true, true, true, true, true, true, true, true, true, true, false, false, false, false] rfl rfl (any_of HT_.out (by kernel_rfl)) (fun _ _ _ h => h) (Or.inl ⟨by rfl, ?_⟩) ?_ ?_
                rotate_left
                · intro w'
                  go_simp
                  with_reducible rfl
                rotate_left
                · simp only [Act.put, List.setIfInBounds_toArray, List.set_cons_zero, List.set_cons_succ, i64_w, i32_w]
                  rfl
                refine one_ (i := 21) (N := some 59) #[true, true, true, true, true, true, true, true, true, true, true, true, true, true, true, true, true, true, true, true, true, true, false, false, false] rfl rfl (one_of HT_.out (by kernel_rfl)) (by decide) (fun K hK => ?_)
                refine Kd.R_lit_step k35 _ 35 ?hg (N := 59) ?hd (xs := ([(⟨0, wrap64 (x26_1 + 1), wrap64 ((rd l0_2 x26_1) - (ji12))⟩ : S35), (⟨wrap64 (x26_1 + 1), wrap64 ((wrap64 ((wrap64 (a0_0 * a0_1)) + 2)) - 1), wrap64 ((wrap64 ((rd l0_3 x26_1) + a1)) - (ji12))⟩ : S35)] : List (S35))) (inner := [.int .i64 0, .int .i64 (wrap64 (x26_1 + 1)), .int .i64 (wrap64 ((rd l0_2 x26_1) - (ji12))), .int .i64 (wrap64 (x26_1 + 1)), .int .i64 (wrap64 ((wrap64 ((wrap64 (a0_0 * a0_1)) + 2)) - 1)), .int .i64 (wrap64 ((wrap64 ((rd l0_3 x26_1) + a1)) - (ji12)))]) (ok := fun _ => True) (okp := fun _ => True) ?hr ?hp (fun _ hk => hk) trivial (Below.refl _ _) (Nat.le_refl _) (by simp) ?_; (case hd => rfl); (case hg => rfl); (case hr => first | (go_simp; done) | (go_simp; rfl)); (case hp => exact (Reps.c3 (show Kd.M k35 _ _ _ (⟨0, wrap64 (x26_1 + 1), wrap64 ((rd l0_2 x26_1) - (ji12))⟩ : S35) [.int .i64 0, .int .i64 (wrap64 (x26_1 + 1)), .int .i64 (wrap64 ((rd l0_2 x26_1) - (ji12)))] from (k35_mkM _ _ _ (⟨0, wrap64 (x26_1 + 1), wrap64 ((rd l0_2 x26_1) - (ji12))⟩ : S35) )) (Reps.c3 (show Kd.M k35 _ _ _ (⟨wrap64 (x26_1 + 1), wrap64 ((wrap64 ((wrap64 (a0_0 * a0_1)) + 2)) - 1), wrap64 ((wrap64 ((rd l0_3 x26_1) + a1)) - (ji12))⟩ : S35) [.int .i64 (wrap64 (x26_1 + 1)), .int .i64 (wrap64 ((wrap64 ((wrap64 (a0_0 * a0_1)) + 2)) - 1)), .int .i64 (wrap64 ((wrap64 ((rd l0_3 x26_1) + a1)) - (ji12)))] from (k35_mkM _ _ _ (⟨wrap64 (x26_1 + 1), wrap64 ((wrap64 ((wrap64 (a0_0 * a0_1)) + 2)) - 1), wrap64 ((wrap64 ((rd l0_3 x26_1) + a1)) - (ji12))⟩ : S35) )) (Reps.none _ _))))
                intro v679 w18 ho19 hb hg_ hnew_
                clear hg_ hnew_
                (first | rw [← Ny678.out] at ho19 | (simp only [Int.reduceToNat] at ho19; rw [← Ny678.out] at ho19))
                have n0_ := Aside0.mk (Kd.R_elder' (by (with_reducible repeat (first | apply Kd.R_alloc | apply Kd.R_drewN | apply Kd.R_drew)); exact HO_676001.out) (Kd.R_base ho19) hb)
                have n1_ := Aside0.mk (Kd.R_lower (Kd.R_new' ho19 (Kd.R_lt (by (with_reducible repeat (first | apply Kd.R_alloc | apply Kd.R_drewN | apply Kd.R_drew)); exact HO_676001.out))) (below_size (by repeat (first | (with_reducible first | exact HB.out | apply below_alloc | apply pw_below_drewN | apply below_drew1 | refine below_set ?_ GE674.out | refine below_set ?_ GE675.out) | exact HB.out))))
                have n2_ := Aside0.mk (blk_below (g := gb674) (o := .cells #[.int .i64 a0_0, .int .i64 a0_1, .slice (some ad677) l0_2.length c0_2, .slice (some ad676) l0_3.length c0_3, .slice A0_4 l0_4.length c0_4, .slice A0_5 l0_5.length c0_5] 63 (0, 0)) (by (with_reducible repeat (first | refine blk_drewN ?_ _ | refine blk_drew ?_ | refine blk_alloc ?_ _)); exact BK674.out) hb)
                have n3_ := Aside0.mk (blk_below (g := gb675) (o := .cells #[.int .i64 (wrap64 ((wrap64 (a0_0 * a0_1)) + 2)), u676001] 30 (0, 0)) (by (with_reducible repeat (first | refine blk_drewN ?_ _ | refine blk_drew ?_ | refine blk_alloc ?_ _)); exact BK675.out) hb)
                have n4_ := Aside0.mk (below_step (by repeat (first | (with_reducible first | exact HB.out | apply below_alloc | apply pw_below_drewN | apply below_drew1 | refine below_set ?_ GE674.out | refine below_set ?_ GE675.out) | exact HB.out)) hb)
                clear HO_676001
                clear BK674
                clear BK675
                clear HB
                have HO_676001 := n0_
                have HO680 := n1_
                have BK674 := n2_
                have BK675 := n3_
                have HB := n4_
                clear n0_ n1_ n2_ n3_ n4_
                clear hb ho19
                obtain ⟨Ao21, co21, eo21⟩ := Kd.R_slice HO680.out
                (first | subst eo21 | (injection eo21 with f1_ f2_ f3_; have f4_ := f1_.symm; have f5_ := f3_.symm; clear f1_ f2_ f3_; subst f4_; subst f5_))
                refine hK.out _ _ ⟨(blk_cell BK675.out 0).trans rfl, (blk_cell BK675.out 1).trans rfl, (blk_cell BK674.out 0).trans rfl, (blk_cell BK674.out 1).trans rfl, (blk_cell BK674.out 2).trans rfl, (blk_cell BK674.out 3).trans rfl, (blk_cell BK674.out 4).trans rfl, (blk_cell BK674.out 5).trans rfl, ((HB.out.cell (World.block_lt_of_cell? w _ hw677_0)).trans hw677_0)⟩ (fun hHeld => ?_)
                clear hK K
                refine norm_ (a' := ?_) ?_ ?_
                rotate_left
                · show Act.put _ (some 59) _ = _
                  simp only [Act.put, List.setIfInBounds_toArray, List.set_cons_zero, List.set_cons_succ, i64_w, i32_w]
                  rfl
                refine one_ (i := 22) (N := some 60) #[true, true, true, true, true, true, true, true, true, true, true, true, true, true, true, true, true, true, true, true, true, true, true, false, false] rfl rfl (one_of HT_.out (by kernel_rfl)) (by decide) (fun K hK => ?_)
                refine Kd.R_append_rows_step k35 (w0 := w) w.heap.size (by rfl) (.tmp 39) (.tmp 59) 28 35 (.agg #[(.int .i64 0), (.int .i64 0), (.int .i64 0)]) 24 rfl Try.underlying28 info35 rfl (by decide) (by omega) u676001 x676001_1 y678 _ _ _ (fun k_ => some k_ ≠ (.slice Ao21 y678.length co21 : Value).ownBlock) (fun _ => False) rfl rfl ?aO ?aR (fun _ _ h => h) (fun _ h => h.elim) ?aF ?aB ?aS ?aL ?_
                (case aR => repeat (first | exact (Kd.R_reads' HO680.out).2.2 | (with_reducible refine Kd.C_alloc ?_ _) | (with_reducible refine Kd.C_drewN ?_ _) | (with_reducible refine Kd.C_drew ?_)))
                (case aB => exact (by repeat (first | (with_reducible first | exact HB.out | apply below_alloc | apply pw_below_drewN | apply below_drew1 | refine below_set ?_ GE674.out | refine below_set ?_ GE675.out) | exact HB.out)))
                (case aF => exact (fun k_ hk => Kd.fresh' (Kd.R_lt (by (with_reducible repeat (first | apply Kd.R_alloc | apply Kd.R_drewN | apply Kd.R_drew)); exact HO680.out)) k_ hk))
                (case aO => exact (by (with_reducible repeat (first | apply Kd.R_alloc | apply Kd.R_drewN | apply Kd.R_drew)); exact Kd.R_mono HO_676001.out (fun _ hk => hk.2)))
                (case aS => exact (below_size (by repeat (first | (with_reducible first | exact HB.out | apply below_alloc | apply pw_below_drewN | apply below_drew1 | refine below_set ?_ GE674.out | refine below_set ?_ GE675.out) | exact HB.out))))
                (case aL => have := LMc14.out; omega)
                intro v682 w20 ho hb hg hat
                rw [← Ny681.out] at ho
                have n0_ := Aside0.mk (blk_grown (g := gb674) (o := .cells #[.int .i64 a0_0, .int .i64 a0_1, .slice (some ad677) l0_2.length c0_2, .slice (some ad676) l0_3.length c0_3, .slice A0_4 l0_4.length c0_4, .slice A0_5 l0_5.length c0_5] 63 (0, 0)) (by (with_reducible repeat (first | refine blk_drewN ?_ _ | refine blk_drew ?_ | refine blk_alloc ?_ _)); exact BK674.out) hg (Kd.R_ne HO_676001.out BK674.out (by decide)))
                have n1_ := Aside0.mk (blk_grown (g := gb675) (o := .cells #[.int .i64 (wrap64 ((wrap64 (a0_0 * a0_1)) + 2)), u676001] 30 (0, 0)) (by (with_reducible repeat (first | refine blk_drewN ?_ _ | refine blk_drew ?_ | refine blk_alloc ?_ _)); exact BK675.out) hg (Kd.R_ne HO_676001.out BK675.out (by decide)))
                have n2_ := Aside0.mk (Kd.R_after (ok := (fun _ => True)) (by (with_reducible repeat (first | apply Kd.R_alloc | apply Kd.R_drewN | apply Kd.R_drew)); exact HO680.out) hg hat)
                have n3_ := Aside0.mk (hb)
                have n4_ := Aside0.mk (ho)
                clear BK674
                clear BK675
                clear HO680
                clear HB
                clear HO_676001
                have BK674 := n0_
                have BK675 := n1_
                have HO680 := n2_
                have HB := n3_
                have HO683 := n4_
                clear n0_ n1_ n2_ n3_ n4_
                clear ho hb hg hat
                obtain ⟨Ao22, co22, eo22⟩ := Kd.R_slice HO683.out
                (first | subst eo22 | (injection eo22 with f1_ f2_ f3_; have f4_ := f1_.symm; have f5_ := f3_.symm; clear f1_ f2_ f3_; subst f4_; subst f5_))
                refine hK.out _ _ ⟨(blk_cell BK675.out 0).trans rfl, (blk_cell BK675.out 1).trans rfl, (blk_cell BK674.out 0).trans rfl, (blk_cell BK674.out 1).trans rfl, (blk_cell BK674.out 2).trans rfl, (blk_cell BK674.out 3).trans rfl, (blk_cell BK674.out 4).trans rfl, (blk_cell BK674.out 5).trans rfl, ((HB.out.cell (World.block_lt_of_cell? w _ hw677_0)).trans hw677_0)⟩ (fun hHeld => ?_)
                clear hK K
                refine norm_ (a' := ?_) ?_ ?_
                rotate_left
                · show Act.put _ (some 60) _ = _
                  simp only [Act.put, List.setIfInBounds_toArray, List.set_cons_zero, List.set_cons_succ, i64_w, i32_w]
                  rfl
                refine pure_ (i := 23) (N := some 61) (v := ?_) (a' := ?_) #[true, true, true, true, true, true, true, true, true, true, true, true, true, true, true, true, true, true, true, true, true, true, true, true, false] rfl rfl (any_of HT_.out (by kernel_rfl)) (fun _ _ _ h => h) (Or.inl ⟨by rfl, ?_⟩) ?_ ?_
                rotate_left
                · intro w'
                  go_simp
                  with_reducible rfl
                rotate_left
                · simp only [Act.put, List.setIfInBounds_toArray, List.set_cons_zero, List.set_cons_succ, i64_w, i32_w]
                  rfl
                refine last_ (i := 24) (N := none) #[true, true, true, true, true, true, true, true, true, true, true, true, true, true, true, true, true, true, true, true, true, true, true, true, true] rfl rfl (one_of HT_.out (by kernel_rfl)) (by decide) (fun K hK => ?_)
                have hs23 : w20.cell? ⟨gb675, 1, none⟩ = some (u676001) := (blk_cell BK675.out 1).trans rfl
                have hfs23 := blk_frozen BK675.out 1
                have hns23_0 := NB674_675.out
                have hms23_0 := NB675_674.out
                refine skip_ (w1 := ?_) (by rfl) rfl ?_ ?_
                rotate_left
                · go_simp
                  rfl
                refine hK.out _ _ ?_
                clear hK K
                refine done_ (done_of HT_.out (by kernel_rfl)) ?_
                try go_wp2
                go_roundg k1
                case measure => have := HK1.out; omega
                case rel => exact ⟨(wrap64 (x26_1 + 1)), (y681), (.slice Ao22 y681.length co22), (by first | rfl | (simp; done) | (simp [*]; done)), H', ⟨by have := HK1.out; omega⟩, ⟨by (with_reducible repeat (first | apply Kd.R_alloc | apply Kd.R_drewN | apply Kd.R_drew)); exact Kd.R_mono (Kd.R_far (p := ⟨gb675, 1, none⟩) (Kd.R_types HO683.out BK675.out (by decide)) (fun _ hk => hk.2) (.slice Ao22 y681.length co22)) (fun _ hk => trivial)⟩, ⟨by (with_reducible repeat (first | refine blk_drewN ?_ _ | refine blk_drew ?_ | refine blk_alloc ?_ _)); refine blk_far ?_ NB674_675.out _; (with_reducible repeat (first | refine blk_drewN ?_ _ | refine blk_drew ?_ | refine blk_alloc ?_ _)); exact BK674.out⟩, ⟨by (with_reducible repeat (first | refine blk_drewN ?_ _ | refine blk_drew ?_ | refine blk_alloc ?_ _)); refine blk_put (cs := #[.int .i64 (wrap64 ((wrap64 (a0_0 * a0_1)) + 2)), u676001]) ?_ 1 _ rfl; (with_reducible repeat (first | refine blk_drewN ?_ _ | refine blk_drew ?_ | refine blk_alloc ?_ _)); exact BK675.out⟩, ⟨by repeat (first | (with_reducible first | exact HB.out | apply below_alloc | apply pw_below_drewN | apply below_drew1 | refine below_set ?_ GE674.out | refine below_set ?_ GE675.out) | exact HB.out)⟩⟩
              · rw [if_neg c14] at H
                exact absurd H (by simp)
            · rw [if_neg c13] at H
              exact absurd H (by simp)
          · rw [if_neg c11] at H
            exact absurd H (by simp)
        · rw [if_neg c10] at H
          exact absurd H (by simp)
      · rw [if_neg c9] at H
        have c9b0 : decide (x26_1 < (wrap64 (a0_0 * a0_1))) = false := decide_eq_false c9
        clear c9
        replace H := Option.bind_eq_some_iff.mp H
        obtain ⟨t684, A240, H⟩ := H
        replace H : (wax_Cloth_arcs.l1 k1 t684 (t684.length : Int) 0 (wrap64 ((wrap64 (a0_0 * a0_1)) + 2)) x676001_1) = some r := H
        have A24 := Aside0.mk A240
        clear A240
        have H' := Aside0.mk H
        clear H
        have hnb25 := NB674_675.out
        have hnc25 := NB675_674.out
        have hcz26_0 : wr.cell? ⟨gb674, 0, none⟩ = some (.int .i64 a0_0) := (blk_cell BK674.out 0).trans rfl
        have hcz26_1 : wr.cell? ⟨gb674, 1, none⟩ = some (.int .i64 a0_1) := (blk_cell BK674.out 1).trans rfl
        have hcz26_2 : wr.cell? ⟨gb674, 2, none⟩ = some (.slice A0_2 l0_2.length c0_2) := (blk_cell BK674.out 2).trans rfl
        have hcz26_3 : wr.cell? ⟨gb674, 3, none⟩ = some (.slice A0_3 l0_3.length c0_3) := (blk_cell BK674.out 3).trans rfl
        have hcz26_4 : wr.cell? ⟨gb674, 4, none⟩ = some (.slice A0_4 l0_4.length c0_4) := (blk_cell BK674.out 4).trans rfl
        have hcz26_5 : wr.cell? ⟨gb674, 5, none⟩ = some (.slice A0_5 l0_5.length c0_5) := (blk_cell BK674.out 5).trans rfl
        have hfz26_0 := blk_frozen BK674.out 0
        have hfz26_1 := blk_frozen BK674.out 1
        have hfz26_2 := blk_frozen BK674.out 2
        have hfz26_3 := blk_frozen BK674.out 3
        have hfz26_4 := blk_frozen BK674.out 4
        have hfz26_5 := blk_frozen BK674.out 5
        go_wp2_with (first | ((with_reducible refine gate_callee (f := 60) rfl ?_); refine goesL_ (some 64) rfl rfl Try.func60 (by kernel_rfl) rfl #[.agg #[.int .i64 a0_0, .int .i64 a0_1, .slice A0_2 l0_2.length c0_2, .slice A0_3 l0_3.length c0_3, .slice A0_4 l0_4.length c0_4, .slice A0_5 l0_5.length c0_5]] rfl (by (try simp only [List.map_toArray, List.map_cons, List.map_nil]); first | done | rfl | (simp only [List.length_drop, List.length_take]; rfl)) ?_; (with_reducible refine (wax_Cloth_pairs.calls k1 a0_0 a0_1 _ _ l0_2 _ _ l0_3 _ _ l0_4 _ _ l0_5 t684 _ ?side1 ?side2 ?side3 ?side4 ?side5 ?side6 ?side7 ?side8 A24.out).mono ?_); (case side1 => repeat (first | exact (Kd.C_below HR0_2.out HB.out) | (with_reducible refine Kd.C_alloc ?_ _) | (with_reducible refine Kd.C_drewN ?_ _) | (with_reducible refine Kd.C_drew ?_))); (case side2 => exact HC0_2.out); (case side3 => repeat (first | exact (Kd.C_below HR0_3.out HB.out) | (with_reducible refine Kd.C_alloc ?_ _) | (with_reducible refine Kd.C_drewN ?_ _) | (with_reducible refine Kd.C_drew ?_))); (case side4 => exact HC0_3.out); (case side5 => repeat (first | exact (Kd.C_below HR0_4.out HB.out) | (with_reducible refine Kd.C_alloc ?_ _) | (with_reducible refine Kd.C_drewN ?_ _) | (with_reducible refine Kd.C_drew ?_))); (case side6 => exact HC0_4.out); (case side7 => repeat (first | exact (Kd.C_below HR0_5.out HB.out) | (with_reducible refine Kd.C_alloc ?_ _) | (with_reducible refine Kd.C_drewN ?_ _) | (with_reducible refine Kd.C_drew ?_))); (case side8 => exact HC0_5.out); rintro e w27 ⟨v685, rfl, ho0, hb⟩; refine ⟨_, rfl, ?_⟩; have n0_ := Aside0.mk (Kd.R_below (by (with_reducible repeat (first | apply Kd.R_alloc | apply Kd.R_drewN | apply Kd.R_drew)); exact HO_676001.out) hb); have n1_ := Aside0.mk (Kd.R_lower ho0 (below_size (by repeat (first | (with_reducible first | exact HB.out | apply below_alloc | apply pw_below_drewN | apply below_drew1 | refine below_set ?_ GE674.out | refine below_set ?_ GE675.out) | exact HB.out)))); have n2_ := Aside0.mk (blk_below (g := gb674) (o := .cells #[.int .i64 a0_0, .int .i64 a0_1, .slice A0_2 l0_2.length c0_2, .slice A0_3 l0_3.length c0_3, .slice A0_4 l0_4.length c0_4, .slice A0_5 l0_5.length c0_5] 63 (0, 0)) (by (with_reducible repeat (first | refine blk_drewN ?_ _ | refine blk_drew ?_ | refine blk_alloc ?_ _)); exact BK674.out) hb); have n3_ := Aside0.mk (blk_below (g := gb675) (o := .cells #[.int .i64 (wrap64 ((wrap64 (a0_0 * a0_1)) + 2)), u676001] 30 (0, 0)) (by (with_reducible repeat (first | refine blk_drewN ?_ _ | refine blk_drew ?_ | refine blk_alloc ?_ _)); exact BK675.out) hb); have n4_ := Aside0.mk (below_step (by repeat (first | (with_reducible first | exact HB.out | apply below_alloc | apply pw_below_drewN | apply below_drew1 | refine below_set ?_ GE674.out | refine below_set ?_ GE675.out) | exact HB.out)) hb); clear HO_676001; clear BK674; clear BK675; clear HB; have HO_676001 := n0_; have HO686 := n1_; have BK674 := n2_; have BK675 := n3_; have HB := n4_; clear n0_ n1_ n2_ n3_ n4_; (try clear hb); (try clear hb2); (try clear hk); (try clear hi); (try clear ho0); obtain ⟨Ao28, co28, eo28⟩ := Kd.R_slice HO686.out; subst eo28))
        go_loopg [66] k1 (fun kq v66 w' => ∃ (x66_2 : Int) (x676001_2 : List (S35)) (u676001 : Value), v66 = .int .i64 x66_2 ∧ Aside0 (wax_Cloth_arcs.l1 kq t684 (t684.length : Int) x66_2 (wrap64 ((wrap64 (a0_0 * a0_1)) + 2)) x676001_2 = some r) ∧ Aside0 (kq ≤ k1) ∧ Aside0 (Kd.R k100 100 w' w.heap.size (fun _ => True) (.slice Ao28 t684.length co28) t684) ∧ Aside0 (Kd.R k35 35 w' w.heap.size (fun _ => True) u676001 x676001_2) ∧ Aside0 (w'.heap[gb674]? = some (.cells #[.int .i64 a0_0, .int .i64 a0_1, (.slice A0_2 l0_2.length c0_2), (.slice A0_3 l0_3.length c0_3), (.slice A0_4 l0_4.length c0_4), (.slice A0_5 l0_5.length c0_5)] 63 (0, 0))) ∧ Aside0 (w'.heap[gb675]? = some (.cells #[.int .i64 (wrap64 ((wrap64 (a0_0 * a0_1)) + 2)), u676001] 30 (0, 0))) ∧ Aside0 (Below w.heap.size w w'))
        case atStart => exact ⟨(0), (x676001_1), (u676001), (by first | rfl | (simp; done) | (simp [*]; done)), H', ⟨Nat.le_refl _⟩, ⟨by (with_reducible repeat (first | apply Kd.R_alloc | apply Kd.R_drewN | apply Kd.R_drew)); exact HO686.out⟩, ⟨by (with_reducible repeat (first | apply Kd.R_alloc | apply Kd.R_drewN | apply Kd.R_drew)); exact HO_676001.out⟩, ⟨by (with_reducible repeat (first | refine blk_drewN ?_ _ | refine blk_drew ?_ | refine blk_alloc ?_ _)); exact BK674.out⟩, ⟨by (with_reducible repeat (first | refine blk_drewN ?_ _ | refine blk_drew ?_ | refine blk_alloc ?_ _)); exact BK675.out⟩, ⟨by repeat (first | (with_reducible first | exact HB.out | apply below_alloc | apply pw_below_drewN | apply below_drew1 | refine below_set ?_ GE674.out | refine below_set ?_ GE675.out) | exact HB.out)⟩⟩
        case round =>
          clear H'
          try clear c1
          try clear c2
          try clear p2
          try clear c3
          try clear c6
          try clear p6
          try clear q6
          try clear hx6
          try clear c9
          try clear c9b0
          try clear c10
          try clear c10b0
          try clear c11
          try clear c11b0
          try clear c13
          try clear c13b0
          try clear c14
          try clear c15
          try clear c25
          try clear hcz16_0
          try clear hcz16_1
          try clear hcz16_2
          try clear hcz16_3
          try clear hcz16_4
          try clear hcz16_5
          try clear hcz26_0
          try clear hcz26_1
          try clear hcz26_2
          try clear hcz26_3
          try clear hcz26_4
          try clear hcz26_5
          try clear hcz4_0
          try clear hcz4_1
          try clear hcz4_2
          try clear hcz4_3
          try clear hcz4_4
          try clear hcz4_5
          try clear hcz7_0
          try clear hcz7_1
          try clear hcz8_0
          try clear hcz8_1
          try clear hcz8_2
          try clear hcz8_3
          try clear hcz8_4
          try clear hcz8_5
          try clear hfz16_0
          try clear hfz16_1
          try clear hfz16_2
          try clear hfz16_3
          try clear hfz16_4
          try clear hfz16_5
          try clear hfz26_0
          try clear hfz26_1
          try clear hfz26_2
          try clear hfz26_3
          try clear hfz26_4
          try clear hfz26_5
          try clear hfz4_0
          try clear hfz4_1
          try clear hfz4_2
          try clear hfz4_3
          try clear hfz4_4
          try clear hfz4_5
          try clear hfz7_0
          try clear hfz7_1
          try clear hfz8_0
          try clear hfz8_1
          try clear hfz8_2
          try clear hfz8_3
          try clear hfz8_4
          try clear hfz8_5
          try clear hx676_0
          try clear hx677_0
          try clear p2
          try clear p6
          try clear p676
          try clear p677
          try clear q676
          try clear q677
          obtain ⟨x66_2, x676001_2, u676001, rfl, HA, HK2, HO_64, HO_676001, BK674, BK675, HB⟩ := hrel
          cases gk with
          | zero => exact absurd HA.out (by simp [wax_Cloth_arcs.l1])
          | succ k2 =>
            have H := HA.out
            clear HA
            simp only [wax_Cloth_arcs.l1] at H
            by_cases c29 : x66_2 < (t684.length : Int)
            · rw [if_pos c29] at H
              have c29b0 : decide (x66_2 < (t684.length : Int)) = true := decide_eq_true c29
              clear c29
              by_cases c30 : 0 ≤ x66_2
              · rw [if_pos c30] at H
                have c30b0 : decide (0 ≤ x66_2) = true := decide_eq_true c30
                clear c30
                by_cases c31 : x66_2 < (t684.length : Int)
                · rw [if_pos c31] at H
                  have c31b0 : decide (x66_2 < (t684.length : Int)) = true := decide_eq_true c31
                  clear c31
                  obtain ⟨y689, hy689⟩ : ∃ y_ : List (S35), y_ = (([(⟨wrap64 (((rd_T100 t684 x66_2).f0) + 1), wrap64 (((rd_T100 t684 x66_2).f1) + 1), (rd_T100 t684 x66_2).f2⟩ : S35), (⟨wrap64 (((rd_T100 t684 x66_2).f1) + 1), wrap64 (((rd_T100 t684 x66_2).f0) + 1), (rd_T100 t684 x66_2).f2⟩ : S35)] : List (S35))) := ⟨_, rfl⟩
                  replace H : (if x676001_2.length + y689.length < 5864062014805 then (wax_Cloth_arcs.l1 k2 t684 (t684.length : Int) (wrap64 (x66_2 + 1)) (wrap64 ((wrap64 (a0_0 * a0_1)) + 2)) (x676001_2 ++ y689)) else (none)) = some r := by first | (rw [hy689]; with_reducible exact H) | (have H2_ := (Option.bind_some _ _).symm.trans H; rw [hy689]; with_reducible exact H2_) | (have H2_ := (Option.bind_some _ _).symm.trans H; with_reducible exact H2_) | with_reducible exact H | (rw [hy689]; exact H) | exact H
                  have Ny689 := Aside0.mk hy689
                  clear hy689
                  by_cases c32 : x676001_2.length + y689.length < 5864062014805
                  · rw [if_pos c32] at H
                    have LMc32 := Aside0.mk c32
                    clear c32
                    obtain ⟨y692, hy692⟩ : ∃ y_ : List (S35), y_ = (x676001_2 ++ y689) := ⟨_, rfl⟩
                    replace H : (wax_Cloth_arcs.l1 k2 t684 (t684.length : Int) (wrap64 (x66_2 + 1)) (wrap64 ((wrap64 (a0_0 * a0_1)) + 2)) y692) = some r := by first | (rw [hy692]; with_reducible exact H) | (have H2_ := (Option.bind_some _ _).symm.trans H; rw [hy692]; with_reducible exact H2_) | (have H2_ := (Option.bind_some _ _).symm.trans H; with_reducible exact H2_) | with_reducible exact H | (rw [hy692]; exact H) | exact H
                    have Ny692 := Aside0.mk hy692
                    clear hy692
                    have H' := Aside0.mk H
                    clear H
                    have p687 : 0 ≤ (x66_2 : Int) := of_decide_eq_true (by first | (with_reducible assumption) | assumption)
                    have q687 : x66_2 < (t684.length : Int) := of_decide_eq_true (by first | (with_reducible assumption) | assumption)
                    obtain ⟨ad687, e687, hx687_0, hx687_1, hx687_2⟩ := at_T100 (Kd.R_reads' HO_64.out).2.2 x66_2 p687 q687
                    cases e687
                    replace p687 := eq_true p687
                    replace q687 := eq_true q687
                    go_wp2_with (first | ((with_reducible refine gate_dst (N := 11) rfl ?_); refine box_event ?hg (N := 11) ?hd (cs := #[.int .i64 0, .int .i64 0, .int .i64 0]) (t := 100) ?hr ?_; (case hd => rfl); (case hg => rfl); (case hr => first | (go_simp; done) | (go_simp; rfl)); intro gb688 hg w33 hbox hb; have n0_ := Aside0.mk (Kd.R_below (Kd.R_elderB (by (with_reducible repeat (first | apply Kd.R_alloc | apply Kd.R_drewN | apply Kd.R_drew)); exact HO_64.out) gb688 (Nat.le_of_eq hg.symm)) hb); have n1_ := Aside0.mk (Kd.R_below (by (with_reducible repeat (first | apply Kd.R_alloc | apply Kd.R_drewN | apply Kd.R_drew)); exact HO_676001.out) hb); have n2_ := Aside0.mk (blk_below (g := gb674) (o := .cells #[.int .i64 a0_0, .int .i64 a0_1, .slice A0_2 l0_2.length c0_2, .slice A0_3 l0_3.length c0_3, .slice A0_4 l0_4.length c0_4, .slice A0_5 l0_5.length c0_5] 63 (0, 0)) (by (with_reducible repeat (first | refine blk_drewN ?_ _ | refine blk_drew ?_ | refine blk_alloc ?_ _)); exact BK674.out) hb); have n3_ := Aside0.mk (blk_below (g := gb675) (o := .cells #[.int .i64 (wrap64 ((wrap64 (a0_0 * a0_1)) + 2)), u676001] 30 (0, 0)) (by (with_reducible repeat (first | refine blk_drewN ?_ _ | refine blk_drew ?_ | refine blk_alloc ?_ _)); exact BK675.out) hb); have n4_ := Aside0.mk (below_step (by repeat (first | (with_reducible first | exact HB.out | apply below_alloc | apply pw_below_drewN | apply below_drew1 | refine below_set ?_ GE674.out | refine below_set ?_ GE675.out) | exact HB.out)) hb); have n5_ := Aside0.mk (hbox); have n6_ := Aside0.mk ((by rw [hg]; exact (below_size (by repeat (first | (with_reducible first | exact HB.out | apply below_alloc | apply pw_below_drewN | apply below_drew1 | refine below_set ?_ GE674.out | refine below_set ?_ GE675.out) | exact HB.out))) : w.heap.size ≤ gb688)); have n7_ := Aside0.mk ((by rw [hg]; exact (below_size (by repeat (first | (with_reducible first | exact HB.out | apply below_alloc | apply pw_below_drewN | apply below_drew1 | refine below_set ?_ GE674.out | refine below_set ?_ GE675.out) | exact HB.out))) : w.heap.size ≤ gb688)); have n8_ := Aside0.mk ((by rw [hg]; exact Nat.ne_of_lt (blk_lt (g := gb674) (o := .cells #[.int .i64 a0_0, .int .i64 a0_1, .slice A0_2 l0_2.length c0_2, .slice A0_3 l0_3.length c0_3, .slice A0_4 l0_4.length c0_4, .slice A0_5 l0_5.length c0_5] 63 (0, 0)) (by (with_reducible repeat (first | refine blk_drewN ?_ _ | refine blk_drew ?_ | refine blk_alloc ?_ _)); exact BK674.out)) : gb674 ≠ gb688)); have n9_ := Aside0.mk ((by rw [hg]; exact Nat.ne_of_gt (blk_lt (g := gb674) (o := .cells #[.int .i64 a0_0, .int .i64 a0_1, .slice A0_2 l0_2.length c0_2, .slice A0_3 l0_3.length c0_3, .slice A0_4 l0_4.length c0_4, .slice A0_5 l0_5.length c0_5] 63 (0, 0)) (by (with_reducible repeat (first | refine blk_drewN ?_ _ | refine blk_drew ?_ | refine blk_alloc ?_ _)); exact BK674.out)) : gb688 ≠ gb674)); have n10_ := Aside0.mk ((by rw [hg]; exact Nat.ne_of_lt (blk_lt (g := gb675) (o := .cells #[.int .i64 (wrap64 ((wrap64 (a0_0 * a0_1)) + 2)), u676001] 30 (0, 0)) (by (with_reducible repeat (first | refine blk_drewN ?_ _ | refine blk_drew ?_ | refine blk_alloc ?_ _)); exact BK675.out)) : gb675 ≠ gb688)); have n11_ := Aside0.mk ((by rw [hg]; exact Nat.ne_of_gt (blk_lt (g := gb675) (o := .cells #[.int .i64 (wrap64 ((wrap64 (a0_0 * a0_1)) + 2)), u676001] 30 (0, 0)) (by (with_reducible repeat (first | refine blk_drewN ?_ _ | refine blk_drew ?_ | refine blk_alloc ?_ _)); exact BK675.out)) : gb688 ≠ gb675)); clear HO_64; clear HO_676001; clear BK674; clear BK675; clear HB; have HO_64 := n0_; have HO_676001 := n1_; have BK674 := n2_; have BK675 := n3_; have HB := n4_; have BK688 := n5_; have GW688 := n6_; have GE688 := n7_; have NB674_688 := n8_; have NB688_674 := n9_; have NB675_688 := n10_; have NB688_675 := n11_; clear n0_ n1_ n2_ n3_ n4_ n5_ n6_ n7_ n8_ n9_ n10_ n11_; clear hb hbox hg; have hnb34 := NB688_674.out; have hnc34 := NB674_688.out; have hnb35 := NB688_675.out; have hnc35 := NB675_688.out; have hcz36_0 : w33.cell? ⟨gb688, 0, none⟩ = some (.int .i64 0) := (blk_cell BK688.out 0).trans rfl; have hcz36_1 : w33.cell? ⟨gb688, 1, none⟩ = some (.int .i64 0) := (blk_cell BK688.out 1).trans rfl; have hcz36_2 : w33.cell? ⟨gb688, 2, none⟩ = some (.int .i64 0) := (blk_cell BK688.out 2).trans rfl; have hfz36_0 := blk_frozen BK688.out 0; have hfz36_1 := blk_frozen BK688.out 1; have hfz36_2 := blk_frozen BK688.out 2; have hnb37 := NB675_674.out; have hnc37 := NB674_675.out; have hcz38_0 : w33.cell? ⟨gb675, 0, none⟩ = some (.int .i64 (wrap64 ((wrap64 (a0_0 * a0_1)) + 2))) := (blk_cell BK675.out 0).trans rfl; have hcz38_1 : w33.cell? ⟨gb675, 1, none⟩ = some (u676001) := (blk_cell BK675.out 1).trans rfl; have hfz38_0 := blk_frozen BK675.out 0; have hfz38_1 := blk_frozen BK675.out 1) | ((with_reducible refine gate_dst (N := 90) rfl ?_); refine Kd.R_lit k35 _ 35 ?hg (N := 90) ?hd (xs := ([(⟨wrap64 (((rd_T100 t684 x66_2).f0) + 1), wrap64 (((rd_T100 t684 x66_2).f1) + 1), (rd_T100 t684 x66_2).f2⟩ : S35), (⟨wrap64 (((rd_T100 t684 x66_2).f1) + 1), wrap64 (((rd_T100 t684 x66_2).f0) + 1), (rd_T100 t684 x66_2).f2⟩ : S35)] : List (S35))) (inner := [.int .i64 (wrap64 (((rd_T100 t684 x66_2).f0) + 1)), .int .i64 (wrap64 (((rd_T100 t684 x66_2).f1) + 1)), .int .i64 ((rd_T100 t684 x66_2).f2), .int .i64 (wrap64 (((rd_T100 t684 x66_2).f1) + 1)), .int .i64 (wrap64 (((rd_T100 t684 x66_2).f0) + 1)), .int .i64 ((rd_T100 t684 x66_2).f2)]) (ok := fun _ => True) (okp := fun _ => True) ?hr ?hp (fun _ hk => hk) trivial (Below.refl _ _) (Nat.le_refl _) (by simp) ?_; (case hd => rfl); (case hg => rfl); (case hr => first | (go_simp; done) | (go_simp; rfl)); (case hp => exact (Reps.c3 (show Kd.M k35 _ _ _ (⟨wrap64 (((rd_T100 t684 x66_2).f0) + 1), wrap64 (((rd_T100 t684 x66_2).f1) + 1), (rd_T100 t684 x66_2).f2⟩ : S35) [.int .i64 (wrap64 (((rd_T100 t684 x66_2).f0) + 1)), .int .i64 (wrap64 (((rd_T100 t684 x66_2).f1) + 1)), .int .i64 ((rd_T100 t684 x66_2).f2)] from (k35_mkM _ _ _ (⟨wrap64 (((rd_T100 t684 x66_2).f0) + 1), wrap64 (((rd_T100 t684 x66_2).f1) + 1), (rd_T100 t684 x66_2).f2⟩ : S35) )) (Reps.c3 (show Kd.M k35 _ _ _ (⟨wrap64 (((rd_T100 t684 x66_2).f1) + 1), wrap64 (((rd_T100 t684 x66_2).f0) + 1), (rd_T100 t684 x66_2).f2⟩ : S35) [.int .i64 (wrap64 (((rd_T100 t684 x66_2).f1) + 1)), .int .i64 (wrap64 (((rd_T100 t684 x66_2).f0) + 1)), .int .i64 ((rd_T100 t684 x66_2).f2)] from (k35_mkM _ _ _ (⟨wrap64 (((rd_T100 t684 x66_2).f1) + 1), wrap64 (((rd_T100 t684 x66_2).f0) + 1), (rd_T100 t684 x66_2).f2⟩ : S35) )) (Reps.none _ _)))); intro v690 w39 ho40 hb hg_ hnew_; clear hg_ hnew_; (first | rw [← Ny689.out] at ho40 | (simp only [Int.reduceToNat] at ho40; rw [← Ny689.out] at ho40)); have n0_ := Aside0.mk (Kd.R_below (by (with_reducible repeat (first | apply Kd.R_alloc | apply Kd.R_drewN | apply Kd.R_drew)); exact (Kd.R_mono (Kd.R_far (p := ⟨gb688, 2, none⟩) (Kd.R_far (p := ⟨gb688, 1, none⟩) (Kd.R_far (p := ⟨gb688, 0, none⟩) (Kd.R_mono HO_64.out (fun k_ hk => (⟨hk, hk.2⟩ : _ ∧ k_ ≠ gb688))) (fun _ hk => hk.2) (.int .i64 ((rd_T100 t684 x66_2).f0))) (fun _ hk => hk.2) (.int .i64 ((rd_T100 t684 x66_2).f1))) (fun _ hk => hk.2) (.int .i64 ((rd_T100 t684 x66_2).f2))) (fun _ h_ => h_.1))) hb); have n1_ := Aside0.mk (Kd.R_elder' (by (with_reducible repeat (first | apply Kd.R_alloc | apply Kd.R_drewN | apply Kd.R_drew)); exact (Kd.R_mono (Kd.R_far (p := ⟨gb688, 2, none⟩) (Kd.R_far (p := ⟨gb688, 1, none⟩) (Kd.R_far (p := ⟨gb688, 0, none⟩) (Kd.R_types HO_676001.out BK688.out (by decide)) (fun _ hk => hk.2) (.int .i64 ((rd_T100 t684 x66_2).f0))) (fun _ hk => hk.2) (.int .i64 ((rd_T100 t684 x66_2).f1))) (fun _ hk => hk.2) (.int .i64 ((rd_T100 t684 x66_2).f2))) (fun _ h_ => h_.1))) (Kd.R_base ho40) hb); have n2_ := Aside0.mk (Kd.R_lower (Kd.R_new' ho40 (Kd.R_lt (by (with_reducible repeat (first | apply Kd.R_alloc | apply Kd.R_drewN | apply Kd.R_drew)); exact (Kd.R_mono (Kd.R_far (p := ⟨gb688, 2, none⟩) (Kd.R_far (p := ⟨gb688, 1, none⟩) (Kd.R_far (p := ⟨gb688, 0, none⟩) (Kd.R_types HO_676001.out BK688.out (by decide)) (fun _ hk => hk.2) (.int .i64 ((rd_T100 t684 x66_2).f0))) (fun _ hk => hk.2) (.int .i64 ((rd_T100 t684 x66_2).f1))) (fun _ hk => hk.2) (.int .i64 ((rd_T100 t684 x66_2).f2))) (fun _ h_ => h_.1))))) (below_size (by repeat (first | (with_reducible first | exact HB.out | apply below_alloc | apply pw_below_drewN | apply below_drew1 | refine below_set ?_ GE674.out | refine below_set ?_ GE675.out | refine below_set ?_ GE688.out) | exact HB.out)))); have n3_ := Aside0.mk (blk_below (g := gb674) (o := .cells #[.int .i64 a0_0, .int .i64 a0_1, .slice A0_2 l0_2.length c0_2, .slice A0_3 l0_3.length c0_3, .slice A0_4 l0_4.length c0_4, .slice A0_5 l0_5.length c0_5] 63 (0, 0)) (by (with_reducible repeat (first | refine blk_drewN ?_ _ | refine blk_drew ?_ | refine blk_alloc ?_ _)); refine blk_far ?_ NB674_688.out _; (with_reducible repeat (first | refine blk_drewN ?_ _ | refine blk_drew ?_ | refine blk_alloc ?_ _)); refine blk_far ?_ NB674_688.out _; (with_reducible repeat (first | refine blk_drewN ?_ _ | refine blk_drew ?_ | refine blk_alloc ?_ _)); refine blk_far ?_ NB674_688.out _; (with_reducible repeat (first | refine blk_drewN ?_ _ | refine blk_drew ?_ | refine blk_alloc ?_ _)); exact BK674.out) hb); have n4_ := Aside0.mk (blk_below (g := gb675) (o := .cells #[.int .i64 (wrap64 ((wrap64 (a0_0 * a0_1)) + 2)), u676001] 30 (0, 0)) (by (with_reducible repeat (first | refine blk_drewN ?_ _ | refine blk_drew ?_ | refine blk_alloc ?_ _)); refine blk_far ?_ NB675_688.out _; (with_reducible repeat (first | refine blk_drewN ?_ _ | refine blk_drew ?_ | refine blk_alloc ?_ _)); refine blk_far ?_ NB675_688.out _; (with_reducible repeat (first | refine blk_drewN ?_ _ | refine blk_drew ?_ | refine blk_alloc ?_ _)); refine blk_far ?_ NB675_688.out _; (with_reducible repeat (first | refine blk_drewN ?_ _ | refine blk_drew ?_ | refine blk_alloc ?_ _)); exact BK675.out) hb); have n5_ := Aside0.mk (blk_below (g := gb688) (o := .cells #[.int .i64 ((rd_T100 t684 x66_2).f0), .int .i64 ((rd_T100 t684 x66_2).f1), .int .i64 ((rd_T100 t684 x66_2).f2)] 100 (0, 0)) (by (with_reducible repeat (first | refine blk_drewN ?_ _ | refine blk_drew ?_ | refine blk_alloc ?_ _)); refine blk_put (cs := #[.int .i64 ((rd_T100 t684 x66_2).f0), .int .i64 ((rd_T100 t684 x66_2).f1), .int .i64 0]) ?_ 2 _ rfl; (with_reducible repeat (first | refine blk_drewN ?_ _ | refine blk_drew ?_ | refine blk_alloc ?_ _)); refine blk_put (cs := #[.int .i64 ((rd_T100 t684 x66_2).f0), .int .i64 0, .int .i64 0]) ?_ 1 _ rfl; (with_reducible repeat (first | refine blk_drewN ?_ _ | refine blk_drew ?_ | refine blk_alloc ?_ _)); refine blk_put (cs := #[.int .i64 0, .int .i64 0, .int .i64 0]) ?_ 0 _ rfl; (with_reducible repeat (first | refine blk_drewN ?_ _ | refine blk_drew ?_ | refine blk_alloc ?_ _)); exact BK688.out) hb); have n6_ := Aside0.mk (below_step (by repeat (first | (with_reducible first | exact HB.out | apply below_alloc | apply pw_below_drewN | apply below_drew1 | refine below_set ?_ GE674.out | refine below_set ?_ GE675.out | refine below_set ?_ GE688.out) | exact HB.out)) hb); clear HO_64; clear HO_676001; clear BK674; clear BK675; clear BK688; clear HB; have HO_64 := n0_; have HO_676001 := n1_; have HO691 := n2_; have BK674 := n3_; have BK675 := n4_; have BK688 := n5_; have HB := n6_; clear n0_ n1_ n2_ n3_ n4_ n5_ n6_; clear hb ho40; obtain ⟨Ao42, co42, eo42⟩ := Kd.R_slice HO691.out; subst eo42) | ((with_reducible refine gate_builtin (b := .append) (xs := #[.tmp 71, .tmp 90]) rfl ?_); at_builtin; refine Kd.R_append_rows k35 (w0 := w) w.heap.size rfl (.tmp 71) (.tmp 90) 28 35 (.agg #[(.int .i64 0), (.int .i64 0), (.int .i64 0)]) 24 rfl Try.underlying28 info35 rfl (by decide) (by omega) u676001 x676001_2 y689 _ _ _ (fun k_ => some k_ ≠ (.slice Ao42 y689.length co42 : Value).ownBlock) (fun _ => False) rfl rfl ?aO ?aR (fun _ _ h => h) (fun _ h => h.elim) ?aF ?aB ?aS ?aL ?_; (case aR => repeat (first | exact (Kd.R_reads' HO691.out).2.2 | (with_reducible refine Kd.C_alloc ?_ _) | (with_reducible refine Kd.C_drewN ?_ _) | (with_reducible refine Kd.C_drew ?_))); (case aB => exact (by repeat (first | (with_reducible first | exact HB.out | apply below_alloc | apply pw_below_drewN | apply below_drew1 | refine below_set ?_ GE674.out | refine below_set ?_ GE675.out | refine below_set ?_ GE688.out) | exact HB.out))); (case aF => exact (fun k_ hk => Kd.fresh' (Kd.R_lt (by (with_reducible repeat (first | apply Kd.R_alloc | apply Kd.R_drewN | apply Kd.R_drew)); exact HO691.out)) k_ hk)); (case aO => exact (by (with_reducible repeat (first | apply Kd.R_alloc | apply Kd.R_drewN | apply Kd.R_drew)); exact Kd.R_mono HO_676001.out (fun _ hk => hk.2))); (case aS => exact (below_size (by repeat (first | (with_reducible first | exact HB.out | apply below_alloc | apply pw_below_drewN | apply below_drew1 | refine below_set ?_ GE674.out | refine below_set ?_ GE675.out | refine below_set ?_ GE688.out) | exact HB.out)))); (case aL => have := LMc32.out; omega); intro v693 w41 ho hb hg hat; rw [← Ny692.out] at ho; have n0_ := Aside0.mk (Kd.R_over' (by (with_reducible repeat (first | apply Kd.R_alloc | apply Kd.R_drewN | apply Kd.R_drew)); exact HO_64.out) (Kd.R_typed (by (with_reducible repeat (first | apply Kd.R_alloc | apply Kd.R_drewN | apply Kd.R_drew)); exact HO_676001.out)) (by decide) hg); have n1_ := Aside0.mk (blk_grown (g := gb674) (o := .cells #[.int .i64 a0_0, .int .i64 a0_1, .slice A0_2 l0_2.length c0_2, .slice A0_3 l0_3.length c0_3, .slice A0_4 l0_4.length c0_4, .slice A0_5 l0_5.length c0_5] 63 (0, 0)) (by (with_reducible repeat (first | refine blk_drewN ?_ _ | refine blk_drew ?_ | refine blk_alloc ?_ _)); exact BK674.out) hg (Kd.R_ne HO_676001.out BK674.out (by decide))); have n2_ := Aside0.mk (blk_grown (g := gb675) (o := .cells #[.int .i64 (wrap64 ((wrap64 (a0_0 * a0_1)) + 2)), u676001] 30 (0, 0)) (by (with_reducible repeat (first | refine blk_drewN ?_ _ | refine blk_drew ?_ | refine blk_alloc ?_ _)); exact BK675.out) hg (Kd.R_ne HO_676001.out BK675.out (by decide))); have n3_ := Aside0.mk (blk_grown (g := gb688) (o := .cells #[.int .i64 ((rd_T100 t684 x66_2).f0), .int .i64 ((rd_T100 t684 x66_2).f1), .int .i64 ((rd_T100 t684 x66_2).f2)] 100 (0, 0)) (by (with_reducible repeat (first | refine blk_drewN ?_ _ | refine blk_drew ?_ | refine blk_alloc ?_ _)); exact BK688.out) hg (Kd.R_ne HO_676001.out BK688.out (by decide))); have n4_ := Aside0.mk (Kd.R_after (ok := (fun _ => True)) (by (with_reducible repeat (first | apply Kd.R_alloc | apply Kd.R_drewN | apply Kd.R_drew)); exact HO691.out) hg hat); have n5_ := Aside0.mk (hb); have n6_ := Aside0.mk (ho); clear HO_64; clear BK674; clear BK675; clear BK688; clear HO691; clear HB; clear HO_676001; have HO_64 := n0_; have BK674 := n1_; have BK675 := n2_; have BK688 := n3_; have HO691 := n4_; have HB := n5_; have HO694 := n6_; clear n0_ n1_ n2_ n3_ n4_ n5_ n6_; clear ho hb hg hat; obtain ⟨Ao43, co43, eo43⟩ := Kd.R_slice HO694.out; subst eo43; have hcz44_0 : w41.cell? ⟨gb675, 0, none⟩ = some (.int .i64 (wrap64 ((wrap64 (a0_0 * a0_1)) + 2))) := (blk_cell BK675.out 0).trans rfl; have hcz44_1 : w41.cell? ⟨gb675, 1, none⟩ = some (u676001) := (blk_cell BK675.out 1).trans rfl; have hfz44_0 := blk_frozen BK675.out 0; have hfz44_1 := blk_frozen BK675.out 1))
                    go_roundg k2
                    case measure => have := HK1.out; have := HK2.out; omega
                    case rel => exact ⟨(wrap64 (x66_2 + 1)), (y692), (.slice Ao43 y692.length co43), (by first | rfl | (simp; done) | (simp [*]; done)), H', ⟨by have := HK1.out; have := HK2.out; omega⟩, ⟨by (with_reducible repeat (first | apply Kd.R_alloc | apply Kd.R_drewN | apply Kd.R_drew)); exact Kd.R_mono (Kd.R_far (p := ⟨gb675, 1, none⟩) (Kd.R_types HO_64.out BK675.out (by decide)) (fun _ hk => hk.2) (.slice Ao43 y692.length co43)) (fun _ hk => trivial)⟩, ⟨by (with_reducible repeat (first | apply Kd.R_alloc | apply Kd.R_drewN | apply Kd.R_drew)); exact Kd.R_mono (Kd.R_far (p := ⟨gb675, 1, none⟩) (Kd.R_types HO694.out BK675.out (by decide)) (fun _ hk => hk.2) (.slice Ao43 y692.length co43)) (fun _ hk => trivial)⟩, ⟨by (with_reducible repeat (first | refine blk_drewN ?_ _ | refine blk_drew ?_ | refine blk_alloc ?_ _)); refine blk_far ?_ NB674_675.out _; (with_reducible repeat (first | refine blk_drewN ?_ _ | refine blk_drew ?_ | refine blk_alloc ?_ _)); exact BK674.out⟩, ⟨by (with_reducible repeat (first | refine blk_drewN ?_ _ | refine blk_drew ?_ | refine blk_alloc ?_ _)); refine blk_put (cs := #[.int .i64 (wrap64 ((wrap64 (a0_0 * a0_1)) + 2)), u676001]) ?_ 1 _ rfl; (with_reducible repeat (first | refine blk_drewN ?_ _ | refine blk_drew ?_ | refine blk_alloc ?_ _)); exact BK675.out⟩, ⟨by repeat (first | (with_reducible first | exact HB.out | apply below_alloc | apply pw_below_drewN | apply below_drew1 | refine below_set ?_ GE674.out | refine below_set ?_ GE675.out | refine below_set ?_ GE688.out) | exact HB.out)⟩⟩
                  · rw [if_neg c32] at H
                    exact absurd H (by simp)
                · rw [if_neg c31] at H
                  exact absurd H (by simp)
              · rw [if_neg c30] at H
                exact absurd H (by simp)
            · rw [if_neg c29] at H
              have c29b0 : decide (x66_2 < (t684.length : Int)) = false := decide_eq_false c29
              clear c29
              obtain rfl := Option.some.inj H
              have hnb45 := NB675_674.out
              have hnc45 := NB674_675.out
              have hcz46_0 : wr.cell? ⟨gb675, 0, none⟩ = some (.int .i64 (wrap64 ((wrap64 (a0_0 * a0_1)) + 2))) := (blk_cell BK675.out 0).trans rfl
              have hcz46_1 : wr.cell? ⟨gb675, 1, none⟩ = some (u676001) := (blk_cell BK675.out 1).trans rfl
              have hfz46_0 := blk_frozen BK675.out 0
              have hfz46_1 := blk_frozen BK675.out 1
              obtain ⟨AA, cA, eA, hcA, hCA⟩ := Kd.R_reads HO_676001.out
              subst eA
              have hBox := BK675.out
              rw [ZN.out] at hcz46_0 hBox
              have HBox := Aside0.mk hBox
              have HCA := Aside0.mk hCA
              have HB9 : Aside0 (Below w.heap.size w wr) := ⟨HB.out⟩
              obtain ⟨h2, hN2⟩ := Z2.out
              clear hBox hCA
              go_wp2_with fail
              refine (filled_calls N AA cA _ wr HCA.out hcA h2 hN2 ZL.out.1 ZL.out.2 fuelW (by unfold fuelW; decide) sm l1 d1 n1 ZF.out.1).mono ?_
              rintro e w3 ⟨g, col3, vL, vO, v6, v7, rfl, hR3⟩
              have HR3 := Aside0.mk hR3
              have HBox3 := Aside0.mk (blk_below HBox.out hR3.bel)
              have HB3 := Aside0.mk (below_then HB9.out HB9.out.size hR3.bel)
              have k0 := (blk_cell HBox3.out 0).trans rfl
              have HWZ : Aside0 (WZ ((restP false N _ 0 ((N : Int) - 1)).dat_ l1 d1 n1)) := ⟨(restP_WZ false N _ 0 _ hN2 ZL.out.1 ZL.out.2 (by omega) (by omega)).dat l1 d1 n1 (by
                rw [ZF.out.2]
                show _ = (leftF false _ []).length
                rw [leftF_len]
                simp)⟩
              have HWZ2 : Aside0 (WZ ((restP false N _ 0 ((N : Int) - 1)).dat_ l1 D n1)) := ⟨(restP_WZ false N _ 0 _ hN2 ZL.out.1 ZL.out.2 (by omega) (by omega)).dat l1 D n1 (by
                rw [ZF.out.2]
                show _ = (leftF false _ []).length
                rw [leftF_len]
                simp)⟩
              clear hR3 hcz46_0 hcz46_1
              go_wp2
              have hN3 : 3 ≤ N := Z3.out
              have m1 : wrap64 ((N : Int) - 1) = ((N - 1 : Nat) : Int) := by rw [wrap_id (by omega) (by omega)]; omega
              have HBoxC := Aside0.mk (blk_drew HBox3.out)
              refine start_ (n := 14) (S := fun w' => (w'.cell? ⟨gb675, 0, none⟩ = some (.int .i64 N))) (ds := [12, 13]) #[false, false, false, false, false, false, false, false, false, false, false, false, false, false] (by kernel_rfl) rfl rfl k0 (fun hHeld => ?_)
              refine with_tabW tb_labels_15.tab tb_labels_15.bits (fun HT_ HW_ => ?_)
              refine pure_ (i := 0) (N := some 99) (v := ?_) (a' := ?_) #[true, false, false, false, false, false, false, false, false, false, false, false, false, false] rfl rfl (any_of HT_.out (by kernel_rfl)) (fun _ _ _ h => h) (Or.inl ⟨by rfl, ?_⟩) ?_ ?_
              rotate_left
              · intro w'
                go_simp
                with_reducible rfl
              rotate_left
              · simp only [Act.put, List.setIfInBounds_toArray, List.set_cons_zero, List.set_cons_succ, i64_w, i32_w]
                rfl
              refine pure_ (i := 2) (N := some 101) (v := ?_) (a' := ?_) #[true, false, true, false, false, false, false, false, false, false, false, false, false, false] rfl rfl (any_of HT_.out (by kernel_rfl)) (fun _ _ _ h => h) (Or.inl ⟨by rfl, ?_⟩) ?_ ?_
              rotate_left
              · intro w'
                go_simp
                with_reducible rfl
              rotate_left
              · simp only [Act.put, List.setIfInBounds_toArray, List.set_cons_zero, List.set_cons_succ, i64_w, i32_w]
                rfl
              refine take_ (i := 3) (N := some 102) (v := ?_) (a' := ?_) #[true, false, true, true, false, false, false, false, false, false, false, false, false, false] rfl rfl (take_ofW HT_.out HW_.out (by kernel_rfl)) (fun _ _ _ h => h) (Or.inl ⟨by rfl, ?_⟩) hHeld ?_ ?_
              rotate_left
              · rintro w' s0
                go_simp
                with_reducible rfl
              rotate_left
              · simp only [Act.put, List.setIfInBounds_toArray, List.set_cons_zero, List.set_cons_succ, i64_w, i32_w]
                rfl
              refine pure_ (i := 4) (N := some 103) (v := ?_) (a' := ?_) #[true, false, true, true, true, false, false, false, false, false, false, false, false, false] rfl rfl (any_of HT_.out (by kernel_rfl)) (fun _ _ _ h => h) (Or.inl ⟨by rfl, ?_⟩) ?_ ?_
              rotate_left
              · intro w'
                go_simp
                with_reducible rfl
              rotate_left
              · simp only [Act.put, List.setIfInBounds_toArray, List.set_cons_zero, List.set_cons_succ, i64_w, i32_w]
                rfl
              refine pure_ (i := 6) (N := some 105) (v := ?_) (a' := ?_) #[true, false, true, true, true, false, true, false, false, false, false, false, false, false] rfl rfl (any_of HT_.out (by kernel_rfl)) (fun _ _ _ h => h) (Or.inl ⟨by rfl, ?_⟩) ?_ ?_
              rotate_left
              · intro w'
                go_simp
                with_reducible rfl
              rotate_left
              · simp only [Act.put, List.setIfInBounds_toArray, List.set_cons_zero, List.set_cons_succ, i64_w, i32_w]
                rfl
              refine pure_ (i := 8) (N := some 107) (v := ?_) (a' := ?_) #[true, false, true, true, true, false, true, false, true, false, false, false, false, false] rfl rfl (any_of HT_.out (by kernel_rfl)) (fun _ _ _ h => h) (Or.inl ⟨by rfl, ?_⟩) ?_ ?_
              rotate_left
              · intro w'
                go_simp
                with_reducible rfl
              rotate_left
              · simp only [Act.put, List.setIfInBounds_toArray, List.set_cons_zero, List.set_cons_succ, i64_w, i32_w]
                rfl
              refine two_ (i := 1) (j := 9) (Ni := some 100) (Nj := some 108) #[true, true, true, true, true, false, true, false, true, false, false, false, false, false] #[true, false, true, true, true, false, true, false, true, true, false, false, false, false] rfl rfl rfl rfl (two_of HT_.out (by kernel_rfl)) (by decide) (by decide) (fun K hK => ?_) (fun K hK => ?_)
              · refine goes_ Try.func57 (by kernel_rfl) rfl #[.pointer (some ⟨g, 0, none⟩)] (by rfl) rfl rfl (by simp only [List.map_toArray, List.map_cons, List.map_nil]; rfl) ?_
                refine (least_calls (HR3.out.below (below_drew (Below.refl _ _))) HWZ.out fuelW (by unfold fuelW; decide) D ZD.out.1).mono ?_
                rintro e w4 ⟨v4, col4, v64, rfl, hR4, hRs4⟩
                obtain ⟨g4, c4, rfl⟩ := form_B (n := N) hR4 (by unfold leastL; rw [List.length_map]; exact ZD.out.2) (by omega)
                refine ⟨_, rfl, ?_⟩
                have HL4 := (Kd.R_reads' hR4).2.1
                have s1 : (N ≤ c4 + 1) = True := eq_true (by clear m1; omega)
                have s2 : (1 ≤ ((N - 1 : Nat) : Int)) = True := eq_true (by clear m1; omega)
                have s3 : (c4 = 1) = False := eq_false (by clear m1; omega)
                have s4 : N - 1 - 1 = N - 2 := by clear m1; omega
                have HBox4 := Aside0.mk (blk_below HBox.out hRs4.bel)
                have HR4 := Aside0.mk hR4
                have HRs4 := Aside0.mk hRs4
                have HB4 := Aside0.mk (below_then HB9.out HB9.out.size hRs4.bel)
                have HS4 : Aside0 (wr.heap.size ≤ w4.heap.size) := ⟨hRs4.bel.size⟩
                clear hR4 hRs4
                have k4 := (blk_cell HBox4.out 0).trans rfl
                have HBoxC := HBox4
                refine hK.out _ _ ((blk_cell HBox4.out 0).trans rfl) (fun hHeld => ?_)
                clear hK K
                refine norm_ (a' := ?_) ?_ ?_
                rotate_left
                · show Act.put _ (some 100) _ = _
                  (try simp only [Act.put, List.setIfInBounds_toArray, List.set_cons_zero, List.set_cons_succ, i64_w, i32_w])
                  rfl
                refine pure_ (i := 5) (N := some 104) (v := ?_) (a' := ?_) #[true, true, true, true, true, true, true, false, true, false, false, false, false, false] rfl rfl (any_of HT_.out (by kernel_rfl)) (fun _ _ _ h => h) (Or.inl ⟨by rfl, ?_⟩) ?_ ?_
                rotate_left
                · intro w'
                  go_simp
                  with_reducible rfl
                rotate_left
                · simp only [Act.put, List.setIfInBounds_toArray, List.set_cons_zero, List.set_cons_succ, i64_w, i32_w]
                  rfl
                refine two_ (i := 7) (j := 9) (Ni := some 106) (Nj := some 108) #[true, true, true, true, true, true, true, true, true, false, false, false, false, false] #[true, true, true, true, true, true, true, false, true, true, false, false, false, false] rfl rfl rfl rfl (two_of HT_.out (by kernel_rfl)) (by decide) (by decide) (fun K hK => ?_) (fun K hK => ?_)
                · refine goes_ Try.func62 (by kernel_rfl) rfl #[.pointer (some ⟨g, 0, none⟩)] (by rfl) rfl rfl (by simp only [List.map_toArray, List.map_cons, List.map_nil]; rfl) ?_
                  refine (greatest_calls HRs4.out HWZ2.out fuelW (by unfold fuelW; decide) G ZG.out.1).mono ?_
                  rintro e w5 ⟨v5, rfl, hR5, hb5⟩
                  obtain ⟨g5, c5, rfl⟩ := form_B (n := N) hR5 ZG.out.2 (by omega)
                  refine ⟨_, rfl, ?_⟩
                  have HL5 := (Kd.R_reads' hR5).2.1
                  have s5 : (N ≤ c5 + 1) = True := eq_true (by clear m1; omega)
                  have s6 : (c5 = 1) = False := eq_false (by clear m1; omega)
                  have HBox5 := Aside0.mk (blk_below HBox4.out hb5)
                  have HR5 := Aside0.mk hR5
                  have HV4 := Aside0.mk (((KV.mid HR4.out (by omega)).lower HB9.out.size).below hb5)
                  have HB5 := Aside0.mk (below_then HB4.out HB4.out.size hb5)
                  clear hR5 hb5
                  have k5 := (blk_cell HBox5.out 0).trans rfl
                  have HBoxC := HBox5
                  refine hK.out _ _ ((blk_cell HBox5.out 0).trans rfl) (fun hHeld => ?_)
                  clear hK K
                  refine norm_ (a' := ?_) ?_ ?_
                  rotate_left
                  · show Act.put _ (some 106) _ = _
                    (try simp only [Act.put, List.setIfInBounds_toArray, List.set_cons_zero, List.set_cons_succ, i64_w, i32_w])
                    rfl
                  refine pure_ (i := 12) (N := some 4) (v := ?_) (a' := ?_) #[true, true, true, true, true, true, true, true, true, false, false, false, true, false] rfl rfl (any_of HT_.out (by kernel_rfl)) (fun _ _ _ h => h) (Or.inl ⟨by rfl, ?_⟩) ?_ ?_
                  rotate_left
                  · intro w'
                    go_simp
                    with_reducible rfl
                  rotate_left
                  · simp only [Act.put, List.setIfInBounds_toArray, List.set_cons_zero, List.set_cons_succ, i64_w, i32_w]
                    rfl
                  refine one_ (i := 9) (N := some 108) #[true, true, true, true, true, true, true, true, true, true, false, false, true, false] rfl rfl (one_of HT_.out (by kernel_rfl)) (by decide) (fun K hK => ?_)
                  refine value_ (w1 := ?_) (v := ?_) (by rfl) rfl ?_ ?_
                  rotate_left 2
                  · go_simp
                    constructor
                    · rfl
                    · rfl
                  refine hK.out _ _ ((blk_cell HBoxC.out 0).trans rfl) (fun hHeld => ?_)
                  clear hK K
                  refine norm_ (a' := ?_) ?_ ?_
                  rotate_left
                  · show Act.put _ (some 108) _ = _
                    (try simp only [Act.put, List.setIfInBounds_toArray, List.set_cons_zero, List.set_cons_succ, i64_w, i32_w])
                    rfl
                  refine pure_ (i := 10) (N := some 109) (v := ?_) (a' := ?_) #[true, true, true, true, true, true, true, true, true, true, true, false, true, false] rfl rfl (any_of HT_.out (by kernel_rfl)) (fun _ _ _ h => h) (Or.inl ⟨by rfl, ?_⟩) ?_ ?_
                  rotate_left
                  · intro w'
                    go_simp
                    with_reducible rfl
                  rotate_left
                  · simp only [Act.put, List.setIfInBounds_toArray, List.set_cons_zero, List.set_cons_succ, i64_w, i32_w]
                    rfl
                  refine pure_ (i := 11) (N := some 110) (v := ?_) (a' := ?_) #[true, true, true, true, true, true, true, true, true, true, true, true, true, false] rfl rfl (any_of HT_.out (by kernel_rfl)) (fun _ _ _ h => h) (Or.inl ⟨by rfl, ?_⟩) ?_ ?_
                  rotate_left
                  · intro w'
                    go_simp
                    with_reducible rfl
                  rotate_left
                  · simp only [Act.put, List.setIfInBounds_toArray, List.set_cons_zero, List.set_cons_succ, i64_w, i32_w]
                    rfl
                  refine pure_ (i := 13) (N := some 5) (v := ?_) (a' := ?_) #[true, true, true, true, true, true, true, true, true, true, true, true, true, true] rfl rfl (any_of HT_.out (by kernel_rfl)) (fun _ _ _ h => h) (Or.inl ⟨by rfl, ?_⟩) ?_ ?_
                  rotate_left
                  · intro w'
                    go_simp
                    with_reducible rfl
                  rotate_left
                  · simp only [Act.put, List.setIfInBounds_toArray, List.set_cons_zero, List.set_cons_succ, i64_w, i32_w]
                    rfl
                  refine done_ (done_of HT_.out (by kernel_rfl)) ?_
                  clear s1 s2 s3 s4 s5 s6 m1 k0 k4 k5
                  go_wp2
                  go_ret2
                  exact ⟨_, _, rfl, HV4.out, (KV.mid HR5.out (by omega)).lower (Nat.le_trans HB9.out.size HS4.out), HB5.out⟩
                · refine value_ (w1 := ?_) (v := ?_) (by rfl) rfl ?_ ?_
                  rotate_left 2
                  · go_simp
                    constructor
                    · rfl
                    · rfl
                  refine hK.out _ _ ((blk_cell HBoxC.out 0).trans rfl) (fun hHeld => ?_)
                  clear hK K
                  refine norm_ (a' := ?_) ?_ ?_
                  rotate_left
                  · show Act.put _ (some 108) _ = _
                    (try simp only [Act.put, List.setIfInBounds_toArray, List.set_cons_zero, List.set_cons_succ, i64_w, i32_w])
                    rfl
                  refine pure_ (i := 10) (N := some 109) (v := ?_) (a' := ?_) #[true, true, true, true, true, true, true, false, true, true, true, false, false, false] rfl rfl (any_of HT_.out (by kernel_rfl)) (fun _ _ _ h => h) (Or.inl ⟨by rfl, ?_⟩) ?_ ?_
                  rotate_left
                  · intro w'
                    go_simp
                    with_reducible rfl
                  rotate_left
                  · simp only [Act.put, List.setIfInBounds_toArray, List.set_cons_zero, List.set_cons_succ, i64_w, i32_w]
                    rfl
                  refine one_ (i := 7) (N := some 106) #[true, true, true, true, true, true, true, true, true, true, true, false, false, false] rfl rfl (one_of HT_.out (by kernel_rfl)) (by decide) (fun K hK => ?_)
                  refine goes_ Try.func62 (by kernel_rfl) rfl #[.pointer (some ⟨g, 0, none⟩)] (by rfl) rfl rfl (by simp only [List.map_toArray, List.map_cons, List.map_nil]; rfl) ?_
                  refine (greatest_calls HRs4.out HWZ2.out fuelW (by unfold fuelW; decide) G ZG.out.1).mono ?_
                  rintro e w5 ⟨v5, rfl, hR5, hb5⟩
                  obtain ⟨g5, c5, rfl⟩ := form_B (n := N) hR5 ZG.out.2 (by omega)
                  refine ⟨_, rfl, ?_⟩
                  have HL5 := (Kd.R_reads' hR5).2.1
                  have s5 : (N ≤ c5 + 1) = True := eq_true (by clear m1; omega)
                  have s6 : (c5 = 1) = False := eq_false (by clear m1; omega)
                  have HBox5 := Aside0.mk (blk_below HBox4.out hb5)
                  have HR5 := Aside0.mk hR5
                  have HV4 := Aside0.mk (((KV.mid HR4.out (by omega)).lower HB9.out.size).below hb5)
                  have HB5 := Aside0.mk (below_then HB4.out HB4.out.size hb5)
                  clear hR5 hb5
                  have k5 := (blk_cell HBox5.out 0).trans rfl
                  have HBoxC := HBox5
                  refine hK.out _ _ ((blk_cell HBox5.out 0).trans rfl) (fun hHeld => ?_)
                  clear hK K
                  refine norm_ (a' := ?_) ?_ ?_
                  rotate_left
                  · show Act.put _ (some 106) _ = _
                    (try simp only [Act.put, List.setIfInBounds_toArray, List.set_cons_zero, List.set_cons_succ, i64_w, i32_w])
                    rfl
                  refine pure_ (i := 11) (N := some 110) (v := ?_) (a' := ?_) #[true, true, true, true, true, true, true, true, true, true, true, true, false, false] rfl rfl (any_of HT_.out (by kernel_rfl)) (fun _ _ _ h => h) (Or.inl ⟨by rfl, ?_⟩) ?_ ?_
                  rotate_left
                  · intro w'
                    go_simp
                    with_reducible rfl
                  rotate_left
                  · simp only [Act.put, List.setIfInBounds_toArray, List.set_cons_zero, List.set_cons_succ, i64_w, i32_w]
                    rfl
                  refine pure_ (i := 12) (N := some 4) (v := ?_) (a' := ?_) #[true, true, true, true, true, true, true, true, true, true, true, true, true, false] rfl rfl (any_of HT_.out (by kernel_rfl)) (fun _ _ _ h => h) (Or.inl ⟨by rfl, ?_⟩) ?_ ?_
                  rotate_left
                  · intro w'
                    go_simp
                    with_reducible rfl
                  rotate_left
                  · simp only [Act.put, List.setIfInBounds_toArray, List.set_cons_zero, List.set_cons_succ, i64_w, i32_w]
                    rfl
                  refine pure_ (i := 13) (N := some 5) (v := ?_) (a' := ?_) #[true, true, true, true, true, true, true, true, true, true, true, true, true, true] rfl rfl (any_of HT_.out (by kernel_rfl)) (fun _ _ _ h => h) (Or.inl ⟨by rfl, ?_⟩) ?_ ?_
                  rotate_left
                  · intro w'
                    go_simp
                    with_reducible rfl
                  rotate_left
                  · simp only [Act.put, List.setIfInBounds_toArray, List.set_cons_zero, List.set_cons_succ, i64_w, i32_w]
                    rfl
                  refine done_ (done_of HT_.out (by kernel_rfl)) ?_
                  clear s1 s2 s3 s4 s5 s6 m1 k0 k4 k5
                  go_wp2
                  go_ret2
                  exact ⟨_, _, rfl, HV4.out, (KV.mid HR5.out (by omega)).lower (Nat.le_trans HB9.out.size HS4.out), HB5.out⟩
              · refine value_ (w1 := ?_) (v := ?_) (by rfl) rfl ?_ ?_
                rotate_left 2
                · go_simp
                  constructor
                  · rfl
                  · rfl
                refine hK.out _ _ ((blk_cell HBoxC.out 0).trans rfl) (fun hHeld => ?_)
                clear hK K
                refine norm_ (a' := ?_) ?_ ?_
                rotate_left
                · show Act.put _ (some 108) _ = _
                  (try simp only [Act.put, List.setIfInBounds_toArray, List.set_cons_zero, List.set_cons_succ, i64_w, i32_w])
                  rfl
                refine pure_ (i := 10) (N := some 109) (v := ?_) (a' := ?_) #[true, false, true, true, true, false, true, false, true, true, true, false, false, false] rfl rfl (any_of HT_.out (by kernel_rfl)) (fun _ _ _ h => h) (Or.inl ⟨by rfl, ?_⟩) ?_ ?_
                rotate_left
                · intro w'
                  go_simp
                  with_reducible rfl
                rotate_left
                · simp only [Act.put, List.setIfInBounds_toArray, List.set_cons_zero, List.set_cons_succ, i64_w, i32_w]
                  rfl
                refine one_ (i := 1) (N := some 100) #[true, true, true, true, true, false, true, false, true, true, true, false, false, false] rfl rfl (one_of HT_.out (by kernel_rfl)) (by decide) (fun K hK => ?_)
                refine goes_ Try.func57 (by kernel_rfl) rfl #[.pointer (some ⟨g, 0, none⟩)] (by rfl) rfl rfl (by simp only [List.map_toArray, List.map_cons, List.map_nil]; rfl) ?_
                refine (least_calls (HR3.out.below (below_drew (Below.refl _ _))) HWZ.out fuelW (by unfold fuelW; decide) D ZD.out.1).mono ?_
                rintro e w4 ⟨v4, col4, v64, rfl, hR4, hRs4⟩
                obtain ⟨g4, c4, rfl⟩ := form_B (n := N) hR4 (by unfold leastL; rw [List.length_map]; exact ZD.out.2) (by omega)
                refine ⟨_, rfl, ?_⟩
                have HL4 := (Kd.R_reads' hR4).2.1
                have s1 : (N ≤ c4 + 1) = True := eq_true (by clear m1; omega)
                have s2 : (1 ≤ ((N - 1 : Nat) : Int)) = True := eq_true (by clear m1; omega)
                have s3 : (c4 = 1) = False := eq_false (by clear m1; omega)
                have s4 : N - 1 - 1 = N - 2 := by clear m1; omega
                have HBox4 := Aside0.mk (blk_below HBox.out hRs4.bel)
                have HR4 := Aside0.mk hR4
                have HRs4 := Aside0.mk hRs4
                have HB4 := Aside0.mk (below_then HB9.out HB9.out.size hRs4.bel)
                have HS4 : Aside0 (wr.heap.size ≤ w4.heap.size) := ⟨hRs4.bel.size⟩
                clear hR4 hRs4
                have k4 := (blk_cell HBox4.out 0).trans rfl
                have HBoxC := HBox4
                refine hK.out _ _ ((blk_cell HBox4.out 0).trans rfl) (fun hHeld => ?_)
                clear hK K
                refine norm_ (a' := ?_) ?_ ?_
                rotate_left
                · show Act.put _ (some 100) _ = _
                  (try simp only [Act.put, List.setIfInBounds_toArray, List.set_cons_zero, List.set_cons_succ, i64_w, i32_w])
                  rfl
                refine pure_ (i := 5) (N := some 104) (v := ?_) (a' := ?_) #[true, true, true, true, true, true, true, false, true, true, true, false, false, false] rfl rfl (any_of HT_.out (by kernel_rfl)) (fun _ _ _ h => h) (Or.inl ⟨by rfl, ?_⟩) ?_ ?_
                rotate_left
                · intro w'
                  go_simp
                  with_reducible rfl
                rotate_left
                · simp only [Act.put, List.setIfInBounds_toArray, List.set_cons_zero, List.set_cons_succ, i64_w, i32_w]
                  rfl
                refine one_ (i := 7) (N := some 106) #[true, true, true, true, true, true, true, true, true, true, true, false, false, false] rfl rfl (one_of HT_.out (by kernel_rfl)) (by decide) (fun K hK => ?_)
                refine goes_ Try.func62 (by kernel_rfl) rfl #[.pointer (some ⟨g, 0, none⟩)] (by rfl) rfl rfl (by simp only [List.map_toArray, List.map_cons, List.map_nil]; rfl) ?_
                refine (greatest_calls HRs4.out HWZ2.out fuelW (by unfold fuelW; decide) G ZG.out.1).mono ?_
                rintro e w5 ⟨v5, rfl, hR5, hb5⟩
                obtain ⟨g5, c5, rfl⟩ := form_B (n := N) hR5 ZG.out.2 (by omega)
                refine ⟨_, rfl, ?_⟩
                have HL5 := (Kd.R_reads' hR5).2.1
                have s5 : (N ≤ c5 + 1) = True := eq_true (by clear m1; omega)
                have s6 : (c5 = 1) = False := eq_false (by clear m1; omega)
                have HBox5 := Aside0.mk (blk_below HBox4.out hb5)
                have HR5 := Aside0.mk hR5
                have HV4 := Aside0.mk (((KV.mid HR4.out (by omega)).lower HB9.out.size).below hb5)
                have HB5 := Aside0.mk (below_then HB4.out HB4.out.size hb5)
                clear hR5 hb5
                have k5 := (blk_cell HBox5.out 0).trans rfl
                have HBoxC := HBox5
                refine hK.out _ _ ((blk_cell HBox5.out 0).trans rfl) (fun hHeld => ?_)
                clear hK K
                refine norm_ (a' := ?_) ?_ ?_
                rotate_left
                · show Act.put _ (some 106) _ = _
                  (try simp only [Act.put, List.setIfInBounds_toArray, List.set_cons_zero, List.set_cons_succ, i64_w, i32_w])
                  rfl
                refine pure_ (i := 11) (N := some 110) (v := ?_) (a' := ?_) #[true, true, true, true, true, true, true, true, true, true, true, true, false, false] rfl rfl (any_of HT_.out (by kernel_rfl)) (fun _ _ _ h => h) (Or.inl ⟨by rfl, ?_⟩) ?_ ?_
                rotate_left
                · intro w'
                  go_simp
                  with_reducible rfl
                rotate_left
                · simp only [Act.put, List.setIfInBounds_toArray, List.set_cons_zero, List.set_cons_succ, i64_w, i32_w]
                  rfl
                refine pure_ (i := 12) (N := some 4) (v := ?_) (a' := ?_) #[true, true, true, true, true, true, true, true, true, true, true, true, true, false] rfl rfl (any_of HT_.out (by kernel_rfl)) (fun _ _ _ h => h) (Or.inl ⟨by rfl, ?_⟩) ?_ ?_
                rotate_left
                · intro w'
                  go_simp
                  with_reducible rfl
                rotate_left
                · simp only [Act.put, List.setIfInBounds_toArray, List.set_cons_zero, List.set_cons_succ, i64_w, i32_w]
                  rfl
                refine pure_ (i := 13) (N := some 5) (v := ?_) (a' := ?_) #[true, true, true, true, true, true, true, true, true, true, true, true, true, true] rfl rfl (any_of HT_.out (by kernel_rfl)) (fun _ _ _ h => h) (Or.inl ⟨by rfl, ?_⟩) ?_ ?_
                rotate_left
                · intro w'
                  go_simp
                  with_reducible rfl
                rotate_left
                · simp only [Act.put, List.setIfInBounds_toArray, List.set_cons_zero, List.set_cons_succ, i64_w, i32_w]
                  rfl
                refine done_ (done_of HT_.out (by kernel_rfl)) ?_
                clear s1 s2 s3 s4 s5 s6 m1 k0 k4 k5
                go_wp2
                go_ret2
                exact ⟨_, _, rfl, HV4.out, (KV.mid HR5.out (by omega)).lower (Nat.le_trans HB9.out.size HS4.out), HB5.out⟩
def netM (N : Nat) (r : List S35) : Option (List Bool × List Bool) :=
  if 3 ≤ N ∧ N ≤ 1000 ∧ r.length ≤ 1000 ∧ (∀ a ∈ r, 0 ≤ a.f0 ∧ a.f0 < (N : Int) ∧ 0 ≤ a.f1 ∧ a.f1 < (N : Int)) then
    (fillZ fuelW (restP false N r 0 ((N : Int) - 1))).bind fun x =>
      (levelP fuelW ((restP false N r 0 ((N : Int) - 1)).dat_ x.2.1 x.2.2.1 x.2.2.2)).bind fun D =>
        (greatP fuelW ((restP false N r 0 ((N : Int) - 1)).dat_ x.2.1 D x.2.2.2)).bind fun G =>
          if x.2.1.length = 2 * r.length ∧ D.length = N ∧ G.length = N then some (midL (leastL D) N, midL G N) else none
  else none
def wax_Cloth_labels.f (a0_0 : Int) (a0_1 : Int) (l0_2 : List Int) (l0_3 : List Int) (l0_4 : List Int) (l0_5 : List Int) (a1 : Int) : Option (List Bool × List Bool) :=
  (wax_Cloth_arcs.f 10000 a0_0 a0_1 l0_2 l0_3 l0_4 l0_5 a1).bind fun r => netM (wrap64 (wrap64 (a0_0 * a0_1) + 2)).toNat r
theorem wax_Cloth_labels.calls (a0_0 : Int) (a0_1 : Int) (A0_2 : Option Addr) (c0_2 : Nat) (l0_2 : List Int) (A0_3 : Option Addr) (c0_3 : Nat) (l0_3 : List Int) (A0_4 : Option Addr) (c0_4 : Nat) (l0_4 : List Int) (A0_5 : Option Addr) (c0_5 : Nat) (l0_5 : List Int) (a1 : Int) (r1 r2 : List Bool) (w : World) (hr0_2 : Kd.C (Kd.int .i64) w A0_2 l0_2.length l0_2) (hc0_2 : l0_2.length ≤ c0_2) (hr0_3 : Kd.C (Kd.int .i64) w A0_3 l0_3.length l0_3) (hc0_3 : l0_3.length ≤ c0_3) (hr0_4 : Kd.C (Kd.int .i64) w A0_4 l0_4.length l0_4) (hc0_4 : l0_4.length ≤ c0_4) (hr0_5 : Kd.C (Kd.int .i64) w A0_5 l0_5.length l0_5) (hc0_5 : l0_5.length ≤ c0_5) (h : wax_Cloth_labels.f a0_0 a0_1 l0_2 l0_3 l0_4 l0_5 a1 = some (r1, r2)) :
    Calls Try.prog 64 #[.agg #[.int .i64 a0_0, .int .i64 a0_1, .slice A0_2 l0_2.length c0_2, .slice A0_3 l0_3.length c0_3, .slice A0_4 l0_4.length c0_4, .slice A0_5 l0_5.length c0_5], .int .i64 a1] w fun e w' => ∃ v0_ v1_ : Value, e = .returned (.tuple #[v0_, v1_]) ∧ Kv.R w' w.heap.size (fun k_ => some k_ ≠ (v1_ : Value).ownBlock) v0_ r1 ∧ Kv.R w' w.heap.size (fun k_ => some k_ ≠ (v0_ : Value).ownBlock) v1_ r2 ∧ Below w.heap.size w w' := by
  unfold wax_Cloth_labels.f at h
  obtain ⟨r, hr, h⟩ := Option.bind_eq_some_iff.mp h
  unfold netM at h
  split at h
  · rename_i hN
    obtain ⟨h3, hN2, hl, hg⟩ := hN
    obtain ⟨⟨sm, l1, d1, n1⟩, hF, h⟩ := Option.bind_eq_some_iff.mp h
    obtain ⟨D, hD, h⟩ := Option.bind_eq_some_iff.mp h
    obtain ⟨G, hG, h⟩ := Option.bind_eq_some_iff.mp h
    split at h
    · rename_i hL
      obtain ⟨hl1, hDl, hGl⟩ := hL
      injection h with h
      injection h with e1 e2
      subst e1 e2
      exact wax_Cloth_arcs.calls 10000 a0_0 a0_1 A0_2 c0_2 l0_2 A0_3 c0_3 l0_3 A0_4 c0_4 l0_4 A0_5 c0_5 l0_5 a1 r w hr0_2 hc0_2 hr0_3 hc0_3 hr0_4 hc0_4 hr0_5 hc0_5 hr _ (by omega) h3 hN2 hl hg sm l1 d1 n1 D G hF hl1 hDl hGl hD hG
    · simp at h
  · simp at h
end Go.Proofs.Ytbamanjedfccpaa.X
end

section
set_option linter.unusedVariables false
set_option linter.unusedSimpArgs false
namespace Go.Proofs.Ytbamanjedfccpaa.X
open Go.RowKit Go.Proofs.YtbamanjedfccpaaW.PrintWords Go.Proofs.YtbamanjedfccpaaW.PrintLast Go.Proofs.YtbamanjedfccpaaW.PrintMore
attribute [local go_sem] max2_int min2_int max_two min_two max_three min_three max_four min_four   -- for this text's walks alone
set_option linter.unusedVariables false
set_option linter.unusedSimpArgs false
end Go.Proofs.Ytbamanjedfccpaa.X
end
