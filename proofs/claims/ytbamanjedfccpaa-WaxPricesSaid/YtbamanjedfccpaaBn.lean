/- Lemmas of the proof: part Bn. -/
import Derived.Test.YtbamanjedfccpaaBh
import Derived.Test.YtbamanjedfccpaaBe
section
set_option linter.unusedVariables false
set_option linter.unusedSimpArgs false
namespace Go.Proofs.Ytbamanjedfccpaa.HTab
open Go.RowKit Go.Proofs.YtbamanjedfccpaaW.PrintWords Go.Proofs.YtbamanjedfccpaaW.PrintLast Go.Proofs.YtbamanjedfccpaaW.PrintMore Go.Proofs.Ytbamanjedfccpaa.X
set_option linter.unusedVariables false
set_option linter.unusedSimpArgs false
def flowL (L : List Int) (m : Nat) : List Int := (List.range m).map fun (i : Nat) => rd L (2 * (i : Int) + 1)
end Go.Proofs.Ytbamanjedfccpaa.HTab
namespace Go.Proofs.Ytbamanjedfccpaa.X
open Go.RowKit Go.Proofs.YtbamanjedfccpaaW.PrintWords Go.Proofs.YtbamanjedfccpaaW.PrintLast Go.Proofs.YtbamanjedfccpaaW.PrintMore Go.Proofs.Ytbamanjedfccpaa.HTab
def wax_Flow.f (n : Int) (l : List S35) : Option (List Int × Int) := if vdB n l = true then (fillZ fuelW (restP false n.toNat l 0 (n - 1))).map fun r => (flowL r.2.1 l.length, 0) else some ([], 2)
end Go.Proofs.Ytbamanjedfccpaa.X
end

section
set_option linter.unusedVariables false
set_option linter.unusedSimpArgs false
namespace Go.Proofs.Ytbamanjedfccpaa.HTab
open Go.RowKit Go.Proofs.YtbamanjedfccpaaW.PrintWords Go.Proofs.YtbamanjedfccpaaW.PrintLast Go.Proofs.YtbamanjedfccpaaW.PrintMore Go.Proofs.Ytbamanjedfccpaa.X
set_option linter.unusedVariables false
set_option linter.unusedSimpArgs false
abbrev KB : Kd Bool := Kd.bool
theorem R_atB {w : World} {e base g m cap : Nat} {ok : Nat → Prop} {xs : List Bool} (h : KB.R e w base ok (.slice (some ⟨g, 0, none⟩) m cap) xs) (i : Int) (h0 : 0 ≤ i) (h1 : i < m) : w.cell? ⟨g, i.toNat, none⟩ = some (.bool (rdOf false xs i)) ∧ w.frozen? ⟨g, i.toNat, none⟩ = false := by
  have hm := (Kd.R_reads' h).1
  subst hm
  exact Kd.R_cell false (h1 := fun _ => rfl) h i h0 (by omega)
theorem R_putB {w : World} {e base g m cap : Nat} {ok : Nat → Prop} {xs : List Bool} (h : KB.R e w base ok (.slice (some ⟨g, 0, none⟩) m cap) xs) (i : Int) (x : Bool) : KB.R e (w.setCell ⟨g, i.toNat, none⟩ (.bool x)) base ok (.slice (some ⟨g, 0, none⟩) m cap) (xs.set i.toNat x) := by
  have hm := (Kd.R_reads' h).1
  subst hm
  exact (Kd.R_put h i x).1
theorem form_B {w : World} {e base n : Nat} {ok : Nat → Prop} {v : Value} {xs : List Bool} (h : KB.R e w base ok v xs) (hn : xs.length = n) (h0 : 0 < n) : ∃ g cap, v = .slice (some ⟨g, 0, none⟩) n cap := by
  obtain ⟨g, cap, hv, _⟩ := Kd.R_form h (by omega)
  exact ⟨g, cap, by rw [hv, hn]⟩
def bL (D : List Int) (N i : Nat) : List Bool := (List.range N).map fun (j : Nat) => decide (j < i) && decide (0 ≤ rd D (j : Int))
theorem bL_zero (D : List Int) (N : Nat) : bL D N 0 = List.replicate N false := by
  apply List.ext_getElem
  · simp [bL]
  · intro j h1 h2; simp [bL]
theorem bL_succ (D : List Int) (N i : Nat) (h : i < N) : (bL D N i).set i (decide (0 ≤ rd D (i : Int))) = bL D N (i + 1) := by
  apply List.ext_getElem
  · simp [bL]
  · intro j h1 h2
    rw [List.getElem_set]
    by_cases hij : i = j
    · subst hij; simp [bL]
    · rw [if_neg hij]
      simp only [bL, List.getElem_map, List.getElem_range]
      rw [show decide (j < i + 1) = decide (j < i) by rw [decide_eq_decide]; omega]
def leastL (D : List Int) : List Bool := D.map fun d => decide (0 ≤ d)
theorem bL_all (D : List Int) : bL D D.length D.length = leastL D := by
  apply List.ext_getElem
  · simp [bL, leastL]
  · intro j h1 h2
    have hj : j < D.length := by simpa [leastL] using h2
    simp [bL, leastL, rd, hj]
def LePost (w0 : World) (g : Nat) (A1 : Option Addr) (c1 : Nat) (v2 v3 v7 : Value) (Z : RZ) (D : List Int) (e : Ending) (w' : World) : Prop :=
  ∃ v col v6, e = .returned v ∧ KB.R 4 w' w0.heap.size (fun k => col k = 5) v (leastL D) ∧ Rs w0 w' g col A1 c1 v2 v3 v6 v7 {Z with dep := D}
set_option maxRecDepth 100000 in
set_option maxHeartbeats 8000000 in
theorem least_calls {w0 w : World} {g : Nat} {col : Nat → Nat} {A1 : Option Addr} {c1 : Nat} {v2 v3 v6 v7 : Value} {Z : RZ} (h : Rs w0 w g col A1 c1 v2 v3 v6 v7 Z) (hz : WZ Z) (k : Nat) (hk : k ≤ 1000000000000) (D : List Int) (hD : levelP k Z = some D) :
    Calls Try.prog 57 #[.pointer (some ⟨g, 0, none⟩)] w (LePost w0 g A1 c1 v2 v3 v7 Z D) := by
  obtain ⟨n, arcs, left, out, src, snk, dep, nxt⟩ := Z
  obtain ⟨N, rfl⟩ : ∃ N : Nat, n = N := ⟨n.toNat, by have := hz.n; dsimp only at this; omega⟩
  have hN : N ≤ 1000 := by have := hz.n; have := hz.small; dsimp only at *; omega
  have h0 : 0 < N := by have := hz.src; dsimp only at this; omega
  have hDl : D.length = N := by have := levelP_len hD; dsimp only at this; rwa [Int.toNat_natCast] at this
  have H := Aside0.mk h
  have HD := Aside0.mk hD
  have HZ := Aside0.mk hz
  have HDl := Aside0.mk hDl
  clear h hD hz hDl
  go_enter Try.func57, Try.ntmps57
  go_wp2_with fail
  refine (level_calls H.out HZ.out k hk D HD.out).mono ?_
  rintro e w2 ⟨col2, v62, rfl, hR2⟩
  dsimp only at hR2
  obtain ⟨gd, cd, rfl⟩ := form_N hR2.dep HDl.out h0
  obtain ⟨col3, hcol3⟩ : ∃ c : Nat → Nat, c = fun k => if k < w2.heap.size then col2 k else 5 := ⟨_, rfl⟩
  have HR3 := Aside0.mk (hR2.recol (col' := col3) (fun k hk => by rw [hcol3]; simp [hk]))
  have hc5 : Aside0 (col3 w2.heap.size = 5) := ⟨by rw [hcol3]; simp⟩
  have k0 := HR3.out.k0
  (try dsimp only at k0)
  clear hR2 hcol3
  go_wp2_with ((with_reducible refine gate_dst (N := 13) rfl ?_); refine mark_ ?_)
  refine ⟨?_⟩
  refine Kd.R_make KB (w0 := w0) w0.heap.size 4 rfl (N := 13) rfl 45 _ _ rfl (N : Int) rfl rfl Try.underlying45 (.bool false) 1 info4 rfl (by decide) (by omega) false (ok := fun k => col3 k = 5) (okp := fun _ => False) rfl (fun _ h => h.elim) hc5.out (by omega) (by rw [Int.toNat_natCast]; omega) HR3.out.bel HR3.out.bel.size ?_
  intro vn w4 hR4 hB4 hg4 hne4
  rw [Int.toNat_natCast] at hR4
  obtain ⟨gb, cb, rfl⟩ := form_B hR4 (List.length_replicate ..) h0
  have HR4 := Aside0.mk (HR3.out.grown hg4 hB4 (fun k hk => by cases hk))
  have R4 : Aside0 (KB.R 4 w4 w0.heap.size (fun k => col3 k = 5) (.slice (some ⟨gb, 0, none⟩) N cb) (bL D N 0)) := ⟨by rw [bL_zero]; exact hR4⟩
  have k6 := HR4.out.k6
  (try dsimp only at k6)
  clear hR4 hB4 hg4 hne4 k0 hc5
  go_wp2
  clear k6
  go_loopg [19] (N) (fun kq vi w' => ∃ i : Nat, i + kq = N ∧ vi = .int .i64 i ∧ Aside0 (KB.R 4 w' w0.heap.size (fun k => col3 k = 5) (.slice (some ⟨gb, 0, none⟩) N cb) (bL D N i)) ∧ Aside0 (Rs w0 w' g col3 A1 c1 v2 v3 (.slice (some ⟨gd, 0, none⟩) N cd) v7 ⟨(N : Int), arcs, left, out, src, snk, D, nxt⟩))
  case atStart => exact ⟨0, by omega, rfl, R4, HR4⟩
  case round =>
    clear R4 HR4 HR3
    obtain ⟨i, hi, rfl, HB, HR⟩ := hrel
    by_cases hlt : i < N
    · have hdec : decide (i < N) = true := decide_eq_true hlt
      obtain ⟨kd, fd⟩ := R_at HR.out.dep (i : Int) (by omega) (by omega)
      obtain ⟨kb, fb⟩ := R_atB HB.out (i : Int) (by omega) (by omega)
      (try dsimp only at kd)
      simp only [Int.toNat_natCast] at kd kb fb
      have b0 : ((i : Int) < 0) = False := eq_false (by omega)
      have b1 : ((i : Int) < (N : Int)) = True := eq_true (by omega)
      have hgb : Aside0 (w0.heap.size ≤ gb ∧ col3 gb = 5) := ⟨Kd.R_base HB.out gb rfl, HB.out.1 gb rfl⟩
      have HB2 := R_putB HB.out (i : Int) (decide (0 ≤ rd D (i : Int)))
      rw [Int.toNat_natCast, bL_succ D N i hlt] at HB2
      replace HB2 := Aside0.mk HB2
      have HR2 := Aside0.mk (HR.out.far (b := gb) (o := i) (by rw [hgb.out.2]; omega) (by rw [hgb.out.2]; omega) hgb.out.1 (.bool (decide (0 ≤ rd D (i : Int)))))
      go_wp2
      go_roundg (N - (i + 1))
      case measure => omega
      case rel => exact ⟨i + 1, by omega, by go_num, HB2, HR2⟩
    · have hdec : decide (i < N) = false := decide_eq_false hlt
      obtain rfl : i = N := by omega
      go_wp2
      go_ret
      exact ⟨_, _, _, rfl, by rw [← bL_all, HDl.out]; exact HB.out, HR.out⟩
end Go.Proofs.Ytbamanjedfccpaa.HTab
namespace Go.Proofs.Ytbamanjedfccpaa.X
open Go.RowKit Go.Proofs.YtbamanjedfccpaaW.PrintWords Go.Proofs.YtbamanjedfccpaaW.PrintLast Go.Proofs.YtbamanjedfccpaaW.PrintMore Go.Proofs.Ytbamanjedfccpaa.HTab
def wax_Least.f (n : Int) (l : List S35) : Option (List Bool × Int) := if vdB n l = true then (fillZ fuelW (restP false n.toNat l 0 (n - 1))).bind fun r => (levelP fuelW ((restP false n.toNat l 0 (n - 1)).dat_ r.2.1 r.2.2.1 r.2.2.2)).map fun D => (leastL D, 0) else some ([], 2)
end Go.Proofs.Ytbamanjedfccpaa.X
end

section
set_option linter.unusedVariables false
set_option linter.unusedSimpArgs false
namespace Go.Proofs.Ytbamanjedfccpaa.HTab
open Go.RowKit Go.Proofs.YtbamanjedfccpaaW.PrintWords Go.Proofs.YtbamanjedfccpaaW.PrintLast Go.Proofs.YtbamanjedfccpaaW.PrintMore Go.Proofs.Ytbamanjedfccpaa.X
set_option linter.unusedVariables false
set_option linter.unusedSimpArgs false
theorem copy_frontB {P : Program} {w : World} {t e : TypeId} (ty : TypeId) {base g cap N n : Nat} {ok : Nat → Prop} {x : Bool} (ht : P.underlying t = some (.slice e)) (hinfo : (P.info? e).map (·.size) = some 1)
    (h : Kd.bool.R e w base ok (.slice (some ⟨g, 0, none⟩) N cap) (List.replicate n x ++ List.replicate (N - n) false)) (hn : n ≤ N) :
    ∃ w1, (Builtin.copy_ #[t, t] ty #[.slice (some ⟨g, n, none⟩) (N - n) (cap - n), .slice (some ⟨g, 0, none⟩) n cap]).run P w = .ok (goInt ((min n (N - n) : Nat) : Int)) w1 ∧
      Kd.bool.R e w1 base ok (.slice (some ⟨g, 0, none⟩) N cap) (List.replicate (n + min n (N - n)) x ++ List.replicate (N - (n + min n (N - n))) false) ∧ w.grownBy w1 (some g) := by
  have hlen : (List.replicate n x ++ List.replicate (N - n) false).length = N := by simp; omega
  have hown := Kd.own_of_R h
  rw [hlen] at hown
  obtain ⟨m, hm⟩ : ∃ m, m = min n (N - n) := ⟨_, rfl⟩
  rw [← hm]
  rcases Nat.eq_zero_or_pos m with h0 | hp
  · refine ⟨w, ?_, ?_, World.grownBy.refl w _⟩
    · rw [h0]
      exact run_copy_none w t t ty e _ _ _ _ _ _ ht hinfo (by rw [h0] at hm; exact hm.symm)
    · rw [h0, Nat.add_zero]; exact h
  · rcases hown.2 with ⟨hv, _⟩ | ⟨g', cap', cur, hv, hb, hh, hnc, hcm, hcs, htake⟩
    · cases hv
    · obtain ⟨rfl, rfl⟩ : g = g' ∧ cap = cap' := by
        injection hv with e1 e2 e3
        injection e1 with e1
        injection e1 with e1
        exact ⟨e1, e3⟩
      have hcs1 : cur.size = cap := by omega
      have htk : cur.toList.take N = (List.replicate n x ++ List.replicate (N - n) false).map Value.bool := by
        have := htake
        rw [Nat.mul_one] at this
        exact this
      have hcell : ∀ j, j < n → cur[j]? = some (.bool x) := fun j hj => by
        have h1 : (cur.toList.take N)[j]? = some (.bool x) := by
          rw [htk, List.getElem?_map, List.getElem?_append_left (by simp; omega), List.getElem?_replicate, if_pos hj]
          rfl
        rw [List.getElem?_take, if_pos (by omega)] at h1
        simpa using h1
      have hvals : (List.replicate m (Value.bool x)).length = m := List.length_replicate
      have hr := run_copy_cells (P := P) w t t ty e g n (N - n) (cap - n) ⟨g, 0, none⟩ n cap (List.replicate m (Value.bool x)) ht hinfo (by rw [hvals, hm])
        (fun j u hj => by
          rw [List.getElem?_replicate] at hj
          split at hj
          · injection hj with hj
            subst hj
            rw [add_plain, cell_of_row w g _ cur e (0, 0) hh]
            exact hcell j (by omega)
          · cases hj)
        (fun j hj => by rw [cell_of_row w g _ cur e (0, 0) hh]; rw [hvals] at hj; simp; omega) (fun j _ => blk_frozen hh _) (fun u hu => by rw [List.mem_replicate] at hu; rw [hu.2]; rfl)
      obtain ⟨cur', h3, h4, h5⟩ := setCells_row (List.replicate m (Value.bool x)) n w cur hh (by rw [hvals]; omega)
      obtain ⟨s1, s2, s3, s4⟩ := setCells_same g (List.replicate m (Value.bool x)) n w
      refine ⟨_, by rw [hr, hvals], Kd.R_of_own ?_ h.1, ⟨s1, s2, s3, by rw [s4]; exact Nat.le_refl _, fun k _ hk => setCells_far _ _ k (fun he => hk (by rw [he]))⟩⟩
      have hln : (List.replicate (n + m) x ++ List.replicate (N - (n + m)) false).length = N := by simp; omega
      rw [hln]
      refine ⟨by rw [encs_length, hln, Nat.mul_one], .inr ⟨g, cap, cur', rfl, hb, h3, hnc, hcm, by rw [h4, hcs], ?_⟩⟩
      rw [h5, Nat.mul_one, hvals]
      unfold encs
      have e1 : cur.toList.take n = List.replicate n (Value.bool x) := by
        have h2 : (cur.toList.take N).take n = List.replicate n (Value.bool x) := by
          rw [htk, List.map_append, List.map_replicate, List.take_append_of_le_length (by simp), List.take_of_length_le (by simp)]
        rwa [List.take_take, Nat.min_eq_left hn] at h2
      have e2 : (cur.toList.drop (n + m)).take (N - (n + m)) = List.replicate (N - (n + m)) (Value.bool false) := by
        have h2 : (cur.toList.take N).drop (n + m) = List.replicate (N - (n + m)) (Value.bool false) := by
          rw [htk, List.map_append, List.map_replicate, List.map_replicate, List.drop_append, show (List.replicate n (Value.bool x)).drop (n + m) = [] from List.drop_eq_nil_of_le (by simp), List.nil_append, List.length_replicate, List.drop_replicate]
          congr 1
          omega
        rwa [List.drop_take] at h2
      rw [List.take_append, List.take_of_length_le (by rw [List.length_append, e1]; simp; omega), List.length_append, e1, List.length_replicate, List.length_replicate, e2]
      rw [List.map_append, List.map_replicate, List.map_replicate, List.replicate_append_replicate]
theorem made_sliceB {w : World} {base e : Nat} {ok : Nat → Prop} {v : Value} {xs : List Bool} (h : Kd.bool.R e w base ok v xs) (hne : ∃ b, v.ownBlock = some b ∧ base ≤ b) : ∃ g cap, v = .slice (some ⟨g, 0, none⟩) xs.length cap ∧ g < w.heap.size := by
  obtain ⟨b, hb, _⟩ := hne
  rcases (Kd.own_of_R h).2 with ⟨rfl, _⟩ | ⟨g, cap, cur, rfl, _, hh, _⟩
  · cases hb
  · exact ⟨g, cap, rfl, blk_lt hh⟩
def tb_RepeatB_9.T : Bool × List (List Nat × List Nat) := (true, [([], []), ([], []), ([], []), ([1, 2], [1, 2]), ([], []), ([], []), ([4, 5], [4, 5]), ([3, 6], [3, 6]), ([0, 7], [0, 7]), ([8, 7, 0, 1, 2, 3, 4, 5, 6, 7, 8], [0, 2, 5, 8])])
def tb_RepeatB_9.B : List Nat := [0, 0, 0, 6, 0, 0, 48, 126, 255, 511]
theorem tb_RepeatB_9.tab : rtab .any (opsOf Try.f79 9) = tb_RepeatB_9.T := by kernel_rfl
theorem tb_RepeatB_9.bits : waitsOk tb_RepeatB_9.T.2 tb_RepeatB_9.B = true := by kernel_rfl
set_option maxRecDepth 100000 in
set_option maxHeartbeats 4000000 in
theorem repeatB_calls (x : Bool) (n : Int) (A : Option Addr) (c : Nat) (w : World) (hC : Kd.C Kd.bool w A 1 [x]) (h0 : 0 ≤ n) (h1 : n ≤ 1000) :
    Calls Try.prog 79 #[.slice A 1 c, .int .i64 n] w fun e w' => ∃ g cap, e = .returned (.slice (some ⟨g, 0, none⟩) n.toNat cap) ∧ Kd.bool.R 4 w' w.heap.size (fun _ => True) (.slice (some ⟨g, 0, none⟩) n.toNat cap) (List.replicate n.toNat x) ∧ Below w.heap.size w w' ∧ g < w'.heap.size := by
  obtain ⟨N, rfl⟩ : ∃ k : Nat, n = k := ⟨n.toNat, by omega⟩
  rw [Int.toNat_natCast]
  have HC := Aside0.mk hC
  have q0 : ((N : Int) < 0) = False := eq_false (by omega)
  have q1 : decide ((N : Int) < 0) = false := decide_eq_false (by omega)
  have q2 : IntKind.u64.wrap (N : Int) = (N : Int) := by simp only [IntKind.wrap_u64]; omega
  have q3 : IntKind.u64.wrap 1 = 1 := by decide
  have q4 : decide ((N : Int) > 9223372036854775807) = false := decide_eq_false (by omega)
  have q4' : decide ((9223372036854775807 : Int) < (N : Int)) = false := decide_eq_false (by omega)
  have q5 : wrap64 (N : Int) = N := by unfold wrap64; omega
  have HM := Aside0.mk (mul_one_f (N : Int) (by omega) (by omega))
  clear hC
  go_enter Try.func79, Try.ntmps79
  go_wp2_with fail
  refine (bits_Mul.calls 1 (N : Int) 0 (N : Int) _ HM.out).mono ?_
  rintro e w1 ⟨rfl, ⟨m1, rfl⟩⟩
  have HB := Aside0.mk (pw_below_drewN (Below.refl w.heap.size w) m1)
  have HS : Aside0 (w.heap.size ≤ (w.drewN m1).heap.size) := ⟨HB.out.size⟩
  go_wp2_with ((with_reducible refine gate_dst (N := 30) rfl ?_); refine mark_ ?_)
  refine ⟨?_⟩
  refine Kd.R_make Kd.bool (w0 := w) w.heap.size 4 rfl (N := 30) rfl 45 _ _ rfl (N : Int) rfl rfl Try.underlying45 (.bool false) 1 info4 rfl (by decide) (by omega) false (ok := fun _ => True) (okp := fun _ => False) rfl (fun _ h => trivial) trivial (by omega) (by rw [Int.toNat_natCast]; omega) HB.out HS.out ?_
  intro v2 w2 hR2 hB2 hg2 hne2
  obtain ⟨g, cap, rfl, hgl⟩ := made_sliceB hR2 (by obtain ⟨b, k1, k2⟩ := hne2; exact ⟨b, k1, Nat.le_trans HS.out k2⟩)
  rw [List.length_replicate, Int.toNat_natCast] at hR2
  rw [List.length_replicate, Int.toNat_natCast]
  have R2 := Aside0.mk hR2
  have B2 := Aside0.mk hB2
  have G2 := Aside0.mk hgl
  clear hR2 hB2 hg2 hne2 hgl
  go_wp2_with ((with_reducible refine gate_dst (N := 33) rfl ?_); refine mark_ ?_)
  refine ⟨?_⟩
  refine Kd.R_copy false (w0 := w) w.heap.size rfl _ _ 45 45 4 rfl Try.underlying45 (by kernel_rfl) (.slice (some ⟨g, 0, none⟩) N cap) (List.replicate N false) [x] A 1 c (fun _ => True) rfl rfl R2.out (Kd.C_below HC.out (B2.out)) B2.out B2.out.size ?_
  intro w3 hR3 hB3 hg3
  rw [List.length_replicate] at hR3
  have R3 : Aside0 (Kd.bool.R 4 w3 w.heap.size (fun _ => True) (.slice (some ⟨g, 0, none⟩) N cap) (List.replicate (min 1 N) x ++ List.replicate (N - min 1 N) false)) := ⟨by
    have e : [x].take (min 1 N) ++ (List.replicate N false).drop (min 1 N) = List.replicate (min 1 N) x ++ List.replicate (N - min 1 N) false := by
      rcases Nat.eq_zero_or_pos N with h | h
      · subst h; rfl
      · rw [Nat.min_eq_left (by omega)]; simp
    rw [← e]
    exact hR3⟩
  have B3 := Aside0.mk hB3
  have G3 : Aside0 (g < w3.heap.size) := ⟨Nat.lt_of_lt_of_le G2.out hg3.size⟩
  rw [List.length_replicate]
  clear hR3 hB3 hg3
  go_wp2
  go_loopg [8] (N) (fun kq v8 w' => ∃ n : Nat, (N ≤ n + kq ∧ n ≤ N) ∧ v8 = .int .i64 n ∧ (0 < n ∨ N = 0) ∧ Aside0 (Kd.bool.R 4 w' w.heap.size (fun _ => True) (.slice (some ⟨g, 0, none⟩) N cap) (List.replicate n x ++ List.replicate (N - n) false)) ∧ Aside0 (Below w.heap.size w w') ∧ Aside0 (g < w'.heap.size))
  case atStart => exact ⟨min 1 N, by omega, rfl, by omega, R3, B3, G3⟩
  case round =>
    clear R3 B3 G3 B2 R2 G2
    obtain ⟨n, hn, rfl, hp, HR, HW, HG⟩ := hrel
    by_cases hlt : n < N
    · have hdec : decide (n < N) = true := decide_eq_true hlt
      obtain ⟨hn1, hn2⟩ := hn
      have hcap := (Kd.R_reads' HR.out).2.1
      have z0 : (0 : Int) ≤ n := by omega
      have z1 : (n : Int) ≤ N := by omega
      have z2 : (n : Int) ≤ cap := by omega
      have z3 : (N : Int) ≤ cap := by omega
      have z4 : (cap = n) = False := eq_false (by omega)
      have z5 : n ≤ cap := by omega
      have z6 : n ≤ N := hn2
      have z7 : N ≤ cap := hcap
      have hgb : w.heap.size ≤ g := by
        obtain ⟨g', cap', e1, e2, _⟩ := Kd.R_form HR.out (by simp; omega)
        injection e1 with e1
        injection e1 with e1
        injection e1 with e1
        omega
      go_wp2
      obtain ⟨w5, hc5, hR5, hG5⟩ := copy_frontB (P := Try.prog) (t := 45) (e := 4) 3 Try.underlying45 (by kernel_rfl) (w := wr.drew) (Kd.R_drew HR.out) z6
      refine start_ (n := 10) (S := fun w' => True) (ds := [7]) #[false, false, false, false, false, false, false, false, false, false] (by kernel_rfl) rfl rfl trivial (fun hHeld => ?_)
      refine with_tabW tb_RepeatB_9.tab tb_RepeatB_9.bits (fun HT_ HW_ => ?_)
      refine pure_ (i := 0) (N := some 38) (v := ?_) (a' := ?_) #[true, false, false, false, false, false, false, false, false, false] rfl rfl (any_of HT_.out (by kernel_rfl)) (fun _ _ _ h => h) (Or.inl ⟨by rfl, ?_⟩) ?_ ?_
      rotate_left
      · intro w'
        go_simp
        with_reducible rfl
      rotate_left
      · simp only [Act.put, List.setIfInBounds_toArray, List.set_cons_zero, List.set_cons_succ, i64_w, i32_w]
        rfl
      refine pure_ (i := 1) (N := some 39) (v := ?_) (a' := ?_) #[true, true, false, false, false, false, false, false, false, false] rfl rfl (any_of HT_.out (by kernel_rfl)) (fun _ _ _ h => h) (Or.inl ⟨by rfl, ?_⟩) ?_ ?_
      rotate_left
      · intro w'
        go_simp
        with_reducible rfl
      rotate_left
      · simp only [Act.put, List.setIfInBounds_toArray, List.set_cons_zero, List.set_cons_succ, i64_w, i32_w]
        rfl
      refine pure_ (i := 2) (N := some 40) (v := ?_) (a' := ?_) #[true, true, true, false, false, false, false, false, false, false] rfl rfl (any_of HT_.out (by kernel_rfl)) (fun _ _ _ h => h) (Or.inl ⟨by rfl, ?_⟩) ?_ ?_
      rotate_left
      · intro w'
        go_simp
        with_reducible rfl
      rotate_left
      · simp only [Act.put, List.setIfInBounds_toArray, List.set_cons_zero, List.set_cons_succ, i64_w, i32_w]
        rfl
      refine pure_ (i := 3) (N := some 41) (v := ?_) (a' := ?_) #[true, true, true, true, false, false, false, false, false, false] rfl rfl (any_of HT_.out (by kernel_rfl)) (fun _ _ _ h => h) (Or.inl ⟨by rfl, ?_⟩) ?_ ?_
      rotate_left
      · intro w'
        go_simp
        with_reducible rfl
      rotate_left
      · simp only [Act.put, List.setIfInBounds_toArray, List.set_cons_zero, List.set_cons_succ, i64_w, i32_w]
        rfl
      refine pure_ (i := 4) (N := some 42) (v := ?_) (a' := ?_) #[true, true, true, true, true, false, false, false, false, false] rfl rfl (any_of HT_.out (by kernel_rfl)) (fun _ _ _ h => h) (Or.inl ⟨by rfl, ?_⟩) ?_ ?_
      rotate_left
      · intro w'
        go_simp
        with_reducible rfl
      rotate_left
      · simp only [Act.put, List.setIfInBounds_toArray, List.set_cons_zero, List.set_cons_succ, i64_w, i32_w]
        rfl
      refine pure_ (i := 5) (N := some 43) (v := ?_) (a' := ?_) #[true, true, true, true, true, true, false, false, false, false] rfl rfl (any_of HT_.out (by kernel_rfl)) (fun _ _ _ h => h) (Or.inl ⟨by rfl, ?_⟩) ?_ ?_
      rotate_left
      · intro w'
        go_simp
        with_reducible rfl
      rotate_left
      · simp only [Act.put, List.setIfInBounds_toArray, List.set_cons_zero, List.set_cons_succ, i64_w, i32_w]
        rfl
      refine pure_ (i := 6) (N := some 44) (v := ?_) (a' := ?_) #[true, true, true, true, true, true, true, false, false, false] rfl rfl (any_of HT_.out (by kernel_rfl)) (fun _ _ _ h => h) (Or.inl ⟨by rfl, ?_⟩) ?_ ?_
      rotate_left
      · intro w'
        go_simp
        with_reducible rfl
      rotate_left
      · simp only [Act.put, List.setIfInBounds_toArray, List.set_cons_zero, List.set_cons_succ, i64_w, i32_w]
        rfl
      refine last_ (i := 7) (N := some 45) #[true, true, true, true, true, true, true, true, false, false] rfl rfl (one_of HT_.out (by kernel_rfl)) (by decide) (fun K hK => ?_)
      refine value_ (w1 := w5) (v := .int .i64 ((min n (N - n) : Nat) : Int)) (by rfl) rfl ?_ ?_
      · go_simp
        try rw [hc5]
        try rfl
      have q8 : wrap64 ((n : Int) + ((min n (N - n) : Nat) : Int)) = ((n + min n (N - n) : Nat) : Int) := by unfold wrap64; omega
      refine hK.out _ _ ?_
      clear hK K
      refine norm_ (a' := ?_) ?_ ?_
      rotate_left
      · show Act.put _ (some 45) _ = _
        (try simp only [Act.put, List.setIfInBounds_toArray, List.set_cons_zero, List.set_cons_succ, i64_w, i32_w])
        rfl
      refine pure_ (i := 8) (N := some 46) (v := ?_) (a' := ?_) #[true, true, true, true, true, true, true, true, true, false] rfl rfl (any_of HT_.out (by kernel_rfl)) (fun _ _ _ h => h) (Or.inl ⟨by rfl, ?_⟩) ?_ ?_
      rotate_left
      · intro w'
        go_simp
        with_reducible rfl
      rotate_left
      · simp only [Act.put, List.setIfInBounds_toArray, List.set_cons_zero, List.set_cons_succ, i64_w, i32_w]
        rfl
      refine pure_ (i := 9) (N := some 8) (v := ?_) (a' := ?_) #[true, true, true, true, true, true, true, true, true, true] rfl rfl (any_of HT_.out (by kernel_rfl)) (fun _ _ _ h => h) (Or.inl ⟨by rfl, ?_⟩) ?_ ?_
      rotate_left
      · intro w'
        go_simp
        with_reducible rfl
      rotate_left
      · simp only [Act.put, List.setIfInBounds_toArray, List.set_cons_zero, List.set_cons_succ, i64_w, i32_w]
        rfl
      refine done_ (done_of HT_.out (by kernel_rfl)) ?_
      go_wp2
      go_roundg (N - (n + min n (N - n)))
      case measure => omega
      case rel => exact ⟨n + min n (N - n), by omega, by first | rfl | (simp; done), by omega, ⟨hR5⟩, ⟨(below_drew HW.out).grown hG5 (below_drew HW.out).size (fun k hk => by injection hk with hk; omega)⟩, ⟨Nat.lt_of_lt_of_le HG.out hG5.size⟩⟩
    · have hdec : decide (n < N) = false := decide_eq_false hlt
      obtain ⟨hn1, hn2⟩ := hn
      obtain rfl : n = N := by omega
      go_wp2
      go_ret
      have hR := HR.out
      rw [Nat.sub_self, List.replicate_zero, List.append_nil] at hR
      exact ⟨_, _, rfl, hR, HW.out, HG.out⟩
end Go.Proofs.Ytbamanjedfccpaa.HTab
end

section
set_option linter.unusedVariables false
set_option linter.unusedSimpArgs false
namespace Go.Proofs.Ytbamanjedfccpaa.HTab
open Go.RowKit Go.Proofs.YtbamanjedfccpaaW.PrintWords Go.Proofs.YtbamanjedfccpaaW.PrintLast Go.Proofs.YtbamanjedfccpaaW.PrintMore Go.Proofs.Ytbamanjedfccpaa.X
set_option linter.unusedVariables false
set_option linter.unusedSimpArgs false
def grE (arcs : List S35) (left : List Int) (s : List Int × List Bool) (e : Int) : List Int × List Bool :=
  if rdOf false s.2 (endP arcs e) = true ∧ 0 < rd left (xrP e) then (s.1 ++ [endP arcs e], s.2.set (endP arcs e).toNat false) else s
def grQ (arcs : List S35) (left : List Int) (out : List (List Int)) : Nat → List Int → List Bool → Option (List Bool)
  | _, [], d => some d
  | 0, _ :: _, _ => none
  | k + 1, v :: q, d => grQ arcs left out k ((rowOf out v).foldl (grE arcs left) (q, d)).1 ((rowOf out v).foldl (grE arcs left) (q, d)).2
def greatP (k : Nat) (Z : RZ) : Option (List Bool) := grQ Z.arcs Z.left Z.out k [Z.snk] ((List.replicate Z.n.toNat true).set Z.snk.toNat false)
theorem grF_len (arcs : List S35) (left : List Int) : ∀ (l : List Int) (s : List Int × List Bool), s.1.length ≤ (l.foldl (grE arcs left) s).1.length
  | [], s => Nat.le_refl _
  | e :: l, s => by
    refine Nat.le_trans ?_ (grF_len arcs left l _)
    unfold grE
    split
    · simp
    · exact Nat.le_refl _
theorem grQ_len (arcs : List S35) (left : List Int) (out : List (List Int)) : ∀ (k : Nat) (q : List Int) (d D : List Bool), grQ arcs left out k q d = some D → q.length ≤ k
  | _, [], d, D, h => Nat.zero_le _
  | 0, v :: q, d, D, h => by simp [grQ] at h
  | k + 1, v :: q, d, D, h => by
    simp only [grQ] at h
    have h1 := grQ_len arcs left out k _ _ D h
    have h2 := grF_len arcs left (rowOf out v) (q, d)
    simp only [List.length_cons] at *
    omega
theorem grQ_nil (arcs : List S35) (left : List Int) (out : List (List Int)) (k : Nat) (d : List Bool) : grQ arcs left out k [] d = some d := by cases k <;> rfl
theorem lit1CB (w : World) (x : Bool) : Kd.C KB (w.alloc (.cells #[.bool x] 4)) (some ⟨w.heap.size, 0, none⟩) 1 [x] := by
  refine ⟨rfl, by decide, fun _ => ⟨_, rfl, fun j p hj => ?_⟩⟩
  have hj0 : j = 0 := by have := (List.getElem?_eq_some_iff.1 hj).1; simp at this; omega
  subst hj0
  have hp : x = p := by simpa using hj
  subst hp
  refine ⟨[.bool x], rfl, rfl, fun i u hu => ?_⟩
  have hi : i = 0 := by have := (List.getElem?_eq_some_iff.1 hu).1; simp at this; omega
  subst hi
  have hu' : Value.bool x = u := by simpa using hu
  subst hu'
  rw [add_plain]
  exact (blk_cell (blk_new w _) _).trans rfl
def GrPost (w : World) (D : List Bool) (e : Ending) (w' : World) : Prop := ∃ v, e = .returned v ∧ KB.R 4 w' w.heap.size (fun _ => True) v D ∧ Below w.heap.size w w'
set_option maxRecDepth 100000 in
set_option maxHeartbeats 8000000 in
theorem greatest_calls {w0 w : World} {g : Nat} {col : Nat → Nat} {A1 : Option Addr} {c1 : Nat} {v2 v3 v6 v7 : Value} {Z : RZ} (h : Rs w0 w g col A1 c1 v2 v3 v6 v7 Z) (hz : WZ Z) (k : Nat) (hk : k ≤ 1000000000000) (D : List Bool) (hD : greatP k Z = some D) :
    Calls Try.prog 62 #[.pointer (some ⟨g, 0, none⟩)] w (GrPost w D) := by
  obtain ⟨n, arcs, left, out, src, snk, dep, nxt⟩ := Z
  obtain ⟨N, rfl⟩ : ∃ N : Nat, n = N := ⟨n.toNat, by have := hz.n; dsimp only at this; omega⟩
  have hN : N ≤ 1000 := by have := hz.n; have := hz.small; dsimp only at *; omega
  obtain ⟨s0, s1⟩ := hz.snk
  dsimp only at s0 s1
  obtain ⟨AL, cL, rfl, hcL, _⟩ := Kd.R_reads h.left
  dsimp only at h hcL ⊢
  have H := Aside0.mk h
  have HD := Aside0.mk hD
  have HZ := Aside0.mk hz
  have k0 := (blk_cell h.box 0).trans rfl
  obtain ⟨W1, hW1⟩ : ∃ W, W = w.alloc (.cells #[.bool true] 4) := ⟨_, rfl⟩
  have hC1 : Aside0 (Kd.C KB W1 (some ⟨w.heap.size, 0, none⟩) 1 [true]) := ⟨by rw [hW1]; exact lit1CB w true⟩
  have hB1 : Aside0 (Below w.heap.size w W1) := ⟨by rw [hW1]; exact below_alloc (Below.refl _ _) _⟩
  have k0' : ∀ o : Obj, (w.alloc o).cell? ⟨g, 0, none⟩ = some (.int .i64 N) := fun o => pw_cell_below (below_alloc (Below.refl _ _) o) k0
  clear h hD hz k0
  go_enter Try.func62, Try.ntmps62
  go_wp2_with fail
  rw [← hW1]
  clear hW1
  refine (repeatB_calls true (N : Int) (some ⟨w.heap.size, 0, none⟩) 1 W1 hC1.out (by omega) (by omega)).mono ?_
  rintro e w2 ⟨gd, cd, rfl, hRd, hBd, hgd⟩
  rw [Int.toNat_natCast] at hRd
  have hBw : Below w.heap.size w w2 := below_then hB1.out hB1.out.size hBd
  have hR1 : KB.R 4 w2 w.heap.size (fun k => k = gd) (.slice (some ⟨gd, 0, none⟩) N cd) (List.replicate N true) := by
    obtain ⟨_, h2⟩ := Kd.R_lower hRd hB1.out.size
    exact Kd.R_of_own (Kd.own_of_R (Kd.R_lower hRd hB1.out.size)) (fun k hk => by injection hk with hk; exact hk.symm)
  have k5 := (H.out.below hBw).k5
  (try dsimp only at k5)
  obtain ⟨kd, fd⟩ := R_atB hR1 snk s0 s1
  have hgb : Aside0 (w.heap.size ≤ gd) := ⟨Kd.R_base hR1 gd rfl⟩
  have R2 := Aside0.mk (R_putB hR1 snk false)
  have HBw := Aside0.mk hBw
  rw [Int.toNat_natCast]
  have k5s : (w2.setCell ⟨gd, snk.toNat, none⟩ (.bool false)).cell? ⟨g, 5, none⟩ = some (.int .i64 snk) := by
    have hb := blk_far (p := ⟨gd, snk.toNat, none⟩) ((H.out.below hBw).box) (fun e => by replace e : g = gd := e; have := blk_lt H.out.box; have := hgb.out; omega) (.bool false)
    exact (blk_cell hb 5).trans rfl
  clear hRd hBd hR1 k0' hBw
  go_wp2
  obtain ⟨W4, hW4⟩ : ∃ W, W = w2.setCell ⟨gd, snk.toNat, none⟩ (.bool false) := ⟨_, rfl⟩
  rw [← hW4] at R2 ⊢
  have hsz : w2.heap.size = W4.heap.size := by rw [hW4]; simp [World.setCell]
  have HB4 : Aside0 (Below w.heap.size w W4) := ⟨by rw [hW4]; exact below_set HBw.out hgb.out⟩
  have hgd4 : Aside0 (gd < W4.heap.size) := ⟨by rw [← hsz]; exact hgd⟩
  rw [hsz]
  have HR := Aside0.mk (Kd.R_alloc R2.out (.cells #[.int .i64 snk] 3))
  have HQ := Aside0.mk (Kd.Q_of_R (lit1R W4 snk w.heap.size (fun k => k ≠ gd) HB4.out.size (by have := hgd4.out; omega)))
  have HB5 := Aside0.mk (below_alloc_ HB4.out HB4.out.size (.cells #[.int .i64 snk] 3))
  have HD' : Aside0 (grQ arcs left out k [snk] ((List.replicate N true).set snk.toNat false) = some D) := ⟨by have := HD.out; unfold greatP at this; rwa [Int.toNat_natCast] at this⟩
  have Hd0 : Aside0 (((List.replicate N true).set snk.toNat false).length = N) := ⟨by simp⟩
  have hrg : Aside0 (∀ x ∈ [snk], 0 ≤ x ∧ x < (N : Int)) := ⟨fun x hx => by rw [List.mem_singleton] at hx; omega⟩
  have hgd5 : Aside0 (gd < (W4.alloc (.cells #[.int .i64 snk] 3)).heap.size) := ⟨Nat.lt_of_lt_of_le hgd4.out (below_alloc (Below.refl W4.heap.size W4) (.cells #[.int .i64 snk] 3)).size⟩
  clear hsz hW4 kd fd k5 k5s R2 HBw HD hgd hgd4 HB4
  generalize W4.alloc (.cells #[.int .i64 snk] 3) = W5 at HR HQ HB5 hgd5 ⊢
  go_loopg [4] (k) (fun kq vq w' => ∃ (q : List Int) (d : List Bool) (A : Option Addr) (c : Nat), vq = .slice A q.length c ∧ Aside0 (grQ arcs left out kq q d = some D) ∧ Aside0 (d.length = N) ∧ Aside0 (∀ x ∈ q, 0 ≤ x ∧ x < (N : Int)) ∧ Aside0 (kq ≤ k) ∧ Aside0 (gd < w'.heap.size) ∧
      Aside0 (Below w.heap.size w w') ∧ Aside0 (KB.R 4 w' w.heap.size (fun k => k = gd) (.slice (some ⟨gd, 0, none⟩) N cd) d) ∧ Aside0 (KI.Q 3 w' w.heap.size (fun k => k ≠ gd) (.slice A q.length c) q))
  case atStart => exact ⟨_, _, _, _, rfl, HD', Hd0, hrg, ⟨Nat.le_refl _⟩, hgd5, HB5, HR, HQ⟩
  case round =>
    clear HR HQ HD' Hd0 hrg hgd5 HB5
    obtain ⟨q, d, A, c, rfl, HD, Hd, Hr, HK, HS, HB, HR, HQ⟩ := hrel
    cases q with
    | nil =>
      have hDd : d = D := by have := HD.out; rw [grQ_nil] at this; injection this
      subst hDd
      go_wp2
      go_ret
      exact ⟨_, rfl, Kd.R_mono HR.out (fun _ _ => trivial), HB.out⟩
    | cons v q =>
      cases gk with
      | zero => exact absurd HD.out (by simp [grQ])
      | succ k1 =>
        obtain ⟨r0, r1⟩ := Hr.out v (List.mem_cons_self ..)
        have hn := HZ.out.n
        dsimp only at hn
        have ro : v < (out.length : Int) := by omega
        replace hn := Aside0.mk hn
        have HRs := Aside0.mk (H.out.below HB.out)
        obtain ⟨bo, co, Ar, cr, rfl, kr, Rr⟩ := H.out.out.row v r0 ro
        replace kr := pw_cell_below HB.out kr
        have k3 := HRs.out.k3
        have hqC := (Kd.Q_reads' HQ.out).2.2
        have hqc := (Kd.Q_reads' HQ.out).2.1
        obtain ⟨aq, rfl, kq0⟩ := Kd.at_int hqC 0 (by omega) (by simp <;> omega)
        have hrd0 : rd (v :: q) 0 = v := rfl
        rw [hrd0] at kq0
        have kq1 : wr.cell? aq = some (.int .i64 v) := by rw [← add_zero_ aq]; exact kq0
        obtain ⟨i0, hi0, _, hsz, _⟩ := info_parts info3
        have hcut := cut_from (P := Try.prog) 40 3 .i64 Try.underlying40 hi0 1 hsz (some aq) (v :: q).length c 1 (by omega) (by simp <;> omega)
        have hQ2 := Kd.Q_drop (k := 1) HQ.out (by simp)
        obtain ⟨A2, hA2⟩ : ∃ A2, A2 = (if c = 1 then some aq else (some aq).map (·.add (1 * 1))) := ⟨_, rfl⟩
        have hl1 : (v :: q).length - 1 = q.length := by simp
        have hd1 : (v :: q).drop 1 = q := rfl
        rw [show (1 : Int).toNat = 1 from rfl, hl1, ← hA2] at hcut
        rw [hl1, hd1] at hQ2
        replace hQ2 : KI.Q 3 wr w.heap.size (fun k => k ≠ gd) (.slice A2 q.length (c - 1)) q := by rw [hA2]; exact hQ2
        have HQ2 := Aside0.mk hQ2
        have RR := Aside0.mk (Kd.R_reads' Rr).2.2
        have hlen : decide (0 < (((v :: q).length : Nat) : Int)) = true := decide_eq_true (by simp <;> omega)
        have hlen' : decide ((((v :: q).length : Nat) : Int) > 0) = true := decide_eq_true (by simp <;> omega)
        have i0' : ((0 : Int) < (((v :: q).length : Nat) : Int)) = True := eq_true (by simp <;> omega)
        have vb0 : (v < 0) = False := eq_false (by omega)
        have vb1 : (v < (out.length : Int)) = True := eq_true ro
        clear hA2 hi0 hsz hQ2 Rr hqC hrd0 hl1 hd1 HQ kq0
        have hlen3 : decide (0 < (v :: q).length) = true := decide_eq_true (by simp)
        have hlen4 : (0 < (v :: q).length) = True := eq_true (by simp)
        obtain ⟨m, hm⟩ : ∃ m, m = (v :: q).length := ⟨_, rfl⟩
        rw [← hm] at hlen hlen' hlen3 hlen4 i0' hcut hqc ⊢
        clear hm
        go_wp2
        have hD2 := HD.out
        simp only [grQ] at hD2
        obtain ⟨S, hS⟩ : ∃ S, S = (rowOf out v).foldl (grE arcs left) (q, d) := ⟨_, rfl⟩
        rw [← hS] at hD2
        have HD2 := Aside0.mk hD2
        have HSl : Aside0 (S.1.length ≤ 1000000000000) := ⟨by have := grQ_len arcs left out k1 S.1 S.2 D hD2; have := HK.out; omega⟩
        have hS0 : Aside0 (((rowOf out v).drop 0).foldl (grE arcs left) (q, d) = S) := ⟨hS.symm⟩
        have Hr2 : Aside0 (∀ x ∈ q, 0 ≤ x ∧ x < (N : Int)) := ⟨fun x hx => Hr.out x (List.mem_cons_of_mem _ hx)⟩
        have HE : Aside0 (∀ e ∈ rowOf out v, 0 ≤ e ∧ e < 2 * (arcs.length : Int)) := ⟨fun e he => HZ.out.edge v e he⟩
        have HEn : Aside0 (∀ e : Int, 0 ≤ e → e < 2 * (arcs.length : Int) → 0 ≤ endP arcs e ∧ endP arcs e < (N : Int)) := ⟨HZ.out.ends⟩
        obtain ⟨row, hrow⟩ : ∃ row, row = rowOf out v := ⟨_, rfl⟩
        have hrl : row.length ≤ 1000000 := by rw [hrow]; exact HZ.out.rl v
        rw [← hrow] at hS0 HE RR ⊢
        have hrow' := Aside0.mk hrow
        clear hD2 hS HD Hr kr k3 kq1 hcut hlen hlen' hlen3 hlen4 i0' hqc hrow
        go_loopg [4, 43] (row.length) (fun kq vq vi w' => ∃ (i : Nat) (q : List Int) (d : List Bool) (A : Option Addr) (c : Nat), i + kq = row.length ∧ vi = .int .i64 i ∧ vq = .slice A q.length c ∧ Aside0 ((row.drop i).foldl (grE arcs left) (q, d) = S) ∧ Aside0 (d.length = N) ∧ Aside0 (∀ x ∈ q, 0 ≤ x ∧ x < (N : Int)) ∧ Aside0 (gd < w'.heap.size) ∧
            Aside0 (Below w.heap.size w w') ∧ Aside0 (KB.R 4 w' w.heap.size (fun k => k = gd) (.slice (some ⟨gd, 0, none⟩) N cd) d) ∧ Aside0 (KI.Q 3 w' w.heap.size (fun k => k ≠ gd) (.slice A q.length c) q))
        case atStart => exact ⟨0, q, d, _, _, by omega, rfl, rfl, hS0, Hd, Hr2, HS, HB, HR, HQ2⟩
        case round =>
          clear HR HQ2 HS HB Hd Hr2 hS0 HRs
          obtain ⟨i, q, d, A, c, hi, rfl, rfl, HF, Hd, Hr, HS, HB, HR, HQ⟩ := hrel
          by_cases hlt : i < row.length
          · have hdec : decide (i < row.length) = true := decide_eq_true hlt
            have b0 : ((i : Int) < 0) = False := eq_false (by omega)
            have b1 : ((i : Int) < (row.length : Int)) = True := eq_true (by omega)
            obtain ⟨ae, rfl, ke⟩ := Kd.at_int (Kd.C_below RR.out HB.out) (i : Int) (by omega) (by omega)
            simp only [Int.toNat_natCast] at ke
            have hrow2 : row.drop i = rd row (i : Int) :: row.drop (i + 1) := by rw [List.drop_eq_getElem_cons hlt]; simp [rd, hlt]
            obtain ⟨e, he⟩ : ∃ e, e = rd row (i : Int) := ⟨_, rfl⟩
            have hmem : e ∈ row := by rw [he]; simp [rd, hlt]
            rw [← he] at ke hrow2
            have HF2 : Aside0 ((row.drop (i + 1)).foldl (grE arcs left) (grE arcs left (q, d) e) = S) := ⟨by have := HF.out; rw [hrow2] at this; exact this⟩
            obtain ⟨e0, e1⟩ := HE.out e hmem
            obtain ⟨x0, x1⟩ := HEn.out e e0 e1
            have eb := xrP_in e arcs.length e0 e1
            have hll : left.length = 2 * arcs.length := HZ.out.l2
            have hla : arcs.length ≤ 1000 := HZ.out.la
            have hxr := xor_eq e e0 (by omega)
            obtain ⟨y0, y1⟩ : 0 ≤ xrP e ∧ xrP e < (left.length : Int) := ⟨eb.1, by omega⟩
            have HRs := Aside0.mk (H.out.below HB.out)
            obtain ⟨gl, capl, hvl, _⟩ := Kd.R_form HRs.out.left (by show 0 < left.length; omega)
            injection hvl with hv1 hv2 hv3
            subst hv1
            obtain ⟨kl, -⟩ := R_at HRs.out.left (xrP e) y0 y1
            have k2 := HRs.out.k2
            (try dsimp only at k2 kl)
            replace hll := Aside0.mk hll
            obtain ⟨ex, hex⟩ : ∃ ex, ex = xrP e := ⟨_, rfl⟩
            rw [← hex] at hxr y0 y1 kl
            have HEX := Aside0.mk hex
            clear he hrow2 hmem HF eb hv2 hv3 capl hex
            go_wp2_with fail
            refine (end_calls HRs.out e e0 e1).mono ?_
            rintro r w' ⟨rfl, rfl⟩
            dsimp only
            have HF3 : Aside0 ((row.drop (i + 1)).foldl (grE arcs left) (if rdOf false d (endP arcs e) = true ∧ 0 < rd left ex then (q ++ [endP arcs e], d.set (endP arcs e).toNat false) else (q, d)) = S) := ⟨by rw [HEX.out]; exact HF2.out⟩
            obtain ⟨x, hx⟩ : ∃ x, x = endP arcs e := ⟨_, rfl⟩
            rw [← hx] at x0 x1 HF3 ⊢
            clear hx HF2 ke
            obtain ⟨kx, fx⟩ := R_atB HR.out x x0 x1
            have le0 : (ex < 0) = False := eq_false (by omega)
            have le1 : (ex < (left.length : Int)) = True := eq_true y1
            have lx0 : (x < 0) = False := eq_false (by omega)
            have lx1 : (x < (N : Int)) = True := eq_true x1
            obtain ⟨b, hb⟩ : ∃ b, b = rdOf false d x := ⟨_, rfl⟩
            rw [← hb] at kx HF3
            replace hb := Aside0.mk hb
            cases b with
            | false =>
              have HF4 := HF3.out
              rw [if_neg (fun z => by cases z.1)] at HF4
              replace HF4 := Aside0.mk HF4
              clear HF3
              go_wp2
              go_roundg (row.length - (i + 1))
              case measure => omega
              case rel => exact ⟨i + 1, q, d, _, _, by omega, by go_num, rfl, HF4, Hd, Hr, HS, HB, HR, HQ⟩
            | true =>
              by_cases p1 : 0 < rd left ex
              · have s1' : decide (0 < rd left ex) = true := decide_eq_true p1
                have s1'' : decide (rd left ex > 0) = true := decide_eq_true p1
                have HF4 := HF3.out
                rw [if_pos ⟨rfl, p1⟩] at HF4
                replace HF4 := Aside0.mk HF4
                clear HF3 p1
                have hgd2 : Aside0 (w.heap.size ≤ gd) := ⟨Kd.R_base HR.out gd rfl⟩
                have R6 := Aside0.mk (R_putB HR.out x false)
                have HQ6 := Aside0.mk (Kd.Q_far (p := ⟨gd, x.toNat, none⟩) HQ.out (fun k hk => hk) (.bool false))
                have HB6 := Aside0.mk (below_set (j := x.toNat) (v := .bool false) HB.out hgd2.out)
                have HS6 : Aside0 (gd < (wr.setCell ⟨gd, x.toNat, none⟩ (.bool false)).heap.size) := ⟨by simpa [World.setCell] using HS.out⟩
                have hql : Aside0 (q.length + 1 ≤ 1000000000000) := ⟨by
                  have h1 := grF_len arcs left (row.drop (i + 1)) (q ++ [x], d.set x.toNat false)
                  rw [HF4.out] at h1
                  have := HSl.out
                  simp only [List.length_append, List.length_singleton] at h1
                  omega⟩
                go_wp2_with ((with_reducible refine gate_dst (N := 71) rfl ?_); refine mark_ ?_)
                refine ⟨?_⟩
                obtain ⟨W6, hW6⟩ : ∃ W, W = wr.setCell ⟨gd, x.toNat, none⟩ (.bool false) := ⟨_, rfl⟩
                rw [← hW6] at R6 HQ6 HB6 HS6 ⊢
                have hsz6 : wr.heap.size = W6.heap.size := by rw [hW6]; simp [World.setCell]
                rw [hsz6]
                clear hsz6 hW6 kx fx kl k2
                refine Kd.Q_append KI (w0 := w) (W := W6) w.heap.size rfl (.tmp 68) (.tmp 70) 40 3 (.int .i64 0) 8 rfl Try.underlying40 info3 rfl (by decide) (by decide) (.slice A q.length c) q x [.int .i64 x] (fun k => k ≠ gd) (fun _ => False) rfl rfl rfl (fun k hk => hk.elim) (fun k hk => by have := HS6.out; omega) HQ6.out HB6.out HB6.out.size (by have := hql.out; omega) ?_
                intro v9 w7 hQ7 hB7 hg7 hat7
                obtain ⟨A7, c7, rfl, _⟩ := Kd.Q_slice hQ7
                have HR7 := Aside0.mk (Kd.R_grown R6.out hg7 (fun k hk e => HQ.out.1 k e.symm hk))
                have HS7 : Aside0 (gd < w7.heap.size) := ⟨Nat.lt_of_lt_of_le HS6.out hg7.size⟩
                have HQ7 := Aside0.mk hQ7
                have HB7 := Aside0.mk hB7
                have Hd7 : Aside0 ((d.set x.toNat false).length = N) := ⟨by rw [List.length_set]; exact Hd.out⟩
                have Hr7 : Aside0 (∀ y ∈ q ++ [x], 0 ≤ y ∧ y < (N : Int)) := ⟨fun y hy => by
                  rcases List.mem_append.1 hy with hy | hy
                  · exact Hr.out y hy
                  · rw [List.mem_singleton] at hy; rw [hy]; exact ⟨x0, x1⟩⟩
                clear hQ7 hB7 hg7 hat7
                go_wp2
                go_roundg (row.length - (i + 1))
                case measure => omega
                case rel => exact ⟨i + 1, q ++ [x], d.set x.toNat false, _, _, by omega, by go_num, by simp, HF4, Hd7, Hr7, HS7, HB7, HR7, HQ7⟩
              · have s1' : decide (0 < rd left ex) = false := decide_eq_false p1
                have s1'' : decide (rd left ex > 0) = false := decide_eq_false p1
                have HF4 := HF3.out
                rw [if_neg (fun z => p1 z.2)] at HF4
                replace HF4 := Aside0.mk HF4
                clear HF3 p1
                go_wp2
                go_roundg (row.length - (i + 1))
                case measure => omega
                case rel => exact ⟨i + 1, q, d, _, _, by omega, by go_num, rfl, HF4, Hd, Hr, HS, HB, HR, HQ⟩
          · have hdec : decide (i < row.length) = false := decide_eq_false hlt
            have hS2 : (q, d) = S := by have := HF.out; rw [List.drop_eq_nil_of_le (by omega)] at this; exact this
            subst hS2
            go_wp2
            go_roundg k1
            case measure => omega
            case rel => exact ⟨q, d, _, _, rfl, HD2, Hd, Hr, ⟨by have := HK.out; omega⟩, HS, HB, HR, HQ⟩
end Go.Proofs.Ytbamanjedfccpaa.HTab
end

section
set_option linter.unusedVariables false
set_option linter.unusedSimpArgs false
namespace Go.Proofs.Ytbamanjedfccpaa.HTab
open Go.RowKit Go.Proofs.YtbamanjedfccpaaW.PrintWords Go.Proofs.YtbamanjedfccpaaW.PrintLast Go.Proofs.YtbamanjedfccpaaW.PrintMore Go.Proofs.Ytbamanjedfccpaa.X
set_option linter.unusedVariables false
set_option linter.unusedSimpArgs false
end Go.Proofs.Ytbamanjedfccpaa.HTab
namespace Go.Proofs.Ytbamanjedfccpaa.X
open Go.RowKit Go.Proofs.YtbamanjedfccpaaW.PrintWords Go.Proofs.YtbamanjedfccpaaW.PrintLast Go.Proofs.YtbamanjedfccpaaW.PrintMore Go.Proofs.Ytbamanjedfccpaa.HTab
def wax_Greatest.f (n : Int) (l : List S35) : Option (List Bool × Int) := if vdB n l = true then (fillZ fuelW (restP false n.toNat l 0 (n - 1))).bind fun r => (greatP fuelW ((restP false n.toNat l 0 (n - 1)).dat_ r.2.1 r.2.2.1 r.2.2.2)).map fun D => (D, 0) else some ([], 2)
end Go.Proofs.Ytbamanjedfccpaa.X
end
