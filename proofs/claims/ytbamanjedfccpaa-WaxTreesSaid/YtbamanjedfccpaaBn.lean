/- Lemmas of the proof: part Bn. -/
import Derived.Test.YtbamanjedfccpaaBh
import Derived.Test.YtbamanjedfccpaaBe
section
set_option linter.unusedVariables false
set_option linter.unusedSimpArgs false
namespace Go.Proofs.Ytbamanjedfccpaa.HTab
open Go.RowKit Go.Proofs.YtbamanjedfccpaaW.PrintWords Go.Proofs.YtbamanjedfccpaaW.PrintLast Go.Proofs.YtbamanjedfccpaaW.PrintMore Go.Proofs.Ytbamanjedfccpaa.X
set_option linter.unusedVariables false
set_option linter.unusedSimpArgs false
def flowL (L : List Int) (m : Nat) : List Int := (List.range m).map fun (i : Nat) => rd L (2 * (i : Int) + 1)
end Go.Proofs.Ytbamanjedfccpaa.HTab
namespace Go.Proofs.Ytbamanjedfccpaa.X
open Go.RowKit Go.Proofs.YtbamanjedfccpaaW.PrintWords Go.Proofs.YtbamanjedfccpaaW.PrintLast Go.Proofs.YtbamanjedfccpaaW.PrintMore Go.Proofs.Ytbamanjedfccpaa.HTab
def wax_Flow.f (n : Int) (l : List S35) : Option (List Int × Int) := if vdB n l = true then (fillZ fuelW (restP false n.toNat l 0 (n - 1))).map fun r => (flowL r.2.1 l.length, 0) else some ([], 2)
end Go.Proofs.Ytbamanjedfccpaa.X
end

section
set_option linter.unusedVariables false
set_option linter.unusedSimpArgs false
namespace Go.Proofs.Ytbamanjedfccpaa.HTab
open Go.RowKit Go.Proofs.YtbamanjedfccpaaW.PrintWords Go.Proofs.YtbamanjedfccpaaW.PrintLast Go.Proofs.YtbamanjedfccpaaW.PrintMore Go.Proofs.Ytbamanjedfccpaa.X
set_option linter.unusedVariables false
set_option linter.unusedSimpArgs false
abbrev KB : Kd Bool := Kd.bool
theorem R_atB {w : World} {e base g m cap : Nat} {ok : Nat → Prop} {xs : List Bool} (h : KB.R e w base ok (.slice (some ⟨g, 0, none⟩) m cap) xs) (i : Int) (h0 : 0 ≤ i) (h1 : i < m) : w.cell? ⟨g, i.toNat, none⟩ = some (.bool (rdOf false xs i)) ∧ w.frozen? ⟨g, i.toNat, none⟩ = false := by
  have hm := (Kd.R_reads' h).1
  subst hm
  exact Kd.R_cell false (h1 := fun _ => rfl) h i h0 (by omega)
theorem R_putB {w : World} {e base g m cap : Nat} {ok : Nat → Prop} {xs : List Bool} (h : KB.R e w base ok (.slice (some ⟨g, 0, none⟩) m cap) xs) (i : Int) (x : Bool) : KB.R e (w.setCell ⟨g, i.toNat, none⟩ (.bool x)) base ok (.slice (some ⟨g, 0, none⟩) m cap) (xs.set i.toNat x) := by
  have hm := (Kd.R_reads' h).1
  subst hm
  exact (Kd.R_put h i x).1
theorem form_B {w : World} {e base n : Nat} {ok : Nat → Prop} {v : Value} {xs : List Bool} (h : KB.R e w base ok v xs) (hn : xs.length = n) (h0 : 0 < n) : ∃ g cap, v = .slice (some ⟨g, 0, none⟩) n cap := by
  obtain ⟨g, cap, hv, _⟩ := Kd.R_form h (by omega)
  exact ⟨g, cap, by rw [hv, hn]⟩
def bL (D : List Int) (N i : Nat) : List Bool := (List.range N).map fun (j : Nat) => decide (j < i) && decide (0 ≤ rd D (j : Int))
theorem bL_zero (D : List Int) (N : Nat) : bL D N 0 = List.replicate N false := by
  apply List.ext_getElem
  · simp [bL]
  · intro j h1 h2; simp [bL]
theorem bL_succ (D : List Int) (N i : Nat) (h : i < N) : (bL D N i).set i (decide (0 ≤ rd D (i : Int))) = bL D N (i + 1) := by
  apply List.ext_getElem
  · simp [bL]
  · intro j h1 h2
    rw [List.getElem_set]
    by_cases hij : i = j
    · subst hij; simp [bL]
    · rw [if_neg hij]
      simp only [bL, List.getElem_map, List.getElem_range]
      rw [show decide (j < i + 1) = decide (j < i) by rw [decide_eq_decide]; omega]
def leastL (D : List Int) : List Bool := D.map fun d => decide (0 ≤ d)
theorem bL_all (D : List Int) : bL D D.length D.length = leastL D := by
  apply List.ext_getElem
  · simp [bL, leastL]
  · intro j h1 h2
    have hj : j < D.length := by simpa [leastL] using h2
    simp [bL, leastL, rd, hj]
def LePost (w0 : World) (g : Nat) (A1 : Option Addr) (c1 : Nat) (v2 v3 v7 : Value) (Z : RZ) (D : List Int) (e : Ending) (w' : World) : Prop :=
  ∃ v col v6, e = .returned v ∧ KB.R 4 w' w0.heap.size (fun k => col k = 5) v (leastL D) ∧ Rs w0 w' g col A1 c1 v2 v3 v6 v7 {Z with dep := D}
set_option maxRecDepth 100000 in
set_option maxHeartbeats 8000000 in
theorem least_calls {w0 w : World} {g : Nat} {col : Nat → Nat} {A1 : Option Addr} {c1 : Nat} {v2 v3 v6 v7 : Value} {Z : RZ} (h : Rs w0 w g col A1 c1 v2 v3 v6 v7 Z) (hz : WZ Z) (k : Nat) (hk : k ≤ 1000000000000) (D : List Int) (hD : levelP k Z = some D) :
    Calls Try.prog 57 #[.pointer (some ⟨g, 0, none⟩)] w (LePost w0 g A1 c1 v2 v3 v7 Z D) := by
  obtain ⟨n, arcs, left, out, src, snk, dep, nxt⟩ := Z
  obtain ⟨N, rfl⟩ : ∃ N : Nat, n = N := ⟨n.toNat, by have := hz.n; dsimp only at this; omega⟩
  have hN : N ≤ 1000 := by have := hz.n; have := hz.small; dsimp only at *; omega
  have h0 : 0 < N := by have := hz.src; dsimp only at this; omega
  have hDl : D.length = N := by have := levelP_len hD; dsimp only at this; rwa [Int.toNat_natCast] at this
  have H := Aside0.mk h
  have HD := Aside0.mk hD
  have HZ := Aside0.mk hz
  have HDl := Aside0.mk hDl
  clear h hD hz hDl
  go_enter Try.func57, Try.ntmps57
  go_wp2_with fail
  refine (level_calls H.out HZ.out k hk D HD.out).mono ?_
  rintro e w2 ⟨col2, v62, rfl, hR2⟩
  dsimp only at hR2
  obtain ⟨gd, cd, rfl⟩ := form_N hR2.dep HDl.out h0
  obtain ⟨col3, hcol3⟩ : ∃ c : Nat → Nat, c = fun k => if k < w2.heap.size then col2 k else 5 := ⟨_, rfl⟩
  have HR3 := Aside0.mk (hR2.recol (col' := col3) (fun k hk => by rw [hcol3]; simp [hk]))
  have hc5 : Aside0 (col3 w2.heap.size = 5) := ⟨by rw [hcol3]; simp⟩
  have k0 := HR3.out.k0
  (try dsimp only at k0)
  clear hR2 hcol3
  go_wp2_with ((with_reducible refine gate_dst (N := 13) rfl ?_); refine mark_ ?_)
  refine ⟨?_⟩
  refine Kd.R_make KB (w0 := w0) w0.heap.size 4 rfl (N := 13) rfl 45 _ _ rfl (N : Int) rfl rfl Try.underlying45 (.bool false) 1 info4 rfl (by decide) (by omega) false (ok := fun k => col3 k = 5) (okp := fun _ => False) rfl (fun _ h => h.elim) hc5.out (by omega) (by rw [Int.toNat_natCast]; omega) HR3.out.bel HR3.out.bel.size ?_
  intro vn w4 hR4 hB4 hg4 hne4
  rw [Int.toNat_natCast] at hR4
  obtain ⟨gb, cb, rfl⟩ := form_B hR4 (List.length_replicate ..) h0
  have HR4 := Aside0.mk (HR3.out.grown hg4 hB4 (fun k hk => by cases hk))
  have R4 : Aside0 (KB.R 4 w4 w0.heap.size (fun k => col3 k = 5) (.slice (some ⟨gb, 0, none⟩) N cb) (bL D N 0)) := ⟨by rw [bL_zero]; exact hR4⟩
  have k6 := HR4.out.k6
  (try dsimp only at k6)
  clear hR4 hB4 hg4 hne4 k0 hc5
  go_wp2
  clear k6
  go_loopg [19] (N) (fun kq vi w' => ∃ i : Nat, i + kq = N ∧ vi = .int .i64 i ∧ Aside0 (KB.R 4 w' w0.heap.size (fun k => col3 k = 5) (.slice (some ⟨gb, 0, none⟩) N cb) (bL D N i)) ∧ Aside0 (Rs w0 w' g col3 A1 c1 v2 v3 (.slice (some ⟨gd, 0, none⟩) N cd) v7 ⟨(N : Int), arcs, left, out, src, snk, D, nxt⟩))
  case atStart => exact ⟨0, by omega, rfl, R4, HR4⟩
  case round =>
    clear R4 HR4 HR3
    obtain ⟨i, hi, rfl, HB, HR⟩ := hrel
    by_cases hlt : i < N
    · have hdec : decide (i < N) = true := decide_eq_true hlt
      obtain ⟨kd, fd⟩ := R_at HR.out.dep (i : Int) (by omega) (by omega)
      obtain ⟨kb, fb⟩ := R_atB HB.out (i : Int) (by omega) (by omega)
      (try dsimp only at kd)
      simp only [Int.toNat_natCast] at kd kb fb
      have b0 : ((i : Int) < 0) = False := eq_false (by omega)
      have b1 : ((i : Int) < (N : Int)) = True := eq_true (by omega)
      have hgb : Aside0 (w0.heap.size ≤ gb ∧ col3 gb = 5) := ⟨Kd.R_base HB.out gb rfl, HB.out.1 gb rfl⟩
      have HB2 := R_putB HB.out (i : Int) (decide (0 ≤ rd D (i : Int)))
      rw [Int.toNat_natCast, bL_succ D N i hlt] at HB2
      replace HB2 := Aside0.mk HB2
      have HR2 := Aside0.mk (HR.out.far (b := gb) (o := i) (by rw [hgb.out.2]; omega) (by rw [hgb.out.2]; omega) hgb.out.1 (.bool (decide (0 ≤ rd D (i : Int)))))
      go_wp2
      go_roundg (N - (i + 1))
      case measure => omega
      case rel => exact ⟨i + 1, by omega, by go_num, HB2, HR2⟩
    · have hdec : decide (i < N) = false := decide_eq_false hlt
      obtain rfl : i = N := by omega
      go_wp2
      go_ret
      exact ⟨_, _, _, rfl, by rw [← bL_all, HDl.out]; exact HB.out, HR.out⟩
end Go.Proofs.Ytbamanjedfccpaa.HTab
namespace Go.Proofs.Ytbamanjedfccpaa.X
open Go.RowKit Go.Proofs.YtbamanjedfccpaaW.PrintWords Go.Proofs.YtbamanjedfccpaaW.PrintLast Go.Proofs.YtbamanjedfccpaaW.PrintMore Go.Proofs.Ytbamanjedfccpaa.HTab
def wax_Least.f (n : Int) (l : List S35) : Option (List Bool × Int) := if vdB n l = true then (fillZ fuelW (restP false n.toNat l 0 (n - 1))).bind fun r => (levelP fuelW ((restP false n.toNat l 0 (n - 1)).dat_ r.2.1 r.2.2.1 r.2.2.2)).map fun D => (leastL D, 0) else some ([], 2)
end Go.Proofs.Ytbamanjedfccpaa.X
end

section
set_option linter.unusedVariables false
set_option linter.unusedSimpArgs false
namespace Go.Proofs.Ytbamanjedfccpaa.HTab
open Go.RowKit Go.Proofs.YtbamanjedfccpaaW.PrintWords Go.Proofs.YtbamanjedfccpaaW.PrintLast Go.Proofs.YtbamanjedfccpaaW.PrintMore Go.Proofs.Ytbamanjedfccpaa.X
set_option linter.unusedVariables false
set_option linter.unusedSimpArgs false
end Go.Proofs.Ytbamanjedfccpaa.HTab
end

section
set_option linter.unusedVariables false
set_option linter.unusedSimpArgs false
namespace Go.Proofs.Ytbamanjedfccpaa.HTab
open Go.RowKit Go.Proofs.YtbamanjedfccpaaW.PrintWords Go.Proofs.YtbamanjedfccpaaW.PrintLast Go.Proofs.YtbamanjedfccpaaW.PrintMore Go.Proofs.Ytbamanjedfccpaa.X
set_option linter.unusedVariables false
set_option linter.unusedSimpArgs false
def grE (arcs : List S35) (left : List Int) (s : List Int × List Bool) (e : Int) : List Int × List Bool :=
  if rdOf false s.2 (endP arcs e) = true ∧ 0 < rd left (xrP e) then (s.1 ++ [endP arcs e], s.2.set (endP arcs e).toNat false) else s
def grQ (arcs : List S35) (left : List Int) (out : List (List Int)) : Nat → List Int → List Bool → Option (List Bool)
  | _, [], d => some d
  | 0, _ :: _, _ => none
  | k + 1, v :: q, d => grQ arcs left out k ((rowOf out v).foldl (grE arcs left) (q, d)).1 ((rowOf out v).foldl (grE arcs left) (q, d)).2
def greatP (k : Nat) (Z : RZ) : Option (List Bool) := grQ Z.arcs Z.left Z.out k [Z.snk] ((List.replicate Z.n.toNat true).set Z.snk.toNat false)
end Go.Proofs.Ytbamanjedfccpaa.HTab
end

section
set_option linter.unusedVariables false
set_option linter.unusedSimpArgs false
namespace Go.Proofs.Ytbamanjedfccpaa.HTab
open Go.RowKit Go.Proofs.YtbamanjedfccpaaW.PrintWords Go.Proofs.YtbamanjedfccpaaW.PrintLast Go.Proofs.YtbamanjedfccpaaW.PrintMore Go.Proofs.Ytbamanjedfccpaa.X
set_option linter.unusedVariables false
set_option linter.unusedSimpArgs false
end Go.Proofs.Ytbamanjedfccpaa.HTab
namespace Go.Proofs.Ytbamanjedfccpaa.X
open Go.RowKit Go.Proofs.YtbamanjedfccpaaW.PrintWords Go.Proofs.YtbamanjedfccpaaW.PrintLast Go.Proofs.YtbamanjedfccpaaW.PrintMore Go.Proofs.Ytbamanjedfccpaa.HTab
def wax_Greatest.f (n : Int) (l : List S35) : Option (List Bool × Int) := if vdB n l = true then (fillZ fuelW (restP false n.toNat l 0 (n - 1))).bind fun r => (greatP fuelW ((restP false n.toNat l 0 (n - 1)).dat_ r.2.1 r.2.2.1 r.2.2.2)).map fun D => (D, 0) else some ([], 2)
end Go.Proofs.Ytbamanjedfccpaa.X
end
