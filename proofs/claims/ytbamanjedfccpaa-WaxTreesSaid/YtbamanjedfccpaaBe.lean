/- Lemmas of the proof: part Be. -/
import Derived.Test.YtbamanjedfccpaaBc
section
set_option linter.unusedVariables false
set_option linter.unusedSimpArgs false
namespace Go.Proofs.Ytbamanjedfccpaa.HTab
open Go.RowKit Go.Proofs.YtbamanjedfccpaaW.PrintWords Go.Proofs.YtbamanjedfccpaaW.PrintLast Go.Proofs.YtbamanjedfccpaaW.PrintMore Go.Proofs.Ytbamanjedfccpaa.X
set_option linter.unusedVariables false
set_option linter.unusedSimpArgs false
theorem R_at {w : World} {e base g m cap : Nat} {ok : Nat → Prop} {xs : List Int} (h : KI.R e w base ok (.slice (some ⟨g, 0, none⟩) m cap) xs) (i : Int) (h0 : 0 ≤ i) (h1 : i < m) : w.cell? ⟨g, i.toNat, none⟩ = some (.int .i64 (rd xs i)) ∧ w.frozen? ⟨g, i.toNat, none⟩ = false := by
  have hm := (Kd.R_reads' h).1
  subst hm
  exact Kd.R_cell (0 : Int) (h1 := fun _ => rfl) h i h0 (by omega)
structure RZ where
  n : Int
  arcs : List S35
  left : List Int
  out : List (List Int)
  src : Int
  snk : Int
  dep : List Int
  nxt : List Int
def Rw (w : World) (base : Nat) (col : Nat → Nat) (v : Value) (rows : List (List Int)) : Prop :=
  ∃ bo co cells, v = .slice (some ⟨bo, 0, none⟩) rows.length co ∧ base ≤ bo ∧ col bo = 2 ∧ w.heap[bo]? = some (.cells cells 40 (0, 0)) ∧ rows.length ≤ co ∧ True ∧ ∀ i (x : List Int), rows[i]? = some x → ∃ u, cells[i]? = some u ∧ KI.R 3 w base (fun k => col k = 10 + i) u x
theorem Rw.step {w w1 : World} {base : Nat} {col : Nat → Nat} {v : Value} {rows : List (List Int)} (h : Rw w base col v rows) (hm : ∀ k, (col k = 2 ∨ 10 ≤ col k) → k < w.heap.size → w1.heap[k]? = w.heap[k]?) : Rw w1 base col v rows := by
  obtain ⟨bo, co, cells, hv, hb, hc, hh, h1, h2, hr⟩ := h
  refine ⟨bo, co, cells, hv, hb, hc, (hm bo (.inl hc) (blk_lt hh)).trans hh, h1, h2, fun i x hx => ?_⟩
  obtain ⟨u, hu, hR⟩ := hr i x hx
  exact ⟨u, hu, Kd.R_step hR (fun k hk hl => hm k (.inr (by omega)) hl)⟩
theorem Rw.recol {w : World} {base : Nat} {col col' : Nat → Nat} {v : Value} {rows : List (List Int)} (h : Rw w base col v rows) (hc : ∀ k, k < w.heap.size → col' k = col k) : Rw w base col' v rows := by
  obtain ⟨bo, co, cells, hv, hb, hc2, hh, h1, h2, hr⟩ := h
  refine ⟨bo, co, cells, hv, hb, (hc bo (blk_lt hh)).trans hc2, hh, h1, h2, fun i x hx => ?_⟩
  obtain ⟨u, hu, hR⟩ := hr i x hx
  exact ⟨u, hu, Kd.R_mono (Kd.R_bound hR) (fun k hk => (hc k hk.2.2.1).trans hk.1)⟩
theorem Rw.at_ {w : World} {base : Nat} {col : Nat → Nat} {v : Value} {rows : List (List Int)} (h : Rw w base col v rows) (i : Int) (h0 : 0 ≤ i) (h1 : i < rows.length) :
    ∃ bo co A c, v = .slice (some ⟨bo, 0, none⟩) rows.length co ∧ w.cell? ⟨bo, i.toNat, none⟩ = some (.slice A (rowOf rows i).length c) ∧ (rowOf rows i).length ≤ c ∧ Kd.C KI w A (rowOf rows i).length (rowOf rows i) := by
  obtain ⟨bo, co, cells, hv, hb, hc, hh, h1', h2, hr⟩ := h
  have hi : i.toNat < rows.length := by omega
  have hx : rows[i.toNat]? = some (rowOf rows i) := by simp [rowOf, hi]
  obtain ⟨u, hu, hR⟩ := hr i.toNat _ hx
  obtain ⟨A, c, rfl, hcc, hC⟩ := Kd.R_reads hR
  exact ⟨bo, co, A, c, hv, (blk_cell hh i.toNat).trans hu, hcc, hC⟩
theorem Rw.row {w : World} {base : Nat} {col : Nat → Nat} {v : Value} {rows : List (List Int)} (h : Rw w base col v rows) (i : Int) (h0 : 0 ≤ i) (h1 : i < rows.length) :
    ∃ bo co A c, v = .slice (some ⟨bo, 0, none⟩) rows.length co ∧ w.cell? ⟨bo, i.toNat, none⟩ = some (.slice A (rowOf rows i).length c) ∧ KI.R 3 w base (fun k => col k = 10 + i.toNat) (.slice A (rowOf rows i).length c) (rowOf rows i) := by
  obtain ⟨bo, co, cells, hv, hb, hc, hh, h1', h2, hr⟩ := h
  have hi : i.toNat < rows.length := by omega
  have hx : rows[i.toNat]? = some (rowOf rows i) := by simp [rowOf, hi]
  obtain ⟨u, hu, hR⟩ := hr i.toNat _ hx
  obtain ⟨A, c, rfl, hcc, hC⟩ := Kd.R_reads hR
  exact ⟨bo, co, A, c, hv, (blk_cell hh i.toNat).trans hu, hR⟩
theorem Rw.rowK {w : World} {base bo m co : Nat} {col : Nat → Nat} {rows : List (List Int)} (h : Rw w base col (.slice (some ⟨bo, 0, none⟩) m co) rows) (i : Int) (h0 : 0 ≤ i) (h1 : i < rows.length) :
    ∃ A c, w.cell? ⟨bo, i.toNat, none⟩ = some (.slice A (rowOf rows i).length c) ∧ Kd.C KI w A (rowOf rows i).length (rowOf rows i) := by
  obtain ⟨bo', co', A, c, hv, hk, hR⟩ := h.row i h0 h1
  injection hv with e1 e2 e3
  injection e1 with e1
  injection e1 with e1
  subst e1
  exact ⟨A, c, hk, (Kd.R_reads' hR).2.2⟩
theorem lit1R (w : World) (x : Int) (b : Nat) (ok : Nat → Prop) (hb : b ≤ w.heap.size) (ho : ok w.heap.size) : KI.R 3 (w.alloc (.cells #[.int .i64 x] 3)) b ok (.slice (some ⟨w.heap.size, 0, none⟩) 1 1) [x] :=
  Kd.R_of_own (own_lit w b 3 .i64 [x] hb (by simp)) (fun k hk => by injection hk with hk; rw [← hk]; exact ho)
structure Rs (w0 w : World) (g : Nat) (col : Nat → Nat) (A1 : Option Addr) (c1 : Nat) (v2 v3 v6 v7 : Value) (Z : RZ) : Prop where
  bel : Below w0.heap.size w0 w
  box : w.heap[g]? = some (.cells #[.int .i64 Z.n, .slice A1 Z.arcs.length c1, v2, v3, .int .i64 Z.src, .int .i64 Z.snk, v6, v7] 93 (0, 0))
  hg : w0.heap.size ≤ g
  cg : col g = 0
  ca : Z.arcs.length ≤ c1
  arcs : Kd.C k35 w0 A1 Z.arcs.length Z.arcs
  left : KI.R 3 w w0.heap.size (fun k => col k = 1) v2 Z.left
  out : Rw w w0.heap.size col v3 Z.out
  dep : KI.R 3 w w0.heap.size (fun k => col k = 3) v6 Z.dep
  nxt : KI.R 3 w w0.heap.size (fun k => col k = 4) v7 Z.nxt
section
variable {w0 w w1 : World} {g : Nat} {col : Nat → Nat} {A1 : Option Addr} {c1 : Nat} {v2 v3 v6 v7 : Value} {Z : RZ}
theorem Rs.recol (h : Rs w0 w g col A1 c1 v2 v3 v6 v7 Z) {col' : Nat → Nat} (hc : ∀ k, k < w.heap.size → col' k = col k) : Rs w0 w g col' A1 c1 v2 v3 v6 v7 Z :=
  have r : ∀ {v : Value} {xs : List Int} {q : Nat}, KI.R 3 w w0.heap.size (fun k => col k = q) v xs → KI.R 3 w w0.heap.size (fun k => col' k = q) v xs := fun hR => Kd.R_mono (Kd.R_bound hR) (fun k hk => (hc k hk.2.2.1).trans hk.1)
  ⟨h.bel, h.box, h.hg, (hc g (blk_lt h.box)).trans h.cg, h.ca, h.arcs, r h.left, h.out.recol hc, r h.dep, r h.nxt⟩
theorem Rs.below (h : Rs w0 w g col A1 c1 v2 v3 v6 v7 Z) (hb : Below w.heap.size w w1) : Rs w0 w1 g col A1 c1 v2 v3 v6 v7 Z :=
  ⟨below_then h.bel h.bel.size hb, blk_below h.box hb, h.hg, h.cg, h.ca, h.arcs, Kd.R_below h.left hb, h.out.step (fun k _ hk => hb.block k hk), Kd.R_below h.dep hb, Kd.R_below h.nxt hb⟩
theorem Rs.far {b o : Nat} (h : Rs w0 w g col A1 c1 v2 v3 v6 v7 Z) (hp : 5 ≤ col b) (hp2 : col b < 10) (hpb : w0.heap.size ≤ b) (u : Value) : Rs w0 (w.setCell ⟨b, o, none⟩ u) g col A1 c1 v2 v3 v6 v7 Z :=
  ⟨below_set h.bel hpb, blk_far (p := ⟨b, o, none⟩) h.box (fun e => by have := h.cg; (try dsimp only at e); rw [e] at this; omega) u, h.hg, h.cg, h.ca, h.arcs, Kd.R_far (p := ⟨b, o, none⟩) h.left (fun k hk e => by (try dsimp only at hk e); rw [e] at hk; omega) u, h.out.step (fun k hk _ => Below.heap_setCell w ⟨b, o, none⟩ u k (fun e => by (try dsimp only at e); rw [e] at hk; omega)),
    Kd.R_far (p := ⟨b, o, none⟩) h.dep (fun k hk e => by (try dsimp only at hk e); rw [e] at hk; omega) u, Kd.R_far (p := ⟨b, o, none⟩) h.nxt (fun k hk e => by (try dsimp only at hk e); rw [e] at hk; omega) u⟩
theorem Rs.k0 (h : Rs w0 w g col A1 c1 v2 v3 v6 v7 Z) : w.cell? ⟨g, 0, none⟩ = some (.int .i64 Z.n) := (blk_cell h.box 0).trans rfl
theorem Rs.k1 (h : Rs w0 w g col A1 c1 v2 v3 v6 v7 Z) : w.cell? ⟨g, 1, none⟩ = some (.slice A1 Z.arcs.length c1) := (blk_cell h.box 1).trans rfl
theorem Rs.k2 (h : Rs w0 w g col A1 c1 v2 v3 v6 v7 Z) : w.cell? ⟨g, 2, none⟩ = some (v2) := (blk_cell h.box 2).trans rfl
theorem Rs.k3 (h : Rs w0 w g col A1 c1 v2 v3 v6 v7 Z) : w.cell? ⟨g, 3, none⟩ = some (v3) := (blk_cell h.box 3).trans rfl
theorem Rs.k4 (h : Rs w0 w g col A1 c1 v2 v3 v6 v7 Z) : w.cell? ⟨g, 4, none⟩ = some (.int .i64 Z.src) := (blk_cell h.box 4).trans rfl
theorem Rs.k5 (h : Rs w0 w g col A1 c1 v2 v3 v6 v7 Z) : w.cell? ⟨g, 5, none⟩ = some (.int .i64 Z.snk) := (blk_cell h.box 5).trans rfl
theorem Rs.k6 (h : Rs w0 w g col A1 c1 v2 v3 v6 v7 Z) : w.cell? ⟨g, 6, none⟩ = some (v6) := (blk_cell h.box 6).trans rfl
theorem Rs.k7 (h : Rs w0 w g col A1 c1 v2 v3 v6 v7 Z) : w.cell? ⟨g, 7, none⟩ = some (v7) := (blk_cell h.box 7).trans rfl
theorem Rs.fz (h : Rs w0 w g col A1 c1 v2 v3 v6 v7 Z) (i : Nat) : w.frozen? ⟨g, i, none⟩ = false := blk_frozen h.box i
theorem Rs.grown (h : Rs w0 w g col A1 c1 v2 v3 v6 v7 Z) {row : Option Nat} (hg : w.grownBy w1 row) (hB : Below w0.heap.size w0 w1) (hr : ∀ k, row = some k → 5 ≤ col k ∧ col k < 10) : Rs w0 w1 g col A1 c1 v2 v3 v6 v7 Z :=
  have far : ∀ k, (col k < 5 ∨ 10 ≤ col k) → some k ≠ row := fun k hk e => by have := hr k e.symm; omega
  ⟨hB, blk_grown h.box hg (far g (.inl (by rw [h.cg]; omega))), h.hg, h.cg, h.ca, h.arcs, Kd.R_grown h.left hg (fun k hk => far k (.inl (by (try dsimp only at hk); omega))), h.out.step (fun k hk hl => hg.block k hl (far k (by omega))),
    Kd.R_grown h.dep hg (fun k hk => far k (.inl (by (try dsimp only at hk); omega))), Kd.R_grown h.nxt hg (fun k hk => far k (.inl (by (try dsimp only at hk); omega)))⟩
theorem Rs.putD {bd m cd : Nat} (h : Rs w0 w g col A1 c1 v2 v3 (.slice (some ⟨bd, 0, none⟩) m cd) v7 Z) (i x : Int) : Rs w0 (w.setCell ⟨bd, i.toNat, none⟩ (.int .i64 x)) g col A1 c1 v2 v3 (.slice (some ⟨bd, 0, none⟩) m cd) v7 {Z with dep := Z.dep.set i.toNat x} := by
  have hm := (Kd.R_reads' h.dep).1
  subst hm
  have c3 : col bd = 3 := h.dep.1 bd rfl
  have hb := Kd.R_base h.dep bd rfl
  have hR := (Kd.R_put h.dep i x).1
  exact ⟨below_set h.bel hb, blk_far (p := ⟨bd, i.toNat, none⟩) h.box (fun e => by have := h.cg; replace e : g = bd := e; rw [e] at this; omega) _, h.hg, h.cg, h.ca, h.arcs, Kd.R_far (p := ⟨bd, i.toNat, none⟩) h.left (fun k hk e => by replace e : k = bd := e; subst e; (try dsimp only at hk); omega) _,
    h.out.step (fun k hk _ => Below.heap_setCell w ⟨bd, i.toNat, none⟩ _ k (fun e => by replace e : k = bd := e; subst e; omega)), hR, Kd.R_far (p := ⟨bd, i.toNat, none⟩) h.nxt (fun k hk e => by replace e : k = bd := e; subst e; (try dsimp only at hk); omega) _⟩
theorem Rs.putN {bd m cd : Nat} (h : Rs w0 w g col A1 c1 v2 v3 v6 (.slice (some ⟨bd, 0, none⟩) m cd) Z) (i x : Int) : Rs w0 (w.setCell ⟨bd, i.toNat, none⟩ (.int .i64 x)) g col A1 c1 v2 v3 v6 (.slice (some ⟨bd, 0, none⟩) m cd) {Z with nxt := Z.nxt.set i.toNat x} := by
  have hm := (Kd.R_reads' h.nxt).1
  subst hm
  have c3 : col bd = 4 := h.nxt.1 bd rfl
  have hb := Kd.R_base h.nxt bd rfl
  have hR := (Kd.R_put h.nxt i x).1
  exact ⟨below_set h.bel hb, blk_far (p := ⟨bd, i.toNat, none⟩) h.box (fun e => by have := h.cg; replace e : g = bd := e; rw [e] at this; omega) _, h.hg, h.cg, h.ca, h.arcs, Kd.R_far (p := ⟨bd, i.toNat, none⟩) h.left (fun k hk e => by replace e : k = bd := e; subst e; (try dsimp only at hk); omega) _,
    h.out.step (fun k hk _ => Below.heap_setCell w ⟨bd, i.toNat, none⟩ _ k (fun e => by replace e : k = bd := e; subst e; omega)), Kd.R_far (p := ⟨bd, i.toNat, none⟩) h.dep (fun k hk e => by replace e : k = bd := e; subst e; (try dsimp only at hk); omega) _, hR⟩
theorem Rs.putL {bd m cd : Nat} (h : Rs w0 w g col A1 c1 (.slice (some ⟨bd, 0, none⟩) m cd) v3 v6 v7 Z) (i x : Int) : Rs w0 (w.setCell ⟨bd, i.toNat, none⟩ (.int .i64 x)) g col A1 c1 (.slice (some ⟨bd, 0, none⟩) m cd) v3 v6 v7 {Z with left := Z.left.set i.toNat x} := by
  have hm := (Kd.R_reads' h.left).1
  subst hm
  have c3 : col bd = 1 := h.left.1 bd rfl
  have hb := Kd.R_base h.left bd rfl
  have hR := (Kd.R_put h.left i x).1
  exact ⟨below_set h.bel hb, blk_far (p := ⟨bd, i.toNat, none⟩) h.box (fun e => by have := h.cg; replace e : g = bd := e; rw [e] at this; omega) _, h.hg, h.cg, h.ca, h.arcs, hR,
    h.out.step (fun k hk _ => Below.heap_setCell w ⟨bd, i.toNat, none⟩ _ k (fun e => by replace e : k = bd := e; subst e; omega)), Kd.R_far (p := ⟨bd, i.toNat, none⟩) h.dep (fun k hk e => by replace e : k = bd := e; subst e; (try dsimp only at hk); omega) _, Kd.R_far (p := ⟨bd, i.toNat, none⟩) h.nxt (fun k hk e => by replace e : k = bd := e; subst e; (try dsimp only at hk); omega) _⟩
theorem Rs.boxD (h : Rs w0 w g col A1 c1 v2 v3 v6 v7 Z) {v : Value} {xs : List Int} (hR : KI.R 3 w w0.heap.size (fun k => col k = 3) v xs) : Rs w0 (w.setCell ⟨g, 6, none⟩ v) g col A1 c1 v2 v3 v v7 {Z with dep := xs} := by
  have ne : ∀ {q k : Nat}, col k = q → q ≠ 0 → k ≠ g := fun hk hq e => by have := h.cg; rw [← e] at this; omega
  exact ⟨below_set h.bel h.hg, blk_put (cs := #[.int .i64 Z.n, .slice A1 Z.arcs.length c1, v2, v3, .int .i64 Z.src, .int .i64 Z.snk, v6, v7]) h.box 6 v rfl, h.hg, h.cg, h.ca, h.arcs, Kd.R_far (p := ⟨g, 6, none⟩) h.left (fun k hk => ne hk (by decide)) _,
    h.out.step (fun k hk _ => Below.heap_setCell w ⟨g, 6, none⟩ _ k (fun e => by have := h.cg; (try dsimp only at e); rw [e] at hk; omega)), Kd.R_far (p := ⟨g, 6, none⟩) hR (fun k hk => ne hk (by decide)) _, Kd.R_far (p := ⟨g, 6, none⟩) h.nxt (fun k hk => ne hk (by decide)) _⟩
theorem Rs.boxN (h : Rs w0 w g col A1 c1 v2 v3 v6 v7 Z) {v : Value} {xs : List Int} (hR : KI.R 3 w w0.heap.size (fun k => col k = 4) v xs) : Rs w0 (w.setCell ⟨g, 7, none⟩ v) g col A1 c1 v2 v3 v6 v {Z with nxt := xs} := by
  have ne : ∀ {q k : Nat}, col k = q → q ≠ 0 → k ≠ g := fun hk hq e => by have := h.cg; rw [← e] at this; omega
  exact ⟨below_set h.bel h.hg, blk_put (cs := #[.int .i64 Z.n, .slice A1 Z.arcs.length c1, v2, v3, .int .i64 Z.src, .int .i64 Z.snk, v6, v7]) h.box 7 v rfl, h.hg, h.cg, h.ca, h.arcs, Kd.R_far (p := ⟨g, 7, none⟩) h.left (fun k hk => ne hk (by decide)) _,
    h.out.step (fun k hk _ => Below.heap_setCell w ⟨g, 7, none⟩ _ k (fun e => by have := h.cg; (try dsimp only at e); rw [e] at hk; omega)), Kd.R_far (p := ⟨g, 7, none⟩) h.dep (fun k hk => ne hk (by decide)) _, Kd.R_far (p := ⟨g, 7, none⟩) hR (fun k hk => ne hk (by decide)) _⟩
end
def endP (arcs : List S35) (e : Int) : Int := if e % 2 = 0 then (rd_T35 arcs (e / 2)).f1 else (rd_T35 arcs (e / 2)).f0
set_option maxRecDepth 100000 in
set_option maxHeartbeats 4000000 in
theorem end_calls {w0 w : World} {g : Nat} {col : Nat → Nat} {A1 : Option Addr} {c1 : Nat} {v2 v3 v6 v7 : Value} {Z : RZ} (h : Rs w0 w g col A1 c1 v2 v3 v6 v7 Z) (e : Int) (h0 : 0 ≤ e) (h1 : e < 2 * Z.arcs.length) :
    Calls Try.prog 80 #[.pointer (some ⟨g, 0, none⟩), .int .i64 e] w fun r w' => r = .returned (.int .i64 (endP Z.arcs e)) ∧ w = w' := by
  have k1 := (blk_cell h.box 1).trans rfl
  obtain ⟨ad, hA, x0, x1, x2⟩ := at_T35 (Kd.C_below h.arcs h.bel) (e / 2) (by omega) (by omega)
  subst hA
  have i0 : (e / 2 < 0) = False := eq_false (by omega)
  have i1 : (e / 2 < (Z.arcs.length : Int)) = True := eq_true (by omega)
  have i2 : 0 ≤ e / 2 := by omega
  have hmax := Kd.C_max h.arcs
  have qd : wrap64 (e.tdiv 2) = e / 2 := by rw [Int.tdiv_eq_ediv_of_nonneg h0]; unfold wrap64; omega
  clear h
  unfold endP
  by_cases hp : e % 2 = 0
  · have d0 : (e % 2 == 0) = true := by simpa using hp
    rw [if_pos hp]
    have hp' := Aside0.mk hp
    clear hp
    go_enter Try.func80, Try.ntmps80
    go_wp2
    go_ret
    exact ⟨rfl, rfl⟩
  · have d0 : (e % 2 == 0) = false := by simpa using hp
    have d1 : (e % 2 = 0) = False := eq_false hp
    rw [if_neg hp]
    clear hp
    go_enter Try.func80, Try.ntmps80
    go_wp2
    go_ret
    exact ⟨rfl, rfl⟩
end Go.Proofs.Ytbamanjedfccpaa.HTab
end

section
set_option linter.unusedVariables false
set_option linter.unusedSimpArgs false
namespace Go.Proofs.Ytbamanjedfccpaa.X
open Go.RowKit Go.Proofs.YtbamanjedfccpaaW.PrintWords Go.Proofs.YtbamanjedfccpaaW.PrintLast Go.Proofs.YtbamanjedfccpaaW.PrintMore
attribute [local go_sem] max2_int min2_int max_two min_two max_three min_three max_four min_four   -- for this text's walks alone
set_option linter.unusedVariables false
set_option linter.unusedSimpArgs false
def bits_Mul64.f (a0 : Int) (a1 : Int) : Option (Int × Int) := some (IntKind.u64.wrap ((IntKind.u64.wrap ((IntKind.u64.wrap ((a0 / 4294967296) * (a1 / 4294967296))) + ((IntKind.u64.wrap ((IntKind.u64.wrap ((a0 / 4294967296) * (Go.bits .and .u64 a1 4294967295))) + ((IntKind.u64.wrap ((Go.bits .and .u64 a0 4294967295) * (Go.bits .and .u64 a1 4294967295))) / 4294967296))) / 4294967296))) + ((IntKind.u64.wrap ((Go.bits .and .u64 (IntKind.u64.wrap ((IntKind.u64.wrap ((a0 / 4294967296) * (Go.bits .and .u64 a1 4294967295))) + ((IntKind.u64.wrap ((Go.bits .and .u64 a0 4294967295) * (Go.bits .and .u64 a1 4294967295))) / 4294967296))) 4294967295) + (IntKind.u64.wrap ((Go.bits .and .u64 a0 4294967295) * (a1 / 4294967296))))) / 4294967296)), IntKind.u64.wrap (a0 * a1))
set_option maxHeartbeats 8000000 in
set_option maxRecDepth 100000 in
theorem bits_Mul64.calls (a0 : Int) (a1 : Int) (r1 : Int) (r2 : Int) (w : World) (h : bits_Mul64.f a0 a1 = some (r1, r2)) :
    Calls Try.prog 87 #[.int .u64 a0, .int .u64 a1] w fun e w' => e = .returned (.tuple #[.int .u64 r1, .int .u64 r2]) ∧ Drawn0 w w' := by
  have H : (some (IntKind.u64.wrap ((IntKind.u64.wrap ((IntKind.u64.wrap ((a0 / 4294967296) * (a1 / 4294967296))) + ((IntKind.u64.wrap ((IntKind.u64.wrap ((a0 / 4294967296) * (Go.bits .and .u64 a1 4294967295))) + ((IntKind.u64.wrap ((Go.bits .and .u64 a0 4294967295) * (Go.bits .and .u64 a1 4294967295))) / 4294967296))) / 4294967296))) + ((IntKind.u64.wrap ((Go.bits .and .u64 (IntKind.u64.wrap ((IntKind.u64.wrap ((a0 / 4294967296) * (Go.bits .and .u64 a1 4294967295))) + ((IntKind.u64.wrap ((Go.bits .and .u64 a0 4294967295) * (Go.bits .and .u64 a1 4294967295))) / 4294967296))) 4294967295) + (IntKind.u64.wrap ((Go.bits .and .u64 a0 4294967295) * (a1 / 4294967296))))) / 4294967296)), IntKind.u64.wrap (a0 * a1))) = some (r1, r2) := h
  clear h
  simp only [Option.some.injEq, Prod.mk.injEq] at H
  obtain ⟨rfl, rfl⟩ := H
  go_enter Try.func87, Try.ntmps87
  go_wp2
  go_ret2
  exact ⟨by first | rfl | (simp; done) | (simp [*]; done), by repeat (first | exact Drawn0.refl _ | apply Drawn0.step)⟩
end Go.Proofs.Ytbamanjedfccpaa.X
end

section
set_option linter.unusedVariables false
set_option linter.unusedSimpArgs false
namespace Go.Proofs.Ytbamanjedfccpaa.X
open Go.RowKit Go.Proofs.YtbamanjedfccpaaW.PrintWords Go.Proofs.YtbamanjedfccpaaW.PrintLast Go.Proofs.YtbamanjedfccpaaW.PrintMore
attribute [local go_sem] max2_int min2_int max_two min_two max_three min_three max_four min_four   -- for this text's walks alone
set_option linter.unusedVariables false
set_option linter.unusedSimpArgs false
def bits_Mul.f (a0 : Int) (a1 : Int) : Option (Int × Int) := (bits_Mul64.f a0 a1).bind fun bt144 => (some (bt144.1, bt144.2))
set_option maxHeartbeats 8000000 in
set_option maxRecDepth 100000 in
theorem bits_Mul.calls (a0 : Int) (a1 : Int) (r1 : Int) (r2 : Int) (w : World) (h : bits_Mul.f a0 a1 = some (r1, r2)) :
    Calls Try.prog 85 #[.int .u64 a0, .int .u64 a1] w fun e w' => e = .returned (.tuple #[.int .u64 r1, .int .u64 r2]) ∧ Drawn0 w w' := by
  have H : ((bits_Mul64.f a0 a1).bind fun bt144 => (some (bt144.1, bt144.2))) = some (r1, r2) := h
  clear h
  replace H := Option.bind_eq_some_iff.mp H
  obtain ⟨⟨t144, t145⟩, A30, H⟩ := H
  replace H : (some (t144, t145)) = some (r1, r2) := H
  have A3 := Aside0.mk A30
  clear A30
  simp only [Option.some.injEq, Prod.mk.injEq] at H
  obtain ⟨rfl, rfl⟩ := H
  go_enter Try.func85, Try.ntmps85
  go_wp2_with (first | ((with_reducible refine gate_callee (f := 87) rfl ?_); refine goesL_ (some 25) rfl rfl Try.func87 (by kernel_rfl) rfl #[.int .u64 a0, .int .u64 a1] rfl (by (try simp only [List.map_toArray, List.map_cons, List.map_nil]); first | done | rfl | (simp only [List.length_drop, List.length_take]; rfl)) ?_; (with_reducible refine (bits_Mul64.calls a0 a1 t144 t145 _ A3.out).mono ?_); rintro e w' ⟨rfl, ⟨nd, rfl⟩⟩; refine ⟨_, rfl, ?_⟩))
  go_ret2
  exact ⟨by first | rfl | (simp; done) | (simp [*]; done), by repeat (first | exact Drawn0.refl _ | apply Drawn0.step)⟩
end Go.Proofs.Ytbamanjedfccpaa.X
end

section
set_option linter.unusedVariables false
set_option linter.unusedSimpArgs false
namespace Go.Proofs.Ytbamanjedfccpaa.HTab
open Go.RowKit Go.Proofs.YtbamanjedfccpaaW.PrintWords Go.Proofs.YtbamanjedfccpaaW.PrintLast Go.Proofs.YtbamanjedfccpaaW.PrintMore Go.Proofs.Ytbamanjedfccpaa.X
set_option linter.unusedVariables false
set_option linter.unusedSimpArgs false
theorem copy_front {P : Program} {w : World} {t e : TypeId} (ty : TypeId) {base g cap N n : Nat} {ok : Nat → Prop} {x : Int} (ht : P.underlying t = some (.slice e)) (hinfo : (P.info? e).map (·.size) = some 1)
    (h : (Kd.int .i64).R e w base ok (.slice (some ⟨g, 0, none⟩) N cap) (List.replicate n x ++ List.replicate (N - n) 0)) (hn : n ≤ N) :
    ∃ w1, (Builtin.copy_ #[t, t] ty #[.slice (some ⟨g, n, none⟩) (N - n) (cap - n), .slice (some ⟨g, 0, none⟩) n cap]).run P w = .ok (goInt ((min n (N - n) : Nat) : Int)) w1 ∧
      (Kd.int .i64).R e w1 base ok (.slice (some ⟨g, 0, none⟩) N cap) (List.replicate (n + min n (N - n)) x ++ List.replicate (N - (n + min n (N - n))) 0) ∧ w.grownBy w1 (some g) := by
  have hlen : (List.replicate n x ++ List.replicate (N - n) (0 : Int)).length = N := by simp; omega
  have hown := Kd.own_of_R h
  rw [hlen] at hown
  obtain ⟨m, hm⟩ : ∃ m, m = min n (N - n) := ⟨_, rfl⟩
  rw [← hm]
  rcases Nat.eq_zero_or_pos m with h0 | hp
  · refine ⟨w, ?_, ?_, World.grownBy.refl w _⟩
    · rw [h0]
      exact run_copy_none w t t ty e _ _ _ _ _ _ ht hinfo (by rw [h0] at hm; exact hm.symm)
    · rw [h0, Nat.add_zero]; exact h
  · rcases hown.2 with ⟨hv, _⟩ | ⟨g', cap', cur, hv, hb, hh, hnc, hcm, hcs, htake⟩
    · cases hv
    · obtain ⟨rfl, rfl⟩ : g = g' ∧ cap = cap' := by
        injection hv with e1 e2 e3
        injection e1 with e1
        injection e1 with e1
        exact ⟨e1, e3⟩
      have hcs1 : cur.size = cap := by omega
      have htk : cur.toList.take N = (List.replicate n x ++ List.replicate (N - n) 0).map (Value.int .i64) := by
        have := htake
        rw [Nat.mul_one] at this
        exact this
      have hcell : ∀ j, j < n → cur[j]? = some (.int .i64 x) := fun j hj => by
        have h1 : (cur.toList.take N)[j]? = some (.int .i64 x) := by
          rw [htk, List.getElem?_map, List.getElem?_append_left (by simp; omega), List.getElem?_replicate, if_pos hj]
          rfl
        rw [List.getElem?_take, if_pos (by omega)] at h1
        simpa using h1
      have hvals : (List.replicate m (Value.int .i64 x)).length = m := List.length_replicate
      have hr := run_copy_cells (P := P) w t t ty e g n (N - n) (cap - n) ⟨g, 0, none⟩ n cap (List.replicate m (Value.int .i64 x)) ht hinfo (by rw [hvals, hm])
        (fun j u hj => by
          rw [List.getElem?_replicate] at hj
          split at hj
          · injection hj with hj
            subst hj
            rw [add_plain, cell_of_row w g _ cur e (0, 0) hh]
            exact hcell j (by omega)
          · cases hj)
        (fun j hj => by rw [cell_of_row w g _ cur e (0, 0) hh]; rw [hvals] at hj; simp; omega) (fun j _ => blk_frozen hh _) (fun u hu => by rw [List.mem_replicate] at hu; rw [hu.2]; rfl)
      obtain ⟨cur', h3, h4, h5⟩ := setCells_row (List.replicate m (Value.int .i64 x)) n w cur hh (by rw [hvals]; omega)
      obtain ⟨s1, s2, s3, s4⟩ := setCells_same g (List.replicate m (Value.int .i64 x)) n w
      refine ⟨_, by rw [hr, hvals], Kd.R_of_own ?_ h.1, ⟨s1, s2, s3, by rw [s4]; exact Nat.le_refl _, fun k _ hk => setCells_far _ _ k (fun he => hk (by rw [he]))⟩⟩
      have hln : (List.replicate (n + m) x ++ List.replicate (N - (n + m)) (0 : Int)).length = N := by simp; omega
      rw [hln]
      refine ⟨by rw [encs_length, hln, Nat.mul_one], .inr ⟨g, cap, cur', rfl, hb, h3, hnc, hcm, by rw [h4, hcs], ?_⟩⟩
      rw [h5, Nat.mul_one, hvals]
      unfold encs
      have e1 : cur.toList.take n = List.replicate n (Value.int .i64 x) := by
        have h2 : (cur.toList.take N).take n = List.replicate n (Value.int .i64 x) := by
          rw [htk, List.map_append, List.map_replicate, List.take_append_of_le_length (by simp), List.take_of_length_le (by simp)]
        rwa [List.take_take, Nat.min_eq_left hn] at h2
      have e2 : (cur.toList.drop (n + m)).take (N - (n + m)) = List.replicate (N - (n + m)) (Value.int .i64 0) := by
        have h2 : (cur.toList.take N).drop (n + m) = List.replicate (N - (n + m)) (Value.int .i64 0) := by
          rw [htk, List.map_append, List.map_replicate, List.map_replicate, List.drop_append, show (List.replicate n (Value.int .i64 x)).drop (n + m) = [] from List.drop_eq_nil_of_le (by simp), List.nil_append, List.length_replicate, List.drop_replicate]
          congr 1
          omega
        rwa [List.drop_take] at h2
      rw [List.take_append, List.take_of_length_le (by rw [List.length_append, e1]; simp; omega), List.length_append, e1, List.length_replicate, List.length_replicate, e2]
      rw [List.map_append, List.map_replicate, List.map_replicate, List.replicate_append_replicate]
theorem mul_one_f (n : Int) (h0 : 0 ≤ n) (h1 : n ≤ 1000) : bits_Mul.f 1 n = some (0, n) := by
  obtain ⟨k, rfl⟩ : ∃ k : Nat, n = k := ⟨n.toNat, by omega⟩
  have : ∀ k : Fin 1001, bits_Mul.f 1 ((k.val : Nat) : Int) = some (0, ((k.val : Nat) : Int)) := by decide +kernel
  exact this ⟨k, by omega⟩
theorem made_slice {w : World} {base e : Nat} {ok : Nat → Prop} {v : Value} {xs : List Int} (h : (Kd.int .i64).R e w base ok v xs) (hne : ∃ b, v.ownBlock = some b ∧ base ≤ b) : ∃ g cap, v = .slice (some ⟨g, 0, none⟩) xs.length cap ∧ g < w.heap.size := by
  obtain ⟨b, hb, _⟩ := hne
  rcases (Kd.own_of_R h).2 with ⟨rfl, _⟩ | ⟨g, cap, cur, rfl, _, hh, _⟩
  · cases hb
  · exact ⟨g, cap, rfl, blk_lt hh⟩
def tb_RepeatI_9.T : Bool × List (List Nat × List Nat) := (true, [([], []), ([], []), ([], []), ([1, 2], [1, 2]), ([], []), ([], []), ([4, 5], [4, 5]), ([3, 6], [3, 6]), ([0, 7], [0, 7]), ([8, 7, 0, 1, 2, 3, 4, 5, 6, 7, 8], [0, 2, 5, 8])])
def tb_RepeatI_9.B : List Nat := [0, 0, 0, 6, 0, 0, 48, 126, 255, 511]
theorem tb_RepeatI_9.tab : rtab .any (opsOf Try.f82 9) = tb_RepeatI_9.T := by kernel_rfl
theorem tb_RepeatI_9.bits : waitsOk tb_RepeatI_9.T.2 tb_RepeatI_9.B = true := by kernel_rfl
set_option maxRecDepth 100000 in
set_option maxHeartbeats 4000000 in
theorem repeat_calls (x n : Int) (A : Option Addr) (c : Nat) (w : World) (hC : Kd.C (Kd.int .i64) w A 1 [x]) (h0 : 0 ≤ n) (h1 : n ≤ 1000) :
    Calls Try.prog 82 #[.slice A 1 c, .int .i64 n] w fun e w' => ∃ g cap, e = .returned (.slice (some ⟨g, 0, none⟩) n.toNat cap) ∧ (Kd.int .i64).R 3 w' w.heap.size (fun _ => True) (.slice (some ⟨g, 0, none⟩) n.toNat cap) (List.replicate n.toNat x) ∧ Below w.heap.size w w' ∧ g < w'.heap.size := by
  obtain ⟨N, rfl⟩ : ∃ k : Nat, n = k := ⟨n.toNat, by omega⟩
  rw [Int.toNat_natCast]
  have HC := Aside0.mk hC
  have q0 : ((N : Int) < 0) = False := eq_false (by omega)
  have q1 : decide ((N : Int) < 0) = false := decide_eq_false (by omega)
  have q2 : IntKind.u64.wrap (N : Int) = (N : Int) := by simp only [IntKind.wrap_u64]; omega
  have q3 : IntKind.u64.wrap 1 = 1 := by decide
  have q4 : decide ((N : Int) > 9223372036854775807) = false := decide_eq_false (by omega)
  have q4' : decide ((9223372036854775807 : Int) < (N : Int)) = false := decide_eq_false (by omega)
  have q5 : wrap64 (N : Int) = N := by unfold wrap64; omega
  have HM := Aside0.mk (mul_one_f (N : Int) (by omega) (by omega))
  clear hC
  go_enter Try.func82, Try.ntmps82
  go_wp2_with fail
  refine (bits_Mul.calls 1 (N : Int) 0 (N : Int) _ HM.out).mono ?_
  rintro e w1 ⟨rfl, ⟨m1, rfl⟩⟩
  have HB := Aside0.mk (pw_below_drewN (Below.refl w.heap.size w) m1)
  have HS : Aside0 (w.heap.size ≤ (w.drewN m1).heap.size) := ⟨HB.out.size⟩
  go_wp2_with ((with_reducible refine gate_dst (N := 30) rfl ?_); refine mark_ ?_)
  refine ⟨?_⟩
  refine Kd.R_make (Kd.int .i64) (w0 := w) w.heap.size 3 rfl (N := 30) rfl 40 _ _ rfl (N : Int) rfl rfl Try.underlying40 (.int .i64 0) 8 info3 rfl (by decide) (by omega) 0 (ok := fun _ => True) (okp := fun _ => False) rfl (fun _ h => trivial) trivial (by omega) (by rw [Int.toNat_natCast]; omega) HB.out HS.out ?_
  intro v2 w2 hR2 hB2 hg2 hne2
  obtain ⟨g, cap, rfl, hgl⟩ := made_slice hR2 (by obtain ⟨b, k1, k2⟩ := hne2; exact ⟨b, k1, Nat.le_trans HS.out k2⟩)
  rw [List.length_replicate, Int.toNat_natCast] at hR2
  rw [List.length_replicate, Int.toNat_natCast]
  have R2 := Aside0.mk hR2
  have B2 := Aside0.mk hB2
  have G2 := Aside0.mk hgl
  clear hR2 hB2 hg2 hne2 hgl
  go_wp2_with ((with_reducible refine gate_dst (N := 33) rfl ?_); refine mark_ ?_)
  refine ⟨?_⟩
  refine Kd.R_copy (0 : Int) (w0 := w) w.heap.size rfl _ _ 40 40 3 rfl Try.underlying40 (by kernel_rfl) (.slice (some ⟨g, 0, none⟩) N cap) (List.replicate N 0) [x] A 1 c (fun _ => True) rfl rfl R2.out (Kd.C_below HC.out (B2.out)) B2.out B2.out.size ?_
  intro w3 hR3 hB3 hg3
  rw [List.length_replicate] at hR3
  have R3 : Aside0 ((Kd.int .i64).R 3 w3 w.heap.size (fun _ => True) (.slice (some ⟨g, 0, none⟩) N cap) (List.replicate (min 1 N) x ++ List.replicate (N - min 1 N) 0)) := ⟨by
    have e : [x].take (min 1 N) ++ (List.replicate N (0 : Int)).drop (min 1 N) = List.replicate (min 1 N) x ++ List.replicate (N - min 1 N) 0 := by
      rcases Nat.eq_zero_or_pos N with h | h
      · subst h; rfl
      · rw [Nat.min_eq_left (by omega)]; simp
    rw [← e]
    exact hR3⟩
  have B3 := Aside0.mk hB3
  have G3 : Aside0 (g < w3.heap.size) := ⟨Nat.lt_of_lt_of_le G2.out hg3.size⟩
  rw [List.length_replicate]
  clear hR3 hB3 hg3
  go_wp2
  go_loopg [8] (N) (fun kq v8 w' => ∃ n : Nat, (N ≤ n + kq ∧ n ≤ N) ∧ v8 = .int .i64 n ∧ (0 < n ∨ N = 0) ∧ Aside0 ((Kd.int .i64).R 3 w' w.heap.size (fun _ => True) (.slice (some ⟨g, 0, none⟩) N cap) (List.replicate n x ++ List.replicate (N - n) 0)) ∧ Aside0 (Below w.heap.size w w') ∧ Aside0 (g < w'.heap.size))
  case atStart => exact ⟨min 1 N, by omega, rfl, by omega, R3, B3, G3⟩
  case round =>
    clear R3 B3 G3 B2 R2 G2
    obtain ⟨n, hn, rfl, hp, HR, HW, HG⟩ := hrel
    by_cases hlt : n < N
    · have hdec : decide (n < N) = true := decide_eq_true hlt
      obtain ⟨hn1, hn2⟩ := hn
      have hcap := (Kd.R_reads' HR.out).2.1
      have z0 : (0 : Int) ≤ n := by omega
      have z1 : (n : Int) ≤ N := by omega
      have z2 : (n : Int) ≤ cap := by omega
      have z3 : (N : Int) ≤ cap := by omega
      have z4 : (cap = n) = False := eq_false (by omega)
      have z5 : n ≤ cap := by omega
      have z6 : n ≤ N := hn2
      have z7 : N ≤ cap := hcap
      have hgb : w.heap.size ≤ g := by
        obtain ⟨g', cap', e1, e2, _⟩ := Kd.R_form HR.out (by simp; omega)
        injection e1 with e1
        injection e1 with e1
        injection e1 with e1
        omega
      go_wp2
      obtain ⟨w5, hc5, hR5, hG5⟩ := copy_front (P := Try.prog) (t := 40) (e := 3) 3 Try.underlying40 (by kernel_rfl) (w := wr.drew) (Kd.R_drew HR.out) z6
      refine start_ (n := 10) (S := fun w' => True) (ds := [7]) #[false, false, false, false, false, false, false, false, false, false] (by kernel_rfl) rfl rfl trivial (fun hHeld => ?_)
      refine with_tabW tb_RepeatI_9.tab tb_RepeatI_9.bits (fun HT_ HW_ => ?_)
      refine pure_ (i := 0) (N := some 38) (v := ?_) (a' := ?_) #[true, false, false, false, false, false, false, false, false, false] rfl rfl (any_of HT_.out (by kernel_rfl)) (fun _ _ _ h => h) (Or.inl ⟨by rfl, ?_⟩) ?_ ?_
      rotate_left
      · intro w'
        go_simp
        with_reducible rfl
      rotate_left
      · simp only [Act.put, List.setIfInBounds_toArray, List.set_cons_zero, List.set_cons_succ, i64_w, i32_w]
        rfl
      refine pure_ (i := 1) (N := some 39) (v := ?_) (a' := ?_) #[true, true, false, false, false, false, false, false, false, false] rfl rfl (any_of HT_.out (by kernel_rfl)) (fun _ _ _ h => h) (Or.inl ⟨by rfl, ?_⟩) ?_ ?_
      rotate_left
      · intro w'
        go_simp
        with_reducible rfl
      rotate_left
      · simp only [Act.put, List.setIfInBounds_toArray, List.set_cons_zero, List.set_cons_succ, i64_w, i32_w]
        rfl
      refine pure_ (i := 2) (N := some 40) (v := ?_) (a' := ?_) #[true, true, true, false, false, false, false, false, false, false] rfl rfl (any_of HT_.out (by kernel_rfl)) (fun _ _ _ h => h) (Or.inl ⟨by rfl, ?_⟩) ?_ ?_
      rotate_left
      · intro w'
        go_simp
        with_reducible rfl
      rotate_left
      · simp only [Act.put, List.setIfInBounds_toArray, List.set_cons_zero, List.set_cons_succ, i64_w, i32_w]
        rfl
      refine pure_ (i := 3) (N := some 41) (v := ?_) (a' := ?_) #[true, true, true, true, false, false, false, false, false, false] rfl rfl (any_of HT_.out (by kernel_rfl)) (fun _ _ _ h => h) (Or.inl ⟨by rfl, ?_⟩) ?_ ?_
      rotate_left
      · intro w'
        go_simp
        with_reducible rfl
      rotate_left
      · simp only [Act.put, List.setIfInBounds_toArray, List.set_cons_zero, List.set_cons_succ, i64_w, i32_w]
        rfl
      refine pure_ (i := 4) (N := some 42) (v := ?_) (a' := ?_) #[true, true, true, true, true, false, false, false, false, false] rfl rfl (any_of HT_.out (by kernel_rfl)) (fun _ _ _ h => h) (Or.inl ⟨by rfl, ?_⟩) ?_ ?_
      rotate_left
      · intro w'
        go_simp
        with_reducible rfl
      rotate_left
      · simp only [Act.put, List.setIfInBounds_toArray, List.set_cons_zero, List.set_cons_succ, i64_w, i32_w]
        rfl
      refine pure_ (i := 5) (N := some 43) (v := ?_) (a' := ?_) #[true, true, true, true, true, true, false, false, false, false] rfl rfl (any_of HT_.out (by kernel_rfl)) (fun _ _ _ h => h) (Or.inl ⟨by rfl, ?_⟩) ?_ ?_
      rotate_left
      · intro w'
        go_simp
        with_reducible rfl
      rotate_left
      · simp only [Act.put, List.setIfInBounds_toArray, List.set_cons_zero, List.set_cons_succ, i64_w, i32_w]
        rfl
      refine pure_ (i := 6) (N := some 44) (v := ?_) (a' := ?_) #[true, true, true, true, true, true, true, false, false, false] rfl rfl (any_of HT_.out (by kernel_rfl)) (fun _ _ _ h => h) (Or.inl ⟨by rfl, ?_⟩) ?_ ?_
      rotate_left
      · intro w'
        go_simp
        with_reducible rfl
      rotate_left
      · simp only [Act.put, List.setIfInBounds_toArray, List.set_cons_zero, List.set_cons_succ, i64_w, i32_w]
        rfl
      refine last_ (i := 7) (N := some 45) #[true, true, true, true, true, true, true, true, false, false] rfl rfl (one_of HT_.out (by kernel_rfl)) (by decide) (fun K hK => ?_)
      refine value_ (w1 := w5) (v := .int .i64 ((min n (N - n) : Nat) : Int)) (by rfl) rfl ?_ ?_
      · go_simp
        try rw [hc5]
        try rfl
      have q8 : wrap64 ((n : Int) + ((min n (N - n) : Nat) : Int)) = ((n + min n (N - n) : Nat) : Int) := by unfold wrap64; omega
      refine hK.out _ _ ?_
      clear hK K
      refine norm_ (a' := ?_) ?_ ?_
      rotate_left
      · show Act.put _ (some 45) _ = _
        (try simp only [Act.put, List.setIfInBounds_toArray, List.set_cons_zero, List.set_cons_succ, i64_w, i32_w])
        rfl
      refine pure_ (i := 8) (N := some 46) (v := ?_) (a' := ?_) #[true, true, true, true, true, true, true, true, true, false] rfl rfl (any_of HT_.out (by kernel_rfl)) (fun _ _ _ h => h) (Or.inl ⟨by rfl, ?_⟩) ?_ ?_
      rotate_left
      · intro w'
        go_simp
        with_reducible rfl
      rotate_left
      · simp only [Act.put, List.setIfInBounds_toArray, List.set_cons_zero, List.set_cons_succ, i64_w, i32_w]
        rfl
      refine pure_ (i := 9) (N := some 8) (v := ?_) (a' := ?_) #[true, true, true, true, true, true, true, true, true, true] rfl rfl (any_of HT_.out (by kernel_rfl)) (fun _ _ _ h => h) (Or.inl ⟨by rfl, ?_⟩) ?_ ?_
      rotate_left
      · intro w'
        go_simp
        with_reducible rfl
      rotate_left
      · simp only [Act.put, List.setIfInBounds_toArray, List.set_cons_zero, List.set_cons_succ, i64_w, i32_w]
        rfl
      refine done_ (done_of HT_.out (by kernel_rfl)) ?_
      go_wp2
      go_roundg (N - (n + min n (N - n)))
      case measure => omega
      case rel => exact ⟨n + min n (N - n), by omega, by first | rfl | (simp; done), by omega, ⟨hR5⟩, ⟨(below_drew HW.out).grown hG5 (below_drew HW.out).size (fun k hk => by injection hk with hk; omega)⟩, ⟨Nat.lt_of_lt_of_le HG.out hG5.size⟩⟩
    · have hdec : decide (n < N) = false := decide_eq_false hlt
      obtain ⟨hn1, hn2⟩ := hn
      obtain rfl : n = N := by omega
      go_wp2
      go_ret
      have hR := HR.out
      rw [Nat.sub_self, List.replicate_zero, List.append_nil] at hR
      exact ⟨_, _, rfl, hR, HW.out, HG.out⟩
end Go.Proofs.Ytbamanjedfccpaa.HTab
end
