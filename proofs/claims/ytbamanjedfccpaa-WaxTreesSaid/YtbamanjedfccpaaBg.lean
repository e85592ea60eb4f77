/- Lemmas of the proof: part Bg. -/
import Derived.Test.YtbamanjedfccpaaBe
import Derived.Test.YtbamanjedfccpaaBf
section
set_option linter.unusedVariables false
set_option linter.unusedSimpArgs false
namespace Go.Proofs.Ytbamanjedfccpaa.HTab
open Go.RowKit Go.Proofs.YtbamanjedfccpaaW.PrintWords Go.Proofs.YtbamanjedfccpaaW.PrintLast Go.Proofs.YtbamanjedfccpaaW.PrintMore Go.Proofs.Ytbamanjedfccpaa.X
set_option linter.unusedVariables false
set_option linter.unusedSimpArgs false
def leftF (both : Bool) : List S35 → List Int → List Int
  | [], L => L
  | a :: l, L => leftF both l (L ++ [a.f2, if both then a.f2 else 0])
def outF : List S35 → Nat → List (List Int) → List (List Int)
  | [], _, O => O
  | a :: l, i, O => outF l (i + 1) ((O.set a.f0.toNat (rowOf O a.f0 ++ [2 * (i : Int)])).set a.f1.toNat (rowOf (O.set a.f0.toNat (rowOf O a.f0 ++ [2 * (i : Int)])) a.f1 ++ [2 * (i : Int) + 1]))
def restP (both : Bool) (N : Nat) (arcs : List S35) (src snk : Int) : RZ := ⟨N, arcs, leftF both arcs [], outF arcs 0 (List.replicate N []), src, snk, [], []⟩
def nilK : Kd Unit := Kd.scalar (fun _ => .slice none 0 0) (fun _ => rfl)
theorem Rw.made {w : World} {base bo N co : Nat} {col : Nat → Nat} (h : nilK.R 40 w base (fun k => col k = 2) (.slice (some ⟨bo, 0, none⟩) N co) (List.replicate N ())) (h0 : 0 < N) : Rw w base col (.slice (some ⟨bo, 0, none⟩) N co) (List.replicate N []) := by
  have hown := Kd.own_of_R h
  have hc := h.1 bo rfl
  rw [List.length_replicate] at hown
  rcases hown.2 with ⟨hv, _⟩ | ⟨g, cap, cur, hv, hb, hh, hnc, hcm, hcs, htake⟩
  · cases hv
  · injection hv with e1 e2 e3
    injection e1 with e1
    injection e1 with e1
    subst e1; subst e3
    refine ⟨bo, co, cur, by rw [List.length_replicate], hb, hc, hh, by rw [List.length_replicate]; exact hnc, trivial, fun i x hx => ?_⟩
    obtain ⟨hi, hx2⟩ := List.getElem?_eq_some_iff.1 hx
    rw [List.getElem_replicate] at hx2
    subst hx2
    rw [List.length_replicate] at hi
    refine ⟨.slice none 0 0, ?_, Kd.R_nil _ _ _ _ _⟩
    have h2 : (cur.toList.take (N * 1))[i]? = some (.slice none 0 0) := by
      rw [htake]
      simp [encs, hi]
    rw [Nat.mul_one, List.getElem?_take, if_pos hi] at h2
    simpa using h2
theorem Rw.rowR {w : World} {base bo m co : Nat} {col : Nat → Nat} {rows : List (List Int)} (h : Rw w base col (.slice (some ⟨bo, 0, none⟩) m co) rows) (i : Int) (h0 : 0 ≤ i) (h1 : i < rows.length) :
    ∃ A c, w.cell? ⟨bo, i.toNat, none⟩ = some (.slice A (rowOf rows i).length c) ∧ w.frozen? ⟨bo, i.toNat, none⟩ = false ∧ KI.R 3 w base (fun k => col k = 10 + i.toNat) (.slice A (rowOf rows i).length c) (rowOf rows i) := by
  obtain ⟨bo', co', cells, hv, hb, hc, hh, h1', h2, hr⟩ := h
  injection hv with e1 e2 e3
  injection e1 with e1
  injection e1 with e1
  subst e1
  have hi : i.toNat < rows.length := by omega
  have hx : rows[i.toNat]? = some (rowOf rows i) := by simp [rowOf, hi]
  obtain ⟨u, hu, hR⟩ := hr i.toNat _ hx
  obtain ⟨A, c, rfl, hcc, hC⟩ := Kd.R_reads hR
  exact ⟨A, c, (blk_cell hh i.toNat).trans hu, blk_frozen hh _, hR⟩
section
variable {w0 w w1 : World} {g : Nat} {col : Nat → Nat} {A1 : Option Addr} {c1 : Nat} {v2 v3 v6 v7 : Value} {Z : RZ}
theorem Rs.boxL (h : Rs w0 w g col A1 c1 v2 v3 v6 v7 Z) {v v1 : Value} {xs : List Int} (hv : ∀ k, v.ownBlock = some k → col k = 1) (hg : w.grownBy w1 v.ownBlock) (hB : Below w0.heap.size w0 w1) (hR : KI.R 3 w1 w0.heap.size (fun k => col k = 1) v1 xs) : Rs w0 (w1.setCell ⟨g, 2, none⟩ v1) g col A1 c1 v1 v3 v6 v7 {Z with left := xs} := by
  have far : ∀ {q k : Nat}, col k = q → q ≠ 1 → some k ≠ v.ownBlock := fun hk hq e => hq (hk.symm.trans (hv _ e.symm))
  have hb := blk_grown h.box hg (far h.cg (by decide))
  have ne : ∀ {q k : Nat}, col k = q → q ≠ 0 → k ≠ g := fun hk hq e => by have := h.cg; rw [← e] at this; omega
  have ho := h.out.step (w1 := w1) (fun k hk hl => hg.block k hl (fun e => by have := hv k e.symm; omega))
  exact ⟨below_set hB h.hg, blk_put (cs := #[.int .i64 Z.n, .slice A1 Z.arcs.length c1, v2, v3, .int .i64 Z.src, .int .i64 Z.snk, v6, v7]) hb 2 v1 rfl, h.hg, h.cg, h.ca, h.arcs, Kd.R_far (p := ⟨g, 2, none⟩) hR (fun k hk => ne hk (by decide)) _,
    ho.step (fun k hk _ => Below.heap_setCell w1 ⟨g, 2, none⟩ _ k (fun e => by have := h.cg; (try dsimp only at e); rw [e] at hk; omega)), Kd.R_far (p := ⟨g, 2, none⟩) (Kd.R_grown h.dep hg (fun k hk => far hk (by decide))) (fun k hk => ne hk (by decide)) _, Kd.R_far (p := ⟨g, 2, none⟩) (Kd.R_grown h.nxt hg (fun k hk => far hk (by decide))) (fun k hk => ne hk (by decide)) _⟩
theorem Rs.putO {bo m co : Nat} (h : Rs w0 w g col A1 c1 v2 (.slice (some ⟨bo, 0, none⟩) m co) v6 v7 Z) (u : Nat) (hu : u < Z.out.length) {v v1 : Value} {xs : List Int} (hv : ∀ k, v.ownBlock = some k → col k = 10 + u) (hg : w.grownBy w1 v.ownBlock) (hB : Below w0.heap.size w0 w1) (hR : KI.R 3 w1 w0.heap.size (fun k => col k = 10 + u) v1 xs) : Rs w0 (w1.setCell ⟨bo, u, none⟩ v1) g col A1 c1 v2 (.slice (some ⟨bo, 0, none⟩) m co) v6 v7 {Z with out := Z.out.set u xs} := by
  have far : ∀ {q k : Nat}, col k = q → q ≠ 10 + u → some k ≠ v.ownBlock := fun hk hq e => hq (hk.symm.trans (hv _ e.symm))
  obtain ⟨bo', co', cells, hvv, hb, hc, hh, h1', h2, hr⟩ := h.out
  injection hvv with e1 e2 e3
  injection e1 with e1
  injection e1 with e1
  subst e1; subst e3; subst e2
  have ne : ∀ {q k : Nat}, col k = q → q ≠ 2 → k ≠ bo := fun hk hq e => by subst e; omega
  have hh1 := blk_grown hh hg (far hc (by omega))
  have hsz : u < cells.size := by
    obtain ⟨y, hy, _⟩ := hr u _ (List.getElem?_eq_getElem hu)
    exact (Array.getElem?_eq_some_iff.1 hy).1
  refine ⟨below_set hB hb, blk_far (p := ⟨bo, u, none⟩) (blk_grown h.box hg (far h.cg (by omega))) (fun e => ne h.cg (by decide) e) _, h.hg, h.cg, h.ca, h.arcs, Kd.R_far (p := ⟨bo, u, none⟩) (Kd.R_grown h.left hg (fun k hk => far hk (by omega))) (fun k hk => ne hk (by decide)) _,
    ⟨bo, co, cells.setIfInBounds u v1, by rw [List.length_set], hb, hc, blk_set hh1 u v1, by rw [List.length_set]; exact h1', h2, fun i x hx => ?_⟩, Kd.R_far (p := ⟨bo, u, none⟩) (Kd.R_grown h.dep hg (fun k hk => far hk (by omega))) (fun k hk => ne hk (by decide)) _, Kd.R_far (p := ⟨bo, u, none⟩) (Kd.R_grown h.nxt hg (fun k hk => far hk (by omega))) (fun k hk => ne hk (by decide)) _⟩
  rw [List.getElem?_set] at hx
  by_cases hiu : u = i
  · subst hiu
    rw [if_pos rfl, if_pos hu] at hx
    injection hx with hx
    subst hx
    exact ⟨v1, by simp [hsz], Kd.R_far (p := ⟨bo, u, none⟩) hR (fun k hk => ne hk (by omega)) _⟩
  · rw [if_neg hiu] at hx
    obtain ⟨y, hy, hRy⟩ := hr i x hx
    exact ⟨y, by rw [Array.getElem?_setIfInBounds_ne hiu]; exact hy, Kd.R_far (p := ⟨bo, u, none⟩) (Kd.R_grown hRy hg (fun k hk => far hk (by omega))) (fun k hk => ne hk (by omega)) _⟩
end
theorem lit2R (W W1 : World) (x y : Int) : ReadsRow (KI.K W1) 1 (W.alloc (.cells #[.int .i64 x, .int .i64 y] 3)) (some ⟨W.heap.size, 0, none⟩) 2 [x, y] := by
  refine ⟨rfl, by decide, fun _ => ⟨_, rfl, fun j p hj => ?_⟩⟩
  have hj2 : j < 2 := by have := (List.getElem?_eq_some_iff.1 hj).1; simpa using this
  have hcell : ∀ n u, #[Value.int .i64 x, Value.int .i64 y][n]? = some u → (W.alloc (.cells #[.int .i64 x, .int .i64 y] 3)).cell? ⟨W.heap.size, n, none⟩ = some u := fun n u h => (blk_cell (blk_new W _) n).trans h
  rcases (show j = 0 ∨ j = 1 by omega) with rfl | rfl
  · have hp : x = p := by simpa using hj
    subst hp
    refine ⟨[.int .i64 x], rfl, rfl, fun i u hu => ?_⟩
    have hi : i = 0 := by have := (List.getElem?_eq_some_iff.1 hu).1; simp at this; omega
    subst hi
    rw [add_plain]
    exact hcell 0 u (by simpa using hu)
  · have hp : y = p := by simpa using hj
    subst hp
    refine ⟨[.int .i64 y], rfl, rfl, fun i u hu => ?_⟩
    have hi : i = 0 := by have := (List.getElem?_eq_some_iff.1 hu).1; simp at this; omega
    subst hi
    rw [add_plain]
    exact hcell 1 u (by simpa using hu)
theorem below_alloc_ {B : Nat} {w W : World} (h : Below B w W) (hB : B ≤ W.heap.size) (o : Obj) : Below B w (W.alloc o) := h.alloc hB o
theorem alloc_cell {w : World} {a : Addr} {v : Value} (h : w.cell? a = some v) (o : Obj) : (w.alloc o).cell? a = some v := pw_cell_below (below_alloc (Below.refl _ _) o) h
theorem outF_len : ∀ (l : List S35) (i : Nat) (O : List (List Int)), (outF l i O).length = O.length
  | [], i, O => rfl
  | a :: l, i, O => by
    simp only [outF]
    rw [outF_len l (i + 1) _, List.length_set, List.length_set]
theorem row_le {O : List (List Int)} {n : Nat} (h : ∀ x ∈ O, x.length ≤ n) (u : Int) : (rowOf O u).length ≤ n := by
  unfold rowOf
  rw [List.getD_eq_getElem?_getD]
  cases hx : O[u.toNat]? with
  | none => simp
  | some x => exact h x (List.mem_of_getElem? hx)
theorem rows_set {O : List (List Int)} {n : Nat} (h : ∀ x ∈ O, x.length ≤ n) (u : Nat) (r : List Int) (hr : r.length ≤ n + 1) : ∀ x ∈ O.set u r, x.length ≤ n + 1 := fun x hx => by
  rcases List.mem_or_eq_of_mem_set hx with h1 | h1
  · have := h x h1; omega
  · rw [h1]; exact hr
def tb_rest_1.T : Bool × List (List Nat × List Nat) := (true, [([], []), ([], []), ([1], [1]), ([2, 2], [2]), ([], []), ([], []), ([0, 3, 4, 5], [0, 3, 4, 5]), ([6], [6]), ([7, 0, 1, 2, 3, 4, 5, 6, 7], [7])])
def tb_rest_1.B : List Nat := [0, 0, 2, 6, 0, 0, 63, 127, 255]
theorem tb_rest_1.tab : rtab .any (opsOf Try.f49 1) = tb_rest_1.T := by kernel_rfl
theorem tb_rest_1.bits : waitsOk tb_rest_1.T.2 tb_rest_1.B = true := by kernel_rfl
def tb_rest_8.T : Bool × List (List Nat × List Nat) := (true, [([], []), ([], []), ([1], [1]), ([2], [2]), ([3], [3]), ([], []), ([5], [5]), ([], []), ([6, 7], [6, 7]), ([4, 8], [4, 8]), ([0, 0, 1, 2, 3, 4, 5, 6, 7, 8, 9], [0]), ([10, 0, 1, 2, 3, 4, 5, 6, 7, 8, 9], [10]), ([11, 9, 9, 0, 1, 2, 3, 4, 5, 6, 7, 8, 9], [9, 11])])
def tb_rest_8.B : List Nat := [0, 0, 2, 6, 14, 0, 32, 0, 224, 510, 1023, 2047, 4095]
theorem tb_rest_8.tab : rtab .any (opsOf Try.f49 8) = tb_rest_8.T := by kernel_rfl
theorem tb_rest_8.bits : waitsOk tb_rest_8.T.2 tb_rest_8.B = true := by kernel_rfl
def tb_rest_9.T : Bool × List (List Nat × List Nat) := (true, [([], []), ([0], [0]), ([1], [1]), ([2], [2]), ([], []), ([4], [4]), ([], []), ([6], [6]), ([7], [7]), ([8], [8]), ([], []), ([10], [10]), ([9, 11], [9, 11]), ([12], [12]), ([], []), ([14], [14]), ([15], [15]), ([13, 16], [13, 16]), ([3, 5, 0, 1, 2, 3, 4, 5, 6, 7, 8, 9, 10, 11, 12, 13, 14, 15, 16, 17], [3, 5]), ([18, 17, 17, 0, 1, 2, 3, 4, 5, 6, 7, 8, 9, 10, 11, 12, 13, 14, 15, 16, 17], [17, 18])])
def tb_rest_9.B : List Nat := [0, 1, 3, 7, 0, 16, 0, 64, 192, 448, 0, 1024, 4032, 8128, 0, 16384, 49152, 131008, 262143, 524287]
theorem tb_rest_9.tab : rtab .any (opsOf Try.f49 9) = tb_rest_9.T := by kernel_rfl
theorem tb_rest_9.bits : waitsOk tb_rest_9.T.2 tb_rest_9.B = true := by kernel_rfl
def tb_rest_10.T : Bool × List (List Nat × List Nat) := (true, [([], []), ([0], [0]), ([1], [1]), ([2], [2]), ([], []), ([4], [4]), ([], []), ([6], [6]), ([7], [7]), ([8], [8]), ([], []), ([10], [10]), ([9, 11], [9, 11]), ([12], [12]), ([], []), ([14], [14]), ([15], [15]), ([16], [16]), ([13, 17], [13, 17]), ([3, 5, 0, 1, 2, 3, 4, 5, 6, 7, 8, 9, 10, 11, 12, 13, 14, 15, 16, 17, 18], [3, 5]), ([19, 18, 18, 0, 1, 2, 3, 4, 5, 6, 7, 8, 9, 10, 11, 12, 13, 14, 15, 16, 17, 18], [18, 19])])
def tb_rest_10.B : List Nat := [0, 1, 3, 7, 0, 16, 0, 64, 192, 448, 0, 1024, 4032, 8128, 0, 16384, 49152, 114688, 262080, 524287, 1048575]
theorem tb_rest_10.tab : rtab .any (opsOf Try.f49 10) = tb_rest_10.T := by kernel_rfl
theorem tb_rest_10.bits : waitsOk tb_rest_10.T.2 tb_rest_10.B = true := by kernel_rfl
def RePost (w : World) (A1 : Option Addr) (c1 : Nat) (Z : RZ) (e : Ending) (w' : World) : Prop :=
  ∃ g col v2 v3, e = .returned (.pointer (some ⟨g, 0, none⟩)) ∧ Rs w w' g col A1 c1 v2 v3 (.slice none 0 0) (.slice none 0 0) Z
set_option maxRecDepth 100000 in
set_option maxHeartbeats 8000000 in
theorem rest_calls (both : Bool) (N : Nat) (A1 : Option Addr) (c1 : Nat) (arcs : List S35) (src snk : Int) (w : World) (hC : Kd.C k35 w A1 arcs.length arcs) (hc : arcs.length ≤ c1) (hN : 0 < N) (hN2 : N ≤ 1000) (hl : arcs.length ≤ 1000) (hends : ∀ a ∈ arcs, 0 ≤ a.f0 ∧ a.f0 < (N : Int) ∧ 0 ≤ a.f1 ∧ a.f1 < (N : Int)) :
    Calls Try.prog 49 #[.agg #[.int .i64 N, .slice A1 arcs.length c1], .int .i64 src, .int .i64 snk, .bool both] w (RePost w A1 c1 (restP both N arcs src snk)) := by
  have HC := Aside0.mk hC
  have HE := Aside0.mk hends
  obtain ⟨W0, hW0⟩ : ∃ W, W = w.alloc (.cells #[.int .i64 N, .slice A1 arcs.length c1] 30) := ⟨_, rfl⟩
  have hb0 : Below w.heap.size w W0 := by rw [hW0]; exact below_alloc (Below.refl _ _) _
  have hbx : W0.heap[w.heap.size]? = some (.cells #[.int .i64 N, .slice A1 arcs.length c1] 30 (0, 0)) := by rw [hW0]; exact blk_new _ _
  have HB0 := Aside0.mk hb0
  have HBX := Aside0.mk hbx
  have j0 : W0.drew.cell? ⟨w.heap.size, 0, none⟩ = some (.int .i64 N) := (blk_cell hbx 0).trans rfl
  have j1 : W0.drew.cell? ⟨w.heap.size, 1, none⟩ = some (.slice A1 arcs.length c1) := (blk_cell hbx 1).trans rfl
  obtain ⟨col1, hcol1⟩ : ∃ c : Nat → Nat, c = fun k => if k < W0.heap.size then 5 else 2 := ⟨_, rfl⟩
  have hc2 : Aside0 (col1 W0.drew.heap.size = 2) := ⟨by rw [hcol1]; show (if W0.heap.size < W0.heap.size then 5 else 2) = 2; simp⟩
  have hcl : Aside0 (∀ k, k < W0.heap.size → col1 k = 5) := ⟨fun k hk => by rw [hcol1]; simp [hk]⟩
  clear hC hends hb0 hbx hcol1
  go_enter Try.func49, Try.ntmps49
  go_wp2
  rw [← hW0]
  refine start_ (n := 9) (S := fun w' => (w'.cell? ⟨w.heap.size, 0, none⟩ = some (.int .i64 N)) ∧ (w'.cell? ⟨w.heap.size, 1, none⟩ = some (.slice A1 arcs.length c1))) (ds := [7]) #[false, false, false, false, false, false, false, false, false] (by kernel_rfl) rfl rfl ⟨j0, j1⟩ (fun hHeld => ?_)
  refine with_tabW tb_rest_1.tab tb_rest_1.bits (fun HT_ HW_ => ?_)
  refine take_ (i := 0) (N := some 13) (v := ?_) (a' := ?_) #[true, false, false, false, false, false, false, false, false] rfl rfl (take_ofW HT_.out HW_.out (by kernel_rfl)) (fun _ _ _ h => h) (Or.inl ⟨by rfl, ?_⟩) hHeld ?_ ?_
  rotate_left
  · rintro w' ⟨s0, s1⟩
    go_simp
    with_reducible rfl
  rotate_left
  · simp only [Act.put, List.setIfInBounds_toArray, List.set_cons_zero, List.set_cons_succ, i64_w, i32_w]
    rfl
  refine pure_ (i := 1) (N := some 14) (v := ?_) (a' := ?_) #[true, true, false, false, false, false, false, false, false] rfl rfl (any_of HT_.out (by kernel_rfl)) (fun _ _ _ h => h) (Or.inl ⟨by rfl, ?_⟩) ?_ ?_
  rotate_left
  · intro w'
    go_simp
    with_reducible rfl
  rotate_left
  · simp only [Act.put, List.setIfInBounds_toArray, List.set_cons_zero, List.set_cons_succ, i64_w, i32_w]
    rfl
  refine take_ (i := 2) (N := some 15) (v := ?_) (a' := ?_) #[true, true, true, false, false, false, false, false, false] rfl rfl (take_ofW HT_.out HW_.out (by kernel_rfl)) (fun _ _ _ h => h) (Or.inl ⟨by rfl, ?_⟩) hHeld ?_ ?_
  rotate_left
  · rintro w' ⟨s0, s1⟩
    go_simp
    with_reducible rfl
  rotate_left
  · simp only [Act.put, List.setIfInBounds_toArray, List.set_cons_zero, List.set_cons_succ, i64_w, i32_w]
    rfl
  refine pure_ (i := 4) (N := some 17) (v := ?_) (a' := ?_) #[true, true, true, false, true, false, false, false, false] rfl rfl (any_of HT_.out (by kernel_rfl)) (fun _ _ _ h => h) (Or.inl ⟨by rfl, ?_⟩) ?_ ?_
  rotate_left
  · intro w'
    go_simp
    with_reducible rfl
  rotate_left
  · simp only [Act.put, List.setIfInBounds_toArray, List.set_cons_zero, List.set_cons_succ, i64_w, i32_w]
    rfl
  refine pure_ (i := 5) (N := some 18) (v := ?_) (a' := ?_) #[true, true, true, false, true, true, false, false, false] rfl rfl (any_of HT_.out (by kernel_rfl)) (fun _ _ _ h => h) (Or.inl ⟨by rfl, ?_⟩) ?_ ?_
  rotate_left
  · intro w'
    go_simp
    with_reducible rfl
  rotate_left
  · simp only [Act.put, List.setIfInBounds_toArray, List.set_cons_zero, List.set_cons_succ, i64_w, i32_w]
    rfl
  refine one_ (i := 3) (N := some 16) #[true, true, true, true, true, true, false, false, false] rfl rfl (one_of HT_.out (by kernel_rfl)) (by decide) (fun K hK => ?_)
  refine Kd.R_make_step nilK (w0 := w) w.heap.size 40 (by rfl) (N := 16) rfl 89 _ _ rfl (N : Int) rfl rfl Try.underlying89 (.slice none 0 0) 24 info40 rfl (by decide) (by omega) () (ok := fun k => col1 k = 2) (okp := fun _ => False) rfl (fun _ h => h.elim) hc2.out (by omega) (by rw [Int.toNat_natCast]; omega) (below_drew HB0.out) (below_drew HB0.out).size ?_
  intro vo w4 hR4 hB4 hg4 hne4
  rw [Int.toNat_natCast] at hR4
  obtain ⟨bo, co, rfl, hbo, hbl, _⟩ := Kd.R_form hR4 (by rw [List.length_replicate]; omega)
  rw [List.length_replicate] at hR4 ⊢
  have RW := Aside0.mk (Rw.made hR4 hN)
  have HB4 := Aside0.mk hB4
  have BL := Aside0.mk hbl
  have HG4 := Aside0.mk hg4
  have HBX4 := Aside0.mk (blk_grown (w := W0.drew) HBX.out hg4 (by simp))
  clear hR4 hB4 hne4 hg4 hbl
  refine hK.out _ _ ⟨(blk_cell HBX4.out 0).trans rfl, (blk_cell HBX4.out 1).trans rfl⟩ (fun hHeld => ?_)
  clear hK K
  refine norm_ (a' := ?_) ?_ ?_
  rotate_left
  · show Act.put _ (some 16) _ = _
    (try simp only [Act.put, List.setIfInBounds_toArray, List.set_cons_zero, List.set_cons_succ, i64_w, i32_w])
    rfl
  refine pure_ (i := 6) (N := some 19) (v := ?_) (a' := ?_) #[true, true, true, true, true, true, true, false, false] rfl rfl (any_of HT_.out (by kernel_rfl)) (fun _ _ _ h => h) (Or.inl ⟨by rfl, ?_⟩) ?_ ?_
  rotate_left
  · intro w'
    go_simp
    with_reducible rfl
  rotate_left
  · simp only [Act.put, List.setIfInBounds_toArray, List.set_cons_zero, List.set_cons_succ, i64_w, i32_w]
    rfl
  refine last_ (i := 7) (N := some 20) #[true, true, true, true, true, true, true, true, false] rfl rfl (one_of HT_.out (by kernel_rfl)) (by decide) (fun K hK => ?_)
  refine box_step (by rfl) rfl (cs := #[.int .i64 N, .slice A1 arcs.length c1, .slice none 0 0, .slice (some ⟨bo, 0, none⟩) N co, .int .i64 src, .int .i64 snk, .slice none 0 0, .slice none 0 0]) (t := 93) ?_ ?_
  · first | (go_simp; done) | (go_simp; rfl)
  intro g hg w5 hbx5 hb5
  obtain ⟨col2, hcol2⟩ : ∃ c : Nat → Nat, c = fun k => if k = g then 0 else col1 k := ⟨_, rfl⟩
  have hR5 : Rs w w5 g col2 A1 c1 (.slice none 0 0) (.slice (some ⟨bo, 0, none⟩) N co) (.slice none 0 0) (.slice none 0 0) ⟨(N : Int), arcs, [], List.replicate N [], src, snk, [], []⟩ :=
    ⟨below_then HB4.out HB4.out.size hb5, hbx5, by rw [hg]; exact HB4.out.size, by rw [hcol2]; simp, hc, HC.out, Kd.R_nil _ _ _ _ _, (RW.out.recol (fun k hk => by rw [hcol2]; simp; omega)).step (fun k _ hk => hb5.block k hk), Kd.R_nil _ _ _ _ _, Kd.R_nil _ _ _ _ _⟩
  have HR5 := Aside0.mk hR5
  have HBX5 := Aside0.mk (blk_below HBX4.out hb5)
  clear hR5 hbx5 hb5 hg hcol2
  refine hK.out _ _ ?_
  clear hK K
  refine norm_ (a' := ?_) ?_ ?_
  rotate_left
  · show Act.put _ (some 20) _ = _
    (try simp only [Act.put, List.setIfInBounds_toArray, List.set_cons_zero, List.set_cons_succ, i64_w, i32_w])
    rfl
  refine pure_ (i := 8) (N := some 9) (v := ?_) (a' := ?_) #[true, true, true, true, true, true, true, true, true] rfl rfl (any_of HT_.out (by kernel_rfl)) (fun _ _ _ h => h) (Or.inl ⟨by rfl, ?_⟩) ?_ ?_
  rotate_left
  · intro w'
    go_simp
    with_reducible rfl
  rotate_left
  · simp only [Act.put, List.setIfInBounds_toArray, List.set_cons_zero, List.set_cons_succ, i64_w, i32_w]
    rfl
  refine done_ (done_of HT_.out (by kernel_rfl)) ?_
  have j2 := (blk_cell HBX5.out 1).trans rfl
  clear j0 j1
  go_wp2
  obtain ⟨LL, hLL⟩ : ∃ LL, LL = leftF both arcs [] := ⟨_, rfl⟩
  obtain ⟨OO, hOO⟩ : ∃ OO, OO = outF arcs 0 (List.replicate N []) := ⟨_, rfl⟩
  have HZ : Aside0 (restP both N arcs src snk = ⟨(N : Int), arcs, LL, OO, src, snk, [], []⟩) := ⟨by rw [hLL, hOO]; rfl⟩
  have HL0 : Aside0 (leftF both (arcs.drop 0) [] = LL) := ⟨hLL.symm⟩
  have HO0 : Aside0 (outF (arcs.drop 0) 0 (List.replicate N []) = OO) := ⟨hOO.symm⟩
  have HOl : Aside0 ((List.replicate N ([] : List Int)).length = N) := ⟨List.length_replicate ..⟩
  have HOr : Aside0 (∀ x ∈ List.replicate N ([] : List Int), x.length ≤ 2 * 0) := ⟨fun x hx => by rw [List.eq_of_mem_replicate hx]; simp⟩
  clear hLL hOO j2 HBX5
  go_loopg [24] (arcs.length) (fun kq vi w' => ∃ (i : Nat) (L : List Int) (O : List (List Int)) (col : Nat → Nat) (AL : Option Addr) (cL : Nat), i + kq = arcs.length ∧ vi = .int .i64 i ∧ Aside0 (leftF both (arcs.drop i) L = LL) ∧ Aside0 (outF (arcs.drop i) i O = OO) ∧ Aside0 (O.length = N) ∧ Aside0 (L.length = 2 * i) ∧ Aside0 (∀ x ∈ O, x.length ≤ 2 * i) ∧
      Aside0 (Rs w w' g col A1 c1 (.slice AL L.length cL) (.slice (some ⟨bo, 0, none⟩) N co) (.slice none 0 0) (.slice none 0 0) ⟨(N : Int), arcs, L, O, src, snk, [], []⟩))
  case atStart => exact ⟨0, [], List.replicate N [], col2, none, 0, by omega, rfl, HL0, HO0, HOl, ⟨rfl⟩, HOr, HR5⟩
  case round =>
    clear HR5 HL0 HO0 HOl HOr RW
    obtain ⟨i, L, O, col, AL, cL, hi, rfl, HLF, HOF, HOl, HLl, HOr, HR⟩ := hrel
    by_cases hlt : i < arcs.length
    · have hdec : decide (i < arcs.length) = true := decide_eq_true hlt
      have b0 : ((i : Int) < 0) = False := eq_false (by omega)
      have b1 : ((i : Int) < (arcs.length : Int)) = True := eq_true (by omega)
      obtain ⟨ad, rfl, x0, x1, x2⟩ := at_T35 (Kd.C_below HC.out HR.out.bel) (i : Int) (by omega) (by omega)
      simp only [Int.toNat_natCast] at x0 x1 x2
      have hrd : rd_T35 arcs (i : Int) = arcs[i] := by simp [rd_T35, hlt]
      obtain ⟨e0, e1, e2, e3⟩ := HE.out arcs[i] (List.getElem_mem _)
      obtain ⟨⟨a0, a1, a2⟩, ha⟩ : ∃ a : S35, a = arcs[i] := ⟨_, rfl⟩
      have hdrop : arcs.drop i = ⟨a0, a1, a2⟩ :: arcs.drop (i + 1) := by rw [List.drop_eq_getElem_cons hlt, ha]
      rw [hrd, ← ha] at x0 x1 x2
      rw [← ha] at e0 e1 e2 e3
      dsimp only at x0 x1 x2 e0 e1 e2 e3
      have HLF2 : Aside0 (leftF both (arcs.drop (i + 1)) (L ++ [a2, if both then a2 else 0]) = LL) := ⟨by have := HLF.out; rw [hdrop] at this; exact this⟩
      have HOF2 : Aside0 (outF (arcs.drop (i + 1)) (i + 1) ((O.set a0.toNat (rowOf O a0 ++ [2 * (i : Int)])).set a1.toNat (rowOf (O.set a0.toNat (rowOf O a0 ++ [2 * (i : Int)])) a1 ++ [2 * (i : Int) + 1])) = OO) := ⟨by have := HOF.out; rw [hdrop] at this; exact this⟩
      obtain ⟨colA, hcolA⟩ : ∃ c : Nat → Nat, c = fun k => if k < wr.heap.size then col k else 5 := ⟨_, rfl⟩
      have HRA := Aside0.mk (HR.out.recol (col' := colA) (fun k hk => by rw [hcolA]; simp [hk]))
      have hcA : Aside0 (∀ k, wr.heap.size ≤ k → colA k = 5) := ⟨fun k hk => by rw [hcolA]; simp; omega⟩
      clear hrd ha hdrop HLF HOF HR hcolA
      go_wp2_with ((with_reducible refine gate_dst (N := 11) rfl ?_); refine mark_ ?_)
      refine ⟨?_⟩
      refine box_event (by rfl) rfl (cs := #[.int .i64 0, .int .i64 0, .int .i64 0]) (t := 35) ?_ ?_
      · first | (go_simp; done) | (go_simp; rfl)
      intro ga hga w5 hbx5 hb5
      have hca5 : Aside0 (colA ga = 5) := ⟨hcA.out ga (by rw [hga]; exact Nat.le_refl _)⟩
      have HR5 := Aside0.mk (HRA.out.below hb5)
      have hgb : Aside0 (w.heap.size ≤ ga) := ⟨by rw [hga]; exact HRA.out.bel.size⟩
      have BA5 := Aside0.mk hbx5
      have y0 : w5.cell? ⟨ga, 0, none⟩ = some (.int .i64 0) := (blk_cell hbx5 0).trans rfl
      have y1 : w5.cell? ⟨ga, 1, none⟩ = some (.int .i64 0) := (blk_cell hbx5 1).trans rfl
      have y2 : w5.cell? ⟨ga, 2, none⟩ = some (.int .i64 0) := (blk_cell hbx5 2).trans rfl
      have z0 := blk_frozen hbx5 0
      have z1 := blk_frozen hbx5 1
      have z2 := blk_frozen hbx5 2
      have BA6 := Aside0.mk (blk_put (blk_put (blk_put hbx5 0 (.int .i64 a0) rfl) 1 (.int .i64 a1) rfl) 2 (.int .i64 a2) rfl)
      have HR6 := Aside0.mk (((HR5.out.far (o := 0) (by rw [hca5.out]; omega) (by rw [hca5.out]; omega) hgb.out (.int .i64 a0)).far (o := 1) (by rw [hca5.out]; omega) (by rw [hca5.out]; omega) hgb.out (.int .i64 a1)).far (o := 2) (by rw [hca5.out]; omega) (by rw [hca5.out]; omega) hgb.out (.int .i64 a2))
      have ka2 := (blk_cell BA6.out 2).trans rfl
      clear hbx5 hb5 hga x0 x1 x2 BA5 HR5 HRA hcA
      cases both with
      | false =>
        go_wp2
        obtain ⟨W6, hW6⟩ : ∃ W, W = ((w5.setCell ⟨ga, 0, none⟩ (.int .i64 a0)).setCell ⟨ga, 1, none⟩ (.int .i64 a1)).setCell ⟨ga, 2, none⟩ (.int .i64 a2) := ⟨_, rfl⟩
        rw [← hW6] at BA6 HR6 ka2 ⊢
        clear hW6 y0 y1 y2 z0 z1 z2
        obtain ⟨colB, hcolB⟩ : ∃ c : Nat → Nat, c = fun k => if k < W6.heap.size then colA k else 1 := ⟨_, rfl⟩
        have HRB := Aside0.mk (HR6.out.recol (col' := colB) (fun k hk => by rw [hcolB]; simp [hk]))
        have hfB : Aside0 (∀ k, W6.heap.size ≤ k → colB k = 1) := ⟨fun k hk => by rw [hcolB]; simp; omega⟩
        have hcaB : Aside0 (colB ga = 5) := ⟨by rw [hcolB]; simp [blk_lt BA6.out, hca5.out]⟩
        have k2 := HRB.out.k2
        (try dsimp only at k2)
        have HK2 := Aside0.mk k2
        have HKA2 := Aside0.mk ka2
        obtain ⟨L', hL'⟩ : ∃ L', L ++ [a2, 0] = L' := ⟨_, rfl⟩
        replace hL' := Aside0.mk hL'
        clear hcolB HR6 hca5
        refine start_ (n := 13) (S := fun w' => (w'.cell? ⟨g, 2, none⟩ = some (.slice AL L.length cL)) ∧ (w'.cell? ⟨ga, 2, none⟩ = some (.int .i64 a2))) (ds := [9, 12]) #[false, false, false, false, false, false, false, false, false, false, false, false, false] (by kernel_rfl) rfl rfl ⟨k2, ka2⟩ (fun hHeld => ?_)
        refine with_tabW tb_rest_8.tab tb_rest_8.bits (fun HT_ HW_ => ?_)
        refine pure_ (i := 0) (N := some 32) (v := ?_) (a' := ?_) #[true, false, false, false, false, false, false, false, false, false, false, false, false] rfl rfl (any_of HT_.out (by kernel_rfl)) (fun _ _ _ h => h) (Or.inl ⟨by rfl, ?_⟩) ?_ ?_
        rotate_left
        · intro w'
          go_simp
          with_reducible rfl
        rotate_left
        · simp only [Act.put, List.setIfInBounds_toArray, List.set_cons_zero, List.set_cons_succ, i64_w, i32_w]
          rfl
        refine pure_ (i := 1) (N := some 33) (v := ?_) (a' := ?_) #[true, true, false, false, false, false, false, false, false, false, false, false, false] rfl rfl (any_of HT_.out (by kernel_rfl)) (fun _ _ _ h => h) (Or.inl ⟨by rfl, ?_⟩) ?_ ?_
        rotate_left
        · intro w'
          go_simp
          with_reducible rfl
        rotate_left
        · simp only [Act.put, List.setIfInBounds_toArray, List.set_cons_zero, List.set_cons_succ, i64_w, i32_w]
          rfl
        refine pure_ (i := 2) (N := some 34) (v := ?_) (a' := ?_) #[true, true, true, false, false, false, false, false, false, false, false, false, false] rfl rfl (any_of HT_.out (by kernel_rfl)) (fun _ _ _ h => h) (Or.inl ⟨by rfl, ?_⟩) ?_ ?_
        rotate_left
        · intro w'
          go_simp
          with_reducible rfl
        rotate_left
        · simp only [Act.put, List.setIfInBounds_toArray, List.set_cons_zero, List.set_cons_succ, i64_w, i32_w]
          rfl
        refine pure_ (i := 3) (N := some 35) (v := ?_) (a' := ?_) #[true, true, true, true, false, false, false, false, false, false, false, false, false] rfl rfl (any_of HT_.out (by kernel_rfl)) (fun _ _ _ h => h) (Or.inl ⟨by rfl, ?_⟩) ?_ ?_
        rotate_left
        · intro w'
          go_simp
          with_reducible rfl
        rotate_left
        · simp only [Act.put, List.setIfInBounds_toArray, List.set_cons_zero, List.set_cons_succ, i64_w, i32_w]
          rfl
        refine take_ (i := 4) (N := some 36) (v := ?_) (a' := ?_) #[true, true, true, true, true, false, false, false, false, false, false, false, false] rfl rfl (take_ofW HT_.out HW_.out (by kernel_rfl)) (fun _ _ _ h => h) (Or.inl ⟨by rfl, ?_⟩) hHeld ?_ ?_
        rotate_left
        · rintro w' ⟨s0, s1⟩
          go_simp
          with_reducible rfl
        rotate_left
        · simp only [Act.put, List.setIfInBounds_toArray, List.set_cons_zero, List.set_cons_succ, i64_w, i32_w]
          rfl
        refine pure_ (i := 5) (N := some 37) (v := ?_) (a' := ?_) #[true, true, true, true, true, true, false, false, false, false, false, false, false] rfl rfl (any_of HT_.out (by kernel_rfl)) (fun _ _ _ h => h) (Or.inl ⟨by rfl, ?_⟩) ?_ ?_
        rotate_left
        · intro w'
          go_simp
          with_reducible rfl
        rotate_left
        · simp only [Act.put, List.setIfInBounds_toArray, List.set_cons_zero, List.set_cons_succ, i64_w, i32_w]
          rfl
        refine take_ (i := 6) (N := some 38) (v := ?_) (a' := ?_) #[true, true, true, true, true, true, true, false, false, false, false, false, false] rfl rfl (take_ofW HT_.out HW_.out (by kernel_rfl)) (fun _ _ _ h => h) (Or.inl ⟨by rfl, ?_⟩) hHeld ?_ ?_
        rotate_left
        · rintro w' ⟨s0, s1⟩
          go_simp
          with_reducible rfl
        rotate_left
        · simp only [Act.put, List.setIfInBounds_toArray, List.set_cons_zero, List.set_cons_succ, i64_w, i32_w]
          rfl
        refine pure_ (i := 7) (N := some 39) (v := ?_) (a' := ?_) #[true, true, true, true, true, true, true, true, false, false, false, false, false] rfl rfl (any_of HT_.out (by kernel_rfl)) (fun _ _ _ h => h) (Or.inl ⟨by rfl, ?_⟩) ?_ ?_
        rotate_left
        · intro w'
          go_simp
          with_reducible rfl
        rotate_left
        · simp only [Act.put, List.setIfInBounds_toArray, List.set_cons_zero, List.set_cons_succ, i64_w, i32_w]
          rfl
        refine one_ (i := 8) (N := some 40) #[true, true, true, true, true, true, true, true, true, false, false, false, false] rfl rfl (one_of HT_.out (by kernel_rfl)) (by decide) (fun K hK => ?_)
        refine value_ (w1 := ?_) (v := ?_) (by rfl) rfl ?_ ?_
        rotate_left 2
        · go_simp
          constructor
          · rfl
          · rfl
        refine hK.out _ _ ⟨alloc_cell (w := W6.drew) HK2.out _, alloc_cell (w := W6.drew) HKA2.out _⟩ (fun hHeld => ?_)
        clear hK K
        refine norm_ (a' := ?_) ?_ ?_
        rotate_left
        · show Act.put _ (some 40) _ = _
          (try simp only [Act.put, List.setIfInBounds_toArray, List.set_cons_zero, List.set_cons_succ, i64_w, i32_w])
          rfl
        refine last_ (i := 9) (N := some 41) #[true, true, true, true, true, true, true, true, true, true, false, false, false] rfl rfl (one_of HT_.out (by kernel_rfl)) (by decide) (fun K hK => ?_)
        refine Kd.R_append_rows_step KI (Rr := KI.K W6) (w0 := w) w.heap.size (by rfl) (.tmp 36) (.tmp 40) 40 3 (.int .i64 0) 8 rfl Try.underlying40 info3 rfl (by decide) (by decide) (.slice AL L.length cL) L [a2, 0] _ 2 2 (fun k => colB k = 1) (fun _ => False) rfl rfl (Kd.R_alloc (Kd.R_drew HRB.out.left) _) (lit2R W6.drew W6 a2 (0)) (fun x cs h => h) (fun k hk => hk.elim) (fun k hk => hfB.out k (Nat.le_trans (below_alloc (Below.refl W6.drew.heap.size W6.drew) (.cells #[.int .i64 a2, .int .i64 (0)] 3)).size hk)) (below_alloc_ (below_drew HRB.out.bel) HRB.out.bel.size _) (Nat.le_trans HRB.out.bel.size (below_alloc (Below.refl W6.drew.heap.size W6.drew) _).size) (by have := HLl.out; omega) ?_
        intro v7 w7 hR7 hB7 hg7 hat7
        rw [hL'.out] at hR7
        obtain ⟨A7, c7, rfl, _⟩ := Kd.R_reads hR7
        have HRC := Aside0.mk (((HRB.out.below (below_drew (Below.refl _ _))).below (below_alloc (Below.refl _ _) _)).boxL HRB.out.left.1 hg7 hB7 hR7)
        have n0 : some g ≠ (Value.slice AL L.length cL).ownBlock := fun e => by have h1 : colB g = 1 := HRB.out.left.1 g e.symm; rw [HRB.out.cg] at h1; cases h1
        have n1 : some ga ≠ (Value.slice AL L.length cL).ownBlock := fun e => by have h1 : colB ga = 1 := HRB.out.left.1 ga e.symm; rw [hcaB.out] at h1; omega
        have c0 := hg7.cell (alloc_cell (w := W6.drew) HK2.out _) n0
        have f0 := blk_frozen (blk_grown (blk_alloc (w := W6.drew) HRB.out.box _) hg7 n0) 2
        have BAC := Aside0.mk (blk_far (p := ⟨g, 2, none⟩) (blk_grown (blk_alloc (w := W6.drew) BA6.out _) hg7 n1) (fun e => by replace e : ga = g := e; have h1 := hcaB.out; rw [e, HRB.out.cg] at h1; omega) (.slice A7 L'.length c7))
        clear hR7 hB7 hg7 hat7 n0 n1
        refine hK.out _ _ ?_
        clear hK K
        refine norm_ (a' := ?_) ?_ ?_
        rotate_left
        · show Act.put _ (some 41) _ = _
          (try simp only [Act.put, List.setIfInBounds_toArray, List.set_cons_zero, List.set_cons_succ, i64_w, i32_w])
          rfl
        refine pure_ (i := 10) (N := some 42) (v := ?_) (a' := ?_) #[true, true, true, true, true, true, true, true, true, true, true, false, false] rfl rfl (any_of HT_.out (by kernel_rfl)) (fun _ _ _ h => h) (Or.inl ⟨by rfl, ?_⟩) ?_ ?_
        rotate_left
        · intro w'
          go_simp
          with_reducible rfl
        rotate_left
        · simp only [Act.put, List.setIfInBounds_toArray, List.set_cons_zero, List.set_cons_succ, i64_w, i32_w]
          rfl
        refine pure_ (i := 11) (N := some 43) (v := ?_) (a' := ?_) #[true, true, true, true, true, true, true, true, true, true, true, true, false] rfl rfl (any_of HT_.out (by kernel_rfl)) (fun _ _ _ h => h) (Or.inl ⟨by rfl, ?_⟩) ?_ ?_
        rotate_left
        · intro w'
          go_simp
          with_reducible rfl
        rotate_left
        · simp only [Act.put, List.setIfInBounds_toArray, List.set_cons_zero, List.set_cons_succ, i64_w, i32_w]
          rfl
        refine last_ (i := 12) (N := none) #[true, true, true, true, true, true, true, true, true, true, true, true, true] rfl rfl (one_of HT_.out (by kernel_rfl)) (by decide) (fun K hK => ?_)
        refine skip_ (w1 := ?_) (by rfl) rfl ?_ ?_
        rotate_left
        · go_simp
          rfl
        clear c0 f0
        refine hK.out _ _ ?_
        clear hK K
        refine norm_ (a' := ?_) ?_ ?_
        rotate_left
        · rfl
        refine done_ (done_of HT_.out (by kernel_rfl)) ?_
        obtain ⟨W8, hW8⟩ : ∃ W, W = w7.setCell ⟨g, 2, none⟩ (.slice A7 L'.length c7) := ⟨_, rfl⟩
        rw [← hW8] at HRC BAC ⊢
        clear hW8 k2 ka2 HRB HK2 HKA2 hfB BA6
        have HLl8 : Aside0 (L'.length = 2 * (i + 1)) := ⟨by rw [← hL'.out, List.length_append]; have := HLl.out; simp; omega⟩
        have HLF8 : Aside0 (leftF false (arcs.drop (i + 1)) L' = LL) := ⟨by have := HLF2.out; rw [← hL'.out]; exact this⟩
        have hiw : Aside0 (0 ≤ 2 * (i : Int) ∧ 2 * (i : Int) < 100000) := ⟨by omega⟩
        go_wp2
        obtain ⟨col9, hcol9⟩ : ∃ c : Nat → Nat, c = fun k => if k < W8.heap.size then colB k else 10 + a0.toNat := ⟨_, rfl⟩
        have HRn9 := Aside0.mk (HRC.out.recol (col' := col9) (fun k hk => by rw [hcol9]; simp [hk]))
        have hf9 : Aside0 (∀ k, W8.heap.size ≤ k → col9 k = 10 + a0.toNat) := ⟨fun k hk => by rw [hcol9]; simp; omega⟩
        have hca9 : Aside0 (col9 ga = 5) := ⟨by rw [hcol9]; simp [blk_lt BAC.out, hcaB.out]⟩
        have hul9 : a0.toNat < O.length := by have := HOl.out; omega
        obtain ⟨Ar9, cr9, kr, fr, Rr⟩ := HRn9.out.out.rowR a0 e0 (by (try dsimp only); omega)
        have hrl9 : Aside0 ((rowOf O a0).length ≤ 2 * i) := ⟨row_le HOr.out a0⟩
        have hul := Aside0.mk hul9
        (try dsimp only at kr Rr)
        obtain ⟨row9, hrow9⟩ : ∃ row, row = rowOf O a0 := ⟨_, rfl⟩
        rw [← hrow9] at kr Rr hrl9
        obtain ⟨rw9, hrw9⟩ : ∃ r, row9 ++ [2 * (i : Int)] = r := ⟨_, rfl⟩
        have RR := Aside0.mk Rr
        have k3 := HRn9.out.k3
        have ka := (blk_cell BAC.out 0).trans rfl
        have k3b := HRn9.out.box
        have HK3 := Aside0.mk k3
        have HKA := Aside0.mk ka
        have HKR := Aside0.mk kr
        have HFR := Aside0.mk fr
        replace hrow9 := Aside0.mk hrow9
        replace hrw9 := Aside0.mk hrw9
        have hbo9 : Aside0 (col9 bo = 2 ∧ bo < W8.heap.size) := ⟨by obtain ⟨bo', co', cells, hv, _, h2, h3, _⟩ := HRn9.out.out; injection hv with e1 e2 e3; injection e1 with e1; injection e1 with e1; subst e1; exact ⟨h2, blk_lt h3⟩⟩
        have HLn := Aside0.mk (show (row9.length + 1) * 8 ≤ 140737488355328 by have := hrl9.out; omega)
        have hfar : ∀ b, col9 b ≠ 10 + a0.toNat → some b ≠ (Value.slice Ar9 row9.length cr9).ownBlock := fun b hb e => hb (RR.out.1 b e.symm)
        have N0 := Aside0.mk (hfar g (by rw [HRn9.out.cg]; omega))
        have N1 := Aside0.mk (hfar ga (by rw [hca9.out]; omega))
        have N2 := Aside0.mk (hfar bo (by rw [hbo9.out.1]; omega))
        have NB : Aside0 (ga ≠ bo) := ⟨fun e => by have h1 := hca9.out; rw [e, hbo9.out.1] at h1; omega⟩
        have iq : (i : Int) < 1000 := by omega
        have m1 : wrap64 (2 * (i : Int)) = 2 * (i : Int) := wrap_id (by omega) (by omega)
        have m2 : Aside0 (wrap64 (2 * (i : Int) + 1) = 2 * (i : Int) + 1) := ⟨wrap_id (by clear m1; omega) (by clear m1; omega)⟩
        replace m2 := m2.out
        clear hcol9 Rr k3b fr hul9 hfar iq
        refine start_ (n := 20) (S := fun w' => (w'.cell? ⟨g, 3, none⟩ = some (.slice (some ⟨bo, 0, none⟩) N co)) ∧ (w'.cell? ⟨ga, 0, none⟩ = some (.int .i64 a0)) ∧ (w'.cell? ⟨bo, a0.toNat, none⟩ = some (.slice Ar9 row9.length cr9))) (ds := [19]) #[false, false, false, false, false, false, false, false, false, false, false, false, false, false, false, false, false, false, false, false] (by kernel_rfl) rfl rfl ⟨k3, ka, kr⟩ (fun hHeld => ?_)
        refine with_tabW tb_rest_9.tab tb_rest_9.bits (fun HT_ HW_ => ?_)
        refine pure_ (i := 0) (N := some 44) (v := ?_) (a' := ?_) #[true, false, false, false, false, false, false, false, false, false, false, false, false, false, false, false, false, false, false, false] rfl rfl (any_of HT_.out (by kernel_rfl)) (fun _ _ _ h => h) (Or.inl ⟨by rfl, ?_⟩) ?_ ?_
        rotate_left
        · intro w'
          go_simp
          with_reducible rfl
        rotate_left
        · simp only [Act.put, List.setIfInBounds_toArray, List.set_cons_zero, List.set_cons_succ, i64_w, i32_w]
          rfl
        refine pure_ (i := 1) (N := some 45) (v := ?_) (a' := ?_) #[true, true, false, false, false, false, false, false, false, false, false, false, false, false, false, false, false, false, false, false] rfl rfl (any_of HT_.out (by kernel_rfl)) (fun _ _ _ h => h) (Or.inl ⟨by rfl, ?_⟩) ?_ ?_
        rotate_left
        · intro w'
          go_simp
          with_reducible rfl
        rotate_left
        · simp only [Act.put, List.setIfInBounds_toArray, List.set_cons_zero, List.set_cons_succ, i64_w, i32_w]
          rfl
        refine pure_ (i := 2) (N := some 46) (v := ?_) (a' := ?_) #[true, true, true, false, false, false, false, false, false, false, false, false, false, false, false, false, false, false, false, false] rfl rfl (any_of HT_.out (by kernel_rfl)) (fun _ _ _ h => h) (Or.inl ⟨by rfl, ?_⟩) ?_ ?_
        rotate_left
        · intro w'
          go_simp
          with_reducible rfl
        rotate_left
        · simp only [Act.put, List.setIfInBounds_toArray, List.set_cons_zero, List.set_cons_succ, i64_w, i32_w]
          rfl
        refine take_ (i := 3) (N := some 47) (v := ?_) (a' := ?_) #[true, true, true, true, false, false, false, false, false, false, false, false, false, false, false, false, false, false, false, false] rfl rfl (take_ofW HT_.out HW_.out (by kernel_rfl)) (fun _ _ _ h => h) (Or.inl ⟨by rfl, ?_⟩) hHeld ?_ ?_
        rotate_left
        · rintro w' ⟨s0, s1, s2⟩
          go_simp
          with_reducible rfl
        rotate_left
        · simp only [Act.put, List.setIfInBounds_toArray, List.set_cons_zero, List.set_cons_succ, i64_w, i32_w]
          rfl
        refine pure_ (i := 4) (N := some 48) (v := ?_) (a' := ?_) #[true, true, true, true, true, false, false, false, false, false, false, false, false, false, false, false, false, false, false, false] rfl rfl (any_of HT_.out (by kernel_rfl)) (fun _ _ _ h => h) (Or.inl ⟨by rfl, ?_⟩) ?_ ?_
        rotate_left
        · intro w'
          go_simp
          with_reducible rfl
        rotate_left
        · simp only [Act.put, List.setIfInBounds_toArray, List.set_cons_zero, List.set_cons_succ, i64_w, i32_w]
          rfl
        refine take_ (i := 5) (N := some 49) (v := ?_) (a' := ?_) #[true, true, true, true, true, true, false, false, false, false, false, false, false, false, false, false, false, false, false, false] rfl rfl (take_ofW HT_.out HW_.out (by kernel_rfl)) (fun _ _ _ h => h) (Or.inl ⟨by rfl, ?_⟩) hHeld ?_ ?_
        rotate_left
        · rintro w' ⟨s0, s1, s2⟩
          go_simp
          with_reducible rfl
        rotate_left
        · simp only [Act.put, List.setIfInBounds_toArray, List.set_cons_zero, List.set_cons_succ, i64_w, i32_w]
          rfl
        refine pure_ (i := 6) (N := some 50) (v := ?_) (a' := ?_) #[true, true, true, true, true, true, true, false, false, false, false, false, false, false, false, false, false, false, false, false] rfl rfl (any_of HT_.out (by kernel_rfl)) (fun _ _ _ h => h) (Or.inl ⟨by rfl, ?_⟩) ?_ ?_
        rotate_left
        · intro w'
          go_simp
          with_reducible rfl
        rotate_left
        · simp only [Act.put, List.setIfInBounds_toArray, List.set_cons_zero, List.set_cons_succ, i64_w, i32_w]
          rfl
        refine pure_ (i := 7) (N := some 51) (v := ?_) (a' := ?_) #[true, true, true, true, true, true, true, true, false, false, false, false, false, false, false, false, false, false, false, false] rfl rfl (any_of HT_.out (by kernel_rfl)) (fun _ _ _ h => h) (Or.inl ⟨by rfl, ?_⟩) ?_ ?_
        rotate_left
        · intro w'
          go_simp
          with_reducible rfl
        rotate_left
        · simp only [Act.put, List.setIfInBounds_toArray, List.set_cons_zero, List.set_cons_succ, i64_w, i32_w]
          rfl
        refine pure_ (i := 8) (N := some 52) (v := ?_) (a' := ?_) #[true, true, true, true, true, true, true, true, true, false, false, false, false, false, false, false, false, false, false, false] rfl rfl (any_of HT_.out (by kernel_rfl)) (fun _ _ _ h => h) (Or.inl ⟨by rfl, ?_⟩) ?_ ?_
        rotate_left
        · intro w'
          go_simp
          with_reducible rfl
        rotate_left
        · simp only [Act.put, List.setIfInBounds_toArray, List.set_cons_zero, List.set_cons_succ, i64_w, i32_w]
          rfl
        refine take_ (i := 9) (N := some 53) (v := ?_) (a' := ?_) #[true, true, true, true, true, true, true, true, true, true, false, false, false, false, false, false, false, false, false, false] rfl rfl (take_ofW HT_.out HW_.out (by kernel_rfl)) (fun _ _ _ h => h) (Or.inl ⟨by rfl, ?_⟩) hHeld ?_ ?_
        rotate_left
        · rintro w' ⟨s0, s1, s2⟩
          go_simp
          with_reducible rfl
        rotate_left
        · simp only [Act.put, List.setIfInBounds_toArray, List.set_cons_zero, List.set_cons_succ, i64_w, i32_w]
          rfl
        refine pure_ (i := 10) (N := some 54) (v := ?_) (a' := ?_) #[true, true, true, true, true, true, true, true, true, true, true, false, false, false, false, false, false, false, false, false] rfl rfl (any_of HT_.out (by kernel_rfl)) (fun _ _ _ h => h) (Or.inl ⟨by rfl, ?_⟩) ?_ ?_
        rotate_left
        · intro w'
          go_simp
          with_reducible rfl
        rotate_left
        · simp only [Act.put, List.setIfInBounds_toArray, List.set_cons_zero, List.set_cons_succ, i64_w, i32_w]
          rfl
        refine take_ (i := 11) (N := some 55) (v := ?_) (a' := ?_) #[true, true, true, true, true, true, true, true, true, true, true, true, false, false, false, false, false, false, false, false] rfl rfl (take_ofW HT_.out HW_.out (by kernel_rfl)) (fun _ _ _ h => h) (Or.inl ⟨by rfl, ?_⟩) hHeld ?_ ?_
        rotate_left
        · rintro w' ⟨s0, s1, s2⟩
          go_simp
          with_reducible rfl
        rotate_left
        · simp only [Act.put, List.setIfInBounds_toArray, List.set_cons_zero, List.set_cons_succ, i64_w, i32_w]
          rfl
        refine pure_ (i := 12) (N := some 56) (v := ?_) (a' := ?_) #[true, true, true, true, true, true, true, true, true, true, true, true, true, false, false, false, false, false, false, false] rfl rfl (any_of HT_.out (by kernel_rfl)) (fun _ _ _ h => h) (Or.inl ⟨by rfl, ?_⟩) ?_ ?_
        rotate_left
        · intro w'
          go_simp
          with_reducible rfl
        rotate_left
        · simp only [Act.put, List.setIfInBounds_toArray, List.set_cons_zero, List.set_cons_succ, i64_w, i32_w]
          rfl
        refine take_ (i := 13) (N := some 57) (v := ?_) (a' := ?_) #[true, true, true, true, true, true, true, true, true, true, true, true, true, true, false, false, false, false, false, false] rfl rfl (take_ofW HT_.out HW_.out (by kernel_rfl)) (fun _ _ _ h => h) (Or.inl ⟨by rfl, ?_⟩) hHeld ?_ ?_
        rotate_left
        · rintro w' ⟨s0, s1, s2⟩
          go_simp
          with_reducible rfl
        rotate_left
        · simp only [Act.put, List.setIfInBounds_toArray, List.set_cons_zero, List.set_cons_succ, i64_w, i32_w]
          rfl
        refine pure_ (i := 14) (N := some 58) (v := ?_) (a' := ?_) #[true, true, true, true, true, true, true, true, true, true, true, true, true, true, true, false, false, false, false, false] rfl rfl (any_of HT_.out (by kernel_rfl)) (fun _ _ _ h => h) (Or.inl ⟨by rfl, ?_⟩) ?_ ?_
        rotate_left
        · intro w'
          go_simp
          with_reducible rfl
        rotate_left
        · simp only [Act.put, List.setIfInBounds_toArray, List.set_cons_zero, List.set_cons_succ, i64_w, i32_w]
          rfl
        refine pure_ (i := 15) (N := some 59) (v := ?_) (a' := ?_) #[true, true, true, true, true, true, true, true, true, true, true, true, true, true, true, true, false, false, false, false] rfl rfl (any_of HT_.out (by kernel_rfl)) (fun _ _ _ h => h) (Or.inl ⟨by rfl, ?_⟩) ?_ ?_
        rotate_left
        · intro w'
          go_simp
          with_reducible rfl
        rotate_left
        · simp only [Act.put, List.setIfInBounds_toArray, List.set_cons_zero, List.set_cons_succ, i64_w, i32_w]
          rfl
        refine one_ (i := 16) (N := some 60) #[true, true, true, true, true, true, true, true, true, true, true, true, true, true, true, true, true, false, false, false] rfl rfl (one_of HT_.out (by kernel_rfl)) (by decide) (fun K hK => ?_)
        refine value_ (w1 := ?_) (v := ?_) (by rfl) rfl ?_ ?_
        rotate_left 2
        · go_simp
          constructor
          · rfl
          · rfl
        refine hK.out _ _ ⟨alloc_cell (w := W8.drew) HK3.out _, alloc_cell (w := W8.drew) HKA.out _, alloc_cell (w := W8.drew) HKR.out _⟩ (fun hHeld => ?_)
        clear hK K
        refine norm_ (a' := ?_) ?_ ?_
        rotate_left
        · show Act.put _ (some 60) _ = _
          (try simp only [Act.put, List.setIfInBounds_toArray, List.set_cons_zero, List.set_cons_succ, i64_w, i32_w])
          rfl
        refine one_ (i := 17) (N := some 61) #[true, true, true, true, true, true, true, true, true, true, true, true, true, true, true, true, true, true, false, false] rfl rfl (one_of HT_.out (by kernel_rfl)) (by decide) (fun K hK => ?_)
        refine Kd.R_append_step KI (w0 := w) (W := W8.drew) w.heap.size (by rfl) (.tmp 57) (.tmp 60) 40 3 (.int .i64 0) 8 rfl Try.underlying40 info3 rfl (by decide) (by decide) (.slice Ar9 row9.length cr9) row9 (2 * (i : Int)) [.int .i64 (2 * (i : Int))] (fun k => col9 k = 10 + a0.toNat) (fun _ => False) rfl rfl rfl (fun k hk => hk.elim) (fun k hk => hf9.out k hk) (Kd.R_drew RR.out) (below_drew HRn9.out.bel) (below_drew HRn9.out.bel).size HLn.out ?_
        intro v7 w7 hR7 hB7 hg7 hat7
        rw [hrw9.out] at hR7
        obtain ⟨A7, c7, rfl, _⟩ := Kd.R_reads hR7
        have n0 := N0.out
        have n1 := N1.out
        have n2 := N2.out
        have HR9 := Aside0.mk ((HRn9.out.below (below_drew (Below.refl _ _))).putO a0.toNat hul.out RR.out.1 hg7 hB7 hR7)
        have BA9 := Aside0.mk (blk_far (p := ⟨bo, a0.toNat, none⟩) (blk_grown (w := W8.drew) BAC.out hg7 n1) NB.out (.slice A7 rw9.length c7))
        have c0 := hg7.cell (w := W8.drew) HKR.out n2
        have f0 := (hg7.frozen_far ⟨bo, a0.toNat, none⟩ hbo9.out.2 n2).trans HFR.out
        have p0 := hg7.cell (w := W8.drew) HK3.out n0
        have p1 := hg7.cell (w := W8.drew) HKA.out n1
        clear hR7 hB7 hg7 hat7 n0 n1 n2
        refine hK.out _ _ ⟨p0, p1, c0⟩ (fun hHeld => ?_)
        clear hK K
        refine norm_ (a' := ?_) ?_ ?_
        rotate_left
        · show Act.put _ (some 61) _ = _
          (try simp only [Act.put, List.setIfInBounds_toArray, List.set_cons_zero, List.set_cons_succ, i64_w, i32_w])
          rfl
        refine pure_ (i := 18) (N := some 62) (v := ?_) (a' := ?_) #[true, true, true, true, true, true, true, true, true, true, true, true, true, true, true, true, true, true, true, false] rfl rfl (any_of HT_.out (by kernel_rfl)) (fun _ _ _ h => h) (Or.inl ⟨by rfl, ?_⟩) ?_ ?_
        rotate_left
        · intro w'
          go_simp
          with_reducible rfl
        rotate_left
        · simp only [Act.put, List.setIfInBounds_toArray, List.set_cons_zero, List.set_cons_succ, i64_w, i32_w]
          rfl
        refine last_ (i := 19) (N := none) #[true, true, true, true, true, true, true, true, true, true, true, true, true, true, true, true, true, true, true, true] rfl rfl (one_of HT_.out (by kernel_rfl)) (by decide) (fun K hK => ?_)
        refine skip_ (w1 := ?_) (by rfl) rfl ?_ ?_
        rotate_left
        · go_simp
          rfl
        clear c0 f0 p0 p1
        refine hK.out _ _ ?_
        clear hK K
        refine norm_ (a' := ?_) ?_ ?_
        rotate_left
        · rfl
        refine done_ (done_of HT_.out (by kernel_rfl)) ?_
        clear m1 m2 N0 N1 N2 NB HLn
        obtain ⟨W9, hW9⟩ : ∃ W, W = w7.setCell ⟨bo, a0.toNat, none⟩ (.slice A7 rw9.length c7) := ⟨_, rfl⟩
        rw [← hW9] at HR9 BA9 ⊢
        clear hW9 k3 ka kr
        have hon9 : Aside0 (rw9 = rowOf O a0 ++ [2 * (i : Int)]) := ⟨by rw [← hrow9.out, hrw9.out]⟩
        obtain ⟨O9, hO9⟩ : ∃ O1, O1 = O.set a0.toNat rw9 := ⟨_, rfl⟩
        have HOl9 : Aside0 (O9.length = N) := ⟨by rw [hO9, List.length_set]; exact HOl.out⟩
        have HOr9 : Aside0 (∀ x ∈ O9, x.length ≤ 2 * i + 1) := ⟨by rw [hO9]; exact rows_set HOr.out _ _ (by rw [← hrw9.out, List.length_append, List.length_singleton]; have := hrl9.out; omega)⟩
        (try dsimp only at HR9)
        rw [← hO9] at HR9
        rw [hon9.out] at hO9
        replace hO9 := Aside0.mk hO9
        clear HRn9 hf9 hul RR HK3 HKA HKR HFR hbo9
        go_wp2
        obtain ⟨col10, hcol10⟩ : ∃ c : Nat → Nat, c = fun k => if k < W9.heap.size then col9 k else 10 + a1.toNat := ⟨_, rfl⟩
        have HRn10 := Aside0.mk (HR9.out.recol (col' := col10) (fun k hk => by rw [hcol10]; simp [hk]))
        have hf10 : Aside0 (∀ k, W9.heap.size ≤ k → col10 k = 10 + a1.toNat) := ⟨fun k hk => by rw [hcol10]; simp; omega⟩
        have hca10 : Aside0 (col10 ga = 5) := ⟨by rw [hcol10]; simp [blk_lt BA9.out, hca9.out]⟩
        have hul10 : a1.toNat < O9.length := by have := HOl9.out; omega
        obtain ⟨Ar10, cr10, kr, fr, Rr⟩ := HRn10.out.out.rowR a1 e2 (by (try dsimp only); omega)
        have hrl10 : Aside0 ((rowOf O9 a1).length ≤ 2 * i + 1) := ⟨row_le HOr9.out a1⟩
        have hul := Aside0.mk hul10
        (try dsimp only at kr Rr)
        obtain ⟨row10, hrow10⟩ : ∃ row, row = rowOf O9 a1 := ⟨_, rfl⟩
        rw [← hrow10] at kr Rr hrl10
        obtain ⟨rw10, hrw10⟩ : ∃ r, row10 ++ [2 * (i : Int) + 1] = r := ⟨_, rfl⟩
        have RR := Aside0.mk Rr
        have k3 := HRn10.out.k3
        have ka := (blk_cell BA9.out 1).trans rfl
        have k3b := HRn10.out.box
        have HK3 := Aside0.mk k3
        have HKA := Aside0.mk ka
        have HKR := Aside0.mk kr
        have HFR := Aside0.mk fr
        replace hrow10 := Aside0.mk hrow10
        replace hrw10 := Aside0.mk hrw10
        have hbo10 : Aside0 (col10 bo = 2 ∧ bo < W9.heap.size) := ⟨by obtain ⟨bo', co', cells, hv, _, h2, h3, _⟩ := HRn10.out.out; injection hv with e1 e2 e3; injection e1 with e1; injection e1 with e1; subst e1; exact ⟨h2, blk_lt h3⟩⟩
        have HLn := Aside0.mk (show (row10.length + 1) * 8 ≤ 140737488355328 by have := hrl10.out; omega)
        have hfar : ∀ b, col10 b ≠ 10 + a1.toNat → some b ≠ (Value.slice Ar10 row10.length cr10).ownBlock := fun b hb e => hb (RR.out.1 b e.symm)
        have N0 := Aside0.mk (hfar g (by rw [HRn10.out.cg]; omega))
        have N1 := Aside0.mk (hfar ga (by rw [hca10.out]; omega))
        have N2 := Aside0.mk (hfar bo (by rw [hbo10.out.1]; omega))
        have NB : Aside0 (ga ≠ bo) := ⟨fun e => by have h1 := hca10.out; rw [e, hbo10.out.1] at h1; omega⟩
        have iq : (i : Int) < 1000 := by omega
        have m1 : wrap64 (2 * (i : Int)) = 2 * (i : Int) := wrap_id (by omega) (by omega)
        have m2 : Aside0 (wrap64 (2 * (i : Int) + 1) = 2 * (i : Int) + 1) := ⟨wrap_id (by clear m1; omega) (by clear m1; omega)⟩
        replace m2 := m2.out
        clear hcol10 Rr k3b fr hul10 hfar iq
        refine start_ (n := 21) (S := fun w' => (w'.cell? ⟨g, 3, none⟩ = some (.slice (some ⟨bo, 0, none⟩) N co)) ∧ (w'.cell? ⟨ga, 1, none⟩ = some (.int .i64 a1)) ∧ (w'.cell? ⟨bo, a1.toNat, none⟩ = some (.slice Ar10 row10.length cr10))) (ds := [20]) #[false, false, false, false, false, false, false, false, false, false, false, false, false, false, false, false, false, false, false, false, false] (by kernel_rfl) rfl rfl ⟨k3, ka, kr⟩ (fun hHeld => ?_)
        refine with_tabW tb_rest_10.tab tb_rest_10.bits (fun HT_ HW_ => ?_)
        refine pure_ (i := 0) (N := some 63) (v := ?_) (a' := ?_) #[true, false, false, false, false, false, false, false, false, false, false, false, false, false, false, false, false, false, false, false, false] rfl rfl (any_of HT_.out (by kernel_rfl)) (fun _ _ _ h => h) (Or.inl ⟨by rfl, ?_⟩) ?_ ?_
        rotate_left
        · intro w'
          go_simp
          with_reducible rfl
        rotate_left
        · simp only [Act.put, List.setIfInBounds_toArray, List.set_cons_zero, List.set_cons_succ, i64_w, i32_w]
          rfl
        refine pure_ (i := 1) (N := some 64) (v := ?_) (a' := ?_) #[true, true, false, false, false, false, false, false, false, false, false, false, false, false, false, false, false, false, false, false, false] rfl rfl (any_of HT_.out (by kernel_rfl)) (fun _ _ _ h => h) (Or.inl ⟨by rfl, ?_⟩) ?_ ?_
        rotate_left
        · intro w'
          go_simp
          with_reducible rfl
        rotate_left
        · simp only [Act.put, List.setIfInBounds_toArray, List.set_cons_zero, List.set_cons_succ, i64_w, i32_w]
          rfl
        refine pure_ (i := 2) (N := some 65) (v := ?_) (a' := ?_) #[true, true, true, false, false, false, false, false, false, false, false, false, false, false, false, false, false, false, false, false, false] rfl rfl (any_of HT_.out (by kernel_rfl)) (fun _ _ _ h => h) (Or.inl ⟨by rfl, ?_⟩) ?_ ?_
        rotate_left
        · intro w'
          go_simp
          with_reducible rfl
        rotate_left
        · simp only [Act.put, List.setIfInBounds_toArray, List.set_cons_zero, List.set_cons_succ, i64_w, i32_w]
          rfl
        refine take_ (i := 3) (N := some 66) (v := ?_) (a' := ?_) #[true, true, true, true, false, false, false, false, false, false, false, false, false, false, false, false, false, false, false, false, false] rfl rfl (take_ofW HT_.out HW_.out (by kernel_rfl)) (fun _ _ _ h => h) (Or.inl ⟨by rfl, ?_⟩) hHeld ?_ ?_
        rotate_left
        · rintro w' ⟨s0, s1, s2⟩
          go_simp
          with_reducible rfl
        rotate_left
        · simp only [Act.put, List.setIfInBounds_toArray, List.set_cons_zero, List.set_cons_succ, i64_w, i32_w]
          rfl
        refine pure_ (i := 4) (N := some 67) (v := ?_) (a' := ?_) #[true, true, true, true, true, false, false, false, false, false, false, false, false, false, false, false, false, false, false, false, false] rfl rfl (any_of HT_.out (by kernel_rfl)) (fun _ _ _ h => h) (Or.inl ⟨by rfl, ?_⟩) ?_ ?_
        rotate_left
        · intro w'
          go_simp
          with_reducible rfl
        rotate_left
        · simp only [Act.put, List.setIfInBounds_toArray, List.set_cons_zero, List.set_cons_succ, i64_w, i32_w]
          rfl
        refine take_ (i := 5) (N := some 68) (v := ?_) (a' := ?_) #[true, true, true, true, true, true, false, false, false, false, false, false, false, false, false, false, false, false, false, false, false] rfl rfl (take_ofW HT_.out HW_.out (by kernel_rfl)) (fun _ _ _ h => h) (Or.inl ⟨by rfl, ?_⟩) hHeld ?_ ?_
        rotate_left
        · rintro w' ⟨s0, s1, s2⟩
          go_simp
          with_reducible rfl
        rotate_left
        · simp only [Act.put, List.setIfInBounds_toArray, List.set_cons_zero, List.set_cons_succ, i64_w, i32_w]
          rfl
        refine pure_ (i := 6) (N := some 69) (v := ?_) (a' := ?_) #[true, true, true, true, true, true, true, false, false, false, false, false, false, false, false, false, false, false, false, false, false] rfl rfl (any_of HT_.out (by kernel_rfl)) (fun _ _ _ h => h) (Or.inl ⟨by rfl, ?_⟩) ?_ ?_
        rotate_left
        · intro w'
          go_simp
          with_reducible rfl
        rotate_left
        · simp only [Act.put, List.setIfInBounds_toArray, List.set_cons_zero, List.set_cons_succ, i64_w, i32_w]
          rfl
        refine pure_ (i := 7) (N := some 70) (v := ?_) (a' := ?_) #[true, true, true, true, true, true, true, true, false, false, false, false, false, false, false, false, false, false, false, false, false] rfl rfl (any_of HT_.out (by kernel_rfl)) (fun _ _ _ h => h) (Or.inl ⟨by rfl, ?_⟩) ?_ ?_
        rotate_left
        · intro w'
          go_simp
          with_reducible rfl
        rotate_left
        · simp only [Act.put, List.setIfInBounds_toArray, List.set_cons_zero, List.set_cons_succ, i64_w, i32_w]
          rfl
        refine pure_ (i := 8) (N := some 71) (v := ?_) (a' := ?_) #[true, true, true, true, true, true, true, true, true, false, false, false, false, false, false, false, false, false, false, false, false] rfl rfl (any_of HT_.out (by kernel_rfl)) (fun _ _ _ h => h) (Or.inl ⟨by rfl, ?_⟩) ?_ ?_
        rotate_left
        · intro w'
          go_simp
          with_reducible rfl
        rotate_left
        · simp only [Act.put, List.setIfInBounds_toArray, List.set_cons_zero, List.set_cons_succ, i64_w, i32_w]
          rfl
        refine take_ (i := 9) (N := some 72) (v := ?_) (a' := ?_) #[true, true, true, true, true, true, true, true, true, true, false, false, false, false, false, false, false, false, false, false, false] rfl rfl (take_ofW HT_.out HW_.out (by kernel_rfl)) (fun _ _ _ h => h) (Or.inl ⟨by rfl, ?_⟩) hHeld ?_ ?_
        rotate_left
        · rintro w' ⟨s0, s1, s2⟩
          go_simp
          with_reducible rfl
        rotate_left
        · simp only [Act.put, List.setIfInBounds_toArray, List.set_cons_zero, List.set_cons_succ, i64_w, i32_w]
          rfl
        refine pure_ (i := 10) (N := some 73) (v := ?_) (a' := ?_) #[true, true, true, true, true, true, true, true, true, true, true, false, false, false, false, false, false, false, false, false, false] rfl rfl (any_of HT_.out (by kernel_rfl)) (fun _ _ _ h => h) (Or.inl ⟨by rfl, ?_⟩) ?_ ?_
        rotate_left
        · intro w'
          go_simp
          with_reducible rfl
        rotate_left
        · simp only [Act.put, List.setIfInBounds_toArray, List.set_cons_zero, List.set_cons_succ, i64_w, i32_w]
          rfl
        refine take_ (i := 11) (N := some 74) (v := ?_) (a' := ?_) #[true, true, true, true, true, true, true, true, true, true, true, true, false, false, false, false, false, false, false, false, false] rfl rfl (take_ofW HT_.out HW_.out (by kernel_rfl)) (fun _ _ _ h => h) (Or.inl ⟨by rfl, ?_⟩) hHeld ?_ ?_
        rotate_left
        · rintro w' ⟨s0, s1, s2⟩
          go_simp
          with_reducible rfl
        rotate_left
        · simp only [Act.put, List.setIfInBounds_toArray, List.set_cons_zero, List.set_cons_succ, i64_w, i32_w]
          rfl
        refine pure_ (i := 12) (N := some 75) (v := ?_) (a' := ?_) #[true, true, true, true, true, true, true, true, true, true, true, true, true, false, false, false, false, false, false, false, false] rfl rfl (any_of HT_.out (by kernel_rfl)) (fun _ _ _ h => h) (Or.inl ⟨by rfl, ?_⟩) ?_ ?_
        rotate_left
        · intro w'
          go_simp
          with_reducible rfl
        rotate_left
        · simp only [Act.put, List.setIfInBounds_toArray, List.set_cons_zero, List.set_cons_succ, i64_w, i32_w]
          rfl
        refine take_ (i := 13) (N := some 76) (v := ?_) (a' := ?_) #[true, true, true, true, true, true, true, true, true, true, true, true, true, true, false, false, false, false, false, false, false] rfl rfl (take_ofW HT_.out HW_.out (by kernel_rfl)) (fun _ _ _ h => h) (Or.inl ⟨by rfl, ?_⟩) hHeld ?_ ?_
        rotate_left
        · rintro w' ⟨s0, s1, s2⟩
          go_simp
          with_reducible rfl
        rotate_left
        · simp only [Act.put, List.setIfInBounds_toArray, List.set_cons_zero, List.set_cons_succ, i64_w, i32_w]
          rfl
        refine pure_ (i := 14) (N := some 77) (v := ?_) (a' := ?_) #[true, true, true, true, true, true, true, true, true, true, true, true, true, true, true, false, false, false, false, false, false] rfl rfl (any_of HT_.out (by kernel_rfl)) (fun _ _ _ h => h) (Or.inl ⟨by rfl, ?_⟩) ?_ ?_
        rotate_left
        · intro w'
          go_simp
          with_reducible rfl
        rotate_left
        · simp only [Act.put, List.setIfInBounds_toArray, List.set_cons_zero, List.set_cons_succ, i64_w, i32_w]
          rfl
        refine pure_ (i := 15) (N := some 78) (v := ?_) (a' := ?_) #[true, true, true, true, true, true, true, true, true, true, true, true, true, true, true, true, false, false, false, false, false] rfl rfl (any_of HT_.out (by kernel_rfl)) (fun _ _ _ h => h) (Or.inl ⟨by rfl, ?_⟩) ?_ ?_
        rotate_left
        · intro w'
          go_simp
          with_reducible rfl
        rotate_left
        · simp only [Act.put, List.setIfInBounds_toArray, List.set_cons_zero, List.set_cons_succ, i64_w, i32_w]
          rfl
        refine pure_ (i := 16) (N := some 79) (v := ?_) (a' := ?_) #[true, true, true, true, true, true, true, true, true, true, true, true, true, true, true, true, true, false, false, false, false] rfl rfl (any_of HT_.out (by kernel_rfl)) (fun _ _ _ h => h) (Or.inl ⟨by rfl, ?_⟩) ?_ ?_
        rotate_left
        · intro w'
          go_simp
          with_reducible rfl
        rotate_left
        · simp only [Act.put, List.setIfInBounds_toArray, List.set_cons_zero, List.set_cons_succ, i64_w, i32_w]
          rfl
        refine one_ (i := 17) (N := some 80) #[true, true, true, true, true, true, true, true, true, true, true, true, true, true, true, true, true, true, false, false, false] rfl rfl (one_of HT_.out (by kernel_rfl)) (by decide) (fun K hK => ?_)
        refine value_ (w1 := ?_) (v := ?_) (by rfl) rfl ?_ ?_
        rotate_left 2
        · go_simp
          constructor
          · rfl
          · rfl
        refine hK.out _ _ ⟨alloc_cell (w := W9.drew) HK3.out _, alloc_cell (w := W9.drew) HKA.out _, alloc_cell (w := W9.drew) HKR.out _⟩ (fun hHeld => ?_)
        clear hK K
        refine norm_ (a' := ?_) ?_ ?_
        rotate_left
        · show Act.put _ (some 80) _ = _
          (try simp only [Act.put, List.setIfInBounds_toArray, List.set_cons_zero, List.set_cons_succ, i64_w, i32_w])
          rfl
        refine one_ (i := 18) (N := some 81) #[true, true, true, true, true, true, true, true, true, true, true, true, true, true, true, true, true, true, true, false, false] rfl rfl (one_of HT_.out (by kernel_rfl)) (by decide) (fun K hK => ?_)
        refine Kd.R_append_step KI (w0 := w) (W := W9.drew) w.heap.size (by rfl) (.tmp 76) (.tmp 80) 40 3 (.int .i64 0) 8 rfl Try.underlying40 info3 rfl (by decide) (by decide) (.slice Ar10 row10.length cr10) row10 (2 * (i : Int) + 1) [.int .i64 (2 * (i : Int) + 1)] (fun k => col10 k = 10 + a1.toNat) (fun _ => False) rfl rfl rfl (fun k hk => hk.elim) (fun k hk => hf10.out k hk) (Kd.R_drew RR.out) (below_drew HRn10.out.bel) (below_drew HRn10.out.bel).size HLn.out ?_
        intro v7 w7 hR7 hB7 hg7 hat7
        rw [hrw10.out] at hR7
        obtain ⟨A7, c7, rfl, _⟩ := Kd.R_reads hR7
        have n0 := N0.out
        have n1 := N1.out
        have n2 := N2.out
        have HR10 := Aside0.mk ((HRn10.out.below (below_drew (Below.refl _ _))).putO a1.toNat hul.out RR.out.1 hg7 hB7 hR7)
        have BA10 := Aside0.mk (blk_far (p := ⟨bo, a1.toNat, none⟩) (blk_grown (w := W9.drew) BA9.out hg7 n1) NB.out (.slice A7 rw10.length c7))
        have c0 := hg7.cell (w := W9.drew) HKR.out n2
        have f0 := (hg7.frozen_far ⟨bo, a1.toNat, none⟩ hbo10.out.2 n2).trans HFR.out
        have p0 := hg7.cell (w := W9.drew) HK3.out n0
        have p1 := hg7.cell (w := W9.drew) HKA.out n1
        clear hR7 hB7 hg7 hat7 n0 n1 n2
        refine hK.out _ _ ⟨p0, p1, c0⟩ (fun hHeld => ?_)
        clear hK K
        refine norm_ (a' := ?_) ?_ ?_
        rotate_left
        · show Act.put _ (some 81) _ = _
          (try simp only [Act.put, List.setIfInBounds_toArray, List.set_cons_zero, List.set_cons_succ, i64_w, i32_w])
          rfl
        refine pure_ (i := 19) (N := some 82) (v := ?_) (a' := ?_) #[true, true, true, true, true, true, true, true, true, true, true, true, true, true, true, true, true, true, true, true, false] rfl rfl (any_of HT_.out (by kernel_rfl)) (fun _ _ _ h => h) (Or.inl ⟨by rfl, ?_⟩) ?_ ?_
        rotate_left
        · intro w'
          go_simp
          with_reducible rfl
        rotate_left
        · simp only [Act.put, List.setIfInBounds_toArray, List.set_cons_zero, List.set_cons_succ, i64_w, i32_w]
          rfl
        refine last_ (i := 20) (N := none) #[true, true, true, true, true, true, true, true, true, true, true, true, true, true, true, true, true, true, true, true, true] rfl rfl (one_of HT_.out (by kernel_rfl)) (by decide) (fun K hK => ?_)
        refine skip_ (w1 := ?_) (by rfl) rfl ?_ ?_
        rotate_left
        · go_simp
          rfl
        clear c0 f0 p0 p1
        refine hK.out _ _ ?_
        clear hK K
        refine norm_ (a' := ?_) ?_ ?_
        rotate_left
        · rfl
        refine done_ (done_of HT_.out (by kernel_rfl)) ?_
        clear m1 m2 N0 N1 N2 NB HLn
        obtain ⟨W10, hW10⟩ : ∃ W, W = w7.setCell ⟨bo, a1.toNat, none⟩ (.slice A7 rw10.length c7) := ⟨_, rfl⟩
        rw [← hW10] at HR10 BA10 ⊢
        clear hW10 k3 ka kr
        have hon10 : Aside0 (rw10 = rowOf O9 a1 ++ [2 * (i : Int) + 1]) := ⟨by rw [← hrow10.out, hrw10.out]⟩
        obtain ⟨O10, hO10⟩ : ∃ O1, O1 = O9.set a1.toNat rw10 := ⟨_, rfl⟩
        have HOl910 : Aside0 (O10.length = N) := ⟨by rw [hO10, List.length_set]; exact HOl9.out⟩
        have HOr910 : Aside0 (∀ x ∈ O10, x.length ≤ 2 * i + 1 + 1) := ⟨by rw [hO10]; exact rows_set HOr9.out _ _ (by rw [← hrw10.out, List.length_append, List.length_singleton]; have := hrl10.out; omega)⟩
        (try dsimp only at HR10)
        rw [← hO10] at HR10
        rw [hon10.out] at hO10
        replace hO10 := Aside0.mk hO10
        clear HRn10 hf10 hul RR HK3 HKA HKR HFR hbo10
        have HOF10 : Aside0 (outF (arcs.drop (i + 1)) (i + 1) O10 = OO) := ⟨by rw [hO10.out, hO9.out]; exact HOF2.out⟩
        go_wp2
        go_roundg (arcs.length - (i + 1))
        case measure => omega
        case rel => exact ⟨i + 1, L', O10, col10, _, _, by omega, by go_num, HLF8, HOF10, HOl910, HLl8, HOr910, HR10⟩
      | true =>
        go_wp2
        obtain ⟨W6, hW6⟩ : ∃ W, W = ((w5.setCell ⟨ga, 0, none⟩ (.int .i64 a0)).setCell ⟨ga, 1, none⟩ (.int .i64 a1)).setCell ⟨ga, 2, none⟩ (.int .i64 a2) := ⟨_, rfl⟩
        rw [← hW6] at BA6 HR6 ka2 ⊢
        clear hW6 y0 y1 y2 z0 z1 z2
        obtain ⟨colB, hcolB⟩ : ∃ c : Nat → Nat, c = fun k => if k < W6.heap.size then colA k else 1 := ⟨_, rfl⟩
        have HRB := Aside0.mk (HR6.out.recol (col' := colB) (fun k hk => by rw [hcolB]; simp [hk]))
        have hfB : Aside0 (∀ k, W6.heap.size ≤ k → colB k = 1) := ⟨fun k hk => by rw [hcolB]; simp; omega⟩
        have hcaB : Aside0 (colB ga = 5) := ⟨by rw [hcolB]; simp [blk_lt BA6.out, hca5.out]⟩
        have k2 := HRB.out.k2
        (try dsimp only at k2)
        have HK2 := Aside0.mk k2
        have HKA2 := Aside0.mk ka2
        obtain ⟨L', hL'⟩ : ∃ L', L ++ [a2, a2] = L' := ⟨_, rfl⟩
        replace hL' := Aside0.mk hL'
        clear hcolB HR6 hca5
        refine start_ (n := 13) (S := fun w' => (w'.cell? ⟨g, 2, none⟩ = some (.slice AL L.length cL)) ∧ (w'.cell? ⟨ga, 2, none⟩ = some (.int .i64 a2))) (ds := [9, 12]) #[false, false, false, false, false, false, false, false, false, false, false, false, false] (by kernel_rfl) rfl rfl ⟨k2, ka2⟩ (fun hHeld => ?_)
        refine with_tabW tb_rest_8.tab tb_rest_8.bits (fun HT_ HW_ => ?_)
        refine pure_ (i := 0) (N := some 32) (v := ?_) (a' := ?_) #[true, false, false, false, false, false, false, false, false, false, false, false, false] rfl rfl (any_of HT_.out (by kernel_rfl)) (fun _ _ _ h => h) (Or.inl ⟨by rfl, ?_⟩) ?_ ?_
        rotate_left
        · intro w'
          go_simp
          with_reducible rfl
        rotate_left
        · simp only [Act.put, List.setIfInBounds_toArray, List.set_cons_zero, List.set_cons_succ, i64_w, i32_w]
          rfl
        refine pure_ (i := 1) (N := some 33) (v := ?_) (a' := ?_) #[true, true, false, false, false, false, false, false, false, false, false, false, false] rfl rfl (any_of HT_.out (by kernel_rfl)) (fun _ _ _ h => h) (Or.inl ⟨by rfl, ?_⟩) ?_ ?_
        rotate_left
        · intro w'
          go_simp
          with_reducible rfl
        rotate_left
        · simp only [Act.put, List.setIfInBounds_toArray, List.set_cons_zero, List.set_cons_succ, i64_w, i32_w]
          rfl
        refine pure_ (i := 2) (N := some 34) (v := ?_) (a' := ?_) #[true, true, true, false, false, false, false, false, false, false, false, false, false] rfl rfl (any_of HT_.out (by kernel_rfl)) (fun _ _ _ h => h) (Or.inl ⟨by rfl, ?_⟩) ?_ ?_
        rotate_left
        · intro w'
          go_simp
          with_reducible rfl
        rotate_left
        · simp only [Act.put, List.setIfInBounds_toArray, List.set_cons_zero, List.set_cons_succ, i64_w, i32_w]
          rfl
        refine pure_ (i := 3) (N := some 35) (v := ?_) (a' := ?_) #[true, true, true, true, false, false, false, false, false, false, false, false, false] rfl rfl (any_of HT_.out (by kernel_rfl)) (fun _ _ _ h => h) (Or.inl ⟨by rfl, ?_⟩) ?_ ?_
        rotate_left
        · intro w'
          go_simp
          with_reducible rfl
        rotate_left
        · simp only [Act.put, List.setIfInBounds_toArray, List.set_cons_zero, List.set_cons_succ, i64_w, i32_w]
          rfl
        refine take_ (i := 4) (N := some 36) (v := ?_) (a' := ?_) #[true, true, true, true, true, false, false, false, false, false, false, false, false] rfl rfl (take_ofW HT_.out HW_.out (by kernel_rfl)) (fun _ _ _ h => h) (Or.inl ⟨by rfl, ?_⟩) hHeld ?_ ?_
        rotate_left
        · rintro w' ⟨s0, s1⟩
          go_simp
          with_reducible rfl
        rotate_left
        · simp only [Act.put, List.setIfInBounds_toArray, List.set_cons_zero, List.set_cons_succ, i64_w, i32_w]
          rfl
        refine pure_ (i := 5) (N := some 37) (v := ?_) (a' := ?_) #[true, true, true, true, true, true, false, false, false, false, false, false, false] rfl rfl (any_of HT_.out (by kernel_rfl)) (fun _ _ _ h => h) (Or.inl ⟨by rfl, ?_⟩) ?_ ?_
        rotate_left
        · intro w'
          go_simp
          with_reducible rfl
        rotate_left
        · simp only [Act.put, List.setIfInBounds_toArray, List.set_cons_zero, List.set_cons_succ, i64_w, i32_w]
          rfl
        refine take_ (i := 6) (N := some 38) (v := ?_) (a' := ?_) #[true, true, true, true, true, true, true, false, false, false, false, false, false] rfl rfl (take_ofW HT_.out HW_.out (by kernel_rfl)) (fun _ _ _ h => h) (Or.inl ⟨by rfl, ?_⟩) hHeld ?_ ?_
        rotate_left
        · rintro w' ⟨s0, s1⟩
          go_simp
          with_reducible rfl
        rotate_left
        · simp only [Act.put, List.setIfInBounds_toArray, List.set_cons_zero, List.set_cons_succ, i64_w, i32_w]
          rfl
        refine pure_ (i := 7) (N := some 39) (v := ?_) (a' := ?_) #[true, true, true, true, true, true, true, true, false, false, false, false, false] rfl rfl (any_of HT_.out (by kernel_rfl)) (fun _ _ _ h => h) (Or.inl ⟨by rfl, ?_⟩) ?_ ?_
        rotate_left
        · intro w'
          go_simp
          with_reducible rfl
        rotate_left
        · simp only [Act.put, List.setIfInBounds_toArray, List.set_cons_zero, List.set_cons_succ, i64_w, i32_w]
          rfl
        refine one_ (i := 8) (N := some 40) #[true, true, true, true, true, true, true, true, true, false, false, false, false] rfl rfl (one_of HT_.out (by kernel_rfl)) (by decide) (fun K hK => ?_)
        refine value_ (w1 := ?_) (v := ?_) (by rfl) rfl ?_ ?_
        rotate_left 2
        · go_simp
          constructor
          · rfl
          · rfl
        refine hK.out _ _ ⟨alloc_cell (w := W6.drew) HK2.out _, alloc_cell (w := W6.drew) HKA2.out _⟩ (fun hHeld => ?_)
        clear hK K
        refine norm_ (a' := ?_) ?_ ?_
        rotate_left
        · show Act.put _ (some 40) _ = _
          (try simp only [Act.put, List.setIfInBounds_toArray, List.set_cons_zero, List.set_cons_succ, i64_w, i32_w])
          rfl
        refine last_ (i := 9) (N := some 41) #[true, true, true, true, true, true, true, true, true, true, false, false, false] rfl rfl (one_of HT_.out (by kernel_rfl)) (by decide) (fun K hK => ?_)
        refine Kd.R_append_rows_step KI (Rr := KI.K W6) (w0 := w) w.heap.size (by rfl) (.tmp 36) (.tmp 40) 40 3 (.int .i64 0) 8 rfl Try.underlying40 info3 rfl (by decide) (by decide) (.slice AL L.length cL) L [a2, a2] _ 2 2 (fun k => colB k = 1) (fun _ => False) rfl rfl (Kd.R_alloc (Kd.R_drew HRB.out.left) _) (lit2R W6.drew W6 a2 (a2)) (fun x cs h => h) (fun k hk => hk.elim) (fun k hk => hfB.out k (Nat.le_trans (below_alloc (Below.refl W6.drew.heap.size W6.drew) (.cells #[.int .i64 a2, .int .i64 (a2)] 3)).size hk)) (below_alloc_ (below_drew HRB.out.bel) HRB.out.bel.size _) (Nat.le_trans HRB.out.bel.size (below_alloc (Below.refl W6.drew.heap.size W6.drew) _).size) (by have := HLl.out; omega) ?_
        intro v7 w7 hR7 hB7 hg7 hat7
        rw [hL'.out] at hR7
        obtain ⟨A7, c7, rfl, _⟩ := Kd.R_reads hR7
        have HRC := Aside0.mk (((HRB.out.below (below_drew (Below.refl _ _))).below (below_alloc (Below.refl _ _) _)).boxL HRB.out.left.1 hg7 hB7 hR7)
        have n0 : some g ≠ (Value.slice AL L.length cL).ownBlock := fun e => by have h1 : colB g = 1 := HRB.out.left.1 g e.symm; rw [HRB.out.cg] at h1; cases h1
        have n1 : some ga ≠ (Value.slice AL L.length cL).ownBlock := fun e => by have h1 : colB ga = 1 := HRB.out.left.1 ga e.symm; rw [hcaB.out] at h1; omega
        have c0 := hg7.cell (alloc_cell (w := W6.drew) HK2.out _) n0
        have f0 := blk_frozen (blk_grown (blk_alloc (w := W6.drew) HRB.out.box _) hg7 n0) 2
        have BAC := Aside0.mk (blk_far (p := ⟨g, 2, none⟩) (blk_grown (blk_alloc (w := W6.drew) BA6.out _) hg7 n1) (fun e => by replace e : ga = g := e; have h1 := hcaB.out; rw [e, HRB.out.cg] at h1; omega) (.slice A7 L'.length c7))
        clear hR7 hB7 hg7 hat7 n0 n1
        refine hK.out _ _ ?_
        clear hK K
        refine norm_ (a' := ?_) ?_ ?_
        rotate_left
        · show Act.put _ (some 41) _ = _
          (try simp only [Act.put, List.setIfInBounds_toArray, List.set_cons_zero, List.set_cons_succ, i64_w, i32_w])
          rfl
        refine pure_ (i := 10) (N := some 42) (v := ?_) (a' := ?_) #[true, true, true, true, true, true, true, true, true, true, true, false, false] rfl rfl (any_of HT_.out (by kernel_rfl)) (fun _ _ _ h => h) (Or.inl ⟨by rfl, ?_⟩) ?_ ?_
        rotate_left
        · intro w'
          go_simp
          with_reducible rfl
        rotate_left
        · simp only [Act.put, List.setIfInBounds_toArray, List.set_cons_zero, List.set_cons_succ, i64_w, i32_w]
          rfl
        refine pure_ (i := 11) (N := some 43) (v := ?_) (a' := ?_) #[true, true, true, true, true, true, true, true, true, true, true, true, false] rfl rfl (any_of HT_.out (by kernel_rfl)) (fun _ _ _ h => h) (Or.inl ⟨by rfl, ?_⟩) ?_ ?_
        rotate_left
        · intro w'
          go_simp
          with_reducible rfl
        rotate_left
        · simp only [Act.put, List.setIfInBounds_toArray, List.set_cons_zero, List.set_cons_succ, i64_w, i32_w]
          rfl
        refine last_ (i := 12) (N := none) #[true, true, true, true, true, true, true, true, true, true, true, true, true] rfl rfl (one_of HT_.out (by kernel_rfl)) (by decide) (fun K hK => ?_)
        refine skip_ (w1 := ?_) (by rfl) rfl ?_ ?_
        rotate_left
        · go_simp
          rfl
        clear c0 f0
        refine hK.out _ _ ?_
        clear hK K
        refine norm_ (a' := ?_) ?_ ?_
        rotate_left
        · rfl
        refine done_ (done_of HT_.out (by kernel_rfl)) ?_
        obtain ⟨W8, hW8⟩ : ∃ W, W = w7.setCell ⟨g, 2, none⟩ (.slice A7 L'.length c7) := ⟨_, rfl⟩
        rw [← hW8] at HRC BAC ⊢
        clear hW8 k2 ka2 HRB HK2 HKA2 hfB BA6
        have HLl8 : Aside0 (L'.length = 2 * (i + 1)) := ⟨by rw [← hL'.out, List.length_append]; have := HLl.out; simp; omega⟩
        have HLF8 : Aside0 (leftF true (arcs.drop (i + 1)) L' = LL) := ⟨by have := HLF2.out; rw [← hL'.out]; exact this⟩
        have hiw : Aside0 (0 ≤ 2 * (i : Int) ∧ 2 * (i : Int) < 100000) := ⟨by omega⟩
        go_wp2
        obtain ⟨col9, hcol9⟩ : ∃ c : Nat → Nat, c = fun k => if k < W8.heap.size then colB k else 10 + a0.toNat := ⟨_, rfl⟩
        have HRn9 := Aside0.mk (HRC.out.recol (col' := col9) (fun k hk => by rw [hcol9]; simp [hk]))
        have hf9 : Aside0 (∀ k, W8.heap.size ≤ k → col9 k = 10 + a0.toNat) := ⟨fun k hk => by rw [hcol9]; simp; omega⟩
        have hca9 : Aside0 (col9 ga = 5) := ⟨by rw [hcol9]; simp [blk_lt BAC.out, hcaB.out]⟩
        have hul9 : a0.toNat < O.length := by have := HOl.out; omega
        obtain ⟨Ar9, cr9, kr, fr, Rr⟩ := HRn9.out.out.rowR a0 e0 (by (try dsimp only); omega)
        have hrl9 : Aside0 ((rowOf O a0).length ≤ 2 * i) := ⟨row_le HOr.out a0⟩
        have hul := Aside0.mk hul9
        (try dsimp only at kr Rr)
        obtain ⟨row9, hrow9⟩ : ∃ row, row = rowOf O a0 := ⟨_, rfl⟩
        rw [← hrow9] at kr Rr hrl9
        obtain ⟨rw9, hrw9⟩ : ∃ r, row9 ++ [2 * (i : Int)] = r := ⟨_, rfl⟩
        have RR := Aside0.mk Rr
        have k3 := HRn9.out.k3
        have ka := (blk_cell BAC.out 0).trans rfl
        have k3b := HRn9.out.box
        have HK3 := Aside0.mk k3
        have HKA := Aside0.mk ka
        have HKR := Aside0.mk kr
        have HFR := Aside0.mk fr
        replace hrow9 := Aside0.mk hrow9
        replace hrw9 := Aside0.mk hrw9
        have hbo9 : Aside0 (col9 bo = 2 ∧ bo < W8.heap.size) := ⟨by obtain ⟨bo', co', cells, hv, _, h2, h3, _⟩ := HRn9.out.out; injection hv with e1 e2 e3; injection e1 with e1; injection e1 with e1; subst e1; exact ⟨h2, blk_lt h3⟩⟩
        have HLn := Aside0.mk (show (row9.length + 1) * 8 ≤ 140737488355328 by have := hrl9.out; omega)
        have hfar : ∀ b, col9 b ≠ 10 + a0.toNat → some b ≠ (Value.slice Ar9 row9.length cr9).ownBlock := fun b hb e => hb (RR.out.1 b e.symm)
        have N0 := Aside0.mk (hfar g (by rw [HRn9.out.cg]; omega))
        have N1 := Aside0.mk (hfar ga (by rw [hca9.out]; omega))
        have N2 := Aside0.mk (hfar bo (by rw [hbo9.out.1]; omega))
        have NB : Aside0 (ga ≠ bo) := ⟨fun e => by have h1 := hca9.out; rw [e, hbo9.out.1] at h1; omega⟩
        have iq : (i : Int) < 1000 := by omega
        have m1 : wrap64 (2 * (i : Int)) = 2 * (i : Int) := wrap_id (by omega) (by omega)
        have m2 : Aside0 (wrap64 (2 * (i : Int) + 1) = 2 * (i : Int) + 1) := ⟨wrap_id (by clear m1; omega) (by clear m1; omega)⟩
        replace m2 := m2.out
        clear hcol9 Rr k3b fr hul9 hfar iq
        refine start_ (n := 20) (S := fun w' => (w'.cell? ⟨g, 3, none⟩ = some (.slice (some ⟨bo, 0, none⟩) N co)) ∧ (w'.cell? ⟨ga, 0, none⟩ = some (.int .i64 a0)) ∧ (w'.cell? ⟨bo, a0.toNat, none⟩ = some (.slice Ar9 row9.length cr9))) (ds := [19]) #[false, false, false, false, false, false, false, false, false, false, false, false, false, false, false, false, false, false, false, false] (by kernel_rfl) rfl rfl ⟨k3, ka, kr⟩ (fun hHeld => ?_)
        refine with_tabW tb_rest_9.tab tb_rest_9.bits (fun HT_ HW_ => ?_)
        refine pure_ (i := 0) (N := some 44) (v := ?_) (a' := ?_) #[true, false, false, false, false, false, false, false, false, false, false, false, false, false, false, false, false, false, false, false] rfl rfl (any_of HT_.out (by kernel_rfl)) (fun _ _ _ h => h) (Or.inl ⟨by rfl, ?_⟩) ?_ ?_
        rotate_left
        · intro w'
          go_simp
          with_reducible rfl
        rotate_left
        · simp only [Act.put, List.setIfInBounds_toArray, List.set_cons_zero, List.set_cons_succ, i64_w, i32_w]
          rfl
        refine pure_ (i := 1) (N := some 45) (v := ?_) (a' := ?_) #[true, true, false, false, false, false, false, false, false, false, false, false, false, false, false, false, false, false, false, false] rfl rfl (any_of HT_.out (by kernel_rfl)) (fun _ _ _ h => h) (Or.inl ⟨by rfl, ?_⟩) ?_ ?_
        rotate_left
        · intro w'
          go_simp
          with_reducible rfl
        rotate_left
        · simp only [Act.put, List.setIfInBounds_toArray, List.set_cons_zero, List.set_cons_succ, i64_w, i32_w]
          rfl
        refine pure_ (i := 2) (N := some 46) (v := ?_) (a' := ?_) #[true, true, true, false, false, false, false, false, false, false, false, false, false, false, false, false, false, false, false, false] rfl rfl (any_of HT_.out (by kernel_rfl)) (fun _ _ _ h => h) (Or.inl ⟨by rfl, ?_⟩) ?_ ?_
        rotate_left
        · intro w'
          go_simp
          with_reducible rfl
        rotate_left
        · simp only [Act.put, List.setIfInBounds_toArray, List.set_cons_zero, List.set_cons_succ, i64_w, i32_w]
          rfl
        refine take_ (i := 3) (N := some 47) (v := ?_) (a' := ?_) #[true, true, true, true, false, false, false, false, false, false, false, false, false, false, false, false, false, false, false, false] rfl rfl (take_ofW HT_.out HW_.out (by kernel_rfl)) (fun _ _ _ h => h) (Or.inl ⟨by rfl, ?_⟩) hHeld ?_ ?_
        rotate_left
        · rintro w' ⟨s0, s1, s2⟩
          go_simp
          with_reducible rfl
        rotate_left
        · simp only [Act.put, List.setIfInBounds_toArray, List.set_cons_zero, List.set_cons_succ, i64_w, i32_w]
          rfl
        refine pure_ (i := 4) (N := some 48) (v := ?_) (a' := ?_) #[true, true, true, true, true, false, false, false, false, false, false, false, false, false, false, false, false, false, false, false] rfl rfl (any_of HT_.out (by kernel_rfl)) (fun _ _ _ h => h) (Or.inl ⟨by rfl, ?_⟩) ?_ ?_
        rotate_left
        · intro w'
          go_simp
          with_reducible rfl
        rotate_left
        · simp only [Act.put, List.setIfInBounds_toArray, List.set_cons_zero, List.set_cons_succ, i64_w, i32_w]
          rfl
        refine take_ (i := 5) (N := some 49) (v := ?_) (a' := ?_) #[true, true, true, true, true, true, false, false, false, false, false, false, false, false, false, false, false, false, false, false] rfl rfl (take_ofW HT_.out HW_.out (by kernel_rfl)) (fun _ _ _ h => h) (Or.inl ⟨by rfl, ?_⟩) hHeld ?_ ?_
        rotate_left
        · rintro w' ⟨s0, s1, s2⟩
          go_simp
          with_reducible rfl
        rotate_left
        · simp only [Act.put, List.setIfInBounds_toArray, List.set_cons_zero, List.set_cons_succ, i64_w, i32_w]
          rfl
        refine pure_ (i := 6) (N := some 50) (v := ?_) (a' := ?_) #[true, true, true, true, true, true, true, false, false, false, false, false, false, false, false, false, false, false, false, false] rfl rfl (any_of HT_.out (by kernel_rfl)) (fun _ _ _ h => h) (Or.inl ⟨by rfl, ?_⟩) ?_ ?_
        rotate_left
        · intro w'
          go_simp
          with_reducible rfl
        rotate_left
        · simp only [Act.put, List.setIfInBounds_toArray, List.set_cons_zero, List.set_cons_succ, i64_w, i32_w]
          rfl
        refine pure_ (i := 7) (N := some 51) (v := ?_) (a' := ?_) #[true, true, true, true, true, true, true, true, false, false, false, false, false, false, false, false, false, false, false, false] rfl rfl (any_of HT_.out (by kernel_rfl)) (fun _ _ _ h => h) (Or.inl ⟨by rfl, ?_⟩) ?_ ?_
        rotate_left
        · intro w'
          go_simp
          with_reducible rfl
        rotate_left
        · simp only [Act.put, List.setIfInBounds_toArray, List.set_cons_zero, List.set_cons_succ, i64_w, i32_w]
          rfl
        refine pure_ (i := 8) (N := some 52) (v := ?_) (a' := ?_) #[true, true, true, true, true, true, true, true, true, false, false, false, false, false, false, false, false, false, false, false] rfl rfl (any_of HT_.out (by kernel_rfl)) (fun _ _ _ h => h) (Or.inl ⟨by rfl, ?_⟩) ?_ ?_
        rotate_left
        · intro w'
          go_simp
          with_reducible rfl
        rotate_left
        · simp only [Act.put, List.setIfInBounds_toArray, List.set_cons_zero, List.set_cons_succ, i64_w, i32_w]
          rfl
        refine take_ (i := 9) (N := some 53) (v := ?_) (a' := ?_) #[true, true, true, true, true, true, true, true, true, true, false, false, false, false, false, false, false, false, false, false] rfl rfl (take_ofW HT_.out HW_.out (by kernel_rfl)) (fun _ _ _ h => h) (Or.inl ⟨by rfl, ?_⟩) hHeld ?_ ?_
        rotate_left
        · rintro w' ⟨s0, s1, s2⟩
          go_simp
          with_reducible rfl
        rotate_left
        · simp only [Act.put, List.setIfInBounds_toArray, List.set_cons_zero, List.set_cons_succ, i64_w, i32_w]
          rfl
        refine pure_ (i := 10) (N := some 54) (v := ?_) (a' := ?_) #[true, true, true, true, true, true, true, true, true, true, true, false, false, false, false, false, false, false, false, false] rfl rfl (any_of HT_.out (by kernel_rfl)) (fun _ _ _ h => h) (Or.inl ⟨by rfl, ?_⟩) ?_ ?_
        rotate_left
        · intro w'
          go_simp
          with_reducible rfl
        rotate_left
        · simp only [Act.put, List.setIfInBounds_toArray, List.set_cons_zero, List.set_cons_succ, i64_w, i32_w]
          rfl
        refine take_ (i := 11) (N := some 55) (v := ?_) (a' := ?_) #[true, true, true, true, true, true, true, true, true, true, true, true, false, false, false, false, false, false, false, false] rfl rfl (take_ofW HT_.out HW_.out (by kernel_rfl)) (fun _ _ _ h => h) (Or.inl ⟨by rfl, ?_⟩) hHeld ?_ ?_
        rotate_left
        · rintro w' ⟨s0, s1, s2⟩
          go_simp
          with_reducible rfl
        rotate_left
        · simp only [Act.put, List.setIfInBounds_toArray, List.set_cons_zero, List.set_cons_succ, i64_w, i32_w]
          rfl
        refine pure_ (i := 12) (N := some 56) (v := ?_) (a' := ?_) #[true, true, true, true, true, true, true, true, true, true, true, true, true, false, false, false, false, false, false, false] rfl rfl (any_of HT_.out (by kernel_rfl)) (fun _ _ _ h => h) (Or.inl ⟨by rfl, ?_⟩) ?_ ?_
        rotate_left
        · intro w'
          go_simp
          with_reducible rfl
        rotate_left
        · simp only [Act.put, List.setIfInBounds_toArray, List.set_cons_zero, List.set_cons_succ, i64_w, i32_w]
          rfl
        refine take_ (i := 13) (N := some 57) (v := ?_) (a' := ?_) #[true, true, true, true, true, true, true, true, true, true, true, true, true, true, false, false, false, false, false, false] rfl rfl (take_ofW HT_.out HW_.out (by kernel_rfl)) (fun _ _ _ h => h) (Or.inl ⟨by rfl, ?_⟩) hHeld ?_ ?_
        rotate_left
        · rintro w' ⟨s0, s1, s2⟩
          go_simp
          with_reducible rfl
        rotate_left
        · simp only [Act.put, List.setIfInBounds_toArray, List.set_cons_zero, List.set_cons_succ, i64_w, i32_w]
          rfl
        refine pure_ (i := 14) (N := some 58) (v := ?_) (a' := ?_) #[true, true, true, true, true, true, true, true, true, true, true, true, true, true, true, false, false, false, false, false] rfl rfl (any_of HT_.out (by kernel_rfl)) (fun _ _ _ h => h) (Or.inl ⟨by rfl, ?_⟩) ?_ ?_
        rotate_left
        · intro w'
          go_simp
          with_reducible rfl
        rotate_left
        · simp only [Act.put, List.setIfInBounds_toArray, List.set_cons_zero, List.set_cons_succ, i64_w, i32_w]
          rfl
        refine pure_ (i := 15) (N := some 59) (v := ?_) (a' := ?_) #[true, true, true, true, true, true, true, true, true, true, true, true, true, true, true, true, false, false, false, false] rfl rfl (any_of HT_.out (by kernel_rfl)) (fun _ _ _ h => h) (Or.inl ⟨by rfl, ?_⟩) ?_ ?_
        rotate_left
        · intro w'
          go_simp
          with_reducible rfl
        rotate_left
        · simp only [Act.put, List.setIfInBounds_toArray, List.set_cons_zero, List.set_cons_succ, i64_w, i32_w]
          rfl
        refine one_ (i := 16) (N := some 60) #[true, true, true, true, true, true, true, true, true, true, true, true, true, true, true, true, true, false, false, false] rfl rfl (one_of HT_.out (by kernel_rfl)) (by decide) (fun K hK => ?_)
        refine value_ (w1 := ?_) (v := ?_) (by rfl) rfl ?_ ?_
        rotate_left 2
        · go_simp
          constructor
          · rfl
          · rfl
        refine hK.out _ _ ⟨alloc_cell (w := W8.drew) HK3.out _, alloc_cell (w := W8.drew) HKA.out _, alloc_cell (w := W8.drew) HKR.out _⟩ (fun hHeld => ?_)
        clear hK K
        refine norm_ (a' := ?_) ?_ ?_
        rotate_left
        · show Act.put _ (some 60) _ = _
          (try simp only [Act.put, List.setIfInBounds_toArray, List.set_cons_zero, List.set_cons_succ, i64_w, i32_w])
          rfl
        refine one_ (i := 17) (N := some 61) #[true, true, true, true, true, true, true, true, true, true, true, true, true, true, true, true, true, true, false, false] rfl rfl (one_of HT_.out (by kernel_rfl)) (by decide) (fun K hK => ?_)
        refine Kd.R_append_step KI (w0 := w) (W := W8.drew) w.heap.size (by rfl) (.tmp 57) (.tmp 60) 40 3 (.int .i64 0) 8 rfl Try.underlying40 info3 rfl (by decide) (by decide) (.slice Ar9 row9.length cr9) row9 (2 * (i : Int)) [.int .i64 (2 * (i : Int))] (fun k => col9 k = 10 + a0.toNat) (fun _ => False) rfl rfl rfl (fun k hk => hk.elim) (fun k hk => hf9.out k hk) (Kd.R_drew RR.out) (below_drew HRn9.out.bel) (below_drew HRn9.out.bel).size HLn.out ?_
        intro v7 w7 hR7 hB7 hg7 hat7
        rw [hrw9.out] at hR7
        obtain ⟨A7, c7, rfl, _⟩ := Kd.R_reads hR7
        have n0 := N0.out
        have n1 := N1.out
        have n2 := N2.out
        have HR9 := Aside0.mk ((HRn9.out.below (below_drew (Below.refl _ _))).putO a0.toNat hul.out RR.out.1 hg7 hB7 hR7)
        have BA9 := Aside0.mk (blk_far (p := ⟨bo, a0.toNat, none⟩) (blk_grown (w := W8.drew) BAC.out hg7 n1) NB.out (.slice A7 rw9.length c7))
        have c0 := hg7.cell (w := W8.drew) HKR.out n2
        have f0 := (hg7.frozen_far ⟨bo, a0.toNat, none⟩ hbo9.out.2 n2).trans HFR.out
        have p0 := hg7.cell (w := W8.drew) HK3.out n0
        have p1 := hg7.cell (w := W8.drew) HKA.out n1
        clear hR7 hB7 hg7 hat7 n0 n1 n2
        refine hK.out _ _ ⟨p0, p1, c0⟩ (fun hHeld => ?_)
        clear hK K
        refine norm_ (a' := ?_) ?_ ?_
        rotate_left
        · show Act.put _ (some 61) _ = _
          (try simp only [Act.put, List.setIfInBounds_toArray, List.set_cons_zero, List.set_cons_succ, i64_w, i32_w])
          rfl
        refine pure_ (i := 18) (N := some 62) (v := ?_) (a' := ?_) #[true, true, true, true, true, true, true, true, true, true, true, true, true, true, true, true, true, true, true, false] rfl rfl (any_of HT_.out (by kernel_rfl)) (fun _ _ _ h => h) (Or.inl ⟨by rfl, ?_⟩) ?_ ?_
        rotate_left
        · intro w'
          go_simp
          with_reducible rfl
        rotate_left
        · simp only [Act.put, List.setIfInBounds_toArray, List.set_cons_zero, List.set_cons_succ, i64_w, i32_w]
          rfl
        refine last_ (i := 19) (N := none) #[true, true, true, true, true, true, true, true, true, true, true, true, true, true, true, true, true, true, true, true] rfl rfl (one_of HT_.out (by kernel_rfl)) (by decide) (fun K hK => ?_)
        refine skip_ (w1 := ?_) (by rfl) rfl ?_ ?_
        rotate_left
        · go_simp
          rfl
        clear c0 f0 p0 p1
        refine hK.out _ _ ?_
        clear hK K
        refine norm_ (a' := ?_) ?_ ?_
        rotate_left
        · rfl
        refine done_ (done_of HT_.out (by kernel_rfl)) ?_
        clear m1 m2 N0 N1 N2 NB HLn
        obtain ⟨W9, hW9⟩ : ∃ W, W = w7.setCell ⟨bo, a0.toNat, none⟩ (.slice A7 rw9.length c7) := ⟨_, rfl⟩
        rw [← hW9] at HR9 BA9 ⊢
        clear hW9 k3 ka kr
        have hon9 : Aside0 (rw9 = rowOf O a0 ++ [2 * (i : Int)]) := ⟨by rw [← hrow9.out, hrw9.out]⟩
        obtain ⟨O9, hO9⟩ : ∃ O1, O1 = O.set a0.toNat rw9 := ⟨_, rfl⟩
        have HOl9 : Aside0 (O9.length = N) := ⟨by rw [hO9, List.length_set]; exact HOl.out⟩
        have HOr9 : Aside0 (∀ x ∈ O9, x.length ≤ 2 * i + 1) := ⟨by rw [hO9]; exact rows_set HOr.out _ _ (by rw [← hrw9.out, List.length_append, List.length_singleton]; have := hrl9.out; omega)⟩
        (try dsimp only at HR9)
        rw [← hO9] at HR9
        rw [hon9.out] at hO9
        replace hO9 := Aside0.mk hO9
        clear HRn9 hf9 hul RR HK3 HKA HKR HFR hbo9
        go_wp2
        obtain ⟨col10, hcol10⟩ : ∃ c : Nat → Nat, c = fun k => if k < W9.heap.size then col9 k else 10 + a1.toNat := ⟨_, rfl⟩
        have HRn10 := Aside0.mk (HR9.out.recol (col' := col10) (fun k hk => by rw [hcol10]; simp [hk]))
        have hf10 : Aside0 (∀ k, W9.heap.size ≤ k → col10 k = 10 + a1.toNat) := ⟨fun k hk => by rw [hcol10]; simp; omega⟩
        have hca10 : Aside0 (col10 ga = 5) := ⟨by rw [hcol10]; simp [blk_lt BA9.out, hca9.out]⟩
        have hul10 : a1.toNat < O9.length := by have := HOl9.out; omega
        obtain ⟨Ar10, cr10, kr, fr, Rr⟩ := HRn10.out.out.rowR a1 e2 (by (try dsimp only); omega)
        have hrl10 : Aside0 ((rowOf O9 a1).length ≤ 2 * i + 1) := ⟨row_le HOr9.out a1⟩
        have hul := Aside0.mk hul10
        (try dsimp only at kr Rr)
        obtain ⟨row10, hrow10⟩ : ∃ row, row = rowOf O9 a1 := ⟨_, rfl⟩
        rw [← hrow10] at kr Rr hrl10
        obtain ⟨rw10, hrw10⟩ : ∃ r, row10 ++ [2 * (i : Int) + 1] = r := ⟨_, rfl⟩
        have RR := Aside0.mk Rr
        have k3 := HRn10.out.k3
        have ka := (blk_cell BA9.out 1).trans rfl
        have k3b := HRn10.out.box
        have HK3 := Aside0.mk k3
        have HKA := Aside0.mk ka
        have HKR := Aside0.mk kr
        have HFR := Aside0.mk fr
        replace hrow10 := Aside0.mk hrow10
        replace hrw10 := Aside0.mk hrw10
        have hbo10 : Aside0 (col10 bo = 2 ∧ bo < W9.heap.size) := ⟨by obtain ⟨bo', co', cells, hv, _, h2, h3, _⟩ := HRn10.out.out; injection hv with e1 e2 e3; injection e1 with e1; injection e1 with e1; subst e1; exact ⟨h2, blk_lt h3⟩⟩
        have HLn := Aside0.mk (show (row10.length + 1) * 8 ≤ 140737488355328 by have := hrl10.out; omega)
        have hfar : ∀ b, col10 b ≠ 10 + a1.toNat → some b ≠ (Value.slice Ar10 row10.length cr10).ownBlock := fun b hb e => hb (RR.out.1 b e.symm)
        have N0 := Aside0.mk (hfar g (by rw [HRn10.out.cg]; omega))
        have N1 := Aside0.mk (hfar ga (by rw [hca10.out]; omega))
        have N2 := Aside0.mk (hfar bo (by rw [hbo10.out.1]; omega))
        have NB : Aside0 (ga ≠ bo) := ⟨fun e => by have h1 := hca10.out; rw [e, hbo10.out.1] at h1; omega⟩
        have iq : (i : Int) < 1000 := by omega
        have m1 : wrap64 (2 * (i : Int)) = 2 * (i : Int) := wrap_id (by omega) (by omega)
        have m2 : Aside0 (wrap64 (2 * (i : Int) + 1) = 2 * (i : Int) + 1) := ⟨wrap_id (by clear m1; omega) (by clear m1; omega)⟩
        replace m2 := m2.out
        clear hcol10 Rr k3b fr hul10 hfar iq
        refine start_ (n := 21) (S := fun w' => (w'.cell? ⟨g, 3, none⟩ = some (.slice (some ⟨bo, 0, none⟩) N co)) ∧ (w'.cell? ⟨ga, 1, none⟩ = some (.int .i64 a1)) ∧ (w'.cell? ⟨bo, a1.toNat, none⟩ = some (.slice Ar10 row10.length cr10))) (ds := [20]) #[false, false, false, false, false, false, false, false, false, false, false, false, false, false, false, false, false, false, false, false, false] (by kernel_rfl) rfl rfl ⟨k3, ka, kr⟩ (fun hHeld => ?_)
        refine with_tabW tb_rest_10.tab tb_rest_10.bits (fun HT_ HW_ => ?_)
        refine pure_ (i := 0) (N := some 63) (v := ?_) (a' := ?_) #[true, false, false, false, false, false, false, false, false, false, false, false, false, false, false, false, false, false, false, false, false] rfl rfl (any_of HT_.out (by kernel_rfl)) (fun _ _ _ h => h) (Or.inl ⟨by rfl, ?_⟩) ?_ ?_
        rotate_left
        · intro w'
          go_simp
          with_reducible rfl
        rotate_left
        · simp only [Act.put, List.setIfInBounds_toArray, List.set_cons_zero, List.set_cons_succ, i64_w, i32_w]
          rfl
        refine pure_ (i := 1) (N := some 64) (v := ?_) (a' := ?_) #[true, true, false, false, false, false, false, false, false, false, false, false, false, false, false, false, false, false, false, false, false] rfl rfl (any_of HT_.out (by kernel_rfl)) (fun _ _ _ h => h) (Or.inl ⟨by rfl, ?_⟩) ?_ ?_
        rotate_left
        · intro w'
          go_simp
          with_reducible rfl
        rotate_left
        · simp only [Act.put, List.setIfInBounds_toArray, List.set_cons_zero, List.set_cons_succ, i64_w, i32_w]
          rfl
        refine pure_ (i := 2) (N := some 65) (v := ?_) (a' := ?_) #[true, true, true, false, false, false, false, false, false, false, false, false, false, false, false, false, false, false, false, false, false] rfl rfl (any_of HT_.out (by kernel_rfl)) (fun _ _ _ h => h) (Or.inl ⟨by rfl, ?_⟩) ?_ ?_
        rotate_left
        · intro w'
          go_simp
          with_reducible rfl
        rotate_left
        · simp only [Act.put, List.setIfInBounds_toArray, List.set_cons_zero, List.set_cons_succ, i64_w, i32_w]
          rfl
        refine take_ (i := 3) (N := some 66) (v := ?_) (a' := ?_) #[true, true, true, true, false, false, false, false, false, false, false, false, false, false, false, false, false, false, false, false, false] rfl rfl (take_ofW HT_.out HW_.out (by kernel_rfl)) (fun _ _ _ h => h) (Or.inl ⟨by rfl, ?_⟩) hHeld ?_ ?_
        rotate_left
        · rintro w' ⟨s0, s1, s2⟩
          go_simp
          with_reducible rfl
        rotate_left
        · simp only [Act.put, List.setIfInBounds_toArray, List.set_cons_zero, List.set_cons_succ, i64_w, i32_w]
          rfl
        refine pure_ (i := 4) (N := some 67) (v := ?_) (a' := ?_) #[true, true, true, true, true, false, false, false, false, false, false, false, false, false, false, false, false, false, false, false, false] rfl rfl (any_of HT_.out (by kernel_rfl)) (fun _ _ _ h => h) (Or.inl ⟨by rfl, ?_⟩) ?_ ?_
        rotate_left
        · intro w'
          go_simp
          with_reducible rfl
        rotate_left
        · simp only [Act.put, List.setIfInBounds_toArray, List.set_cons_zero, List.set_cons_succ, i64_w, i32_w]
          rfl
        refine take_ (i := 5) (N := some 68) (v := ?_) (a' := ?_) #[true, true, true, true, true, true, false, false, false, false, false, false, false, false, false, false, false, false, false, false, false] rfl rfl (take_ofW HT_.out HW_.out (by kernel_rfl)) (fun _ _ _ h => h) (Or.inl ⟨by rfl, ?_⟩) hHeld ?_ ?_
        rotate_left
        · rintro w' ⟨s0, s1, s2⟩
          go_simp
          with_reducible rfl
        rotate_left
        · simp only [Act.put, List.setIfInBounds_toArray, List.set_cons_zero, List.set_cons_succ, i64_w, i32_w]
          rfl
        refine pure_ (i := 6) (N := some 69) (v := ?_) (a' := ?_) #[true, true, true, true, true, true, true, false, false, false, false, false, false, false, false, false, false, false, false, false, false] rfl rfl (any_of HT_.out (by kernel_rfl)) (fun _ _ _ h => h) (Or.inl ⟨by rfl, ?_⟩) ?_ ?_
        rotate_left
        · intro w'
          go_simp
          with_reducible rfl
        rotate_left
        · simp only [Act.put, List.setIfInBounds_toArray, List.set_cons_zero, List.set_cons_succ, i64_w, i32_w]
          rfl
        refine pure_ (i := 7) (N := some 70) (v := ?_) (a' := ?_) #[true, true, true, true, true, true, true, true, false, false, false, false, false, false, false, false, false, false, false, false, false] rfl rfl (any_of HT_.out (by kernel_rfl)) (fun _ _ _ h => h) (Or.inl ⟨by rfl, ?_⟩) ?_ ?_
        rotate_left
        · intro w'
          go_simp
          with_reducible rfl
        rotate_left
        · simp only [Act.put, List.setIfInBounds_toArray, List.set_cons_zero, List.set_cons_succ, i64_w, i32_w]
          rfl
        refine pure_ (i := 8) (N := some 71) (v := ?_) (a' := ?_) #[true, true, true, true, true, true, true, true, true, false, false, false, false, false, false, false, false, false, false, false, false] rfl rfl (any_of HT_.out (by kernel_rfl)) (fun _ _ _ h => h) (Or.inl ⟨by rfl, ?_⟩) ?_ ?_
        rotate_left
        · intro w'
          go_simp
          with_reducible rfl
        rotate_left
        · simp only [Act.put, List.setIfInBounds_toArray, List.set_cons_zero, List.set_cons_succ, i64_w, i32_w]
          rfl
        refine take_ (i := 9) (N := some 72) (v := ?_) (a' := ?_) #[true, true, true, true, true, true, true, true, true, true, false, false, false, false, false, false, false, false, false, false, false] rfl rfl (take_ofW HT_.out HW_.out (by kernel_rfl)) (fun _ _ _ h => h) (Or.inl ⟨by rfl, ?_⟩) hHeld ?_ ?_
        rotate_left
        · rintro w' ⟨s0, s1, s2⟩
          go_simp
          with_reducible rfl
        rotate_left
        · simp only [Act.put, List.setIfInBounds_toArray, List.set_cons_zero, List.set_cons_succ, i64_w, i32_w]
          rfl
        refine pure_ (i := 10) (N := some 73) (v := ?_) (a' := ?_) #[true, true, true, true, true, true, true, true, true, true, true, false, false, false, false, false, false, false, false, false, false] rfl rfl (any_of HT_.out (by kernel_rfl)) (fun _ _ _ h => h) (Or.inl ⟨by rfl, ?_⟩) ?_ ?_
        rotate_left
        · intro w'
          go_simp
          with_reducible rfl
        rotate_left
        · simp only [Act.put, List.setIfInBounds_toArray, List.set_cons_zero, List.set_cons_succ, i64_w, i32_w]
          rfl
        refine take_ (i := 11) (N := some 74) (v := ?_) (a' := ?_) #[true, true, true, true, true, true, true, true, true, true, true, true, false, false, false, false, false, false, false, false, false] rfl rfl (take_ofW HT_.out HW_.out (by kernel_rfl)) (fun _ _ _ h => h) (Or.inl ⟨by rfl, ?_⟩) hHeld ?_ ?_
        rotate_left
        · rintro w' ⟨s0, s1, s2⟩
          go_simp
          with_reducible rfl
        rotate_left
        · simp only [Act.put, List.setIfInBounds_toArray, List.set_cons_zero, List.set_cons_succ, i64_w, i32_w]
          rfl
        refine pure_ (i := 12) (N := some 75) (v := ?_) (a' := ?_) #[true, true, true, true, true, true, true, true, true, true, true, true, true, false, false, false, false, false, false, false, false] rfl rfl (any_of HT_.out (by kernel_rfl)) (fun _ _ _ h => h) (Or.inl ⟨by rfl, ?_⟩) ?_ ?_
        rotate_left
        · intro w'
          go_simp
          with_reducible rfl
        rotate_left
        · simp only [Act.put, List.setIfInBounds_toArray, List.set_cons_zero, List.set_cons_succ, i64_w, i32_w]
          rfl
        refine take_ (i := 13) (N := some 76) (v := ?_) (a' := ?_) #[true, true, true, true, true, true, true, true, true, true, true, true, true, true, false, false, false, false, false, false, false] rfl rfl (take_ofW HT_.out HW_.out (by kernel_rfl)) (fun _ _ _ h => h) (Or.inl ⟨by rfl, ?_⟩) hHeld ?_ ?_
        rotate_left
        · rintro w' ⟨s0, s1, s2⟩
          go_simp
          with_reducible rfl
        rotate_left
        · simp only [Act.put, List.setIfInBounds_toArray, List.set_cons_zero, List.set_cons_succ, i64_w, i32_w]
          rfl
        refine pure_ (i := 14) (N := some 77) (v := ?_) (a' := ?_) #[true, true, true, true, true, true, true, true, true, true, true, true, true, true, true, false, false, false, false, false, false] rfl rfl (any_of HT_.out (by kernel_rfl)) (fun _ _ _ h => h) (Or.inl ⟨by rfl, ?_⟩) ?_ ?_
        rotate_left
        · intro w'
          go_simp
          with_reducible rfl
        rotate_left
        · simp only [Act.put, List.setIfInBounds_toArray, List.set_cons_zero, List.set_cons_succ, i64_w, i32_w]
          rfl
        refine pure_ (i := 15) (N := some 78) (v := ?_) (a' := ?_) #[true, true, true, true, true, true, true, true, true, true, true, true, true, true, true, true, false, false, false, false, false] rfl rfl (any_of HT_.out (by kernel_rfl)) (fun _ _ _ h => h) (Or.inl ⟨by rfl, ?_⟩) ?_ ?_
        rotate_left
        · intro w'
          go_simp
          with_reducible rfl
        rotate_left
        · simp only [Act.put, List.setIfInBounds_toArray, List.set_cons_zero, List.set_cons_succ, i64_w, i32_w]
          rfl
        refine pure_ (i := 16) (N := some 79) (v := ?_) (a' := ?_) #[true, true, true, true, true, true, true, true, true, true, true, true, true, true, true, true, true, false, false, false, false] rfl rfl (any_of HT_.out (by kernel_rfl)) (fun _ _ _ h => h) (Or.inl ⟨by rfl, ?_⟩) ?_ ?_
        rotate_left
        · intro w'
          go_simp
          with_reducible rfl
        rotate_left
        · simp only [Act.put, List.setIfInBounds_toArray, List.set_cons_zero, List.set_cons_succ, i64_w, i32_w]
          rfl
        refine one_ (i := 17) (N := some 80) #[true, true, true, true, true, true, true, true, true, true, true, true, true, true, true, true, true, true, false, false, false] rfl rfl (one_of HT_.out (by kernel_rfl)) (by decide) (fun K hK => ?_)
        refine value_ (w1 := ?_) (v := ?_) (by rfl) rfl ?_ ?_
        rotate_left 2
        · go_simp
          constructor
          · rfl
          · rfl
        refine hK.out _ _ ⟨alloc_cell (w := W9.drew) HK3.out _, alloc_cell (w := W9.drew) HKA.out _, alloc_cell (w := W9.drew) HKR.out _⟩ (fun hHeld => ?_)
        clear hK K
        refine norm_ (a' := ?_) ?_ ?_
        rotate_left
        · show Act.put _ (some 80) _ = _
          (try simp only [Act.put, List.setIfInBounds_toArray, List.set_cons_zero, List.set_cons_succ, i64_w, i32_w])
          rfl
        refine one_ (i := 18) (N := some 81) #[true, true, true, true, true, true, true, true, true, true, true, true, true, true, true, true, true, true, true, false, false] rfl rfl (one_of HT_.out (by kernel_rfl)) (by decide) (fun K hK => ?_)
        refine Kd.R_append_step KI (w0 := w) (W := W9.drew) w.heap.size (by rfl) (.tmp 76) (.tmp 80) 40 3 (.int .i64 0) 8 rfl Try.underlying40 info3 rfl (by decide) (by decide) (.slice Ar10 row10.length cr10) row10 (2 * (i : Int) + 1) [.int .i64 (2 * (i : Int) + 1)] (fun k => col10 k = 10 + a1.toNat) (fun _ => False) rfl rfl rfl (fun k hk => hk.elim) (fun k hk => hf10.out k hk) (Kd.R_drew RR.out) (below_drew HRn10.out.bel) (below_drew HRn10.out.bel).size HLn.out ?_
        intro v7 w7 hR7 hB7 hg7 hat7
        rw [hrw10.out] at hR7
        obtain ⟨A7, c7, rfl, _⟩ := Kd.R_reads hR7
        have n0 := N0.out
        have n1 := N1.out
        have n2 := N2.out
        have HR10 := Aside0.mk ((HRn10.out.below (below_drew (Below.refl _ _))).putO a1.toNat hul.out RR.out.1 hg7 hB7 hR7)
        have BA10 := Aside0.mk (blk_far (p := ⟨bo, a1.toNat, none⟩) (blk_grown (w := W9.drew) BA9.out hg7 n1) NB.out (.slice A7 rw10.length c7))
        have c0 := hg7.cell (w := W9.drew) HKR.out n2
        have f0 := (hg7.frozen_far ⟨bo, a1.toNat, none⟩ hbo10.out.2 n2).trans HFR.out
        have p0 := hg7.cell (w := W9.drew) HK3.out n0
        have p1 := hg7.cell (w := W9.drew) HKA.out n1
        clear hR7 hB7 hg7 hat7 n0 n1 n2
        refine hK.out _ _ ⟨p0, p1, c0⟩ (fun hHeld => ?_)
        clear hK K
        refine norm_ (a' := ?_) ?_ ?_
        rotate_left
        · show Act.put _ (some 81) _ = _
          (try simp only [Act.put, List.setIfInBounds_toArray, List.set_cons_zero, List.set_cons_succ, i64_w, i32_w])
          rfl
        refine pure_ (i := 19) (N := some 82) (v := ?_) (a' := ?_) #[true, true, true, true, true, true, true, true, true, true, true, true, true, true, true, true, true, true, true, true, false] rfl rfl (any_of HT_.out (by kernel_rfl)) (fun _ _ _ h => h) (Or.inl ⟨by rfl, ?_⟩) ?_ ?_
        rotate_left
        · intro w'
          go_simp
          with_reducible rfl
        rotate_left
        · simp only [Act.put, List.setIfInBounds_toArray, List.set_cons_zero, List.set_cons_succ, i64_w, i32_w]
          rfl
        refine last_ (i := 20) (N := none) #[true, true, true, true, true, true, true, true, true, true, true, true, true, true, true, true, true, true, true, true, true] rfl rfl (one_of HT_.out (by kernel_rfl)) (by decide) (fun K hK => ?_)
        refine skip_ (w1 := ?_) (by rfl) rfl ?_ ?_
        rotate_left
        · go_simp
          rfl
        clear c0 f0 p0 p1
        refine hK.out _ _ ?_
        clear hK K
        refine norm_ (a' := ?_) ?_ ?_
        rotate_left
        · rfl
        refine done_ (done_of HT_.out (by kernel_rfl)) ?_
        clear m1 m2 N0 N1 N2 NB HLn
        obtain ⟨W10, hW10⟩ : ∃ W, W = w7.setCell ⟨bo, a1.toNat, none⟩ (.slice A7 rw10.length c7) := ⟨_, rfl⟩
        rw [← hW10] at HR10 BA10 ⊢
        clear hW10 k3 ka kr
        have hon10 : Aside0 (rw10 = rowOf O9 a1 ++ [2 * (i : Int) + 1]) := ⟨by rw [← hrow10.out, hrw10.out]⟩
        obtain ⟨O10, hO10⟩ : ∃ O1, O1 = O9.set a1.toNat rw10 := ⟨_, rfl⟩
        have HOl910 : Aside0 (O10.length = N) := ⟨by rw [hO10, List.length_set]; exact HOl9.out⟩
        have HOr910 : Aside0 (∀ x ∈ O10, x.length ≤ 2 * i + 1 + 1) := ⟨by rw [hO10]; exact rows_set HOr9.out _ _ (by rw [← hrw10.out, List.length_append, List.length_singleton]; have := hrl10.out; omega)⟩
        (try dsimp only at HR10)
        rw [← hO10] at HR10
        rw [hon10.out] at hO10
        replace hO10 := Aside0.mk hO10
        clear HRn10 hf10 hul RR HK3 HKA HKR HFR hbo10
        have HOF10 : Aside0 (outF (arcs.drop (i + 1)) (i + 1) O10 = OO) := ⟨by rw [hO10.out, hO9.out]; exact HOF2.out⟩
        go_wp2
        go_roundg (arcs.length - (i + 1))
        case measure => omega
        case rel => exact ⟨i + 1, L', O10, col10, _, _, by omega, by go_num, HLF8, HOF10, HOl910, HLl8, HOr910, HR10⟩
    · have hdec : decide (i < arcs.length) = false := decide_eq_false hlt
      have hLe : L = LL := by have := HLF.out; rw [List.drop_eq_nil_of_le (by omega)] at this; exact this
      have hOe : O = OO := by have := HOF.out; rw [List.drop_eq_nil_of_le (by omega)] at this; exact this
      subst hLe; subst hOe
      go_wp2
      go_ret
      exact ⟨_, _, _, _, rfl, by rw [HZ.out]; exact HR.out⟩
end Go.Proofs.Ytbamanjedfccpaa.HTab
end

section
set_option linter.unusedVariables false
set_option linter.unusedSimpArgs false
namespace Go.Proofs.Ytbamanjedfccpaa.HTab
open Go.RowKit Go.Proofs.YtbamanjedfccpaaW.PrintWords Go.Proofs.YtbamanjedfccpaaW.PrintLast Go.Proofs.YtbamanjedfccpaaW.PrintMore Go.Proofs.Ytbamanjedfccpaa.X
set_option linter.unusedVariables false
set_option linter.unusedSimpArgs false
def Good (N : Nat) (arcs : List S35) : Prop := ∀ a ∈ arcs, 0 ≤ a.f0 ∧ a.f0 < (N : Int) ∧ 0 ≤ a.f1 ∧ a.f1 < (N : Int)
theorem leftF_len (both : Bool) : ∀ (l : List S35) (L : List Int), (leftF both l L).length = L.length + 2 * l.length
  | [], L => by simp [leftF]
  | a :: l, L => by
    simp only [leftF]
    rw [leftF_len both l _]
    simp
    omega
def RowsIn (O : List (List Int)) (n : Nat) : Prop := ∀ x ∈ O, x.length ≤ n ∧ ∀ e ∈ x, 0 ≤ e ∧ e < (n : Int)
theorem rowOf_in {O : List (List Int)} {n : Nat} (h : RowsIn O n) (u : Int) : (rowOf O u).length ≤ n ∧ ∀ e ∈ rowOf O u, 0 ≤ e ∧ e < (n : Int) := by
  unfold rowOf
  rw [List.getD_eq_getElem?_getD]
  cases hx : O[u.toNat]? with
  | none => simp
  | some x => exact h x (List.mem_of_getElem? hx)
theorem RowsIn.set_ {O : List (List Int)} {n : Nat} (h : RowsIn O n) (u : Int) (e : Int) (he : 0 ≤ e) (hn : e < ((n + 1 : Nat) : Int)) : RowsIn (O.set u.toNat (rowOf O u ++ [e])) (n + 1) := fun x hx => by
  rcases List.mem_or_eq_of_mem_set hx with h1 | h1
  · have := h x h1
    exact ⟨by omega, fun y hy => by have := this.2 y hy; omega⟩
  · have := rowOf_in h u
    subst h1
    refine ⟨by simp; omega, fun y hy => ?_⟩
    rcases List.mem_append.1 hy with hy | hy
    · have := this.2 y hy; omega
    · rw [List.mem_singleton] at hy; omega
theorem outF_rows : ∀ (l : List S35) (i : Nat) (O : List (List Int)), RowsIn O (2 * i) → RowsIn (outF l i O) (2 * (i + l.length))
  | [], i, O, h => h
  | a :: l, i, O, h => by
    simp only [outF]
    have h1 := h.set_ a.f0 (2 * (i : Int)) (by omega) (by omega)
    have h2 := h1.set_ a.f1 (2 * (i : Int) + 1) (by omega) (by omega)
    have h3 := outF_rows l (i + 1) _ (by rw [show 2 * (i + 1) = 2 * i + 1 + 1 by omega]; exact h2)
    rw [show i + 1 + l.length = i + (a :: l).length by simp; omega] at h3
    exact h3
theorem rd_Arc_mem {arcs : List S35} {i : Int} (h0 : 0 ≤ i) (h1 : i < arcs.length) : rd_T35 arcs i ∈ arcs := by
  unfold rd_T35
  rw [List.getD_eq_getElem?_getD, List.getElem?_eq_getElem (by omega)]
  exact List.getElem_mem _
theorem restP_WZ (both : Bool) (N : Nat) (arcs : List S35) (src snk : Int) (hN : N ≤ 1000) (hl : arcs.length ≤ 1000) (hg : Good N arcs) (hs : 0 ≤ src ∧ src < N) (ht : 0 ≤ snk ∧ snk < N) : WZ (restP both N arcs src snk) := by
  have hO : (outF arcs 0 (List.replicate N [])).length = N := by rw [outF_len, List.length_replicate]
  have hR : RowsIn (outF arcs 0 (List.replicate N [])) (2 * arcs.length) := by
    have := outF_rows arcs 0 (List.replicate N []) (fun x hx => by rw [List.eq_of_mem_replicate hx]; exact ⟨by simp, fun e he => by cases he⟩)
    rwa [Nat.zero_add] at this
  refine ⟨by show (N : Int) = ((outF arcs 0 (List.replicate N [])).length : Nat); rw [hO], by show (outF arcs 0 (List.replicate N [])).length ≤ 1000; omega, by show (leftF both arcs []).length = _; rw [leftF_len]; simp [restP], hl, fun i => ?_, fun i e he => ?_, fun e h0 h1 => ?_, hs, ht⟩
  · have := (rowOf_in hR i).1
    show (rowOf (outF arcs 0 (List.replicate N [])) i).length ≤ 1000000
    omega
  · have := (rowOf_in hR i).2 e he
    show 0 ≤ e ∧ e < 2 * (arcs.length : Int)
    omega
  · have h1' : e < 2 * (arcs.length : Int) := h1
    have hm := hg _ (rd_Arc_mem (arcs := arcs) (i := e / 2) (by omega) (by omega))
    show 0 ≤ endP arcs e ∧ endP arcs e < (N : Int)
    unfold endP
    split
    · exact hm.2.2
    · exact ⟨hm.1, hm.2.1⟩
theorem Rw.lower {w : World} {base base' : Nat} {col : Nat → Nat} {v : Value} {rows : List (List Int)} (h : Rw w base col v rows) (hb : base' ≤ base) : Rw w base' col v rows := by
  obtain ⟨bo, co, cells, hv, h1, hc, hh, h1', h2, hr⟩ := h
  refine ⟨bo, co, cells, hv, Nat.le_trans hb h1, hc, hh, h1', h2, fun i x hx => ?_⟩
  obtain ⟨u, hu, hR⟩ := hr i x hx
  exact ⟨u, hu, Kd.R_lower hR hb⟩
theorem Rs.base {w0 w00 w : World} {g : Nat} {col : Nat → Nat} {A1 : Option Addr} {c1 : Nat} {v2 v3 v6 v7 : Value} {Z : RZ} (h : Rs w0 w g col A1 c1 v2 v3 v6 v7 Z) (hb : Below w00.heap.size w00 w0) (hC : Kd.C k35 w00 A1 Z.arcs.length Z.arcs) : Rs w00 w g col A1 c1 v2 v3 v6 v7 Z :=
  ⟨below_then hb hb.size h.bel, h.box, Nat.le_trans hb.size h.hg, h.cg, h.ca, hC, Kd.R_lower h.left hb.size, h.out.lower hb.size, Kd.R_lower h.dep hb.size, Kd.R_lower h.nxt hb.size⟩
end Go.Proofs.Ytbamanjedfccpaa.HTab
end
