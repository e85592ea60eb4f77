/- The law WaxTrees holds of the program, for every input that its statement lets in. -/
import Derived.Test.YtbamanjedfccpaaBh
import Derived.Test.YtbamanjedfccpaaBn
import Derived.Test.YtbamanjedfccpaaBe
import Derived.Test.YtbamanjedfccpaaBq
import Derived.Test.YtbamanjedfccpaaBs
import Derived.Laws.BitsLemmas
import Derived.Test.YtbamanjedfccpaaBc
import Derived.Test.YtbamanjedfccpaaBx
import Derived.Test.YtbamanjedfccpaaBi
import Derived.Test.YtbamanjedfccpaaRows
import Derived.Test.YtbamanjedfccpaaBj
import Derived.WalkKit
import Derived.ProofKit
import Derived.OpenShut
import Derived.ShutString
import Derived.ChangeOld
import Derived.Below
import Derived.SizedLaws
import Derived.Test.YtbamanjedfccpaaBb
section
set_option linter.unusedVariables false
set_option linter.unusedSimpArgs false
namespace Go.Proofs.Ytbamanjedfccpaa.HTab
open Go.RowKit Go.Proofs.YtbamanjedfccpaaW.PrintWords Go.Proofs.YtbamanjedfccpaaW.PrintLast Go.Proofs.YtbamanjedfccpaaW.PrintMore Go.Proofs.Ytbamanjedfccpaa.X
set_option linter.unusedVariables false
set_option linter.unusedSimpArgs false
def mvL (S : List Bool) (i : Nat) : Nat → Nat → List Int → List Int
  | 0, _, P => P
  | d + 1, j, P => mvL S i d (j + 1) (if (rdOf false S (j : Int) && (rd P (j : Int) == rd P (i : Int))) = true then P.set j (i : Int) else P)
def treeStep (N : Nat) (arcs : List S35) (i : Nat) (P Wt : List Int) : Option (List Int × List Int) :=
  if 0 ≤ rd P (i : Int) ∧ rd P (i : Int) < N then
    (fillZ fuelW (restP true N arcs (i : Int) (rd P (i : Int)))).bind fun x => (levelP fuelW ((restP true N arcs (i : Int) (rd P (i : Int))).dat_ x.2.1 x.2.2.1 x.2.2.2)).bind fun D =>
      if x.2.1.length = 2 * arcs.length ∧ D.length = N then some (mvL (leastL D) i (N - (i + 1)) (i + 1) P, Wt.set i x.1) else none
  else none
def treeL (N : Nat) (arcs : List S35) : Nat → Nat → List Int → List Int → Option (List Int × List Int)
  | 0, _, P, Wt => some (P, Wt)
  | d + 1, i, P, Wt => (treeStep N arcs i P Wt).bind fun s => treeL N arcs d (i + 1) s.1 s.2
structure Tm (w w1 : World) (N : Nat) (A1 : Option Addr) (c1 : Nat) (arcs : List S35) (gP cP gW cW : Nat) (P Wt : List Int) : Prop where
  bel : Below w.heap.size w w1
  box : w1.heap[w.heap.size]? = some (.cells #[.int .i64 N, .slice A1 arcs.length c1] 30 (0, 0))
  rp : KI.R 3 w1 w.heap.size (fun k => k = gP) (.slice (some ⟨gP, 0, none⟩) N cP) P
  rt : KI.R 3 w1 w.heap.size (fun k => k = gW) (.slice (some ⟨gW, 0, none⟩) N cW) Wt
  ne : gP ≠ gW
  nb : w.heap.size < gP ∧ w.heap.size < gW
section
variable {w w1 w2 : World} {N c1 gP cP gW cW : Nat} {A1 : Option Addr} {arcs : List S35} {P Wt : List Int}
theorem Tm.below (h : Tm w w1 N A1 c1 arcs gP cP gW cW P Wt) (hb : Below w1.heap.size w1 w2) : Tm w w2 N A1 c1 arcs gP cP gW cW P Wt :=
  ⟨below_then h.bel h.bel.size hb, blk_below h.box hb, Kd.R_below h.rp hb, Kd.R_below h.rt hb, h.ne, h.nb⟩
theorem Tm.putP (h : Tm w w1 N A1 c1 arcs gP cP gW cW P Wt) (i x : Int) : Tm w (w1.setCell ⟨gP, i.toNat, none⟩ (.int .i64 x)) N A1 c1 arcs gP cP gW cW (P.set i.toNat x) Wt := by
  have hn := h.nb
  have hne := h.ne
  have hr := h.rp
  have hm := (Kd.R_reads' hr).1
  subst hm
  exact ⟨below_set h.bel (by omega), blk_far (p := ⟨gP, i.toNat, none⟩) h.box (fun e => by replace e : w.heap.size = gP := e; omega) _, (Kd.R_put hr i x).1, Kd.R_far (p := ⟨gP, i.toNat, none⟩) h.rt (fun k hk e => by replace e : k = gP := e; exact hne (e.symm.trans hk)) _, h.ne, h.nb⟩
theorem Tm.putW (h : Tm w w1 N A1 c1 arcs gP cP gW cW P Wt) (i x : Int) : Tm w (w1.setCell ⟨gW, i.toNat, none⟩ (.int .i64 x)) N A1 c1 arcs gP cP gW cW P (Wt.set i.toNat x) := by
  have hn := h.nb
  have hne := h.ne
  have hr := h.rt
  have hm := (Kd.R_reads' hr).1
  subst hm
  exact ⟨below_set h.bel (by omega), blk_far (p := ⟨gW, i.toNat, none⟩) h.box (fun e => by replace e : w.heap.size = gW := e; omega) _, Kd.R_far (p := ⟨gW, i.toNat, none⟩) h.rp (fun k hk e => by replace e : k = gW := e; exact hne (hk.symm.trans e)) _, (Kd.R_put hr i x).1, h.ne, h.nb⟩
theorem Tm.lt (h : Tm w w1 N A1 c1 arcs gP cP gW cW P Wt) : gP < w1.heap.size ∧ gW < w1.heap.size := ⟨Kd.R_lt h.rp gP rfl, Kd.R_lt h.rt gW rfl⟩
end
theorem below_poke {w0 w : World} {b i : Nat} {u : Value} {t : TypeId} {cs : Array Value} (hb : w0.heap[b]? = some (.cells cs t (0, 0))) (h : Below w0.heap.size w0 w) : Below (w0.setCell ⟨b, i, none⟩ u).heap.size (w0.setCell ⟨b, i, none⟩ u) (w.setCell ⟨b, i, none⟩ u) := by
  have hs : (w0.setCell ⟨b, i, none⟩ u).heap.size = w0.heap.size := by simp [World.setCell]
  refine ⟨h.os, h.tape, h.output, by simpa [World.setCell] using h.size, fun k hk => ?_⟩
  rw [hs] at hk
  by_cases e : k = b
  · subst e
    rw [blk_put hb i u rfl, blk_put ((h.block k hk).trans hb) i u rfl]
  · rw [Below.heap_setCell _ _ _ _ e, Below.heap_setCell _ _ _ _ e, h.block k hk]
theorem Rs.poke {w0 w : World} {g : Nat} {col : Nat → Nat} {A1 : Option Addr} {c1 : Nat} {v2 v3 v6 v7 : Value} {Z : RZ} (h : Rs w0 w g col A1 c1 v2 v3 v6 v7 Z) {b i : Nat} {u : Value} {t : TypeId} {cs : Array Value} (hb : w0.heap[b]? = some (.cells cs t (0, 0)))
    (hA : Kd.C k35 (w0.setCell ⟨b, i, none⟩ u) A1 Z.arcs.length Z.arcs) : Rs (w0.setCell ⟨b, i, none⟩ u) (w.setCell ⟨b, i, none⟩ u) g col A1 c1 v2 v3 v6 v7 Z := by
  have hs : (w0.setCell ⟨b, i, none⟩ u).heap.size = w0.heap.size := by simp [World.setCell]
  have hlt : b < w0.heap.size := blk_lt hb
  have hm : ∀ k, w0.heap.size ≤ k → k < w.heap.size → (w.setCell ⟨b, i, none⟩ u).heap[k]? = w.heap[k]? := fun k hk _ => Below.heap_setCell _ _ _ _ (fun e => by replace e : k = b := e; omega)
  have hR : ∀ {v : Value} {xs : List Int} {q : Nat}, KI.R 3 w w0.heap.size (fun k => col k = q) v xs → KI.R 3 (w.setCell ⟨b, i, none⟩ u) (w0.setCell ⟨b, i, none⟩ u).heap.size (fun k => col k = q) v xs := fun {v xs q} hR => by
    rw [hs]
    exact Kd.R_mono (Kd.R_step (Kd.R_bound hR) (fun k hk hl => hm k hk.2.1 hl)) (fun k hk => hk.1)
  refine ⟨below_poke hb h.bel, (hm g h.hg (blk_lt h.box)).trans h.box, by rw [hs]; exact h.hg, h.cg, h.ca, hA, hR h.left, ?_, hR h.dep, hR h.nxt⟩
  obtain ⟨bo, co, cells, hv, hbo, hc, hh, h1, h2, hr⟩ := h.out
  refine ⟨bo, co, cells, hv, by rw [hs]; exact hbo, hc, (hm bo hbo (blk_lt hh)).trans hh, h1, h2, fun i x hx => ?_⟩
  obtain ⟨y, hy, hR2⟩ := hr i x hx
  refine ⟨y, hy, ?_⟩
  rw [hs]
  exact Kd.R_mono (Kd.R_step (Kd.R_bound hR2) (fun k hk hl => hm k hk.2.1 hl)) (fun k hk => hk.1)
def TrP (w : World) (r : List Int × List Int) (b : Int) (e : Ending) (w' : World) : Prop := ∃ v1 v2 : Value, e = .returned (.tuple #[v1, v2, .int .i64 b]) ∧ KI.R 3 w' w.heap.size (fun k => some k ≠ v2.ownBlock) v1 r.1 ∧ KI.R 3 w' w.heap.size (fun k => some k ≠ v1.ownBlock) v2 r.2 ∧ Below w.heap.size w w'
def tb_Tree_8.T : Bool × List (List Nat × List Nat) := (true, [([], []), ([], []), ([], []), ([], []), ([2, 3], [2, 3]), ([4], [4]), ([0, 1, 5], [0, 1, 5]), ([6, 6, 0, 1, 2, 3, 4, 5, 6], [6])])
def tb_Tree_8.B : List Nat := [0, 0, 0, 0, 12, 28, 63, 127]
theorem tb_Tree_8.tab : rtab .any (opsOf Try.f26 8) = tb_Tree_8.T := by kernel_rfl
theorem tb_Tree_8.bits : waitsOk tb_Tree_8.T.2 tb_Tree_8.B = true := by kernel_rfl
def tb_Tree_3.T : Bool × List (List Nat × List Nat) := (true, [([], []), ([0], [0]), ([1, 1], [1]), ([], []), ([3], [3]), ([4, 4], [4]), ([2, 0, 1, 2], [2]), ([5, 6, 0, 1, 2, 3, 4, 5, 6], [5])])
def tb_Tree_3.B : List Nat := [0, 1, 3, 0, 8, 24, 7, 127]
theorem tb_Tree_3.tab : rtab .any (opsOf Try.f26 3) = tb_Tree_3.T := by kernel_rfl
theorem tb_Tree_3.bits : waitsOk tb_Tree_3.T.2 tb_Tree_3.B = true := by kernel_rfl
set_option maxRecDepth 100000 in
set_option maxHeartbeats 8000000 in
theorem tree_err (n : Int) (A1 : Option Addr) (c1 : Nat) (arcs : List S35) (w : World) (hC : Kd.C k35 w A1 arcs.length arcs) (hc : arcs.length ≤ c1) (hv : (vdB n arcs && decide (n ≤ 12)) = false) :
    Calls Try.prog 26 #[.agg #[.int .i64 n, .slice A1 arcs.length c1]] w (TrP w ([], []) 2) := by
  have HC := Aside0.mk hC
  have HV : Aside0 (wax_Net_web.f n arcs = some false) := ⟨by rw [web_f, hv]⟩
  obtain ⟨W0, hW0⟩ : ∃ W, W = w.alloc (.cells #[.int .i64 n, .slice A1 arcs.length c1] 30) := ⟨_, rfl⟩
  have HB0 := Aside0.mk (show Below w.heap.size w W0 by rw [hW0]; exact below_alloc (Below.refl _ _) _)
  clear hC hv
  go_enter Try.func26, Try.ntmps26
  go_wp2_with fail
  rw [← hW0]
  refine (wax_Net_web.calls n A1 c1 arcs false W0 (Kd.C_below HC.out HB0.out) hc HV.out).mono ?_
  rintro e w2 ⟨rfl, hb2⟩
  have HB2 := Aside0.mk (below_then HB0.out HB0.out.size hb2)
  clear hb2
  go_wp2
  go_ret3
  exact ⟨_, _, rfl, Kd.R_nil _ _ _ _ _, Kd.R_nil _ _ _ _ _, HB2.out⟩
set_option maxRecDepth 100000 in
set_option maxHeartbeats 16000000 in
theorem tree_ok (N : Nat) (A1 : Option Addr) (c1 : Nat) (arcs : List S35) (w : World) (hC : Kd.C k35 w A1 arcs.length arcs) (hc : arcs.length ≤ c1) (hv : vdB N arcs = true) (h12 : N ≤ 12) (r : List Int × List Int) (hr : treeL N arcs (N - 1) 1 ((List.replicate N 0).set 0 (-1)) (List.replicate N 0) = some r) :
    Calls Try.prog 26 #[.agg #[.int .i64 N, .slice A1 arcs.length c1]] w (TrP w r 0) := by
  have HC := Aside0.mk hC
  have HR := Aside0.mk hr
  obtain ⟨v1, v2, v3, v4⟩ := vdB_iff.1 hv
  have HG := Aside0.mk (any_good v4)
  have HL := Aside0.mk v3
  have HN : Aside0 (2 ≤ N ∧ N ≤ 12) := ⟨by omega⟩
  obtain ⟨W0, hW0⟩ : ∃ W, W = w.alloc (.cells #[.int .i64 N, .slice A1 arcs.length c1] 30) := ⟨_, rfl⟩
  have HB0 := Aside0.mk (show Below w.heap.size w W0 by rw [hW0]; exact below_alloc (Below.refl _ _) _)
  have hbx : W0.heap[w.heap.size]? = some (.cells #[.int .i64 N, .slice A1 arcs.length c1] 30 (0, 0)) := by rw [hW0]; exact blk_new _ _
  have HBX := Aside0.mk hbx
  have HSZ : Aside0 (w.heap.size < W0.heap.size) := ⟨by rw [hW0]; simp⟩
  have HW : Aside0 (wax_Net_web.f N arcs = some true) := ⟨by rw [web_f, hv, decide_eq_true (by omega)]; rfl⟩
  clear hC hr hv v1 v2 v3 v4 h12 hbx
  go_enter Try.func26, Try.ntmps26
  go_wp2_with fail
  rw [← hW0]
  clear hW0
  refine (wax_Net_web.calls (N : Int) A1 c1 arcs true W0 (Kd.C_below HC.out HB0.out) hc HW.out).mono ?_
  rintro e w2 ⟨rfl, hb2⟩
  have HB2 := Aside0.mk (below_then HB0.out HB0.out.size hb2)
  have HBX2 := Aside0.mk (blk_below HBX.out hb2)
  have HSZ2 : Aside0 (w.heap.size < w2.heap.size) := ⟨Nat.lt_of_lt_of_le HSZ.out hb2.size⟩
  have j0 : w2.drew.cell? ⟨w.heap.size, 0, none⟩ = some (.int .i64 N) := (blk_cell HBX2.out 0).trans rfl
  clear hb2 HBX HB0 HSZ
  go_wp2
  refine start_ (n := 8) (S := fun w' => (w'.cell? ⟨w.heap.size, 0, none⟩ = some (.int .i64 N)) ∧ (Below w.heap.size w w') ∧ (w'.heap[w.heap.size]? = some (.cells #[.int .i64 N, .slice A1 arcs.length c1] 30 (0, 0))) ∧ (w.heap.size < w'.heap.size)) (ds := []) #[false, false, false, false, false, false, false, false] (by kernel_rfl) rfl rfl ⟨j0, below_drew HB2.out, blk_drew HBX2.out, HSZ2.out⟩ (fun hHeld => ?_)
  refine with_tabW tb_Tree_3.tab tb_Tree_3.bits (fun HT_ HW_ => ?_)
  refine pure_ (i := 0) (N := some 12) (v := ?_) (a' := ?_) #[true, false, false, false, false, false, false, false] rfl rfl (any_of HT_.out (by kernel_rfl)) (fun _ _ _ h => h) (Or.inl ⟨by rfl, ?_⟩) ?_ ?_
  rotate_left
  · intro w'
    go_simp
    with_reducible rfl
  rotate_left
  · simp only [Act.put, List.setIfInBounds_toArray, List.set_cons_zero, List.set_cons_succ, i64_w, i32_w]
    rfl
  refine take_ (i := 1) (N := some 13) (v := ?_) (a' := ?_) #[true, true, false, false, false, false, false, false] rfl rfl (take_ofW HT_.out HW_.out (by kernel_rfl)) (fun _ _ _ h => h) (Or.inl ⟨by rfl, ?_⟩) hHeld ?_ ?_
  rotate_left
  · rintro w' ⟨s0, s1, s2, s3⟩
    go_simp
    with_reducible rfl
  rotate_left
  · simp only [Act.put, List.setIfInBounds_toArray, List.set_cons_zero, List.set_cons_succ, i64_w, i32_w]
    rfl
  refine pure_ (i := 3) (N := some 15) (v := ?_) (a' := ?_) #[true, true, false, true, false, false, false, false] rfl rfl (any_of HT_.out (by kernel_rfl)) (fun _ _ _ h => h) (Or.inl ⟨by rfl, ?_⟩) ?_ ?_
  rotate_left
  · intro w'
    go_simp
    with_reducible rfl
  rotate_left
  · simp only [Act.put, List.setIfInBounds_toArray, List.set_cons_zero, List.set_cons_succ, i64_w, i32_w]
    rfl
  refine take_ (i := 4) (N := some 16) (v := ?_) (a' := ?_) #[true, true, false, true, true, false, false, false] rfl rfl (take_ofW HT_.out HW_.out (by kernel_rfl)) (fun _ _ _ h => h) (Or.inl ⟨by rfl, ?_⟩) hHeld ?_ ?_
  rotate_left
  · rintro w' ⟨s0, s1, s2, s3⟩
    go_simp
    with_reducible rfl
  rotate_left
  · simp only [Act.put, List.setIfInBounds_toArray, List.set_cons_zero, List.set_cons_succ, i64_w, i32_w]
    rfl
  refine join_ (σ := ((Nat × Nat) × (Nat × Nat))) 0 #[true, true, true, true, true, true, true, true] (fun s => [(14, .slice (some ⟨s.1.1, 0, none⟩) N s.1.2), (17, .slice (some ⟨s.2.1, 0, none⟩) N s.2.2), (2, .slice (some ⟨s.1.1, 0, none⟩) N s.1.2), (3, .slice (some ⟨s.2.1, 0, none⟩) N s.2.2)]) (fun s w' => (w'.cell? ⟨w.heap.size, 0, none⟩ = some (.int .i64 N) ∧ Below w.heap.size w w' ∧ w'.heap[w.heap.size]? = some (.cells #[.int .i64 N, .slice A1 arcs.length c1] 30 (0, 0)) ∧ w.heap.size < w'.heap.size) ∧ Tm w w' N A1 c1 arcs s.1.1 s.1.2 s.2.1 s.2.2 (List.replicate N 0) (List.replicate N 0)) ?_ (fun jn2_5 => ?_)
  · rintro ⟨⟨gP, cP⟩, ⟨gW, cW⟩⟩ W4 ⟨hHeld, hT⟩
    have HT := Aside0.mk hT
    clear hT
    refine norm_ (a' := ?_) ?_ ?_
    rotate_left
    · simp only [putAll, Act.put, List.setIfInBounds_toArray, List.set_cons_zero, List.set_cons_succ, i64_w, i32_w]
      rfl
    refine done_ (done_of HT_.out (by kernel_rfl)) ?_
    clear hHeld j0 HB2 HBX2 HSZ2
    obtain ⟨k4, f4⟩ := R_at HT.out.rp 0 (by omega) (by have := HN.out; omega)
    have HT2 := Aside0.mk (HT.out.putP 0 (-1))
    have b0 : (0 < (N : Int)) = True := eq_true (by have := HN.out; omega)
    have b1 : (0 < N) = True := eq_true (by have := HN.out; omega)
    rw [Int.toNat_zero] at k4 f4 HT2
    have HRr : Aside0 (treeL N arcs (N - 1) 1 ((List.replicate N 0).set 0 (-1)) (List.replicate N 0) = some r) := HR
    clear HR HT
    go_wp2
    clear k4 f4 b0 b1
    go_loopg [5] (N - 1) (fun kq v5 w' => ∃ (i : Nat) (P Wt : List Int), i + kq = N ∧ 1 ≤ i ∧ v5 = .int .i64 i ∧ Aside0 (treeL N arcs kq i P Wt = some r) ∧ Aside0 (Tm w w' N A1 c1 arcs gP cP gW cW P Wt))
    case atStart => exact ⟨1, _, _, by have := HN.out; omega, by omega, rfl, HRr, HT2⟩
    case round =>
      clear HRr HT2
      obtain ⟨i, P, Wt, hi, h1, rfl, HRr, HT⟩ := hrel
      have x0 := (blk_cell HT.out.box 0).trans rfl
      by_cases hlt : i < N
      · have hdec : decide (i < N) = true := decide_eq_true hlt
        have x1 := (blk_cell HT.out.box 1).trans rfl
        obtain ⟨d, rfl⟩ : ∃ d, gk = d + 1 := ⟨gk - 1, by omega⟩
        have hs := HRr.out
        simp only [treeL] at hs
        obtain ⟨⟨P2, W2⟩, hst, hs⟩ := Option.bind_eq_some_iff.1 hs
        unfold treeStep at hst
        by_cases hp : 0 ≤ rd P (i : Int) ∧ rd P (i : Int) < N
        case neg => rw [if_neg hp] at hst; cases hst
        rw [if_pos hp] at hst
        obtain ⟨⟨s, l1, d1, n1⟩, hF, hst⟩ := Option.bind_eq_some_iff.1 hst
        obtain ⟨D, hD, hst⟩ := Option.bind_eq_some_iff.1 hst
        by_cases hL : l1.length = 2 * arcs.length ∧ D.length = N
        case neg => rw [if_neg hL] at hst; cases hst
        rw [if_pos hL] at hst
        injection hst with hst
        injection hst with e1 e2
        obtain ⟨kp, fp⟩ := R_at HT.out.rp (i : Int) (by omega) (by omega)
        rw [Int.toNat_natCast] at kp fp
        obtain ⟨p, hpp⟩ : ∃ p, p = rd P (i : Int) := ⟨_, rfl⟩
        rw [← hpp] at kp hp hF hD
        have HWZ : Aside0 (WZ (restP true N arcs (i : Int) p)) := ⟨restP_WZ true N arcs (i : Int) p (by have := HN.out; omega) (by have := HL.out; omega) HG.out ⟨by omega, by omega⟩ hp⟩
        have HWZ2 : Aside0 (WZ ((restP true N arcs (i : Int) p).dat_ l1 d1 n1)) := ⟨HWZ.out.dat l1 d1 n1 (by
          rw [hL.1]
          show _ = (leftF true arcs []).length
          rw [leftF_len]
          simp)⟩
        have HF := Aside0.mk hF
        have HD := Aside0.mk hD
        have HL2 := Aside0.mk hL
        have HP2 := Aside0.mk e1
        have HRn : Aside0 (treeL N arcs d (i + 1) P2 (Wt.set i s) = some r) := ⟨by rw [e2]; exact hs⟩
        have HPI := Aside0.mk (And.intro hpp hp)
        have HTd := Aside0.mk (HT.out.below (below_drew (Below.refl _ _)))
        have i0 : ((i : Int) < 0) = False := eq_false (by omega)
        have i1 : ((i : Int) < (N : Int)) = True := eq_true (by omega)
        clear hF hD hL hst hs e1 e2 HRr hp hpp
        go_wp2
        refine start_ (n := 8) (S := fun w' => (w'.cell? ⟨w.heap.size, 0, none⟩ = some (.int .i64 N)) ∧ (w'.cell? ⟨w.heap.size, 1, none⟩ = some (.slice A1 arcs.length c1)) ∧ (w'.cell? ⟨gP, i, none⟩ = some (.int .i64 p))) (ds := []) #[false, false, false, false, false, false, false, false] (by kernel_rfl) rfl rfl ⟨x0, x1, kp⟩ (fun hHeld => ?_)
        refine with_tabW tb_Tree_8.tab tb_Tree_8.bits (fun HT_ HW_ => ?_)
        refine take_ (i := 0) (N := some 26) (v := ?_) (a' := ?_) #[true, false, false, false, false, false, false, false] rfl rfl (take_ofW HT_.out HW_.out (by kernel_rfl)) (fun _ _ _ h => h) (Or.inl ⟨by rfl, ?_⟩) hHeld ?_ ?_
        rotate_left
        · rintro w' ⟨s0, s1, s2⟩
          go_simp
          with_reducible rfl
        rotate_left
        · simp only [Act.put, List.setIfInBounds_toArray, List.set_cons_zero, List.set_cons_succ, i64_w, i32_w]
          rfl
        refine pure_ (i := 1) (N := some 27) (v := ?_) (a' := ?_) #[true, true, false, false, false, false, false, false] rfl rfl (any_of HT_.out (by kernel_rfl)) (fun _ _ _ h => h) (Or.inl ⟨by rfl, ?_⟩) ?_ ?_
        rotate_left
        · intro w'
          go_simp
          with_reducible rfl
        rotate_left
        · simp only [Act.put, List.setIfInBounds_toArray, List.set_cons_zero, List.set_cons_succ, i64_w, i32_w]
          rfl
        refine pure_ (i := 2) (N := some 28) (v := ?_) (a' := ?_) #[true, true, true, false, false, false, false, false] rfl rfl (any_of HT_.out (by kernel_rfl)) (fun _ _ _ h => h) (Or.inl ⟨by rfl, ?_⟩) ?_ ?_
        rotate_left
        · intro w'
          go_simp
          with_reducible rfl
        rotate_left
        · simp only [Act.put, List.setIfInBounds_toArray, List.set_cons_zero, List.set_cons_succ, i64_w, i32_w]
          rfl
        refine pure_ (i := 3) (N := some 29) (v := ?_) (a' := ?_) #[true, true, true, true, false, false, false, false] rfl rfl (any_of HT_.out (by kernel_rfl)) (fun _ _ _ h => h) (Or.inl ⟨by rfl, ?_⟩) ?_ ?_
        rotate_left
        · intro w'
          go_simp
          with_reducible rfl
        rotate_left
        · simp only [Act.put, List.setIfInBounds_toArray, List.set_cons_zero, List.set_cons_succ, i64_w, i32_w]
          rfl
        refine pure_ (i := 4) (N := some 30) (v := ?_) (a' := ?_) #[true, true, true, true, true, false, false, false] rfl rfl (any_of HT_.out (by kernel_rfl)) (fun _ _ _ h => h) (Or.inl ⟨by rfl, ?_⟩) ?_ ?_
        rotate_left
        · intro w'
          go_simp
          with_reducible rfl
        rotate_left
        · simp only [Act.put, List.setIfInBounds_toArray, List.set_cons_zero, List.set_cons_succ, i64_w, i32_w]
          rfl
        refine take_ (i := 5) (N := some 31) (v := ?_) (a' := ?_) #[true, true, true, true, true, true, false, false] rfl rfl (take_ofW HT_.out HW_.out (by kernel_rfl)) (fun _ _ _ h => h) (Or.inl ⟨by rfl, ?_⟩) hHeld ?_ ?_
        rotate_left
        · rintro w' ⟨s0, s1, s2⟩
          go_simp
          with_reducible rfl
        rotate_left
        · simp only [Act.put, List.setIfInBounds_toArray, List.set_cons_zero, List.set_cons_succ, i64_w, i32_w]
          rfl
        refine one_ (i := 6) (N := some 32) #[true, true, true, true, true, true, true, false] rfl rfl (one_of HT_.out (by kernel_rfl)) (by decide) (fun K hK => ?_)
        refine goes_ Try.func49 (by kernel_rfl) rfl #[.agg #[.int .i64 N, .slice A1 arcs.length c1], .int .i64 i, .int .i64 p, .bool true] (by rfl) rfl rfl (by simp only [List.map_toArray, List.map_cons, List.map_nil]; rfl) ?_
        refine (rest_calls true N A1 c1 arcs (i : Int) p wr.drew (Kd.C_below HC.out HTd.out.bel) hc (by have := HN.out; omega) (by have := HN.out; omega) (by have := HL.out; omega) HG.out).mono ?_
        rintro e w3 ⟨g, col, v2, v3, rfl, hR⟩
        refine ⟨_, rfl, ?_⟩
        have HR := Aside0.mk hR
        have HT3 := HTd.out.below hR.bel
        have y0 := (blk_cell HT3.box 0).trans rfl
        have y1 := (blk_cell HT3.box 1).trans rfl
        obtain ⟨y2, _⟩ := R_at HT3.rp (i : Int) (by omega) (by omega)
        rw [Int.toNat_natCast, ← HPI.out.1] at y2
        clear hR HT3
        refine hK.out _ _ ⟨y0, y1, y2⟩ (fun hHeld => ?_)
        clear hK K
        refine norm_ (a' := ?_) ?_ ?_
        rotate_left
        · show Act.put _ (some 32) _ = _
          (try simp only [Act.put, List.setIfInBounds_toArray, List.set_cons_zero, List.set_cons_succ, i64_w, i32_w])
          rfl
        refine pure_ (i := 7) (N := some 6) (v := ?_) (a' := ?_) #[true, true, true, true, true, true, true, true] rfl rfl (any_of HT_.out (by kernel_rfl)) (fun _ _ _ h => h) (Or.inl ⟨by rfl, ?_⟩) ?_ ?_
        rotate_left
        · intro w'
          go_simp
          with_reducible rfl
        rotate_left
        · simp only [Act.put, List.setIfInBounds_toArray, List.set_cons_zero, List.set_cons_succ, i64_w, i32_w]
          rfl
        refine done_ (done_of HT_.out (by kernel_rfl)) ?_
        clear x0 x1 kp fp y0 y1 y2 hHeld
        go_wp2_with fail
        refine (fill_calls HR.out HWZ.out fuelW (by unfold fuelW; decide) s l1 d1 n1 HF.out).mono ?_
        rintro e w5 ⟨col5, v6, v7, rfl, hR5⟩
        have HR5 := Aside0.mk hR5
        have HT5 := Aside0.mk (HTd.out.below hR5.bel)
        obtain ⟨kw, fw⟩ := R_at HT5.out.rt (i : Int) (by omega) (by omega)
        rw [Int.toNat_natCast] at kw fw
        clear hR5
        have HTp := Aside0.mk (HTd.out.putW (i : Int) s)
        rw [Int.toNat_natCast] at HTp
        obtain ⟨cells, hcells⟩ := Kd.R_typed HTd.out.rt gW rfl
        have HR6 := Aside0.mk (HR5.out.poke (b := gW) (i := i) (u := .int .i64 s) hcells (Kd.C_below HC.out HTp.out.bel))
        clear hcells
        go_wp2_with fail
        clear kw fw
        refine (least_calls HR6.out HWZ2.out fuelW (by unfold fuelW; decide) D HD.out).mono ?_
        rintro e w7 ⟨vS, col7, v67, rfl, hS7, hR7⟩
        obtain ⟨gS, cS, rfl⟩ := form_B (n := N) hS7 (by unfold leastL; rw [List.length_map]; exact HL2.out.2) (by have := HN.out; omega)
        have HT7 := Aside0.mk (HTp.out.below hR7.bel)
        have HS7 : Aside0 (KB.R 4 w7 w.heap.size (fun k => k ≠ gP) (.slice (some ⟨gS, 0, none⟩) N cS) (leastL D)) := ⟨Kd.R_mono (Kd.R_bound (Kd.R_lower hS7 (Nat.le_refl _) |> fun h => h)) (fun k hk => by have := hk.2.1; have := HTp.out.lt.1; omega) |> fun h => Kd.R_lower h HTp.out.bel.size⟩
        clear hS7 hR7 HR HR5 HR6 HT HTd HT5 HTp HWZ HWZ2 HF HD HL2 HPI
        have x0 := (blk_cell HT7.out.box 0).trans rfl
        have iw : wrap64 ((i : Int) + 1) = ((i + 1 : Nat) : Int) := wrap_add1 (by omega) (by have := HN.out; omega)
        have HIW := Aside0.mk iw
        go_wp2
        clear iw x0 hdec
        go_loopg [8] (N - (i + 1)) (fun kq v8 w' => ∃ (j : Nat) (Q : List Int), j + kq = N ∧ i + 1 ≤ j ∧ v8 = .int .i64 j ∧ Aside0 (mvL (leastL D) i kq j Q = P2) ∧ Aside0 (Tm w w' N A1 c1 arcs gP cP gW cW Q (Wt.set i s)) ∧ Aside0 (KB.R 4 w' w.heap.size (fun k => k ≠ gP) (.slice (some ⟨gS, 0, none⟩) N cS) (leastL D)))
        case atStart => exact ⟨i + 1, P, by omega, by omega, by first | rfl | exact congrArg (Value.int .i64) HIW.out | go_num, HP2, HT7, HS7⟩
        case round =>
          clear HT7 HS7 HP2
          obtain ⟨j, Q, hj, hij, rfl, HQ, HT, HSd⟩ := hrel
          have x0 := (blk_cell HT.out.box 0).trans rfl
          by_cases hjn : j < N
          · have hdec : decide (j < N) = true := decide_eq_true hjn
            obtain ⟨d2, rfl⟩ : ∃ d2, gk = d2 + 1 := ⟨gk - 1, by omega⟩
            have hq := HQ.out
            simp only [mvL] at hq
            obtain ⟨ks, fs⟩ := R_atB HSd.out (j : Int) (by omega) (by omega)
            obtain ⟨kj, fj⟩ := R_at HT.out.rp (j : Int) (by omega) (by omega)
            obtain ⟨ki, fi⟩ := R_at HT.out.rp (i : Int) (by omega) (by omega)
            rw [Int.toNat_natCast] at ks fs kj fj ki fi
            obtain ⟨b, hb⟩ : ∃ b, b = rdOf false (leastL D) (j : Int) := ⟨_, rfl⟩
            obtain ⟨x, hx⟩ : ∃ x, x = rd Q (j : Int) := ⟨_, rfl⟩
            obtain ⟨y, hy⟩ : ∃ y, y = rd Q (i : Int) := ⟨_, rfl⟩
            rw [← hb] at ks hq
            rw [← hx] at kj hq
            rw [← hy] at ki hq
            have j0 : ((j : Int) < 0) = False := eq_false (by omega)
            have j1 : ((j : Int) < (N : Int)) = True := eq_true (by omega)
            have jw : wrap64 ((j : Int) + 1) = ((j + 1 : Nat) : Int) := wrap_add1 (by omega) (by have := HN.out; omega)
            have HJ : Aside0 (j + 1 + d2 = N ∧ i + 1 ≤ j + 1) := ⟨by clear jw; omega⟩
            have HSm : Aside0 (∀ m, KB.R 4 (wr.drewN m) w.heap.size (fun k => k ≠ gP) (.slice (some ⟨gS, 0, none⟩) N cS) (leastL D)) := ⟨fun m => Kd.R_drewN HSd.out m⟩
            have HTm : Aside0 (∀ m, Tm w (wr.drewN m) N A1 c1 arcs gP cP gW cW Q (Wt.set i s)) := ⟨fun m => HT.out.below (pw_below_drewN (Below.refl _ _) m)⟩
            clear hb hx hy HQ HT HSd hj hij
            cases b with
            | false =>
              have HQ2 : Aside0 (mvL (leastL D) i d2 (j + 1) Q = P2) := ⟨by simpa using hq⟩
              clear hq
              go_wp2
              repeat (go_quiet (fail); try go_wp2)
              go_roundg d2
              case measure => clear jw; omega
              case rel => exact ⟨j + 1, Q, HJ.out.1, HJ.out.2, by first | rfl | exact congrArg (Value.int .i64) jw, HQ2, ⟨HTm.out _⟩, ⟨HSm.out _⟩⟩
            | true =>
              by_cases hxy : x = y
              · have HQ2 : Aside0 (mvL (leastL D) i d2 (j + 1) (Q.set j (i : Int)) = P2) := ⟨by rw [show (x == y) = true from beq_iff_eq.mpr hxy] at hq; simpa using hq⟩
                have e1 : (x == y) = true := beq_iff_eq.mpr hxy
                have HTs : Aside0 (∀ m, Tm w ((wr.drewN m).setCell ⟨gP, j, none⟩ (.int .i64 i)) N A1 c1 arcs gP cP gW cW (Q.set j (i : Int)) (Wt.set i s)) := ⟨fun m => by have := (HTm.out m).putP (j : Int) (i : Int); rw [Int.toNat_natCast] at this; exact this⟩
                have HSs : Aside0 (∀ m, KB.R 4 ((wr.drewN m).setCell ⟨gP, j, none⟩ (.int .i64 i)) w.heap.size (fun k => k ≠ gP) (.slice (some ⟨gS, 0, none⟩) N cS) (leastL D)) := ⟨fun m => Kd.R_far (p := ⟨gP, j, none⟩) (HSm.out m) (fun k hk e => hk e) _⟩
                clear hq HTm HSm
                go_wp2
                repeat (go_quiet (fail); try go_wp2)
                go_roundg d2
                case measure => clear jw; omega
                case rel => exact ⟨j + 1, _, HJ.out.1, HJ.out.2, by first | rfl | exact congrArg (Value.int .i64) jw, HQ2, ⟨HTs.out _⟩, ⟨HSs.out _⟩⟩
              · have HQ2 : Aside0 (mvL (leastL D) i d2 (j + 1) Q = P2) := ⟨by rw [show (x == y) = false from beq_eq_false_iff_ne.mpr hxy] at hq; simpa using hq⟩
                have e1 : (x == y) = false := beq_eq_false_iff_ne.mpr hxy
                clear hq
                go_wp2
                repeat (go_quiet (fail); try go_wp2)
                go_roundg d2
                case measure => clear jw; omega
                case rel => exact ⟨j + 1, Q, HJ.out.1, HJ.out.2, by first | rfl | exact congrArg (Value.int .i64) jw, HQ2, ⟨HTm.out _⟩, ⟨HSm.out _⟩⟩
          · have hdec : decide (j < N) = false := decide_eq_false hjn
            obtain rfl : j = N := by omega
            obtain rfl : gk = 0 := by omega
            have HQ2 : Aside0 (Q = P2) := ⟨HQ.out⟩
            have HRn2 : Aside0 (treeL j arcs d (i + 1) Q (Wt.set i s) = some r) := ⟨by rw [HQ2.out]; exact HRn.out⟩
            have iw := HIW.out
            clear HRn HQ HQ2
            go_wp2
            go_roundg d
            case measure => clear iw; omega
            case rel => exact ⟨i + 1, _, _, by clear iw; omega, by clear iw; omega, by first | rfl | exact congrArg (Value.int .i64) iw, HRn2, HT⟩
      · have hdec : decide (i < N) = false := decide_eq_false hlt
        obtain rfl : i = N := by omega
        obtain rfl : gk = 0 := by omega
        have hs := HRr.out
        simp only [treeL] at hs
        injection hs with hs
        subst hs
        clear HRr
        go_wp2
        go_ret3
        exact ⟨.slice (some ⟨gP, 0, none⟩) i cP, .slice (some ⟨gW, 0, none⟩) i cW, rfl, Kd.R_mono HT.out.rp (fun k hk e => by injection e with e; exact HT.out.ne (hk.symm.trans e)), Kd.R_mono HT.out.rt (fun k hk e => by injection e with e; exact HT.out.ne (e.symm.trans hk)), HT.out.bel⟩
  refine two_ (i := 2) (j := 5) (Ni := some 14) (Nj := some 17) #[true, true, true, true, true, false, false, false] #[true, true, false, true, true, true, false, false] rfl rfl rfl rfl (two_of HT_.out (by kernel_rfl)) (by decide) (by decide) (fun K hK => ?_) (fun K hK => ?_)
  · obtain ⟨q0, q1, q2, q3⟩ := hHeld
    refine Kd.R_make_step KI (w0 := w) w.heap.size 3 (by rfl) (N := 14) rfl 40 _ _ rfl (N : Int) rfl rfl Try.underlying40 (.int .i64 0) 8 info3 rfl (by decide) (by omega) 0 (ok := fun _ => True) (okp := fun _ => False) rfl (fun _ h => trivial) trivial (by omega) (by rw [Int.toNat_natCast]; have := HN.out; omega) q1 q1.size ?_
    intro vP wP hRP hBP hgP hneP
    obtain ⟨gP, cP, rfl, hgl⟩ := made_slice hRP (hneP.imp fun b h => ⟨h.1, Nat.le_trans q1.size h.2⟩)
    rw [List.length_replicate, Int.toNat_natCast] at hRP
    rw [List.length_replicate, Int.toNat_natCast]
    obtain ⟨bP, hbP, hbP2⟩ := hneP
    injection hbP with hbP
    subst hbP
    have RP := Aside0.mk (Kd.R_mono (ok' := fun k => k = gP) (Kd.R_tight rfl hRP) (fun k hk => by injection hk))
    have NP : Aside0 (w.heap.size < gP) := ⟨Nat.lt_of_lt_of_le q3 hbP2⟩
    try (have NE : Aside0 (gP ≠ gW) := ⟨fun e => Nat.lt_irrefl gP (Nat.lt_of_lt_of_le (by have := Kd.R_lt RT.out gW rfl; rw [e]; exact this) hbP2)⟩)
    try (replace RT := Aside0.mk (Kd.R_grown RT.out hgP (fun k hk => by simp)))
    have k3 := Nat.lt_of_lt_of_le q3 hgP.size
    have k2 := blk_grown q2 hgP (by simp)
    have k0 := (blk_cell k2 0).trans rfl
    clear hRP hgP hgl hbP2
    refine hK.out _ _ ⟨k0, hBP, k2, k3⟩ (fun hHeld => ?_)
    clear hK K
    refine norm_ (a' := ?_) ?_ ?_
    rotate_left
    · show Act.put _ (some 14) _ = _
      (try simp only [Act.put, List.setIfInBounds_toArray, List.set_cons_zero, List.set_cons_succ, i64_w, i32_w])
      rfl
    refine pure_ (i := 6) (N := some 2) (v := ?_) (a' := ?_) #[true, true, true, true, true, false, true, false] rfl rfl (any_of HT_.out (by kernel_rfl)) (fun _ _ _ h => h) (Or.inl ⟨by rfl, ?_⟩) ?_ ?_
    rotate_left
    · intro w'
      go_simp
      with_reducible rfl
    rotate_left
    · simp only [Act.put, List.setIfInBounds_toArray, List.set_cons_zero, List.set_cons_succ, i64_w, i32_w]
      rfl
    refine one_ (i := 5) (N := some 17) #[true, true, true, true, true, true, true, false] rfl rfl (one_of HT_.out (by kernel_rfl)) (by decide) (fun K hK => ?_)
    obtain ⟨q0, q1, q2, q3⟩ := hHeld
    refine Kd.R_make_step KI (w0 := w) w.heap.size 3 (by rfl) (N := 17) rfl 40 _ _ rfl (N : Int) rfl rfl Try.underlying40 (.int .i64 0) 8 info3 rfl (by decide) (by omega) 0 (ok := fun _ => True) (okp := fun _ => False) rfl (fun _ h => trivial) trivial (by omega) (by rw [Int.toNat_natCast]; have := HN.out; omega) q1 q1.size ?_
    intro vW wW hRW hBW hgW hneW
    obtain ⟨gW, cW, rfl, hgl⟩ := made_slice hRW (hneW.imp fun b h => ⟨h.1, Nat.le_trans q1.size h.2⟩)
    rw [List.length_replicate, Int.toNat_natCast] at hRW
    rw [List.length_replicate, Int.toNat_natCast]
    obtain ⟨bW, hbW, hbW2⟩ := hneW
    injection hbW with hbW
    subst hbW
    have RT := Aside0.mk (Kd.R_mono (ok' := fun k => k = gW) (Kd.R_tight rfl hRW) (fun k hk => by injection hk))
    have NT : Aside0 (w.heap.size < gW) := ⟨Nat.lt_of_lt_of_le q3 hbW2⟩
    try (have NE : Aside0 (gP ≠ gW) := ⟨fun e => Nat.lt_irrefl gW (Nat.lt_of_lt_of_le (by have := Kd.R_lt RP.out gP rfl; rw [← e]; exact this) hbW2)⟩)
    try (replace RP := Aside0.mk (Kd.R_grown RP.out hgW (fun k hk => by simp)))
    have k3 := Nat.lt_of_lt_of_le q3 hgW.size
    have k2 := blk_grown q2 hgW (by simp)
    have k0 := (blk_cell k2 0).trans rfl
    clear hRW hgW hgl hbW2
    refine hK.out _ _ ⟨k0, hBW, k2, k3⟩ (fun hHeld => ?_)
    clear hK K
    refine norm_ (a' := ?_) ?_ ?_
    rotate_left
    · show Act.put _ (some 17) _ = _
      (try simp only [Act.put, List.setIfInBounds_toArray, List.set_cons_zero, List.set_cons_succ, i64_w, i32_w])
      rfl
    refine pure_ (i := 7) (N := some 3) (v := ?_) (a' := ?_) #[true, true, true, true, true, true, true, true] rfl rfl (any_of HT_.out (by kernel_rfl)) (fun _ _ _ h => h) (Or.inl ⟨by rfl, ?_⟩) ?_ ?_
    rotate_left
    · intro w'
      go_simp
      with_reducible rfl
    rotate_left
    · simp only [Act.put, List.setIfInBounds_toArray, List.set_cons_zero, List.set_cons_succ, i64_w, i32_w]
      rfl
    exact norm_ (by simp only [putAll, Act.put, List.setIfInBounds_toArray, List.set_cons_zero, List.set_cons_succ, i64_w, i32_w] <;> rfl) (jn2_5 ((gP, cP), (gW, cW)) _ ⟨hHeld, ⟨hHeld.2.1, hHeld.2.2.1, RP.out, RT.out, NE.out, ⟨NP.out, NT.out⟩⟩⟩)
  · obtain ⟨q0, q1, q2, q3⟩ := hHeld
    refine Kd.R_make_step KI (w0 := w) w.heap.size 3 (by rfl) (N := 17) rfl 40 _ _ rfl (N : Int) rfl rfl Try.underlying40 (.int .i64 0) 8 info3 rfl (by decide) (by omega) 0 (ok := fun _ => True) (okp := fun _ => False) rfl (fun _ h => trivial) trivial (by omega) (by rw [Int.toNat_natCast]; have := HN.out; omega) q1 q1.size ?_
    intro vW wW hRW hBW hgW hneW
    obtain ⟨gW, cW, rfl, hgl⟩ := made_slice hRW (hneW.imp fun b h => ⟨h.1, Nat.le_trans q1.size h.2⟩)
    rw [List.length_replicate, Int.toNat_natCast] at hRW
    rw [List.length_replicate, Int.toNat_natCast]
    obtain ⟨bW, hbW, hbW2⟩ := hneW
    injection hbW with hbW
    subst hbW
    have RT := Aside0.mk (Kd.R_mono (ok' := fun k => k = gW) (Kd.R_tight rfl hRW) (fun k hk => by injection hk))
    have NT : Aside0 (w.heap.size < gW) := ⟨Nat.lt_of_lt_of_le q3 hbW2⟩
    try (have NE : Aside0 (gP ≠ gW) := ⟨fun e => Nat.lt_irrefl gW (Nat.lt_of_lt_of_le (by have := Kd.R_lt RP.out gP rfl; rw [← e]; exact this) hbW2)⟩)
    try (replace RP := Aside0.mk (Kd.R_grown RP.out hgW (fun k hk => by simp)))
    have k3 := Nat.lt_of_lt_of_le q3 hgW.size
    have k2 := blk_grown q2 hgW (by simp)
    have k0 := (blk_cell k2 0).trans rfl
    clear hRW hgW hgl hbW2
    refine hK.out _ _ ⟨k0, hBW, k2, k3⟩ (fun hHeld => ?_)
    clear hK K
    refine norm_ (a' := ?_) ?_ ?_
    rotate_left
    · show Act.put _ (some 17) _ = _
      (try simp only [Act.put, List.setIfInBounds_toArray, List.set_cons_zero, List.set_cons_succ, i64_w, i32_w])
      rfl
    refine one_ (i := 2) (N := some 14) #[true, true, true, true, true, true, false, false] rfl rfl (one_of HT_.out (by kernel_rfl)) (by decide) (fun K hK => ?_)
    obtain ⟨q0, q1, q2, q3⟩ := hHeld
    refine Kd.R_make_step KI (w0 := w) w.heap.size 3 (by rfl) (N := 14) rfl 40 _ _ rfl (N : Int) rfl rfl Try.underlying40 (.int .i64 0) 8 info3 rfl (by decide) (by omega) 0 (ok := fun _ => True) (okp := fun _ => False) rfl (fun _ h => trivial) trivial (by omega) (by rw [Int.toNat_natCast]; have := HN.out; omega) q1 q1.size ?_
    intro vP wP hRP hBP hgP hneP
    obtain ⟨gP, cP, rfl, hgl⟩ := made_slice hRP (hneP.imp fun b h => ⟨h.1, Nat.le_trans q1.size h.2⟩)
    rw [List.length_replicate, Int.toNat_natCast] at hRP
    rw [List.length_replicate, Int.toNat_natCast]
    obtain ⟨bP, hbP, hbP2⟩ := hneP
    injection hbP with hbP
    subst hbP
    have RP := Aside0.mk (Kd.R_mono (ok' := fun k => k = gP) (Kd.R_tight rfl hRP) (fun k hk => by injection hk))
    have NP : Aside0 (w.heap.size < gP) := ⟨Nat.lt_of_lt_of_le q3 hbP2⟩
    try (have NE : Aside0 (gP ≠ gW) := ⟨fun e => Nat.lt_irrefl gP (Nat.lt_of_lt_of_le (by have := Kd.R_lt RT.out gW rfl; rw [e]; exact this) hbP2)⟩)
    try (replace RT := Aside0.mk (Kd.R_grown RT.out hgP (fun k hk => by simp)))
    have k3 := Nat.lt_of_lt_of_le q3 hgP.size
    have k2 := blk_grown q2 hgP (by simp)
    have k0 := (blk_cell k2 0).trans rfl
    clear hRP hgP hgl hbP2
    refine hK.out _ _ ⟨k0, hBP, k2, k3⟩ (fun hHeld => ?_)
    clear hK K
    refine norm_ (a' := ?_) ?_ ?_
    rotate_left
    · show Act.put _ (some 14) _ = _
      (try simp only [Act.put, List.setIfInBounds_toArray, List.set_cons_zero, List.set_cons_succ, i64_w, i32_w])
      rfl
    refine pure_ (i := 6) (N := some 2) (v := ?_) (a' := ?_) #[true, true, true, true, true, true, true, false] rfl rfl (any_of HT_.out (by kernel_rfl)) (fun _ _ _ h => h) (Or.inl ⟨by rfl, ?_⟩) ?_ ?_
    rotate_left
    · intro w'
      go_simp
      with_reducible rfl
    rotate_left
    · simp only [Act.put, List.setIfInBounds_toArray, List.set_cons_zero, List.set_cons_succ, i64_w, i32_w]
      rfl
    refine pure_ (i := 7) (N := some 3) (v := ?_) (a' := ?_) #[true, true, true, true, true, true, true, true] rfl rfl (any_of HT_.out (by kernel_rfl)) (fun _ _ _ h => h) (Or.inl ⟨by rfl, ?_⟩) ?_ ?_
    rotate_left
    · intro w'
      go_simp
      with_reducible rfl
    rotate_left
    · simp only [Act.put, List.setIfInBounds_toArray, List.set_cons_zero, List.set_cons_succ, i64_w, i32_w]
      rfl
    exact norm_ (by simp only [putAll, Act.put, List.setIfInBounds_toArray, List.set_cons_zero, List.set_cons_succ, i64_w, i32_w] <;> rfl) (jn2_5 ((gP, cP), (gW, cW)) _ ⟨hHeld, ⟨hHeld.2.1, hHeld.2.2.1, RP.out, RT.out, NE.out, ⟨NP.out, NT.out⟩⟩⟩)
end Go.Proofs.Ytbamanjedfccpaa.HTab
namespace Go.Proofs.Ytbamanjedfccpaa.X
set_option linter.unusedVariables false
open Go.RowKit Go.Proofs.YtbamanjedfccpaaW.PrintWords Go.Proofs.YtbamanjedfccpaaW.PrintLast Go.Proofs.YtbamanjedfccpaaW.PrintMore Go.Proofs.Ytbamanjedfccpaa.HTab
def wax_Tree.f (n : Int) (l : List S35) : Option (List Int × List Int × Int) := if (vdB n l && decide (n ≤ 12)) = true then (treeL n.toNat l (n.toNat - 1) 1 ((List.replicate n.toNat 0).set 0 (-1)) (List.replicate n.toNat 0)).map fun r => (r.1, r.2, 0) else some ([], [], 2)
theorem wax_Tree.calls (a0_0 : Int) (A0_1 : Option Addr) (c0_1 : Nat) (l0_1 : List (S35)) (r1 r2 : List Int) (r3 : Int) (w : World) (hr0_1 : Kd.C k35 w A0_1 l0_1.length l0_1) (hc0_1 : l0_1.length ≤ c0_1) (h : wax_Tree.f a0_0 l0_1 = some (r1, r2, r3)) :
    Calls Try.prog 26 #[.agg #[.int .i64 a0_0, .slice A0_1 l0_1.length c0_1]] w fun e w' => ∃ v0_ v1_ : Value, e = .returned (.tuple #[v0_, v1_, .int .i64 r3]) ∧ Kd.R (Kd.int .i64) 3 w' w.heap.size (fun k_ => some k_ ≠ (v1_ : Value).ownBlock) v0_ r1 ∧ Kd.R (Kd.int .i64) 3 w' w.heap.size (fun k_ => some k_ ≠ (v0_ : Value).ownBlock) v1_ r2 ∧ Below w.heap.size w w' := by
  unfold wax_Tree.f at h
  cases hv : (vdB a0_0 l0_1 && decide (a0_0 ≤ 12)) with
  | true =>
    rw [hv, if_pos rfl] at h
    obtain ⟨⟨P, Wt⟩, hF, hr⟩ := Option.map_eq_some_iff.1 h
    injection hr with h1 h2
    injection h2 with h2 h3
    subst h1; subst h2; subst h3
    rw [Bool.and_eq_true, decide_eq_true_eq] at hv
    obtain ⟨N, rfl⟩ : ∃ N : Nat, a0_0 = N := ⟨a0_0.toNat, by have := vdB_iff.1 hv.1; omega⟩
    rw [Int.toNat_natCast] at hF
    exact tree_ok N A0_1 c0_1 l0_1 w hr0_1 hc0_1 hv.1 (by omega) (P, Wt) hF
  | false =>
    rw [hv] at h
    simp only [Bool.false_eq_true, if_false] at h
    injection h with h
    injection h with h1 h2
    injection h2 with h2 h3
    subst h1; subst h2; subst h3
    exact tree_err a0_0 A0_1 c0_1 l0_1 w hr0_1 hc0_1 hv
end Go.Proofs.Ytbamanjedfccpaa.X
end

section
set_option linter.unusedVariables false
set_option linter.unusedSimpArgs false
namespace Go.Proofs.Ytbamanjedfccpaa.HTab
open Go.RowKit Go.Proofs.YtbamanjedfccpaaW.PrintWords Go.Proofs.YtbamanjedfccpaaW.PrintLast Go.Proofs.YtbamanjedfccpaaW.PrintMore Go.Proofs.Ytbamanjedfccpaa.X
set_option linter.unusedVariables false
set_option linter.unusedSimpArgs false
def edgeC (p q : Bool) (x : Int) : Int := (if p && !q then x else 0) + (if q && !p then (if true then x else 0) else 0)
theorem posi1 (p q r s : Bool) (x : Int) (hx : 0 ≤ x) : edgeC (p && !r) (q && !s) x + edgeC (r && !p) (s && !q) x ≤ edgeC p q x + edgeC r s x := by
  unfold edgeC
  cases p <;> cases q <;> cases r <;> cases s <;> simp <;> omega
theorem posi (X Y : Int → Bool) : ∀ l : List S35, (∀ a ∈ l, 0 ≤ a.f2) → costF true (fun v => X v && !Y v) l + costF true (fun v => Y v && !X v) l ≤ costF true X l + costF true Y l
  | [], _ => by simp [costF]
  | a :: l, h => by
    have ih := posi X Y l (fun b hb => h b (List.mem_cons_of_mem _ hb))
    have ha := posi1 (X a.f0) (X a.f1) (Y a.f0) (Y a.f1) a.f2 (h a (List.mem_cons_self ..))
    show (edgeC (X a.f0 && !Y a.f0) (X a.f1 && !Y a.f1) a.f2 + costF true (fun v => X v && !Y v) l) + (edgeC (Y a.f0 && !X a.f0) (Y a.f1 && !X a.f1) a.f2 + costF true (fun v => Y v && !X v) l) ≤ (edgeC (X a.f0) (X a.f1) a.f2 + costF true X l) + (edgeC (Y a.f0) (Y a.f1) a.f2 + costF true Y l)
    omega
def cutV (N : Nat) (arcs : List S35) (u v : Int) : Int := ((fillZ fuelW (restP true N arcs u v)).map (·.1)).getD 0
theorem mvL_len (S : List Bool) (i : Nat) : ∀ (d j : Nat) (P : List Int), (mvL S i d j P).length = P.length
  | 0, _, _ => rfl
  | d + 1, j, P => by
    simp only [mvL]
    rw [mvL_len S i d (j + 1)]
    split
    · exact List.length_set ..
    · rfl
theorem mvL_rd (S : List Bool) (i : Nat) : ∀ (d j : Nat) (P : List Int), i < j → j + d ≤ P.length → ∀ x : Int, 0 ≤ x → rd (mvL S i d j P) x = if j ≤ x ∧ x < (j + d : Nat) ∧ rdOf false S x = true ∧ rd P x = rd P (i : Int) then (i : Int) else rd P x
  | 0, j, P, hij, hd, x, x0 => by
    rw [if_neg (by omega)]
    rfl
  | d + 1, j, P, hij, hd, x, x0 => by
    simp only [mvL]
    by_cases c : (rdOf false S (j : Int) && (rd P (j : Int) == rd P (i : Int))) = true
    · rw [if_pos c]
      rw [Bool.and_eq_true, beq_iff_eq] at c
      have ih := mvL_rd S i d (j + 1) (P.set j (i : Int)) (by omega) (by rw [List.length_set]; omega) x x0
      have hs : ∀ y : Int, 0 ≤ y → rd (P.set j (i : Int)) y = if y = (j : Int) then (i : Int) else rd P y := fun y y0 => by
        have := rd_set P (j : Int) y (i : Int) (by omega) (by omega) y0
        rwa [Int.toNat_natCast] at this
      rw [ih, hs x x0, hs (i : Int) (by omega), if_neg (show ¬ (i : Int) = (j : Int) by omega)]
      by_cases e : x = (j : Int)
      · rw [e, if_neg (by omega), if_pos rfl, if_pos ⟨by omega, by omega, c.1, c.2⟩]
      · rw [if_neg e]
        by_cases q : j + 1 ≤ x ∧ x < (j + 1 + d : Nat) ∧ rdOf false S x = true ∧ rd P x = rd P (i : Int)
        · rw [if_pos (by exact_mod_cast q), if_pos ⟨by omega, by omega, q.2.2.1, q.2.2.2⟩]
        · rw [if_neg (by exact_mod_cast q), if_neg (fun z => q ⟨by omega, by omega, z.2.2.1, z.2.2.2⟩)]
    · rw [if_neg c]
      have ih := mvL_rd S i d (j + 1) P (by omega) (by omega) x x0
      rw [ih]
      by_cases e : x = (j : Int)
      · rw [e, if_neg (by omega), if_neg (fun z => c (by rw [z.2.2.1, z.2.2.2]; simp))]
      · by_cases q : j + 1 ≤ x ∧ x < (j + 1 + d : Nat) ∧ rdOf false S x = true ∧ rd P x = rd P (i : Int)
        · rw [if_pos (by exact_mod_cast q), if_pos ⟨by omega, by omega, q.2.2.1, q.2.2.2⟩]
        · rw [if_neg (by exact_mod_cast q), if_neg (fun z => q ⟨by omega, by omega, z.2.2.1, z.2.2.2⟩)]
section
variable {N : Nat} {arcs : List S35} (hN : N ≤ 12) (hl : arcs.length ≤ 160) (hg : Good N arcs) (hc : ∀ a ∈ arcs, 0 ≤ a.f2 ∧ a.f2 ≤ 1000000)
include hN hl hg hc
theorem cutV_min {u v : Int} (u0 : 0 ≤ u) (u1 : u < N) (v0 : 0 ≤ v) (v1 : v < N) (h : u ≠ v) : IsMin true arcs u v (cutV N arcs u v) := by
  obtain ⟨s, r, e, m1, m2⟩ := fillZ_min true N arcs u v (by omega) (by omega) hg hc ⟨u0, u1⟩ ⟨v0, v1⟩ h
  have : cutV N arcs u v = s := by unfold cutV; rw [e]; rfl
  rw [this]
  exact ⟨m1, m2⟩
theorem cutV_comm {u v : Int} (u0 : 0 ≤ u) (u1 : u < N) (v0 : 0 ≤ v) (v1 : v < N) (h : u ≠ v) : cutV N arcs u v = cutV N arcs v u :=
  (cutV_min hN hl hg hc u0 u1 v0 v1 h).eq (cutV_min hN hl hg hc v0 v1 u0 u1 (Ne.symm h)).comm
theorem cutV_in {u v : Int} (u0 : 0 ≤ u) (u1 : u < N) (v0 : 0 ≤ v) (v1 : v < N) (h : u ≠ v) : 0 ≤ cutV N arcs u v ∧ cutV N arcs u v ≤ 320000000 := by
  obtain ⟨⟨T, _, e⟩, _⟩ := cutV_min hN hl hg hc u0 u1 v0 v1 h
  have := costF_le true T arcs hc
  omega
theorem cutV_le {u v : Int} (u0 : 0 ≤ u) (u1 : u < N) (v0 : 0 ≤ v) (v1 : v < N) (T : Int → Bool) (hu : T u = true) (hv : T v = false) : cutV N arcs u v ≤ costF true T arcs :=
  (cutV_min hN hl hg hc u0 u1 v0 v1 (fun e => by rw [e, hv] at hu; cases hu)).2 T ⟨hu, hv⟩
theorem cutV_tri {u v w : Int} (u0 : 0 ≤ u) (u1 : u < N) (v0 : 0 ≤ v) (v1 : v < N) (w0 : 0 ≤ w) (w1 : w < N) (uv : u ≠ v) (vw : v ≠ w) (uw : u ≠ w) : cutV N arcs u v ≤ cutV N arcs u w ∨ cutV N arcs v w ≤ cutV N arcs u w :=
  (cutV_min hN hl hg hc u0 u1 v0 v1 uv).tri (cutV_min hN hl hg hc v0 v1 w0 w1 vw) (cutV_min hN hl hg hc u0 u1 w0 w1 uw)
theorem gus_core {i t j l : Int} (i0 : 0 ≤ i) (i1 : i < N) (t0 : 0 ≤ t) (t1 : t < N) (j0 : 0 ≤ j) (j1 : j < N) (l0 : 0 ≤ l) (l1 : l < N) (X : Int → Bool) (hi : X i = true) (ht : X t = false) (hj : X j = true) (hx : X l = false) (hX : costF true X arcs = cutV N arcs i t) (hji : j ≠ i) :
    cutV N arcs j l ≤ cutV N arcs j i := by
  refine Int.not_lt.1 (fun hlt => ?_)
  have hle := cutV_le hN hl hg hc j0 j1 l0 l1 X hj hx
  obtain ⟨⟨Y, ⟨hYj, hYi⟩, hY⟩, _⟩ := cutV_min hN hl hg hc j0 j1 i0 i1 hji
  have hYt : Y t = false := by
    cases q : Y t with
    | false => rfl
    | true =>
      have := cutV_le hN hl hg hc t0 t1 i0 i1 Y q hYi
      have := cutV_comm hN hl hg hc t0 t1 i0 i1 (fun e => by rw [e, hi] at ht; cases ht)
      omega
  have hYl : Y l = true := by
    cases q : Y l with
    | true => rfl
    | false =>
      have := cutV_le hN hl hg hc j0 j1 l0 l1 Y hYj q
      omega
  have p := posi X Y arcs (fun a ha => (hc a ha).1)
  have a1 := cutV_le hN hl hg hc i0 i1 t0 t1 (fun v => X v && !Y v) (by simp [hi, hYi]) (by simp [ht])
  have a2 := cutV_le hN hl hg hc l0 l1 j0 j1 (fun v => Y v && !X v) (by simp [hYl, hx]) (by simp [hj])
  have := cutV_comm hN hl hg hc l0 l1 j0 j1 (fun e => by rw [e, hj] at hx; cases hx)
  omega
theorem gus_core2 {i t j l : Int} (i0 : 0 ≤ i) (i1 : i < N) (t0 : 0 ≤ t) (t1 : t < N) (j0 : 0 ≤ j) (j1 : j < N) (l0 : 0 ≤ l) (l1 : l < N) (X : Int → Bool) (hi : X i = true) (ht : X t = false) (hj : X j = false) (hx : X l = true) (hX : costF true X arcs = cutV N arcs i t) (hjt : j ≠ t) :
    cutV N arcs j l ≤ cutV N arcs j t := by
  refine Int.not_lt.1 (fun hlt => ?_)
  have hle := cutV_le hN hl hg hc l0 l1 j0 j1 X hx hj
  have hcm := cutV_comm hN hl hg hc l0 l1 j0 j1 (fun e => by rw [e, hj] at hx; cases hx)
  obtain ⟨⟨Y, ⟨hYj, hYt⟩, hY⟩, _⟩ := cutV_min hN hl hg hc j0 j1 t0 t1 hjt
  have hYi : Y i = false := by
    cases q : Y i with
    | false => rfl
    | true =>
      have := cutV_le hN hl hg hc i0 i1 t0 t1 Y q hYt
      omega
  have hYl : Y l = true := by
    cases q : Y l with
    | true => rfl
    | false =>
      have := cutV_le hN hl hg hc j0 j1 l0 l1 Y hYj q
      omega
  have p := posi X Y arcs (fun a ha => (hc a ha).1)
  have a1 := cutV_le hN hl hg hc i0 i1 t0 t1 (fun v => X v && !Y v) (by simp [hi, hYi]) (by simp [ht])
  have a2 := cutV_le hN hl hg hc j0 j1 l0 l1 (fun v => Y v && !X v) (by simp [hYj, hj]) (by simp [hx])
  omega
theorem tree_fill {i t : Int} (i0 : 0 ≤ i) (i1 : i < N) (t0 : 0 ≤ t) (t1 : t < N) (hit : i ≠ t) :
    ∃ l1 d1 n1 D, fillZ fuelW (restP true N arcs i t) = some (cutV N arcs i t, l1, d1, n1) ∧ levelP fuelW ((restP true N arcs i t).dat_ l1 d1 n1) = some D ∧ l1.length = 2 * arcs.length ∧ D.length = N ∧ rdOf false (leastL D) i = true ∧ rdOf false (leastL D) t = false ∧
      costF true (fun v => rdOf false (leastL D) v) arcs = cutV N arcs i t := by
  obtain ⟨s, l1, d1, n1, hF, hs, hL, hr, hv, hn⟩ := fillZ_ok true N arcs i t (by omega) (by omega) hg hc ⟨i0, i1⟩ ⟨t0, t1⟩ hit
  obtain ⟨D, hD, hvD⟩ := level_ok arcs l1 (outZ N arcs) i t N d1 n1 (by omega) ⟨i0, i1⟩ (rows_in hg) fuelW (by unfold fuelW; omega)
  have hcv : cutV N arcs i t = s := by unfold cutV; rw [hF]; rfl
  have hin : ∀ (d : Nat) (x : Int), 0 ≤ x → x < N → rd D x = d → 0 ≤ rd d1 x := fun d => by
    induction d with
    | zero => intro x x0 x1 hx; rw [hvD.uni x x0 x1 hx, hv.s0]; omega
    | succ d ih =>
      intro x x0 x1 hx
      obtain ⟨y, e, y0, y1, hy, he, hlt, hex⟩ := hvD.pred x x0 x1 (by omega)
      have := hv.clo y e y0 y1 (ih y y0 y1 (by omega)) he hlt
      rwa [hex] at this
  have hno : rd D t < 0 := Int.not_le.1 (fun q => by have := hin (rd D t).toNat t t0 t1 (by omega); omega)
  have hrd : ∀ x : Int, 0 ≤ x → x < N → rdOf false (leastL D) x = decide (0 ≤ rd D x) := fun x x0 x1 => leastL_rd D x x0 (by rw [hvD.len]; exact x1)
  refine ⟨l1, d1, n1, D, by rw [hcv]; exact hF, hD, hL.len, hvD.len, by rw [hrd i i0 i1, hvD.s0]; rfl, by rw [hrd t t0 t1]; exact decide_eq_false (by omega), ?_⟩
  rw [costF_congr (N := N) true _ (fun v => decide (0 ≤ rd D v)) (fun v v0 v1 => hrd v v0 v1) arcs hg, hcv]
  have h1 := hr (fun v => decide (0 ≤ rd D v))
  rw [reach_zero hg hL hvD, ind_side ⟨by simp [hvD.s0], decide_eq_false (by omega)⟩] at h1
  omega
end
structure GI (N : Nat) (arcs : List S35) (i : Int) (P Wt : List Int) : Prop where
  lp : P.length = N
  lw : Wt.length = N
  p0 : rd P 0 = -1
  w0 : rd Wt 0 = 0
  dn : ∀ j : Int, 1 ≤ j → j < N → 0 ≤ rd P j ∧ rd P j < j ∧ rd P j < i
  mx : ∀ j k : Int, i ≤ j → j < N → 0 ≤ k → k < i → cutV N arcs j k ≤ cutV N arcs j (rd P j)
  sp : ∀ j l : Int, i ≤ j → j < N → i ≤ l → l < N → rd P j ≠ rd P l → cutV N arcs j l ≤ cutV N arcs j (rd P j)
  tw : ∀ s : Int, 1 ≤ s → s < i → rd Wt s = cutV N arcs s (rd P s)
  tm : ∀ s k : Int, 1 ≤ s → s < i → 0 ≤ k → k < s → cutV N arcs s k ≤ cutV N arcs s (rd P s)
section
variable {N : Nat} {arcs : List S35} (hN : N ≤ 12) (hl : arcs.length ≤ 160) (hg : Good N arcs) (hc : ∀ a ∈ arcs, 0 ≤ a.f2 ∧ a.f2 ≤ 1000000)
include hN hl hg hc
theorem gi_step {i : Nat} {P Wt : List Int} (h : GI N arcs i P Wt) (i1 : 1 ≤ i) (iN : i < N) : ∃ P' W', treeStep N arcs i P Wt = some (P', W') ∧ GI N arcs ((i + 1 : Nat) : Int) P' W' := by
  obtain ⟨t0, t2, t3⟩ := h.dn (i : Int) (by omega) (by omega)
  obtain ⟨t, ht⟩ : ∃ t, t = rd P (i : Int) := ⟨_, rfl⟩
  rw [← ht] at t0 t2 t3
  obtain ⟨l1, d1, n1, D, hF, hD, hl1, hDl, hi, htt, hX⟩ := tree_fill hN hl hg hc (i := (i : Int)) (t := t) (by omega) (by omega) t0 (by omega) (by omega)
  have hlp := h.lp
  have hlw := h.lw
  obtain ⟨S, hS⟩ : ∃ S, S = leastL D := ⟨_, rfl⟩
  rw [← hS] at hi htt hX
  obtain ⟨P', hP'⟩ : ∃ Q, Q = mvL S i (N - (i + 1)) (i + 1) P := ⟨_, rfl⟩
  have hrd : ∀ x : Int, 0 ≤ x → x < N → rd P' x = if (i : Int) < x ∧ rdOf false S x = true ∧ rd P x = t then (i : Int) else rd P x := fun x x0 x1 => by
    rw [hP', mvL_rd S i _ (i + 1) P (by omega) (by omega) x x0, ← ht]
    by_cases q : (i : Int) < x ∧ rdOf false S x = true ∧ rd P x = t
    · rw [if_pos q, if_pos ⟨by omega, by omega, q.2⟩]
    · rw [if_neg q, if_neg (fun z => q ⟨by omega, z.2.2⟩)]
  refine ⟨P', Wt.set i (cutV N arcs i t), ?_, ?_⟩
  · unfold treeStep
    rw [← ht, if_pos ⟨t0, by omega⟩, hF, Option.bind_some]
    dsimp only
    rw [hD, Option.bind_some, if_pos ⟨hl1, hDl⟩, hP', hS]
  have F := fun {a b : Int} (x0 : 0 ≤ a) (x1 : a < N) (y0 : 0 ≤ b) (y1 : b < N) (z : a ≠ b) => cutV_comm hN hl hg hc x0 x1 y0 y1 z
  -- a node that moves does not come further off
  have up : ∀ j : Int, (i : Int) < j → j < N → rdOf false S j = true → rd P j = t → cutV N arcs j t ≤ cutV N arcs j i := fun j j0 j1 hj hp => by
    have a := cutV_le hN hl hg hc (u := j) (v := t) (by omega) j1 t0 (by omega) (fun v => rdOf false S v) hj htt
    have b := cutV_tri hN hl hg hc (u := j) (v := t) (w := (i : Int)) (by omega) j1 t0 (by omega) (by omega) (by omega) (by omega) (by omega) (by omega)
    have := F (a := t) (b := (i : Int)) t0 (by omega) (by omega) (by omega) (by omega)
    omega
  have up2 : ∀ j : Int, (i : Int) < j → j < N → cutV N arcs j (rd P j) ≤ cutV N arcs j (rd P' j) := fun j j0 j1 => by
    rw [hrd j (by omega) j1]
    split
    · rename_i q
      rw [q.2.2]
      exact up j j0 j1 q.2.1 q.2.2
    · exact Int.le_refl _
  refine ⟨by rw [hP', mvL_len]; exact hlp, by rw [List.length_set]; exact hlw, ?_, ?_, fun j j0 j1 => ?_, fun j k j0 j1 k0 k1 => ?_, fun j l j0 j1 l0 l1' hne => ?_, fun s s0 s1 => ?_, fun s k s0 s1 k0 k1 => ?_⟩
  · rw [hrd 0 (by omega) (by omega), if_neg (by omega)]; exact h.p0
  · have := rd_set Wt (i : Int) 0 (cutV N arcs i t) (by omega) (by omega) (by omega)
    rw [Int.toNat_natCast] at this
    rw [this, if_neg (by omega)]
    exact h.w0
  · have := h.dn j j0 j1
    rw [hrd j (by omega) j1]
    split <;> omega
  · by_cases e : k = (i : Int)
    · rw [e, hrd j (by omega) j1]
      split
      · exact Int.le_refl _
      · rename_i q
        by_cases e2 : rd P j = t
        · have hj : rdOf false S j = false := by
            cases c : rdOf false S j with
            | false => rfl
            | true => exact absurd ⟨by omega, c, e2⟩ q
          rw [e2]
          have a := cutV_le hN hl hg hc (u := (i : Int)) (v := j) (by omega) (by omega) (by omega) j1 (fun v => rdOf false S v) hi hj
          have b := cutV_tri hN hl hg hc (u := j) (v := (i : Int)) (w := t) (by omega) j1 (by omega) (by omega) t0 (by omega) (by omega) (by omega) (by omega)
          have := F (a := (i : Int)) (b := j) (by omega) (by omega) (by omega) j1 (by omega)
          omega
        · exact h.sp j (i : Int) (by omega) j1 (by omega) (by omega) (by rw [← ht]; exact e2)
    · exact Int.le_trans (h.mx j k (by omega) j1 k0 (by omega)) (up2 j (by omega) j1)
  · by_cases e : rd P j = rd P l
    · have r1 := hrd j (by omega) j1
      have r2 := hrd l (by omega) l1'
      have et : rd P j = t := by
        refine Decidable.byContradiction (fun q => hne ?_)
        rw [r1, r2, if_neg (fun z => q z.2.2), if_neg (fun z => q (by rw [e]; exact z.2.2)), e]
      have et2 : rd P l = t := by rw [← e]; exact et
      cases cj : rdOf false S j with
      | true =>
        have cl : rdOf false S l = false := by
          cases c : rdOf false S l with
          | false => rfl
          | true => exact absurd (by rw [r1, r2, if_pos ⟨by omega, cj, et⟩, if_pos ⟨by omega, c, et2⟩]) hne
        rw [r1, if_pos ⟨by omega, cj, et⟩]
        exact gus_core hN hl hg hc (i := (i : Int)) (t := t) (by omega) (by omega) t0 (by omega) (by omega) j1 (by omega) l1' (fun v => rdOf false S v) hi htt cj cl hX (by omega)
      | false =>
        have cl : rdOf false S l = true := by
          cases c : rdOf false S l with
          | true => rfl
          | false => exact absurd (by rw [r1, r2, if_neg (fun z => by rw [cj] at z; cases z.2.1), if_neg (fun z => by rw [c] at z; cases z.2.1), e]) hne
        rw [r1, if_neg (fun z => by rw [cj] at z; cases z.2.1), et]
        exact gus_core2 hN hl hg hc (i := (i : Int)) (t := t) (by omega) (by omega) t0 (by omega) (by omega) j1 (by omega) l1' (fun v => rdOf false S v) hi htt cj cl hX (by omega)
    · exact Int.le_trans (h.sp j l (by omega) j1 (by omega) l1' e) (up2 j (by omega) j1)
  · have hw := rd_set Wt (i : Int) s (cutV N arcs i t) (by omega) (by omega) (by omega)
    rw [Int.toNat_natCast] at hw
    rw [hw, hrd s (by omega) (by omega), if_neg (show ¬ ((i : Int) < s ∧ rdOf false S s = true ∧ rd P s = t) from fun z => by have := z.1; omega)]
    by_cases e : s = (i : Int)
    · rw [if_pos e, e, ← ht]
    · rw [if_neg e]
      exact h.tw s s0 (by omega)
  · rw [hrd s (by omega) (by omega), if_neg (show ¬ ((i : Int) < s ∧ rdOf false S s = true ∧ rd P s = t) from fun z => by have := z.1; omega)]
    by_cases e : s = (i : Int)
    · rw [e]
      exact h.mx (i : Int) k (by omega) (by omega) k0 (by omega)
    · exact h.tm s k s0 (by omega) k0 k1
theorem gi_all : ∀ (d i : Nat) (P Wt : List Int), i + d = N → 1 ≤ i → GI N arcs i P Wt → ∃ P' W', treeL N arcs d i P Wt = some (P', W') ∧ GI N arcs N P' W'
  | 0, i, P, Wt, hi, i1, h => ⟨P, Wt, rfl, by obtain rfl : i = N := by omega
                                              exact h⟩
  | d + 1, i, P, Wt, hi, i1, h => by
    obtain ⟨P1, W1, e1, h1⟩ := gi_step hN hl hg hc h i1 (by omega)
    obtain ⟨P2, W2, e2, h2⟩ := gi_all d (i + 1) P1 W1 (by omega) (by omega) h1
    refine ⟨P2, W2, ?_, h2⟩
    simp only [treeL]
    rw [e1, Option.bind_some]
    exact e2
theorem gi_tree (h2 : 2 ≤ N) : ∃ P Wt, treeL N arcs (N - 1) 1 ((List.replicate N 0).set 0 (-1)) (List.replicate N 0) = some (P, Wt) ∧ GI N arcs N P Wt := by
  have hrd : ∀ x : Int, 0 ≤ x → rd ((List.replicate N 0).set 0 (-1)) x = if x = 0 then -1 else 0 := fun x x0 => by
    have := rd_set (List.replicate N 0) 0 x (-1) (by omega) (by simp; omega) x0
    rw [Int.toNat_zero, rep_zero] at this
    exact this
  refine gi_all hN hl hg hc (N - 1) 1 _ _ (by omega) (Nat.le_refl _) ⟨by simp, by simp, by rw [hrd 0 (by omega)]; rfl, rep_zero N 0, fun j j0 j1 => ?_, fun j k j0 j1 k0 k1 => ?_, fun j l j0 j1 l0 l1 hne => ?_, fun s s0 s1 => by omega, fun s k s0 s1 => by omega⟩
  · rw [hrd j (by omega), if_neg (by omega)]; omega
  · rw [hrd j (by omega), if_neg (by omega), show k = 0 by omega]
    exact Int.le_refl _
  · exfalso
    rw [hrd j (by omega), hrd l (by omega), if_neg (by omega), if_neg (by omega)] at hne
    exact hne rfl
end
end Go.Proofs.Ytbamanjedfccpaa.HTab
end

section
set_option linter.unusedVariables false
set_option linter.unusedSimpArgs false
namespace Go.Proofs.Ytbamanjedfccpaa.HTab
open Go.RowKit Go.Proofs.YtbamanjedfccpaaW.PrintWords Go.Proofs.YtbamanjedfccpaaW.PrintLast Go.Proofs.YtbamanjedfccpaaW.PrintMore Go.Proofs.Ytbamanjedfccpaa.X
set_option linter.unusedVariables false
set_option linter.unusedSimpArgs false
theorem wraps_i64 (n : Int) (h₀ : 0 ≤ n) (h₁ : n < 2 ^ 63) : IntKind.i64.wrap n = n := by rw [IntKind.wrap_i64]; omega
theorem and_one {x : Int} (h0 : 0 ≤ x) (h1 : x < 2 ^ 63) : Go.bits .and .i64 x 1 = x % 2 := bits_mask .i64 63 (by decide) wraps_i64 1 (by decide) x h0 h1
theorem shl1 {k : Int} (h0 : 0 ≤ k) (h : k ≤ 12) : shl .i64 1 k = ((2 ^ k.toNat : Nat) : Int) := by
  have : k = 0 ∨ k = 1 ∨ k = 2 ∨ k = 3 ∨ k = 4 ∨ k = 5 ∨ k = 6 ∨ k = 7 ∨ k = 8 ∨ k = 9 ∨ k = 10 ∨ k = 11 ∨ k = 12 := by omega
  rcases this with h | h | h | h | h | h | h | h | h | h | h | h | h <;> rw [h] <;> decide
theorem p12 {k : Nat} (h : k ≤ 12) : 1 ≤ 2 ^ k ∧ 2 ^ k ≤ 4096 := ⟨Nat.two_pow_pos k, Nat.pow_le_pow_right (by omega) h⟩
theorem bit_test (s k : Nat) (hs : s < 4096) (hk : k ≤ 62) : (Go.bits .and .i64 (shr .i64 (s : Int) (k : Int)) 1 == 1) = s.testBit k := by
  unfold shr
  rw [Int.toNat_natCast, Nat.min_eq_left (show k ≤ IntKind.i64.bits from (by show k ≤ 64; omega))]
  have e : ((s : Int) / 2 ^ k) = ((s / 2 ^ k : Nat) : Int) := by rw [Int.natCast_ediv, Int.natCast_pow]; rfl
  have hle : s / 2 ^ k ≤ s := Nat.div_le_self _ _
  rw [e, Nat.testBit_eq_decide_div_mod_eq]
  generalize s / 2 ^ k = q at hle ⊢
  rw [and_one (by omega) (by omega)]
  by_cases h : q % 2 = 1
  · rw [decide_eq_true h]
    have : ((q : Int) % 2) = 1 := by omega
    rw [this]; rfl
  · rw [decide_eq_false h]
    have : ((q : Int) % 2) = 0 := by omega
    rw [this]; rfl
section
variable (N : Nat) (hN2 : 2 ≤ N) (hN : N ≤ 12) (l : List S34) (hl : l.length ≤ 160) (hg : GoodR N l)
include hN2 hN hl hg
end
theorem bits_of (g : Nat → Bool) : ∀ m : Nat, ∃ s, s < 2 ^ m ∧ ∀ k, k < m → s.testBit k = g k
  | 0 => ⟨0, by simp, fun k hk => by omega⟩
  | m + 1 => by
    obtain ⟨s, h1, h2⟩ := bits_of g m
    have hp : 2 ^ (m + 1) = 2 ^ m + 2 ^ m := by rw [Nat.pow_succ]; omega
    cases hg : g m with
    | false =>
      refine ⟨s, by omega, fun k hk => ?_⟩
      by_cases e : k = m
      · rw [e, hg]; exact Nat.testBit_lt_two_pow h1
      · exact h2 k (by omega)
    | true =>
      refine ⟨2 ^ m + s, by omega, fun k hk => ?_⟩
      by_cases e : k = m
      · rw [e, hg, Nat.testBit_two_pow_add_eq, Nat.testBit_lt_two_pow h1]; rfl
      · rw [Nat.testBit_two_pow_add_gt (by omega)]; exact h2 k (by omega)
end Go.Proofs.Ytbamanjedfccpaa.HTab
end

section
set_option linter.unusedVariables false
set_option linter.unusedSimpArgs false
namespace Go.Proofs.Ytbamanjedfccpaa.X
open Go.RowKit Go.Proofs.YtbamanjedfccpaaW.PrintWords Go.Proofs.YtbamanjedfccpaaW.PrintLast Go.Proofs.YtbamanjedfccpaaW.PrintMore
attribute [local go_sem] max2_int min2_int max_two min_two max_three min_three max_four min_four   -- for this text's walks alone
set_option linter.unusedVariables false
set_option linter.unusedSimpArgs false
mutual
def cantingref07_Tree.j0 : Nat → List Int → List Int → Bool → Int → List (S34) → Option (Bool)
  | 0, _, _, _, _, _ => none
  | k + 1, x1, x2, x37, x373000, x373001 => if x37 = true then (some false) else (cantingref07_Tree.l0 k x1 x2 1 x373000 x373001)
def cantingref07_Tree.l0 : Nat → List Int → List Int → Int → Int → List (S34) → Option (Bool)
  | 0, _, _, _, _, _ => none
  | k + 1, x1, x2, x7, x373000, x373001 => if x7 < x373000 then (cantingref07_Tree.l1 k x1 x2 x7 x7 0 x373000 x373001) else (cantingref07_Tree.l2 k x1 x2 x373000 0 x373000 x373001)
def cantingref07_Tree.l1 : Nat → List Int → List Int → Int → Int → Int → Int → List (S34) → Option (Bool)
  | 0, _, _, _, _, _, _, _ => none
  | k + 1, x1, x2, x7, x8, x9, x373000, x373001 => if x8 = 0 then (cantingref07_Tree.l0 k x1 x2 (wrap64 (x7 + 1)) x373000 x373001) else (if x9 > x373000 then (some false) else (if x8 < 0 then (some false) else (if x8 ≥ x373000 then (some false) else (if 0 ≤ x8 then (if x8 < (x1.length : Int) then (cantingref07_Tree.l1 k x1 x2 x7 (rd x1 x8) (wrap64 (x9 + 1)) x373000 x373001) else (none)) else (none)))))
def cantingref07_Tree.l2 : Nat → List Int → List Int → Int → Int → Int → List (S34) → Option (Bool)
  | 0, _, _, _, _, _, _ => none
  | k + 1, x1, x2, x68, x69, x373000, x373001 => if x69 < x68 then (cantingref07_Tree.l3 k x1 x2 x69 x68 x69 x69 0 x373000 x373001) else (some true)
def cantingref07_Tree.l3 : Nat → List Int → List Int → Int → Int → Int → Int → Int → Int → List (S34) → Option (Bool)
  | 0, _, _, _, _, _, _, _, _, _ => none
  | k + 1, x1, x2, x10, x68, x69, x72, x73, x373000, x373001 => if x73 < x72 then ((cantingref07_Cut.f k x373000 x373001 x10 x73).bind fun bt376 => ((cantingref07_between.f k x1 x2 x10 x73).bind fun t378 => (if bt376.1 = t378 then (cantingref07_Tree.l3 k x1 x2 x10 x68 x69 x72 (wrap64 (x73 + 1)) x373000 x373001) else (some false)))) else (cantingref07_Tree.l2 k x1 x2 x68 (wrap64 (x69 + 1)) x373000 x373001)
end
def cantingref07_Tree.f (k : Nat) (a0_0 : Int) (l0_1 : List (S34)) (l1 : List Int) (l2 : List Int) : Option (Bool) := if (l1.length : Int) = a0_0 then (if (l2.length : Int) = a0_0 then (if 0 < (l1.length : Int) then (if (rd l1 0) = (-1) then (if 0 < (l2.length : Int) then (cantingref07_Tree.j0 k l1 l2 ((rd l2 0) != 0) a0_0 l0_1) else (none)) else (cantingref07_Tree.j0 k l1 l2 true a0_0 l0_1)) else (none)) else (cantingref07_Tree.j0 k l1 l2 true a0_0 l0_1)) else (cantingref07_Tree.j0 k l1 l2 true a0_0 l0_1)
set_option maxHeartbeats 8000000 in
set_option maxRecDepth 100000 in
theorem cantingref07_Tree.calls (k : Nat) (a0_0 : Int) (A0_1 : Option Addr) (c0_1 : Nat) (l0_1 : List (S34)) (A1 : Option Addr) (c1 : Nat) (l1 : List Int) (A2 : Option Addr) (c2 : Nat) (l2 : List Int) (r : Bool) (w : World) (hr0_1 : Kd.C k34 w A0_1 l0_1.length l0_1) (hc0_1 : l0_1.length ≤ c0_1) (hr1 : Kd.C (Kd.int .i64) w A1 l1.length l1) (hc1 : l1.length ≤ c1) (hr2 : Kd.C (Kd.int .i64) w A2 l2.length l2) (hc2 : l2.length ≤ c2) (h : cantingref07_Tree.f k a0_0 l0_1 l1 l2 = some r) :
    Calls Try.prog 28 #[.agg #[.int .i64 a0_0, .slice A0_1 l0_1.length c0_1], .slice A1 l1.length c1, .slice A2 l2.length c2] w fun e w' => e = .returned (.bool r) ∧ Below w.heap.size w w' := by
  have hu24 := Try.underlying24
  have HR0_1 := Aside0.mk hr0_1
  have HC0_1 := Aside0.mk hc0_1
  clear hr0_1 hc0_1
  have HR1 := Aside0.mk hr1
  have HC1 := Aside0.mk hc1
  clear hr1 hc1
  have HR2 := Aside0.mk hr2
  have HC2 := Aside0.mk hc2
  clear hr2 hc2
  have HB := Aside0.mk (Below.refl w.heap.size w)
  have H : (if (l1.length : Int) = a0_0 then (if (l2.length : Int) = a0_0 then (if 0 < (l1.length : Int) then (if (rd l1 0) = (-1) then (if 0 < (l2.length : Int) then (cantingref07_Tree.j0 k l1 l2 ((rd l2 0) != 0) a0_0 l0_1) else (none)) else (cantingref07_Tree.j0 k l1 l2 true a0_0 l0_1)) else (none)) else (cantingref07_Tree.j0 k l1 l2 true a0_0 l0_1)) else (cantingref07_Tree.j0 k l1 l2 true a0_0 l0_1)) = some r := h
  clear h
  have HC4 := Aside0.mk H
  clear H
  go_enter Try.func28, Try.ntmps28
  go_upto_region 1 with (first | ((with_reducible refine gate_dst (N := 3) rfl ?_); (try (refine gate_guard (by rfl) ?_; dsimp only)); refine box_event ?hg (N := 3) ?hd (cs := #[.int .i64 a0_0, .slice A0_1 l0_1.length c0_1]) (t := 24) ?hr ?_; (case hd => rfl); (case hg => rfl); (case hr => first | (go_simp; done) | (go_simp; rfl)); intro gb372 hg w5 hbox hb; have n0_ := Aside0.mk (below_step (by repeat (first | (with_reducible first | exact HB.out | apply below_alloc | apply pw_below_drewN | apply below_drew1) | exact HB.out)) hb); have n1_ := Aside0.mk (hbox); have n2_ := Aside0.mk ((by rw [hg]; exact (below_size (by repeat (first | (with_reducible first | exact HB.out | apply below_alloc | apply pw_below_drewN | apply below_drew1) | exact HB.out))) : w.heap.size ≤ gb372)); have n3_ := Aside0.mk ((by rw [hg]; exact (below_size (by repeat (first | (with_reducible first | exact HB.out | apply below_alloc | apply pw_below_drewN | apply below_drew1) | exact HB.out))) : w.heap.size ≤ gb372)); clear HB; have HB := n0_; have BK372 := n1_; have GW372 := n2_; have GE372 := n3_; clear n0_ n1_ n2_ n3_; clear hb hbox hg))
  (try simp only [Act.put, List.setIfInBounds_toArray, List.set_cons_zero, List.set_cons_succ])
  go_cut [37] (fun v37 wc => ∃ (kq : Nat) (x37_3 : Bool), v37 = .bool x37_3 ∧ Aside0 (cantingref07_Tree.j0 kq l1 l2 x37_3 a0_0 l0_1 = some r) ∧ Aside0 (kq ≤ k) ∧ Aside0 (wc.heap[gb372]? = some (.cells #[.int .i64 a0_0, (.slice A0_1 l0_1.length c0_1)] 24 (0, 0))) ∧ Aside0 (Below w.heap.size w wc))
  case first =>
    have H := HC4.out
    clear HC4
    by_cases c6 : (l1.length : Int) = a0_0
    · rw [if_pos c6] at H
      have c6b0 : ((l1.length : Int) == a0_0) = true := beq_iff_eq.mpr c6
      have c6b1 : ((l1.length : Int) != a0_0) = false := bne_eq_false_iff_eq.mpr c6
      clear c6
      (first | rw [c6b0] | (simp only [i64_w, i32_w]; rw [c6b0]) | skip)
      by_cases c7 : (l2.length : Int) = a0_0
      · rw [if_pos c7] at H
        have c7b0 : ((l2.length : Int) == a0_0) = true := beq_iff_eq.mpr c7
        have c7b1 : ((l2.length : Int) != a0_0) = false := bne_eq_false_iff_eq.mpr c7
        clear c7
        by_cases c8 : 0 < (l1.length : Int)
        · rw [if_pos c8] at H
          have c8b0 : decide (0 < (l1.length : Int)) = true := decide_eq_true c8
          have c8b1 : decide (0 < l1.length) = true := decide_eq_true (by omega)
          clear c8
          by_cases c9 : (rd l1 0) = (-1)
          · rw [if_pos c9] at H
            have c9b0 : ((rd l1 0) == (-1)) = true := beq_iff_eq.mpr c9
            have c9b1 : ((rd l1 0) != (-1)) = false := bne_eq_false_iff_eq.mpr c9
            clear c9
            by_cases c10 : 0 < (l2.length : Int)
            · rw [if_pos c10] at H
              have c10b0 : decide (0 < (l2.length : Int)) = true := decide_eq_true c10
              have c10b1 : decide (0 < l2.length) = true := decide_eq_true (by omega)
              clear c10
              have H' := Aside0.mk H
              clear H
              have hcz11_0 : w5.cell? ⟨gb372, 0, none⟩ = some (.int .i64 a0_0) := (blk_cell BK372.out 0).trans rfl
              have hcz11_1 : w5.cell? ⟨gb372, 1, none⟩ = some (.slice A0_1 l0_1.length c0_1) := (blk_cell BK372.out 1).trans rfl
              have hfz11_0 := blk_frozen BK372.out 0
              have hfz11_1 := blk_frozen BK372.out 1
              have p373 : 0 ≤ (0 : Int) := (by omega)
              have q373 : 0 < (l1.length : Int) := of_decide_eq_true (by first | (with_reducible assumption) | assumption)
              obtain ⟨ad373, e373, hx373_0⟩ := Kd.at_int HR1.out 0 p373 q373
              cases e373
              have qi373 : (0 < l1.length) = True := eq_true (by omega)
              (try rw [show ((0 : Int)).toNat = 0 from rfl] at hx373_0)
              (try rw [Addr.add_zero'] at hx373_0)
              replace hx373_0 := (HB.out.cell (World.block_lt_of_cell? w _ hx373_0)).trans hx373_0
              replace p373 := eq_true p373
              replace q373 := eq_true q373
              have p374 : 0 ≤ (0 : Int) := (by omega)
              have q374 : 0 < (l2.length : Int) := of_decide_eq_true (by first | (with_reducible assumption) | assumption)
              obtain ⟨ad374, e374, hx374_0⟩ := Kd.at_int HR2.out 0 p374 q374
              cases e374
              have qi374 : (0 < l2.length) = True := eq_true (by omega)
              (try rw [show ((0 : Int)).toNat = 0 from rfl] at hx374_0)
              (try rw [Addr.add_zero'] at hx374_0)
              replace hx374_0 := (HB.out.cell (World.block_lt_of_cell? w _ hx374_0)).trans hx374_0
              replace p374 := eq_true p374
              replace q374 := eq_true q374
              go_wp2
              go_meet
              case rel => exact ⟨_, (((rd l2 0) != 0)), (by first | rfl | (simp; done) | (simp [*]; done)), H', ⟨by first | omega | exact Nat.le_refl _⟩, ⟨by (with_reducible repeat (first | refine blk_drewN ?_ _ | refine blk_drew ?_ | refine blk_alloc ?_ _)); exact BK372.out⟩, ⟨by repeat (first | (with_reducible first | exact HB.out | apply below_alloc | apply pw_below_drewN | apply below_drew1 | refine below_set ?_ GE372.out) | exact HB.out)⟩⟩
            · rw [if_neg c10] at H
              exact absurd H (by simp)
          · rw [if_neg c9] at H
            have c9b0 : ((rd l1 0) == (-1)) = false := beq_eq_false_iff_ne.mpr c9
            have c9b1 : ((rd l1 0) != (-1)) = true := bne_iff_ne.mpr c9
            have H' := Aside0.mk H
            clear H
            have hcz12_0 : w5.cell? ⟨gb372, 0, none⟩ = some (.int .i64 a0_0) := (blk_cell BK372.out 0).trans rfl
            have hcz12_1 : w5.cell? ⟨gb372, 1, none⟩ = some (.slice A0_1 l0_1.length c0_1) := (blk_cell BK372.out 1).trans rfl
            have hfz12_0 := blk_frozen BK372.out 0
            have hfz12_1 := blk_frozen BK372.out 1
            have p373 : 0 ≤ (0 : Int) := (by omega)
            have q373 : 0 < (l1.length : Int) := of_decide_eq_true (by first | (with_reducible assumption) | assumption)
            obtain ⟨ad373, e373, hx373_0⟩ := Kd.at_int HR1.out 0 p373 q373
            cases e373
            have qi373 : (0 < l1.length) = True := eq_true (by omega)
            (try rw [show ((0 : Int)).toNat = 0 from rfl] at hx373_0)
            (try rw [Addr.add_zero'] at hx373_0)
            replace hx373_0 := (HB.out.cell (World.block_lt_of_cell? w _ hx373_0)).trans hx373_0
            replace p373 := eq_true p373
            replace q373 := eq_true q373
            go_wp2
            go_meet
            case rel => exact ⟨_, (true), (by first | rfl | (simp; done) | (simp [*]; done)), H', ⟨by first | omega | exact Nat.le_refl _⟩, ⟨by (with_reducible repeat (first | refine blk_drewN ?_ _ | refine blk_drew ?_ | refine blk_alloc ?_ _)); exact BK372.out⟩, ⟨by repeat (first | (with_reducible first | exact HB.out | apply below_alloc | apply pw_below_drewN | apply below_drew1 | refine below_set ?_ GE372.out) | exact HB.out)⟩⟩
        · rw [if_neg c8] at H
          exact absurd H (by simp)
      · rw [if_neg c7] at H
        have c7b0 : ((l2.length : Int) == a0_0) = false := beq_eq_false_iff_ne.mpr c7
        have c7b1 : ((l2.length : Int) != a0_0) = true := bne_iff_ne.mpr c7
        have H' := Aside0.mk H
        clear H
        have hcz13_0 : w5.cell? ⟨gb372, 0, none⟩ = some (.int .i64 a0_0) := (blk_cell BK372.out 0).trans rfl
        have hcz13_1 : w5.cell? ⟨gb372, 1, none⟩ = some (.slice A0_1 l0_1.length c0_1) := (blk_cell BK372.out 1).trans rfl
        have hfz13_0 := blk_frozen BK372.out 0
        have hfz13_1 := blk_frozen BK372.out 1
        go_wp2
        go_meet
        case rel => exact ⟨_, (true), (by first | rfl | (simp; done) | (simp [*]; done)), H', ⟨by first | omega | exact Nat.le_refl _⟩, ⟨by (with_reducible repeat (first | refine blk_drewN ?_ _ | refine blk_drew ?_ | refine blk_alloc ?_ _)); exact BK372.out⟩, ⟨by repeat (first | (with_reducible first | exact HB.out | apply below_alloc | apply pw_below_drewN | apply below_drew1 | refine below_set ?_ GE372.out) | exact HB.out)⟩⟩
    · rw [if_neg c6] at H
      have c6b0 : ((l1.length : Int) == a0_0) = false := beq_eq_false_iff_ne.mpr c6
      have c6b1 : ((l1.length : Int) != a0_0) = true := bne_iff_ne.mpr c6
      (first | rw [c6b0] | (simp only [i64_w, i32_w]; rw [c6b0]) | skip)
      have H' := Aside0.mk H
      clear H
      have hcz14_0 : w5.cell? ⟨gb372, 0, none⟩ = some (.int .i64 a0_0) := (blk_cell BK372.out 0).trans rfl
      have hcz14_1 : w5.cell? ⟨gb372, 1, none⟩ = some (.slice A0_1 l0_1.length c0_1) := (blk_cell BK372.out 1).trans rfl
      have hfz14_0 := blk_frozen BK372.out 0
      have hfz14_1 := blk_frozen BK372.out 1
      go_wp2
      go_meet
      case rel => exact ⟨_, (true), (by first | rfl | (simp; done) | (simp [*]; done)), H', ⟨by first | omega | exact Nat.le_refl _⟩, ⟨by (with_reducible repeat (first | refine blk_drewN ?_ _ | refine blk_drew ?_ | refine blk_alloc ?_ _)); exact BK372.out⟩, ⟨by repeat (first | (with_reducible first | exact HB.out | apply below_alloc | apply pw_below_drewN | apply below_drew1 | refine below_set ?_ GE372.out) | exact HB.out)⟩⟩
  case rest =>
    clear HC4
    try clear c1
    try clear c2
    try clear p2
    try clear p3
    try clear q3
    try clear hx3
    try clear qi3
    try clear c6
    try clear c6b0
    try clear c6b1
    try clear c7
    try clear c7b0
    try clear c7b1
    try clear c8
    try clear c8b0
    try clear c8b1
    try clear c9
    try clear c9b0
    try clear c9b1
    try clear c10
    try clear c10b0
    try clear c10b1
    try clear hcz11_0
    try clear hcz11_1
    try clear hcz12_0
    try clear hcz12_1
    try clear hcz13_0
    try clear hcz13_1
    try clear hcz14_0
    try clear hcz14_1
    try clear hfz11_0
    try clear hfz11_1
    try clear hfz12_0
    try clear hfz12_1
    try clear hfz13_0
    try clear hfz13_1
    try clear hfz14_0
    try clear hfz14_1
    try clear hx373_0
    try clear hx374_0
    try clear p373
    try clear p374
    try clear q373
    try clear q374
    obtain ⟨kq, x37_3, rfl, HA, HJ3, BK372, HB⟩ := hcut
    cases kq with
    | zero => exact absurd HA.out (by simp [cantingref07_Tree.j0])
    | succ kj3 =>
      have H := HA.out
      clear HA
      simp only [cantingref07_Tree.j0] at H
      by_cases c15 : x37_3 = true
      · subst c15
        have H1 : (some false) = some r := by rw [if_pos rfl] at H; exact H
        clear H
        have H := H1
        clear H1
        obtain rfl := Option.some.inj H
        go_wp2
        go_ret
        exact ⟨by first | rfl | (simp [errW_none, errW_some] <;> rfl) | (simp [*, errW_none, errW_some] <;> rfl), by repeat (first | (with_reducible first | exact HB.out | apply below_alloc | apply pw_below_drewN | apply below_drew1 | refine below_set ?_ GE372.out) | exact HB.out)⟩
      · replace c15 := Bool.eq_false_iff.mpr c15
        subst c15
        have H1 : (cantingref07_Tree.l0 kj3 l1 l2 1 a0_0 l0_1) = some r := by rw [if_neg (show ¬ (false = true) by decide)] at H; exact H
        clear H
        have H := H1
        clear H1
        have H' := Aside0.mk H
        clear H
        go_wp2
        go_loopg [7] kj3 (fun kq v7 w' => ∃ (x7_2 : Int), v7 = .int .i64 x7_2 ∧ Aside0 (cantingref07_Tree.l0 kq l1 l2 x7_2 a0_0 l0_1 = some r) ∧ Aside0 (kq ≤ kj3) ∧ Aside0 (w'.heap[gb372]? = some (.cells #[.int .i64 a0_0, (.slice A0_1 l0_1.length c0_1)] 24 (0, 0))) ∧ Aside0 (Below w.heap.size w w'))
        case atStart => exact ⟨(1), (by first | rfl | (simp; done) | (simp [*]; done)), H', ⟨Nat.le_refl _⟩, ⟨by (with_reducible repeat (first | refine blk_drewN ?_ _ | refine blk_drew ?_ | refine blk_alloc ?_ _)); exact BK372.out⟩, ⟨by repeat (first | (with_reducible first | exact HB.out | apply below_alloc | apply pw_below_drewN | apply below_drew1 | refine below_set ?_ GE372.out) | exact HB.out)⟩⟩
        case round =>
          clear H'
          try clear c1
          try clear c2
          try clear p2
          try clear p3
          try clear q3
          try clear hx3
          try clear qi3
          try clear c6
          try clear c6b0
          try clear c6b1
          try clear c7
          try clear c7b0
          try clear c7b1
          try clear c8
          try clear c8b0
          try clear c8b1
          try clear c9
          try clear c9b0
          try clear c9b1
          try clear c10
          try clear c10b0
          try clear c10b1
          try clear c15
          try clear hcz11_0
          try clear hcz11_1
          try clear hcz12_0
          try clear hcz12_1
          try clear hcz13_0
          try clear hcz13_1
          try clear hcz14_0
          try clear hcz14_1
          try clear hfz11_0
          try clear hfz11_1
          try clear hfz12_0
          try clear hfz12_1
          try clear hfz13_0
          try clear hfz13_1
          try clear hfz14_0
          try clear hfz14_1
          try clear hx373_0
          try clear hx374_0
          try clear p2
          try clear p3
          try clear p373
          try clear p374
          try clear q3
          try clear q373
          try clear q374
          obtain ⟨x7_2, rfl, HA, HK2, BK372, HB⟩ := hrel
          cases gk with
          | zero => exact absurd HA.out (by simp [cantingref07_Tree.l0])
          | succ k2 =>
            have H := HA.out
            clear HA
            simp only [cantingref07_Tree.l0] at H
            by_cases c16 : x7_2 < a0_0
            · rw [if_pos c16] at H
              have c16b0 : decide (x7_2 < a0_0) = true := decide_eq_true c16
              clear c16
              have H' := Aside0.mk H
              clear H
              have hcz17_0 : wr.cell? ⟨gb372, 0, none⟩ = some (.int .i64 a0_0) := (blk_cell BK372.out 0).trans rfl
              have hcz17_1 : wr.cell? ⟨gb372, 1, none⟩ = some (.slice A0_1 l0_1.length c0_1) := (blk_cell BK372.out 1).trans rfl
              have hfz17_0 := blk_frozen BK372.out 0
              have hfz17_1 := blk_frozen BK372.out 1
              go_wp2
              go_loopg [8, 9] k2 (fun kq v8 v9 w' => ∃ (x8_3 : Int) (x9_3 : Int), v8 = .int .i64 x8_3 ∧ v9 = .int .i64 x9_3 ∧ Aside0 (cantingref07_Tree.l1 kq l1 l2 x7_2 x8_3 x9_3 a0_0 l0_1 = some r) ∧ Aside0 (kq ≤ k2) ∧ Aside0 (w'.heap[gb372]? = some (.cells #[.int .i64 a0_0, (.slice A0_1 l0_1.length c0_1)] 24 (0, 0))) ∧ Aside0 (Below w.heap.size w w'))
              case atStart => exact ⟨(x7_2), (0), (by first | rfl | (simp; done) | (simp [*]; done)), (by first | rfl | (simp; done) | (simp [*]; done)), H', ⟨Nat.le_refl _⟩, ⟨by (with_reducible repeat (first | refine blk_drewN ?_ _ | refine blk_drew ?_ | refine blk_alloc ?_ _)); exact BK372.out⟩, ⟨by repeat (first | (with_reducible first | exact HB.out | apply below_alloc | apply pw_below_drewN | apply below_drew1 | refine below_set ?_ GE372.out) | exact HB.out)⟩⟩
              case round =>
                clear H'
                try clear c1
                try clear c2
                try clear p2
                try clear p3
                try clear q3
                try clear hx3
                try clear qi3
                try clear c6
                try clear c6b0
                try clear c6b1
                try clear c7
                try clear c7b0
                try clear c7b1
                try clear c8
                try clear c8b0
                try clear c8b1
                try clear c9
                try clear c9b0
                try clear c9b1
                try clear c10
                try clear c10b0
                try clear c10b1
                try clear c15
                try clear c16
                try clear c16b0
                try clear hcz11_0
                try clear hcz11_1
                try clear hcz12_0
                try clear hcz12_1
                try clear hcz13_0
                try clear hcz13_1
                try clear hcz14_0
                try clear hcz14_1
                try clear hcz17_0
                try clear hcz17_1
                try clear hfz11_0
                try clear hfz11_1
                try clear hfz12_0
                try clear hfz12_1
                try clear hfz13_0
                try clear hfz13_1
                try clear hfz14_0
                try clear hfz14_1
                try clear hfz17_0
                try clear hfz17_1
                try clear hx373_0
                try clear hx374_0
                try clear p2
                try clear p3
                try clear p373
                try clear p374
                try clear q3
                try clear q373
                try clear q374
                obtain ⟨x8_3, x9_3, rfl, rfl, HA, HK3, BK372, HB⟩ := hrel
                cases gk with
                | zero => exact absurd HA.out (by simp [cantingref07_Tree.l1])
                | succ k3 =>
                  have H := HA.out
                  clear HA
                  simp only [cantingref07_Tree.l1] at H
                  by_cases c18 : x8_3 = 0
                  · rw [if_pos c18] at H
                    have c18b0 : (x8_3 == 0) = true := beq_iff_eq.mpr c18
                    have c18b1 : (x8_3 != 0) = false := bne_eq_false_iff_eq.mpr c18
                    clear c18
                    have H' := Aside0.mk H
                    clear H
                    go_wp2
                    go_roundg k3
                    case measure => have := HJ3.out; have := HK2.out; have := HK3.out; omega
                    case rel => exact ⟨(wrap64 (x7_2 + 1)), (by first | rfl | (simp; done) | (simp [*]; done)), H', ⟨by have := HJ3.out; have := HK2.out; have := HK3.out; omega⟩, ⟨by (with_reducible repeat (first | refine blk_drewN ?_ _ | refine blk_drew ?_ | refine blk_alloc ?_ _)); exact BK372.out⟩, ⟨by repeat (first | (with_reducible first | exact HB.out | apply below_alloc | apply pw_below_drewN | apply below_drew1 | refine below_set ?_ GE372.out) | exact HB.out)⟩⟩
                  · rw [if_neg c18] at H
                    have c18b0 : (x8_3 == 0) = false := beq_eq_false_iff_ne.mpr c18
                    have c18b1 : (x8_3 != 0) = true := bne_iff_ne.mpr c18
                    by_cases c19 : x9_3 > a0_0
                    · rw [if_pos c19] at H
                      have c19b0 : decide (a0_0 < x9_3) = true := decide_eq_true c19
                      clear c19
                      obtain rfl := Option.some.inj H
                      have hcz20_0 : wr.cell? ⟨gb372, 0, none⟩ = some (.int .i64 a0_0) := (blk_cell BK372.out 0).trans rfl
                      have hcz20_1 : wr.cell? ⟨gb372, 1, none⟩ = some (.slice A0_1 l0_1.length c0_1) := (blk_cell BK372.out 1).trans rfl
                      have hfz20_0 := blk_frozen BK372.out 0
                      have hfz20_1 := blk_frozen BK372.out 1
                      go_wp2
                      go_ret
                      exact ⟨by first | rfl | (simp [errW_none, errW_some] <;> rfl) | (simp [*, errW_none, errW_some] <;> rfl), by repeat (first | (with_reducible first | exact HB.out | apply below_alloc | apply pw_below_drewN | apply below_drew1 | refine below_set ?_ GE372.out) | exact HB.out)⟩
                    · rw [if_neg c19] at H
                      have c19b0 : decide (a0_0 < x9_3) = false := decide_eq_false c19
                      clear c19
                      by_cases c21 : x8_3 < 0
                      · rw [if_pos c21] at H
                        have c21b0 : decide (x8_3 < 0) = true := decide_eq_true c21
                        clear c21
                        obtain rfl := Option.some.inj H
                        have hcz22_0 : wr.cell? ⟨gb372, 0, none⟩ = some (.int .i64 a0_0) := (blk_cell BK372.out 0).trans rfl
                        have hcz22_1 : wr.cell? ⟨gb372, 1, none⟩ = some (.slice A0_1 l0_1.length c0_1) := (blk_cell BK372.out 1).trans rfl
                        have hfz22_0 := blk_frozen BK372.out 0
                        have hfz22_1 := blk_frozen BK372.out 1
                        go_wp2
                        go_ret
                        exact ⟨by first | rfl | (simp [errW_none, errW_some] <;> rfl) | (simp [*, errW_none, errW_some] <;> rfl), by repeat (first | (with_reducible first | exact HB.out | apply below_alloc | apply pw_below_drewN | apply below_drew1 | refine below_set ?_ GE372.out) | exact HB.out)⟩
                      · rw [if_neg c21] at H
                        have c21b0 : decide (x8_3 < 0) = false := decide_eq_false c21
                        clear c21
                        by_cases c23 : x8_3 ≥ a0_0
                        · rw [if_pos c23] at H
                          have c23b0 : decide (a0_0 ≤ x8_3) = true := decide_eq_true c23
                          clear c23
                          obtain rfl := Option.some.inj H
                          have hcz24_0 : wr.cell? ⟨gb372, 0, none⟩ = some (.int .i64 a0_0) := (blk_cell BK372.out 0).trans rfl
                          have hcz24_1 : wr.cell? ⟨gb372, 1, none⟩ = some (.slice A0_1 l0_1.length c0_1) := (blk_cell BK372.out 1).trans rfl
                          have hfz24_0 := blk_frozen BK372.out 0
                          have hfz24_1 := blk_frozen BK372.out 1
                          go_wp2
                          go_ret
                          exact ⟨by first | rfl | (simp [errW_none, errW_some] <;> rfl) | (simp [*, errW_none, errW_some] <;> rfl), by repeat (first | (with_reducible first | exact HB.out | apply below_alloc | apply pw_below_drewN | apply below_drew1 | refine below_set ?_ GE372.out) | exact HB.out)⟩
                        · rw [if_neg c23] at H
                          have c23b0 : decide (a0_0 ≤ x8_3) = false := decide_eq_false c23
                          clear c23
                          by_cases c25 : 0 ≤ x8_3
                          · rw [if_pos c25] at H
                            have c25b0 : decide (0 ≤ x8_3) = true := decide_eq_true c25
                            clear c25
                            by_cases c26 : x8_3 < (l1.length : Int)
                            · rw [if_pos c26] at H
                              have c26b0 : decide (x8_3 < (l1.length : Int)) = true := decide_eq_true c26
                              clear c26
                              have H' := Aside0.mk H
                              clear H
                              have hcz27_0 : wr.cell? ⟨gb372, 0, none⟩ = some (.int .i64 a0_0) := (blk_cell BK372.out 0).trans rfl
                              have hcz27_1 : wr.cell? ⟨gb372, 1, none⟩ = some (.slice A0_1 l0_1.length c0_1) := (blk_cell BK372.out 1).trans rfl
                              have hfz27_0 := blk_frozen BK372.out 0
                              have hfz27_1 := blk_frozen BK372.out 1
                              have p375 : 0 ≤ (x8_3 : Int) := of_decide_eq_true (by first | (with_reducible assumption) | assumption)
                              have q375 : x8_3 < (l1.length : Int) := of_decide_eq_true (by first | (with_reducible assumption) | assumption)
                              obtain ⟨ad375, e375, hx375_0⟩ := Kd.at_int HR1.out x8_3 p375 q375
                              cases e375
                              replace hx375_0 := (HB.out.cell (World.block_lt_of_cell? w _ hx375_0)).trans hx375_0
                              replace p375 := eq_true p375
                              replace q375 := eq_true q375
                              go_wp2
                              go_roundg k3
                              case measure => have := HJ3.out; have := HK2.out; have := HK3.out; omega
                              case rel => exact ⟨(rd l1 x8_3), (wrap64 (x9_3 + 1)), (by first | rfl | (simp; done) | (simp [*]; done)), (by first | rfl | (simp; done) | (simp [*]; done)), H', ⟨by have := HJ3.out; have := HK2.out; have := HK3.out; omega⟩, ⟨by (with_reducible repeat (first | refine blk_drewN ?_ _ | refine blk_drew ?_ | refine blk_alloc ?_ _)); exact BK372.out⟩, ⟨by repeat (first | (with_reducible first | exact HB.out | apply below_alloc | apply pw_below_drewN | apply below_drew1 | refine below_set ?_ GE372.out) | exact HB.out)⟩⟩
                            · rw [if_neg c26] at H
                              exact absurd H (by simp)
                          · rw [if_neg c25] at H
                            exact absurd H (by simp)
            · rw [if_neg c16] at H
              have c16b0 : decide (x7_2 < a0_0) = false := decide_eq_false c16
              clear c16
              have H' := Aside0.mk H
              clear H
              have hcz28_0 : wr.cell? ⟨gb372, 0, none⟩ = some (.int .i64 a0_0) := (blk_cell BK372.out 0).trans rfl
              have hcz28_1 : wr.cell? ⟨gb372, 1, none⟩ = some (.slice A0_1 l0_1.length c0_1) := (blk_cell BK372.out 1).trans rfl
              have hfz28_0 := blk_frozen BK372.out 0
              have hfz28_1 := blk_frozen BK372.out 1
              go_wp2
              go_loopg [69] k2 (fun kq v69 w' => ∃ (x69_3 : Int), v69 = .int .i64 x69_3 ∧ Aside0 (cantingref07_Tree.l2 kq l1 l2 a0_0 x69_3 a0_0 l0_1 = some r) ∧ Aside0 (kq ≤ k2) ∧ Aside0 (w'.heap[gb372]? = some (.cells #[.int .i64 a0_0, (.slice A0_1 l0_1.length c0_1)] 24 (0, 0))) ∧ Aside0 (Below w.heap.size w w'))
              case atStart => exact ⟨(0), (by first | rfl | (simp; done) | (simp [*]; done)), H', ⟨Nat.le_refl _⟩, ⟨by (with_reducible repeat (first | refine blk_drewN ?_ _ | refine blk_drew ?_ | refine blk_alloc ?_ _)); exact BK372.out⟩, ⟨by repeat (first | (with_reducible first | exact HB.out | apply below_alloc | apply pw_below_drewN | apply below_drew1 | refine below_set ?_ GE372.out) | exact HB.out)⟩⟩
              case round =>
                clear H'
                try clear c1
                try clear c2
                try clear p2
                try clear p3
                try clear q3
                try clear hx3
                try clear qi3
                try clear c6
                try clear c6b0
                try clear c6b1
                try clear p6
                try clear c7
                try clear c7b0
                try clear c7b1
                try clear c8
                try clear c8b0
                try clear c8b1
                try clear c9
                try clear c9b0
                try clear c9b1
                try clear c10
                try clear c10b0
                try clear c10b1
                try clear c15
                try clear c16
                try clear c16b0
                try clear c18
                try clear c18b0
                try clear c18b1
                try clear c19
                try clear c19b0
                try clear c21
                try clear c21b0
                try clear c23
                try clear c23b0
                try clear c25
                try clear c25b0
                try clear c26
                try clear c26b0
                try clear c28
                try clear hcz11_0
                try clear hcz11_1
                try clear hcz12_0
                try clear hcz12_1
                try clear hcz13_0
                try clear hcz13_1
                try clear hcz14_0
                try clear hcz14_1
                try clear hcz17_0
                try clear hcz17_1
                try clear hcz20_0
                try clear hcz20_1
                try clear hcz22_0
                try clear hcz22_1
                try clear hcz24_0
                try clear hcz24_1
                try clear hcz27_0
                try clear hcz27_1
                try clear hcz28_0
                try clear hcz28_1
                try clear hfz11_0
                try clear hfz11_1
                try clear hfz12_0
                try clear hfz12_1
                try clear hfz13_0
                try clear hfz13_1
                try clear hfz14_0
                try clear hfz14_1
                try clear hfz17_0
                try clear hfz17_1
                try clear hfz20_0
                try clear hfz20_1
                try clear hfz22_0
                try clear hfz22_1
                try clear hfz24_0
                try clear hfz24_1
                try clear hfz27_0
                try clear hfz27_1
                try clear hfz28_0
                try clear hfz28_1
                try clear hx373_0
                try clear hx374_0
                try clear hx375_0
                try clear p2
                try clear p3
                try clear p373
                try clear p374
                try clear p375
                try clear q3
                try clear q373
                try clear q374
                try clear q375
                obtain ⟨x69_3, rfl, HA, HK3, BK372, HB⟩ := hrel
                cases gk with
                | zero => exact absurd HA.out (by simp [cantingref07_Tree.l2])
                | succ k3 =>
                  have H := HA.out
                  clear HA
                  simp only [cantingref07_Tree.l2] at H
                  by_cases c29 : x69_3 < a0_0
                  · rw [if_pos c29] at H
                    have c29b0 : decide (x69_3 < a0_0) = true := decide_eq_true c29
                    clear c29
                    have H' := Aside0.mk H
                    clear H
                    go_wp2
                    go_loopg [73] k3 (fun kq v73 w' => ∃ (x73_4 : Int), v73 = .int .i64 x73_4 ∧ Aside0 (cantingref07_Tree.l3 kq l1 l2 x69_3 a0_0 x69_3 x69_3 x73_4 a0_0 l0_1 = some r) ∧ Aside0 (kq ≤ k3) ∧ Aside0 (w'.heap[gb372]? = some (.cells #[.int .i64 a0_0, (.slice A0_1 l0_1.length c0_1)] 24 (0, 0))) ∧ Aside0 (Below w.heap.size w w'))
                    case atStart => exact ⟨(0), (by first | rfl | (simp; done) | (simp [*]; done)), H', ⟨Nat.le_refl _⟩, ⟨by (with_reducible repeat (first | refine blk_drewN ?_ _ | refine blk_drew ?_ | refine blk_alloc ?_ _)); exact BK372.out⟩, ⟨by repeat (first | (with_reducible first | exact HB.out | apply below_alloc | apply pw_below_drewN | apply below_drew1 | refine below_set ?_ GE372.out) | exact HB.out)⟩⟩
                    case round =>
                      clear H'
                      try clear c1
                      try clear c2
                      try clear p2
                      try clear p3
                      try clear q3
                      try clear hx3
                      try clear qi3
                      try clear c6
                      try clear c6b0
                      try clear c6b1
                      try clear p6
                      try clear c7
                      try clear c7b0
                      try clear c7b1
                      try clear c8
                      try clear c8b0
                      try clear c8b1
                      try clear c9
                      try clear c9b0
                      try clear c9b1
                      try clear c10
                      try clear c10b0
                      try clear c10b1
                      try clear c15
                      try clear c16
                      try clear c16b0
                      try clear c18
                      try clear c18b0
                      try clear c18b1
                      try clear c19
                      try clear c19b0
                      try clear c21
                      try clear c21b0
                      try clear c23
                      try clear c23b0
                      try clear c25
                      try clear c25b0
                      try clear c26
                      try clear c26b0
                      try clear c28
                      try clear c29
                      try clear c29b0
                      try clear hcz11_0
                      try clear hcz11_1
                      try clear hcz12_0
                      try clear hcz12_1
                      try clear hcz13_0
                      try clear hcz13_1
                      try clear hcz14_0
                      try clear hcz14_1
                      try clear hcz17_0
                      try clear hcz17_1
                      try clear hcz20_0
                      try clear hcz20_1
                      try clear hcz22_0
                      try clear hcz22_1
                      try clear hcz24_0
                      try clear hcz24_1
                      try clear hcz27_0
                      try clear hcz27_1
                      try clear hcz28_0
                      try clear hcz28_1
                      try clear hfz11_0
                      try clear hfz11_1
                      try clear hfz12_0
                      try clear hfz12_1
                      try clear hfz13_0
                      try clear hfz13_1
                      try clear hfz14_0
                      try clear hfz14_1
                      try clear hfz17_0
                      try clear hfz17_1
                      try clear hfz20_0
                      try clear hfz20_1
                      try clear hfz22_0
                      try clear hfz22_1
                      try clear hfz24_0
                      try clear hfz24_1
                      try clear hfz27_0
                      try clear hfz27_1
                      try clear hfz28_0
                      try clear hfz28_1
                      try clear hx373_0
                      try clear hx374_0
                      try clear hx375_0
                      try clear p2
                      try clear p3
                      try clear p373
                      try clear p374
                      try clear p375
                      try clear p6
                      try clear q3
                      try clear q373
                      try clear q374
                      try clear q375
                      obtain ⟨x73_4, rfl, HA, HK4, BK372, HB⟩ := hrel
                      cases gk with
                      | zero => exact absurd HA.out (by simp [cantingref07_Tree.l3])
                      | succ k4 =>
                        have H := HA.out
                        clear HA
                        simp only [cantingref07_Tree.l3] at H
                        by_cases c30 : x73_4 < x69_3
                        · rw [if_pos c30] at H
                          have c30b0 : decide (x73_4 < x69_3) = true := decide_eq_true c30
                          clear c30
                          replace H := Option.bind_eq_some_iff.mp H
                          obtain ⟨⟨t376, t377⟩, A310, H⟩ := H
                          replace H : ((cantingref07_between.f k4 l1 l2 x69_3 x73_4).bind fun t378 => (if t376 = t378 then (cantingref07_Tree.l3 k4 l1 l2 x69_3 a0_0 x69_3 x69_3 (wrap64 (x73_4 + 1)) a0_0 l0_1) else (some false))) = some r := H
                          have A31 := Aside0.mk A310
                          clear A310
                          replace H := Option.bind_eq_some_iff.mp H
                          obtain ⟨t378, A320, H⟩ := H
                          replace H : (if t376 = t378 then (cantingref07_Tree.l3 k4 l1 l2 x69_3 a0_0 x69_3 x69_3 (wrap64 (x73_4 + 1)) a0_0 l0_1) else (some false)) = some r := H
                          have A32 := Aside0.mk A320
                          clear A320
                          by_cases c33 : t376 = t378
                          · rw [if_pos c33] at H
                            have c33b0 : (t376 == t378) = true := beq_iff_eq.mpr c33
                            have c33b1 : (t376 != t378) = false := bne_eq_false_iff_eq.mpr c33
                            clear c33
                            have H' := Aside0.mk H
                            clear H
                            have hcz34_0 : wr.cell? ⟨gb372, 0, none⟩ = some (.int .i64 a0_0) := (blk_cell BK372.out 0).trans rfl
                            have hcz34_1 : wr.cell? ⟨gb372, 1, none⟩ = some (.slice A0_1 l0_1.length c0_1) := (blk_cell BK372.out 1).trans rfl
                            have hfz34_0 := blk_frozen BK372.out 0
                            have hfz34_1 := blk_frozen BK372.out 1
                            go_wp2_with (first | ((with_reducible refine gate_callee (f := 25) rfl ?_); refine goesL_ (some 80) rfl rfl Try.func25 (by kernel_rfl) rfl #[.agg #[.int .i64 a0_0, .slice A0_1 l0_1.length c0_1], .int .i64 x69_3, .int .i64 x73_4] rfl (by (try simp only [List.map_toArray, List.map_cons, List.map_nil]); first | done | rfl | (simp only [List.length_drop, List.length_take]; rfl)) ?_; (with_reducible refine (cantingref07_Cut.calls k4 a0_0 _ _ l0_1 x69_3 x73_4 t376 t377 _ ?side1 ?side2 A31.out).mono ?_); (case side1 => repeat (first | exact (Kd.C_below HR0_1.out HB.out) | (with_reducible refine Kd.C_alloc ?_ _) | (with_reducible refine Kd.C_drewN ?_ _) | (with_reducible refine Kd.C_drew ?_))); (case side2 => exact HC0_1.out); rintro e w35 ⟨rfl, hb⟩; refine ⟨_, rfl, ?_⟩; have n0_ := Aside0.mk (blk_below (g := gb372) (o := .cells #[.int .i64 a0_0, .slice A0_1 l0_1.length c0_1] 24 (0, 0)) (by (with_reducible repeat (first | refine blk_drewN ?_ _ | refine blk_drew ?_ | refine blk_alloc ?_ _)); exact BK372.out) hb); have n1_ := Aside0.mk (below_step (by repeat (first | (with_reducible first | exact HB.out | apply below_alloc | apply pw_below_drewN | apply below_drew1 | refine below_set ?_ GE372.out) | exact HB.out)) hb); clear BK372; clear HB; have BK372 := n0_; have HB := n1_; clear n0_ n1_; (try clear hb); (try clear hb2); (try clear hk); (try clear hi)) | ((with_reducible refine gate_callee (f := 58) rfl ?_); refine goesL_ (some 88) rfl rfl Try.func58 (by kernel_rfl) rfl #[.slice A1 l1.length c1, .slice A2 l2.length c2, .int .i64 x69_3, .int .i64 x73_4] rfl (by (try simp only [List.map_toArray, List.map_cons, List.map_nil]); first | done | rfl | (simp only [List.length_drop, List.length_take]; rfl)) ?_; (with_reducible refine (cantingref07_between.calls k4 _ _ l1 _ _ l2 x69_3 x73_4 t378 _ ?side1 ?side2 ?side3 ?side4 A32.out).mono ?_); (case side1 => repeat (first | exact (Kd.C_below HR1.out HB.out) | (with_reducible refine Kd.C_alloc ?_ _) | (with_reducible refine Kd.C_drewN ?_ _) | (with_reducible refine Kd.C_drew ?_))); (case side2 => exact HC1.out); (case side3 => repeat (first | exact (Kd.C_below HR2.out HB.out) | (with_reducible refine Kd.C_alloc ?_ _) | (with_reducible refine Kd.C_drewN ?_ _) | (with_reducible refine Kd.C_drew ?_))); (case side4 => exact HC2.out); rintro e w36 ⟨rfl, hb⟩; refine ⟨_, rfl, ?_⟩; have n0_ := Aside0.mk (blk_below (g := gb372) (o := .cells #[.int .i64 a0_0, .slice A0_1 l0_1.length c0_1] 24 (0, 0)) (by (with_reducible repeat (first | refine blk_drewN ?_ _ | refine blk_drew ?_ | refine blk_alloc ?_ _)); exact BK372.out) hb); have n1_ := Aside0.mk (below_step (by repeat (first | (with_reducible first | exact HB.out | apply below_alloc | apply pw_below_drewN | apply below_drew1 | refine below_set ?_ GE372.out) | exact HB.out)) hb); clear BK372; clear HB; have BK372 := n0_; have HB := n1_; clear n0_ n1_; (try clear hb); (try clear hb2); (try clear hk); (try clear hi)))
                            go_roundg k4
                            case measure => have := HJ3.out; have := HK2.out; have := HK3.out; have := HK4.out; omega
                            case rel => exact ⟨(wrap64 (x73_4 + 1)), (by first | rfl | (simp; done) | (simp [*]; done)), H', ⟨by have := HJ3.out; have := HK2.out; have := HK3.out; have := HK4.out; omega⟩, ⟨by (with_reducible repeat (first | refine blk_drewN ?_ _ | refine blk_drew ?_ | refine blk_alloc ?_ _)); exact BK372.out⟩, ⟨by repeat (first | (with_reducible first | exact HB.out | apply below_alloc | apply pw_below_drewN | apply below_drew1 | refine below_set ?_ GE372.out) | exact HB.out)⟩⟩
                          · rw [if_neg c33] at H
                            have c33b0 : (t376 == t378) = false := beq_eq_false_iff_ne.mpr c33
                            have c33b1 : (t376 != t378) = true := bne_iff_ne.mpr c33
                            obtain rfl := Option.some.inj H
                            have hcz37_0 : wr.cell? ⟨gb372, 0, none⟩ = some (.int .i64 a0_0) := (blk_cell BK372.out 0).trans rfl
                            have hcz37_1 : wr.cell? ⟨gb372, 1, none⟩ = some (.slice A0_1 l0_1.length c0_1) := (blk_cell BK372.out 1).trans rfl
                            have hfz37_0 := blk_frozen BK372.out 0
                            have hfz37_1 := blk_frozen BK372.out 1
                            go_wp2_with (first | ((with_reducible refine gate_callee (f := 25) rfl ?_); refine goesL_ (some 80) rfl rfl Try.func25 (by kernel_rfl) rfl #[.agg #[.int .i64 a0_0, .slice A0_1 l0_1.length c0_1], .int .i64 x69_3, .int .i64 x73_4] rfl (by (try simp only [List.map_toArray, List.map_cons, List.map_nil]); first | done | rfl | (simp only [List.length_drop, List.length_take]; rfl)) ?_; (with_reducible refine (cantingref07_Cut.calls k4 a0_0 _ _ l0_1 x69_3 x73_4 t376 t377 _ ?side1 ?side2 A31.out).mono ?_); (case side1 => repeat (first | exact (Kd.C_below HR0_1.out HB.out) | (with_reducible refine Kd.C_alloc ?_ _) | (with_reducible refine Kd.C_drewN ?_ _) | (with_reducible refine Kd.C_drew ?_))); (case side2 => exact HC0_1.out); rintro e w38 ⟨rfl, hb⟩; refine ⟨_, rfl, ?_⟩; have n0_ := Aside0.mk (blk_below (g := gb372) (o := .cells #[.int .i64 a0_0, .slice A0_1 l0_1.length c0_1] 24 (0, 0)) (by (with_reducible repeat (first | refine blk_drewN ?_ _ | refine blk_drew ?_ | refine blk_alloc ?_ _)); exact BK372.out) hb); have n1_ := Aside0.mk (below_step (by repeat (first | (with_reducible first | exact HB.out | apply below_alloc | apply pw_below_drewN | apply below_drew1 | refine below_set ?_ GE372.out) | exact HB.out)) hb); clear BK372; clear HB; have BK372 := n0_; have HB := n1_; clear n0_ n1_; (try clear hb); (try clear hb2); (try clear hk); (try clear hi)) | ((with_reducible refine gate_callee (f := 58) rfl ?_); refine goesL_ (some 88) rfl rfl Try.func58 (by kernel_rfl) rfl #[.slice A1 l1.length c1, .slice A2 l2.length c2, .int .i64 x69_3, .int .i64 x73_4] rfl (by (try simp only [List.map_toArray, List.map_cons, List.map_nil]); first | done | rfl | (simp only [List.length_drop, List.length_take]; rfl)) ?_; (with_reducible refine (cantingref07_between.calls k4 _ _ l1 _ _ l2 x69_3 x73_4 t378 _ ?side1 ?side2 ?side3 ?side4 A32.out).mono ?_); (case side1 => repeat (first | exact (Kd.C_below HR1.out HB.out) | (with_reducible refine Kd.C_alloc ?_ _) | (with_reducible refine Kd.C_drewN ?_ _) | (with_reducible refine Kd.C_drew ?_))); (case side2 => exact HC1.out); (case side3 => repeat (first | exact (Kd.C_below HR2.out HB.out) | (with_reducible refine Kd.C_alloc ?_ _) | (with_reducible refine Kd.C_drewN ?_ _) | (with_reducible refine Kd.C_drew ?_))); (case side4 => exact HC2.out); rintro e w39 ⟨rfl, hb⟩; refine ⟨_, rfl, ?_⟩; have n0_ := Aside0.mk (blk_below (g := gb372) (o := .cells #[.int .i64 a0_0, .slice A0_1 l0_1.length c0_1] 24 (0, 0)) (by (with_reducible repeat (first | refine blk_drewN ?_ _ | refine blk_drew ?_ | refine blk_alloc ?_ _)); exact BK372.out) hb); have n1_ := Aside0.mk (below_step (by repeat (first | (with_reducible first | exact HB.out | apply below_alloc | apply pw_below_drewN | apply below_drew1 | refine below_set ?_ GE372.out) | exact HB.out)) hb); clear BK372; clear HB; have BK372 := n0_; have HB := n1_; clear n0_ n1_; (try clear hb); (try clear hb2); (try clear hk); (try clear hi)))
                            go_ret
                            exact ⟨by first | rfl | (simp [errW_none, errW_some] <;> rfl) | (simp [*, errW_none, errW_some] <;> rfl), by repeat (first | (with_reducible first | exact HB.out | apply below_alloc | apply pw_below_drewN | apply below_drew1 | refine below_set ?_ GE372.out) | exact HB.out)⟩
                        · rw [if_neg c30] at H
                          have c30b0 : decide (x73_4 < x69_3) = false := decide_eq_false c30
                          clear c30
                          have H' := Aside0.mk H
                          clear H
                          go_wp2
                          go_roundg k4
                          case measure => have := HJ3.out; have := HK2.out; have := HK3.out; have := HK4.out; omega
                          case rel => exact ⟨(wrap64 (x69_3 + 1)), (by first | rfl | (simp; done) | (simp [*]; done)), H', ⟨by have := HJ3.out; have := HK2.out; have := HK3.out; have := HK4.out; omega⟩, ⟨by (with_reducible repeat (first | refine blk_drewN ?_ _ | refine blk_drew ?_ | refine blk_alloc ?_ _)); exact BK372.out⟩, ⟨by repeat (first | (with_reducible first | exact HB.out | apply below_alloc | apply pw_below_drewN | apply below_drew1 | refine below_set ?_ GE372.out) | exact HB.out)⟩⟩
                  · rw [if_neg c29] at H
                    have c29b0 : decide (x69_3 < a0_0) = false := decide_eq_false c29
                    clear c29
                    obtain rfl := Option.some.inj H
                    go_wp2
                    go_ret
                    exact ⟨by first | rfl | (simp [errW_none, errW_some] <;> rfl) | (simp [*, errW_none, errW_some] <;> rfl), by repeat (first | (with_reducible first | exact HB.out | apply below_alloc | apply pw_below_drewN | apply below_drew1 | refine below_set ?_ GE372.out) | exact HB.out)⟩
end Go.Proofs.Ytbamanjedfccpaa.X
end

section
set_option linter.unusedVariables false
set_option linter.unusedSimpArgs false
namespace Go.Proofs.Ytbamanjedfccpaa.X
open Go.RowKit Go.Proofs.YtbamanjedfccpaaW.PrintWords Go.Proofs.YtbamanjedfccpaaW.PrintLast Go.Proofs.YtbamanjedfccpaaW.PrintMore
attribute [local go_sem] max2_int min2_int max_two min_two max_three min_three max_four min_four   -- for this text's walks alone
set_option linter.unusedVariables false
set_option linter.unusedSimpArgs false
def cantinglaw07_WaxTrees.j0 : Nat → List Int → List Int → Int → Bool → Int → List (S34) → Option (Bool)
  | 0, _, _, _, _, _, _ => none
  | k + 1, x11, x12, x13, x47, x380000, x380001 => if x47 = true then (some false) else ((cantingref07_Web.f k x380000 x380001).bind fun t400 => (if t400 = true then (if x13 = 0 then ((cantingref07_Tree.f k x380000 x380001 x11 x12).bind fun t401 => (some t401)) else (some false)) else (if (wrap64 ((x11.length : Int) + (x12.length : Int))) = 0 then (some (x13 == 2)) else (some false))))
def cantinglaw07_WaxTrees.f (k : Nat) (a0_0 : Int) (l0_1 : List (S34)) (a1 : Int) (a2 : Int) : Option (Bool) := (cantinglaw07_net.f k a0_0 l0_1).bind fun bt380 => ((wax_Cut.f bt380.1 bt380.2 a1 a2).bind fun bt384 => ((cantingref07_Cut.f k a0_0 l0_1 a1 a2).bind fun bt386 => ((cantinglaw07_net.f k a0_0 l0_1).bind fun bt388 => ((wax_Tree.f bt388.1 bt388.2).bind fun bt392 => (if bt384.1 = bt386.1 then (if bt384.2 = bt386.2 then ((cantinglaw07_awake.f).bind fun t399 => (cantinglaw07_WaxTrees.j0 k bt392.1 bt392.2.1 bt392.2.2 (!t399) a0_0 l0_1)) else (cantinglaw07_WaxTrees.j0 k bt392.1 bt392.2.1 bt392.2.2 true a0_0 l0_1)) else (cantinglaw07_WaxTrees.j0 k bt392.1 bt392.2.1 bt392.2.2 true a0_0 l0_1))))))
set_option maxHeartbeats 8000000 in
set_option maxRecDepth 100000 in
theorem cantinglaw07_WaxTrees.calls (k : Nat) (a0_0 : Int) (A0_1 : Option Addr) (c0_1 : Nat) (l0_1 : List (S34)) (a1 : Int) (a2 : Int) (r : Bool) (w : World) (hr0_1 : Kd.C k34 w A0_1 l0_1.length l0_1) (hc0_1 : l0_1.length ≤ c0_1) (h : cantinglaw07_WaxTrees.f k a0_0 l0_1 a1 a2 = some r) :
    Calls Try.prog 7 #[.agg #[.int .i64 a0_0, .slice A0_1 l0_1.length c0_1], .int .i64 a1, .int .i64 a2] w fun e w' => e = .returned (.bool r) ∧ Below w.heap.size w w' := by
  have hu24 := Try.underlying24
  have HR0_1 := Aside0.mk hr0_1
  have HC0_1 := Aside0.mk hc0_1
  clear hr0_1 hc0_1
  have HB := Aside0.mk (Below.refl w.heap.size w)
  have H : ((cantinglaw07_net.f k a0_0 l0_1).bind fun bt380 => ((wax_Cut.f bt380.1 bt380.2 a1 a2).bind fun bt384 => ((cantingref07_Cut.f k a0_0 l0_1 a1 a2).bind fun bt386 => ((cantinglaw07_net.f k a0_0 l0_1).bind fun bt388 => ((wax_Tree.f bt388.1 bt388.2).bind fun bt392 => (if bt384.1 = bt386.1 then (if bt384.2 = bt386.2 then ((cantinglaw07_awake.f).bind fun t399 => (cantinglaw07_WaxTrees.j0 k bt392.1 bt392.2.1 bt392.2.2 (!t399) a0_0 l0_1)) else (cantinglaw07_WaxTrees.j0 k bt392.1 bt392.2.1 bt392.2.2 true a0_0 l0_1)) else (cantinglaw07_WaxTrees.j0 k bt392.1 bt392.2.1 bt392.2.2 true a0_0 l0_1))))))) = some r := h
  clear h
  replace H := Option.bind_eq_some_iff.mp H
  obtain ⟨⟨t380, t381⟩, A40, H⟩ := H
  replace H : ((wax_Cut.f t380 t381 a1 a2).bind fun bt384 => ((cantingref07_Cut.f k a0_0 l0_1 a1 a2).bind fun bt386 => ((cantinglaw07_net.f k a0_0 l0_1).bind fun bt388 => ((wax_Tree.f bt388.1 bt388.2).bind fun bt392 => (if bt384.1 = bt386.1 then (if bt384.2 = bt386.2 then ((cantinglaw07_awake.f).bind fun t399 => (cantinglaw07_WaxTrees.j0 k bt392.1 bt392.2.1 bt392.2.2 (!t399) a0_0 l0_1)) else (cantinglaw07_WaxTrees.j0 k bt392.1 bt392.2.1 bt392.2.2 true a0_0 l0_1)) else (cantinglaw07_WaxTrees.j0 k bt392.1 bt392.2.1 bt392.2.2 true a0_0 l0_1)))))) = some r := H
  have A4 := Aside0.mk A40
  clear A40
  replace H := Option.bind_eq_some_iff.mp H
  obtain ⟨⟨t384, t385⟩, A50, H⟩ := H
  replace H : ((cantingref07_Cut.f k a0_0 l0_1 a1 a2).bind fun bt386 => ((cantinglaw07_net.f k a0_0 l0_1).bind fun bt388 => ((wax_Tree.f bt388.1 bt388.2).bind fun bt392 => (if t384 = bt386.1 then (if t385 = bt386.2 then ((cantinglaw07_awake.f).bind fun t399 => (cantinglaw07_WaxTrees.j0 k bt392.1 bt392.2.1 bt392.2.2 (!t399) a0_0 l0_1)) else (cantinglaw07_WaxTrees.j0 k bt392.1 bt392.2.1 bt392.2.2 true a0_0 l0_1)) else (cantinglaw07_WaxTrees.j0 k bt392.1 bt392.2.1 bt392.2.2 true a0_0 l0_1))))) = some r := H
  have A5 := Aside0.mk A50
  clear A50
  replace H := Option.bind_eq_some_iff.mp H
  obtain ⟨⟨t386, t387⟩, A60, H⟩ := H
  replace H : ((cantinglaw07_net.f k a0_0 l0_1).bind fun bt388 => ((wax_Tree.f bt388.1 bt388.2).bind fun bt392 => (if t384 = t386 then (if t385 = t387 then ((cantinglaw07_awake.f).bind fun t399 => (cantinglaw07_WaxTrees.j0 k bt392.1 bt392.2.1 bt392.2.2 (!t399) a0_0 l0_1)) else (cantinglaw07_WaxTrees.j0 k bt392.1 bt392.2.1 bt392.2.2 true a0_0 l0_1)) else (cantinglaw07_WaxTrees.j0 k bt392.1 bt392.2.1 bt392.2.2 true a0_0 l0_1)))) = some r := H
  have A6 := Aside0.mk A60
  clear A60
  replace H := Option.bind_eq_some_iff.mp H
  obtain ⟨⟨t388, t389⟩, A70, H⟩ := H
  replace H : ((wax_Tree.f t388 t389).bind fun bt392 => (if t384 = t386 then (if t385 = t387 then ((cantinglaw07_awake.f).bind fun t399 => (cantinglaw07_WaxTrees.j0 k bt392.1 bt392.2.1 bt392.2.2 (!t399) a0_0 l0_1)) else (cantinglaw07_WaxTrees.j0 k bt392.1 bt392.2.1 bt392.2.2 true a0_0 l0_1)) else (cantinglaw07_WaxTrees.j0 k bt392.1 bt392.2.1 bt392.2.2 true a0_0 l0_1))) = some r := H
  have A7 := Aside0.mk A70
  clear A70
  replace H := Option.bind_eq_some_iff.mp H
  obtain ⟨⟨t392, t395, t398⟩, A80, H⟩ := H
  replace H : (if t384 = t386 then (if t385 = t387 then ((cantinglaw07_awake.f).bind fun t399 => (cantinglaw07_WaxTrees.j0 k t392 t395 t398 (!t399) a0_0 l0_1)) else (cantinglaw07_WaxTrees.j0 k t392 t395 t398 true a0_0 l0_1)) else (cantinglaw07_WaxTrees.j0 k t392 t395 t398 true a0_0 l0_1)) = some r := H
  have A8 := Aside0.mk A80
  clear A80
  have HC9 := Aside0.mk H
  clear H
  go_enter Try.func7, Try.ntmps7
  go_upto_region 4 with (first | ((with_reducible refine gate_dst (N := 3) rfl ?_); refine box_event ?hg (N := 3) ?hd (cs := #[.int .i64 a0_0, .slice A0_1 l0_1.length c0_1]) (t := 24) ?hr ?_; (case hd => rfl); (case hg => rfl); (case hr => first | (go_simp; done) | (go_simp; rfl)); intro gb379 hg w10 hbox hb; have n0_ := Aside0.mk (below_step (by repeat (first | (with_reducible first | exact HB.out | apply below_alloc | apply pw_below_drewN | apply below_drew1) | exact HB.out)) hb); have n1_ := Aside0.mk (hbox); have n2_ := Aside0.mk ((by rw [hg]; exact (below_size (by repeat (first | (with_reducible first | exact HB.out | apply below_alloc | apply pw_below_drewN | apply below_drew1) | exact HB.out))) : w.heap.size ≤ gb379)); have n3_ := Aside0.mk ((by rw [hg]; exact (below_size (by repeat (first | (with_reducible first | exact HB.out | apply below_alloc | apply pw_below_drewN | apply below_drew1) | exact HB.out))) : w.heap.size ≤ gb379)); clear HB; have HB := n0_; have BK379 := n1_; have GW379 := n2_; have GE379 := n3_; clear n0_ n1_ n2_ n3_; clear hb hbox hg; have hcz11_0 : w10.cell? ⟨gb379, 0, none⟩ = some (.int .i64 a0_0) := (blk_cell BK379.out 0).trans rfl; have hcz11_1 : w10.cell? ⟨gb379, 1, none⟩ = some (.slice A0_1 l0_1.length c0_1) := (blk_cell BK379.out 1).trans rfl; have hfz11_0 := blk_frozen BK379.out 0; have hfz11_1 := blk_frozen BK379.out 1) | ((with_reducible refine gate_callee (f := 17) rfl ?_); refine goesL_ (some 16) rfl rfl Try.func17 (by kernel_rfl) rfl #[.agg #[.int .i64 a0_0, .slice A0_1 l0_1.length c0_1]] rfl (by (try simp only [List.map_toArray, List.map_cons, List.map_nil]); first | done | rfl | (simp only [List.length_drop, List.length_take]; rfl)) ?_; (with_reducible refine (cantinglaw07_net.calls k a0_0 _ _ l0_1 t380 t381 _ ?side1 ?side2 A4.out).mono ?_); (case side1 => repeat (first | exact (Kd.C_below HR0_1.out HB.out) | (with_reducible refine Kd.C_alloc ?_ _) | (with_reducible refine Kd.C_drewN ?_ _) | (with_reducible refine Kd.C_drew ?_))); (case side2 => exact HC0_1.out); rintro e w12 ⟨v382, rfl, ho0, hb⟩; refine ⟨_, rfl, ?_⟩; have n0_ := Aside0.mk (Kd.R_lower ho0 (below_size (by repeat (first | (with_reducible first | exact HB.out | apply below_alloc | apply pw_below_drewN | apply below_drew1 | refine below_set ?_ GE379.out) | exact HB.out)))); have n1_ := Aside0.mk (blk_below (g := gb379) (o := .cells #[.int .i64 a0_0, .slice A0_1 l0_1.length c0_1] 24 (0, 0)) (by (with_reducible repeat (first | refine blk_drewN ?_ _ | refine blk_drew ?_ | refine blk_alloc ?_ _)); exact BK379.out) hb); have n2_ := Aside0.mk (below_step (by repeat (first | (with_reducible first | exact HB.out | apply below_alloc | apply pw_below_drewN | apply below_drew1 | refine below_set ?_ GE379.out) | exact HB.out)) hb); clear BK379; clear HB; have HO383 := n0_; have BK379 := n1_; have HB := n2_; clear n0_ n1_ n2_; (try clear hb); (try clear hb2); (try clear hk); (try clear hi); (try clear ho0); obtain ⟨Ao13, co13, eo13⟩ := Kd.R_slice HO383.out; subst eo13) | ((with_reducible refine gate_callee (f := 16) rfl ?_); refine goesL_ (some 19) rfl rfl Try.func16 (by kernel_rfl) rfl #[.agg #[.int .i64 t380, .slice Ao13 t381.length co13], .int .i64 a1, .int .i64 a2] rfl (by (try simp only [List.map_toArray, List.map_cons, List.map_nil]); first | done | rfl | (simp only [List.length_drop, List.length_take]; rfl)) ?_; (with_reducible refine (wax_Cut.calls t380 _ _ t381 a1 a2 t384 t385 _ ?side1 ?side2 A5.out).mono ?_); (case side1 => repeat (first | exact (Kd.R_reads' HO383.out).2.2 | (with_reducible refine Kd.C_alloc ?_ _) | (with_reducible refine Kd.C_drewN ?_ _) | (with_reducible refine Kd.C_drew ?_))); (case side2 => exact (Kd.R_reads' HO383.out).2.1); rintro e w14 ⟨rfl, hb⟩; refine ⟨_, rfl, ?_⟩; have n0_ := Aside0.mk (Kd.R_below (by (with_reducible repeat (first | apply Kd.R_alloc | apply Kd.R_drewN | apply Kd.R_drew)); exact HO383.out) hb); have n1_ := Aside0.mk (blk_below (g := gb379) (o := .cells #[.int .i64 a0_0, .slice A0_1 l0_1.length c0_1] 24 (0, 0)) (by (with_reducible repeat (first | refine blk_drewN ?_ _ | refine blk_drew ?_ | refine blk_alloc ?_ _)); exact BK379.out) hb); have n2_ := Aside0.mk (below_step (by repeat (first | (with_reducible first | exact HB.out | apply below_alloc | apply pw_below_drewN | apply below_drew1 | refine below_set ?_ GE379.out) | exact HB.out)) hb); clear HO383; clear BK379; clear HB; have HO383 := n0_; have BK379 := n1_; have HB := n2_; clear n0_ n1_ n2_; (try clear hb); (try clear hb2); (try clear hk); (try clear hi); have hcz15_0 : w14.cell? ⟨gb379, 0, none⟩ = some (.int .i64 a0_0) := (blk_cell BK379.out 0).trans rfl; have hcz15_1 : w14.cell? ⟨gb379, 1, none⟩ = some (.slice A0_1 l0_1.length c0_1) := (blk_cell BK379.out 1).trans rfl; have hfz15_0 := blk_frozen BK379.out 0; have hfz15_1 := blk_frozen BK379.out 1) | ((with_reducible refine gate_callee (f := 25) rfl ?_); refine goesL_ (some 26) rfl rfl Try.func25 (by kernel_rfl) rfl #[.agg #[.int .i64 a0_0, .slice A0_1 l0_1.length c0_1], .int .i64 a1, .int .i64 a2] rfl (by (try simp only [List.map_toArray, List.map_cons, List.map_nil]); first | done | rfl | (simp only [List.length_drop, List.length_take]; rfl)) ?_; (with_reducible refine (cantingref07_Cut.calls k a0_0 _ _ l0_1 a1 a2 t386 t387 _ ?side1 ?side2 A6.out).mono ?_); (case side1 => repeat (first | exact (Kd.C_below HR0_1.out HB.out) | (with_reducible refine Kd.C_alloc ?_ _) | (with_reducible refine Kd.C_drewN ?_ _) | (with_reducible refine Kd.C_drew ?_))); (case side2 => exact HC0_1.out); rintro e w16 ⟨rfl, hb⟩; refine ⟨_, rfl, ?_⟩; have n0_ := Aside0.mk (Kd.R_below (by (with_reducible repeat (first | apply Kd.R_alloc | apply Kd.R_drewN | apply Kd.R_drew)); exact HO383.out) hb); have n1_ := Aside0.mk (blk_below (g := gb379) (o := .cells #[.int .i64 a0_0, .slice A0_1 l0_1.length c0_1] 24 (0, 0)) (by (with_reducible repeat (first | refine blk_drewN ?_ _ | refine blk_drew ?_ | refine blk_alloc ?_ _)); exact BK379.out) hb); have n2_ := Aside0.mk (below_step (by repeat (first | (with_reducible first | exact HB.out | apply below_alloc | apply pw_below_drewN | apply below_drew1 | refine below_set ?_ GE379.out) | exact HB.out)) hb); clear HO383; clear BK379; clear HB; have HO383 := n0_; have BK379 := n1_; have HB := n2_; clear n0_ n1_ n2_; (try clear hb); (try clear hb2); (try clear hk); (try clear hi); have hcz17_0 : w16.cell? ⟨gb379, 0, none⟩ = some (.int .i64 a0_0) := (blk_cell BK379.out 0).trans rfl; have hcz17_1 : w16.cell? ⟨gb379, 1, none⟩ = some (.slice A0_1 l0_1.length c0_1) := (blk_cell BK379.out 1).trans rfl; have hfz17_0 := blk_frozen BK379.out 0; have hfz17_1 := blk_frozen BK379.out 1) | ((with_reducible refine gate_callee (f := 17) rfl ?_); refine goesL_ (some 31) rfl rfl Try.func17 (by kernel_rfl) rfl #[.agg #[.int .i64 a0_0, .slice A0_1 l0_1.length c0_1]] rfl (by (try simp only [List.map_toArray, List.map_cons, List.map_nil]); first | done | rfl | (simp only [List.length_drop, List.length_take]; rfl)) ?_; (with_reducible refine (cantinglaw07_net.calls k a0_0 _ _ l0_1 t388 t389 _ ?side1 ?side2 A7.out).mono ?_); (case side1 => repeat (first | exact (Kd.C_below HR0_1.out HB.out) | (with_reducible refine Kd.C_alloc ?_ _) | (with_reducible refine Kd.C_drewN ?_ _) | (with_reducible refine Kd.C_drew ?_))); (case side2 => exact HC0_1.out); rintro e w18 ⟨v390, rfl, ho0, hb⟩; refine ⟨_, rfl, ?_⟩; have n0_ := Aside0.mk (Kd.R_elder' (by (with_reducible repeat (first | apply Kd.R_alloc | apply Kd.R_drewN | apply Kd.R_drew)); exact HO383.out) (Kd.R_base ho0) hb); have n1_ := Aside0.mk (Kd.R_lower (Kd.R_new' ho0 (Kd.R_lt (by (with_reducible repeat (first | apply Kd.R_alloc | apply Kd.R_drewN | apply Kd.R_drew)); exact HO383.out))) (below_size (by repeat (first | (with_reducible first | exact HB.out | apply below_alloc | apply pw_below_drewN | apply below_drew1 | refine below_set ?_ GE379.out) | exact HB.out)))); have n2_ := Aside0.mk (blk_below (g := gb379) (o := .cells #[.int .i64 a0_0, .slice A0_1 l0_1.length c0_1] 24 (0, 0)) (by (with_reducible repeat (first | refine blk_drewN ?_ _ | refine blk_drew ?_ | refine blk_alloc ?_ _)); exact BK379.out) hb); have n3_ := Aside0.mk (below_step (by repeat (first | (with_reducible first | exact HB.out | apply below_alloc | apply pw_below_drewN | apply below_drew1 | refine below_set ?_ GE379.out) | exact HB.out)) hb); clear HO383; clear BK379; clear HB; have HO383 := n0_; have HO391 := n1_; have BK379 := n2_; have HB := n3_; clear n0_ n1_ n2_ n3_; (try clear hb); (try clear hb2); (try clear hk); (try clear hi); (try clear ho0); obtain ⟨Ao19, co19, eo19⟩ := Kd.R_slice HO391.out; subst eo19) | ((with_reducible refine gate_callee (f := 26) rfl ?_); refine goesL_ (some 32) rfl rfl Try.func26 (by kernel_rfl) rfl #[.agg #[.int .i64 t388, .slice Ao19 t389.length co19]] rfl (by (try simp only [List.map_toArray, List.map_cons, List.map_nil]); first | done | rfl | (simp only [List.length_drop, List.length_take]; rfl)) ?_; (with_reducible refine (wax_Tree.calls t388 _ _ t389 t392 t395 t398 _ ?side1 ?side2 A8.out).mono ?_); (case side1 => repeat (first | exact (Kd.R_reads' HO391.out).2.2 | (with_reducible refine Kd.C_alloc ?_ _) | (with_reducible refine Kd.C_drewN ?_ _) | (with_reducible refine Kd.C_drew ?_))); (case side2 => exact (Kd.R_reads' HO391.out).2.1); rintro e w20 ⟨v393, v396, rfl, ho0, ho1, hb⟩; refine ⟨_, rfl, ?_⟩; have n0_ := Aside0.mk (Kd.R_below (by (with_reducible repeat (first | apply Kd.R_alloc | apply Kd.R_drewN | apply Kd.R_drew)); exact HO383.out) hb); have n1_ := Aside0.mk (Kd.R_below (by (with_reducible repeat (first | apply Kd.R_alloc | apply Kd.R_drewN | apply Kd.R_drew)); exact HO391.out) hb); have n2_ := Aside0.mk (Kd.R_lower ho0 (below_size (by repeat (first | (with_reducible first | exact HB.out | apply below_alloc | apply pw_below_drewN | apply below_drew1 | refine below_set ?_ GE379.out) | exact HB.out)))); have n3_ := Aside0.mk (Kd.R_lower ho1 (below_size (by repeat (first | (with_reducible first | exact HB.out | apply below_alloc | apply pw_below_drewN | apply below_drew1 | refine below_set ?_ GE379.out) | exact HB.out)))); have n4_ := Aside0.mk (blk_below (g := gb379) (o := .cells #[.int .i64 a0_0, .slice A0_1 l0_1.length c0_1] 24 (0, 0)) (by (with_reducible repeat (first | refine blk_drewN ?_ _ | refine blk_drew ?_ | refine blk_alloc ?_ _)); exact BK379.out) hb); have n5_ := Aside0.mk (below_step (by repeat (first | (with_reducible first | exact HB.out | apply below_alloc | apply pw_below_drewN | apply below_drew1 | refine below_set ?_ GE379.out) | exact HB.out)) hb); clear HO383; clear HO391; clear BK379; clear HB; have HO383 := n0_; have HO391 := n1_; have HO394 := n2_; have HO397 := n3_; have BK379 := n4_; have HB := n5_; clear n0_ n1_ n2_ n3_ n4_ n5_; (try clear hb); (try clear hb2); (try clear hk); (try clear hi); (try clear ho0); (try clear ho1)))
  (try simp only [Act.put, List.setIfInBounds_toArray, List.set_cons_zero, List.set_cons_succ])
  go_cut [47] (fun v47 wc => ∃ (kq : Nat) (x47_8 : Bool), v47 = .bool x47_8 ∧ Aside0 (cantinglaw07_WaxTrees.j0 kq t392 t395 t398 x47_8 a0_0 l0_1 = some r) ∧ Aside0 (kq ≤ k) ∧ Aside0 (Kd.R (Kd.int .i64) 3 wc w.heap.size (fun k_ => some k_ ≠ (v396 : Value).ownBlock) v393 t392) ∧ Aside0 (Kd.R (Kd.int .i64) 3 wc w.heap.size (fun k_ => some k_ ≠ (v393 : Value).ownBlock) v396 t395) ∧ Aside0 (wc.heap[gb379]? = some (.cells #[.int .i64 a0_0, (.slice A0_1 l0_1.length c0_1)] 24 (0, 0))) ∧ Aside0 (Below w.heap.size w wc))
  case first =>
    have H := HC9.out
    clear HC9
    by_cases c21 : t384 = t386
    · rw [if_pos c21] at H
      have c21b0 : (t384 == t386) = true := beq_iff_eq.mpr c21
      have c21b1 : (t384 != t386) = false := bne_eq_false_iff_eq.mpr c21
      clear c21
      (first | rw [c21b0] | (simp only [i64_w, i32_w]; rw [c21b0]) | skip)
      by_cases c22 : t385 = t387
      · rw [if_pos c22] at H
        have c22b0 : (t385 == t387) = true := beq_iff_eq.mpr c22
        have c22b1 : (t385 != t387) = false := bne_eq_false_iff_eq.mpr c22
        clear c22
        replace H := Option.bind_eq_some_iff.mp H
        obtain ⟨t399, A230, H⟩ := H
        replace H : (cantinglaw07_WaxTrees.j0 k t392 t395 t398 (!t399) a0_0 l0_1) = some r := H
        have A23 := Aside0.mk A230
        clear A230
        have H' := Aside0.mk H
        clear H
        go_wp2_with (first | (go_at_call 18; (with_reducible refine (cantinglaw07_awake.calls  t399 _ A23.out).mono ?_); rintro e w24 ⟨rfl, hb⟩; have n0_ := Aside0.mk (Kd.R_below (by (with_reducible repeat (first | apply Kd.R_alloc | apply Kd.R_drewN | apply Kd.R_drew)); exact HO383.out) hb); have n1_ := Aside0.mk (Kd.R_below (by (with_reducible repeat (first | apply Kd.R_alloc | apply Kd.R_drewN | apply Kd.R_drew)); exact HO391.out) hb); have n2_ := Aside0.mk (Kd.R_below (by (with_reducible repeat (first | apply Kd.R_alloc | apply Kd.R_drewN | apply Kd.R_drew)); exact HO394.out) hb); have n3_ := Aside0.mk (Kd.R_below (by (with_reducible repeat (first | apply Kd.R_alloc | apply Kd.R_drewN | apply Kd.R_drew)); exact HO397.out) hb); have n4_ := Aside0.mk (blk_below (g := gb379) (o := .cells #[.int .i64 a0_0, .slice A0_1 l0_1.length c0_1] 24 (0, 0)) (by (with_reducible repeat (first | refine blk_drewN ?_ _ | refine blk_drew ?_ | refine blk_alloc ?_ _)); exact BK379.out) hb); have n5_ := Aside0.mk (below_step (by repeat (first | (with_reducible first | exact HB.out | apply below_alloc | apply pw_below_drewN | apply below_drew1 | refine below_set ?_ GE379.out) | exact HB.out)) hb); clear HO383; clear HO391; clear HO394; clear HO397; clear BK379; clear HB; have HO383 := n0_; have HO391 := n1_; have HO394 := n2_; have HO397 := n3_; have BK379 := n4_; have HB := n5_; clear n0_ n1_ n2_ n3_ n4_ n5_; (try clear hb); (try clear hb2); (try clear hk); (try clear hi)))
        go_meet
        case rel => exact ⟨_, (!t399), (by first | rfl | (simp; done) | (simp [*]; done)), H', ⟨by first | omega | exact Nat.le_refl _⟩, ⟨by (with_reducible repeat (first | apply Kd.R_alloc | apply Kd.R_drewN | apply Kd.R_drew)); exact HO394.out⟩, ⟨by (with_reducible repeat (first | apply Kd.R_alloc | apply Kd.R_drewN | apply Kd.R_drew)); exact HO397.out⟩, ⟨by (with_reducible repeat (first | refine blk_drewN ?_ _ | refine blk_drew ?_ | refine blk_alloc ?_ _)); exact BK379.out⟩, ⟨by repeat (first | (with_reducible first | exact HB.out | apply below_alloc | apply pw_below_drewN | apply below_drew1 | refine below_set ?_ GE379.out) | exact HB.out)⟩⟩
      · rw [if_neg c22] at H
        have c22b0 : (t385 == t387) = false := beq_eq_false_iff_ne.mpr c22
        have c22b1 : (t385 != t387) = true := bne_iff_ne.mpr c22
        have H' := Aside0.mk H
        clear H
        go_wp2
        go_meet
        case rel => exact ⟨_, (true), (by first | rfl | (simp; done) | (simp [*]; done)), H', ⟨by first | omega | exact Nat.le_refl _⟩, ⟨by (with_reducible repeat (first | apply Kd.R_alloc | apply Kd.R_drewN | apply Kd.R_drew)); exact HO394.out⟩, ⟨by (with_reducible repeat (first | apply Kd.R_alloc | apply Kd.R_drewN | apply Kd.R_drew)); exact HO397.out⟩, ⟨by (with_reducible repeat (first | refine blk_drewN ?_ _ | refine blk_drew ?_ | refine blk_alloc ?_ _)); exact BK379.out⟩, ⟨by repeat (first | (with_reducible first | exact HB.out | apply below_alloc | apply pw_below_drewN | apply below_drew1 | refine below_set ?_ GE379.out) | exact HB.out)⟩⟩
    · rw [if_neg c21] at H
      have c21b0 : (t384 == t386) = false := beq_eq_false_iff_ne.mpr c21
      have c21b1 : (t384 != t386) = true := bne_iff_ne.mpr c21
      (first | rw [c21b0] | (simp only [i64_w, i32_w]; rw [c21b0]) | skip)
      have H' := Aside0.mk H
      clear H
      go_wp2
      go_meet
      case rel => exact ⟨_, (true), (by first | rfl | (simp; done) | (simp [*]; done)), H', ⟨by first | omega | exact Nat.le_refl _⟩, ⟨by (with_reducible repeat (first | apply Kd.R_alloc | apply Kd.R_drewN | apply Kd.R_drew)); exact HO394.out⟩, ⟨by (with_reducible repeat (first | apply Kd.R_alloc | apply Kd.R_drewN | apply Kd.R_drew)); exact HO397.out⟩, ⟨by (with_reducible repeat (first | refine blk_drewN ?_ _ | refine blk_drew ?_ | refine blk_alloc ?_ _)); exact BK379.out⟩, ⟨by repeat (first | (with_reducible first | exact HB.out | apply below_alloc | apply pw_below_drewN | apply below_drew1 | refine below_set ?_ GE379.out) | exact HB.out)⟩⟩
  case rest =>
    clear HC9
    try clear c1
    try clear c2
    try clear p2
    try clear c7
    try clear c16
    try clear c17
    try clear c21
    try clear c21b0
    try clear c21b1
    try clear c22
    try clear c22b0
    try clear c22b1
    try clear hcz11_0
    try clear hcz11_1
    try clear hcz15_0
    try clear hcz15_1
    try clear hcz17_0
    try clear hcz17_1
    try clear hfz11_0
    try clear hfz11_1
    try clear hfz15_0
    try clear hfz15_1
    try clear hfz17_0
    try clear hfz17_1
    obtain ⟨kq, x47_8, rfl, HA, HJ8, HO_11, HO_12, BK379, HB⟩ := hcut
    cases kq with
    | zero => exact absurd HA.out (by simp [cantinglaw07_WaxTrees.j0])
    | succ kj8 =>
      have H := HA.out
      clear HA
      simp only [cantinglaw07_WaxTrees.j0] at H
      by_cases c25 : x47_8 = true
      · subst c25
        have H1 : (some false) = some r := by rw [if_pos rfl] at H; exact H
        clear H
        have H := H1
        clear H1
        obtain rfl := Option.some.inj H
        go_wp2
        go_ret
        exact ⟨by first | rfl | (simp [errW_none, errW_some] <;> rfl) | (simp [*, errW_none, errW_some] <;> rfl), by repeat (first | (with_reducible first | exact HB.out | apply below_alloc | apply pw_below_drewN | apply below_drew1 | refine below_set ?_ GE379.out) | exact HB.out)⟩
      · replace c25 := Bool.eq_false_iff.mpr c25
        subst c25
        have H1 : ((cantingref07_Web.f kj8 a0_0 l0_1).bind fun t400 => (if t400 = true then (if t398 = 0 then ((cantingref07_Tree.f kj8 a0_0 l0_1 t392 t395).bind fun t401 => (some t401)) else (some false)) else (if (wrap64 ((t392.length : Int) + (t395.length : Int))) = 0 then (some (t398 == 2)) else (some false)))) = some r := by rw [if_neg (show ¬ (false = true) by decide)] at H; exact H
        clear H
        have H := H1
        clear H1
        replace H := Option.bind_eq_some_iff.mp H
        obtain ⟨t400, A260, H⟩ := H
        replace H : (if t400 = true then (if t398 = 0 then ((cantingref07_Tree.f kj8 a0_0 l0_1 t392 t395).bind fun t401 => (some t401)) else (some false)) else (if (wrap64 ((t392.length : Int) + (t395.length : Int))) = 0 then (some (t398 == 2)) else (some false))) = some r := H
        have A26 := Aside0.mk A260
        clear A260
        by_cases c27 : t400 = true
        · subst c27
          have H1 : (if t398 = 0 then ((cantingref07_Tree.f kj8 a0_0 l0_1 t392 t395).bind fun t401 => (some t401)) else (some false)) = some r := by rw [if_pos rfl] at H; exact H
          clear H
          have H := H1
          clear H1
          by_cases c28 : t398 = 0
          · rw [if_pos c28] at H
            have c28b0 : (t398 == 0) = true := beq_iff_eq.mpr c28
            have c28b1 : (t398 != 0) = false := bne_eq_false_iff_eq.mpr c28
            clear c28
            replace H := Option.bind_eq_some_iff.mp H
            obtain ⟨t401, A290, H⟩ := H
            replace H : (some t401) = some r := H
            have A29 := Aside0.mk A290
            clear A290
            obtain rfl := Option.some.inj H
            have hcz30_0 : wc.cell? ⟨gb379, 0, none⟩ = some (.int .i64 a0_0) := (blk_cell BK379.out 0).trans rfl
            have hcz30_1 : wc.cell? ⟨gb379, 1, none⟩ = some (.slice A0_1 l0_1.length c0_1) := (blk_cell BK379.out 1).trans rfl
            have hfz30_0 := blk_frozen BK379.out 0
            have hfz30_1 := blk_frozen BK379.out 1
            go_wp2_with (first | ((with_reducible refine gate_callee (f := 27) rfl ?_); refine goesL_ (some 49) rfl rfl Try.func27 (by kernel_rfl) rfl #[.agg #[.int .i64 a0_0, .slice A0_1 l0_1.length c0_1]] rfl (by (try simp only [List.map_toArray, List.map_cons, List.map_nil]); first | done | rfl | (simp only [List.length_drop, List.length_take]; rfl)) ?_; (with_reducible refine (cantingref07_Web.calls kj8 a0_0 _ _ l0_1 true _ ?side1 ?side2 A26.out).mono ?_); (case side1 => repeat (first | exact (Kd.C_below HR0_1.out HB.out) | (with_reducible refine Kd.C_alloc ?_ _) | (with_reducible refine Kd.C_drewN ?_ _) | (with_reducible refine Kd.C_drew ?_))); (case side2 => exact HC0_1.out); rintro e w31 ⟨rfl, hb⟩; refine ⟨_, rfl, ?_⟩; have n0_ := Aside0.mk (Kd.R_below (by (with_reducible repeat (first | apply Kd.R_alloc | apply Kd.R_drewN | apply Kd.R_drew)); exact HO_11.out) hb); have n1_ := Aside0.mk (Kd.R_below (by (with_reducible repeat (first | apply Kd.R_alloc | apply Kd.R_drewN | apply Kd.R_drew)); exact HO_12.out) hb); have n2_ := Aside0.mk (blk_below (g := gb379) (o := .cells #[.int .i64 a0_0, .slice A0_1 l0_1.length c0_1] 24 (0, 0)) (by (with_reducible repeat (first | refine blk_drewN ?_ _ | refine blk_drew ?_ | refine blk_alloc ?_ _)); exact BK379.out) hb); have n3_ := Aside0.mk (below_step (by repeat (first | (with_reducible first | exact HB.out | apply below_alloc | apply pw_below_drewN | apply below_drew1 | refine below_set ?_ GE379.out) | exact HB.out)) hb); clear HO_11; clear HO_12; clear BK379; clear HB; have HO_11 := n0_; have HO_12 := n1_; have BK379 := n2_; have HB := n3_; clear n0_ n1_ n2_ n3_; (try clear hb); (try clear hb2); (try clear hk); (try clear hi); have hcz32_0 : w31.cell? ⟨gb379, 0, none⟩ = some (.int .i64 a0_0) := (blk_cell BK379.out 0).trans rfl; have hcz32_1 : w31.cell? ⟨gb379, 1, none⟩ = some (.slice A0_1 l0_1.length c0_1) := (blk_cell BK379.out 1).trans rfl; have hfz32_0 := blk_frozen BK379.out 0; have hfz32_1 := blk_frozen BK379.out 1; obtain ⟨Ao33, co33, eo33⟩ := Kd.R_slice HO_11.out; subst eo33; obtain ⟨Ao34, co34, eo34⟩ := Kd.R_slice HO_12.out; subst eo34) | (go_at_call 28; (with_reducible refine (cantingref07_Tree.calls kj8 a0_0 _ _ l0_1 _ _ t392 _ _ t395 t401 _ ?side1 ?side2 ?side3 ?side4 ?side5 ?side6 A29.out).mono ?_); (case side1 => repeat (first | exact (Kd.C_below HR0_1.out HB.out) | (with_reducible refine Kd.C_alloc ?_ _) | (with_reducible refine Kd.C_drewN ?_ _) | (with_reducible refine Kd.C_drew ?_))); (case side2 => exact HC0_1.out); (case side3 => repeat (first | exact (Kd.R_reads' HO_11.out).2.2 | (with_reducible refine Kd.C_alloc ?_ _) | (with_reducible refine Kd.C_drewN ?_ _) | (with_reducible refine Kd.C_drew ?_))); (case side4 => exact (Kd.R_reads' HO_11.out).2.1); (case side5 => repeat (first | exact (Kd.R_reads' HO_12.out).2.2 | (with_reducible refine Kd.C_alloc ?_ _) | (with_reducible refine Kd.C_drewN ?_ _) | (with_reducible refine Kd.C_drew ?_))); (case side6 => exact (Kd.R_reads' HO_12.out).2.1); rintro e w35 ⟨rfl, hb⟩; have n0_ := Aside0.mk (Kd.R_below (by (with_reducible repeat (first | apply Kd.R_alloc | apply Kd.R_drewN | apply Kd.R_drew)); exact HO_11.out) hb); have n1_ := Aside0.mk (Kd.R_below (by (with_reducible repeat (first | apply Kd.R_alloc | apply Kd.R_drewN | apply Kd.R_drew)); exact HO_12.out) hb); have n2_ := Aside0.mk (blk_below (g := gb379) (o := .cells #[.int .i64 a0_0, .slice A0_1 l0_1.length c0_1] 24 (0, 0)) (by (with_reducible repeat (first | refine blk_drewN ?_ _ | refine blk_drew ?_ | refine blk_alloc ?_ _)); exact BK379.out) hb); have n3_ := Aside0.mk (below_step (by repeat (first | (with_reducible first | exact HB.out | apply below_alloc | apply pw_below_drewN | apply below_drew1 | refine below_set ?_ GE379.out) | exact HB.out)) hb); clear HO_11; clear HO_12; clear BK379; clear HB; have HO_11 := n0_; have HO_12 := n1_; have BK379 := n2_; have HB := n3_; clear n0_ n1_ n2_ n3_; (try clear hb); (try clear hb2); (try clear hk); (try clear hi)))
            go_ret
            exact ⟨by first | rfl | (simp [errW_none, errW_some] <;> rfl) | (simp [*, errW_none, errW_some] <;> rfl), by repeat (first | (with_reducible first | exact HB.out | apply below_alloc | apply pw_below_drewN | apply below_drew1 | refine below_set ?_ GE379.out) | exact HB.out)⟩
          · rw [if_neg c28] at H
            have c28b0 : (t398 == 0) = false := beq_eq_false_iff_ne.mpr c28
            have c28b1 : (t398 != 0) = true := bne_iff_ne.mpr c28
            obtain rfl := Option.some.inj H
            have hcz36_0 : wc.cell? ⟨gb379, 0, none⟩ = some (.int .i64 a0_0) := (blk_cell BK379.out 0).trans rfl
            have hcz36_1 : wc.cell? ⟨gb379, 1, none⟩ = some (.slice A0_1 l0_1.length c0_1) := (blk_cell BK379.out 1).trans rfl
            have hfz36_0 := blk_frozen BK379.out 0
            have hfz36_1 := blk_frozen BK379.out 1
            go_wp2_with (first | ((with_reducible refine gate_callee (f := 27) rfl ?_); refine goesL_ (some 49) rfl rfl Try.func27 (by kernel_rfl) rfl #[.agg #[.int .i64 a0_0, .slice A0_1 l0_1.length c0_1]] rfl (by (try simp only [List.map_toArray, List.map_cons, List.map_nil]); first | done | rfl | (simp only [List.length_drop, List.length_take]; rfl)) ?_; (with_reducible refine (cantingref07_Web.calls kj8 a0_0 _ _ l0_1 true _ ?side1 ?side2 A26.out).mono ?_); (case side1 => repeat (first | exact (Kd.C_below HR0_1.out HB.out) | (with_reducible refine Kd.C_alloc ?_ _) | (with_reducible refine Kd.C_drewN ?_ _) | (with_reducible refine Kd.C_drew ?_))); (case side2 => exact HC0_1.out); rintro e w37 ⟨rfl, hb⟩; refine ⟨_, rfl, ?_⟩; have n0_ := Aside0.mk (Kd.R_below (by (with_reducible repeat (first | apply Kd.R_alloc | apply Kd.R_drewN | apply Kd.R_drew)); exact HO_11.out) hb); have n1_ := Aside0.mk (Kd.R_below (by (with_reducible repeat (first | apply Kd.R_alloc | apply Kd.R_drewN | apply Kd.R_drew)); exact HO_12.out) hb); have n2_ := Aside0.mk (blk_below (g := gb379) (o := .cells #[.int .i64 a0_0, .slice A0_1 l0_1.length c0_1] 24 (0, 0)) (by (with_reducible repeat (first | refine blk_drewN ?_ _ | refine blk_drew ?_ | refine blk_alloc ?_ _)); exact BK379.out) hb); have n3_ := Aside0.mk (below_step (by repeat (first | (with_reducible first | exact HB.out | apply below_alloc | apply pw_below_drewN | apply below_drew1 | refine below_set ?_ GE379.out) | exact HB.out)) hb); clear HO_11; clear HO_12; clear BK379; clear HB; have HO_11 := n0_; have HO_12 := n1_; have BK379 := n2_; have HB := n3_; clear n0_ n1_ n2_ n3_; (try clear hb); (try clear hb2); (try clear hk); (try clear hi)))
            go_ret
            exact ⟨by first | rfl | (simp [errW_none, errW_some] <;> rfl) | (simp [*, errW_none, errW_some] <;> rfl), by repeat (first | (with_reducible first | exact HB.out | apply below_alloc | apply pw_below_drewN | apply below_drew1 | refine below_set ?_ GE379.out) | exact HB.out)⟩
        · replace c27 := Bool.eq_false_iff.mpr c27
          subst c27
          have H1 : (if (wrap64 ((t392.length : Int) + (t395.length : Int))) = 0 then (some (t398 == 2)) else (some false)) = some r := by rw [if_neg (show ¬ (false = true) by decide)] at H; exact H
          clear H
          have H := H1
          clear H1
          by_cases c38 : (wrap64 ((t392.length : Int) + (t395.length : Int))) = 0
          · rw [if_pos c38] at H
            have c38b0 : ((wrap64 ((t392.length : Int) + (t395.length : Int))) == 0) = true := beq_iff_eq.mpr c38
            have c38b1 : ((wrap64 ((t392.length : Int) + (t395.length : Int))) != 0) = false := bne_eq_false_iff_eq.mpr c38
            clear c38
            obtain rfl := Option.some.inj H
            have hcz39_0 : wc.cell? ⟨gb379, 0, none⟩ = some (.int .i64 a0_0) := (blk_cell BK379.out 0).trans rfl
            have hcz39_1 : wc.cell? ⟨gb379, 1, none⟩ = some (.slice A0_1 l0_1.length c0_1) := (blk_cell BK379.out 1).trans rfl
            have hfz39_0 := blk_frozen BK379.out 0
            have hfz39_1 := blk_frozen BK379.out 1
            go_wp2_with (first | ((with_reducible refine gate_callee (f := 27) rfl ?_); refine goesL_ (some 49) rfl rfl Try.func27 (by kernel_rfl) rfl #[.agg #[.int .i64 a0_0, .slice A0_1 l0_1.length c0_1]] rfl (by (try simp only [List.map_toArray, List.map_cons, List.map_nil]); first | done | rfl | (simp only [List.length_drop, List.length_take]; rfl)) ?_; (with_reducible refine (cantingref07_Web.calls kj8 a0_0 _ _ l0_1 false _ ?side1 ?side2 A26.out).mono ?_); (case side1 => repeat (first | exact (Kd.C_below HR0_1.out HB.out) | (with_reducible refine Kd.C_alloc ?_ _) | (with_reducible refine Kd.C_drewN ?_ _) | (with_reducible refine Kd.C_drew ?_))); (case side2 => exact HC0_1.out); rintro e w40 ⟨rfl, hb⟩; refine ⟨_, rfl, ?_⟩; have n0_ := Aside0.mk (Kd.R_below (by (with_reducible repeat (first | apply Kd.R_alloc | apply Kd.R_drewN | apply Kd.R_drew)); exact HO_11.out) hb); have n1_ := Aside0.mk (Kd.R_below (by (with_reducible repeat (first | apply Kd.R_alloc | apply Kd.R_drewN | apply Kd.R_drew)); exact HO_12.out) hb); have n2_ := Aside0.mk (blk_below (g := gb379) (o := .cells #[.int .i64 a0_0, .slice A0_1 l0_1.length c0_1] 24 (0, 0)) (by (with_reducible repeat (first | refine blk_drewN ?_ _ | refine blk_drew ?_ | refine blk_alloc ?_ _)); exact BK379.out) hb); have n3_ := Aside0.mk (below_step (by repeat (first | (with_reducible first | exact HB.out | apply below_alloc | apply pw_below_drewN | apply below_drew1 | refine below_set ?_ GE379.out) | exact HB.out)) hb); clear HO_11; clear HO_12; clear BK379; clear HB; have HO_11 := n0_; have HO_12 := n1_; have BK379 := n2_; have HB := n3_; clear n0_ n1_ n2_ n3_; (try clear hb); (try clear hb2); (try clear hk); (try clear hi); obtain ⟨Ao41, co41, eo41⟩ := Kd.R_slice HO_11.out; subst eo41; obtain ⟨Ao42, co42, eo42⟩ := Kd.R_slice HO_12.out; subst eo42))
            go_ret
            exact ⟨by first | rfl | (simp [errW_none, errW_some] <;> rfl) | (simp [*, errW_none, errW_some] <;> rfl), by repeat (first | (with_reducible first | exact HB.out | apply below_alloc | apply pw_below_drewN | apply below_drew1 | refine below_set ?_ GE379.out) | exact HB.out)⟩
          · rw [if_neg c38] at H
            have c38b0 : ((wrap64 ((t392.length : Int) + (t395.length : Int))) == 0) = false := beq_eq_false_iff_ne.mpr c38
            have c38b1 : ((wrap64 ((t392.length : Int) + (t395.length : Int))) != 0) = true := bne_iff_ne.mpr c38
            obtain rfl := Option.some.inj H
            have hcz43_0 : wc.cell? ⟨gb379, 0, none⟩ = some (.int .i64 a0_0) := (blk_cell BK379.out 0).trans rfl
            have hcz43_1 : wc.cell? ⟨gb379, 1, none⟩ = some (.slice A0_1 l0_1.length c0_1) := (blk_cell BK379.out 1).trans rfl
            have hfz43_0 := blk_frozen BK379.out 0
            have hfz43_1 := blk_frozen BK379.out 1
            go_wp2_with (first | ((with_reducible refine gate_callee (f := 27) rfl ?_); refine goesL_ (some 49) rfl rfl Try.func27 (by kernel_rfl) rfl #[.agg #[.int .i64 a0_0, .slice A0_1 l0_1.length c0_1]] rfl (by (try simp only [List.map_toArray, List.map_cons, List.map_nil]); first | done | rfl | (simp only [List.length_drop, List.length_take]; rfl)) ?_; (with_reducible refine (cantingref07_Web.calls kj8 a0_0 _ _ l0_1 false _ ?side1 ?side2 A26.out).mono ?_); (case side1 => repeat (first | exact (Kd.C_below HR0_1.out HB.out) | (with_reducible refine Kd.C_alloc ?_ _) | (with_reducible refine Kd.C_drewN ?_ _) | (with_reducible refine Kd.C_drew ?_))); (case side2 => exact HC0_1.out); rintro e w44 ⟨rfl, hb⟩; refine ⟨_, rfl, ?_⟩; have n0_ := Aside0.mk (Kd.R_below (by (with_reducible repeat (first | apply Kd.R_alloc | apply Kd.R_drewN | apply Kd.R_drew)); exact HO_11.out) hb); have n1_ := Aside0.mk (Kd.R_below (by (with_reducible repeat (first | apply Kd.R_alloc | apply Kd.R_drewN | apply Kd.R_drew)); exact HO_12.out) hb); have n2_ := Aside0.mk (blk_below (g := gb379) (o := .cells #[.int .i64 a0_0, .slice A0_1 l0_1.length c0_1] 24 (0, 0)) (by (with_reducible repeat (first | refine blk_drewN ?_ _ | refine blk_drew ?_ | refine blk_alloc ?_ _)); exact BK379.out) hb); have n3_ := Aside0.mk (below_step (by repeat (first | (with_reducible first | exact HB.out | apply below_alloc | apply pw_below_drewN | apply below_drew1 | refine below_set ?_ GE379.out) | exact HB.out)) hb); clear HO_11; clear HO_12; clear BK379; clear HB; have HO_11 := n0_; have HO_12 := n1_; have BK379 := n2_; have HB := n3_; clear n0_ n1_ n2_ n3_; (try clear hb); (try clear hb2); (try clear hk); (try clear hi); obtain ⟨Ao45, co45, eo45⟩ := Kd.R_slice HO_11.out; subst eo45; obtain ⟨Ao46, co46, eo46⟩ := Kd.R_slice HO_12.out; subst eo46))
            go_ret
            exact ⟨by first | rfl | (simp [errW_none, errW_some] <;> rfl) | (simp [*, errW_none, errW_some] <;> rfl), by repeat (first | (with_reducible first | exact HB.out | apply below_alloc | apply pw_below_drewN | apply below_drew1 | refine below_set ?_ GE379.out) | exact HB.out)⟩
end Go.Proofs.Ytbamanjedfccpaa.X
end

section
set_option linter.unusedVariables false
set_option linter.unusedSimpArgs false
namespace Go.Proofs.Ytbamanjedfccpaa.HTab
open Go.RowKit Go.Proofs.YtbamanjedfccpaaW.PrintWords Go.Proofs.YtbamanjedfccpaaW.PrintLast Go.Proofs.YtbamanjedfccpaaW.PrintMore Go.Proofs.Ytbamanjedfccpaa.X
set_option linter.unusedVariables false
set_option linter.unusedSimpArgs false
theorem bit_val (s k : Nat) (hs : s < 4096) (hk : k ≤ 62) : Go.bits .and .i64 (shr .i64 (s : Int) (k : Int)) 1 = if s.testBit k then 1 else 0 := by
  have h := bit_test s k hs hk
  unfold shr at h ⊢
  rw [Int.toNat_natCast, Nat.min_eq_left (show k ≤ IntKind.i64.bits from (by show k ≤ 64; omega))] at h ⊢
  have e : ((s : Int) / 2 ^ k) = ((s / 2 ^ k : Nat) : Int) := by rw [Int.natCast_ediv, Int.natCast_pow]; rfl
  have hle : s / 2 ^ k ≤ s := Nat.div_le_self _ _
  rw [e] at h ⊢
  generalize s / 2 ^ k = q at hle h ⊢
  rw [and_one (by omega) (by omega)] at h ⊢
  cases ht : s.testBit k with
  | true =>
    rw [ht, beq_iff_eq] at h
    rw [h, if_pos rfl]
  | false =>
    rw [ht, beq_eq_false_iff_ne] at h
    rw [if_neg (by decide)]
    omega
def setN (s : Nat) (v : Int) : Bool := s.testBit v.toNat
section
variable {N : Nat} {l : List S34} (hN : N ≤ 12) (hl : l.length ≤ 160) (hg : ∀ a ∈ l, 0 ≤ a.f0 ∧ a.f0 < (N : Int) ∧ 0 ≤ a.f1 ∧ a.f1 < (N : Int)) (hc : ∀ a ∈ l, 0 ≤ a.f2 ∧ a.f2 ≤ 1000000)
include hN hl hg hc
theorem rcut_l1 (x1 x2 best : Int) (s : Nat) (hs : s < 4096) (T : Int) : ∀ (d i g : Nat) (x : Int), i + d = l.length → 0 ≤ x → x + 1000000 * d ≤ 1000000000 → cantingref07_Cut.l1 (g + d + 1) x1 x2 best s x T s l l.length i N l = cantingref07_Cut.l0 g x1 x2 (mn best (x + costF true (setN s) ((l.drop i).map cvA))) T (wrap64 ((s : Int) + 1)) N l
  | 0, i, g, x, hi, x0, x1' => by
    obtain rfl : i = l.length := by omega
    simp only [Nat.add_zero, cantingref07_Cut.l1]
    rw [if_neg (by omega), List.drop_length]
    simp [costF]
  | d + 1, i, g, x, hi, x0, x1' => by
    have hlt : i < l.length := by omega
    obtain ⟨e0, e1, e2, e3⟩ := hg l[i] (List.getElem_mem _)
    obtain ⟨c0, c1⟩ := hc l[i] (List.getElem_mem _)
    have hrd : rd_T34 l (i : Int) = l[i] := by simp [rd_T34, hlt]
    have iw : wrap64 ((i : Int) + 1) = ((i + 1 : Nat) : Int) := wrap_add1 (by omega) (by omega)
    have xw : wrap64 (x + l[i].f2) = x + l[i].f2 := wrap_id (by omega) (by omega)
    have ih1 := rcut_l1 x1 x2 best s hs T d (i + 1) g x (by clear iw xw; omega) x0 (by clear iw xw; omega)
    have ih2 := rcut_l1 x1 x2 best s hs T d (i + 1) g (x + l[i].f2) (by clear iw xw; omega) (by clear iw xw; omega) (by clear iw xw; omega)
    have b0 := bit_val s l[i].f0.toNat hs (by clear iw xw; omega)
    have b1 := bit_val s l[i].f1.toNat hs (by clear iw xw; omega)
    rw [Int.toNat_of_nonneg e0] at b0
    rw [Int.toNat_of_nonneg e2] at b1
    obtain ⟨K, hK⟩ : ∃ K, K = g + d + 1 := ⟨_, rfl⟩
    rw [show g + (d + 1) + 1 = (g + d + 1) + 1 by clear iw xw; omega]
    rw [← hK] at ih1 ih2 ⊢
    simp only [cantingref07_Cut.l1]
    rw [if_pos (by clear iw xw; omega), if_pos (by clear iw xw; omega), if_pos (by clear iw xw; omega), hrd, if_pos e0, if_pos e2, b0, b1, iw, xw, ih1, ih2, List.drop_eq_getElem_cons hlt]
    have hcost : costF true (setN s) ((l[i] :: l.drop (i + 1)).map cvA) = edgeC (s.testBit l[i].f0.toNat) (s.testBit l[i].f1.toNat) l[i].f2 + costF true (setN s) ((l.drop (i + 1)).map cvA) := rfl
    rw [hcost]
    clear iw xw b0 b1 ih1 ih2 hcost
    obtain ⟨p, hp⟩ : ∃ p, p = s.testBit l[i].f0.toNat := ⟨_, rfl⟩
    obtain ⟨q, hq⟩ : ∃ q, q = s.testBit l[i].f1.toNat := ⟨_, rfl⟩
    rw [← hp, ← hq]
    clear hp hq
    unfold edgeC
    cases p <;> cases q <;> simp [Int.add_assoc]
theorem rcut_l0 {u v c : Int} (u0 : 0 ≤ u) (u1 : u < N) (v0 : 0 ≤ v) (v1 : v < N) (M : Nat) (hM : M ≤ 4096) (hall : ∀ s : Nat, s < M → setN s u = true → setN s v = false → c ≤ costF true (setN s) (l.map cvA)) : ∀ (d s fu : Nat) (best : Int), s + d = M → d * 170 + 1 ≤ fu → c ≤ best →
    (best = c ∨ ∃ s' : Nat, s ≤ s' ∧ s' < M ∧ setN s' u = true ∧ setN s' v = false ∧ costF true (setN s') (l.map cvA) = c) → cantingref07_Cut.l0 fu u v best M s N l = some (c, 0)
  | d, s, 0, best, hs, hf, hb, hex => by omega
  | 0, s, fu + 1, best, hs, hf, hb, hex => by
    simp only [cantingref07_Cut.l0]
    rw [if_neg (by omega)]
    rcases hex with rfl | ⟨s', h1, h2, _⟩
    · rfl
    · omega
  | d + 1, s, fu + 1, best, hs, hf, hb, hex => by
    have sw : wrap64 ((s : Int) + 1) = ((s + 1 : Nat) : Int) := wrap_add1 (by omega) (by omega)
    have b0 := bit_val s u.toNat (by clear sw; omega) (by clear sw; omega)
    have b1 := bit_test s v.toNat (by clear sw; omega) (by clear sw; omega)
    rw [Int.toNat_of_nonneg u0] at b0
    rw [Int.toNat_of_nonneg v0] at b1
    obtain ⟨g, rfl⟩ : ∃ g, fu = g + 1 := ⟨fu - 1, by clear sw; omega⟩
    have ih := fun (g' : Nat) (best' : Int) (hf' : d * 170 + 1 ≤ g') => rcut_l0 u0 u1 v0 v1 M hM hall d (s + 1) g' best' (by clear sw; omega) hf'
    simp only [cantingref07_Cut.l0]
    rw [if_pos (by clear sw; omega), if_pos u0, b0, if_pos v0, b1]
    have skip : (setN s u = true → setN s v = false → False) → (best = c ∨ ∃ s' : Nat, s + 1 ≤ s' ∧ s' < M ∧ setN s' u = true ∧ setN s' v = false ∧ costF true (setN s') (l.map cvA) = c) := fun hno => by
      rcases hex with h | ⟨s', h1, h2, h3, h4, h5⟩
      · exact .inl h
      · refine .inr ⟨s', ?_, h2, h3, h4, h5⟩
        rcases Nat.lt_or_eq_of_le h1 with q | q
        · exact q
        · subst q; exact (hno h3 h4).elim
    cases hu : s.testBit u.toNat with
    | false =>
      rw [if_pos (by decide)]
      simp only [cantingref07_Cut.j2, if_true]
      rw [sw]
      exact ih g best (by clear sw; omega) hb (skip (fun h _ => by unfold setN at h; rw [hu] at h; cases h))
    | true =>
      rw [if_neg (by decide)]
      cases hv : s.testBit v.toNat with
      | true =>
        simp only [cantingref07_Cut.j2, if_true]
        rw [sw]
        exact ih g best (by clear sw; omega) hb (skip (fun _ h => by unfold setN at h; rw [hv] at h; cases h))
      | false =>
        simp only [cantingref07_Cut.j2, Bool.false_eq_true, if_false]
        obtain ⟨g2, rfl⟩ : ∃ g2, g = g2 + l.length + 1 := ⟨g - (l.length + 1), by clear sw; omega⟩
        have h1 := rcut_l1 hN hl hg hc u v best s (by clear sw; omega) M l.length 0 g2 0 (by clear sw; omega) (by clear sw; omega) (by clear sw; omega)
        rw [show ((0 : Nat) : Int) = 0 from rfl, List.drop_zero, Int.zero_add, sw] at h1
        rw [h1]
        have hcs := hall s (by clear sw; omega) hu hv
        refine ih g2 _ (by clear sw; omega) (by unfold mn; clear sw; split <;> omega) ?_
        rcases hex with h | ⟨s', h1, h2, h3, h4, h5⟩
        · exact .inl (by unfold mn; clear sw; split <;> omega)
        · rcases Nat.lt_or_eq_of_le h1 with q | q
          · exact .inr ⟨s', q, h2, h3, h4, h5⟩
          · subst q
            exact .inl (by unfold mn; clear sw; split <;> omega)
theorem rcut_min {u v : Int} (u0 : 0 ≤ u) (u1 : u < N) (v0 : 0 ≤ v) (v1 : v < N) {c : Int} (h : IsMin true (l.map cvA) u v c) (hgd : Good N (l.map cvA)) (fu : Nat) (hf : 699999 ≤ fu) : cantingref07_Cut.l0 fu u v 1152921504606846976 ((2 ^ N : Nat) : Int) 0 N l = some (c, 0) := by
  have hp := p12 hN
  obtain ⟨⟨T, hT, he⟩, hm⟩ := h
  obtain ⟨s, hs, hb⟩ := bits_of (fun k => T (k : Int)) N
  have hst : ∀ x : Int, 0 ≤ x → x < N → setN s x = T x := fun x x0 x1 => by
    unfold setN
    rw [hb x.toNat (by omega), Int.toNat_of_nonneg x0]
  have hcs : costF true (setN s) (l.map cvA) = c := by rw [costF_congr (N := N) true (setN s) T hst _ hgd, he]
  have hle : 0 ≤ costF true (setN s) (l.map cvA) ∧ costF true (setN s) (l.map cvA) ≤ 320000000 := by
    have := costF_le true (setN s) (l.map cvA) (fun a ha => by
      obtain ⟨b, hb, rfl⟩ := List.mem_map.1 ha
      exact hc b hb)
    rw [List.length_map] at this
    omega
  exact rcut_l0 hN hl hg hc u0 u1 v0 v1 (2 ^ N) hp.2 (fun s _ hu hv => hm _ ⟨hu, hv⟩) (2 ^ N) 0 fu _ (by omega) (by omega) (by omega) (.inr ⟨s, by omega, hs, by rw [hst u u0 u1]; exact hT.1, by rw [hst v v0 v1]; exact hT.2, hcs⟩)
end
theorem rweb_f (n : Int) (l : List S34) (fu : Nat) (hf : 200 ≤ fu) : cantingref07_Web.f fu n l = some (vdB n (netL l) && decide (n ≤ 12)) := by
  unfold cantingref07_Web.f
  rw [rvalid_g _ _ _ hf, Option.bind_some]
  cases vdB n (netL l) <;> rfl
theorem web_facts {n : Int} {l : List S34} (h : (vdB n (netL l) && decide (n ≤ 12)) = true) : ∃ N : Nat, n = N ∧ 2 ≤ N ∧ N ≤ 12 ∧ l.length ≤ 160 ∧ netL l = l.map cvA ∧ Good N (l.map cvA) ∧ (∀ a ∈ l.map cvA, 0 ≤ a.f2 ∧ a.f2 ≤ 1000000) ∧ (∀ a ∈ l, 0 ≤ a.f0 ∧ a.f0 < (N : Int) ∧ 0 ≤ a.f1 ∧ a.f1 < (N : Int)) ∧ ∀ a ∈ l, 0 ≤ a.f2 ∧ a.f2 ≤ 1000000 := by
  rw [Bool.and_eq_true, decide_eq_true_eq] at h
  obtain ⟨N, rfl, h1, h2, h3, h4, h5⟩ := vdB_facts h.1
  have hl : l.length ≤ 160 := by
    unfold netL at h3
    rw [List.length_map, List.length_take] at h3
    omega
  have e := netL_all (l := l) (by omega)
  rw [e] at h4 h5
  exact ⟨N, rfl, h1, by omega, hl, e, h4, h5, fun a ha => h4 (cvA a) (List.mem_map.2 ⟨a, ha, rfl⟩), fun a ha => h5 (cvA a) (List.mem_map.2 ⟨a, ha, rfl⟩)⟩
theorem rcut_f (n : Int) (l : List S34) (u v : Int) (fu : Nat) (hf : 700000 ≤ fu) : cantingref07_Cut.f fu n l u v = if cutOk n (netL l) u v = true then some (cutV n.toNat (netL l) u v, 0) else some (0, 2) := by
  obtain ⟨fu, rfl⟩ : ∃ g, fu = g + 1 := ⟨fu - 1, by omega⟩
  unfold cantingref07_Cut.f
  rw [rweb_f n l _ (by omega), Option.bind_some]
  by_cases hw : (vdB n (netL l) && decide (n ≤ 12)) = true
  case neg =>
    rw [if_neg hw, if_neg (fun q => by unfold cutOk at q; rw [Bool.and_eq_true] at q; exact hw q.1)]
    simp only [cantingref07_Cut.j0, if_true]
  rw [if_pos hw]
  have hno : ¬ (u ≠ v ∧ 0 ≤ u ∧ 0 ≤ v ∧ u < n ∧ v < n) → ¬ cutOk n (netL l) u v = true := fun h q => h (by
    simp only [cutOk, Bool.and_eq_true, decide_eq_true_eq] at q
    exact q.2)
  by_cases c1 : u < 0
  · rw [if_pos c1, if_neg (hno (by omega))]; simp only [cantingref07_Cut.j0, if_true]
  rw [if_neg c1]
  by_cases c2 : u ≥ n
  · rw [if_pos c2, if_neg (hno (by omega))]; simp only [cantingref07_Cut.j0, if_true]
  rw [if_neg c2]
  by_cases c3 : v < 0
  · rw [if_pos c3, if_neg (hno (by omega))]; simp only [cantingref07_Cut.j0, if_true]
  rw [if_neg c3]
  by_cases c4 : v ≥ n
  · rw [if_pos c4, if_neg (hno (by omega))]; simp only [cantingref07_Cut.j0, if_true]
  rw [if_neg c4]
  by_cases c5 : u = v
  · rw [show (u == v) = true from beq_iff_eq.mpr c5, if_neg (hno (by omega))]; simp only [cantingref07_Cut.j0, if_true]
  rw [show (u == v) = false from beq_eq_false_iff_ne.mpr c5]
  obtain ⟨N, rfl, h2, h12, hl, e, hgd, hcd, hg, hc⟩ := web_facts hw
  have hok : cutOk (N : Int) (netL l) u v = true := by
    simp only [cutOk, Bool.and_eq_true, decide_eq_true_eq]
    rw [Bool.and_eq_true, decide_eq_true_eq] at hw
    exact ⟨hw, c5, by omega, by omega, by omega, by omega⟩
  rw [if_pos hok, Int.toNat_natCast, e]
  simp only [cantingref07_Cut.j0, Bool.false_eq_true, if_false]
  rw [if_pos (by omega), shl1 (by omega) (by omega), Int.toNat_natCast]
  exact rcut_min h12 hl hg hc (by omega) (by omega) (by omega) (by omega) (cutV_min h12 (by rw [List.length_map]; exact hl) hgd hcd (by omega) (by omega) (by omega) (by omega) c5) hgd fu (by omega)
theorem cutV_f {n : Int} {l : List S35} {u v : Int} (h : cutOk n l u v = true) : wax_Cut.f n l u v = some (cutV n.toNat l u v, 0) := by
  obtain ⟨s, e, _⟩ := cut_f h
  have e' := e
  unfold wax_Cut.f at e'
  rw [if_pos h] at e'
  obtain ⟨x, hx, hy⟩ := Option.map_eq_some_iff.1 e'
  have : cutV n.toNat l u v = s := by
    unfold cutV
    rw [hx]
    injection hy with hy _
  rw [e, this]
end Go.Proofs.Ytbamanjedfccpaa.HTab
end

section
set_option linter.unusedVariables false
set_option linter.unusedSimpArgs false
namespace Go.Proofs.Ytbamanjedfccpaa.HTab
open Go.RowKit Go.Proofs.YtbamanjedfccpaaW.PrintWords Go.Proofs.YtbamanjedfccpaaW.PrintLast Go.Proofs.YtbamanjedfccpaaW.PrintMore Go.Proofs.Ytbamanjedfccpaa.X
set_option linter.unusedVariables false
set_option linter.unusedSimpArgs false
theorem mn_assoc (a b c : Int) : mn (mn a b) c = mn a (mn b c) := by
  unfold mn
  split <;> split <;> (try split) <;> (try split) <;> omega
def cutG (N : Nat) (arcs : List S35) (u v : Int) : Int := if u = v then 1152921504606846976 else cutV N arcs u v
def anc (P : List Int) : Nat → Int → Int → Prop
  | 0, u, m => u = m
  | k + 1, u, m => anc P k (rd P u) m
theorem anc_succ (P : List Int) : ∀ (k : Nat) (u x : Int), anc P k u x → anc P (k + 1) u (rd P x)
  | 0, u, x, h => by
    have h' : u = x := h
    show rd P u = rd P x
    rw [h']
  | k + 1, u, x, h => anc_succ P k (rd P u) x h
section
variable {N : Nat} {arcs : List S35} (hN : N ≤ 12) (hl : arcs.length ≤ 160) (hg : Good N arcs) (hc : ∀ a ∈ arcs, 0 ≤ a.f2 ∧ a.f2 ≤ 1000000) {P Wt : List Int} (h : GI N arcs N P Wt)
include h
theorem anc_neg : ∀ (k : Nat) (m : Int), anc P k (-1) m → m = -1
  | 0, m, q => Eq.symm q
  | k + 1, m, q => by
    have e : rd P (-1) = -1 := h.p0
    have q' : anc P k (rd P (-1)) m := q
    rw [e] at q'
    exact anc_neg k m q'
theorem anc_le : ∀ (k : Nat) (u m : Int), 0 ≤ u → u < N → 0 ≤ m → anc P k u m → (k : Int) ≤ u - m
  | 0, u, m, u0, u1, m0, q => by
    have q' : u = m := q
    omega
  | k + 1, u, m, u0, u1, m0, q => by
    have q' : anc P k (rd P u) m := q
    by_cases e : u = 0
    · rw [e, h.p0] at q'
      have := anc_neg h k m q'
      omega
    · obtain ⟨d0, d1, _⟩ := h.dn u (by omega) u1
      have := anc_le k (rd P u) m d0 (by omega) m0 q'
      omega
include hN hl hg hc
omit h in
theorem cutG_comm {u v : Int} (u0 : 0 ≤ u) (u1 : u < N) (v0 : 0 ≤ v) (v1 : v < N) : cutG N arcs u v = cutG N arcs v u := by
  unfold cutG
  by_cases e : u = v
  · rw [if_pos e, if_pos e.symm]
  · rw [if_neg e, if_neg (fun q => e q.symm), cutV_comm hN hl hg hc u0 u1 v0 v1 e]
theorem cutG_step {a b : Int} (a1 : a < N) (b0 : 0 ≤ b) (hab : b < a) : cutG N arcs a b = mn (rd Wt a) (cutG N arcs (rd P a) b) := by
  obtain ⟨d0, d1, _⟩ := h.dn a (by omega) a1
  have tw := h.tw a (by omega) a1
  have tm := h.tm a b (by omega) a1 b0 hab
  obtain ⟨t, ht⟩ : ∃ t, t = rd P a := ⟨_, rfl⟩
  rw [← ht] at d0 d1 tw tm ⊢
  rw [tw]
  have r1 := cutV_in hN hl hg hc (u := a) (v := t) (by omega) a1 d0 (by omega) (by omega)
  unfold cutG
  rw [if_neg (by omega)]
  by_cases e : t = b
  · rw [if_pos e, ← e]
    unfold mn
    split <;> omega
  · rw [if_neg e]
    have t1 := cutV_tri hN hl hg hc (u := a) (v := t) (w := b) (by omega) a1 d0 (by omega) b0 (by omega) (by omega) e (by omega)
    have t2 := cutV_tri hN hl hg hc (u := t) (v := a) (w := b) d0 (by omega) (by omega) a1 b0 (by omega) (by omega) (by omega) e
    have := cutV_comm hN hl hg hc (u := t) (v := a) d0 (by omega) (by omega) a1 (by omega)
    unfold mn
    split <;> omega
theorem cutG_out (A : Int → Prop) (hclo : ∀ x : Int, 0 ≤ x → x < N → A x → x = 0 ∨ A (rd P x)) {m : Int} (m1 : 1 ≤ m) (mN : m < N) (hm : ¬ A m) : ∀ (n : Nat) (u : Int), u = n → u < N → A u → cutG N arcs u m = mn (rd Wt m) (cutG N arcs u (rd P m))
  | n, u, hu, u1, hA => by
    obtain ⟨d0, d1, _⟩ := h.dn m m1 mN
    have um : u ≠ m := fun e => hm (by rw [← e]; exact hA)
    rcases Int.lt_or_gt_of_ne um with q | q
    · rw [cutG_comm hN hl hg hc (by omega) u1 (by omega) mN, cutG_step hN hl hg hc h mN (by omega) q, cutG_comm hN hl hg hc (u := u) (by omega) u1 d0 (by omega)]
    · obtain ⟨e0, e1, _⟩ := h.dn u (by omega) u1
      have hAp := (hclo u (by omega) u1 hA).resolve_left (by omega)
      have ih := cutG_out A hclo m1 mN hm (rd P u).toNat (rd P u) (by omega) (by omega) hAp
      rw [cutG_step hN hl hg hc h u1 (by omega) q, ih, cutG_step hN hl hg hc h (a := u) (b := rd P m) u1 d0 (by omega), ← mn_assoc, ← mn_assoc]
      congr 1
      unfold mn
      split <;> split <;> omega
  termination_by n => n
  decreasing_by omega
theorem btw_l2 (m : Int) (m0 : 0 ≤ m) : ∀ (k : Nat) (u least : Int) (fu : Nat), anc P k u m → 0 ≤ u → u < N → k < fu → least ≤ 1152921504606846976 → cantingref07_between.l2 fu P Wt least m u = some (mn least (cutG N arcs u m))
  | k, u, least, 0, ha, u0, u1, hf, hb => by omega
  | 0, u, least, fu + 1, ha, u0, u1, hf, hb => by
    have e : u = m := ha
    simp only [cantingref07_between.l2]
    rw [if_pos e]
    unfold cutG mn
    rw [if_pos e]
    split <;> first | rfl | (congr 1; omega)
  | k + 1, u, least, fu + 1, ha, u0, u1, hf, hb => by
    have hk := anc_le h (k + 1) u m u0 u1 m0 ha
    have hlp := h.lp
    have hlw := h.lw
    obtain ⟨d0, d1, _⟩ := h.dn u (by omega) u1
    have ih := btw_l2 m m0 k (rd P u) (mn least (rd Wt u)) fu ha d0 (by omega) (by omega) (by unfold mn; split <;> omega)
    simp only [cantingref07_between.l2]
    rw [if_neg (by omega), if_pos u0, if_pos (by omega), if_pos (by omega), ih, mn_assoc, ← cutG_step hN hl hg hc h u1 m0 (by omega)]
theorem btw_l1 (u : Int) (u0 : 0 ≤ u) (u1 : u < N) (above : List Bool) (hlen : above.length = N) (hA : ∀ x : Int, 0 ≤ x → x < N → rdOf false above x = true → ∃ k, anc P k u x) (hclo : ∀ x : Int, 0 ≤ x → x < N → rdOf false above x = true → x = 0 ∨ rdOf false above (rd P x) = true) (hu : rdOf false above u = true) :
    ∀ (fu n : Nat) (meet least : Int), meet = n → meet < N → n + N + 2 ≤ fu → least ≤ 1152921504606846976 → cantingref07_between.l1 fu P Wt u least above meet = some (mn least (cutG N arcs u meet))
  | 0, n, meet, least, hm, m1, hf, hb => by omega
  | fu + 1, n, meet, least, hm, m1, hf, hb => by
    have hlp := h.lp
    have hlw := h.lw
    simp only [cantingref07_between.l1]
    rw [if_pos (by omega), if_pos (by omega)]
    by_cases c : rdOf false above meet = true
    · rw [if_pos c]
      obtain ⟨k, hk⟩ := hA meet (by omega) m1 c
      have := anc_le h k u meet u0 u1 (by omega) hk
      exact btw_l2 hN hl hg hc h meet (by omega) k u least fu hk u0 u1 (by omega) hb
    · have root : ∀ (n : Nat) (x : Int), x = n → x < N → rdOf false above x = true → rdOf false above 0 = true := fun n => by
        induction n using Nat.strongRecOn with
        | ind n ih =>
          intro x hx x1 hax
          rcases hclo x (by omega) x1 hax with q | q
          · rw [← q]; exact hax
          · by_cases e : x = 0
            · rw [← e]; exact hax
            · obtain ⟨d0, d1, _⟩ := h.dn x (by omega) x1
              exact ih (rd P x).toNat (by omega) (rd P x) (by omega) (by omega) q
      have hm0 : meet ≠ 0 := fun e => c (by rw [e]; exact root u.toNat u (by omega) u1 hu)
      obtain ⟨d0, d1, _⟩ := h.dn meet (by omega) m1
      have ih := btw_l1 u u0 u1 above hlen hA hclo hu fu (rd P meet).toNat (rd P meet) (mn least (rd Wt meet)) (by omega) (by omega) (by omega) (by unfold mn; split <;> omega)
      rw [if_neg c, if_pos (by omega), if_pos (by omega), ih, mn_assoc, ← cutG_out hN hl hg hc h (fun x => rdOf false above x = true) hclo (by omega) m1 c u.toNat u (by omega) u1 hu]
theorem btw_l0 (u v : Int) (u0 : 0 ≤ u) (u1 : u < N) (v0 : 0 ≤ v) (v1 : v < N) : ∀ (fu n : Nat) (at_ : Int) (above : List Bool), at_ + 1 = n → at_ < N → n + N + N + 4 ≤ fu → above.length = N → (∃ k, anc P k u at_) → (∀ x : Int, 0 ≤ x → x < N → rdOf false above x = true → ∃ k, anc P k u x) →
    (∀ x : Int, 0 ≤ x → x < N → rdOf false above x = true → x = 0 ∨ rdOf false above (rd P x) = true ∨ rd P x = at_) → (rdOf false above u = true ∨ at_ = u) → cantingref07_between.l0 fu P Wt u v 1152921504606846976 above at_ = some (cutG N arcs u v)
  | 0, n, at_, above, hn, a1, hf, hlen, hk, hA, hclo, hu => by omega
  | fu + 1, n, at_, above, hn, a1, hf, hlen, hk, hA, hclo, hu => by
    have hlp := h.lp
    have hlw := h.lw
    simp only [cantingref07_between.l0]
    by_cases c : at_ ≥ 0
    · have hset : ∀ x : Int, 0 ≤ x → rdOf false (above.set at_.toNat true) x = if x = at_ then true else rdOf false above x := fun x x0 => by
        unfold rdOf
        rw [List.getD_eq_getElem?_getD, List.getD_eq_getElem?_getD, List.getElem?_set]
        by_cases e : x = at_
        · rw [if_pos e, if_pos (by omega), if_pos (by omega)]; rfl
        · rw [if_neg e, if_neg (by omega)]
      obtain ⟨k, hk⟩ := hk
      have hp : -1 ≤ rd P at_ ∧ rd P at_ < at_ := by
        by_cases e : at_ = 0
        · rw [e, h.p0]; omega
        · have := h.dn at_ (by omega) a1
          omega
      rw [if_pos c, if_pos (by omega), if_pos (by omega), if_pos (by omega)]
      refine btw_l0 u v u0 u1 v0 v1 fu (rd P at_ + 1).toNat (rd P at_) _ (by omega) (by omega) (by omega) (by rw [List.length_set]; exact hlen) ⟨k + 1, anc_succ P k u at_ hk⟩ (fun x x0 x1 hx => ?_) (fun x x0 x1 hx => ?_) (.inl ?_)
      · rw [hset x x0] at hx
        by_cases e : x = at_
        · rw [e]; exact ⟨k, hk⟩
        · rw [if_neg e] at hx; exact hA x x0 x1 hx
      · by_cases e : x = at_
        · rw [e]; exact .inr (.inr rfl)
        · rw [hset x x0, if_neg e] at hx
          by_cases e0 : x = 0
          · exact .inl e0
          · obtain ⟨d0, d1, _⟩ := h.dn x (by omega) x1
            rcases hclo x x0 x1 hx with q | q | q
            · exact .inl q
            · refine .inr (.inl ?_)
              rw [hset _ d0]
              split
              · rfl
              · exact q
            · exact .inr (.inl (by rw [hset _ d0, if_pos q]))
      · rw [hset u u0]
        split
        · rfl
        · rename_i q
          exact hu.resolve_right (fun e => q e.symm)
    · rw [if_neg c]
      have hu' := hu.resolve_right (by omega)
      rw [btw_l1 hN hl hg hc h u u0 u1 above hlen hA (fun x x0 x1 hx => by
        by_cases e0 : x = 0
        · exact .inl e0
        · obtain ⟨d0, d1, _⟩ := h.dn x (by omega) x1
          rcases hclo x x0 x1 hx with q | q | q
          · exact .inl q
          · exact .inr q
          · omega) hu' fu v.toNat v 1152921504606846976 (by omega) v1 (by omega) (Int.le_refl _)]
      congr 1
      unfold cutG mn
      split
      · split <;> omega
      · rename_i e
        have := cutV_in hN hl hg hc u0 u1 v0 v1 e
        split <;> omega
theorem between_f (u v : Int) (u0 : 0 ≤ u) (u1 : u < N) (v0 : 0 ≤ v) (v1 : v < N) (huv : u ≠ v) (fu : Nat) (hf : 100 ≤ fu) : cantingref07_between.f fu P Wt u v = some (cutV N arcs u v) := by
  have hlp := h.lp
  unfold cantingref07_between.f
  have e : (((P.length : Int) : Int).toNat) = N := by omega
  rw [if_pos (by omega), if_pos (by omega), e]
  have hf0 : ∀ x : Int, rdOf false (List.replicate N false) x = false := fun x => by
    unfold rdOf
    rw [List.getD_eq_getElem?_getD, List.getElem?_replicate]
    split <;> rfl
  rw [btw_l0 hN hl hg hc h u v u0 u1 v0 v1 fu (u + 1).toNat u _ (by omega) u1 (by omega) (List.length_replicate ..) ⟨0, rfl⟩ (fun x _ _ hx => by rw [hf0] at hx; cases hx) (fun x _ _ hx => by rw [hf0] at hx; cases hx) (.inr rfl)]
  unfold cutG
  rw [if_neg huv]
end
section
variable {N : Nat} {l : List S34} (hw : (vdB N (netL l) && decide ((N : Int) ≤ 12)) = true) {P Wt : List Int} (h : GI N (netL l) N P Wt)
include hw h
theorem rtree_l3 (u : Int) (u0 : 0 ≤ u) (u1 : u < N) (R : Nat → Prop) (hR : ∀ g, R g → 700000 ≤ g) (hnext : ∀ g, R g → cantingref07_Tree.l2 g P Wt N (wrap64 (u + 1)) N l = some true) : ∀ (d : Nat) (v : Int) (fu : Nat), v + d = u → 0 ≤ v → (∃ g, fu = g + d + 1 ∧ R g) → cantingref07_Tree.l3 fu P Wt u N u u v N l = some true
  | 0, v, fu, hv, v0, ⟨g, hf, hg⟩ => by
    subst hf
    simp only [Nat.add_zero, cantingref07_Tree.l3]
    rw [if_neg (by omega)]
    exact hnext g hg
  | d + 1, v, fu, hv, v0, ⟨g, hf, hg⟩ => by
    obtain ⟨N', e', h2, h12, hl, e, hgd, hcd, hgr, hcr⟩ := web_facts hw
    obtain rfl : N = N' := by omega
    have h100 := hR g hg
    obtain ⟨f, rfl⟩ : ∃ f, fu = f + 1 := ⟨fu - 1, by omega⟩
    have ih := rtree_l3 u u0 u1 R hR hnext d (v + 1) f (by omega) (by omega) ⟨g, by omega, hg⟩
    have hok : cutOk (N : Int) (netL l) u v = true := by
      simp only [cutOk, Bool.and_eq_true, decide_eq_true_eq]
      rw [Bool.and_eq_true, decide_eq_true_eq] at hw
      exact ⟨hw, by omega, by omega, by omega, by omega, by omega⟩
    have b := between_f h12 (by rw [e, List.length_map]; exact hl) (by rw [e]; exact hgd) (by rw [e]; exact hcd) h u v u0 u1 v0 (by omega) (by omega) f (by omega)
    simp only [cantingref07_Tree.l3]
    rw [if_pos (by omega), rcut_f N l u v f (by omega), if_pos hok, Option.bind_some, b, Option.bind_some]
    dsimp only
    rw [Int.toNat_natCast, if_pos rfl, show wrap64 (v + 1) = v + 1 from wrap_id (by omega) (by omega)]
    exact ih
theorem rtree_l2 : ∀ (d : Nat) (u : Int) (fu : Nat), u + d = N → 0 ≤ u → 701000 + 20 * d ≤ fu → cantingref07_Tree.l2 fu P Wt N u N l = some true
  | d, u, 0, hu, u0, hf => by omega
  | 0, u, fu + 1, hu, u0, hf => by
    simp only [cantingref07_Tree.l2]
    rw [if_neg (by omega)]
  | d + 1, u, fu + 1, hu, u0, hf => by
    obtain ⟨N', e', h2, h12, _⟩ := web_facts hw
    obtain rfl : N = N' := by omega
    simp only [cantingref07_Tree.l2]
    rw [if_pos (by omega)]
    refine rtree_l3 hw h u u0 (by omega) (fun g => 701000 + 20 * d ≤ g ∧ g ≤ fu) (fun g hg => by omega) (fun g hg => ?_) u.toNat 0 fu (by omega) (by omega) ⟨fu - u.toNat - 1, by omega, by omega, by omega⟩
    · rw [show wrap64 (u + 1) = u + 1 from wrap_id (by omega) (by omega)]
      exact rtree_l2 d (u + 1) g (by omega) (by omega) hg.1
theorem rtree_l1 (i : Int) (i1 : i < N) (Q : Nat → Prop) (hnext : ∀ g, Q g → cantingref07_Tree.l0 g P Wt (wrap64 (i + 1)) N l = some true) : ∀ (n fu : Nat) (at_ cnt : Int), at_ = n → at_ < N → 0 ≤ cnt → cnt + at_ ≤ N → (∀ m : Nat, m ≤ n → ∃ g, fu = g + m + 1 ∧ Q g) → cantingref07_Tree.l1 fu P Wt i at_ cnt N l = some true
  | n, 0, at_, cnt, hn, a1, c0, hc, hf => by
    obtain ⟨g, hg, _⟩ := hf 0 (by omega)
    omega
  | n, fu + 1, at_, cnt, hn, a1, c0, hc, hf => by
    obtain ⟨N', e', h2, h12, _⟩ := web_facts hw
    obtain rfl : N = N' := by omega
    have hlp := h.lp
    simp only [cantingref07_Tree.l1]
    by_cases e : at_ = 0
    · rw [if_pos e]
      obtain ⟨g, hg, hq⟩ := hf 0 (by omega)
      obtain rfl : fu = g := by omega
      exact hnext fu hq
    · obtain ⟨d0, d1, _⟩ := h.dn at_ (by omega) a1
      rw [if_neg e, if_neg (by omega), if_neg (by omega), if_neg (by omega), if_pos (by omega), if_pos (by omega), show wrap64 (cnt + 1) = cnt + 1 from wrap_id (by omega) (by omega)]
      exact rtree_l1 i i1 Q hnext (rd P at_).toNat fu (rd P at_) (cnt + 1) (by omega) (by omega) (by omega) (by omega) (fun m hm => by
        obtain ⟨g, hg, hq⟩ := hf (m + 1) (by omega)
        exact ⟨g, by omega, hq⟩)
theorem rtree_l0 : ∀ (d : Nat) (i : Int) (fu : Nat), i + d = N → 1 ≤ i → 702000 + 20 * d ≤ fu → cantingref07_Tree.l0 fu P Wt i N l = some true
  | d, i, 0, hi, i1, hf => by omega
  | 0, i, fu + 1, hi, i1, hf => by
    obtain ⟨N', e', h2, h12, _⟩ := web_facts hw
    obtain rfl : N = N' := by omega
    simp only [cantingref07_Tree.l0]
    rw [if_neg (by omega)]
    exact rtree_l2 hw h N 0 fu (by omega) (by omega) (by omega)
  | d + 1, i, fu + 1, hi, i1, hf => by
    obtain ⟨N', e', h2, h12, _⟩ := web_facts hw
    obtain rfl : N = N' := by omega
    simp only [cantingref07_Tree.l0]
    rw [if_pos (by omega)]
    refine rtree_l1 hw h i (by omega) (fun g => 702000 + 20 * d ≤ g) (fun g hg => ?_) i.toNat fu i 0 (by omega) (by omega) (by omega) (by omega) (fun m hm => ⟨fu - m - 1, by omega, by omega⟩)
    rw [show wrap64 (i + 1) = i + 1 from wrap_id (by omega) (by omega)]
    exact rtree_l0 d (i + 1) g (by omega) (by omega) hg
theorem rtree_f (fu : Nat) (hf : 703000 ≤ fu) : cantingref07_Tree.f fu N l P Wt = some true := by
  obtain ⟨N', e', h2, h12, _⟩ := web_facts hw
  obtain rfl : N = N' := by omega
  have hlp := h.lp
  have hlw := h.lw
  obtain ⟨fu, rfl⟩ : ∃ g, fu = g + 1 := ⟨fu - 1, by omega⟩
  unfold cantingref07_Tree.f
  rw [if_pos (by omega), if_pos (by omega), if_pos (by omega), if_pos h.p0, if_pos (by omega), h.w0]
  simp only [cantingref07_Tree.j0]
  rw [if_neg (by decide)]
  exact rtree_l0 hw h (N - 1) 1 fu (by omega) (by omega) (by omega)
end
theorem trees_j0 (N : Nat) (l : List S34) (K : Nat) (hK : 703000 ≤ K) (hw : (vdB N (netL l) && decide ((N : Int) ≤ 12)) = true) {P Wt : List Int} (h : GI N (netL l) N P Wt) : cantinglaw07_WaxTrees.j0 (K + 1) P Wt 0 (!true) N l = some true := by
  simp only [cantinglaw07_WaxTrees.j0]
  rw [if_neg (by decide), rweb_f N l K (by omega), hw, Option.bind_some, if_pos rfl, if_pos trivial, rtree_f hw h K hK, Option.bind_some]
theorem trees_j1 (n : Int) (l : List S34) (K : Nat) (hK : 703000 ≤ K) (hw : ¬ (vdB n (netL l) && decide (n ≤ 12)) = true) : cantinglaw07_WaxTrees.j0 (K + 1) [] [] 2 (!true) n l = some true := by
  simp only [cantinglaw07_WaxTrees.j0]
  rw [if_neg (by decide), rweb_f n l K (by omega), Option.bind_some, if_neg hw, List.length_nil, show wrap64 (((0 : Nat) : Int) + ((0 : Nat) : Int)) = 0 from wrap_id (by omega) (by omega), if_pos rfl]
  rfl
theorem cut_same (n : Int) (l : List S34) (u v : Int) (fu : Nat) (hf : 700000 ≤ fu) : ∃ a b : Int, wax_Cut.f n (netL l) u v = some (a, b) ∧ cantingref07_Cut.f fu n l u v = some (a, b) := by
  have h := rcut_f n l u v fu hf
  cases hc : cutOk n (netL l) u v with
  | true =>
    rw [hc, if_pos rfl] at h
    exact ⟨_, _, cutV_f hc, h⟩
  | false =>
    rw [hc, if_neg (by decide)] at h
    exact ⟨_, _, cut_f0 hc, h⟩
theorem trees_k (n : Int) (l : List S34) (u v : Int) (hl : l.length < 10000000000000) (K : Nat) (hK : 703000 ≤ K) : cantinglaw07_WaxTrees.f (K + 1) n l u v = some true := by
  obtain ⟨a, b, c1, c2⟩ := cut_same n l u v (K + 1) (by omega)
  have hnet := net_f l hl n (K + 1) (by omega)
  unfold cantinglaw07_WaxTrees.f
  rw [hnet, Option.bind_some, c1, Option.bind_some, c2, Option.bind_some, Option.bind_some, awake_f]
  by_cases hw : (vdB n (netL l) && decide (n ≤ 12)) = true
  · obtain ⟨N, rfl, h2, h12, hl2, e, hgd, hcd, hgr, hcr⟩ := web_facts hw
    obtain ⟨P, Wt, hT, hG⟩ := gi_tree h12 (by rw [e, List.length_map]; exact hl2) (by rw [e]; exact hgd) (by rw [e]; exact hcd) h2 (arcs := netL l)
    have ht : wax_Tree.f (N : Int) (netL l) = some (P, Wt, 0) := by
      unfold wax_Tree.f
      rw [if_pos hw, Int.toNat_natCast, hT]
      rfl
    rw [ht, Option.bind_some, if_pos rfl, if_pos rfl, Option.bind_some]
    exact trees_j0 N l K hK hw hG
  · have ht : wax_Tree.f n (netL l) = some ([], [], 2) := by
      unfold wax_Tree.f
      rw [if_neg hw]
    rw [ht, Option.bind_some, if_pos rfl, if_pos rfl, Option.bind_some]
    exact trees_j1 n l K hK hw
theorem trees_law (n : Int) (l : List S34) (u v : Int) (hl : l.length < 10000000000000) : cantinglaw07_WaxTrees.f 800001 n l u v = some true := trees_k n l u v hl 800000 (by decide)
end Go.Proofs.Ytbamanjedfccpaa.HTab
end

section
set_option linter.unusedVariables false
set_option linter.unusedSimpArgs false
namespace Go.Proofs.Ytbamanjedfccpaa.waxTrees
open Go.ChangeShapes Go.WideShapes Go.ChangeAt Go.RowKit Go.Proofs.YtbamanjedfccpaaW.PrintWords Go.Proofs.Ytbamanjedfccpaa.HTab Go.Proofs.Ytbamanjedfccpaa.X
open Go.ChangeMaps (open_string shut_string)
set_option linter.unusedVariables false
theorem own : ownKnob Try.prog.godebug = none := by kernel_rfl
theorem laidOut : laidOutB Try.prog = true := by kernel_rfl
set_option maxRecDepth 100000 in
theorem lifted (os : Os) (started : os.Started) (H : Type) (enc : TypeId × Value → H) :
    ReturnsInHanded {} Try.checked os 7 .any (Rows.waxTreesSpec.pre6 enc Try.prog Try.f7 Rows.waxTreesRow.domain false) (Rows.waxTreesSpec.post enc Try.prog Try.f7 false true false false) := by
  refine returnsInHanded_of_change_sized (C := Try.checked) own started (by kernel_rfl) Try.func7
    (ChangeSpec.witness6 (enc := enc) (C := Try.checked) false ⟨#[], #[.agg #[.int .i64 0, .slice none 0 0], .int .i64 0, .int .i64 0], []⟩ 8 (by kernel_rfl) (by kernel_rfl) (by kernel_rfl) (by kernel_rfl)) ?_
  intro W base args ds gs before hval0 hW hcnd hsz0 _
  have hsz : (DataW.weightsEach Try.prog (Try.f7.params.toList ++ Rows.waxTreesSpec.plain.varTypes Try.prog) (ds ++ gs)).all (· ≤ reachBytes) = true := hsz0
  have hval : ∀ (j : Nat) t v, Try.f7.params[j]? = some t → args[j]? = some v → Value.okWide Try.prog W .any base t v := hval0
  have hW' := hW
  obtain ⟨p, q, hA0, hV, rfl, hfz, hnd⟩ := hW
  have hA : DataW.TrodAll enc Try.prog W 0 (fun _ => true) true Try.f7.params.toList args.toList ds p := hA0
  rw [Try.params7] at hA hval hsz
  obtain ⟨v0, vs0, d0, ds0, p0, q0, hargs, rfl, rfl, h0, r0⟩ := trodAll_cons hA
  obtain ⟨v1, vs1, d1, ds1, p1, q1, rfl, rfl, rfl, h1, r1⟩ := trodAll_cons r0
  obtain ⟨v2, vs2, d2, ds2, p2, q2, rfl, rfl, rfl, h2, r2⟩ := trodAll_cons r1
  obtain ⟨rfl, rfl, rfl⟩ := trodAll_nil r2
  obtain rfl : args = #[v0, v1, v2] := by cases args; simp_all
  obtain ⟨rfl, rfl⟩ := trodVars_none hV
  have k0 := h0
  have lt0 : ∀ x ∈ p0, x.block < W.heap.size := by obtain ⟨m, hm⟩ := k0; exact DataW.trod_lt m _ _ _ hm
  obtain ⟨n0, A0, c0, l0, rfl, C0, L0, B0, wn0⟩ := open_net (hval 0 24 v0 rfl rfl) h0 hsz (j := 0) rfl rfl
  obtain ⟨a1, rfl, rfl, rfl, w1⟩ := open_int Try.underlying3 (hval 1 3 v1 rfl rfl) h1
  obtain ⟨a2, rfl, rfl, rfl, w2⟩ := open_int Try.underlying3 (hval 2 3 v2 rfl rfl) h2
  clear hA0 hval0 hsz0 hsz
  refine ((cantinglaw07_WaxTrees.calls 800001 n0 A0 c0 l0 a1 a2 true W C0 L0 (trees_law n0 l0 a1 a2 B0))).mono fun e W' ⟨he, bel⟩ => ?_
  subst he
  exact ⟨_, rfl, _, _, _, [], _, [], hW', trodAll_mk1 (shut_bool Try.underlying4 _), (trodAll_cons_mk (Below.trod laidOut (by kernel_rfl) (of_decide_eq_true (by kernel_rfl)) k0 bel lt0) (trodAll_cons_mk (shut_int Try.underlying3 w1) (trodAll_cons_mk (shut_int Try.underlying3 w2) trodAll_mk0))), rfl, bel.frame _, fun h => by cases h⟩
theorem over : Rows.waxTreesRow.holds Try.pinned (OpenSpec.ofChange Rows.waxTreesSpec) :=
  OpenClaim.holds_of_wide 7 Try.f7 rfl rfl rfl rfl rfl rfl rfl ⟨rfl, rfl, rfl, rfl, rfl⟩ rfl rfl rfl rfl rfl (by kernel_rfl) Try.func7 (by kernel_rfl)
    (of_decide_eq_true (by kernel_rfl)) (by unfold Func.isWrapper; first | (rw [if_pos (by decide +kernel)]; kernel_rfl) | (rw [if_neg (by decide +kernel)]; exact ⟨rfl, rfl⟩))
    (fun os started H enc _ => lifted os started H enc)
theorem proved : Rows.WaxTreesSaid := over
end Go.Proofs.Ytbamanjedfccpaa.waxTrees
namespace Go.Proofs.Ytbamanjedfccpaa
theorem waxTrees_holds : Rows.WaxTreesSaid := waxTrees.proved
end Go.Proofs.Ytbamanjedfccpaa
#print axioms Go.Proofs.Ytbamanjedfccpaa.waxTrees_holds
end
