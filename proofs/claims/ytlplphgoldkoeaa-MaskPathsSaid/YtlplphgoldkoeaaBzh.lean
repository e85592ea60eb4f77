/- Lemmas of the masks: part Bzh. -/
import Derived.Test.YtlplphgoldkoeaaBze
import Derived.Test.YtlplphgoldkoeaaBh
import Derived.Test.YtlplphgoldkoeaaBb
import Derived.Deep.DeepMust
import Derived.Test.YtlplphgoldkoeaaBc
import Derived.Test.YtlplphgoldkoeaaBf
import Derived.Deep.LoopGhost
import Derived.Test.YtlplphgoldkoeaaBm
import Derived.Test.YtlplphgoldkoeaaBk
section
set_option linter.unusedVariables false
set_option linter.unusedSimpArgs false
namespace Go.Proofs.Ytlplphgoldkoeaa.HTab
open Go.RowKit Go.Proofs.YtlplphgoldkoeaaW.PrintWords Go.Proofs.YtlplphgoldkoeaaW.PrintLast Go.Proofs.YtlplphgoldkoeaaW.PrintMore Go.Proofs.Ytlplphgoldkoeaa.HMap Go.Proofs.Ytlplphgoldkoeaa.X
set_option linter.unusedVariables false
set_option linter.unusedSimpArgs false
def pathP (l : List S107) : Nat → Int → List Int → List (List Int)
  | 0, _, _ => []
  | k + 1, p, cube => if p = 1 then [cube] else if p < 2 then [] else
    pathP l k (l.getD (p - 2).toNat ⟨0, 0, 0⟩).f1 (cube.set (l.getD (p - 2).toNat ⟨0, 0, 0⟩).f0.toNat 0) ++ pathP l k (l.getD (p - 2).toNat ⟨0, 0, 0⟩).f2 (cube.set (l.getD (p - 2).toNat ⟨0, 0, 0⟩).f0.toNat 1)
abbrev DI : Kd (List Int) := Kd.slice 3 (Kd.int .i64)
def fnP (go gc gf gw : Nat) : Value := .func (.func 112) #[] #[.pointer (some ⟨go, 0, none⟩), .pointer (some ⟨gc, 0, none⟩), .pointer (some ⟨gf, 0, none⟩), .pointer (some ⟨gw, 0, none⟩)]
structure Pw (w0 w : World) (go gc gf gw bc cc : Nat) (v r : Int) (A : Option Addr) (c : Nat) (l : List S107) (vO : Value) (out : List (List Int)) (cube : List Int) : Prop where
  bel : Below w0.heap.size w0 w
  ko : w.heap[go]? = some (.cells #[vO] 77 (0, 0))
  ro : Kd.S DI 82 w w0.heap.size (fun k => k ≠ bc ∧ k ≠ gc) vO out
  kc : w.heap[gc]? = some (.cells #[.slice (some ⟨bc, 0, none⟩) cube.length cc] 82 (0, 0))
  rc : (Kd.int .i64).R 3 w w0.heap.size (fun k => k = bc) (.slice (some ⟨bc, 0, none⟩) cube.length cc) cube
  kf : w.heap[gf]? = some (.cells #[.int .i64 v, .slice A l.length c, .int .i64 r] 28 (0, 0))
  kw : w.heap[gw]? = some (.cells #[fnP go gc gf gw] 133 (0, 0))
  so : w0.heap.size ≤ go
  sb : w0.heap.size ≤ bc
  lb : bc < w.heap.size
  nb : go ≠ bc ∧ gc ≠ bc ∧ gf ≠ bc ∧ gw ≠ bc
section
variable {w0 w w' : World} {go gc gf gw bc cc : Nat} {v r : Int} {A : Option Addr} {c : Nat} {l : List S107} {vO : Value} {out : List (List Int)} {cube : List Int}
theorem Pw.below (h : Pw w0 w go gc gf gw bc cc v r A c l vO out cube) (hb : Below w.heap.size w w') : Pw w0 w' go gc gf gw bc cc v r A c l vO out cube :=
  ⟨below_then h.bel h.bel.size hb, blk_below h.ko hb, Kd.S_below h.ro hb, blk_below h.kc hb, Kd.R_below h.rc hb, blk_below h.kf hb, blk_below h.kw hb, h.so, h.sb, Nat.lt_of_lt_of_le h.lb hb.size, h.nb⟩
theorem Pw.put (h : Pw w0 w go gc gf gw bc cc v r A c l vO out cube) (i : Int) (x : Int) : Pw w0 (w.setCell ⟨bc, i.toNat, none⟩ (.int .i64 x)) go gc gf gw bc cc v r A c l vO out (cube.set i.toNat x) := by
  have hc := (Kd.R_put h.rc i x).1
  exact ⟨below_set h.bel h.sb, blk_far (p := ⟨bc, i.toNat, none⟩) h.ko h.nb.1 _, Kd.S_far (p := ⟨bc, i.toNat, none⟩) h.ro (fun k hk => hk.1) _, by rw [List.length_set]; exact blk_far (p := ⟨bc, i.toNat, none⟩) h.kc h.nb.2.1 _, by rw [List.length_set]; exact hc,
    blk_far (p := ⟨bc, i.toNat, none⟩) h.kf h.nb.2.2.1 _, blk_far (p := ⟨bc, i.toNat, none⟩) h.kw h.nb.2.2.2 _, h.so, h.sb, by simpa [World.setCell] using h.lb, h.nb⟩
theorem Pw.push (h : Pw w0 w go gc gf gw bc cc v r A c l vO out cube) {v5 : Value} {out' : List (List Int)} (hR : Kd.S DI 82 w' w0.heap.size (fun k => k ≠ bc ∧ k ≠ gc) v5 out') (hB : Below w0.heap.size w0 w') (hg : w.grownBy w' vO.ownBlock) :
    Pw w0 (w'.setCell ⟨go, 0, none⟩ v5) go gc gf gw bc cc v r A c l v5 out' cube := by
  have n0 := Kd.R_ne (Kd.S_R h.ro) h.ko (by decide)
  have n1 : some gc ≠ vO.ownBlock := fun e => ((Kd.S_R h.ro).1 gc e.symm).2 rfl
  have n2 := Kd.R_ne (Kd.S_R h.ro) h.kf (by decide)
  have n3 := Kd.R_ne (Kd.S_R h.ro) h.kw (by decide)
  have k0 := blk_grown h.ko hg n0
  have k1 := blk_grown h.kc hg n1
  have k2 := blk_grown h.kf hg n2
  have k3 := blk_grown h.kw hg n3
  have rc := Kd.R_grown h.rc hg (fun k hk => by subst hk; exact fun e => ((Kd.S_R h.ro).1 _ e.symm).1 rfl)
  exact ⟨below_set hB h.so, (blk_put (cs := #[vO]) k0 0 v5 rfl), Kd.S_mono (Kd.S_far (p := ⟨go, 0, none⟩) (Kd.S_types hR k0 (by decide)) (fun k hk => hk.2) v5) (fun k hk => hk.1), blk_far (p := ⟨go, 0, none⟩) k1 (blk_ne k1 k0 (by decide)) _, Kd.R_set rc k0 (by decide) 0 v5,
    blk_far (p := ⟨go, 0, none⟩) k2 (blk_ne k2 k0 (by decide)) _, blk_far (p := ⟨go, 0, none⟩) k3 (blk_ne k3 k0 (by decide)) _, h.so, h.sb, by have := hg.size; have := h.lb; simp [World.setCell]; omega, h.nb⟩
end
def Kp (w w' : World) : Prop := ∀ (k : Nat) (cs : Array Value), w.heap[k]? = some (.cells cs 107 (0, 0)) → w'.heap[k]? = some (.cells cs 107 (0, 0))
theorem Kp.refl (w : World) : Kp w w := fun _ _ h => h
theorem Kp.trans {w w1 w2 : World} (a : Kp w w1) (b : Kp w1 w2) : Kp w w2 := fun k cs h => b k cs (a k cs h)
theorem Kp.below {w w1 : World} (h : Below w.heap.size w w1) : Kp w w1 := fun k cs hk => blk_below hk h
theorem Kp.put {w0 w : World} {go gc gf gw bc cc : Nat} {v r : Int} {A : Option Addr} {c : Nat} {l : List S107} {vO : Value} {out : List (List Int)} {cube : List Int} (h : Pw w0 w go gc gf gw bc cc v r A c l vO out cube) (i : Nat) (x : Value) : Kp w (w.setCell ⟨bc, i, none⟩ x) := fun k cs hk =>
  blk_far (p := ⟨bc, i, none⟩) hk (fun e => Kd.R_ne h.rc hk (by decide) (by rw [e]; rfl)) _
theorem Kp.push {w0 w w' : World} {go gc gf gw bc cc : Nat} {v r : Int} {A : Option Addr} {c : Nat} {l : List S107} {vO : Value} {out : List (List Int)} {cube : List Int} (h : Pw w0 w go gc gf gw bc cc v r A c l vO out cube) (hg : w.grownBy w' vO.ownBlock) (v5 : Value) : Kp w (w'.setCell ⟨go, 0, none⟩ v5) := fun k cs hk => by
  have k0 := blk_grown h.ko hg (Kd.R_ne (Kd.S_R h.ro) h.ko (by decide))
  have k1 := blk_grown hk hg (Kd.R_ne (Kd.S_R h.ro) hk (by decide))
  exact blk_far (p := ⟨go, 0, none⟩) k1 (blk_ne k1 k0 (by decide)) _
def PPost (w : World) (w0 : World) (go gc gf gw bc cc : Nat) (v r : Int) (A : Option Addr) (c : Nat) (l : List S107) (out : List (List Int)) (cube : List Int) (e : Ending) (w' : World) : Prop :=
  e = .returned (.tuple #[]) ∧ Kp w w' ∧ ∃ vO, Pw w0 w' go gc gf gw bc cc v r A c l vO out cube
def tb_Paths1_1.T : Bool × List (List Nat × List Nat) := (true, [([], []), ([], []), ([1], [1]), ([2], [2]), ([0, 3, 2], [0, 3]), ([4, 4, 0, 1, 2, 3, 4], [4])])
def tb_Paths1_1.B : List Nat := [0, 0, 2, 6, 15, 31]
theorem tb_Paths1_1.tab : rtab .any (opsOf Try.f112 1) = tb_Paths1_1.T := by kernel_rfl
theorem tb_Paths1_1.bits : waitsOk tb_Paths1_1.T.2 tb_Paths1_1.B = true := by kernel_rfl
set_option maxRecDepth 100000 in
set_option maxHeartbeats 4000000 in
theorem path_zero (w0 w : World) (go gc gf gw bc cc : Nat) (v r : Int) (A : Option Addr) (c : Nat) (l : List S107) (vO : Value) (out : List (List Int)) (cube : List Int) (h : Pw w0 w go gc gf gw bc cc v r A c l vO out cube) (p : Int) (hp : p < 1) :
    Calls Try.prog 112 #[.int .i64 p, .pointer (some ⟨go, 0, none⟩), .pointer (some ⟨gc, 0, none⟩), .pointer (some ⟨gf, 0, none⟩), .pointer (some ⟨gw, 0, none⟩)] w (PPost w w0 go gc gf gw bc cc v r A c l out cube) := by
  have H := Aside0.mk h
  have q0 : (p == 1) = false := by simp; omega
  have q1 : (p = 1) = False := eq_false (by omega)
  have q2 : (p < 2) = True := eq_true (by omega)
  have q3 : decide (p < 2) = true := decide_eq_true (by omega)
  clear h
  go_enter Try.func112, Try.ntmps112
  go_wp2
  first | go_end0 | ((try simp only [Exit.inBlock, Exit.then]); refine bodyPost_ret (results_none rfl _ _ _) rfl ?_)
  exact ⟨by rfl, Kp.refl _, vO, H.out⟩
set_option maxRecDepth 100000 in
set_option maxHeartbeats 4000000 in
theorem path_one (w0 w : World) (go gc gf gw bc cc : Nat) (v r : Int) (A : Option Addr) (c : Nat) (l : List S107) (vO : Value) (out out' : List (List Int)) (cube : List Int) (ho : out ++ [cube] = out') (h : Pw w0 w go gc gf gw bc cc v r A c l vO out cube) (hn : out.length < 1000000000) (hq : cube.length ≤ 12) :
    Calls Try.prog 112 #[.int .i64 1, .pointer (some ⟨go, 0, none⟩), .pointer (some ⟨gc, 0, none⟩), .pointer (some ⟨gf, 0, none⟩), .pointer (some ⟨gw, 0, none⟩)] w (PPost w w0 go gc gf gw bc cc v r A c l out' cube) := by
  have H := Aside0.mk (h.below (below_drew (Below.refl _ _)))
  have HN := Aside0.mk hn
  have HOO := Aside0.mk ho
  have HQ := Aside0.mk hq
  have j0 := (blk_cell h.ko 0).trans rfl
  have j1 := (blk_cell h.kc 0).trans rfl
  obtain ⟨AO, cO, rfl, hcO, _⟩ := Kd.R_reads (Kd.S_R h.ro)
  clear h hn hq ho
  go_enter Try.func112, Try.ntmps112
  go_wp2
  refine start_ (n := 6) (S := fun w' => (w'.cell? ⟨go, 0, none⟩ = some (.slice AO out.length cO)) ∧ (w'.cell? ⟨gc, 0, none⟩ = some (.slice (some ⟨bc, 0, none⟩) cube.length cc))) (ds := [4, 5]) #[false, false, false, false, false, false] (by kernel_rfl) rfl rfl ⟨j0, j1⟩ (fun hHeld => ?_)
  refine with_tabW tb_Paths1_1.tab tb_Paths1_1.bits (fun HT_ HW_ => ?_)
  refine take_ (i := 0) (N := some 9) (v := ?_) (a' := ?_) #[true, false, false, false, false, false] rfl rfl (take_ofW HT_.out HW_.out (by kernel_rfl)) (fun _ _ _ h => h) (Or.inl ⟨by rfl, ?_⟩) hHeld ?_ ?_
  rotate_left
  · rintro w' ⟨s0, s1⟩
    go_simp
    with_reducible rfl
  rotate_left
  · simp only [Act.put, List.setIfInBounds_toArray, List.set_cons_zero, List.set_cons_succ, i64_w, i32_w]
    rfl
  refine take_ (i := 1) (N := some 10) (v := ?_) (a' := ?_) #[true, true, false, false, false, false] rfl rfl (take_ofW HT_.out HW_.out (by kernel_rfl)) (fun _ _ _ h => h) (Or.inl ⟨by rfl, ?_⟩) hHeld ?_ ?_
  rotate_left
  · rintro w' ⟨s0, s1⟩
    go_simp
    with_reducible rfl
  rotate_left
  · simp only [Act.put, List.setIfInBounds_toArray, List.set_cons_zero, List.set_cons_succ, i64_w, i32_w]
    rfl
  refine one_ (i := 2) (N := some 11) #[true, true, true, false, false, false] rfl rfl (one_of HT_.out (by kernel_rfl)) (by decide) (fun K hK => ?_)
  refine goes_ Try.func76 (by kernel_rfl) rfl #[.slice (some ⟨bc, 0, none⟩) cube.length cc] (by rfl) rfl rfl (by simp only [List.map_toArray, List.map_cons, List.map_nil]; rfl) ?_
  refine (cloneI_calls (some ⟨bc, 0, none⟩) cc cube w.drew (Kd.R_reads' H.out.rc).2.2 (Kd.R_reads' H.out.rc).2.1 (by have := HQ.out; omega)).mono ?_
  rintro e wk ⟨vk, rfl, hRk, hBk⟩
  obtain ⟨Ak, ck, rfl, _, _⟩ := Kd.R_reads hRk
  refine ⟨_, rfl, ?_⟩
  have HK := Aside0.mk (H.out.below hBk)
  have hf : ∀ k, w.drew.heap.size ≤ k → (k ≠ bc ∧ k ≠ gc) ∧ some k ≠ (Value.slice AO out.length cO).ownBlock := fun k hk => ⟨⟨by have := H.out.lb; omega, by have := blk_lt H.out.kc; omega⟩, fun e => by have := Kd.R_lt (Kd.S_R H.out.ro) _ e.symm; omega⟩
  have hM : DI.M wk w0.heap.size (fun k => w.drew.heap.size ≤ k) cube [.slice Ak cube.length ck] := ⟨_, rfl, Kd.R_lower (Kd.R_mono (Kd.R_bound hRk) (fun k hk => hk.2.1)) H.out.bel.size⟩
  have HF := Aside0.mk (And.intro hf hM)
  have hal : Aside0 ((out.length + 1) * 24 ≤ 140737488355328) := ⟨by have := HN.out; omega⟩
  have hsk := Aside0.mk hBk.size
  have hBk' := Aside0.mk hBk
  have HSO : Aside0 (Kd.S DI 82 wk w0.heap.size (fun k => (k ≠ bc ∧ k ≠ gc) ∧ ¬ w.drew.heap.size ≤ k) (.slice AO out.length cO) out) := ⟨Kd.S_below (Kd.S_mono (Kd.S_bound H.out.ro) (fun k hk => ⟨hk.1, by have := hk.2.2.1; omega⟩)) hBk⟩
  clear hf hM hRk hBk
  refine hK.out _ _ ⟨(blk_cell HK.out.ko 0).trans rfl, (blk_cell HK.out.kc 0).trans rfl⟩ (fun hHeld => ?_)
  clear hK K
  refine norm_ (a' := ?_) ?_ ?_
  rotate_left
  · show Act.put _ (some 11) _ = _
    (try simp only [Act.put, List.setIfInBounds_toArray, List.set_cons_zero, List.set_cons_succ, i64_w, i32_w])
    rfl
  refine one_ (i := 3) (N := some 12) #[true, true, true, true, false, false] rfl rfl (one_of HT_.out (by kernel_rfl)) (by decide) (fun K hK => ?_)
  refine value_ (w1 := ?_) (v := ?_) (by rfl) rfl ?_ ?_
  rotate_left 2
  · go_simp
    constructor
    · rfl
    · rfl
  refine hK.out _ _ ⟨(blk_cell (blk_alloc HK.out.ko _) 0).trans rfl, (blk_cell (blk_alloc HK.out.kc _) 0).trans rfl⟩ (fun hHeld => ?_)
  clear hK K
  refine norm_ (a' := ?_) ?_ ?_
  rotate_left
  · show Act.put _ (some 12) _ = _
    (try simp only [Act.put, List.setIfInBounds_toArray, List.set_cons_zero, List.set_cons_succ, i64_w, i32_w])
    rfl
  refine last_ (i := 4) (N := some 13) #[true, true, true, true, true, false] rfl rfl (one_of HT_.out (by kernel_rfl)) (by decide) (fun K hK => ?_)
  refine Kd.S_append_step DI (w0 := w0) (W := wk) w0.heap.size (by rfl) (.tmp 9) (.tmp 12) 77 82 _ 24 rfl Try.underlying77 info82 rfl (by decide) (by decide) (.slice AO out.length cO) out cube [.slice Ak cube.length ck] (fun k => k ≠ bc ∧ k ≠ gc) _ rfl rfl HF.out.2 HF.out.1 (fun k hk => (HF.out.1 k (Nat.le_trans hsk.out hk)).1) HSO.out HK.out.bel HK.out.bel.size hal.out ?_
  intro v5 w5 hR5 hB5 hg5 hat5
  rw [HOO.out] at hR5
  obtain ⟨A5, c5, rfl, _, _⟩ := Kd.R_reads (Kd.S_R hR5)
  have HP := Aside0.mk (HK.out.push hR5 hB5 hg5)
  have KK := Aside0.mk ((Kp.below (below_drew (Below.refl _ _))).trans ((Kp.below hBk'.out).trans (Kp.push HK.out hg5 (.slice A5 out'.length c5))))
  have k0 := blk_grown HK.out.ko hg5 (Kd.R_ne (Kd.S_R HK.out.ro) HK.out.ko (by decide))
  have c0 := (blk_cell k0 0).trans rfl
  have f0 := blk_frozen k0 0
  clear hR5 hB5 hg5 hat5 k0
  refine hK.out _ _ ?_
  clear hK K
  refine norm_ (a' := ?_) ?_ ?_
  rotate_left
  · show Act.put _ (some 13) _ = _
    (try simp only [Act.put, List.setIfInBounds_toArray, List.set_cons_zero, List.set_cons_succ, i64_w, i32_w])
    rfl
  refine last_ (i := 5) (N := none) #[true, true, true, true, true, true] rfl rfl (one_of HT_.out (by kernel_rfl)) (by decide) (fun K hK => ?_)
  refine skip_ (w1 := ?_) (by rfl) rfl ?_ ?_
  rotate_left
  · go_simp
    rfl
  clear c0 f0
  refine hK.out _ _ ?_
  clear hK K
  refine norm_ (a' := ?_) ?_ ?_
  rotate_left
  · rfl
  refine done_ (done_of HT_.out (by kernel_rfl)) ?_
  go_wp2
  first | go_end0 | ((try simp only [Exit.inBlock, Exit.then]); refine bodyPost_ret (results_none rfl _ _ _) rfl ?_)
  exact ⟨by rfl, KK.out, _, HP.out⟩
set_option maxRecDepth 100000 in
set_option maxHeartbeats 4000000 in
theorem path_on (w0 w : World) (go gc gf gw bc cc : Nat) (v r : Int) (A : Option Addr) (c : Nat) (l : List S107) (vO : Value) (out out1 out2 : List (List Int)) (cube : List Int) (h : Pw w0 w go gc gf gw bc cc v r A c l vO out cube) (hC : Kd.C k107 w A l.length l) (p : Int) (n : S107) (hp : 2 ≤ p) (hl : p < l.length + 2) (hll : l.length ≤ 1000000000)
    (hn : n = rd_T107 l (p - 2)) (h0 : 0 ≤ n.f0) (h1 : n.f0 < cube.length) (hq : cube.length ≤ 12) (hcube : cube.set n.f0.toNat 2 = cube)
    (IH1 : ∀ W vO, Below w0.heap.size w0 W → Pw w0 W go gc gf gw bc cc v r A c l vO out (cube.set n.f0.toNat 0) → Calls Try.prog 112 #[.int .i64 n.f1, .pointer (some ⟨go, 0, none⟩), .pointer (some ⟨gc, 0, none⟩), .pointer (some ⟨gf, 0, none⟩), .pointer (some ⟨gw, 0, none⟩)] W (PPost W w0 go gc gf gw bc cc v r A c l out1 (cube.set n.f0.toNat 0)))
    (IH2 : ∀ W vO, Below w0.heap.size w0 W → Pw w0 W go gc gf gw bc cc v r A c l vO out1 (cube.set n.f0.toNat 1) → Calls Try.prog 112 #[.int .i64 n.f2, .pointer (some ⟨go, 0, none⟩), .pointer (some ⟨gc, 0, none⟩), .pointer (some ⟨gf, 0, none⟩), .pointer (some ⟨gw, 0, none⟩)] W (PPost W w0 go gc gf gw bc cc v r A c l out2 (cube.set n.f0.toNat 1))) :
    Calls Try.prog 112 #[.int .i64 p, .pointer (some ⟨go, 0, none⟩), .pointer (some ⟨gc, 0, none⟩), .pointer (some ⟨gf, 0, none⟩), .pointer (some ⟨gw, 0, none⟩)] w (PPost w w0 go gc gf gw bc cc v r A c l out2 cube) := by
  have H := Aside0.mk h
  have HC := Aside0.mk hC
  have I1 := Aside0.mk IH1
  have I2 := Aside0.mk IH2
  have HQ := Aside0.mk (And.intro hq (And.intro hcube h1))
  have q0 : (p == 1) = false := by simp; omega
  have q1 : (p = 1) = False := eq_false (by omega)
  have q2 : (p < 2) = False := eq_false (by omega)
  have q3 : decide (p < 2) = false := decide_eq_false (by omega)
  have q4 : wrap64 (p - 2) = p - 2 := by unfold wrap64; omega
  have q5 : (p - 2 < 0) = False := eq_false (by omega)
  have q6 : (p - 2 < (l.length : Int)) = True := eq_true (by omega)
  have j0 := (blk_cell h.kf 1).trans rfl
  obtain ⟨ad, rfl, x0, x1, x2⟩ := at_T107 hC (p - 2) (by omega) (by omega)
  rw [← hn] at x0 x1 x2
  obtain ⟨W1, hW1⟩ : ∃ W, W = w.alloc (Obj.cells #[.int .i64 n.f0, .int .i64 n.f1, .int .i64 n.f2] 107) := ⟨_, rfl⟩
  have hB1 : Below w.heap.size w W1 := by rw [hW1]; exact below_alloc (Below.refl _ _) _
  have bx : W1.heap[w.heap.size]? = some (.cells #[.int .i64 n.f0, .int .i64 n.f1, .int .i64 n.f2] 107 (0, 0)) := by rw [hW1]; exact blk_new _ _
  have D1 := h.below hB1
  obtain ⟨e2, e3⟩ := Kd.R_celln 0 D1.rc n.f0 h0 h1
  have D2 := D1.put n.f0 0
  have K2 := (Kp.below hB1).trans (Kp.put D1 n.f0.toNat (.int .i64 0))
  have bx2 := Kp.put D1 n.f0.toNat (.int .i64 0) _ _ bx
  have e4 : _ = some (fnP go gc gf gw) := (blk_cell D2.kw 0).trans rfl
  unfold fnP at e4
  have e5 := (blk_cell bx2 0).trans rfl
  have e6 := (blk_cell bx2 1).trans rfl
  have e7 := (blk_cell bx2 2).trans rfl
  have f1 : W1.cell? ⟨gc, 0, none⟩ = some (.slice (some ⟨bc, 0, none⟩) cube.length cc) := (blk_cell D1.kc 0).trans rfl
  have f2 := (blk_cell bx 0).trans rfl
  obtain ⟨W2, hW2⟩ : ∃ W, W = W1.setCell ⟨bc, n.f0.toNat, none⟩ (.int .i64 0) := ⟨_, rfl⟩
  rw [← hW2] at D2 K2 bx2 e4 e5 e6 e7
  have HD2 := Aside0.mk D2
  have HK2 := Aside0.mk K2
  have HX2 := Aside0.mk bx2
  rw [hW1] at e2 e3 f1 f2 hW2
  rw [hW2] at e4 e5 e6 e7
  have i0 : (n.f0 < 0) = False := eq_false (by omega)
  have i1 : (n.f0 < (cube.length : Int)) = True := eq_true h1
  clear h hC IH1 IH2 hn hcube hq D1 D2 K2 bx bx2 hB1 hW1
  go_enter Try.func112, Try.ntmps112
  go_wp2_with fail
  rw [← hW2]
  clear hW2 e2 e3 e4 e5 e6 e7 f1 f2 j0 x0 x1 x2
  refine (I1.out W2 vO HD2.out.bel HD2.out).mono ?_
  rintro e w3 ⟨rfl, hK3, vO3, hD3⟩
  have e8 := (blk_cell hD3.kc 0).trans rfl
  have bx3 := hK3 _ _ HX2.out
  have f3 := (blk_cell bx3 0).trans rfl
  obtain ⟨e9, e10⟩ := Kd.R_celln 0 hD3.rc n.f0 h0 (by rw [List.length_set]; exact h1)
  have D4 := hD3.put n.f0 1
  have bx4 := Kp.put hD3 n.f0.toNat (.int .i64 1) _ _ bx3
  have K4 := hK3.trans (Kp.put hD3 n.f0.toNat (.int .i64 1))
  rw [List.set_set] at D4
  rw [List.length_set] at e8
  have g4 : _ = some (fnP go gc gf gw) := (blk_cell D4.kw 0).trans rfl
  unfold fnP at g4
  have g5 := (blk_cell bx4 0).trans rfl
  have g6 := (blk_cell bx4 1).trans rfl
  have g7 := (blk_cell bx4 2).trans rfl
  obtain ⟨W4, hW4⟩ : ∃ W, W = w3.setCell ⟨bc, n.f0.toNat, none⟩ (.int .i64 1) := ⟨_, rfl⟩
  have HD4 := Aside0.mk (show Pw w0 W4 go gc gf gw bc cc v r (some ad) c l vO3 out1 (cube.set n.f0.toNat 1) by rw [hW4]; exact D4)
  have HX4 := Aside0.mk (show W4.heap[w.heap.size]? = some (.cells #[.int .i64 n.f0, .int .i64 n.f1, .int .i64 n.f2] 107 (0, 0)) by rw [hW4]; exact bx4)
  have HK4 := Aside0.mk (show Kp w W4 by rw [hW4]; exact HK2.out.trans K4)
  clear hK3 hD3 D4 bx3 bx4 K4
  go_wp2_with fail
  rw [← hW4]
  clear hW4 e8 e9 e10 f3 g4 g5 g6 g7
  refine (I2.out W4 vO3 HD4.out.bel HD4.out).mono ?_
  rintro e w5 ⟨rfl, hK5, vO5, hD5⟩
  have e8 := (blk_cell hD5.kc 0).trans rfl
  have bx5 := hK5 _ _ HX4.out
  have f3 := (blk_cell bx5 0).trans rfl
  obtain ⟨e9, e10⟩ := Kd.R_celln 0 hD5.rc n.f0 h0 (by rw [List.length_set]; exact h1)
  have D6 := hD5.put n.f0 2
  have K6 := hK5.trans (Kp.put hD5 n.f0.toNat (.int .i64 2))
  rw [List.set_set, HQ.out.2.1] at D6
  rw [List.length_set] at e8
  have HD6 := Aside0.mk D6
  have HK6 := Aside0.mk (HK4.out.trans K6)
  clear hK5 hD5 D6 bx5 K6
  go_wp2
  first | go_end0 | ((try simp only [Exit.inBlock, Exit.then]); refine bodyPost_ret (results_none rfl _ _ _) rfl ?_)
  exact ⟨by rfl, HK6.out, _, HD6.out⟩
theorem path_calls (w0 : World) (go gc gf gw bc cc : Nat) (v r : Int) (A : Option Addr) (c : Nat) (l : List S107) (hT : WF (TM v l)) (hC : Kd.C k107 w0 A l.length l) (hll : l.length ≤ 1000000000) (hv : v ≤ 12) :
    ∀ (k : Nat) (p : Int) (cube : List Int) (out : List (List Int)) (vO : Value) (W : World), Pw w0 W go gc gf gw bc cc v r A c l vO out cube → Pl (TM v l) p → v - asksP (TM v l) p < k → (cube.length : Int) = v → (∀ u : Nat, asksP (TM v l) p ≤ u → (u : Int) < v → cube[u]? = some 2) → out.length + (pathP l k p cube).length < 1000000000 →
    Calls Try.prog 112 #[.int .i64 p, .pointer (some ⟨go, 0, none⟩), .pointer (some ⟨gc, 0, none⟩), .pointer (some ⟨gf, 0, none⟩), .pointer (some ⟨gw, 0, none⟩)] W (PPost W w0 go gc gf gw bc cc v r A c l (out ++ pathP l k p cube) cube)
  | 0, p, cube, out, vO, W, h, hp, hk, hcv, hc2, hlen => by
    have := hT.asks_le hp
    rw [TM_vars] at this
    exfalso
    have hk' : v - asksP (TM v l) p < 0 := hk
    omega
  | k + 1, p, cube, out, vO, W, h, hp, hk, hcv, hc2, hlen => by
    have hp0 := hp.1
    by_cases h1 : p < 1
    · have e : pathP l (k + 1) p cube = [] := by
        simp only [pathP]
        rw [if_neg (by omega), if_pos (by omega)]
      rw [e, List.append_nil]
      exact path_zero w0 W go gc gf gw bc cc v r A c l vO out cube h p h1
    by_cases h2 : p = 1
    · subst h2
      have e : pathP l (k + 1) 1 cube = [cube] := by
        simp [pathP]
      rw [e] at hlen ⊢
      simp only [List.length_singleton] at hlen
      exact path_one w0 W go gc gf gw bc cc v r A c l vO out (out ++ [cube]) cube rfl h (by omega) (by omega)
    · have hpl : p < (TM v l).ns.length := hp.2
      have hpl2 := hpl
      rw [TM_len] at hpl2
      have hge : 2 ≤ p := by omega
      have hn := TM_get v l p hge
      have ok := hT.ok p hge hpl
      have ha : asksP (TM v l) p = (getN (TM v l) p).f0 := asks_ge (by omega)
      rw [TM_vars] at ok
      obtain ⟨n, hnn⟩ : ∃ n, n = getN (TM v l) p := ⟨_, rfl⟩
      rw [← hnn] at ok ha hn
      have e : pathP l (k + 1) p cube = pathP l k n.f1 (cube.set n.f0.toNat 0) ++ pathP l k n.f2 (cube.set n.f0.toNat 1) := by
        simp only [pathP]
        rw [if_neg h2, if_neg (by omega), ← hn]
      rw [e] at hlen ⊢
      rw [List.length_append] at hlen
      obtain ⟨k0, k1, _, k3, k4, k5, k6, k7, k8⟩ := ok
      have hf : n.f0.toNat < cube.length := by omega
      have hset : cube.set n.f0.toNat 2 = cube := by
        have := hc2 n.f0.toNat (by omega) (by omega)
        rw [List.getElem?_eq_getElem hf] at this
        injection this with this
        rw [← this, List.set_getElem_self]
      have hsub : ∀ (x : Int) (q : Int), n.f0 < asksP (TM v l) q → ∀ u : Nat, asksP (TM v l) q ≤ u → (u : Int) < v → (cube.set n.f0.toNat x)[u]? = some 2 := fun x q hq u hu1 hu2 => by
        rw [List.getElem?_set_ne (by omega)]
        exact hc2 u (by omega) hu2
      rw [← List.append_assoc]
      refine path_on w0 W go gc gf gw bc cc v r A c l vO out (out ++ pathP l k n.f1 (cube.set n.f0.toNat 0)) (out ++ pathP l k n.f1 (cube.set n.f0.toNat 0) ++ pathP l k n.f2 (cube.set n.f0.toNat 1)) cube h (Kd.C_below hC h.bel) p n hge (by omega) hll ?_ k0 (by omega) (by omega) hset ?_ ?_
      · rw [hn]; rfl
      · intro W1 v1 _ h1
        exact path_calls w0 go gc gf gw bc cc v r A c l hT hC hll hv k n.f1 _ out v1 W1 h1 ⟨k3, by omega⟩ (by omega) (by rw [List.length_set]; exact hcv) (hsub 0 n.f1 k7) (by omega)
      · intro W1 v1 _ h1
        exact path_calls w0 go gc gf gw bc cc v r A c l hT hC hll hv k n.f2 _ _ v1 W1 h1 ⟨k5, by omega⟩ (by omega) (by rw [List.length_set]; exact hcv) (hsub 1 n.f2 k8) (by rw [List.length_append]; omega)
end Go.Proofs.Ytlplphgoldkoeaa.HTab
end

section
set_option linter.unusedVariables false
set_option linter.unusedSimpArgs false
namespace Go.Proofs.Ytlplphgoldkoeaa.X
open Go.RowKit Go.Proofs.YtlplphgoldkoeaaW.PrintWords Go.Proofs.YtlplphgoldkoeaaW.PrintLast Go.Proofs.YtlplphgoldkoeaaW.PrintMore
attribute [local go_sem] max2_int min2_int max_two min_two max_three min_three max_four min_four   -- for this text's walks alone
set_option linter.unusedVariables false
set_option linter.unusedSimpArgs false
def bits_Mul64.f (a0 : Int) (a1 : Int) : Option (Int × Int) := some (IntKind.u64.wrap ((IntKind.u64.wrap ((IntKind.u64.wrap ((a0 / 4294967296) * (a1 / 4294967296))) + ((IntKind.u64.wrap ((IntKind.u64.wrap ((a0 / 4294967296) * (Go.bits .and .u64 a1 4294967295))) + ((IntKind.u64.wrap ((Go.bits .and .u64 a0 4294967295) * (Go.bits .and .u64 a1 4294967295))) / 4294967296))) / 4294967296))) + ((IntKind.u64.wrap ((Go.bits .and .u64 (IntKind.u64.wrap ((IntKind.u64.wrap ((a0 / 4294967296) * (Go.bits .and .u64 a1 4294967295))) + ((IntKind.u64.wrap ((Go.bits .and .u64 a0 4294967295) * (Go.bits .and .u64 a1 4294967295))) / 4294967296))) 4294967295) + (IntKind.u64.wrap ((Go.bits .and .u64 a0 4294967295) * (a1 / 4294967296))))) / 4294967296)), IntKind.u64.wrap (a0 * a1))
set_option maxHeartbeats 8000000 in
set_option maxRecDepth 100000 in
theorem bits_Mul64.calls (a0 : Int) (a1 : Int) (r1 : Int) (r2 : Int) (w : World) (h : bits_Mul64.f a0 a1 = some (r1, r2)) :
    Calls Try.prog 141 #[.int .u64 a0, .int .u64 a1] w fun e w' => e = .returned (.tuple #[.int .u64 r1, .int .u64 r2]) ∧ Drawn0 w w' := by
  have H : (some (IntKind.u64.wrap ((IntKind.u64.wrap ((IntKind.u64.wrap ((a0 / 4294967296) * (a1 / 4294967296))) + ((IntKind.u64.wrap ((IntKind.u64.wrap ((a0 / 4294967296) * (Go.bits .and .u64 a1 4294967295))) + ((IntKind.u64.wrap ((Go.bits .and .u64 a0 4294967295) * (Go.bits .and .u64 a1 4294967295))) / 4294967296))) / 4294967296))) + ((IntKind.u64.wrap ((Go.bits .and .u64 (IntKind.u64.wrap ((IntKind.u64.wrap ((a0 / 4294967296) * (Go.bits .and .u64 a1 4294967295))) + ((IntKind.u64.wrap ((Go.bits .and .u64 a0 4294967295) * (Go.bits .and .u64 a1 4294967295))) / 4294967296))) 4294967295) + (IntKind.u64.wrap ((Go.bits .and .u64 a0 4294967295) * (a1 / 4294967296))))) / 4294967296)), IntKind.u64.wrap (a0 * a1))) = some (r1, r2) := h
  clear h
  simp only [Option.some.injEq, Prod.mk.injEq] at H
  obtain ⟨rfl, rfl⟩ := H
  go_enter Try.func141, Try.ntmps141
  go_wp2
  go_ret2
  exact ⟨by first | rfl | (simp; done) | (simp [*]; done), by repeat (first | exact Drawn0.refl _ | apply Drawn0.step)⟩
end Go.Proofs.Ytlplphgoldkoeaa.X
end

section
set_option linter.unusedVariables false
set_option linter.unusedSimpArgs false
namespace Go.Proofs.Ytlplphgoldkoeaa.X
open Go.RowKit Go.Proofs.YtlplphgoldkoeaaW.PrintWords Go.Proofs.YtlplphgoldkoeaaW.PrintLast Go.Proofs.YtlplphgoldkoeaaW.PrintMore
attribute [local go_sem] max2_int min2_int max_two min_two max_three min_three max_four min_four   -- for this text's walks alone
set_option linter.unusedVariables false
set_option linter.unusedSimpArgs false
def bits_Mul.f (a0 : Int) (a1 : Int) : Option (Int × Int) := (bits_Mul64.f a0 a1).bind fun bt891 => (some (bt891.1, bt891.2))
set_option maxHeartbeats 8000000 in
set_option maxRecDepth 100000 in
theorem bits_Mul.calls (a0 : Int) (a1 : Int) (r1 : Int) (r2 : Int) (w : World) (h : bits_Mul.f a0 a1 = some (r1, r2)) :
    Calls Try.prog 133 #[.int .u64 a0, .int .u64 a1] w fun e w' => e = .returned (.tuple #[.int .u64 r1, .int .u64 r2]) ∧ Drawn0 w w' := by
  have H : ((bits_Mul64.f a0 a1).bind fun bt891 => (some (bt891.1, bt891.2))) = some (r1, r2) := h
  clear h
  replace H := Option.bind_eq_some_iff.mp H
  obtain ⟨⟨t891, t892⟩, A30, H⟩ := H
  replace H : (some (t891, t892)) = some (r1, r2) := H
  have A3 := Aside0.mk A30
  clear A30
  simp only [Option.some.injEq, Prod.mk.injEq] at H
  obtain ⟨rfl, rfl⟩ := H
  go_enter Try.func133, Try.ntmps133
  go_wp2_with (first | ((with_reducible refine gate_callee (f := 141) rfl ?_); refine goesL_ (some 25) rfl rfl Try.func141 (by kernel_rfl) rfl #[.int .u64 a0, .int .u64 a1] rfl (by (try simp only [List.map_toArray, List.map_cons, List.map_nil]); first | done | rfl | (simp only [List.length_drop, List.length_take]; rfl)) ?_; (with_reducible refine (bits_Mul64.calls a0 a1 t891 t892 _ A3.out).mono ?_); rintro e w' ⟨rfl, ⟨nd, rfl⟩⟩; refine ⟨_, rfl, ?_⟩))
  go_ret2
  exact ⟨by first | rfl | (simp; done) | (simp [*]; done), by repeat (first | exact Drawn0.refl _ | apply Drawn0.step)⟩
end Go.Proofs.Ytlplphgoldkoeaa.X
end

section
set_option linter.unusedVariables false
set_option linter.unusedSimpArgs false
namespace Go.Proofs.Ytlplphgoldkoeaa.HTab
open Go.RowKit Go.Proofs.YtlplphgoldkoeaaW.PrintWords Go.Proofs.YtlplphgoldkoeaaW.PrintLast Go.Proofs.YtlplphgoldkoeaaW.PrintMore Go.Proofs.Ytlplphgoldkoeaa.HMap Go.Proofs.Ytlplphgoldkoeaa.X
set_option linter.unusedVariables false
set_option linter.unusedSimpArgs false
theorem copy_front {P : Program} {w : World} {t e : TypeId} (ty : TypeId) {base g cap N n : Nat} {ok : Nat → Prop} {x : Int} (ht : P.underlying t = some (.slice e)) (hinfo : (P.info? e).map (·.size) = some 1)
    (h : (Kd.int .i64).R e w base ok (.slice (some ⟨g, 0, none⟩) N cap) (List.replicate n x ++ List.replicate (N - n) 0)) (hn : n ≤ N) :
    ∃ w1, (Builtin.copy_ #[t, t] ty #[.slice (some ⟨g, n, none⟩) (N - n) (cap - n), .slice (some ⟨g, 0, none⟩) n cap]).run P w = .ok (goInt ((min n (N - n) : Nat) : Int)) w1 ∧
      (Kd.int .i64).R e w1 base ok (.slice (some ⟨g, 0, none⟩) N cap) (List.replicate (n + min n (N - n)) x ++ List.replicate (N - (n + min n (N - n))) 0) ∧ w.grownBy w1 (some g) := by
  have hlen : (List.replicate n x ++ List.replicate (N - n) (0 : Int)).length = N := by simp; omega
  have hown := Kd.own_of_R h
  rw [hlen] at hown
  obtain ⟨m, hm⟩ : ∃ m, m = min n (N - n) := ⟨_, rfl⟩
  rw [← hm]
  rcases Nat.eq_zero_or_pos m with h0 | hp
  · refine ⟨w, ?_, ?_, World.grownBy.refl w _⟩
    · rw [h0]
      exact run_copy_none w t t ty e _ _ _ _ _ _ ht hinfo (by rw [h0] at hm; exact hm.symm)
    · rw [h0, Nat.add_zero]; exact h
  · rcases hown.2 with ⟨hv, _⟩ | ⟨g', cap', cur, hv, hb, hh, hnc, hcm, hcs, htake⟩
    · cases hv
    · obtain ⟨rfl, rfl⟩ : g = g' ∧ cap = cap' := by
        injection hv with e1 e2 e3
        injection e1 with e1
        injection e1 with e1
        exact ⟨e1, e3⟩
      have hcs1 : cur.size = cap := by omega
      have htk : cur.toList.take N = (List.replicate n x ++ List.replicate (N - n) 0).map (Value.int .i64) := by
        have := htake
        rw [Nat.mul_one] at this
        exact this
      have hcell : ∀ j, j < n → cur[j]? = some (.int .i64 x) := fun j hj => by
        have h1 : (cur.toList.take N)[j]? = some (.int .i64 x) := by
          rw [htk, List.getElem?_map, List.getElem?_append_left (by simp; omega), List.getElem?_replicate, if_pos hj]
          rfl
        rw [List.getElem?_take, if_pos (by omega)] at h1
        simpa using h1
      have hvals : (List.replicate m (Value.int .i64 x)).length = m := List.length_replicate
      have hr := run_copy_cells (P := P) w t t ty e g n (N - n) (cap - n) ⟨g, 0, none⟩ n cap (List.replicate m (Value.int .i64 x)) ht hinfo (by rw [hvals, hm])
        (fun j u hj => by
          rw [List.getElem?_replicate] at hj
          split at hj
          · injection hj with hj
            subst hj
            rw [add_plain, cell_of_row w g _ cur e (0, 0) hh]
            exact hcell j (by omega)
          · cases hj)
        (fun j hj => by rw [cell_of_row w g _ cur e (0, 0) hh]; rw [hvals] at hj; simp; omega) (fun j _ => blk_frozen hh _) (fun u hu => by rw [List.mem_replicate] at hu; rw [hu.2]; rfl)
      obtain ⟨cur', h3, h4, h5⟩ := setCells_row (List.replicate m (Value.int .i64 x)) n w cur hh (by rw [hvals]; omega)
      obtain ⟨s1, s2, s3, s4⟩ := setCells_same g (List.replicate m (Value.int .i64 x)) n w
      refine ⟨_, by rw [hr, hvals], Kd.R_of_own ?_ h.1, ⟨s1, s2, s3, by rw [s4]; exact Nat.le_refl _, fun k _ hk => setCells_far _ _ k (fun he => hk (by rw [he]))⟩⟩
      have hln : (List.replicate (n + m) x ++ List.replicate (N - (n + m)) (0 : Int)).length = N := by simp; omega
      rw [hln]
      refine ⟨by rw [encs_length, hln, Nat.mul_one], .inr ⟨g, cap, cur', rfl, hb, h3, hnc, hcm, by rw [h4, hcs], ?_⟩⟩
      rw [h5, Nat.mul_one, hvals]
      unfold encs
      have e1 : cur.toList.take n = List.replicate n (Value.int .i64 x) := by
        have h2 : (cur.toList.take N).take n = List.replicate n (Value.int .i64 x) := by
          rw [htk, List.map_append, List.map_replicate, List.take_append_of_le_length (by simp), List.take_of_length_le (by simp)]
        rwa [List.take_take, Nat.min_eq_left hn] at h2
      have e2 : (cur.toList.drop (n + m)).take (N - (n + m)) = List.replicate (N - (n + m)) (Value.int .i64 0) := by
        have h2 : (cur.toList.take N).drop (n + m) = List.replicate (N - (n + m)) (Value.int .i64 0) := by
          rw [htk, List.map_append, List.map_replicate, List.map_replicate, List.drop_append, show (List.replicate n (Value.int .i64 x)).drop (n + m) = [] from List.drop_eq_nil_of_le (by simp), List.nil_append, List.length_replicate, List.drop_replicate]
          congr 1
          omega
        rwa [List.drop_take] at h2
      rw [List.take_append, List.take_of_length_le (by rw [List.length_append, e1]; simp; omega), List.length_append, e1, List.length_replicate, List.length_replicate, e2]
      rw [List.map_append, List.map_replicate, List.map_replicate, List.replicate_append_replicate]
theorem mul_one_f (n : Int) (h0 : 0 ≤ n) (h1 : n ≤ 1000) : bits_Mul.f 1 n = some (0, n) := by
  obtain ⟨k, rfl⟩ : ∃ k : Nat, n = k := ⟨n.toNat, by omega⟩
  have : ∀ k : Fin 1001, bits_Mul.f 1 ((k.val : Nat) : Int) = some (0, ((k.val : Nat) : Int)) := by decide +kernel
  exact this ⟨k, by omega⟩
theorem made_slice {w : World} {base e : Nat} {ok : Nat → Prop} {v : Value} {xs : List Int} (h : (Kd.int .i64).R e w base ok v xs) (hne : ∃ b, v.ownBlock = some b ∧ base ≤ b) : ∃ g cap, v = .slice (some ⟨g, 0, none⟩) xs.length cap ∧ g < w.heap.size := by
  obtain ⟨b, hb, _⟩ := hne
  rcases (Kd.own_of_R h).2 with ⟨rfl, _⟩ | ⟨g, cap, cur, rfl, _, hh, _⟩
  · cases hb
  · exact ⟨g, cap, rfl, blk_lt hh⟩
structure Mark (p : Prop) : Prop where out : p
theorem mark_ {p : Prop} (h : Mark p) : p := h.out
def tb_RepeatI_9.T : Bool × List (List Nat × List Nat) := (true, [([], []), ([], []), ([], []), ([1, 2], [1, 2]), ([], []), ([], []), ([4, 5], [4, 5]), ([3, 6], [3, 6]), ([0, 7], [0, 7]), ([8, 7, 0, 1, 2, 3, 4, 5, 6, 7, 8], [0, 2, 5, 8])])
def tb_RepeatI_9.B : List Nat := [0, 0, 0, 6, 0, 0, 48, 126, 255, 511]
theorem tb_RepeatI_9.tab : rtab .any (opsOf Try.f111 9) = tb_RepeatI_9.T := by kernel_rfl
theorem tb_RepeatI_9.bits : waitsOk tb_RepeatI_9.T.2 tb_RepeatI_9.B = true := by kernel_rfl
set_option maxRecDepth 100000 in
set_option maxHeartbeats 4000000 in
theorem repeat_calls (x n : Int) (A : Option Addr) (c : Nat) (w : World) (hC : Kd.C (Kd.int .i64) w A 1 [x]) (h0 : 0 ≤ n) (h1 : n ≤ 1000) :
    Calls Try.prog 111 #[.slice A 1 c, .int .i64 n] w fun e w' => ∃ g cap, e = .returned (.slice (some ⟨g, 0, none⟩) n.toNat cap) ∧ (Kd.int .i64).R 3 w' w.heap.size (fun _ => True) (.slice (some ⟨g, 0, none⟩) n.toNat cap) (List.replicate n.toNat x) ∧ Below w.heap.size w w' ∧ g < w'.heap.size := by
  obtain ⟨N, rfl⟩ : ∃ k : Nat, n = k := ⟨n.toNat, by omega⟩
  rw [Int.toNat_natCast]
  have HC := Aside0.mk hC
  have q0 : ((N : Int) < 0) = False := eq_false (by omega)
  have q1 : decide ((N : Int) < 0) = false := decide_eq_false (by omega)
  have q2 : IntKind.u64.wrap (N : Int) = (N : Int) := by simp only [IntKind.wrap_u64]; omega
  have q3 : IntKind.u64.wrap 1 = 1 := by decide
  have q4 : decide ((N : Int) > 9223372036854775807) = false := decide_eq_false (by omega)
  have q4' : decide ((9223372036854775807 : Int) < (N : Int)) = false := decide_eq_false (by omega)
  have q5 : wrap64 (N : Int) = N := by unfold wrap64; omega
  have HM := Aside0.mk (mul_one_f (N : Int) (by omega) (by omega))
  clear hC
  go_enter Try.func111, Try.ntmps111
  go_wp2_with fail
  refine (bits_Mul.calls 1 (N : Int) 0 (N : Int) _ HM.out).mono ?_
  rintro e w1 ⟨rfl, ⟨m1, rfl⟩⟩
  have HB := Aside0.mk (pw_below_drewN (Below.refl w.heap.size w) m1)
  have HS : Aside0 (w.heap.size ≤ (w.drewN m1).heap.size) := ⟨HB.out.size⟩
  go_wp2_with ((with_reducible refine gate_dst (N := 30) rfl ?_); refine mark_ ?_)
  refine ⟨?_⟩
  refine Kd.R_make (Kd.int .i64) (w0 := w) w.heap.size 3 rfl (N := 30) rfl 82 _ _ rfl (N : Int) rfl rfl Try.underlying82 (.int .i64 0) 8 info3 rfl (by decide) (by omega) 0 (ok := fun _ => True) (okp := fun _ => False) rfl (fun _ h => trivial) trivial (by omega) (by rw [Int.toNat_natCast]; omega) HB.out HS.out ?_
  intro v2 w2 hR2 hB2 hg2 hne2
  obtain ⟨g, cap, rfl, hgl⟩ := made_slice hR2 (by obtain ⟨b, k1, k2⟩ := hne2; exact ⟨b, k1, Nat.le_trans HS.out k2⟩)
  rw [List.length_replicate, Int.toNat_natCast] at hR2
  rw [List.length_replicate, Int.toNat_natCast]
  have R2 := Aside0.mk hR2
  have B2 := Aside0.mk hB2
  have G2 := Aside0.mk hgl
  clear hR2 hB2 hg2 hne2 hgl
  go_wp2_with ((with_reducible refine gate_dst (N := 33) rfl ?_); refine mark_ ?_)
  refine ⟨?_⟩
  refine Kd.R_copy (0 : Int) (w0 := w) w.heap.size rfl _ _ 82 82 3 rfl Try.underlying82 (by kernel_rfl) (.slice (some ⟨g, 0, none⟩) N cap) (List.replicate N 0) [x] A 1 c (fun _ => True) rfl rfl R2.out (Kd.C_below HC.out (B2.out)) B2.out B2.out.size ?_
  intro w3 hR3 hB3 hg3
  rw [List.length_replicate] at hR3
  have R3 : Aside0 ((Kd.int .i64).R 3 w3 w.heap.size (fun _ => True) (.slice (some ⟨g, 0, none⟩) N cap) (List.replicate (min 1 N) x ++ List.replicate (N - min 1 N) 0)) := ⟨by
    have e : [x].take (min 1 N) ++ (List.replicate N (0 : Int)).drop (min 1 N) = List.replicate (min 1 N) x ++ List.replicate (N - min 1 N) 0 := by
      rcases Nat.eq_zero_or_pos N with h | h
      · subst h; rfl
      · rw [Nat.min_eq_left (by omega)]; simp
    rw [← e]
    exact hR3⟩
  have B3 := Aside0.mk hB3
  have G3 : Aside0 (g < w3.heap.size) := ⟨Nat.lt_of_lt_of_le G2.out hg3.size⟩
  rw [List.length_replicate]
  clear hR3 hB3 hg3
  go_wp2
  go_loopg [8] (N) (fun kq v8 w' => ∃ n : Nat, (N ≤ n + kq ∧ n ≤ N) ∧ v8 = .int .i64 n ∧ (0 < n ∨ N = 0) ∧ Aside0 ((Kd.int .i64).R 3 w' w.heap.size (fun _ => True) (.slice (some ⟨g, 0, none⟩) N cap) (List.replicate n x ++ List.replicate (N - n) 0)) ∧ Aside0 (Below w.heap.size w w') ∧ Aside0 (g < w'.heap.size))
  case atStart => exact ⟨min 1 N, by omega, rfl, by omega, R3, B3, G3⟩
  case round =>
    clear R3 B3 G3 B2 R2 G2
    obtain ⟨n, hn, rfl, hp, HR, HW, HG⟩ := hrel
    by_cases hlt : n < N
    · have hdec : decide (n < N) = true := decide_eq_true hlt
      obtain ⟨hn1, hn2⟩ := hn
      have hcap := (Kd.R_reads' HR.out).2.1
      have z0 : (0 : Int) ≤ n := by omega
      have z1 : (n : Int) ≤ N := by omega
      have z2 : (n : Int) ≤ cap := by omega
      have z3 : (N : Int) ≤ cap := by omega
      have z4 : (cap = n) = False := eq_false (by omega)
      have z5 : n ≤ cap := by omega
      have z6 : n ≤ N := hn2
      have z7 : N ≤ cap := hcap
      have hgb : w.heap.size ≤ g := by
        obtain ⟨g', cap', e1, e2, _⟩ := Kd.R_form HR.out (by simp; omega)
        injection e1 with e1
        injection e1 with e1
        injection e1 with e1
        omega
      go_wp2
      obtain ⟨w5, hc5, hR5, hG5⟩ := copy_front (P := Try.prog) (t := 82) (e := 3) 3 Try.underlying82 (by kernel_rfl) (w := wr.drew) (Kd.R_drew HR.out) z6
      refine start_ (n := 10) (S := fun w' => True) (ds := [7]) #[false, false, false, false, false, false, false, false, false, false] (by kernel_rfl) rfl rfl trivial (fun hHeld => ?_)
      refine with_tabW tb_RepeatI_9.tab tb_RepeatI_9.bits (fun HT_ HW_ => ?_)
      refine pure_ (i := 0) (N := some 38) (v := ?_) (a' := ?_) #[true, false, false, false, false, false, false, false, false, false] rfl rfl (any_of HT_.out (by kernel_rfl)) (fun _ _ _ h => h) (Or.inl ⟨by rfl, ?_⟩) ?_ ?_
      rotate_left
      · intro w'
        go_simp
        with_reducible rfl
      rotate_left
      · simp only [Act.put, List.setIfInBounds_toArray, List.set_cons_zero, List.set_cons_succ, i64_w, i32_w]
        rfl
      refine pure_ (i := 1) (N := some 39) (v := ?_) (a' := ?_) #[true, true, false, false, false, false, false, false, false, false] rfl rfl (any_of HT_.out (by kernel_rfl)) (fun _ _ _ h => h) (Or.inl ⟨by rfl, ?_⟩) ?_ ?_
      rotate_left
      · intro w'
        go_simp
        with_reducible rfl
      rotate_left
      · simp only [Act.put, List.setIfInBounds_toArray, List.set_cons_zero, List.set_cons_succ, i64_w, i32_w]
        rfl
      refine pure_ (i := 2) (N := some 40) (v := ?_) (a' := ?_) #[true, true, true, false, false, false, false, false, false, false] rfl rfl (any_of HT_.out (by kernel_rfl)) (fun _ _ _ h => h) (Or.inl ⟨by rfl, ?_⟩) ?_ ?_
      rotate_left
      · intro w'
        go_simp
        with_reducible rfl
      rotate_left
      · simp only [Act.put, List.setIfInBounds_toArray, List.set_cons_zero, List.set_cons_succ, i64_w, i32_w]
        rfl
      refine pure_ (i := 3) (N := some 41) (v := ?_) (a' := ?_) #[true, true, true, true, false, false, false, false, false, false] rfl rfl (any_of HT_.out (by kernel_rfl)) (fun _ _ _ h => h) (Or.inl ⟨by rfl, ?_⟩) ?_ ?_
      rotate_left
      · intro w'
        go_simp
        with_reducible rfl
      rotate_left
      · simp only [Act.put, List.setIfInBounds_toArray, List.set_cons_zero, List.set_cons_succ, i64_w, i32_w]
        rfl
      refine pure_ (i := 4) (N := some 42) (v := ?_) (a' := ?_) #[true, true, true, true, true, false, false, false, false, false] rfl rfl (any_of HT_.out (by kernel_rfl)) (fun _ _ _ h => h) (Or.inl ⟨by rfl, ?_⟩) ?_ ?_
      rotate_left
      · intro w'
        go_simp
        with_reducible rfl
      rotate_left
      · simp only [Act.put, List.setIfInBounds_toArray, List.set_cons_zero, List.set_cons_succ, i64_w, i32_w]
        rfl
      refine pure_ (i := 5) (N := some 43) (v := ?_) (a' := ?_) #[true, true, true, true, true, true, false, false, false, false] rfl rfl (any_of HT_.out (by kernel_rfl)) (fun _ _ _ h => h) (Or.inl ⟨by rfl, ?_⟩) ?_ ?_
      rotate_left
      · intro w'
        go_simp
        with_reducible rfl
      rotate_left
      · simp only [Act.put, List.setIfInBounds_toArray, List.set_cons_zero, List.set_cons_succ, i64_w, i32_w]
        rfl
      refine pure_ (i := 6) (N := some 44) (v := ?_) (a' := ?_) #[true, true, true, true, true, true, true, false, false, false] rfl rfl (any_of HT_.out (by kernel_rfl)) (fun _ _ _ h => h) (Or.inl ⟨by rfl, ?_⟩) ?_ ?_
      rotate_left
      · intro w'
        go_simp
        with_reducible rfl
      rotate_left
      · simp only [Act.put, List.setIfInBounds_toArray, List.set_cons_zero, List.set_cons_succ, i64_w, i32_w]
        rfl
      refine last_ (i := 7) (N := some 45) #[true, true, true, true, true, true, true, true, false, false] rfl rfl (one_of HT_.out (by kernel_rfl)) (by decide) (fun K hK => ?_)
      refine value_ (w1 := w5) (v := .int .i64 ((min n (N - n) : Nat) : Int)) (by rfl) rfl ?_ ?_
      · go_simp
        try rw [hc5]
        try rfl
      have q8 : wrap64 ((n : Int) + ((min n (N - n) : Nat) : Int)) = ((n + min n (N - n) : Nat) : Int) := by unfold wrap64; omega
      refine hK.out _ _ ?_
      clear hK K
      refine norm_ (a' := ?_) ?_ ?_
      rotate_left
      · show Act.put _ (some 45) _ = _
        (try simp only [Act.put, List.setIfInBounds_toArray, List.set_cons_zero, List.set_cons_succ, i64_w, i32_w])
        rfl
      refine pure_ (i := 8) (N := some 46) (v := ?_) (a' := ?_) #[true, true, true, true, true, true, true, true, true, false] rfl rfl (any_of HT_.out (by kernel_rfl)) (fun _ _ _ h => h) (Or.inl ⟨by rfl, ?_⟩) ?_ ?_
      rotate_left
      · intro w'
        go_simp
        with_reducible rfl
      rotate_left
      · simp only [Act.put, List.setIfInBounds_toArray, List.set_cons_zero, List.set_cons_succ, i64_w, i32_w]
        rfl
      refine pure_ (i := 9) (N := some 8) (v := ?_) (a' := ?_) #[true, true, true, true, true, true, true, true, true, true] rfl rfl (any_of HT_.out (by kernel_rfl)) (fun _ _ _ h => h) (Or.inl ⟨by rfl, ?_⟩) ?_ ?_
      rotate_left
      · intro w'
        go_simp
        with_reducible rfl
      rotate_left
      · simp only [Act.put, List.setIfInBounds_toArray, List.set_cons_zero, List.set_cons_succ, i64_w, i32_w]
        rfl
      refine done_ (done_of HT_.out (by kernel_rfl)) ?_
      go_wp2
      go_roundg (N - (n + min n (N - n)))
      case measure => omega
      case rel => exact ⟨n + min n (N - n), by omega, by first | rfl | (simp; done), by omega, ⟨hR5⟩, ⟨(below_drew HW.out).grown hG5 (below_drew HW.out).size (fun k hk => by injection hk with hk; omega)⟩, ⟨Nat.lt_of_lt_of_le HG.out hG5.size⟩⟩
    · have hdec : decide (n < N) = false := decide_eq_false hlt
      obtain ⟨hn1, hn2⟩ := hn
      obtain rfl : n = N := by omega
      go_wp2
      go_ret
      have hR := HR.out
      rw [Nat.sub_self, List.replicate_zero, List.append_nil] at hR
      exact ⟨_, _, rfl, hR, HW.out, HG.out⟩
end Go.Proofs.Ytlplphgoldkoeaa.HTab
end

section
set_option linter.unusedVariables false
set_option linter.unusedSimpArgs false
namespace Go.Proofs.Ytlplphgoldkoeaa.HTab
open Go.RowKit Go.Proofs.YtlplphgoldkoeaaW.PrintWords Go.Proofs.YtlplphgoldkoeaaW.PrintLast Go.Proofs.YtlplphgoldkoeaaW.PrintMore Go.Proofs.Ytlplphgoldkoeaa.HMap Go.Proofs.Ytlplphgoldkoeaa.X
set_option linter.unusedVariables false
set_option linter.unusedSimpArgs false
set_option maxRecDepth 100000 in
set_option maxHeartbeats 4000000 in
theorem paths_err (v r : Int) (A : Option Addr) (c : Nat) (l : List S107) (w : World) (hC : Kd.C k107 w A l.length l) (hc : l.length ≤ c) (hq : mask_Valid.f v l r = some false) :
    Calls Try.prog 63 #[.agg #[.int .i64 v, .slice A l.length c, .int .i64 r]] w fun e w' => e = .returned (.tuple #[.slice none 0 0, .int .i64 2]) ∧ Below w.heap.size w w' := by
  have hu := Try.underlying28
  have HC := Aside0.mk hC
  have HQ := Aside0.mk hq
  obtain ⟨W0, hW0⟩ : ∃ W, W = w.alloc (.cells #[.int .i64 v, .slice A l.length c, .int .i64 r] 28) := ⟨_, rfl⟩
  have HB0 := Aside0.mk (show Below w.heap.size w W0 by rw [hW0]; exact below_alloc (Below.refl _ _) _)
  clear hC hq
  go_enter Try.func63, Try.ntmps63
  go_wp2_with fail
  rw [← hW0]
  clear hW0
  refine (mask_Valid.calls v A c l r false W0 (Kd.C_below HC.out HB0.out) hc HQ.out).mono ?_
  rintro e w1 ⟨rfl, hB1⟩
  have B1 := Aside0.mk (below_then HB0.out HB0.out.size hB1)
  clear hB1
  go_wp2
  go_ret2
  exact ⟨by rfl, B1.out⟩
theorem one_C {W : World} {b : Nat} {x : Int} (h : W.heap[b]? = some (.cells #[.int .i64 x] 3 (0, 0))) : Kd.C (Kd.int .i64) W (some ⟨b, 0, none⟩) 1 [x] := by
  refine ⟨rfl, by decide, fun _ => ⟨_, rfl, fun j p hp => ?_⟩⟩
  have hz : (Kd.int .i64).sz = 1 := rfl
  rw [hz]
  have cell : ∀ i, W.cell? ((⟨b, 0, none⟩ : Addr).add i) = (#[.int .i64 x] : Array Value)[i]? := fun i => by
    rw [add_plain]; exact blk_cell h i
  match j, hp with
  | 0, hp =>
    injection hp with hp
    subst hp
    refine ⟨_, rfl, rfl, fun i u hi => ?_⟩
    match i, hi with
    | 0, hi => rw [cell]; exact hi
    | i + 1, hi => simp at hi
set_option maxRecDepth 100000 in
set_option maxHeartbeats 4000000 in
theorem paths_ok (v r : Int) (A : Option Addr) (c : Nat) (l : List S107) (w : World) (hC : Kd.C k107 w A l.length l) (hc : l.length ≤ c) (hq : mask_Valid.f v l r = some true) (hV : VM v l r) (hn : (pathP l 13 r (List.replicate v.toNat 2)).length < 1000000000) (hll : l.length ≤ 1000000000) :
    Calls Try.prog 63 #[.agg #[.int .i64 v, .slice A l.length c, .int .i64 r]] w fun e w' => ∃ u, e = .returned (.tuple #[u, .int .i64 0]) ∧ Kd.S DI 82 w' w.heap.size (fun _ => True) u (pathP l 13 r (List.replicate v.toNat 2)) ∧ Below w.heap.size w w' := by
  have hu := Try.underlying28
  have HC := Aside0.mk hC
  have HQ := Aside0.mk hq
  have HV := Aside0.mk hV
  have v0 := hV.v0
  have v12 := hV.v12
  obtain ⟨W0, hW0⟩ : ∃ W, W = w.alloc (.cells #[.int .i64 v, .slice A l.length c, .int .i64 r] 28) := ⟨_, rfl⟩
  have HB0 := Aside0.mk (show Below w.heap.size w W0 by rw [hW0]; exact below_alloc (Below.refl _ _) _)
  have KF0 := Aside0.mk (show W0.heap[w.heap.size]? = some (.cells #[.int .i64 v, .slice A l.length c, .int .i64 r] 28 (0, 0)) by rw [hW0]; exact blk_new _ _)
  clear hC hq hV
  go_enter Try.func63, Try.ntmps63
  go_wp2_with fail
  rw [← hW0]
  clear hW0
  refine (mask_Valid.calls v A c l r true W0 (Kd.C_below HC.out HB0.out) hc HQ.out).mono ?_
  rintro e w1 ⟨rfl, hB1⟩
  have B1 := Aside0.mk (below_then HB0.out HB0.out.size hB1)
  have KF1 := blk_below KF0.out hB1
  obtain ⟨W2, hW2⟩ : ∃ W, W = (w1.alloc (.cells #[.slice none 0 0] 77)).alloc (.cells #[.int .i64 2] 3) := ⟨_, rfl⟩
  have hB2 : Below w1.heap.size w1 W2 := by rw [hW2]; exact below_alloc (below_alloc (Below.refl _ _) _) _
  have KO2 := Aside0.mk (show W2.heap[w1.heap.size]? = some (.cells #[.slice none 0 0] 77 (0, 0)) by rw [hW2]; exact blk_alloc (blk_new _ _) _)
  have KX2 := Aside0.mk (show W2.heap[w1.heap.size + 1]? = some (.cells #[.int .i64 2] 3 (0, 0)) by rw [hW2]; simpa using blk_new (w1.alloc (.cells #[.slice none 0 0] 77)) (.cells #[.int .i64 2] 3))
  have y0 := (blk_cell (blk_below KF1 hB2) 0).trans rfl
  have KF2 := Aside0.mk (blk_below KF1 hB2)
  have B2 := Aside0.mk (below_then B1.out B1.out.size hB2)
  have S1 := Aside0.mk B1.out.size
  rw [hW2] at y0
  clear hB1 hB2 KF1
  go_wp2_with fail
  rw [← hW2]
  clear hW2 y0
  refine (repeat_calls 2 v (some ⟨w1.heap.size + 1, 0, none⟩) 1 W2 (one_C KX2.out) v0 (by omega)).mono ?_
  rintro e w3 ⟨g, cap, rfl, hR3, hB3, hg3⟩
  have B3 := Aside0.mk (below_then B2.out B2.out.size hB3)
  have KF3 := Aside0.mk (blk_below KF2.out hB3)
  have KO3 := Aside0.mk (blk_below KO2.out hB3)
  have R3 := Aside0.mk (Kd.R_lower hR3 B2.out.size)
  have G3 := Aside0.mk hg3
  obtain ⟨W5, hW5⟩ : ∃ W, W = (w3.alloc (.cells #[.slice (some ⟨g, 0, none⟩) v.toNat cap] 82)).alloc (.cells #[.func (.func 112) #[] #[.pointer (some ⟨w1.heap.size, 0, none⟩), .pointer (some ⟨w3.heap.size, 0, none⟩), .pointer (some ⟨w.heap.size, 0, none⟩), .pointer (some ⟨w3.heap.size + 1, 0, none⟩)]] 133) := ⟨_, rfl⟩
  have hB5 : Below w3.heap.size w3 W5 := by rw [hW5]; exact below_alloc (below_alloc (Below.refl _ _) _) _
  have KC5 := Aside0.mk (show W5.heap[w3.heap.size]? = some (.cells #[.slice (some ⟨g, 0, none⟩) v.toNat cap] 82 (0, 0)) by rw [hW5]; exact blk_alloc (blk_new _ _) _)
  have KW5 := Aside0.mk (show W5.heap[w3.heap.size + 1]? = some (.cells #[fnP w1.heap.size w3.heap.size w.heap.size (w3.heap.size + 1)] 133 (0, 0)) by
    rw [hW5]
    simpa [fnP] using blk_new (w3.alloc (.cells #[.slice (some ⟨g, 0, none⟩) v.toNat cap] 82)) (.cells #[.func (.func 112) #[] #[.pointer (some ⟨w1.heap.size, 0, none⟩), .pointer (some ⟨w3.heap.size, 0, none⟩), .pointer (some ⟨w.heap.size, 0, none⟩), .pointer (some ⟨w3.heap.size + 1, 0, none⟩)]] 133))
  have y1 := (blk_cell (blk_below KF3.out hB5) 2).trans rfl
  have hlen : (List.replicate v.toNat (2 : Int)).length = v.toNat := List.length_replicate
  have hPW : Pw w W5 w1.heap.size w3.heap.size w.heap.size (w3.heap.size + 1) g cap v r A c l (.slice none 0 0) [] (List.replicate v.toNat 2) := by
    have hlt := G3.out
    have hk1 := blk_lt KO3.out
    have hk0 := blk_lt KF3.out
    have ro5 := Kd.R_below R3.out hB5
    have ko5 := blk_below KO3.out hB5
    have kf5 := blk_below KF3.out hB5
    have hown := Kd.own_of_R ro5
    obtain ⟨cur, hgb, hh⟩ : ∃ cur, w.heap.size ≤ g ∧ W5.heap[g]? = some (.cells cur 3 (0, 0)) := by
      rcases hown.2 with ⟨h, _⟩ | ⟨g', cap', cur, hv, hb, hh, _⟩
      · cases h
      · injection hv with e1
        injection e1 with e1
        injection e1 with e1
        subst e1
        exact ⟨cur, hb, hh⟩
    refine ⟨below_then B3.out B3.out.size hB5, ko5, Kd.S_nil _ _ _ _ _, by rw [hlen]; exact KC5.out, ?_, kf5, KW5.out, S1.out, hgb, Nat.lt_of_lt_of_le hlt hB5.size, blk_ne ko5 hh (by decide), by omega, blk_ne kf5 hh (by decide), by omega⟩
    rw [hlen]
    exact Kd.R_of_own hown (fun k hk => by injection hk with hk; exact hk.symm)
  have HP := Aside0.mk hPW
  rw [hW5] at y1
  clear hB5 hPW
  go_wp2_with fail
  rw [← hW5]
  clear hW5 y1
  have hpl := HV.out.pl
  refine (path_calls w w1.heap.size w3.heap.size w.heap.size (w3.heap.size + 1) g cap v r A c l HV.out.wf HC.out hll v12 13 r (List.replicate v.toNat 2) [] (.slice none 0 0) W5 HP.out hpl ?_ ?_ ?_ ?_).mono ?_
  · have := HV.out.wf.asks_nonneg hpl
    omega
  · rw [List.length_replicate]; omega
  · intro u _ hu
    rw [List.getElem?_replicate, if_pos (by omega)]
  · simpa using hn
  rintro e w6 ⟨rfl, _, vO, hP6⟩
  rw [List.nil_append] at hP6
  have y2 := (blk_cell hP6.ko 0).trans rfl
  have B6 := Aside0.mk hP6.bel
  obtain ⟨AO, cO, rfl, hcO, _⟩ := Kd.R_reads (Kd.S_R hP6.ro)
  have R6 := Aside0.mk (Kd.S_mono hP6.ro (fun _ _ => trivial))
  clear hP6
  go_wp2
  go_ret2
  exact ⟨_, by rfl, R6.out, B6.out⟩
end Go.Proofs.Ytlplphgoldkoeaa.HTab
namespace Go.Proofs.Ytlplphgoldkoeaa.X
open Go.RowKit Go.Proofs.YtlplphgoldkoeaaW.PrintWords Go.Proofs.YtlplphgoldkoeaaW.PrintLast Go.Proofs.YtlplphgoldkoeaaW.PrintMore Go.Proofs.Ytlplphgoldkoeaa.HMap Go.Proofs.Ytlplphgoldkoeaa.HTab
set_option linter.unusedVariables false
def mask_Paths.f (v : Int) (l : List (S107)) (r : Int) : Option (List (List Int) × Int) :=
  if l.length ≤ 1000000000 then
    if vmB v l r = true then
      if (pathP l 13 r (List.replicate v.toNat 2)).length < 1000000000 then some (pathP l 13 r (List.replicate v.toNat 2), 0) else none
    else some ([], 2)
  else none
theorem mask_Paths.calls (a0_0 : Int) (A0_1 : Option Addr) (c0_1 : Nat) (l0_1 : List (S107)) (a0_2 : Int) (r1 : List (List Int)) (r2 : Int) (w : World) (hr0_1 : Kd.C k107 w A0_1 l0_1.length l0_1) (hc0_1 : l0_1.length ≤ c0_1) (h : mask_Paths.f a0_0 l0_1 a0_2 = some (r1, r2)) :
    Calls Try.prog 63 #[.agg #[.int .i64 a0_0, .slice A0_1 l0_1.length c0_1, .int .i64 a0_2]] w fun e w' => ∃ v1_ : Value, e = .returned (.tuple #[v1_, .int .i64 r2]) ∧ Kd.S (Kd.slice 3 (Kd.int .i64)) 82 w' w.heap.size (fun _ => True) v1_ r1 ∧ Below w.heap.size w w' := by
  unfold mask_Paths.f at h
  split at h
  case isFalse => cases h
  rename_i hl
  have hq : mask_Valid.f a0_0 l0_1 a0_2 = some (vmB a0_0 l0_1 a0_2) := by unfold mask_Valid.f; rw [if_pos hl]
  split at h
  · rename_i hv
    split at h
    · rename_i hn
      simp only [Option.some.injEq, Prod.mk.injEq] at h
      obtain ⟨rfl, rfl⟩ := h
      rw [hv] at hq
      exact paths_ok a0_0 a0_2 A0_1 c0_1 l0_1 w hr0_1 hc0_1 hq (vmB_iff.1 hv) hn hl
    · cases h
  · rename_i hv
    simp only [Option.some.injEq, Prod.mk.injEq] at h
    obtain ⟨rfl, rfl⟩ := h
    rw [Bool.eq_false_iff.2 hv] at hq
    refine (paths_err a0_0 a0_2 A0_1 c0_1 l0_1 w hr0_1 hc0_1 hq).mono ?_
    rintro e w' ⟨rfl, hB⟩
    exact ⟨_, rfl, Kd.S_nil _ _ _ _ _, hB⟩
end Go.Proofs.Ytlplphgoldkoeaa.X
end
