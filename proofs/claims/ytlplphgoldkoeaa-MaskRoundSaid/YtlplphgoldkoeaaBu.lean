/- Lemmas of the masks: part Bu. -/
import Derived.Test.YtlplphgoldkoeaaBg
import Derived.Test.YtlplphgoldkoeaaBt
import Derived.Test.YtlplphgoldkoeaaBm
import Derived.Test.YtlplphgoldkoeaaBs
import Derived.Test.YtlplphgoldkoeaaBk
import Derived.Deep.DeepMust
section
set_option linter.unusedVariables false
set_option linter.unusedSimpArgs false
set_option linter.unusedSectionVars false
namespace Go.Proofs.Ytlplphgoldkoeaa.HTab
open Go.RowKit Go.Proofs.YtlplphgoldkoeaaW.PrintWords Go.Proofs.YtlplphgoldkoeaaW.PrintLast Go.Proofs.YtlplphgoldkoeaaW.PrintMore Go.Proofs.Ytlplphgoldkoeaa.HMap Go.Proofs.Ytlplphgoldkoeaa.X
set_option linter.unusedVariables false
set_option linter.unusedSimpArgs false
def FB (w : World) (fid : FuncId) (caps : Array Value) (kk : Nat) (g : Int → Int → Int × Int) : Prop :=
  ∀ W, Fr (fun _ => False) w W → ∀ x y, 0 ≤ x → x < 2 ^ kk → 0 ≤ y → y < 2 ^ kk → Calls Try.prog fid (#[.int .i64 x, .int .i64 y, .int .i64 (2 ^ kk)] ++ caps) W fun e W' => e = .returned (.tuple #[.int .i64 (g x y).1, .int .i64 (g x y).2]) ∧ Below W.heap.size W W'
theorem FB.next {w w1 : World} {fid : FuncId} {caps : Array Value} {kk : Nat} {g : Int → Int → Int × Int} (h : FB w fid caps kk g) (hf : Fr (fun _ => False) w w1) : FB w1 fid caps kk g :=
  fun W hW => h W (hf.then_ hW (fun i q => q.elim))
def tb_moved1_2.T : Bool × List (List Nat × List Nat) := (true, [([], []), ([], []), ([], []), ([], []), ([3], [3]), ([0, 1, 2, 4], [0, 1, 2, 4]), ([5], [5]), ([6], [6]), ([6], [6]), ([7, 5, 0, 1, 2, 3, 4, 5, 6, 7], [1, 7]), ([8, 9, 0, 1, 2, 3, 4, 5, 6, 7, 8, 9], [2, 8])])
def tb_moved1_2.B : List Nat := [0, 0, 0, 0, 8, 31, 63, 127, 127, 255, 1023]
theorem tb_moved1_2.tab : rtab .any (opsOf Try.f130 2) = tb_moved1_2.T := by kernel_rfl
theorem tb_moved1_2.bits : waitsOk tb_moved1_2.T.2 tb_moved1_2.B = true := by kernel_rfl
def tb_moved1_3.T : Bool × List (List Nat × List Nat) := (true, [([], []), ([], []), ([], []), ([], []), ([1, 2, 3], [1, 2, 3]), ([0, 4, 4], [0, 4]), ([5, 5, 0, 1, 2, 3, 4, 5], [5])])
def tb_moved1_3.B : List Nat := [0, 0, 0, 0, 14, 31, 63]
theorem tb_moved1_3.tab : rtab .any (opsOf Try.f130 3) = tb_moved1_3.T := by kernel_rfl
theorem tb_moved1_3.bits : waitsOk tb_moved1_3.T.2 tb_moved1_3.B = true := by kernel_rfl
section
variable {fid : FuncId} {fn : Func} (hfn : Try.prog.funcs[fid]? = some fn) (hname : (fn.name == "runtime.NumGoroutine") = false) (hbody : fn.body.isSome = true)
include hfn hname hbody
set_option maxRecDepth 100000 in
set_option maxHeartbeats 4000000 in
theorem moved1_calls (caps : Array Value) (kk : Nat) (hK : kk ≤ 6) (g : Int → Int → Int × Int) (bk bf bm : Nat) (v r : Int) (A : Option Addr) (c : Nat) (l : List S107) (p : Int) (w : World) (fu : Nat) (cc : Int) (b : Bool)
    (hk : w.heap[bk]? = some (.cells #[.int .i64 kk] 3 (0, 0))) (hf : w.heap[bf]? = some (.cells #[.func (.func fid) #[] caps] 117 (0, 0))) (hm : w.heap[bm]? = some (.cells #[.int .i64 v, .slice A l.length c, .int .i64 r] 28 (0, 0)))
    (hC : Kd.C k107 w A l.length l) (hc : l.length ≤ c) (hFB : FB w fid caps kk g) (h0 : 0 ≤ (whP kk p 0 0).1) (h1 : (whP kk p 0 0).1 < 2 ^ kk) (h2 : 0 ≤ (whP kk p 0 0).2) (h3 : (whP kk p 0 0).2 < 2 ^ kk)
    (hcell : mask_cell.f fu kk (g (whP kk p 0 0).1 (whP kk p 0 0).2).1 (g (whP kk p 0 0).1 (whP kk p 0 0).2).2 = some cc) (hh : mask_Mask_holds.f fu v l r cc = some b) :
    Calls Try.prog 130 #[.int .i64 p, .pointer (some ⟨bk, 0, none⟩), .pointer (some ⟨bf, 0, none⟩), .pointer (some ⟨bm, 0, none⟩)] w fun e w' => e = .returned (.bool b) ∧ Below w.heap.size w w' := by
  have HW : ∀ W, Calls Try.prog 86 #[.int .i64 kk, .int .i64 p] W fun e w' => e = .returned (.tuple #[.int .i64 (whP kk p 0 0).1, .int .i64 (whP kk p 0 0).2]) ∧ Drawn0 W w' := fun W => where_calls kk p W (by omega)
  generalize whP kk p 0 0 = q at HW h0 h1 h2 h3 hcell
  obtain ⟨x, y⟩ := q
  simp only at h0 h1 h2 h3 hcell
  generalize hg : g x y = gq at hcell
  obtain ⟨x', y'⟩ := gq
  simp only at hcell
  have HG := Aside0.mk hg
  have HW := Aside0.mk HW
  have HK := Aside0.mk (And.intro hk (And.intro hf hm))
  have HC := Aside0.mk hC
  have HF := Aside0.mk hFB
  have HR := Aside0.mk (And.intro h0 (And.intro h1 (And.intro h2 h3)))
  have HCE := Aside0.mk hcell
  have HH := Aside0.mk hh
  have k0 := (blk_cell hk 0).trans rfl
  have k1 := (blk_cell hf 0).trans rfl
  have hk0 : decide (0 ≤ (kk : Int)) = true := decide_eq_true (by omega)
  have hk1 : (0 ≤ (kk : Int)) = True := eq_true (by omega)
  obtain ⟨P, hP⟩ : ∃ P : Int, P = (2 : Int) ^ kk := ⟨_, rfl⟩
  obtain ⟨hs0, hs1, hs2, hs3, hs4, hs5, hs6, hs7, hs8, hs9, hs10⟩ := shl_all kk (by clear hP; omega) P hP
  have HP := Aside0.mk hP
  clear hk hf hm hC hFB hcell hh h0 h1 h2 h3 hg hP
  go_enter Try.func130, Try.ntmps130
  go_wp2_with fail
  refine (HW.out w).mono ?_
  rintro e w1 ⟨rfl, ⟨n, rfl⟩⟩
  go_wp2
  obtain ⟨W1, hW1, hD1⟩ : ∃ W, W = w.drewN n ∧ Aside0 (Drawn0 w W) := ⟨_, rfl, ⟨dr1 _ _⟩⟩
  replace k0 : W1.cell? ⟨bk, 0, none⟩ = some (.int .i64 kk) := by rw [hW1]; exact k0
  replace k1 : W1.cell? ⟨bf, 0, none⟩ = some (.func (.func fid) #[] caps) := by rw [hW1]; exact k1
  rw [← hW1]
  clear hW1
  refine start_ (n := 11) (S := fun w' => (w'.cell? ⟨bk, 0, none⟩ = some (.int .i64 kk)) ∧ (w'.cell? ⟨bf, 0, none⟩ = some (.func (.func fid) #[] caps))) (ds := [5]) #[false, false, false, false, false, false, false, false, false, false, false] (by kernel_rfl) rfl rfl ⟨k0, k1⟩ (fun hHeld => ?_)
  refine with_tabW tb_moved1_2.tab tb_moved1_2.bits (fun HT_ HW_ => ?_)
  refine take_ (i := 0) (N := some 15) (v := ?_) (a' := ?_) #[true, false, false, false, false, false, false, false, false, false, false] rfl rfl (take_ofW HT_.out HW_.out (by kernel_rfl)) (fun _ _ _ h => h) (Or.inl ⟨by rfl, ?_⟩) hHeld ?_ ?_
  rotate_left
  · rintro w' ⟨s0, s1⟩
    go_simp
    with_reducible rfl
  rotate_left
  · simp only [Act.put, List.setIfInBounds_toArray, List.set_cons_zero, List.set_cons_succ, i64_w, i32_w]
    rfl
  refine pure_ (i := 1) (N := some 16) (v := ?_) (a' := ?_) #[true, true, false, false, false, false, false, false, false, false, false] rfl rfl (any_of HT_.out (by kernel_rfl)) (fun _ _ _ h => h) (Or.inl ⟨by rfl, ?_⟩) ?_ ?_
  rotate_left
  · intro w'
    go_simp
    with_reducible rfl
  rotate_left
  · simp only [Act.put, List.setIfInBounds_toArray, List.set_cons_zero, List.set_cons_succ, i64_w, i32_w]
    rfl
  refine pure_ (i := 2) (N := some 17) (v := ?_) (a' := ?_) #[true, true, true, false, false, false, false, false, false, false, false] rfl rfl (any_of HT_.out (by kernel_rfl)) (fun _ _ _ h => h) (Or.inl ⟨by rfl, ?_⟩) ?_ ?_
  rotate_left
  · intro w'
    go_simp
    with_reducible rfl
  rotate_left
  · simp only [Act.put, List.setIfInBounds_toArray, List.set_cons_zero, List.set_cons_succ, i64_w, i32_w]
    rfl
  refine take_ (i := 3) (N := some 18) (v := ?_) (a' := ?_) #[true, true, true, true, false, false, false, false, false, false, false] rfl rfl (take_ofW HT_.out HW_.out (by kernel_rfl)) (fun _ _ _ h => h) (Or.inl ⟨by rfl, ?_⟩) hHeld ?_ ?_
  rotate_left
  · rintro w' ⟨s0, s1⟩
    go_simp
    with_reducible rfl
  rotate_left
  · simp only [Act.put, List.setIfInBounds_toArray, List.set_cons_zero, List.set_cons_succ, i64_w, i32_w]
    rfl
  refine pure_ (i := 4) (N := some 19) (v := ?_) (a' := ?_) #[true, true, true, true, true, false, false, false, false, false, false] rfl rfl (any_of HT_.out (by kernel_rfl)) (fun _ _ _ h => h) (Or.inl ⟨by rfl, ?_⟩) ?_ ?_
  rotate_left
  · intro w'
    go_simp
    with_reducible rfl
  rotate_left
  · simp only [Act.put, List.setIfInBounds_toArray, List.set_cons_zero, List.set_cons_succ, i64_w, i32_w]
    rfl
  refine last_ (i := 5) (N := some 20) #[true, true, true, true, true, true, false, false, false, false, false] rfl rfl (one_of HT_.out (by kernel_rfl)) (by decide) (fun K hK => ?_)
  refine goesV_ hfn hname hbody (#[.int .i64 x, .int .i64 y, .int .i64 P] ++ caps) (by rfl) rfl rfl rfl (by simp only [List.map_toArray, List.map_cons, List.map_nil, hs0, hs1, hs2, hs3, hs4, hs5, hs6, hs7, hs8, hs9, hs10]; rfl) ?_
  have hcall := HF.out W1.drew ((fr_drawn _ hD1.out).then_ (fr_drewN _ _ 1) (fun i q => q)) x y HR.out.1 HR.out.2.1 HR.out.2.2.1 HR.out.2.2.2
  rw [← HP.out, HG.out] at hcall
  refine hcall.mono ?_
  rintro e w2 ⟨rfl, hB2⟩
  refine ⟨_, rfl, ?_⟩
  have B2 : Aside0 (Below w.heap.size w w2) := ⟨below_then (below_drew hD1.out.below) (below_drew hD1.out.below).size hB2⟩
  clear hB2 hcall
  refine hK.out _ _ ?_
  clear hK K
  refine norm_ (a' := ?_) ?_ ?_
  rotate_left
  · show Act.put _ (some 20) _ = _
    (try simp only [Act.put, List.setIfInBounds_toArray, List.set_cons_zero, List.set_cons_succ, i64_w, i32_w])
    rfl
  refine pure_ (i := 6) (N := some 14) (v := ?_) (a' := ?_) #[true, true, true, true, true, true, true, false, false, false, false] rfl rfl (any_of HT_.out (by kernel_rfl)) (fun _ _ _ h => h) (Or.inl ⟨by rfl, ?_⟩) ?_ ?_
  rotate_left
  · intro w'
    go_simp
    with_reducible rfl
  rotate_left
  · simp only [Act.put, List.setIfInBounds_toArray, List.set_cons_zero, List.set_cons_succ, i64_w, i32_w]
    rfl
  refine pure_ (i := 7) (N := some 21) (v := ?_) (a' := ?_) #[true, true, true, true, true, true, true, true, false, false, false] rfl rfl (any_of HT_.out (by kernel_rfl)) (fun _ _ _ h => h) (Or.inl ⟨by rfl, ?_⟩) ?_ ?_
  rotate_left
  · intro w'
    go_simp
    with_reducible rfl
  rotate_left
  · simp only [Act.put, List.setIfInBounds_toArray, List.set_cons_zero, List.set_cons_succ, i64_w, i32_w]
    rfl
  refine pure_ (i := 8) (N := some 22) (v := ?_) (a' := ?_) #[true, true, true, true, true, true, true, true, true, false, false] rfl rfl (any_of HT_.out (by kernel_rfl)) (fun _ _ _ h => h) (Or.inl ⟨by rfl, ?_⟩) ?_ ?_
  rotate_left
  · intro w'
    go_simp
    with_reducible rfl
  rotate_left
  · simp only [Act.put, List.setIfInBounds_toArray, List.set_cons_zero, List.set_cons_succ, i64_w, i32_w]
    rfl
  refine pure_ (i := 9) (N := some 6) (v := ?_) (a' := ?_) #[true, true, true, true, true, true, true, true, true, true, false] rfl rfl (any_of HT_.out (by kernel_rfl)) (fun _ _ _ h => h) (Or.inl ⟨by rfl, ?_⟩) ?_ ?_
  rotate_left
  · intro w'
    go_simp
    with_reducible rfl
  rotate_left
  · simp only [Act.put, List.setIfInBounds_toArray, List.set_cons_zero, List.set_cons_succ, i64_w, i32_w]
    rfl
  refine pure_ (i := 10) (N := some 7) (v := ?_) (a' := ?_) #[true, true, true, true, true, true, true, true, true, true, true] rfl rfl (any_of HT_.out (by kernel_rfl)) (fun _ _ _ h => h) (Or.inl ⟨by rfl, ?_⟩) ?_ ?_
  rotate_left
  · intro w'
    go_simp
    with_reducible rfl
  rotate_left
  · simp only [Act.put, List.setIfInBounds_toArray, List.set_cons_zero, List.set_cons_succ, i64_w, i32_w]
    rfl
  refine done_ (done_of HT_.out (by kernel_rfl)) ?_
  clear hs0 hs1 hs2 hs3 hs4 hs5 hs6 hs7 hs8 hs9 hs10 k0 k1
  have K2 := Aside0.mk (And.intro (blk_below HK.out.1 B2.out) (blk_below HK.out.2.2 B2.out))
  have k0 := (blk_cell K2.out.1 0).trans rfl
  have m0 := (blk_cell K2.out.2 0).trans rfl
  have m1 := (blk_cell K2.out.2 1).trans rfl
  have m2 := (blk_cell K2.out.2 2).trans rfl
  go_wp2
  refine start_ (n := 7) (S := fun w' => (w'.cell? ⟨bk, 0, none⟩ = some (.int .i64 kk)) ∧ (w'.cell? ⟨bm, 0, none⟩ = some (.int .i64 v)) ∧ (w'.cell? ⟨bm, 1, none⟩ = some (.slice A l.length c)) ∧ (w'.cell? ⟨bm, 2, none⟩ = some (.int .i64 r))) (ds := [5]) #[false, false, false, false, false, false, false] (by kernel_rfl) rfl rfl ⟨k0, m0, m1, m2⟩ (fun hHeld => ?_)
  refine with_tabW tb_moved1_3.tab tb_moved1_3.bits (fun HT_ HW_ => ?_)
  refine take_ (i := 0) (N := some 23) (v := ?_) (a' := ?_) #[true, false, false, false, false, false, false] rfl rfl (take_ofW HT_.out HW_.out (by kernel_rfl)) (fun _ _ _ h => h) (Or.inl ⟨by rfl, ?_⟩) hHeld ?_ ?_
  rotate_left
  · rintro w' ⟨s0, s1, s2, s3⟩
    go_simp
    with_reducible rfl
  rotate_left
  · simp only [Act.put, List.setIfInBounds_toArray, List.set_cons_zero, List.set_cons_succ, i64_w, i32_w]
    rfl
  refine take_ (i := 1) (N := some 24) (v := ?_) (a' := ?_) #[true, true, false, false, false, false, false] rfl rfl (take_ofW HT_.out HW_.out (by kernel_rfl)) (fun _ _ _ h => h) (Or.inl ⟨by rfl, ?_⟩) hHeld ?_ ?_
  rotate_left
  · rintro w' ⟨s0, s1, s2, s3⟩
    go_simp
    with_reducible rfl
  rotate_left
  · simp only [Act.put, List.setIfInBounds_toArray, List.set_cons_zero, List.set_cons_succ, i64_w, i32_w]
    rfl
  refine pure_ (i := 2) (N := some 25) (v := ?_) (a' := ?_) #[true, true, true, false, false, false, false] rfl rfl (any_of HT_.out (by kernel_rfl)) (fun _ _ _ h => h) (Or.inl ⟨by rfl, ?_⟩) ?_ ?_
  rotate_left
  · intro w'
    go_simp
    with_reducible rfl
  rotate_left
  · simp only [Act.put, List.setIfInBounds_toArray, List.set_cons_zero, List.set_cons_succ, i64_w, i32_w]
    rfl
  refine pure_ (i := 3) (N := some 26) (v := ?_) (a' := ?_) #[true, true, true, true, false, false, false] rfl rfl (any_of HT_.out (by kernel_rfl)) (fun _ _ _ h => h) (Or.inl ⟨by rfl, ?_⟩) ?_ ?_
  rotate_left
  · intro w'
    go_simp
    with_reducible rfl
  rotate_left
  · simp only [Act.put, List.setIfInBounds_toArray, List.set_cons_zero, List.set_cons_succ, i64_w, i32_w]
    rfl
  refine one_ (i := 4) (N := some 27) #[true, true, true, true, true, false, false] rfl rfl (one_of HT_.out (by kernel_rfl)) (by decide) (fun K hK => ?_)
  refine goes_ Try.func80 (by kernel_rfl) rfl #[.int .i64 kk, .int .i64 x', .int .i64 y'] (by rfl) rfl rfl (by simp only [List.map_toArray, List.map_cons, List.map_nil]; rfl) ?_
  refine (mask_cell.calls fu kk x' y' cc _ HCE.out).mono ?_
  rintro e w3 ⟨rfl, hd3⟩
  refine ⟨_, rfl, ?_⟩
  have B3 := Aside0.mk (below_then (below_drew B2.out) (below_drew B2.out).size hd3.below)
  have K3 := Aside0.mk (And.intro (blk_below HK.out.1 B3.out) (blk_below HK.out.2.2 B3.out))
  clear hd3
  refine hK.out _ _ ⟨(blk_cell K3.out.1 0).trans rfl, (blk_cell K3.out.2 0).trans rfl, (blk_cell K3.out.2 1).trans rfl, (blk_cell K3.out.2 2).trans rfl⟩ (fun hHeld => ?_)
  clear hK K
  refine norm_ (a' := ?_) ?_ ?_
  rotate_left
  · show Act.put _ (some 27) _ = _
    (try simp only [Act.put, List.setIfInBounds_toArray, List.set_cons_zero, List.set_cons_succ, i64_w, i32_w])
    rfl
  refine last_ (i := 5) (N := some 28) #[true, true, true, true, true, true, false] rfl rfl (one_of HT_.out (by kernel_rfl)) (by decide) (fun K hK => ?_)
  refine goes_ Try.func94 (by kernel_rfl) rfl #[.agg #[.int .i64 v, .slice A l.length c, .int .i64 r], .int .i64 cc] (by rfl) rfl rfl (by simp only [List.map_toArray, List.map_cons, List.map_nil]; rfl) ?_
  refine (mask_Mask_holds.calls fu v A c l r cc b _ (Kd.C_below HC.out B3.out) hc HH.out).mono ?_
  rintro e w4 ⟨rfl, hB4⟩
  refine ⟨_, rfl, ?_⟩
  have B4 := Aside0.mk (below_then B3.out B3.out.size hB4)
  clear hB4
  refine hK.out _ _ ?_
  clear hK K
  refine norm_ (a' := ?_) ?_ ?_
  rotate_left
  · show Act.put _ (some 28) _ = _
    (try simp only [Act.put, List.setIfInBounds_toArray, List.set_cons_zero, List.set_cons_succ, i64_w, i32_w])
    rfl
  refine pure_ (i := 6) (N := some 5) (v := ?_) (a' := ?_) #[true, true, true, true, true, true, true] rfl rfl (any_of HT_.out (by kernel_rfl)) (fun _ _ _ h => h) (Or.inl ⟨by rfl, ?_⟩) ?_ ?_
  rotate_left
  · intro w'
    go_simp
    with_reducible rfl
  rotate_left
  · simp only [Act.put, List.setIfInBounds_toArray, List.set_cons_zero, List.set_cons_succ, i64_w, i32_w]
    rfl
  refine done_ (done_of HT_.out (by kernel_rfl)) ?_
  go_wp2
  go_ret
  exact ⟨by rfl, B4.out⟩
def mvF (kk fu : Nat) (g : Int → Int → Int × Int) (v r : Int) (l : List S107) (p : Int) : Bool :=
  ((mask_cell.f fu kk (g (whP kk p 0 0).1 (whP kk p 0 0).2).1 (g (whP kk p 0 0).1 (whP kk p 0 0).2).2).bind fun c => mask_Mask_holds.f fu v l r c).getD false
set_option maxRecDepth 100000 in
set_option maxHeartbeats 4000000 in
theorem moved_err (caps : Array Value) (v r : Int) (A : Option Addr) (c : Nat) (l : List S107) (w : World) (hC : Kd.C k107 w A l.length l) (hc : l.length ≤ c) (hl : l.length ≤ 1000000000) (q : Bool) (hq : mask_Valid.f v l r = some q) (hv : q = false ∨ (0 ≤ v ∧ v ≤ 12 ∧ v % 2 = 1)) :
    Calls Try.prog 96 #[.agg #[.int .i64 v, .slice A l.length c, .int .i64 r], .func (.func fid) #[] caps] w fun e w' => e = .returned (.tuple #[.agg #[.int .i64 0, .slice none 0 0, .int .i64 0], .int .i64 2]) ∧ Below w.heap.size w w' := by
  have hu := Try.underlying28
  have HC := Aside0.mk hC
  have HQ := Aside0.mk hq
  obtain ⟨W3, hW3⟩ : ∃ W, W = ((w.alloc (.cells #[.int .i64 v, .slice A l.length c, .int .i64 r] 28)).alloc (.cells #[.func (.func fid) #[] caps] 117)).alloc (.cells #[.int .i64 0, .slice none 0 0, .int .i64 0] 28) := ⟨_, rfl⟩
  have hB3 : Below w.heap.size w W3 := by rw [hW3]; exact below_alloc (below_alloc (below_alloc (Below.refl _ _) _) _) _
  have h0 : W3.heap[w.heap.size]? = some (.cells #[.int .i64 v, .slice A l.length c, .int .i64 r] 28 (0, 0)) := by rw [hW3]; exact blk_alloc (blk_alloc (blk_new _ _) _) _
  have h2 : W3.heap[w.heap.size + 2]? = some (.cells #[.int .i64 0, .slice none 0 0, .int .i64 0] 28 (0, 0)) := by
    rw [hW3]
    simpa using blk_new ((w.alloc (.cells #[.int .i64 v, .slice A l.length c, .int .i64 r] 28)).alloc (.cells #[.func (.func fid) #[] caps] 117)) (.cells #[.int .i64 0, .slice none 0 0, .int .i64 0] 28)
  have HB := Aside0.mk hB3
  have HK := Aside0.mk (And.intro h0 h2)
  have fin : ∀ w4, Below W3.heap.size W3 w4 → Aside0 (Below w.heap.size w w4 ∧ w4.heap[w.heap.size]? = some (.cells #[.int .i64 v, .slice A l.length c, .int .i64 r] 28 (0, 0)) ∧ w4.heap[w.heap.size + 2]? = some (.cells #[.int .i64 0, .slice none 0 0, .int .i64 0] 28 (0, 0))) := fun w4 hb => ⟨below_then HB.out HB.out.size hb, blk_below HK.out.1 hb, blk_below HK.out.2 hb⟩
  have FIN := Aside0.mk fin
  clear hC hq hB3 h0 h2 fin
  rcases hv with rfl | ⟨v0, v12, hodd⟩
  · go_enter Try.func96, Try.ntmps96
    go_wp2_with fail
    rw [← hW3]
    clear hW3
    refine (mask_Valid.calls v A c l r false W3 (Kd.C_below HC.out HB.out) hc HQ.out).mono ?_
    rintro e w4 ⟨rfl, hb⟩
    have F := FIN.out w4 hb
    clear hb
    have y0 := (blk_cell F.out.2.2 0).trans rfl
    have y1 := (blk_cell F.out.2.2 1).trans rfl
    have y2 := (blk_cell F.out.2.2 2).trans rfl
    have f0 := blk_frozen F.out.2.2 0
    have f1 := blk_frozen F.out.2.2 1
    have f2 := blk_frozen F.out.2.2 2
    go_wp2
    refine bodyPost_ret (results_ct rfl _ _ (w.heap.size + 2) 28 #[.int .i64 0, .slice none 0 0, .int .i64 0] (0, 0) _ rfl (blk_put (cs := #[.int .i64 0, .slice none 0 0, .int .i64 0]) (blk_put (cs := #[.int .i64 0, .slice none 0 0, .int .i64 0]) (blk_put (cs := #[.int .i64 0, .slice none 0 0, .int .i64 0]) F.out.2.2 0 _ rfl) 1 _ rfl) 2 _ rfl) hu rfl (by kernel_rfl)) rfl ?_
    exact ⟨by rfl, below_set (below_set (below_set F.out.1 (Nat.le_add_right _ 2)) (Nat.le_add_right _ 2)) (Nat.le_add_right _ 2)⟩
  · cases q
    all_goals
      have z : (v % 2 == 1) = true := by simpa using hodd
      clear hodd
      go_enter Try.func96, Try.ntmps96
      go_wp2_with fail
      rw [← hW3]
      clear hW3
      refine (mask_Valid.calls v A c l r _ W3 (Kd.C_below HC.out HB.out) hc HQ.out).mono ?_
      rintro e w4 ⟨rfl, hb⟩
      have F := FIN.out w4 hb
      clear hb
      have x0 := (blk_cell F.out.2.1 0).trans rfl
      have y0 := (blk_cell F.out.2.2 0).trans rfl
      have y1 := (blk_cell F.out.2.2 1).trans rfl
      have y2 := (blk_cell F.out.2.2 2).trans rfl
      have f0 := blk_frozen F.out.2.2 0
      have f1 := blk_frozen F.out.2.2 1
      have f2 := blk_frozen F.out.2.2 2
      go_wp2
      refine bodyPost_ret (results_ct rfl _ _ (w.heap.size + 2) 28 #[.int .i64 0, .slice none 0 0, .int .i64 0] (0, 0) _ rfl (blk_put (cs := #[.int .i64 0, .slice none 0 0, .int .i64 0]) (blk_put (cs := #[.int .i64 0, .slice none 0 0, .int .i64 0]) (blk_put (cs := #[.int .i64 0, .slice none 0 0, .int .i64 0]) F.out.2.2 0 _ rfl) 1 _ rfl) 2 _ rfl) hu rfl (by kernel_rfl)) rfl ?_
      exact ⟨by rfl, below_set (below_set (below_set F.out.1 (Nat.le_add_right _ 2)) (Nat.le_add_right _ 2)) (Nat.le_add_right _ 2)⟩
set_option maxRecDepth 100000 in
set_option maxHeartbeats 4000000 in
theorem moved_ok (caps : Array Value) (kk : Nat) (hkk : kk ≤ 6) (g : Int → Int → Int × Int) (v r : Int) (A : Option Addr) (c : Nat) (l : List S107) (w : World) (fu : Nat) (hC : Kd.C k107 w A l.length l) (hc : l.length ≤ c) (hq : mask_Valid.f v l r = some true) (hv : v = 2 * kk) (hFB : FB w fid caps kk g) (out : List S107) (r' : Int)
    (hall : ∀ p : Int, 0 ≤ p → p < 2 ^ v.toNat → 0 ≤ (whP kk p 0 0).1 ∧ (whP kk p 0 0).1 < 2 ^ kk ∧ 0 ≤ (whP kk p 0 0).2 ∧ (whP kk p 0 0).2 < 2 ^ kk ∧ ∃ cc b, mask_cell.f fu kk (g (whP kk p 0 0).1 (whP kk p 0 0).2).1 (g (whP kk p 0 0).1 (whP kk p 0 0).2).2 = some cc ∧ mask_Mask_holds.f fu v l r cc = some b)
    (hb : buildP v (mvF kk fu g v r l) = some (out, r')) (ho : out.length < 1000000000000) :
    Calls Try.prog 96 #[.agg #[.int .i64 v, .slice A l.length c, .int .i64 r], .func (.func fid) #[] caps] w fun e w' => ∃ u : Value, e = .returned (.tuple #[.agg #[.int .i64 v, u, .int .i64 r'], .int .i64 0]) ∧ Kd.R k107 107 w' w.heap.size (fun _ => True) u out ∧ Below w.heap.size w w' := by
  have hu := Try.underlying28
  have HC := Aside0.mk hC
  have HQ := Aside0.mk hq
  have HF := Aside0.mk hFB
  have HA := Aside0.mk hall
  have HBP := Aside0.mk hb
  have HO := Aside0.mk ho
  have v0 : 0 ≤ v := by omega
  have v12 : v ≤ 12 := by omega
  have hd : v / 2 = (kk : Int) := by omega
  have z : (v % 2 == 1) = false := by
    have : v % 2 = 0 := by omega
    rw [this]; rfl
  obtain ⟨W3, hW3⟩ : ∃ W, W = ((w.alloc (.cells #[.int .i64 v, .slice A l.length c, .int .i64 r] 28)).alloc (.cells #[.func (.func fid) #[] caps] 117)).alloc (.cells #[.int .i64 0, .slice none 0 0, .int .i64 0] 28) := ⟨_, rfl⟩
  have hB3 : Below w.heap.size w W3 := by rw [hW3]; exact below_alloc (below_alloc (below_alloc (Below.refl _ _) _) _) _
  have h0 : W3.heap[w.heap.size]? = some (.cells #[.int .i64 v, .slice A l.length c, .int .i64 r] 28 (0, 0)) := by rw [hW3]; exact blk_alloc (blk_alloc (blk_new _ _) _) _
  have h1 : W3.heap[w.heap.size + 1]? = some (.cells #[.func (.func fid) #[] caps] 117 (0, 0)) := by
    rw [hW3]; refine blk_alloc ?_ _
    simpa using blk_new (w.alloc (.cells #[.int .i64 v, .slice A l.length c, .int .i64 r] 28)) (.cells #[.func (.func fid) #[] caps] 117)
  have h2 : W3.heap[w.heap.size + 2]? = some (.cells #[.int .i64 0, .slice none 0 0, .int .i64 0] 28 (0, 0)) := by
    rw [hW3]
    simpa using blk_new ((w.alloc (.cells #[.int .i64 v, .slice A l.length c, .int .i64 r] 28)).alloc (.cells #[.func (.func fid) #[] caps] 117)) (.cells #[.int .i64 0, .slice none 0 0, .int .i64 0] 28)
  have HB := Aside0.mk hB3
  have HK := Aside0.mk (And.intro h0 (And.intro h1 h2))
  have HV := Aside0.mk hv
  clear hC hq hFB hall hb ho hB3 h0 h1 h2 hv
  go_enter Try.func96, Try.ntmps96
  go_wp2_with fail
  rw [← hW3]
  clear hW3
  refine (mask_Valid.calls v A c l r true W3 (Kd.C_below HC.out HB.out) hc HQ.out).mono ?_
  rintro e w4 ⟨rfl, hb⟩
  have HB4 := Aside0.mk (below_then HB.out HB.out.size hb)
  have HK4 := Aside0.mk (And.intro (blk_below HK.out.1 hb) (And.intro (blk_below HK.out.2.1 hb) (blk_below HK.out.2.2 hb)))
  clear hb HK
  have x0 := (blk_cell HK4.out.1 0).trans rfl
  have x0y : ∀ o : Obj, (w4.alloc o).cell? ⟨w.heap.size, 0, none⟩ = some (.int .i64 v) := fun o => pw_cell_below (below_alloc (Below.refl _ _) o) x0
  go_wp2_with fail
  obtain ⟨W5, hW5⟩ : ∃ W, W = w4.alloc (.cells #[.int .i64 kk] 3) := ⟨_, rfl⟩
  have hB5 : Below w.heap.size w W5 := by rw [hW5]; exact below_alloc HB4.out _
  have g0 : W5.heap[w.heap.size]? = some (.cells #[.int .i64 v, .slice A l.length c, .int .i64 r] 28 (0, 0)) := by rw [hW5]; exact blk_alloc HK4.out.1 _
  have g1 : W5.heap[w.heap.size + 1]? = some (.cells #[.func (.func fid) #[] caps] 117 (0, 0)) := by rw [hW5]; exact blk_alloc HK4.out.2.1 _
  have g2 : W5.heap[w.heap.size + 2]? = some (.cells #[.int .i64 0, .slice none 0 0, .int .i64 0] 28 (0, 0)) := by rw [hW5]; exact blk_alloc HK4.out.2.2 _
  have g3 : W5.heap[w4.heap.size]? = some (.cells #[.int .i64 kk] 3 (0, 0)) := by rw [hW5]; exact blk_new _ _
  rw [← hW5]
  clear hW5 x0 x0y
  refine (build_calls Try.func130 (by kernel_rfl) rfl v _ (mvF kk fu g v r l) out r' W5 v0 v12 ?cb HO.out HBP.out).mono ?_
  case cb =>
    intro W hF p hp0 hp1
    obtain ⟨q0, q1, q2, q3, cc, b, q4, q5⟩ := HA.out p hp0 hp1
    have hfb : Fr (fun _ => False) w W := (Fr.of_below hB5).then_ hF (fun i q => q.elim)
    have hmv : mvF kk fu g v r l p = b := by unfold mvF; rw [q4]; simp only [Option.bind_some]; rw [q5]; rfl
    rw [hmv]
    exact moved1_calls hfn hname hbody caps kk hkk g w4.heap.size (w.heap.size + 1) w.heap.size v r A c l p W fu cc b ((hF.block _ (blk_lt g3) (fun h => h)).trans g3) ((hF.block _ (blk_lt g1) (fun h => h)).trans g1) ((hF.block _ (blk_lt g0) (fun h => h)).trans g0)
      (Kd.C_below HC.out ⟨hfb.os, hfb.tape, hfb.output, hfb.size, fun i hi => hfb.block i hi (fun h => h)⟩) hc (HF.out.next hfb) q0 q1 q2 q3 q4 q5
  rintro e w7 ⟨u, rfl, hR7, hB7⟩
  obtain ⟨A7, c7, rfl, hc7, _⟩ := Kd.R_reads hR7
  have K7 := Aside0.mk (blk_below g2 hB7)
  have R7 := Aside0.mk (Kd.R_lower hR7 hB5.size)
  have B7 := Aside0.mk (below_then hB5 hB5.size hB7)
  clear hR7 hB7 hB5 g0 g1 g2 g3
  have y0 := (blk_cell K7.out 0).trans rfl
  have y1 := (blk_cell K7.out 1).trans rfl
  have y2 := (blk_cell K7.out 2).trans rfl
  have f0 := blk_frozen K7.out 0
  have f1 := blk_frozen K7.out 1
  have f2 := blk_frozen K7.out 2
  go_wp2
  have N0 := Kd.R_types R7.out K7.out (by decide)
  have N1 := Kd.R_far (p := ⟨w.heap.size + 2, 0, none⟩) N0 (fun _ hk => hk.2) (.int .i64 v)
  have N2 := Kd.R_far (p := ⟨w.heap.size + 2, 1, none⟩) N1 (fun _ hk => hk.2) (.slice A7 out.length c7)
  have N3 := Kd.R_far (p := ⟨w.heap.size + 2, 2, none⟩) N2 (fun _ hk => hk.2) (.int .i64 r')
  refine bodyPost_ret (results_ct rfl _ _ (w.heap.size + 2) 28 #[.int .i64 v, .slice A7 out.length c7, .int .i64 r'] (0, 0) _ rfl ?_ hu rfl (by kernel_rfl)) rfl ?_
  · exact blk_put (cs := #[.int .i64 v, .slice A7 out.length c7, .int .i64 0]) (blk_put (cs := #[.int .i64 v, .slice none 0 0, .int .i64 0]) (blk_put (cs := #[.int .i64 0, .slice none 0 0, .int .i64 0]) K7.out 0 _ rfl) 1 _ rfl) 2 _ rfl
  · exact ⟨_, by rfl, Kd.R_mono N3 (fun _ _ => trivial), below_set (below_set (below_set B7.out (Nat.le_add_right _ 2)) (Nat.le_add_right _ 2)) (Nat.le_add_right _ 2)⟩
end
end Go.Proofs.Ytlplphgoldkoeaa.HTab
end

section
set_option linter.unusedVariables false
set_option linter.unusedSimpArgs false
namespace Go.Proofs.Ytlplphgoldkoeaa.HTab
open Go.RowKit Go.Proofs.YtlplphgoldkoeaaW.PrintWords Go.Proofs.YtlplphgoldkoeaaW.PrintLast Go.Proofs.YtlplphgoldkoeaaW.PrintMore Go.Proofs.Ytlplphgoldkoeaa.HMap Go.Proofs.Ytlplphgoldkoeaa.X
set_option linter.unusedVariables false
set_option linter.unusedSimpArgs false
def shG (dx dy : Int) (P : Int) (x y : Int) : Int × Int := ((x - dx.tmod P + P) % P, (y - dy.tmod P + P) % P)
def tuG (P : Int) (x y : Int) : Int × Int := (y, P - 1 - x)
set_option maxRecDepth 100000 in
set_option maxHeartbeats 4000000 in
theorem turn1_calls (P x y : Int) (w : World) (h0 : 0 ≤ x) (h1 : x < P) (hP : P ≤ 64) :
    Calls Try.prog 99 #[.int .i64 x, .int .i64 y, .int .i64 P] w fun e w' => e = .returned (.tuple #[.int .i64 (tuG P x y).1, .int .i64 (tuG P x y).2]) ∧ Below w.heap.size w w' := by
  have hP0 : 0 ≤ P := by omega
  go_enter Try.func99, Try.ntmps99
  go_wp2
  go_ret2
  exact ⟨rfl, Below.refl _ _⟩
theorem tmod_lt (a P : Int) (hP : 0 < P) : -P < a.tmod P ∧ a.tmod P < P := by
  have h1 := Int.tmod_lt_of_pos a hP
  have h2 := Int.lt_tmod_of_pos a hP
  exact ⟨h2, h1⟩
set_option maxRecDepth 100000 in
set_option maxHeartbeats 4000000 in
theorem shift1_calls (bx bz : Nat) (dx dy P x y : Int) (w : World) (hx : w.heap[bx]? = some (.cells #[.int .i64 dx] 3 (0, 0))) (hy : w.heap[bz]? = some (.cells #[.int .i64 dy] 3 (0, 0))) (h0 : 0 ≤ x) (h1 : x < P) (h2 : 0 ≤ y) (h3 : y < P) (hP : P ≤ 64) :
    Calls Try.prog 97 #[.int .i64 x, .int .i64 y, .int .i64 P, .pointer (some ⟨bx, 0, none⟩), .pointer (some ⟨bz, 0, none⟩)] w fun e w' => e = .returned (.tuple #[.int .i64 (shG dx dy P x y).1, .int .i64 (shG dx dy P x y).2]) ∧ Below w.heap.size w w' := by
  have k0 := (blk_cell hx 0).trans rfl
  have k1 := (blk_cell hy 0).trans rfl
  have hP0 : 0 < P := by omega
  obtain ⟨m, hm⟩ : ∃ m, dx.tmod P = m := ⟨_, rfl⟩
  obtain ⟨n, hn⟩ : ∃ n, dy.tmod P = n := ⟨_, rfl⟩
  have bm := tmod_lt dx P hP0
  have bn := tmod_lt dy P hP0
  rw [hm] at bm
  rw [hn] at bn
  obtain ⟨bm1, bm2⟩ := bm
  obtain ⟨bn1, bn2⟩ := bn
  have e1 : IntKind.i64.wrap (x - m) = x - m := IntWalk.i64_in _ (by omega)
  have e2 : IntKind.i64.wrap (x - m + P) = x - m + P := IntWalk.i64_in _ (by omega)
  have e3 : IntKind.i64.wrap (y - n) = y - n := IntWalk.i64_in _ (by omega)
  have e4 : IntKind.i64.wrap (y - n + P) = y - n + P := IntWalk.i64_in _ (by omega)
  have e5 : (x - m + P).tmod P = (x - m + P) % P := Int.tmod_eq_emod_of_nonneg (by omega)
  have e6 : (y - n + P).tmod P = (y - n + P) % P := Int.tmod_eq_emod_of_nonneg (by omega)
  have e7 : (P == 0) = false := by rw [beq_eq_false_iff_ne]; omega
  have e8 : (P = 0) = False := by simp; omega
  have hg : shG dx dy P x y = ((x - m + P) % P, (y - n + P) % P) := by unfold shG; rw [hm, hn]
  have HG := Aside0.mk hg
  obtain ⟨a, ha⟩ : ∃ a, (x - m + P) % P = a := ⟨_, rfl⟩
  obtain ⟨b, hb⟩ : ∃ b, (y - n + P) % P = b := ⟨_, rfl⟩
  rw [ha] at e5
  rw [hb] at e6
  have HA := Aside0.mk (And.intro ha hb)
  clear hx hy hg ha hb
  go_enter Try.func97, Try.ntmps97
  go_wp2
  go_quiet (fail)
  go_wp2
  go_ret2
  exact ⟨by rw [HG.out, HA.out.1, HA.out.2]; rfl, pw_below_drewN (Below.refl _ _) _⟩
def OnCloth (kk : Nat) (g : Int → Int → Int × Int) : Prop := ∀ x y, 0 ≤ x → x < 2 ^ kk → 0 ≤ y → y < 2 ^ kk → 0 ≤ (g x y).1 ∧ (g x y).1 < 2 ^ kk ∧ 0 ≤ (g x y).2 ∧ (g x y).2 < 2 ^ kk
theorem shG_on (kk : Nat) (dx dy : Int) : OnCloth kk (shG dx dy (2 ^ kk)) := fun x y _ _ _ _ => by
  have hp := pow_pos kk
  exact ⟨Int.emod_nonneg _ (by omega), Int.emod_lt_of_pos _ hp, Int.emod_nonneg _ (by omega), Int.emod_lt_of_pos _ hp⟩
theorem tuG_on (kk : Nat) : OnCloth kk (tuG (2 ^ kk)) := fun x y h0 h1 h2 h3 => ⟨h2, h3, by show 0 ≤ 2 ^ kk - 1 - x; omega, by show 2 ^ kk - 1 - x < 2 ^ kk; omega⟩
theorem four_two (kk : Nat) (v : Int) (h : v = 2 * kk) : (2 : Int) ^ v.toNat = 4 ^ kk := by rw [show v.toNat = 2 * kk by omega]; exact pow42 kk
theorem hall_of {v r : Int} {l : List S107} (h : VM v l r) (kk : Nat) (hv : v = 2 * kk) (g : Int → Int → Int × Int) (hg : OnCloth kk g) :
    ∀ p : Int, 0 ≤ p → p < 2 ^ v.toNat → 0 ≤ (whP kk p 0 0).1 ∧ (whP kk p 0 0).1 < 2 ^ kk ∧ 0 ≤ (whP kk p 0 0).2 ∧ (whP kk p 0 0).2 < 2 ^ kk ∧ ∃ cc b, mask_cell.f 20 kk (g (whP kk p 0 0).1 (whP kk p 0 0).2).1 (g (whP kk p 0 0).1 (whP kk p 0 0).2).2 = some cc ∧ mask_Mask_holds.f 20 v l r cc = some b := by
  intro p h0 h1
  have hk : kk ≤ 6 := by have := h.v12; omega
  rw [four_two kk v hv] at h1
  obtain ⟨q0, q1, q2, q3, _⟩ := where_ok kk hk p h0 h1
  obtain ⟨g0, g1, g2, g3⟩ := hg _ _ q0 q1 q2 q3
  obtain ⟨cc, p1, p2, p3, p4, p5⟩ := point_ok kk hk _ _ g0 g1 g2 g3
  have hpw := four_two kk v hv
  have hc := pow_cast v.toNat
  have hh := holds_f v l r h.v12 (by have := h.root.2.2; omega) h.wf.wo h.pl cc.toNat (by omega) 20 (by omega)
  rw [Int.toNat_of_nonneg p3] at hh
  exact ⟨q0, q1, q2, q3, cc, _, p1, hh⟩
set_option maxRecDepth 100000 in
set_option maxHeartbeats 4000000 in
theorem shift_calls (v r dx dy : Int) (A : Option Addr) (c : Nat) (l : List S107) (w : World) (v1 r1 e1 : Int) (out : List S107)
    (hM : ∀ W, Fr (fun _ => False) w W → (∃ bx bz, W.heap[bx]? = some (.cells #[.int .i64 dx] 3 (0, 0)) ∧ W.heap[bz]? = some (.cells #[.int .i64 dy] 3 (0, 0)) ∧ bx = w.heap.size + 1 ∧ bz = w.heap.size + 2) → Calls Try.prog 96 #[.agg #[.int .i64 v, .slice A l.length c, .int .i64 r], .func (.func 97) #[] #[.pointer (some ⟨w.heap.size + 1, 0, none⟩), .pointer (some ⟨w.heap.size + 2, 0, none⟩)]] W fun e w' => ∃ u : Value, e = .returned (.tuple #[.agg #[.int .i64 v1, u, .int .i64 r1], .int .i64 e1]) ∧ Kd.R k107 107 w' W.heap.size (fun _ => True) u out ∧ Below W.heap.size W w') :
    Calls Try.prog 39 #[.agg #[.int .i64 v, .slice A l.length c, .int .i64 r], .int .i64 dx, .int .i64 dy] w fun e w' => ∃ u : Value, e = .returned (.tuple #[.agg #[.int .i64 v1, u, .int .i64 r1], .int .i64 e1]) ∧ Kd.R k107 107 w' w.heap.size (fun _ => True) u out ∧ Below w.heap.size w w' := by
  have hu := Try.underlying28
  have HM := Aside0.mk hM
  obtain ⟨W4, hW4⟩ : ∃ W, W = (((w.alloc (.cells #[.int .i64 v, .slice A l.length c, .int .i64 r] 28)).alloc (.cells #[.int .i64 dx] 3)).alloc (.cells #[.int .i64 dy] 3)).alloc (.cells #[.int .i64 0, .slice none 0 0, .int .i64 0] 28) := ⟨_, rfl⟩
  have hB4 : Below w.heap.size w W4 := by rw [hW4]; exact below_alloc (below_alloc (below_alloc (below_alloc (Below.refl _ _) _) _) _) _
  have h1 : W4.heap[w.heap.size + 1]? = some (.cells #[.int .i64 dx] 3 (0, 0)) := by
    rw [hW4]; refine blk_alloc (blk_alloc ?_ _) _
    simpa using blk_new (w.alloc (.cells #[.int .i64 v, .slice A l.length c, .int .i64 r] 28)) (.cells #[.int .i64 dx] 3)
  have h2 : W4.heap[w.heap.size + 2]? = some (.cells #[.int .i64 dy] 3 (0, 0)) := by
    rw [hW4]; refine blk_alloc ?_ _
    simpa using blk_new ((w.alloc (.cells #[.int .i64 v, .slice A l.length c, .int .i64 r] 28)).alloc (.cells #[.int .i64 dx] 3)) (.cells #[.int .i64 dy] 3)
  have h3 : W4.heap[w.heap.size + 3]? = some (.cells #[.int .i64 0, .slice none 0 0, .int .i64 0] 28 (0, 0)) := by
    rw [hW4]
    simpa using blk_new (((w.alloc (.cells #[.int .i64 v, .slice A l.length c, .int .i64 r] 28)).alloc (.cells #[.int .i64 dx] 3)).alloc (.cells #[.int .i64 dy] 3)) (.cells #[.int .i64 0, .slice none 0 0, .int .i64 0] 28)
  have HB := Aside0.mk hB4
  have HK := Aside0.mk (And.intro h1 (And.intro h2 h3))
  clear hM hB4 h1 h2 h3
  go_enter Try.func39, Try.ntmps39
  go_wp2_with fail
  rw [← hW4]
  clear hW4
  refine (HM.out W4 (Fr.of_below HB.out) ⟨_, _, HK.out.1, HK.out.2.1, rfl, rfl⟩).mono ?_
  rintro e w7 ⟨u, rfl, hR7, hB7⟩
  obtain ⟨A7, c7, rfl, hc7, _⟩ := Kd.R_reads hR7
  have K7 := Aside0.mk (blk_below HK.out.2.2 hB7)
  have R7 := Aside0.mk (Kd.R_lower hR7 HB.out.size)
  have B7 := Aside0.mk (below_then HB.out HB.out.size hB7)
  clear hR7 hB7 HB HK HM
  have y0 := (blk_cell K7.out 0).trans rfl
  have y1 := (blk_cell K7.out 1).trans rfl
  have y2 := (blk_cell K7.out 2).trans rfl
  have f0 := blk_frozen K7.out 0
  have f1 := blk_frozen K7.out 1
  have f2 := blk_frozen K7.out 2
  go_wp2
  have N0 := Kd.R_types R7.out K7.out (by decide)
  have N1 := Kd.R_far (p := ⟨w.heap.size + 3, 0, none⟩) N0 (fun _ hk => hk.2) (.int .i64 v1)
  have N2 := Kd.R_far (p := ⟨w.heap.size + 3, 1, none⟩) N1 (fun _ hk => hk.2) (.slice A7 out.length c7)
  have N3 := Kd.R_far (p := ⟨w.heap.size + 3, 2, none⟩) N2 (fun _ hk => hk.2) (.int .i64 r1)
  refine bodyPost_ret (results_ct rfl _ _ (w.heap.size + 3) 28 #[.int .i64 v1, .slice A7 out.length c7, .int .i64 r1] (0, 0) _ rfl ?_ hu rfl (by kernel_rfl)) rfl ?_
  · exact blk_put (cs := #[.int .i64 v1, .slice A7 out.length c7, .int .i64 0]) (blk_put (cs := #[.int .i64 v1, .slice none 0 0, .int .i64 0]) (blk_put (cs := #[.int .i64 0, .slice none 0 0, .int .i64 0]) K7.out 0 _ rfl) 1 _ rfl) 2 _ rfl
  · exact ⟨_, by rfl, Kd.R_mono N3 (fun _ _ => trivial), below_set (below_set (below_set B7.out (Nat.le_add_right _ 3)) (Nat.le_add_right _ 3)) (Nat.le_add_right _ 3)⟩
set_option maxRecDepth 100000 in
set_option maxHeartbeats 4000000 in
theorem turn_calls (v r : Int) (A : Option Addr) (c : Nat) (l : List S107) (w : World) (v1 r1 e1 : Int) (out : List S107)
    (hM : ∀ W, Fr (fun _ => False) w W → Calls Try.prog 96 #[.agg #[.int .i64 v, .slice A l.length c, .int .i64 r], .func (.func 99) #[] #[]] W fun e w' => ∃ u : Value, e = .returned (.tuple #[.agg #[.int .i64 v1, u, .int .i64 r1], .int .i64 e1]) ∧ Kd.R k107 107 w' W.heap.size (fun _ => True) u out ∧ Below W.heap.size W w') :
    Calls Try.prog 41 #[.agg #[.int .i64 v, .slice A l.length c, .int .i64 r]] w fun e w' => ∃ u : Value, e = .returned (.tuple #[.agg #[.int .i64 v1, u, .int .i64 r1], .int .i64 e1]) ∧ Kd.R k107 107 w' w.heap.size (fun _ => True) u out ∧ Below w.heap.size w w' := by
  have hu := Try.underlying28
  have HM := Aside0.mk hM
  obtain ⟨W4, hW4⟩ : ∃ W, W = (w.alloc (.cells #[.int .i64 v, .slice A l.length c, .int .i64 r] 28)).alloc (.cells #[.int .i64 0, .slice none 0 0, .int .i64 0] 28) := ⟨_, rfl⟩
  have hB4 : Below w.heap.size w W4 := by rw [hW4]; exact below_alloc (below_alloc (Below.refl _ _) _) _
  have h3 : W4.heap[w.heap.size + 1]? = some (.cells #[.int .i64 0, .slice none 0 0, .int .i64 0] 28 (0, 0)) := by
    rw [hW4]
    simpa using blk_new (w.alloc (.cells #[.int .i64 v, .slice A l.length c, .int .i64 r] 28)) (.cells #[.int .i64 0, .slice none 0 0, .int .i64 0] 28)
  have HB := Aside0.mk hB4
  have HK := Aside0.mk h3
  clear hM hB4 h3
  go_enter Try.func41, Try.ntmps41
  go_wp2_with fail
  rw [← hW4]
  clear hW4
  refine (HM.out W4 (Fr.of_below HB.out)).mono ?_
  rintro e w7 ⟨u, rfl, hR7, hB7⟩
  obtain ⟨A7, c7, rfl, hc7, _⟩ := Kd.R_reads hR7
  have K7 := Aside0.mk (blk_below HK.out hB7)
  have R7 := Aside0.mk (Kd.R_lower hR7 HB.out.size)
  have B7 := Aside0.mk (below_then HB.out HB.out.size hB7)
  clear hR7 hB7 HB HK HM
  have y0 := (blk_cell K7.out 0).trans rfl
  have y1 := (blk_cell K7.out 1).trans rfl
  have y2 := (blk_cell K7.out 2).trans rfl
  have f0 := blk_frozen K7.out 0
  have f1 := blk_frozen K7.out 1
  have f2 := blk_frozen K7.out 2
  go_wp2
  have N0 := Kd.R_types R7.out K7.out (by decide)
  have N1 := Kd.R_far (p := ⟨w.heap.size + 1, 0, none⟩) N0 (fun _ hk => hk.2) (.int .i64 v1)
  have N2 := Kd.R_far (p := ⟨w.heap.size + 1, 1, none⟩) N1 (fun _ hk => hk.2) (.slice A7 out.length c7)
  have N3 := Kd.R_far (p := ⟨w.heap.size + 1, 2, none⟩) N2 (fun _ hk => hk.2) (.int .i64 r1)
  refine bodyPost_ret (results_ct rfl _ _ (w.heap.size + 1) 28 #[.int .i64 v1, .slice A7 out.length c7, .int .i64 r1] (0, 0) _ rfl ?_ hu rfl (by kernel_rfl)) rfl ?_
  · exact blk_put (cs := #[.int .i64 v1, .slice A7 out.length c7, .int .i64 0]) (blk_put (cs := #[.int .i64 v1, .slice none 0 0, .int .i64 0]) (blk_put (cs := #[.int .i64 0, .slice none 0 0, .int .i64 0]) K7.out 0 _ rfl) 1 _ rfl) 2 _ rfl
  · exact ⟨_, by rfl, Kd.R_mono N3 (fun _ _ => trivial), below_set (below_set (below_set B7.out (Nat.le_add_right _ 1)) (Nat.le_add_right _ 1)) (Nat.le_add_right _ 1)⟩
end Go.Proofs.Ytlplphgoldkoeaa.HTab
namespace Go.Proofs.Ytlplphgoldkoeaa.X
open Go.RowKit Go.Proofs.YtlplphgoldkoeaaW.PrintWords Go.Proofs.YtlplphgoldkoeaaW.PrintLast Go.Proofs.YtlplphgoldkoeaaW.PrintMore Go.Proofs.Ytlplphgoldkoeaa.HTab
set_option linter.unusedVariables false
def movedF (g : Int → Int → Int → Int × Int) (v : Int) (l : List (S107)) (r : Int) : Option (Int × List (S107) × Int × Int) :=
  if l.length ≤ 1000000000 then
    if (vmB v l r && decide (v % 2 = 0)) = true then (buildP v (mvF (v / 2).toNat 20 (g (2 ^ (v / 2).toNat)) v r l)).bind fun p => if p.1.length < 1000000000000 then some (v, p.1, p.2, 0) else none
    else some (0, [], 0, 2)
  else none
def mask_Shift.f (a0_0 : Int) (l0_1 : List (S107)) (a0_2 : Int) (a1 : Int) (a2 : Int) := movedF (shG a1 a2) a0_0 l0_1 a0_2
def mask_Turn.f (a0_0 : Int) (l0_1 : List (S107)) (a0_2 : Int) := movedF tuG a0_0 l0_1 a0_2
theorem moved_any {fid : FuncId} {fn : Func} (hfn : Try.prog.funcs[fid]? = some fn) (hname : (fn.name == "runtime.NumGoroutine") = false) (hbody : fn.body.isSome = true) (caps : Array Value) (g : Int → Int → Int → Int × Int) (hg : ∀ kk, OnCloth kk (g (2 ^ kk)))
    (v r : Int) (A : Option Addr) (c : Nat) (l : List S107) (r1 : Int) (r2 : List S107) (r3 r4 : Int) (W : World) (hC : Kd.C k107 W A l.length l) (hc : l.length ≤ c) (hFB : ∀ kk, kk ≤ 6 → FB W fid caps kk (g (2 ^ kk))) (h : movedF g v l r = some (r1, r2, r3, r4)) :
    Calls Try.prog 96 #[.agg #[.int .i64 v, .slice A l.length c, .int .i64 r], .func (.func fid) #[] caps] W fun e w' => ∃ u : Value, e = .returned (.tuple #[.agg #[.int .i64 r1, u, .int .i64 r3], .int .i64 r4]) ∧ Kd.R k107 107 w' W.heap.size (fun _ => True) u r2 ∧ Below W.heap.size W w' := by
  unfold movedF at h
  split at h
  case isFalse => cases h
  rename_i hl
  have hq : mask_Valid.f v l r = some (vmB v l r) := by unfold mask_Valid.f; rw [if_pos hl]
  split at h
  · rename_i hv
    simp only [Bool.and_eq_true, decide_eq_true_eq] at hv
    have hV := vmB_iff.1 hv.1
    have v0 := hV.v0
    have v12 := hV.v12
    obtain ⟨⟨out, r'⟩, hb, h⟩ := Option.bind_eq_some_iff.1 h
    dsimp only at h
    split at h
    case isFalse => cases h
    rename_i ho
    simp only [Option.some.injEq, Prod.mk.injEq] at h
    obtain ⟨rfl, rfl, rfl, rfl⟩ := h
    rw [hv.1] at hq
    exact moved_ok hfn hname hbody caps (v / 2).toNat (by omega) _ v r A c l W 20 hC hc hq (by omega) (hFB _ (by omega)) out r' (hall_of hV _ (by omega) _ (hg _)) hb ho
  · rename_i hv
    simp only [Option.some.injEq, Prod.mk.injEq] at h
    obtain ⟨rfl, rfl, rfl, rfl⟩ := h
    refine (moved_err hfn hname hbody caps v r A c l W hC hc hl _ hq ?_).mono ?_
    · cases hb : vmB v l r with
      | false => exact .inl rfl
      | true =>
        have hV := vmB_iff.1 hb
        rw [hb] at hv
        simp only [Bool.true_and, decide_eq_true_eq] at hv
        exact .inr ⟨hV.v0, hV.v12, by omega⟩
    · rintro e w' ⟨rfl, hb⟩
      exact ⟨_, rfl, Kd.R_nil _ _ _ _ _, hb⟩
theorem p2_le6 (kk : Nat) (h : kk ≤ 6) : (2 : Int) ^ kk ≤ 64 := p2_le kk h
theorem mask_Shift.calls (a0_0 : Int) (A0_1 : Option Addr) (c0_1 : Nat) (l0_1 : List (S107)) (a0_2 : Int) (a1 : Int) (a2 : Int) (r1 : Int) (r2 : List (S107)) (r3 : Int) (r4 : Int) (w : World) (hr0_1 : Kd.C k107 w A0_1 l0_1.length l0_1) (hc0_1 : l0_1.length ≤ c0_1) (h : mask_Shift.f a0_0 l0_1 a0_2 a1 a2 = some (r1, r2, r3, r4)) :
    Calls Try.prog 39 #[.agg #[.int .i64 a0_0, .slice A0_1 l0_1.length c0_1, .int .i64 a0_2], .int .i64 a1, .int .i64 a2] w fun e w' => ∃ v1_ : Value, e = .returned (.tuple #[.agg #[.int .i64 r1, v1_, .int .i64 r3], .int .i64 r4]) ∧ Kd.R k107 107 w' w.heap.size (fun _ => True) v1_ r2 ∧ Below w.heap.size w w' := by
  refine shift_calls a0_0 a0_2 a1 a2 A0_1 c0_1 l0_1 w r1 r3 r4 r2 ?_
  rintro W hF ⟨bx, bz, hx, hz, rfl, rfl⟩
  refine moved_any Try.func97 (by kernel_rfl) rfl _ (shG a1 a2) (fun kk => shG_on kk a1 a2) a0_0 a0_2 A0_1 c0_1 l0_1 r1 r2 r3 r4 W (Kd.C_below hr0_1 ⟨hF.os, hF.tape, hF.output, hF.size, fun i hi => hF.block i hi (fun h => h)⟩) hc0_1 (fun kk hkk => ?_) h
  intro W2 hF2 x y h0 h1 h2 h3
  exact shift1_calls _ _ a1 a2 (2 ^ kk) x y W2 ((hF2.block _ (blk_lt hx) (fun h => h)).trans hx) ((hF2.block _ (blk_lt hz) (fun h => h)).trans hz) h0 h1 h2 h3 (p2_le6 kk hkk)
theorem mask_Turn.calls (a0_0 : Int) (A0_1 : Option Addr) (c0_1 : Nat) (l0_1 : List (S107)) (a0_2 : Int) (r1 : Int) (r2 : List (S107)) (r3 : Int) (r4 : Int) (w : World) (hr0_1 : Kd.C k107 w A0_1 l0_1.length l0_1) (hc0_1 : l0_1.length ≤ c0_1) (h : mask_Turn.f a0_0 l0_1 a0_2 = some (r1, r2, r3, r4)) :
    Calls Try.prog 41 #[.agg #[.int .i64 a0_0, .slice A0_1 l0_1.length c0_1, .int .i64 a0_2]] w fun e w' => ∃ v1_ : Value, e = .returned (.tuple #[.agg #[.int .i64 r1, v1_, .int .i64 r3], .int .i64 r4]) ∧ Kd.R k107 107 w' w.heap.size (fun _ => True) v1_ r2 ∧ Below w.heap.size w w' := by
  refine turn_calls a0_0 a0_2 A0_1 c0_1 l0_1 w r1 r3 r4 r2 ?_
  intro W hF
  refine moved_any Try.func99 (by kernel_rfl) rfl _ tuG tuG_on a0_0 a0_2 A0_1 c0_1 l0_1 r1 r2 r3 r4 W (Kd.C_below hr0_1 ⟨hF.os, hF.tape, hF.output, hF.size, fun i hi => hF.block i hi (fun h => h)⟩) hc0_1 (fun kk hkk => ?_) h
  intro W2 hF2 x y h0 h1 h2 h3
  exact turn1_calls (2 ^ kk) x y W2 h0 h1 (p2_le6 kk hkk)
end Go.Proofs.Ytlplphgoldkoeaa.X
end
