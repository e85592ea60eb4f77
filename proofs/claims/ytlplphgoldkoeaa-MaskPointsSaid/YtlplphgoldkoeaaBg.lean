/- Lemmas of the masks: part Bg. -/
import Derived.Test.YtlplphgoldkoeaaBf
import Derived.Laws.EntriesVeiled
section
set_option linter.unusedVariables false
set_option linter.unusedSimpArgs false
namespace Go.Proofs.Ytlplphgoldkoeaa.HTab
open Go.RowKit Go.Proofs.YtlplphgoldkoeaaW.PrintWords Go.Proofs.YtlplphgoldkoeaaW.PrintLast Go.Proofs.YtlplphgoldkoeaaW.PrintMore Go.Proofs.Ytlplphgoldkoeaa.HMap Go.Proofs.Ytlplphgoldkoeaa.X
open Go.ChangeMaps (setBlock)
set_option linter.unusedVariables false
set_option linter.unusedSimpArgs false
section
variable {P : Program} {ops : Array Oper} {Q : Exit → Act → World → Prop}
theorem goesV_ {oi : Oper} {N : Option Tmp} {a : Act} {w : World} {K : Act → World → Prop} {f : FuncId} {fn : Func} {x : Operand} {oargs : Array Operand} {ts : Array TypeId} {caps : Array Value} (hf : P.funcs[f]? = some fn) (hname : (fn.name == "runtime.NumGoroutine") = false) (hb : fn.body.isSome = true) (args : Array Value)
    (hw : Region.wanted oi (yielded ops a.tmps) = true) (hN : oi.dst = N) (hop : oi.op = .call { callee := .value x, args := oargs, argTypes := ts }) (hx : a.eval x = .func (.func f) #[] caps) (hargs : oargs.map a.eval ++ caps = args)
    (h : Calls P f args w fun e w' => ∃ v, e = .returned v ∧ K (a.put N v) w') : if Region.wanted oi (yielded ops a.tmps) = true then Oper.wp P oi a w K Q else K (a.put N undef) w := by
  refine call_ f args hw hN ?_ h
  have he := enters_ hf hname hb args w
  unfold execOp
  simp [hop, resolve, Deferred.ofValue, invoke, hx, hargs, he]
theorem goesVL_ {rest : List Oper} {oi : Oper} {a : Act} {w : World} (N : Option Tmp) (hd : oi.dst = N) (hg : oi.guard = none) {f : FuncId} {fn : Func} {x : Operand} {oargs : Array Operand} {ts : Array TypeId} {caps : Array Value} (hf : P.funcs[f]? = some fn) (hname : (fn.name == "runtime.NumGoroutine") = false) (hb : fn.body.isSome = true) (args : Array Value)
    (hop : oi.op = .call { callee := .value x, args := oargs, argTypes := ts }) (hx : a.eval x = .func (.func f) #[] caps) (hargs : oargs.map a.eval ++ caps = args)
    (h : Calls P f args w fun e w' => ∃ v, e = .returned v ∧ wpList P ops Q rest (a.put N v) w') : wpList P ops Q (oi :: rest) a w := by
  refine wpList_plain hg fun K hK => ?_
  have he := enters_ hf hname hb args w
  have hrun : (execOp a.eval oi).run P w = .ok (.enter f args) w := by
    unfold execOp
    simp [hop, resolve, Deferred.ofValue, invoke, hx, hargs, he]
  unfold Oper.wp
  rw [hrun, Oper.upon_enter]
  refine h.mono fun e w'' hh => ?_
  obtain ⟨v, rfl, hk⟩ := hh
  subst hd
  exact hK _ _ hk
end
set_option maxRecDepth 100000 in
set_option maxHeartbeats 4000000 in
theorem newTable_calls (vars : Int) (w : World) :
    Calls Try.prog 89 #[.int .i64 vars] w fun e w' => ∃ g : Nat, e = .returned (.pointer (some ⟨g, 0, none⟩)) ∧ Tab w' (fun k => w.heap.size ≤ k ∧ k < w'.heap.size) g ⟨vars, [⟨0, 0, 0⟩, ⟨0, 0, 0⟩], []⟩ ∧ Below w.heap.size w w' := by
  have hmm := @run_makeMap Try.prog
  go_enter Try.func89, Try.ntmps89
  go_wp2_with (first | (refine Kd.R_make k107 (w0 := w) 0 107 rfl (N := 4) rfl 26 _ _ rfl 2 rfl rfl Try.underlying26 _ 24 info107 rfl (by decide) (by decide) ⟨0, 0, 0⟩ (ok := fun k => w.heap.size ≤ k) (okp := fun _ => False) (k107_mkM _ _ _ ⟨0, 0, 0⟩) (fun k hk => hk.elim) (Nat.le_refl _) (by decide) (by decide) (Below.refl 0 _) (Nat.zero_le _) ?_; intro v1 w1 hR1 hB1 hg1 hb1; obtain ⟨A, c, rfl, hc, hC⟩ := Kd.R_reads hR1; have HR1 := Aside0.mk hR1; have HG1 := Aside0.mk hg1; clear hC hb1 hg1 hR1) | fail)
  go_ret
  have hbw : Below w.heap.size w w1 := ⟨HG1.out.os, HG1.out.tape, HG1.out.output, HG1.out.size, fun i hi => HG1.out.block i hi (by simp)⟩
  have hb1 : Below w.heap.size w (w1.alloc (.map #[] 0)) := below_alloc hbw _
  have hsz := HG1.out.size
  refine ⟨w1.heap.size + 1, rfl, ⟨.slice A 2 c, w1.heap.size, ?_, ?_, ?_, ?_, ?_⟩, below_alloc hb1 _⟩
  · simpa using blk_new (w1.alloc (.map #[] 0)) (.cells #[.int .i64 vars, .slice A 2 c, .map (some w1.heap.size)] 127)
  · exact ⟨by omega, by simp⟩
  · exact ⟨by omega, by simp; omega⟩
  · have := Kd.R_alloc (Kd.R_alloc HR1.out (.map #[] 0)) (.cells #[.int .i64 vars, .slice A 2 c, .map (some w1.heap.size)] 127)
    exact Kd.R_mono (Kd.R_bound this) (fun k hk => ⟨hk.1, hk.2.2.1⟩)
  · exact (MapIs.made encN (Value.int .i64) w1).move (Below.heap_alloc _ _ _ (by simp))
def growP (n : Int) (f : Int → Bool) : Nat → Int → TB → Int × TB
  | 0, p, T => (if f p then 1 else 0, T)
  | k + 1, p, T => nodeP (growP n f k (2 * p + 1) (growP n f k (2 * p) T).2).2 ⟨n - ((k : Int) + 1), (growP n f k (2 * p) T).1, (growP n f k (2 * p + 1) (growP n f k (2 * p) T).2).1⟩
theorem growP_len (n : Int) (f : Int → Bool) : ∀ (k : Nat) (p : Int) (T : TB), (growP n f k p T).2.ns.length + 1 ≤ T.ns.length + 2 ^ k
  | 0, p, T => by simp [growP]
  | k + 1, p, T => by
    unfold growP
    have h1 := growP_len n f k (2 * p) T
    have h2 := growP_len n f k (2 * p + 1) (growP n f k (2 * p) T).2
    have h3 := nodeP_len (growP n f k (2 * p + 1) (growP n f k (2 * p) T).2).2 ⟨n - ((k : Int) + 1), (growP n f k (2 * p) T).1, (growP n f k (2 * p + 1) (growP n f k (2 * p) T).2).1⟩
    rw [Nat.pow_succ]
    omega
def fnG (gn gf gg gt : Nat) : Value := .func (.func 127) #[] #[.pointer (some ⟨gn, 0, none⟩), .pointer (some ⟨gf, 0, none⟩), .pointer (some ⟨gg, 0, none⟩), .pointer (some ⟨gt, 0, none⟩)]
def CB (w : World) (S : Nat → Prop) (fid : FuncId) (caps : Array Value) (N : Int) (f : Int → Bool) : Prop :=
  ∀ W, Fr S w W → ∀ p, 0 ≤ p → p < N → Calls Try.prog fid (#[.int .i64 p] ++ caps) W fun e W' => e = .returned (.bool (f p)) ∧ Below W.heap.size W W'
def Bg (w : World) (S : Nat → Prop) (gn gf gg gt t : Nat) (n : Int) (fid : FuncId) (caps : Array Value) (T : TB) : Prop :=
  w.heap[gn]? = some (.cells #[.int .i64 n] 3 (0, 0)) ∧ w.heap[gf]? = some (.cells #[.func (.func fid) #[] caps] 99 (0, 0)) ∧ w.heap[gg]? = some (.cells #[fnG gn gf gg gt] 118 (0, 0)) ∧ w.heap[gt]? = some (.cells #[.pointer (some ⟨t, 0, none⟩)] 109 (0, 0)) ∧
    ¬ S gn ∧ ¬ S gf ∧ ¬ S gg ∧ ¬ S gt ∧ Tab w S t T
def BPost (w : World) (S : Nat → Prop) (gn gf gg gt t : Nat) (n : Int) (fid : FuncId) (caps : Array Value) (r : Int) (T : TB) (e : Ending) (w' : World) : Prop :=
  e = .returned (.int .i64 r) ∧ Bg w' (fun k => (S k ∨ w.heap.size ≤ k) ∧ k < w'.heap.size) gn gf gg gt t n fid caps T ∧ Fr S w w'
theorem CB.next {w w1 : World} {S S2 : Nat → Prop} {fid : FuncId} {caps : Array Value} {N : Int} {f : Int → Bool} (h : CB w S fid caps N f) (hf : Fr S w w1) (hs : ∀ k, S2 k → S k ∨ w.heap.size ≤ k) : CB w1 S2 fid caps N f := fun W hW => h W (hf.then_ hW hs)
theorem Bg.finish {w w5 : World} {S S5 : Nat → Prop} {gn gf gg gt t : Nat} {n : Int} {fid : FuncId} {caps : Array Value} {T T' : TB} (h : Bg w S gn gf gg gt t n fid caps T) (hF : Fr S w w5) (hT : Tab w5 S5 t T') (hs : ∀ k, S5 k → S k ∨ w.heap.size ≤ k) : Bg w5 (fun k => (S k ∨ w.heap.size ≤ k) ∧ k < w5.heap.size) gn gf gg gt t n fid caps T' := by
  obtain ⟨h1, h2, h3, h4, h5, h6, h7, h8, _⟩ := h
  refine ⟨(hF.block _ (blk_lt h1) h5).trans h1, (hF.block _ (blk_lt h2) h6).trans h2, (hF.block _ (blk_lt h3) h7).trans h3, (hF.block _ (blk_lt h4) h8).trans h4, ?_, ?_, ?_, ?_, hT.bound.mono (fun k hk => ⟨hs k hk.1, hk.2⟩)⟩
  · exact fun h => h.1.elim h5 (fun h => by have := blk_lt h1; omega)
  · exact fun h => h.1.elim h6 (fun h => by have := blk_lt h2; omega)
  · exact fun h => h.1.elim h7 (fun h => by have := blk_lt h3; omega)
  · exact fun h => h.1.elim h8 (fun h => by have := blk_lt h4; omega)
def tb_build1_6.T : Bool × List (List Nat × List Nat) := (true, [([], []), ([], []), ([], []), ([], []), ([], []), ([4], [4]), ([], []), ([6], [6]), ([7], [7]), ([3, 5, 8], [3, 5, 8]), ([1, 2, 9], [1, 2, 9]), ([0, 10, 9], [0, 10]), ([11, 11, 0, 1, 2, 3, 4, 5, 6, 7, 8, 9, 10, 11], [11])])
def tb_build1_6.B : List Nat := [0, 0, 0, 0, 0, 16, 0, 64, 192, 504, 1022, 2047, 4095]
theorem tb_build1_6.tab : rtab .any (opsOf Try.f127 6) = tb_build1_6.T := by kernel_rfl
theorem tb_build1_6.bits : waitsOk tb_build1_6.T.2 tb_build1_6.B = true := by kernel_rfl
section
variable {fid : FuncId} {fn : Func} (hfn : Try.prog.funcs[fid]? = some fn) (hname : (fn.name == "runtime.NumGoroutine") = false) (hbody : fn.body.isSome = true)
include hfn hname hbody
set_option maxRecDepth 100000 in
set_option maxHeartbeats 4000000 in
theorem build1_leaf {S : Nat → Prop} (gn gf gg gt t : Nat) (n : Int) (caps : Array Value) (N : Int) (f : Int → Bool) (T : TB) (p : Int) (w : World) (hB : Bg w S gn gf gg gt t n fid caps T) (hC : CB w S fid caps N f) (hp0 : 0 ≤ p) (hpN : p < N) :
    Calls Try.prog 127 #[.int .i64 n, .int .i64 p, .pointer (some ⟨gn, 0, none⟩), .pointer (some ⟨gf, 0, none⟩), .pointer (some ⟨gg, 0, none⟩), .pointer (some ⟨gt, 0, none⟩)] w (BPost w S gn gf gg gt t n fid caps (if f p then 1 else 0) T) := by
  have HB := Aside0.mk hB
  obtain ⟨h1, h2, h3, h4, h5, h6, h7, h8, hT⟩ := hB
  have c1 := (blk_cell h1 0).trans rfl
  have c2 := (blk_cell h2 0).trans rfl
  have HC := Aside0.mk (hC w (Fr.refl S w) p hp0 hpN)
  clear h1 h2 h3 h4 h5 h6 h7 h8 hT hC
  have fin : Aside0 (∀ w', Below w.heap.size w w' → Bg w' (fun k => (S k ∨ w.heap.size ≤ k) ∧ k < w'.heap.size) gn gf gg gt t n fid caps T) := ⟨fun w' hb => by
    obtain ⟨h1, h2, h3, h4, h5, h6, h7, h8, hT⟩ := HB.out
    refine ⟨blk_below h1 hb, blk_below h2 hb, blk_below h3 hb, blk_below h4 hb, ?_, ?_, ?_, ?_, (hT.bound.below hb).mono (fun k hk => ⟨.inl hk.1, Nat.lt_of_lt_of_le hk.2 hb.size⟩)⟩
    · exact fun h => h.1.elim h5 (fun h => by have := blk_lt h1; omega)
    · exact fun h => h.1.elim h6 (fun h => by have := blk_lt h2; omega)
    · exact fun h => h.1.elim h7 (fun h => by have := blk_lt h3; omega)
    · exact fun h => h.1.elim h8 (fun h => by have := blk_lt h4; omega)⟩
  cases hf : f p
  all_goals
    have HF := Aside0.mk hf
    clear hf
    go_enter Try.func127, Try.ntmps127
    go_wp2_with (first | (refine goesVL_ _ rfl rfl hfn hname hbody _ rfl rfl (by simp only [List.map_toArray, List.map_cons, List.map_nil]; rfl) ?_; refine HC.out.mono ?_; rw [HF.out]; rintro e w1 ⟨rfl, hb1⟩; refine ⟨_, rfl, ?_⟩; replace hb1 := Aside0.mk hb1) | fail)
    go_ret
    exact ⟨by rfl, fin.out _ hb1.out, Fr.of_below hb1.out⟩
end
set_option maxRecDepth 100000 in
set_option maxHeartbeats 4000000 in
theorem build1_inner {S : Nat → Prop} {fid : FuncId} (gn gf gg gt t : Nat) (n : Int) (caps : Array Value) (T T1 T2 : TB) (v p r1 r2 : Int) (w : World) (hB : Bg w S gn gf gg gt t n fid caps T) (hv : v < n) (hv0 : 0 ≤ v) (hn : n ≤ 1000) (hp0 : 0 ≤ p) (hp1 : p < 1000000000000) (hlen : T2.ns.length < 1000000000000)
    (C1 : Calls Try.prog 127 #[.int .i64 (v + 1), .int .i64 (2 * p), .pointer (some ⟨gn, 0, none⟩), .pointer (some ⟨gf, 0, none⟩), .pointer (some ⟨gg, 0, none⟩), .pointer (some ⟨gt, 0, none⟩)] w (BPost w S gn gf gg gt t n fid caps r1 T1))
    (C2 : ∀ (S1 : Nat → Prop) (W1 : World), Bg W1 S1 gn gf gg gt t n fid caps T1 → Fr S w W1 → (∀ k, S1 k → S k ∨ w.heap.size ≤ k) → Calls Try.prog 127 #[.int .i64 (v + 1), .int .i64 (2 * p + 1), .pointer (some ⟨gn, 0, none⟩), .pointer (some ⟨gf, 0, none⟩), .pointer (some ⟨gg, 0, none⟩), .pointer (some ⟨gt, 0, none⟩)] W1 (BPost W1 S1 gn gf gg gt t n fid caps r2 T2)) :
    Calls Try.prog 127 #[.int .i64 v, .int .i64 p, .pointer (some ⟨gn, 0, none⟩), .pointer (some ⟨gf, 0, none⟩), .pointer (some ⟨gg, 0, none⟩), .pointer (some ⟨gt, 0, none⟩)] w
      (BPost w S gn gf gg gt t n fid caps (nodeP T2 ⟨v, r1, r2⟩).1 (nodeP T2 ⟨v, r1, r2⟩).2) := by
  have HB := Aside0.mk hB
  obtain ⟨h1, h2, h3, h4, h5, h6, h7, h8, hT⟩ := hB
  have c1 := (blk_cell h1 0).trans rfl
  have c3 : w.cell? ⟨gg, 0, none⟩ = some (.func (.func 127) #[] #[.pointer (some ⟨gn, 0, none⟩), .pointer (some ⟨gf, 0, none⟩), .pointer (some ⟨gg, 0, none⟩), .pointer (some ⟨gt, 0, none⟩)]) := (blk_cell h3 0).trans rfl
  have hb : (v == n) = false := by simp; omega
  have HC1 := Aside0.mk C1
  have HC2 := Aside0.mk C2
  clear h1 h2 h3 h4 h5 h6 h7 h8 hT C1 C2
  go_enter Try.func127, Try.ntmps127
  go_wp2_with fail
  refine HC1.out.mono ?_
  intro e w3 hp
  obtain ⟨rfl, hB3, hF3⟩ := hp
  have hS3 : ∀ k, ((S k ∨ w.heap.size ≤ k) ∧ k < w3.heap.size) → S k ∨ w.heap.size ≤ k := fun k h => h.1
  have HC3 := Aside0.mk (HC2.out _ w3.drew (show Bg w3.drew _ gn gf gg gt t n fid caps T1 from ⟨hB3.1, hB3.2.1, hB3.2.2.1, hB3.2.2.2.1, hB3.2.2.2.2.1, hB3.2.2.2.2.2.1, hB3.2.2.2.2.2.2.1, hB3.2.2.2.2.2.2.2.1, hB3.2.2.2.2.2.2.2.2.move (fun _ _ _ => rfl)⟩) ⟨hF3.os, hF3.tape, hF3.output, hF3.size, hF3.block⟩ hS3)
  have d3 : w3.cell? ⟨gg, 0, none⟩ = some (.func (.func 127) #[] #[.pointer (some ⟨gn, 0, none⟩), .pointer (some ⟨gf, 0, none⟩), .pointer (some ⟨gg, 0, none⟩), .pointer (some ⟨gt, 0, none⟩)]) := (blk_cell hB3.2.2.1 0).trans rfl
  have d4 : w3.cell? ⟨gt, 0, none⟩ = some (.pointer (some ⟨t, 0, none⟩)) := (blk_cell hB3.2.2.2.1 0).trans rfl
  have HF3 := Aside0.mk hF3
  have E1 : Aside0 (wrap64 (v + 1) = v + 1) := ⟨by unfold wrap64; omega⟩
  have E2 : Aside0 (wrap64 (2 * p) = 2 * p) := ⟨by unfold wrap64; omega⟩
  have E3 : Aside0 (wrap64 (2 * p + 1) = 2 * p + 1) := ⟨by unfold wrap64; omega⟩
  clear hB3 hF3 HC2 hS3
  go_wp2
  refine start_ (n := 13) (S := fun w' => (w'.cell? ⟨gg, 0, none⟩ = some (.func (.func 127) #[] #[.pointer (some ⟨gn, 0, none⟩), .pointer (some ⟨gf, 0, none⟩), .pointer (some ⟨gg, 0, none⟩), .pointer (some ⟨gt, 0, none⟩)])) ∧ (w'.cell? ⟨gt, 0, none⟩ = some (.pointer (some ⟨t, 0, none⟩)))) (ds := [11]) #[false, false, false, false, false, false, false, false, false, false, false, false, false] (by kernel_rfl) rfl rfl ⟨d3, d4⟩ (fun hHeld => ?_)
  refine with_tabW tb_build1_6.tab tb_build1_6.bits (fun HT_ HW_ => ?_)
  refine take_ (i := 0) (N := some 22) (v := ?_) (a' := ?_) #[true, false, false, false, false, false, false, false, false, false, false, false, false] rfl rfl (take_ofW HT_.out HW_.out (by kernel_rfl)) (fun _ _ _ h => h) (Or.inl ⟨by rfl, ?_⟩) hHeld ?_ ?_
  rotate_left
  · rintro w' ⟨s0, s1⟩
    go_simp
    with_reducible rfl
  rotate_left
  · simp only [Act.put, List.setIfInBounds_toArray, List.set_cons_zero, List.set_cons_succ, i64_w, i32_w]
    rfl
  refine pure_ (i := 1) (N := some 23) (v := ?_) (a' := ?_) #[true, true, false, false, false, false, false, false, false, false, false, false, false] rfl rfl (any_of HT_.out (by kernel_rfl)) (fun _ _ _ h => h) (Or.inl ⟨by rfl, ?_⟩) ?_ ?_
  rotate_left
  · intro w'
    go_simp
    with_reducible rfl
  rotate_left
  · simp only [Act.put, List.setIfInBounds_toArray, List.set_cons_zero, List.set_cons_succ, i64_w, i32_w]
    rfl
  refine pure_ (i := 2) (N := some 24) (v := ?_) (a' := ?_) #[true, true, true, false, false, false, false, false, false, false, false, false, false] rfl rfl (any_of HT_.out (by kernel_rfl)) (fun _ _ _ h => h) (Or.inl ⟨by rfl, ?_⟩) ?_ ?_
  rotate_left
  · intro w'
    go_simp
    with_reducible rfl
  rotate_left
  · simp only [Act.put, List.setIfInBounds_toArray, List.set_cons_zero, List.set_cons_succ, i64_w, i32_w]
    rfl
  refine take_ (i := 3) (N := some 25) (v := ?_) (a' := ?_) #[true, true, true, true, false, false, false, false, false, false, false, false, false] rfl rfl (take_ofW HT_.out HW_.out (by kernel_rfl)) (fun _ _ _ h => h) (Or.inl ⟨by rfl, ?_⟩) hHeld ?_ ?_
  rotate_left
  · rintro w' ⟨s0, s1⟩
    go_simp
    with_reducible rfl
  rotate_left
  · simp only [Act.put, List.setIfInBounds_toArray, List.set_cons_zero, List.set_cons_succ, i64_w, i32_w]
    rfl
  refine pure_ (i := 4) (N := some 26) (v := ?_) (a' := ?_) #[true, true, true, true, true, false, false, false, false, false, false, false, false] rfl rfl (any_of HT_.out (by kernel_rfl)) (fun _ _ _ h => h) (Or.inl ⟨by rfl, ?_⟩) ?_ ?_
  rotate_left
  · intro w'
    go_simp
    with_reducible rfl
  rotate_left
  · simp only [Act.put, List.setIfInBounds_toArray, List.set_cons_zero, List.set_cons_succ, i64_w, i32_w]
    rfl
  refine pure_ (i := 5) (N := some 27) (v := ?_) (a' := ?_) #[true, true, true, true, true, true, false, false, false, false, false, false, false] rfl rfl (any_of HT_.out (by kernel_rfl)) (fun _ _ _ h => h) (Or.inl ⟨by rfl, ?_⟩) ?_ ?_
  rotate_left
  · intro w'
    go_simp
    with_reducible rfl
  rotate_left
  · simp only [Act.put, List.setIfInBounds_toArray, List.set_cons_zero, List.set_cons_succ, i64_w, i32_w]
    rfl
  refine pure_ (i := 6) (N := some 28) (v := ?_) (a' := ?_) #[true, true, true, true, true, true, true, false, false, false, false, false, false] rfl rfl (any_of HT_.out (by kernel_rfl)) (fun _ _ _ h => h) (Or.inl ⟨by rfl, ?_⟩) ?_ ?_
  rotate_left
  · intro w'
    go_simp
    with_reducible rfl
  rotate_left
  · simp only [Act.put, List.setIfInBounds_toArray, List.set_cons_zero, List.set_cons_succ, i64_w, i32_w]
    rfl
  refine pure_ (i := 7) (N := some 29) (v := ?_) (a' := ?_) #[true, true, true, true, true, true, true, true, false, false, false, false, false] rfl rfl (any_of HT_.out (by kernel_rfl)) (fun _ _ _ h => h) (Or.inl ⟨by rfl, ?_⟩) ?_ ?_
  rotate_left
  · intro w'
    go_simp
    with_reducible rfl
  rotate_left
  · simp only [Act.put, List.setIfInBounds_toArray, List.set_cons_zero, List.set_cons_succ, i64_w, i32_w]
    rfl
  refine pure_ (i := 8) (N := some 30) (v := ?_) (a' := ?_) #[true, true, true, true, true, true, true, true, true, false, false, false, false] rfl rfl (any_of HT_.out (by kernel_rfl)) (fun _ _ _ h => h) (Or.inl ⟨by rfl, ?_⟩) ?_ ?_
  rotate_left
  · intro w'
    go_simp
    with_reducible rfl
  rotate_left
  · simp only [Act.put, List.setIfInBounds_toArray, List.set_cons_zero, List.set_cons_succ, i64_w, i32_w]
    rfl
  refine one_ (i := 9) (N := some 31) #[true, true, true, true, true, true, true, true, true, true, false, false, false] rfl rfl (one_of HT_.out (by kernel_rfl)) (by decide) (fun K hK => ?_)
  refine goesV_ Try.func127 (by kernel_rfl) rfl #[.int .i64 (v + 1), .int .i64 (2 * p + 1), .pointer (some ⟨gn, 0, none⟩), .pointer (some ⟨gf, 0, none⟩), .pointer (some ⟨gg, 0, none⟩), .pointer (some ⟨gt, 0, none⟩)] (by rfl) rfl rfl rfl (by simp only [List.map_toArray, List.map_cons, List.map_nil, E1.out, E2.out, E3.out]; rfl) ?_
  refine HC3.out.mono ?_
  intro e w4 hp
  obtain ⟨rfl, hB4, hF4⟩ := hp
  refine ⟨_, rfl, ?_⟩
  have HB4 := Aside0.mk hB4
  have HF4 := Aside0.mk hF4
  clear hB4 hF4
  refine hK.out _ _ ⟨(blk_cell HB4.out.2.2.1 0).trans rfl, (blk_cell HB4.out.2.2.2.1 0).trans rfl⟩ (fun hHeld => ?_)
  clear hK K
  refine norm_ (a' := ?_) ?_ ?_
  rotate_left
  · show Act.put _ (some 31) _ = _
    (try simp only [Act.put, List.setIfInBounds_toArray, List.set_cons_zero, List.set_cons_succ, i64_w, i32_w])
    rfl
  refine pure_ (i := 10) (N := some 32) (v := ?_) (a' := ?_) #[true, true, true, true, true, true, true, true, true, true, true, false, false] rfl rfl (any_of HT_.out (by kernel_rfl)) (fun _ _ _ h => h) (Or.inl ⟨by rfl, ?_⟩) ?_ ?_
  rotate_left
  · intro w'
    go_simp
    with_reducible rfl
  rotate_left
  · simp only [Act.put, List.setIfInBounds_toArray, List.set_cons_zero, List.set_cons_succ, i64_w, i32_w]
    rfl
  refine last_ (i := 11) (N := some 33) #[true, true, true, true, true, true, true, true, true, true, true, true, false] rfl rfl (one_of HT_.out (by kernel_rfl)) (by decide) (fun K hK => ?_)
  refine goes_ Try.func105 (by kernel_rfl) rfl #[.pointer (some ⟨t, 0, none⟩), encN ⟨v, r1, r2⟩] (by rfl) rfl rfl (by simp only [List.map_toArray, List.map_cons, List.map_nil]; rfl) ?_
  refine (node_calls t T2 ⟨v, r1, r2⟩ _ HB4.out.2.2.2.2.2.2.2.2 hlen).mono ?_
  intro e w5 hp
  obtain ⟨rfl, hT5, hF5⟩ := hp
  refine ⟨_, rfl, ?_⟩
  have HT5 := Aside0.mk hT5
  have HF5 := Aside0.mk hF5
  clear hT5 hF5
  refine hK.out _ _ ?_
  clear hK K
  refine norm_ (a' := ?_) ?_ ?_
  rotate_left
  · show Act.put _ (some 33) _ = _
    (try simp only [Act.put, List.setIfInBounds_toArray, List.set_cons_zero, List.set_cons_succ, i64_w, i32_w])
    rfl
  refine pure_ (i := 12) (N := some 8) (v := ?_) (a' := ?_) #[true, true, true, true, true, true, true, true, true, true, true, true, true] rfl rfl (any_of HT_.out (by kernel_rfl)) (fun _ _ _ h => h) (Or.inl ⟨by rfl, ?_⟩) ?_ ?_
  rotate_left
  · intro w'
    go_simp
    with_reducible rfl
  rotate_left
  · simp only [Act.put, List.setIfInBounds_toArray, List.set_cons_zero, List.set_cons_succ, i64_w, i32_w]
    rfl
  refine done_ (done_of HT_.out (by kernel_rfl)) ?_
  go_wp2
  go_ret
  have hF4 : Fr S w _ := (HF3.out.then_ (S2 := fun k => (S k ∨ w.heap.size ≤ k) ∧ k < w3.heap.size) (Fr.undrew HF4.out) (fun i h => h.1))
  have hF5 : Fr S w _ := hF4.then_ HF5.out (fun i h => h.1.elim (fun h => h.1) (fun h => .inr (Nat.le_trans HF3.out.size h)))
  refine ⟨rfl, HB.out.finish hF5 HT5.out (fun k h => h.elim (fun h => h.1.elim (fun h => h.1) (fun h => .inr (Nat.le_trans HF3.out.size h))) (fun h => .inr (Nat.le_trans hF4.size h))), hF5⟩
section
variable {fid : FuncId} {fn : Func} (hfn : Try.prog.funcs[fid]? = some fn) (hname : (fn.name == "runtime.NumGoroutine") = false) (hbody : fn.body.isSome = true)
include hfn hname hbody
omit hfn hname hbody in
theorem two_pow_one (k : Nat) : (1 : Int) ≤ 2 ^ k := by
  induction k with
  | zero => decide
  | succ k ih => rw [Int.pow_succ]; omega
set_option maxRecDepth 100000 in
theorem build1_calls (gn gf gg gt t : Nat) (n : Int) (caps : Array Value) (f : Int → Bool) (hn : n ≤ 1000) : ∀ (k : Nat) (S : Nat → Prop) (T : TB) (v p : Int) (w : World), Bg w S gn gf gg gt t n fid caps T → CB w S fid caps (2 ^ (n.toNat)) f → v + k = n → 0 ≤ v → 0 ≤ p → (p + 1) * 2 ^ k ≤ 2 ^ (n.toNat) → (2 : Int) ^ (n.toNat) < 1000000000 → T.ns.length + 2 ^ k < 1000000000000 →
    Calls Try.prog 127 #[.int .i64 v, .int .i64 p, .pointer (some ⟨gn, 0, none⟩), .pointer (some ⟨gf, 0, none⟩), .pointer (some ⟨gg, 0, none⟩), .pointer (some ⟨gt, 0, none⟩)] w (BPost w S gn gf gg gt t n fid caps (growP n f k p T).1 (growP n f k p T).2)
  | 0, S, T, v, p, w, hB, hC, hv, hv0, hp0, hpk, hN, hlen => by
    obtain rfl : v = n := by omega
    exact build1_leaf hfn hname hbody gn gf gg gt t v caps (2 ^ (v.toNat)) f T p w hB hC hp0 (by simp at hpk; omega)
  | k + 1, S, T, v, p, w, hB, hC, hv, hv0, hp0, hpk, hN, hlen => by
    have IH := build1_calls gn gf gg gt t n caps f hn k
    have hk2 : (2 : Int) ^ (k + 1) = 2 * 2 ^ k := by rw [Int.pow_succ]; omega
    have hk3 : (1 : Int) ≤ 2 ^ k := two_pow_one _
    have hn2 : 2 ^ (k + 1) = 2 * 2 ^ k := by rw [Nat.pow_succ]; omega
    have hple : p + 1 ≤ (p + 1) * 2 ^ (k + 1) := by
      have : (1 : Int) ≤ 2 ^ (k + 1) := two_pow_one _
      have := Int.mul_le_mul_of_nonneg_left this (show 0 ≤ p + 1 by omega)
      omega
    have l1 := growP_len n f k (2 * p) T
    have l2 := growP_len n f k (2 * p + 1) (growP n f k (2 * p) T).2
    have e1 : (2 * p + 1) * 2 ^ k ≤ 2 ^ n.toNat := by
      have : (p + 1) * 2 ^ (k + 1) = (2 * p + 1) * 2 ^ k + 2 ^ k := by rw [hk2, Int.add_mul, Int.add_mul, ← Int.mul_assoc, Int.mul_comm p 2]; omega
      omega
    have e2 : (2 * p + 1 + 1) * 2 ^ k ≤ 2 ^ n.toNat := by
      have : (p + 1) * 2 ^ (k + 1) = (2 * p + 1 + 1) * 2 ^ k := by
        rw [hk2, ← Int.mul_assoc]
        congr 1
        omega
      omega
    unfold growP
    have hvn : n - ((k : Int) + 1) = v := by omega
    rw [hvn]
    refine build1_inner gn gf gg gt t n caps T (growP n f k (2 * p) T).2 (growP n f k (2 * p + 1) (growP n f k (2 * p) T).2).2 v p (growP n f k (2 * p) T).1 (growP n f k (2 * p + 1) (growP n f k (2 * p) T).2).1 w hB (by omega) hv0 hn hp0 (by omega) (by omega) ?_ ?_
    · exact IH S T (v + 1) (2 * p) w hB hC (by omega) (by omega) (by omega) e1 hN (by omega)
    · intro S1 W1 hB1 hF1 hs1
      exact IH S1 _ (v + 1) (2 * p + 1) W1 hB1 (hC.next hF1 hs1) (by omega) (by omega) (by omega) e2 hN (by omega)
end
end Go.Proofs.Ytlplphgoldkoeaa.HTab
end

section
set_option linter.unusedVariables false
set_option linter.unusedSimpArgs false
namespace Go.Proofs.Ytlplphgoldkoeaa.HTab
open Go.RowKit Go.Proofs.YtlplphgoldkoeaaW.PrintWords Go.Proofs.YtlplphgoldkoeaaW.PrintLast Go.Proofs.YtlplphgoldkoeaaW.PrintMore Go.Proofs.Ytlplphgoldkoeaa.HMap Go.Proofs.Ytlplphgoldkoeaa.X
open Go.ChangeMaps (setBlock)
set_option linter.unusedVariables false
set_option linter.unusedSimpArgs false
def T0 (n : Int) : TB := ⟨n, [⟨0, 0, 0⟩, ⟨0, 0, 0⟩], []⟩
def M0 : MS := ⟨[(0, 0), (1, 1)], []⟩
def buildP (n : Int) (f : Int → Bool) : Option (List S107 × Int) :=
  (maskP (growP n f n.toNat 0 (T0 n)).2 64 M0 (growP n f n.toNat 0 (T0 n)).1).map fun p => (p.2.out, p.1)
theorem nodeP_vars (T : TB) (n : S107) : (nodeP T n).2.vars = T.vars := by
  unfold nodeP
  split
  · rfl
  · split <;> rfl
theorem growP_vars (n : Int) (f : Int → Bool) : ∀ (k : Nat) (p : Int) (T : TB), (growP n f k p T).2.vars = T.vars
  | 0, p, T => by simp [growP]
  | k + 1, p, T => by
    unfold growP
    rw [nodeP_vars, growP_vars n f k, growP_vars n f k]
def tb_build_4.T : Bool × List (List Nat × List Nat) := (true, [([], []), ([], []), ([1], [1]), ([0, 2, 2], [0, 2]), ([3, 3, 0, 1, 2, 3], [3])])
def tb_build_4.B : List Nat := [0, 0, 2, 7, 15]
theorem tb_build_4.tab : rtab .any (opsOf Try.f84 4) = tb_build_4.T := by kernel_rfl
theorem tb_build_4.bits : waitsOk tb_build_4.T.2 tb_build_4.B = true := by kernel_rfl
section
variable {fid : FuncId} {fn : Func} (hfn : Try.prog.funcs[fid]? = some fn) (hname : (fn.name == "runtime.NumGoroutine") = false) (hbody : fn.body.isSome = true)
include hfn hname hbody
set_option maxRecDepth 100000 in
set_option maxHeartbeats 4000000 in
theorem build_calls (n : Int) (caps : Array Value) (f : Int → Bool) (out : List S107) (r : Int) (w : World) (hn0 : 0 ≤ n) (hn : n ≤ 12) (hC : CB w (fun _ => False) fid caps (2 ^ n.toNat) f) (hlen : out.length < 1000000000000) (h : buildP n f = some (out, r)) :
    Calls Try.prog 84 #[.int .i64 n, .func (.func fid) #[] caps] w fun e w' => ∃ v : Value, e = .returned (.agg #[.int .i64 n, v, .int .i64 r]) ∧ k107.R 107 w' w.heap.size (fun _ => True) v out ∧ Below w.heap.size w w' := by
  obtain ⟨⟨r', s'⟩, hm, he⟩ := Option.map_eq_some_iff.1 h
  simp only [Prod.mk.injEq] at he
  obtain ⟨rfl, rfl⟩ := he
  have HC := Aside0.mk hC
  have HM := Aside0.mk hm
  obtain ⟨W3, hW3⟩ : ∃ W, W = ((w.alloc (.cells #[.int .i64 n] 3)).alloc (.cells #[.func (.func fid) #[] caps] 99)).alloc (.cells #[.int .i64 0, .slice none 0 0, .int .i64 0] 28) := ⟨_, rfl⟩
  have hB3 : Below w.heap.size w W3 := by rw [hW3]; exact below_alloc (below_alloc (below_alloc (Below.refl _ _) _) _) _
  have hs3 : W3.heap.size = w.heap.size + 3 := by rw [hW3]; simp
  have k0 : W3.heap[w.heap.size]? = some (.cells #[.int .i64 n] 3 (0, 0)) := by rw [hW3]; exact blk_alloc (blk_alloc (blk_new _ _) _) _
  have k1 : W3.heap[w.heap.size + 1]? = some (.cells #[.func (.func fid) #[] caps] 99 (0, 0)) := by
    rw [hW3]; refine blk_alloc ?_ _
    simpa using blk_new (w.alloc (.cells #[.int .i64 n] 3)) (.cells #[.func (.func fid) #[] caps] 99)
  have k2 : W3.heap[w.heap.size + 2]? = some (.cells #[.int .i64 0, .slice none 0 0, .int .i64 0] 28 (0, 0)) := by
    rw [hW3]
    simpa using blk_new ((w.alloc (.cells #[.int .i64 n] 3)).alloc (.cells #[.func (.func fid) #[] caps] 99)) (.cells #[.int .i64 0, .slice none 0 0, .int .i64 0] 28)
  have HB3 := Aside0.mk hB3
  have HS3 := Aside0.mk hs3
  have K0 := Aside0.mk k0
  have K1 := Aside0.mk k1
  have K2 := Aside0.mk k2
  clear hC hm h hB3 hs3 k0 k1 k2
  go_enter Try.func84, Try.ntmps84
  go_wp2_with fail
  rw [← hW3]
  clear hW3
  refine (newTable_calls n W3).mono ?_
  rintro e w4 ⟨g, rfl, hT4, hB4⟩
  have HT4 := Aside0.mk hT4
  have HB4 := Aside0.mk hB4
  clear hT4 hB4
  go_wp2
  have hsz4 : W3.heap.size ≤ w4.heap.size := HB4.out.size
  have hs3 := HS3.out
  obtain ⟨W6, hW6⟩ : ∃ W, W = (w4.alloc (.cells #[.pointer (some ⟨g, 0, none⟩)] 109)).alloc (.cells #[.func (.func 127) #[] #[.pointer (some ⟨w.heap.size, 0, none⟩), .pointer (some ⟨w.heap.size + 1, 0, none⟩), .pointer (some ⟨w4.heap.size + 1, 0, none⟩), .pointer (some ⟨w4.heap.size, 0, none⟩)]] 118) := ⟨_, rfl⟩
  have hB6 : Below w4.heap.size w4 W6 := by rw [hW6]; exact below_alloc (below_alloc (Below.refl _ _) _) _
  have hB36 : Below W3.heap.size W3 W6 := below_then HB4.out hsz4 hB6
  have hBw6 : Below w.heap.size w W6 := below_then HB3.out (by omega) hB36
  have hgg : W6.heap[w4.heap.size + 1]? = some (.cells #[.func (.func 127) #[] #[.pointer (some ⟨w.heap.size, 0, none⟩), .pointer (some ⟨w.heap.size + 1, 0, none⟩), .pointer (some ⟨w4.heap.size + 1, 0, none⟩), .pointer (some ⟨w4.heap.size, 0, none⟩)]] 118 (0, 0)) := by
    rw [hW6]
    simpa using blk_new (w4.alloc (.cells #[.pointer (some ⟨g, 0, none⟩)] 109)) (.cells #[.func (.func 127) #[] #[.pointer (some ⟨w.heap.size, 0, none⟩), .pointer (some ⟨w.heap.size + 1, 0, none⟩), .pointer (some ⟨w4.heap.size + 1, 0, none⟩), .pointer (some ⟨w4.heap.size, 0, none⟩)]] 118)
  have hgt : W6.heap[w4.heap.size]? = some (.cells #[.pointer (some ⟨g, 0, none⟩)] 109 (0, 0)) := by rw [hW6]; exact blk_alloc (blk_new _ _) _
  have hg : Bg W6 (fun k => W3.heap.size ≤ k ∧ k < w4.heap.size) w.heap.size (w.heap.size + 1) (w4.heap.size + 1) w4.heap.size g n fid caps (T0 n) :=
    ⟨blk_below K0.out hB36, blk_below K1.out hB36, hgg, hgt, by omega, by omega, by omega, by omega, HT4.out.below hB6⟩
  have hCB : CB W6 (fun k => W3.heap.size ≤ k ∧ k < w4.heap.size) fid caps (2 ^ n.toNat) f := HC.out.next (Fr.of_below hBw6) (fun k hk => .inr (by omega))
  have K2' : W6.heap[w.heap.size + 2]? = _ := blk_below K2.out hB36
  have d3 : W6.cell? ⟨w4.heap.size + 1, 0, none⟩ = some (.func (.func 127) #[] #[.pointer (some ⟨w.heap.size, 0, none⟩), .pointer (some ⟨w.heap.size + 1, 0, none⟩), .pointer (some ⟨w4.heap.size + 1, 0, none⟩), .pointer (some ⟨w4.heap.size, 0, none⟩)]) := (blk_cell hgg 0).trans rfl
  have d4 : W6.cell? ⟨w4.heap.size, 0, none⟩ = some (.pointer (some ⟨g, 0, none⟩)) := (blk_cell hgt 0).trans rfl
  rw [← hW6]
  clear hW6 hgg hgt
  have hpow : (2 : Int) ^ n.toNat ≤ 4096 ∧ 2 ^ n.toNat ≤ 4096 := by
    have : n.toNat = 0 ∨ n.toNat = 1 ∨ n.toNat = 2 ∨ n.toNat = 3 ∨ n.toNat = 4 ∨ n.toNat = 5 ∨ n.toNat = 6 ∨ n.toNat = 7 ∨ n.toNat = 8 ∨ n.toNat = 9 ∨ n.toNat = 10 ∨ n.toNat = 11 ∨ n.toNat = 12 := by omega
    rcases this with h | h | h | h | h | h | h | h | h | h | h | h | h <;> rw [h] <;> decide
  have HD := Aside0.mk (build1_calls hfn hname hbody w.heap.size (w.heap.size + 1) (w4.heap.size + 1) w4.heap.size g n caps f (by omega) n.toNat (fun k => W3.heap.size ≤ k ∧ k < w4.heap.size) (T0 n) 0 0 W6.drew (show Bg W6.drew _ _ _ _ _ _ _ _ _ _ from ⟨hg.1, hg.2.1, hg.2.2.1, hg.2.2.2.1, hg.2.2.2.2.1, hg.2.2.2.2.2.1, hg.2.2.2.2.2.2.1, hg.2.2.2.2.2.2.2.1, hg.2.2.2.2.2.2.2.2.move (fun _ _ _ => rfl)⟩) (hCB.next (fr_drewN _ W6 1) (fun k hk => .inl hk)) (by omega) (by omega) (by omega) (by omega) (by omega) (by simp only [T0, List.length_cons, List.length_nil]; omega))
  have K3 := Aside0.mk K2'
  have HBw6 := Aside0.mk hBw6
  have hvars := growP_vars n f n.toNat 0 (T0 n)
  have HVR := Aside0.mk hvars
  have hg3 := Aside0.mk hg.2.2.1
  clear hg hCB K2' hpow hB6 hB36 hBw6 hvars
  refine start_ (n := 5) (S := fun w' => (w'.cell? ⟨w4.heap.size + 1, 0, none⟩ = some (.func (.func 127) #[] #[.pointer (some ⟨w.heap.size, 0, none⟩), .pointer (some ⟨w.heap.size + 1, 0, none⟩), .pointer (some ⟨w4.heap.size + 1, 0, none⟩), .pointer (some ⟨w4.heap.size, 0, none⟩)])) ∧ (w'.cell? ⟨w4.heap.size, 0, none⟩ = some (.pointer (some ⟨g, 0, none⟩)))) (ds := [3, 4]) #[false, false, false, false, false] (by kernel_rfl) rfl rfl ⟨d3, d4⟩ (fun hHeld => ?_)
  refine with_tabW tb_build_4.tab tb_build_4.bits (fun HT_ HW_ => ?_)
  refine take_ (i := 0) (N := some 10) (v := ?_) (a' := ?_) #[true, false, false, false, false] rfl rfl (take_ofW HT_.out HW_.out (by kernel_rfl)) (fun _ _ _ h => h) (Or.inl ⟨by rfl, ?_⟩) hHeld ?_ ?_
  rotate_left
  · rintro w' ⟨s0, s1⟩
    go_simp
    with_reducible rfl
  rotate_left
  · simp only [Act.put, List.setIfInBounds_toArray, List.set_cons_zero, List.set_cons_succ, i64_w, i32_w]
    rfl
  refine take_ (i := 1) (N := some 11) (v := ?_) (a' := ?_) #[true, true, false, false, false] rfl rfl (take_ofW HT_.out HW_.out (by kernel_rfl)) (fun _ _ _ h => h) (Or.inl ⟨by rfl, ?_⟩) hHeld ?_ ?_
  rotate_left
  · rintro w' ⟨s0, s1⟩
    go_simp
    with_reducible rfl
  rotate_left
  · simp only [Act.put, List.setIfInBounds_toArray, List.set_cons_zero, List.set_cons_succ, i64_w, i32_w]
    rfl
  refine one_ (i := 2) (N := some 12) #[true, true, true, false, false] rfl rfl (one_of HT_.out (by kernel_rfl)) (by decide) (fun K hK => ?_)
  refine goesV_ Try.func127 (by kernel_rfl) rfl #[.int .i64 0, .int .i64 0, .pointer (some ⟨w.heap.size, 0, none⟩), .pointer (some ⟨w.heap.size + 1, 0, none⟩), .pointer (some ⟨w4.heap.size + 1, 0, none⟩), .pointer (some ⟨w4.heap.size, 0, none⟩)] (by rfl) rfl rfl rfl (by simp only [List.map_toArray, List.map_cons, List.map_nil]; rfl) ?_
  refine HD.out.mono ?_
  intro e w7 hp
  obtain ⟨rfl, hB7, hF7⟩ := hp
  refine ⟨_, rfl, ?_⟩
  have HB7 := Aside0.mk hB7
  have HF7 := Aside0.mk hF7
  clear hB7 hF7
  refine hK.out _ _ ⟨(blk_cell HB7.out.2.2.1 0).trans rfl, (blk_cell HB7.out.2.2.2.1 0).trans rfl⟩ (fun hHeld => ?_)
  clear hK K
  refine norm_ (a' := ?_) ?_ ?_
  rotate_left
  · show Act.put _ (some 12) _ = _
    (try simp only [Act.put, List.setIfInBounds_toArray, List.set_cons_zero, List.set_cons_succ, i64_w, i32_w])
    rfl
  refine last_ (i := 3) (N := some 13) #[true, true, true, true, false] rfl rfl (one_of HT_.out (by kernel_rfl)) (by decide) (fun K hK => ?_)
  refine goes_ Try.func90 (by kernel_rfl) rfl #[.pointer (some ⟨g, 0, none⟩), .int .i64 (growP n f n.toNat 0 (T0 n)).1] (by rfl) rfl rfl (by simp only [List.map_toArray, List.map_cons, List.map_nil]; rfl) ?_
  refine (tmask_calls g _ 64 s' _ r' _ HB7.out.2.2.2.2.2.2.2.2 hlen HM.out).mono ?_
  rintro e w8 ⟨v8, rfl, hR8, hB8⟩
  obtain ⟨A8, c8, rfl, hc8, hC8⟩ := Kd.R_reads hR8
  rw [show (growP n f n.toNat 0 (T0 n)).2.vars = n from HVR.out]
  refine ⟨.agg #[.int .i64 n, .slice A8 s'.out.length c8, .int .i64 r'], rfl, ?_⟩
  have hF7' : Below w.heap.size w w7 := ⟨HF7.out.os.trans HBw6.out.os, HF7.out.tape.trans HBw6.out.tape, HF7.out.output.trans HBw6.out.output, Nat.le_trans HBw6.out.size HF7.out.size, fun i hi => (HF7.out.block i (Nat.lt_of_lt_of_le hi HBw6.out.size) (by omega)).trans (HBw6.out.block i hi)⟩
  have k7 : w7.heap[w.heap.size + 2]? = _ := (HF7.out.block _ (blk_lt K3.out) (by omega)).trans K3.out
  have k8 := blk_below k7 hB8
  have q0 := (blk_cell k8 0).trans rfl
  have q1 := (blk_cell k8 1).trans rfl
  have q2 := (blk_cell k8 2).trans rfl
  have fq0 := blk_frozen k8 0
  have fq1 := blk_frozen k8 1
  have fq2 := blk_frozen k8 2
  have K8 := Aside0.mk k8
  have HR8 := Aside0.mk (Kd.R_lower hR8 hF7'.size)
  have HBW8 := Aside0.mk (below_then hF7' hF7'.size hB8)
  clear k7 k8 hR8 hB8 hC8 hF7'
  refine hK.out _ _ ?_
  clear hK K
  refine norm_ (a' := ?_) ?_ ?_
  rotate_left
  · show Act.put _ (some 13) _ = _
    (try simp only [Act.put, List.setIfInBounds_toArray, List.set_cons_zero, List.set_cons_succ, i64_w, i32_w])
    rfl
  refine last_ (i := 4) (N := none) #[true, true, true, true, true] rfl rfl (one_of HT_.out (by kernel_rfl)) (by decide) (fun K hK => ?_)
  refine skip_ (w1 := ?_) (by rfl) rfl ?_ ?_
  rotate_left
  · go_simp
    rfl
  refine hK.out _ _ ?_
  clear hK K
  refine norm_ (a' := ?_) ?_ ?_
  rotate_left
  · rfl
  refine done_ (done_of HT_.out (by kernel_rfl)) ?_
  have hu := Try.underlying28
  have hsh := HS3.out
  go_wp2
  have N0 := Kd.R_types HR8.out K8.out (by decide)
  have N1 := Kd.R_far (p := ⟨w.heap.size + 2, 0, none⟩) N0 (fun _ hk => hk.2) (.int .i64 n)
  have N2 := Kd.R_far (p := ⟨w.heap.size + 2, 1, none⟩) N1 (fun _ hk => hk.2) (.slice A8 s'.out.length c8)
  have N3 := Kd.R_far (p := ⟨w.heap.size + 2, 2, none⟩) N2 (fun _ hk => hk.2) (.int .i64 r')
  have hb4 : (((w8.setCell ⟨w.heap.size + 2, 0, none⟩ (.int .i64 n)).setCell ⟨w.heap.size + 2, 1, none⟩ (.slice A8 s'.out.length c8)).setCell ⟨w.heap.size + 2, 2, none⟩ (.int .i64 r')).heap[w.heap.size + 2]? = some (.cells #[.int .i64 n, .slice A8 s'.out.length c8, .int .i64 r'] 28 (0, 0)) :=
    blk_put (cs := #[.int .i64 n, .slice A8 s'.out.length c8, .int .i64 0]) (blk_put (cs := #[.int .i64 n, .slice none 0 0, .int .i64 0]) (blk_put (cs := #[.int .i64 0, .slice none 0 0, .int .i64 0]) K8.out 0 _ rfl) 1 _ rfl) 2 _ rfl
  refine bodyPost_ret (results_cell_row rfl _ _ (w.heap.size + 2) 28 #[.int .i64 n, .slice A8 s'.out.length c8, .int .i64 r'] (0, 0) _ rfl hb4 Try.underlying28 rfl (by kernel_rfl)) rfl ?_
  refine ⟨_, rfl, Kd.R_mono N3 (fun _ _ => trivial), ?_⟩
  exact below_set (below_set (below_set HBW8.out (Nat.le_add_right _ 2)) (Nat.le_add_right _ 2)) (Nat.le_add_right _ 2)
end
end Go.Proofs.Ytlplphgoldkoeaa.HTab
end
