/- Lemmas of the masks: part Bg. -/
import Derived.Test.YtlplphgoldkoeaaBf
import Derived.Laws.EntriesVeiled
section
set_option linter.unusedVariables false
set_option linter.unusedSimpArgs false
namespace Go.Proofs.Ytlplphgoldkoeaa.HTab
open Go.RowKit Go.Proofs.YtlplphgoldkoeaaW.PrintWords Go.Proofs.YtlplphgoldkoeaaW.PrintLast Go.Proofs.YtlplphgoldkoeaaW.PrintMore Go.Proofs.Ytlplphgoldkoeaa.HMap Go.Proofs.Ytlplphgoldkoeaa.X
open Go.ChangeMaps (setBlock)
set_option linter.unusedVariables false
set_option linter.unusedSimpArgs false
section
variable {P : Program} {ops : Array Oper} {Q : Exit → Act → World → Prop}
end
set_option maxRecDepth 100000 in
set_option maxHeartbeats 4000000 in
theorem newTable_calls (vars : Int) (w : World) :
    Calls Try.prog 89 #[.int .i64 vars] w fun e w' => ∃ g : Nat, e = .returned (.pointer (some ⟨g, 0, none⟩)) ∧ Tab w' (fun k => w.heap.size ≤ k ∧ k < w'.heap.size) g ⟨vars, [⟨0, 0, 0⟩, ⟨0, 0, 0⟩], []⟩ ∧ Below w.heap.size w w' := by
  have hmm := @run_makeMap Try.prog
  go_enter Try.func89, Try.ntmps89
  go_wp2_with (first | (refine Kd.R_make k107 (w0 := w) 0 107 rfl (N := 4) rfl 26 _ _ rfl 2 rfl rfl Try.underlying26 _ 24 info107 rfl (by decide) (by decide) ⟨0, 0, 0⟩ (ok := fun k => w.heap.size ≤ k) (okp := fun _ => False) (k107_mkM _ _ _ ⟨0, 0, 0⟩) (fun k hk => hk.elim) (Nat.le_refl _) (by decide) (by decide) (Below.refl 0 _) (Nat.zero_le _) ?_; intro v1 w1 hR1 hB1 hg1 hb1; obtain ⟨A, c, rfl, hc, hC⟩ := Kd.R_reads hR1; have HR1 := Aside0.mk hR1; have HG1 := Aside0.mk hg1; clear hC hb1 hg1 hR1) | fail)
  go_ret
  have hbw : Below w.heap.size w w1 := ⟨HG1.out.os, HG1.out.tape, HG1.out.output, HG1.out.size, fun i hi => HG1.out.block i hi (by simp)⟩
  have hb1 : Below w.heap.size w (w1.alloc (.map #[] 0)) := below_alloc hbw _
  have hsz := HG1.out.size
  refine ⟨w1.heap.size + 1, rfl, ⟨.slice A 2 c, w1.heap.size, ?_, ?_, ?_, ?_, ?_⟩, below_alloc hb1 _⟩
  · simpa using blk_new (w1.alloc (.map #[] 0)) (.cells #[.int .i64 vars, .slice A 2 c, .map (some w1.heap.size)] 127)
  · exact ⟨by omega, by simp⟩
  · exact ⟨by omega, by simp; omega⟩
  · have := Kd.R_alloc (Kd.R_alloc HR1.out (.map #[] 0)) (.cells #[.int .i64 vars, .slice A 2 c, .map (some w1.heap.size)] 127)
    exact Kd.R_mono (Kd.R_bound this) (fun k hk => ⟨hk.1, hk.2.2.1⟩)
  · exact (MapIs.made encN (Value.int .i64) w1).move (Below.heap_alloc _ _ _ (by simp))
def growP (n : Int) (f : Int → Bool) : Nat → Int → TB → Int × TB
  | 0, p, T => (if f p then 1 else 0, T)
  | k + 1, p, T => nodeP (growP n f k (2 * p + 1) (growP n f k (2 * p) T).2).2 ⟨n - ((k : Int) + 1), (growP n f k (2 * p) T).1, (growP n f k (2 * p + 1) (growP n f k (2 * p) T).2).1⟩
def CB (w : World) (S : Nat → Prop) (fid : FuncId) (caps : Array Value) (N : Int) (f : Int → Bool) : Prop :=
  ∀ W, Fr S w W → ∀ p, 0 ≤ p → p < N → Calls Try.prog fid (#[.int .i64 p] ++ caps) W fun e W' => e = .returned (.bool (f p)) ∧ Below W.heap.size W W'
theorem CB.next {w w1 : World} {S S2 : Nat → Prop} {fid : FuncId} {caps : Array Value} {N : Int} {f : Int → Bool} (h : CB w S fid caps N f) (hf : Fr S w w1) (hs : ∀ k, S2 k → S k ∨ w.heap.size ≤ k) : CB w1 S2 fid caps N f := fun W hW => h W (hf.then_ hW hs)
def tb_build1_6.T : Bool × List (List Nat × List Nat) := (true, [([], []), ([], []), ([], []), ([], []), ([], []), ([4], [4]), ([], []), ([6], [6]), ([7], [7]), ([3, 5, 8], [3, 5, 8]), ([1, 2, 9], [1, 2, 9]), ([0, 10, 9], [0, 10]), ([11, 11, 0, 1, 2, 3, 4, 5, 6, 7, 8, 9, 10, 11], [11])])
def tb_build1_6.B : List Nat := [0, 0, 0, 0, 0, 16, 0, 64, 192, 504, 1022, 2047, 4095]
theorem tb_build1_6.tab : rtab .any (opsOf Try.f127 6) = tb_build1_6.T := by kernel_rfl
theorem tb_build1_6.bits : waitsOk tb_build1_6.T.2 tb_build1_6.B = true := by kernel_rfl
section
variable {fid : FuncId} {fn : Func} (hfn : Try.prog.funcs[fid]? = some fn) (hname : (fn.name == "runtime.NumGoroutine") = false) (hbody : fn.body.isSome = true)
include hfn hname hbody
end
section
variable {fid : FuncId} {fn : Func} (hfn : Try.prog.funcs[fid]? = some fn) (hname : (fn.name == "runtime.NumGoroutine") = false) (hbody : fn.body.isSome = true)
include hfn hname hbody
end
end Go.Proofs.Ytlplphgoldkoeaa.HTab
end

section
set_option linter.unusedVariables false
set_option linter.unusedSimpArgs false
namespace Go.Proofs.Ytlplphgoldkoeaa.HTab
open Go.RowKit Go.Proofs.YtlplphgoldkoeaaW.PrintWords Go.Proofs.YtlplphgoldkoeaaW.PrintLast Go.Proofs.YtlplphgoldkoeaaW.PrintMore Go.Proofs.Ytlplphgoldkoeaa.HMap Go.Proofs.Ytlplphgoldkoeaa.X
open Go.ChangeMaps (setBlock)
set_option linter.unusedVariables false
set_option linter.unusedSimpArgs false
def T0 (n : Int) : TB := ⟨n, [⟨0, 0, 0⟩, ⟨0, 0, 0⟩], []⟩
def M0 : MS := ⟨[(0, 0), (1, 1)], []⟩
def tb_build_4.T : Bool × List (List Nat × List Nat) := (true, [([], []), ([], []), ([1], [1]), ([0, 2, 2], [0, 2]), ([3, 3, 0, 1, 2, 3], [3])])
def tb_build_4.B : List Nat := [0, 0, 2, 7, 15]
theorem tb_build_4.tab : rtab .any (opsOf Try.f84 4) = tb_build_4.T := by kernel_rfl
theorem tb_build_4.bits : waitsOk tb_build_4.T.2 tb_build_4.B = true := by kernel_rfl
section
variable {fid : FuncId} {fn : Func} (hfn : Try.prog.funcs[fid]? = some fn) (hname : (fn.name == "runtime.NumGoroutine") = false) (hbody : fn.body.isSome = true)
include hfn hname hbody
end
end Go.Proofs.Ytlplphgoldkoeaa.HTab
end
