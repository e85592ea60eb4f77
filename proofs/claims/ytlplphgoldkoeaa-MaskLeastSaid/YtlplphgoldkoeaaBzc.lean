/- Lemmas of the masks: part Bzc. -/
import Derived.Test.YtlplphgoldkoeaaBzb
import Derived.Test.YtlplphgoldkoeaaBo
import Derived.Deep.DeepMust
section
set_option linter.unusedVariables false
set_option linter.unusedSimpArgs false
namespace Go.Proofs.Ytlplphgoldkoeaa.HTab
open Go.RowKit Go.Proofs.YtlplphgoldkoeaaW.PrintWords Go.Proofs.YtlplphgoldkoeaaW.PrintLast Go.Proofs.YtlplphgoldkoeaaW.PrintMore Go.Proofs.Ytlplphgoldkoeaa.HMap Go.Proofs.Ytlplphgoldkoeaa.X
open Go.ChangeMaps (setBlock)
set_option linter.unusedVariables false
set_option linter.unusedSimpArgs false
structure Lo (w0 w : World) (t : Nat) (T : TB) (O : Nat → Prop) : Prop where
  bel : Below w0.heap.size w0 w
  tab : ∃ S, Tab w S t T ∧ (∀ k, S k → w0.heap.size ≤ k ∧ k < w.heap.size) ∧ ∀ k, O k → ¬ S k ∧ w0.heap.size ≤ k ∧ k < w.heap.size
section
variable {w0 w : World} {t : Nat} {T : TB} {O : Nat → Prop}
theorem Lo.drew (h : Lo w0 w t T O) : Lo w0 w.drew t T O := by
  obtain ⟨hb, S, hT, hS, ho⟩ := h
  exact ⟨below_drew hb, S, hT.below (below_drew (Below.refl _ _)), hS, ho⟩
theorem Lo.alloc (h : Lo w0 w t T O) (o : Obj) : Lo w0 (w.alloc o) t T (fun k => O k ∨ k = w.heap.size) := by
  obtain ⟨hb, S, hT, hS, ho⟩ := h
  have h1 : Below w.heap.size w (w.alloc o) := below_alloc (Below.refl _ _) o
  refine ⟨below_alloc hb o, S, hT.below h1, fun k hk => ⟨(hS k hk).1, Nat.lt_of_lt_of_le (hS k hk).2 h1.size⟩, fun k hk => ?_⟩
  rcases hk with hk | hk
  · exact ⟨(ho k hk).1, (ho k hk).2.1, Nat.lt_of_lt_of_le (ho k hk).2.2 h1.size⟩
  · subst hk
    exact ⟨fun q => Nat.lt_irrefl _ (hS _ q).2, hb.size, by simp⟩
theorem Lo.set (h : Lo w0 w t T O) (b i : Nat) (v : Value) (hb : O b) : Lo w0 (w.setCell ⟨b, i, none⟩ v) t T O := by
  obtain ⟨hB, S, hT, hS, ho⟩ := h
  have e : (w.setCell ⟨b, i, none⟩ v).heap.size = w.heap.size := setCell_size _ _ _
  refine ⟨below_set hB (ho b hb).2.1, S, hT.move (fun k hk hlt => Below.heap_setCell w ⟨b, i, none⟩ v k (fun q => (ho b hb).1 (by have q2 : k = b := q; rw [← q2]; exact hk))), fun k hk => by rw [e]; exact hS k hk, fun k hk => by rw [e]; exact ho k hk⟩
theorem Lo.load (h : Lo w0 w t T O) (vars root : Int) (A : Option Addr) (c : Nat) (l : List S107) (R : List Int × TB) (hl : T.ns.length + l.length < 1000000000000)
    (hC : Kd.C k107 w0 A l.length l) (hc : l.length ≤ c) (hp : loadP l [0, 1] T = some R) (hroot : 0 ≤ root ∧ root < R.1.length) :
    Calls Try.prog 91 #[.pointer (some ⟨t, 0, none⟩), .agg #[.int .i64 vars, .slice A l.length c, .int .i64 root]] w fun e w' => e = .returned (.int .i64 (rd R.1 root)) ∧ Lo w0 w' t R.2 O ∧ ∀ k, O k → w'.heap[k]? = w.heap[k]? := by
  obtain ⟨hb, S, hT, hS, ho⟩ := h
  refine (load_calls t T vars root A c l R w hT hl (fun w' hf => Kd.C_below hC (hf.to_below hb (fun k hk => (hS k hk).1))) hc hp hroot).mono ?_
  rintro e w' ⟨he, hT', hF⟩
  refine ⟨he, ⟨hF.to_below hb (fun k hk => (hS k hk).1), _, hT'.bound, fun k hk => ⟨hk.1.elim (fun q => (hS k q).1) (fun q => Nat.le_trans hb.size q), hk.2⟩, fun k hk => ⟨fun q => q.1.elim (ho k hk).1 (fun q => by have := (ho k hk).2.2; omega), (ho k hk).2.1, Nat.lt_of_lt_of_le (ho k hk).2.2 hF.size⟩⟩, fun k hk => hF.block k (ho k hk).2.2 (ho k hk).1⟩
theorem Lo.wd (h : Lo w0 w t T O) : ∃ W, W = w := ⟨_, rfl⟩
theorem Lo.sz (h : Lo w0 w t T O) : ∃ g, g = w.heap.size := ⟨_, rfl⟩
theorem Lo.new {w w1 : World} {t : Nat} {T : TB} (hT : Tab w1 (fun k => w.heap.size ≤ k ∧ k < w1.heap.size) t T) (hb : Below w.heap.size w w1) : Lo w w1 t T (fun _ => False) :=
  ⟨hb, _, hT, fun k hk => hk, fun k q => q.elim⟩
end
def tb_Compose_8.T : Bool × List (List Nat × List Nat) := (true, [([], []), ([], []), ([], []), ([1, 2], [1, 2]), ([0, 3, 3], [0, 3]), ([4, 4, 0, 1, 2, 3, 4], [4]), ([5, 0, 1, 2, 3, 4, 5], [])])
def tb_Compose_8.B : List Nat := [0, 0, 0, 6, 15, 31, 63]
theorem tb_Compose_8.tab : rtab .any (opsOf Try.f53 8) = tb_Compose_8.T := by kernel_rfl
theorem tb_Compose_8.bits : waitsOk tb_Compose_8.T.2 tb_Compose_8.B = true := by kernel_rfl
def tb_Compose_4.T : Bool × List (List Nat × List Nat) := (true, [([], []), ([], []), ([0, 1], [0, 1]), ([], []), ([], []), ([3, 4, 2], [3, 4]), ([], []), ([2, 5, 0, 1, 2, 6], [2]), ([6, 5, 7, 0, 1, 2, 3, 4, 5, 6, 7], [5, 6])])
def tb_Compose_4.B : List Nat := [0, 0, 3, 0, 0, 31, 0, 127, 255]
theorem tb_Compose_4.tab : rtab .any (opsOf Try.f53 4) = tb_Compose_4.T := by kernel_rfl
theorem tb_Compose_4.bits : waitsOk tb_Compose_4.T.2 tb_Compose_4.B = true := by kernel_rfl
end Go.Proofs.Ytlplphgoldkoeaa.HTab
end
