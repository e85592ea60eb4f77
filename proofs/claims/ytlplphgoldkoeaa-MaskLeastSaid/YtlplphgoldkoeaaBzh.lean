/- Lemmas of the masks: part Bzh. -/
import Derived.Test.YtlplphgoldkoeaaBze
import Derived.Test.YtlplphgoldkoeaaBh
import Derived.Test.YtlplphgoldkoeaaBb
import Derived.Deep.DeepMust
section
set_option linter.unusedVariables false
set_option linter.unusedSimpArgs false
namespace Go.Proofs.Ytlplphgoldkoeaa.HTab
open Go.RowKit Go.Proofs.YtlplphgoldkoeaaW.PrintWords Go.Proofs.YtlplphgoldkoeaaW.PrintLast Go.Proofs.YtlplphgoldkoeaaW.PrintMore Go.Proofs.Ytlplphgoldkoeaa.HMap Go.Proofs.Ytlplphgoldkoeaa.X
set_option linter.unusedVariables false
set_option linter.unusedSimpArgs false
abbrev DI : Kd (List Int) := Kd.slice 3 (Kd.int .i64)
def fnP (go gc gf gw : Nat) : Value := .func (.func 112) #[] #[.pointer (some ⟨go, 0, none⟩), .pointer (some ⟨gc, 0, none⟩), .pointer (some ⟨gf, 0, none⟩), .pointer (some ⟨gw, 0, none⟩)]
structure Pw (w0 w : World) (go gc gf gw bc cc : Nat) (v r : Int) (A : Option Addr) (c : Nat) (l : List S107) (vO : Value) (out : List (List Int)) (cube : List Int) : Prop where
  bel : Below w0.heap.size w0 w
  ko : w.heap[go]? = some (.cells #[vO] 77 (0, 0))
  ro : Kd.S DI 82 w w0.heap.size (fun k => k ≠ bc ∧ k ≠ gc) vO out
  kc : w.heap[gc]? = some (.cells #[.slice (some ⟨bc, 0, none⟩) cube.length cc] 82 (0, 0))
  rc : (Kd.int .i64).R 3 w w0.heap.size (fun k => k = bc) (.slice (some ⟨bc, 0, none⟩) cube.length cc) cube
  kf : w.heap[gf]? = some (.cells #[.int .i64 v, .slice A l.length c, .int .i64 r] 28 (0, 0))
  kw : w.heap[gw]? = some (.cells #[fnP go gc gf gw] 133 (0, 0))
  so : w0.heap.size ≤ go
  sb : w0.heap.size ≤ bc
  lb : bc < w.heap.size
  nb : go ≠ bc ∧ gc ≠ bc ∧ gf ≠ bc ∧ gw ≠ bc
section
variable {w0 w w' : World} {go gc gf gw bc cc : Nat} {v r : Int} {A : Option Addr} {c : Nat} {l : List S107} {vO : Value} {out : List (List Int)} {cube : List Int}
theorem Pw.below (h : Pw w0 w go gc gf gw bc cc v r A c l vO out cube) (hb : Below w.heap.size w w') : Pw w0 w' go gc gf gw bc cc v r A c l vO out cube :=
  ⟨below_then h.bel h.bel.size hb, blk_below h.ko hb, Kd.S_below h.ro hb, blk_below h.kc hb, Kd.R_below h.rc hb, blk_below h.kf hb, blk_below h.kw hb, h.so, h.sb, Nat.lt_of_lt_of_le h.lb hb.size, h.nb⟩
theorem Pw.put (h : Pw w0 w go gc gf gw bc cc v r A c l vO out cube) (i : Int) (x : Int) : Pw w0 (w.setCell ⟨bc, i.toNat, none⟩ (.int .i64 x)) go gc gf gw bc cc v r A c l vO out (cube.set i.toNat x) := by
  have hc := (Kd.R_put h.rc i x).1
  exact ⟨below_set h.bel h.sb, blk_far (p := ⟨bc, i.toNat, none⟩) h.ko h.nb.1 _, Kd.S_far (p := ⟨bc, i.toNat, none⟩) h.ro (fun k hk => hk.1) _, by rw [List.length_set]; exact blk_far (p := ⟨bc, i.toNat, none⟩) h.kc h.nb.2.1 _, by rw [List.length_set]; exact hc,
    blk_far (p := ⟨bc, i.toNat, none⟩) h.kf h.nb.2.2.1 _, blk_far (p := ⟨bc, i.toNat, none⟩) h.kw h.nb.2.2.2 _, h.so, h.sb, by simpa [World.setCell] using h.lb, h.nb⟩
theorem Pw.push (h : Pw w0 w go gc gf gw bc cc v r A c l vO out cube) {v5 : Value} {out' : List (List Int)} (hR : Kd.S DI 82 w' w0.heap.size (fun k => k ≠ bc ∧ k ≠ gc) v5 out') (hB : Below w0.heap.size w0 w') (hg : w.grownBy w' vO.ownBlock) :
    Pw w0 (w'.setCell ⟨go, 0, none⟩ v5) go gc gf gw bc cc v r A c l v5 out' cube := by
  have n0 := Kd.R_ne (Kd.S_R h.ro) h.ko (by decide)
  have n1 : some gc ≠ vO.ownBlock := fun e => ((Kd.S_R h.ro).1 gc e.symm).2 rfl
  have n2 := Kd.R_ne (Kd.S_R h.ro) h.kf (by decide)
  have n3 := Kd.R_ne (Kd.S_R h.ro) h.kw (by decide)
  have k0 := blk_grown h.ko hg n0
  have k1 := blk_grown h.kc hg n1
  have k2 := blk_grown h.kf hg n2
  have k3 := blk_grown h.kw hg n3
  have rc := Kd.R_grown h.rc hg (fun k hk => by subst hk; exact fun e => ((Kd.S_R h.ro).1 _ e.symm).1 rfl)
  exact ⟨below_set hB h.so, (blk_put (cs := #[vO]) k0 0 v5 rfl), Kd.S_mono (Kd.S_far (p := ⟨go, 0, none⟩) (Kd.S_types hR k0 (by decide)) (fun k hk => hk.2) v5) (fun k hk => hk.1), blk_far (p := ⟨go, 0, none⟩) k1 (blk_ne k1 k0 (by decide)) _, Kd.R_set rc k0 (by decide) 0 v5,
    blk_far (p := ⟨go, 0, none⟩) k2 (blk_ne k2 k0 (by decide)) _, blk_far (p := ⟨go, 0, none⟩) k3 (blk_ne k3 k0 (by decide)) _, h.so, h.sb, by have := hg.size; have := h.lb; simp [World.setCell]; omega, h.nb⟩
end
def Kp (w w' : World) : Prop := ∀ (k : Nat) (cs : Array Value), w.heap[k]? = some (.cells cs 107 (0, 0)) → w'.heap[k]? = some (.cells cs 107 (0, 0))
theorem Kp.refl (w : World) : Kp w w := fun _ _ h => h
theorem Kp.trans {w w1 w2 : World} (a : Kp w w1) (b : Kp w1 w2) : Kp w w2 := fun k cs h => b k cs (a k cs h)
theorem Kp.below {w w1 : World} (h : Below w.heap.size w w1) : Kp w w1 := fun k cs hk => blk_below hk h
theorem Kp.put {w0 w : World} {go gc gf gw bc cc : Nat} {v r : Int} {A : Option Addr} {c : Nat} {l : List S107} {vO : Value} {out : List (List Int)} {cube : List Int} (h : Pw w0 w go gc gf gw bc cc v r A c l vO out cube) (i : Nat) (x : Value) : Kp w (w.setCell ⟨bc, i, none⟩ x) := fun k cs hk =>
  blk_far (p := ⟨bc, i, none⟩) hk (fun e => Kd.R_ne h.rc hk (by decide) (by rw [e]; rfl)) _
theorem Kp.push {w0 w w' : World} {go gc gf gw bc cc : Nat} {v r : Int} {A : Option Addr} {c : Nat} {l : List S107} {vO : Value} {out : List (List Int)} {cube : List Int} (h : Pw w0 w go gc gf gw bc cc v r A c l vO out cube) (hg : w.grownBy w' vO.ownBlock) (v5 : Value) : Kp w (w'.setCell ⟨go, 0, none⟩ v5) := fun k cs hk => by
  have k0 := blk_grown h.ko hg (Kd.R_ne (Kd.S_R h.ro) h.ko (by decide))
  have k1 := blk_grown hk hg (Kd.R_ne (Kd.S_R h.ro) hk (by decide))
  exact blk_far (p := ⟨go, 0, none⟩) k1 (blk_ne k1 k0 (by decide)) _
def tb_Paths1_1.T : Bool × List (List Nat × List Nat) := (true, [([], []), ([], []), ([1], [1]), ([2], [2]), ([0, 3, 2], [0, 3]), ([4, 4, 0, 1, 2, 3, 4], [4])])
def tb_Paths1_1.B : List Nat := [0, 0, 2, 6, 15, 31]
theorem tb_Paths1_1.tab : rtab .any (opsOf Try.f112 1) = tb_Paths1_1.T := by kernel_rfl
theorem tb_Paths1_1.bits : waitsOk tb_Paths1_1.T.2 tb_Paths1_1.B = true := by kernel_rfl
end Go.Proofs.Ytlplphgoldkoeaa.HTab
end
