/- Lemmas of the proof: part Bj. -/
import Derived.Test.YtbamanjedfccpaaRows
import Derived.Test.YtbamanjedfccpaaBc
import Derived.WalkKit
import Derived.ProofKit
import Derived.OpenShut
import Derived.ShutString
import Derived.ChangeOld
import Derived.Below
import Derived.SizedLaws
import Derived.Lib.SmallJoins
import Derived.Deep.Slices
import Derived.Deep.Fields
import Derived.ChangeSame
import Derived.ChangeArms
section
set_option linter.unusedVariables false
set_option linter.unusedSimpArgs false
namespace Go.Proofs.Ytbamanjedfccpaa.HTab
open Go.ChangeShapes Go.WideShapes Go.ChangeAt Go.RowKit Go.Deep Go.Joins Go.Proofs.YtbamanjedfccpaaW.PrintWords Go.Proofs.Ytbamanjedfccpaa.X
set_option linter.unusedVariables false
section
variable {H : Type} {enc : TypeId × Value → H} {P : Program} {w : World} {base : Nat} {spare : Nat → Bool} {held : Bool}
theorem open_slice_fields {t e : TypeId} {fs : Array Field} {fuel : Nat} {cs : List Value} {x : DataW H × List MemPlace} (ht : P.underlying t = some (.slice e)) (he : P.underlying e = some (.struct fs))
    (hone : oneCellFields P fs = true) (hC : P.cellsOf e = fs.size) (h : DataW.trod enc P w base spare held fuel t cs = some x) :
    (cs = [.slice none 0 0] ∧ x = (.nil, [])) ∨
    ∃ (a : Addr) (len cap m : Nat) (D : Nat → DataW H) (Pl : Nat → List MemPlace), cs = [.slice (some a) len cap] ∧ len ≤ cap ∧ cap ≤ maxLen ∧ len ≤ m ∧
      x.1 = (.slice ((List.range len).map D) ((List.range (m - len)).map fun j => D (len + j))) ∧
      ∀ i, i < m → ∀ (j : Nat) (f : Field), fs[j]? = some f → ∃ (v : Value) (y : DataW H × List MemPlace) (n : Nat), w.cell? (a.add (i * fs.size + j)) = some v ∧ DataW.trod enc P w base spare held n f.type [v] = some y := by
  rcases open_slice ht h with h0 | ⟨a, len, cap, m, n, D, Pl, hcs, hb, hl, hm, hmm, hx, hi⟩
  · exact .inl h0
  · refine .inr ⟨a, len, cap, m, D, Pl, hcs, hl, hm, by rw [hmm]; split <;> omega, by rw [hx], fun i him => ?_⟩
    obtain ⟨cs', hc, ht'⟩ := hi i him
    rw [hC] at hc
    obtain ⟨ys, n', hn', hy, hlen, hyl, hf⟩ := DataW.trod_struct he ht'
    obtain ⟨_, hcl, hat⟩ := World.cells?_some hc
    intro j f hj
    obtain ⟨ho, hk⟩ := hone_of hone j f hj
    have hjl : j < fs.size := (Array.getElem?_eq_some_iff.1 hj).1
    have hcell := hat j hjl
    have hv : cs'[j]? = some (cs'[j]'(by omega)) := List.getElem?_eq_getElem (by omega)
    have h1 := hf j f hj
    rw [ho, hk] at h1
    have hone' : (cs'.drop j).take 1 = [cs'[j]'(by omega)] := by
      rw [List.drop_eq_getElem_cons (by omega)]
      rfl
    rw [hone'] at h1
    have hys : ys[j]? = some (ys[j]'(by omega)) := List.getElem?_eq_getElem (by omega)
    refine ⟨_, _, n', ?_, h1.trans hys⟩
    rw [← Go.Deep.add_add, hcell, hv]
end
def intAt (o : Option Value) : Int := match o with | some (.int _ n) => n | _ => 0
set_option maxRecDepth 100000 in
theorem open_net {H : Type} {enc : TypeId × Value → H} {W : World} {r : Reach} {b0 base : Nat} {sp : Nat → Bool} {held : Bool} {v : Value} {d : DataW H} {ps : List MemPlace} {ts : List TypeId} {ds : List (DataW H)} {j : Nat} (hval : Value.okWide Try.prog W r b0 24 v) (hd : DataW.Trod enc Try.prog W base sp held 24 v d ps)
    (hsz : (DataW.weightsEach Try.prog ts ds).all (· ≤ reachBytes) = true) (htj : ts[j]? = some 24) (hdj : ds[j]? = some d) :
    ∃ (n : Int) (A : Option Addr) (c : Nat) (l : List S34), v = .agg #[.int .i64 n, .slice A l.length c] ∧ Kd.C k34 W A l.length l ∧ l.length ≤ c ∧ l.length < 10000000000000 ∧ (Lit.int .i64 n).wf = true := by
  have hu := Try.underlying24
  obtain ⟨v0, v1, y0, y1, n, rfl, rfl, rfl, h0, h1⟩ := open_agg2 hu (by kernel_rfl) (by kernel_rfl) hval hd
  obtain ⟨n0, e0, _, w0⟩ := DataW.trod_int Try.underlying3 h0
  simp only [List.cons.injEq, and_true] at e0
  subst e0
  rcases open_slice_fields Try.underlying22 Try.underlying34 (by kernel_rfl) (by kernel_rfl) h1 with ⟨hc, hx⟩ | ⟨a, len, cap, m, D, Pl, hc, hl, hm, hlm, hx, hi⟩
  · simp only [List.cons.injEq, and_true] at hc
    subst hc
    exact ⟨n0, none, 0, [], rfl, Kd.C_nil _ _, Nat.le_refl _, by simp, w0⟩
  · simp only [List.cons.injEq, and_true] at hc
    subst hc
    obtain ⟨l, hll⟩ : ∃ l : List S34, l = (List.range len).map fun i => ⟨intAt (W.cell? (a.add (i * 3))), intAt (W.cell? (a.add (i * 3 + 1))), intAt (W.cell? (a.add (i * 3 + 2)))⟩ := ⟨_, rfl⟩
    have hlen : l.length = len := by rw [hll]; simp
    have hsize : len * 24 ≤ reachBytes := by
      have hmem : (((List.range len).map D).length + ((List.range (m - len)).map fun j => D (len + j)).length) * Try.prog.bytesOf 34 ∈ DataW.weightsEach Try.prog ts ds := by
        refine DataW.weights_mem_each htj hdj _ ?_
        simp only [DataW.weights, hu]
        refine DataW.weights_mem_each (j := 1) rfl rfl _ ?_
        rw [hx]
        simp only [DataW.weights, Try.underlying22]
        exact List.mem_cons_self
      have h3 := List.all_eq_true.1 hsz _ hmem
      rw [show Try.prog.bytesOf 34 = 24 by kernel_rfl] at h3
      simp only [List.length_map, List.length_range, decide_eq_true_eq] at h3
      exact Nat.le_trans (Nat.mul_le_mul_right _ (Nat.le_add_right _ _)) h3
    have hr : reachBytes = 140737488351232 := rfl
    refine ⟨n0, some a, cap, l, by rw [hlen], ?_, by omega, by omega, w0⟩
    unfold maxLen at hm
    refine ⟨rfl, by omega, fun hp => ⟨a, rfl, fun i p hp2 => ?_⟩⟩
    have hil : i < len := by
      have := (List.getElem?_eq_some_iff.1 hp2).1
      omega
    have hpe : p = ⟨intAt (W.cell? (a.add (i * 3))), intAt (W.cell? (a.add (i * 3 + 1))), intAt (W.cell? (a.add (i * 3 + 2)))⟩ := by
      rw [hll, List.getElem?_map, List.getElem?_range hil] at hp2
      simpa using hp2.symm
    refine ⟨[.int .i64 p.f0, .int .i64 p.f1, .int .i64 p.f2], rfl, k34_mk W p, ?_⟩
    have hs := hi i (by omega)
    obtain ⟨u0, z0, m0, c0, t0⟩ := hs 0 _ rfl
    obtain ⟨u1, z1, m1, c1, t1⟩ := hs 1 _ rfl
    obtain ⟨u2, z2, m2, c2, t2⟩ := hs 2 _ rfl
    obtain ⟨q0, f0, _, _⟩ := DataW.trod_int Try.underlying3 t0
    obtain ⟨q1, f1, _, _⟩ := DataW.trod_int Try.underlying3 t1
    obtain ⟨q2, f2, _, _⟩ := DataW.trod_int Try.underlying3 t2
    simp only [List.cons.injEq, and_true] at f0 f1 f2
    subst f0 f1 f2
    have hz : k34.sz = 3 := rfl
    change W.cell? (a.add (i * 3 + 0)) = _ at c0
    change W.cell? (a.add (i * 3 + 1)) = _ at c1
    change W.cell? (a.add (i * 3 + 2)) = _ at c2
    rw [Nat.add_zero] at c0
    rw [c0, c1, c2] at hpe
    subst hpe
    intro q u hq
    rw [hz]
    match q, hq with
    | 0, hq => simp only [List.getElem?_cons_zero, Option.some.injEq] at hq; rw [← hq]; exact c0
    | 1, hq => simp only [List.getElem?_cons_succ, List.getElem?_cons_zero, Option.some.injEq] at hq; rw [← hq]; exact c1
    | 2, hq => simp only [List.getElem?_cons_succ, List.getElem?_cons_zero, Option.some.injEq] at hq; rw [← hq]; exact c2
    | q + 3, hq => simp at hq
end Go.Proofs.Ytbamanjedfccpaa.HTab
end

section
set_option linter.unusedVariables false
set_option linter.unusedSimpArgs false
namespace Go.Proofs.Ytbamanjedfccpaa.HTab
open Go.ChangeShapes Go.WideShapes Go.ChangeAt Go.RowKit Go.Deep Go.Joins Go.Proofs.YtbamanjedfccpaaW.PrintWords Go.Proofs.Ytbamanjedfccpaa.X
set_option linter.unusedVariables false
section
variable {H : Type} {enc : TypeId × Value → H} {W : World} {r : Reach} {b0 base : Nat} {sp : Nat → Bool} {held : Bool} {v : Value} {d : DataW H} {ps : List MemPlace} {ts : List TypeId} {ds : List (DataW H)} {j : Nat}
end
end Go.Proofs.Ytbamanjedfccpaa.HTab
end
