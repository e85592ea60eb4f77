/- Lemmas of the proof: part Bj. -/
import Derived.Test.YtbamanjedfccpaaRows
import Derived.Test.YtbamanjedfccpaaBc
import Derived.WalkKit
import Derived.ProofKit
import Derived.OpenShut
import Derived.ShutString
import Derived.ChangeOld
import Derived.Below
import Derived.SizedLaws
import Derived.Lib.SmallJoins
import Derived.Deep.Slices
import Derived.Deep.Fields
import Derived.ChangeSame
import Derived.ChangeArms
section
set_option linter.unusedVariables false
set_option linter.unusedSimpArgs false
namespace Go.Proofs.Ytbamanjedfccpaa.HTab
open Go.ChangeShapes Go.WideShapes Go.ChangeAt Go.RowKit Go.Deep Go.Joins Go.Proofs.YtbamanjedfccpaaW.PrintWords Go.Proofs.Ytbamanjedfccpaa.X
set_option linter.unusedVariables false
section
variable {H : Type} {enc : TypeId × Value → H} {P : Program} {w : World} {base : Nat} {spare : Nat → Bool} {held : Bool}
end
def intAt (o : Option Value) : Int := match o with | some (.int _ n) => n | _ => 0
end Go.Proofs.Ytbamanjedfccpaa.HTab
end

section
set_option linter.unusedVariables false
set_option linter.unusedSimpArgs false
namespace Go.Proofs.Ytbamanjedfccpaa.HTab
open Go.ChangeShapes Go.WideShapes Go.ChangeAt Go.RowKit Go.Deep Go.Joins Go.Proofs.YtbamanjedfccpaaW.PrintWords Go.Proofs.Ytbamanjedfccpaa.X
set_option linter.unusedVariables false
def boolAt (o : Option Value) : Bool := match o with | some (.bool b) => b | _ => false
set_option maxRecDepth 100000 in
theorem open_row1 {β : Type} (enc1 : β → Value) (h1 : ∀ x, (enc1 x).oneCell' = true) (dec : Option Value → β) (hdec : ∀ b, dec (some (enc1 b)) = b) (Q : β → Prop) {H : Type} {enc : TypeId × Value → H} {W : World} {r : Reach} {b0 base : Nat} {sp : Nat → Bool} {held : Bool} {v : Value} {d : DataW H} {ps : List MemPlace} {ts : List TypeId} {ds : List (DataW H)} {j : Nat} {t e : TypeId} {B : Nat}
    (hu : Try.prog.underlying t = some (.slice e)) (hone : Try.prog.cellsOf e = 1) (hB : Try.prog.bytesOf e = B) (hel : ∀ n cs x, DataW.trod enc Try.prog W base sp held n e cs = some x → ∃ b, cs = [enc1 b] ∧ Q b)
    (hval : Value.okWide Try.prog W r b0 t v) (hd : DataW.Trod enc Try.prog W base sp held t v d ps)
    (hsz : (DataW.weightsEach Try.prog ts ds).all (· ≤ reachBytes) = true) (htj : ts[j]? = some t) (hdj : ds[j]? = some d) :
    ∃ (A : Option Addr) (c : Nat) (l : List β), v = .slice A l.length c ∧ Kd.C (Kd.scalar enc1 h1) W A l.length l ∧ l.length ≤ c ∧ l.length * B ≤ 140737488351232 ∧ ∀ b ∈ l, Q b := by
  obtain ⟨a0, len0, cap0, rfl⟩ := okWide_slice hu hval
  obtain ⟨fuel, hf⟩ := hd
  rcases open_slice hu hf with ⟨hc, hx⟩ | ⟨a, len, cap, m, n, D, Pl, hcs, hb, hl, hm, hmm, hx, hi⟩
  · simp [Value.cells] at hc
    obtain ⟨rfl, rfl, rfl⟩ := hc
    exact ⟨none, 0, [], rfl, Kd.C_nil _ _, Nat.le_refl _, by simp, by simp⟩
  · simp [Value.cells] at hcs
    obtain ⟨rfl, rfl, rfl⟩ := hcs
    obtain ⟨l, hll⟩ : ∃ l : List β, l = (List.range len0).map fun i => dec (W.cell? (a.add i)) := ⟨_, rfl⟩
    have hlen : l.length = len0 := by rw [hll]; simp
    have hlm : len0 ≤ m := by rw [hmm]; split <;> omega
    have hcell : ∀ i, i < len0 → ∃ b, W.cell? (a.add i) = some (enc1 b) ∧ Q b := fun i hil => by
      obtain ⟨cs', h2, h3⟩ := hi i (by omega)
      rw [hone, Nat.mul_one] at h2
      obtain ⟨b, rfl, hq⟩ := hel _ _ _ h3
      obtain ⟨_, hcl, hat⟩ := World.cells?_some h2
      have := hat 0 (by omega)
      refine ⟨b, ?_, hq⟩
      have h4 : (a.add i).add 0 = a.add i := by unfold Addr.add; split <;> simp_all
      rw [h4] at this
      simpa using this
    have hsize : len0 * B ≤ reachBytes := by
      have hd2 : d = .slice ((List.range len0).map D) ((List.range (m - len0)).map fun j => D (len0 + j)) := by
        have := congrArg (·.1) hx
        simpa using this
      rw [hd2] at hdj
      have := sized_slice hsz htj hdj hu
      rw [hB] at this
      refine Nat.le_trans (Nat.mul_le_mul_right _ ?_) this
      simp
    have hr : reachBytes = 140737488351232 := rfl
    refine ⟨some a, cap0, l, by rw [hlen], ?_, by omega, by rw [hlen]; omega, fun b hb => ?_⟩
    · unfold maxLen at hm
      refine ⟨rfl, by omega, fun hp => ⟨a, rfl, fun i p hp2 => ?_⟩⟩
      have hil : i < len0 := by
        have := (List.getElem?_eq_some_iff.1 hp2).1
        omega
      obtain ⟨b, hc1, _⟩ := hcell i hil
      have hpe : p = b := by
        rw [hll, List.getElem?_map, List.getElem?_range hil] at hp2
        have : dec (W.cell? (a.add i)) = p := by simpa using hp2
        rw [← this, hc1, hdec]
      subst hpe
      refine ⟨[enc1 p], rfl, rfl, fun q u hq => ?_⟩
      match q, hq with
      | 0, hq =>
        simp only [List.getElem?_cons_zero, Option.some.injEq] at hq
        rw [← hq, show (Kd.scalar enc1 h1).sz = 1 from rfl, Nat.mul_one, Nat.add_zero]
        exact hc1
      | q + 1, hq => simp at hq
    · rw [hll] at hb
      obtain ⟨i, hi1, rfl⟩ := List.mem_map.1 hb
      obtain ⟨b, hc1, hq⟩ := hcell i (List.mem_range.1 hi1)
      rw [hc1, hdec]
      exact hq
section
variable {H : Type} {enc : TypeId × Value → H} {W : World} {r : Reach} {b0 base : Nat} {sp : Nat → Bool} {held : Bool} {v : Value} {d : DataW H} {ps : List MemPlace} {ts : List TypeId} {ds : List (DataW H)} {j : Nat}
set_option maxRecDepth 100000 in
theorem open_bools (hval : Value.okWide Try.prog W r b0 45 v) (hd : DataW.Trod enc Try.prog W base sp held 45 v d ps) (hsz : (DataW.weightsEach Try.prog ts ds).all (· ≤ reachBytes) = true) (htj : ts[j]? = some 45) (hdj : ds[j]? = some d) :
    ∃ (A : Option Addr) (c : Nat) (l : List Bool), v = .slice A l.length c ∧ Kd.C Kd.bool W A l.length l ∧ l.length ≤ c ∧ l.length ≤ 140737488351232 := by
  obtain ⟨A, c, l, h1, h2, h3, h4, _⟩ := open_row1 Value.bool (fun _ => rfl) boolAt (fun _ => rfl) (fun _ => True) Try.underlying45 (by kernel_rfl) (B := 1) (by kernel_rfl) (fun n cs x h => by
    obtain ⟨b, e, _⟩ := DataW.trod_bool Try.underlying4 h
    exact ⟨b, e, trivial⟩) hval hd hsz htj hdj
  exact ⟨A, c, l, h1, h2, h3, by omega⟩
end
end Go.Proofs.Ytbamanjedfccpaa.HTab
end
