/- Lemmas of the masks: part Bzf. -/
import Derived.Test.YtlplphgoldkoeaaBze
import Derived.Test.YtlplphgoldkoeaaBpa
section
set_option linter.unusedVariables false
set_option linter.unusedSimpArgs false
namespace Go.Proofs.Ytlplphgoldkoeaa.HTab
open Go.RowKit Go.Proofs.YtlplphgoldkoeaaW.PrintWords Go.Proofs.YtlplphgoldkoeaaW.PrintLast Go.Proofs.YtlplphgoldkoeaaW.PrintMore Go.Proofs.Ytlplphgoldkoeaa.HMap Go.Proofs.Ytlplphgoldkoeaa.X
set_option linter.unusedVariables false
set_option linter.unusedSimpArgs false
theorem setb_eq {e : Nat} {b : Bool} {P : Nat} (h : bitN P e = b) : setb e b P = P := if_pos h
theorem restrict_f {v i r : Int} {l : List S107} (h : VM v l r) (i0 : 0 ≤ i) (i1 : i < v) (b : Bool) : ∃ l' r', mask_Restrict.f v l r i b = some (v, l', r', 0) ∧ VM v l' r' ∧ tab v l' r' = (List.range (tab v l r).length).map (fun P => (tab v l r).getD (setb (v - 1 - i).toNat b P) false) ∧ l'.length ≤ 4095 := by
  have hn := h.root.2.2
  obtain ⟨l', r', q1, q2, q3, q4⟩ := compose_f h (VM.const h.v0 h.v12 b) i0 i1
  refine ⟨l', r', ?_, q2, ?_, q4⟩
  · unfold mask_Restrict.f
    rw [if_pos (by omega), if_pos (vmB_true h), if_pos ⟨i0, i1⟩]
    exact q1
  · rw [q3, tab_const h.v0]
    refine list_ext (by simp [cmpL_len]) (fun P hP => ?_)
    rw [cmpL_len] at hP
    rw [cmpL_get _ _ _ _ hP]
    have e1 : (List.replicate (2 ^ v.toNat) b).getD P false = b := by
      rw [tab_length] at hP
      simp [List.getD_eq_getElem?_getD, hP]
    rw [e1, List.getD_eq_getElem?_getD (l := List.map _ _), List.getElem?_map, List.getElem?_range hP]
    rfl
end Go.Proofs.Ytlplphgoldkoeaa.HTab
end
