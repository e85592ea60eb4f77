/- Lemmas of the masks: part Bzg. -/
import Derived.Test.YtlplphgoldkoeaaBd
import Derived.Test.YtlplphgoldkoeaaBzf
import Derived.Test.YtlplphgoldkoeaaBn
import Derived.Test.YtlplphgoldkoeaaBj
import Derived.Test.YtlplphgoldkoeaaBze
section
set_option linter.unusedVariables false
set_option linter.unusedSimpArgs false
namespace Go.Proofs.Ytlplphgoldkoeaa.HTab
open Go.RowKit Go.Proofs.YtlplphgoldkoeaaW.PrintWords Go.Proofs.YtlplphgoldkoeaaW.PrintLast Go.Proofs.YtlplphgoldkoeaaW.PrintMore Go.Proofs.Ytlplphgoldkoeaa.X
section
variable {P : Program} {ops : Array Oper} {Q : Exit → Act → World → Prop} {md : Region.Mode} {S : World → Prop} {ds : List Nat}
theorem stepN_ {i : Nat} {N : Option Tmp} {oi : Oper} {fuel : Nat} {l : Array Bool} {a : Act} {w : World} {rs : List Nat} (l' : Array Bool) (hi : ops[i]? = some oi) (hN : oi.dst = N) (hl : l.setIfInBounds i true = l') (hd : i ∉ ds)
    (h : ∀ K : Act → World → Prop, Shut (∀ a' w', S w' → (S w' → wpAnyLast P md ops Q S ds fuel l' a' w') → K a' w') → if Region.wanted oi (yielded ops a.tmps) = true then Oper.wp P oi a w K Q else K (a.put N undef) w)
    (hs : AllReadyL P md ops Q S ds fuel l a w rs) : AllReadyL P md ops Q S ds fuel l a w (i :: rs) := by
  subst hN
  subst hl
  exact AllReadyL.cons hi hd (fun K hK => h K hK) hs
theorem readyN_ {T : Bool × List (List Nat × List Nat)} (rs : List Nat) {fuel : Nat} {l : Array Bool} {a : Act} {w : World} (hT : rtab md ops = T) (hr : (readyT T.2 l.toList == rs) = true) (hne : rs ≠ []) (h : AllReadyL P md ops Q S ds fuel l a w rs) : wpAnyLast P md ops Q S ds (fuel + 1) l a w := by
  refine wpAnyLast_ready ?_ hne h
  subst hT
  have : (Region.ready md ops l == rs) = true := by rw [ready_eq]; exact hr
  simpa using this
end
end Go.Proofs.Ytlplphgoldkoeaa.HTab
end

section
set_option linter.unusedVariables false
set_option linter.unusedSimpArgs false
namespace Go.Proofs.Ytlplphgoldkoeaa.HTab
open Go.RowKit Go.Proofs.YtlplphgoldkoeaaW.PrintWords Go.Proofs.YtlplphgoldkoeaaW.PrintLast Go.Proofs.YtlplphgoldkoeaaW.PrintMore Go.Proofs.Ytlplphgoldkoeaa.HMap Go.Proofs.Ytlplphgoldkoeaa.X
set_option linter.unusedVariables false
set_option linter.unusedSimpArgs false
def atP (v : Int) (l : List S107) (r : Int) (P : Nat) : Bool := (tab v l r).getD P false
section
variable {v : Int} {l l1 l2 l3 : List S107} {r r1 r2 r3 : Int}
theorem same_at (h : VM v l r) (h1 : VM v l1 r1) (he : ∀ P, P < 2 ^ v.toNat → atP v l r P = atP v l1 r1 P) : l = l1 ∧ r = r1 :=
  VM.same h h1 (list_ext (by rw [tab_length, tab_length]) (fun P hP => he P (by rw [tab_length] at hP; exact hP)))
theorem not_at (h : VM v l r) : ∃ l' r', mask_Not.f v l r = some (v, l', r', 0) ∧ VM v l' r' ∧ (∀ P, P < 2 ^ v.toNat → atP v l' r' P = !(atP v l r P)) ∧ l'.length ≤ 4095 := by
  obtain ⟨l', r', a, b, c, d⟩ := not_f h
  exact ⟨l', r', a, b, fun P hP => by unfold atP; rw [c, getD_map_not _ _ (by rw [tab_length]; exact hP)], d⟩
theorem ite_at (h1 : VM v l1 r1) (h2 : VM v l2 r2) (h3 : VM v l3 r3) : ∃ l' r', mask_Ite.f v l1 r1 v l2 r2 v l3 r3 = some (v, l', r', 0) ∧ VM v l' r' ∧ (∀ P, P < 2 ^ v.toNat → atP v l' r' P = if atP v l1 r1 P then atP v l2 r2 P else atP v l3 r3 P) ∧ l'.length ≤ 4095 := by
  obtain ⟨l', r', a, b, c, d⟩ := ite_f h1 h2 h3
  exact ⟨l', r', a, b, fun P hP => by unfold atP; rw [c, iteL_get _ _ _ _ (by rw [tab_length]; exact hP) (by rw [tab_length, tab_length]) (by rw [tab_length, tab_length])], d⟩
theorem and_at (h1 : VM v l1 r1) (h2 : VM v l2 r2) : ∃ l' r', mask_And.f v l1 r1 v l2 r2 = some (v, l', r', 0) ∧ VM v l' r' ∧ (∀ P, P < 2 ^ v.toNat → atP v l' r' P = (atP v l1 r1 P && atP v l2 r2 P)) ∧ l'.length ≤ 4095 := by
  obtain ⟨l', r', a, b, c, d⟩ := and_f h1 h2
  refine ⟨l', r', a, b, fun P hP => ?_, d⟩
  unfold atP
  rw [c, iteL_get _ _ _ _ (by rw [tab_length]; exact hP) (by rw [tab_length, tab_length]) (by rw [tab_length])]
  cases (tab v l1 r1).getD P false <;> rfl
theorem or_at (h1 : VM v l1 r1) (h2 : VM v l2 r2) : ∃ l' r', mask_Or.f v l1 r1 v l2 r2 = some (v, l', r', 0) ∧ VM v l' r' ∧ (∀ P, P < 2 ^ v.toNat → atP v l' r' P = (atP v l1 r1 P || atP v l2 r2 P)) ∧ l'.length ≤ 4095 := by
  obtain ⟨l', r', a, b, c, d⟩ := or_f h1 h2
  refine ⟨l', r', a, b, fun P hP => ?_, d⟩
  unfold atP
  rw [c, iteL_get _ _ _ _ (by rw [tab_length]; exact hP) (by rw [tab_length]) (by rw [tab_length, tab_length])]
  cases (tab v l1 r1).getD P false <;> rfl
theorem const_at (h0 : 0 ≤ v) (h12 : v ≤ 12) : mask_Const.f v false = some (v, [], 0, 0) ∧ VM v [] 0 ∧ ∀ P, P < 2 ^ v.toNat → atP v [] 0 P = false := by
  refine ⟨?_, VM.const h0 h12 false, fun P hP => ?_⟩
  · unfold mask_Const.f
    rw [if_neg (by omega)]
    simp
  · unfold atP
    have := tab_const (n := v) h0 false
    simp only [Bool.false_eq_true, if_false] at this
    rw [this, List.getD_eq_getElem?_getD, List.getElem?_replicate]
    split <;> rfl
theorem var_at {j : Int} (h0 : 0 ≤ j) (h1 : j < v) (h12 : v ≤ 12) : mask_Var.f v j = some (v, [⟨j, 0, 1⟩], 2, 0) ∧ VM v [⟨j, 0, 1⟩] 2 ∧ ∀ P, P < 2 ^ v.toNat → atP v [⟨j, 0, 1⟩] 2 P = bitN P (v - 1 - j).toNat := by
  refine ⟨?_, VM.var h0 h1 h12, fun P hP => ?_⟩
  · unfold mask_Var.f
    rw [if_neg (by omega), if_neg (by omega), if_neg (by omega), if_neg (by omega)]
  · unfold atP
    rw [tab_var h0 h1 P hP]
    have := bitN_eq P (v - 1 - j).toNat
    cases hb : bitN P (v - 1 - j).toNat
    · rw [hb] at this
      simpa using this
    · rw [hb] at this
      simpa using this
theorem restrict_at (h : VM v l r) {j : Int} (h0 : 0 ≤ j) (h1 : j < v) (b : Bool) : ∃ l' r', mask_Restrict.f v l r j b = some (v, l', r', 0) ∧ VM v l' r' ∧ (∀ P, P < 2 ^ v.toNat → atP v l' r' P = atP v l r (setb (v - 1 - j).toNat b P)) ∧ l'.length ≤ 4095 := by
  obtain ⟨l', r', a, b', c, d⟩ := restrict_f h h0 h1 b
  refine ⟨l', r', a, b', fun P hP => ?_, d⟩
  unfold atP
  rw [c, List.getD_eq_getElem?_getD, List.getElem?_map, List.getElem?_range (by rw [tab_length]; exact hP)]
  rfl
end
theorem algebra_facts {v : Int} {l1 l2 l3 : List S107} {r1 r2 r3 : Int} (h1 : VM v l1 r1) (h2 : VM v l2 r2) (h3 : VM v l3 r3) :
    ∃ it n0 ab nc bc ac le nb nn no sit sn0 sab snc sbc sac sle snb snn,
      mask_Ite.f v l1 r1 v l2 r2 v l3 r3 = some (v, it, sit, 0) ∧ mask_Not.f v l1 r1 = some (v, n0, sn0, 0) ∧ mask_Not.f v n0 sn0 = some (v, l1, r1, 0) ∧ mask_And.f v l1 r1 v l2 r2 = some (v, ab, sab, 0) ∧ mask_And.f v l2 r2 v l1 r1 = some (v, ab, sab, 0) ∧
      mask_And.f v n0 sn0 v l3 r3 = some (v, nc, snc, 0) ∧ mask_Or.f v ab sab v nc snc = some (v, it, sit, 0) ∧ mask_Or.f v l2 r2 v l3 r3 = some (v, bc, sbc, 0) ∧ mask_And.f v l1 r1 v bc sbc = some (v, le, sle, 0) ∧ mask_And.f v l1 r1 v l3 r3 = some (v, ac, sac, 0) ∧
      mask_Or.f v ab sab v ac sac = some (v, le, sle, 0) ∧ mask_Not.f v l2 r2 = some (v, nb, snb, 0) ∧ mask_Or.f v n0 sn0 v nb snb = some (v, nn, snn, 0) ∧ mask_Not.f v nn snn = some (v, ab, sab, 0) ∧ mask_And.f v l1 r1 v n0 sn0 = some (v, [], 0, 0) ∧ no = ([] : List S107) ∧
      it.length ≤ 4095 ∧ ab.length ≤ 4095 ∧ le.length ≤ 4095 := by
  obtain ⟨it, sit, i1, i2, i3, i4⟩ := ite_at h1 h2 h3
  obtain ⟨n0, sn0, n1, n2, n3, n4⟩ := not_at h1
  obtain ⟨m0, sm0, m1, m2, m3, m4⟩ := not_at n2
  obtain ⟨ab, sab, a1, a2, a3, a4⟩ := and_at h1 h2
  obtain ⟨ba, sba, b1, b2, b3, b4⟩ := and_at h2 h1
  obtain ⟨nc, snc, c1, c2, c3, c4⟩ := and_at n2 h3
  obtain ⟨oo, soo, o1, o2, o3, o4⟩ := or_at a2 c2
  obtain ⟨bc, sbc, d1, d2, d3, d4⟩ := or_at h2 h3
  obtain ⟨le, sle, e1, e2, e3, e4⟩ := and_at h1 d2
  obtain ⟨ac, sac, f1, f2, f3, f4⟩ := and_at h1 h3
  obtain ⟨ri, sri, g1, g2, g3, g4⟩ := or_at a2 f2
  obtain ⟨nb, snb, j1, j2, j3, j4⟩ := not_at h2
  obtain ⟨nn, snn, k1, k2, k3, k4⟩ := or_at n2 j2
  obtain ⟨dm, sdm, p1, p2, p3, p4⟩ := not_at k2
  obtain ⟨no, sno, q1, q2, q3, q4⟩ := and_at h1 n2
  obtain ⟨z1, z2, z3⟩ := const_at h1.v0 h1.v12
  obtain ⟨rfl, rfl⟩ := same_at m2 h1 (fun P hP => by rw [m3 P hP, n3 P hP]; simp)
  obtain ⟨rfl, rfl⟩ := same_at b2 a2 (fun P hP => by rw [b3 P hP, a3 P hP]; exact Bool.and_comm _ _)
  obtain ⟨rfl, rfl⟩ := same_at o2 i2 (fun P hP => by rw [o3 P hP, a3 P hP, c3 P hP, i3 P hP, n3 P hP]; cases atP v m0 sm0 P <;> simp)
  obtain ⟨rfl, rfl⟩ := same_at g2 e2 (fun P hP => by rw [g3 P hP, a3 P hP, f3 P hP, e3 P hP, d3 P hP]; cases atP v m0 sm0 P <;> simp)
  obtain ⟨rfl, rfl⟩ := same_at p2 a2 (fun P hP => by rw [p3 P hP, k3 P hP, n3 P hP, j3 P hP, a3 P hP]; simp)
  obtain ⟨rfl, rfl⟩ := same_at q2 z2 (fun P hP => by rw [q3 P hP, n3 P hP, z3 P hP]; simp)
  exact ⟨_, n0, _, nc, bc, ac, _, nb, nn, [], _, sn0, _, snc, sbc, sac, _, snb, snn, i1, n1, m1, a1, b1, c1, o1, d1, e1, f1, g1, j1, k1, p1, q1, rfl, i4, a4, e4⟩
theorem shannon_facts {v : Int} {l : List S107} {r : Int} (h : VM v l r) {j : Int} (j0 : 0 ≤ j) (j1 : j < v) :
    ∃ on of son sof, mask_Var.f v j = some (v, [⟨j, 0, 1⟩], 2, 0) ∧ mask_Restrict.f v l r j true = some (v, on, son, 0) ∧ mask_Restrict.f v l r j false = some (v, of, sof, 0) ∧ mask_Ite.f v [⟨j, 0, 1⟩] 2 v on son v of sof = some (v, l, r, 0) := by
  obtain ⟨a1, a2, a3⟩ := var_at j0 j1 h.v12
  obtain ⟨on, son, b1, b2, b3, b4⟩ := restrict_at h j0 j1 true
  obtain ⟨of, sof, c1, c2, c3, c4⟩ := restrict_at h j0 j1 false
  obtain ⟨ag, sag, d1, d2, d3, d4⟩ := ite_at a2 b2 c2
  obtain ⟨rfl, rfl⟩ := same_at d2 h (fun P hP => by
    rw [d3 P hP, a3 P hP, b3 P hP, c3 P hP]
    cases hb : bitN P (v - 1 - j).toNat
    · rw [setb_eq hb]; rfl
    · rw [setb_eq hb]; rfl)
  exact ⟨on, of, son, sof, a1, b1, c1, d1⟩
theorem index_at {v i : Int} (h0 : 0 ≤ v) (hv : v ≠ 0) (h12 : v ≤ 12) : ¬ (IntKind.u64.wrap v = 0) ∧ 0 ≤ wrap64 (Int.tmod (IntKind.u64.wrap i) (IntKind.u64.wrap v)) ∧ wrap64 (Int.tmod (IntKind.u64.wrap i) (IntKind.u64.wrap v)) < v := by
  have e : IntKind.u64.wrap v = v := by simp only [IntKind.wrap_u64]; omega
  have p : 0 ≤ IntKind.u64.wrap i := by simp only [IntKind.wrap_u64]; omega
  rw [e, Int.tmod_eq_emod_of_nonneg p]
  have := Int.emod_nonneg (IntKind.u64.wrap i) hv
  have := Int.emod_lt_of_pos (IntKind.u64.wrap i) (show 0 < v by omega)
  unfold wrap64
  omega
end Go.Proofs.Ytlplphgoldkoeaa.HTab
end
