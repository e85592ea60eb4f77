/- Lemmas of the proof: part Bq. -/
import Derived.Test.YtbamanjedfccpaaBc
import Derived.Test.YtbamanjedfccpaaBi
import Derived.Test.YtbamanjedfccpaaBl
import Derived.Test.YtbamanjedfccpaaBm
import Derived.Test.YtbamanjedfccpaaBn
import Derived.Test.YtbamanjedfccpaaBp
section
set_option linter.unusedVariables false
set_option linter.unusedSimpArgs false
namespace Go.Proofs.Ytbamanjedfccpaa.X
open Go.RowKit Go.Proofs.YtbamanjedfccpaaW.PrintWords Go.Proofs.YtbamanjedfccpaaW.PrintLast Go.Proofs.YtbamanjedfccpaaW.PrintMore
attribute [local go_sem] max2_int min2_int max_two min_two max_three min_three max_four min_four   -- for this text's walks alone
set_option linter.unusedVariables false
set_option linter.unusedSimpArgs false
end Go.Proofs.Ytbamanjedfccpaa.X
end

section
set_option linter.unusedVariables false
set_option linter.unusedSimpArgs false
namespace Go.Proofs.Ytbamanjedfccpaa.HTab
open Go.RowKit Go.Proofs.YtbamanjedfccpaaW.PrintWords Go.Proofs.YtbamanjedfccpaaW.PrintLast Go.Proofs.YtbamanjedfccpaaW.PrintMore Go.Proofs.Ytbamanjedfccpaa.X
set_option linter.unusedVariables false
set_option linter.unusedSimpArgs false
def GoodR (N : Nat) (l : List S34) : Prop := ∀ a ∈ l, 0 ≤ a.f0 ∧ a.f0 < (N : Int) ∧ 0 ≤ a.f1 ∧ a.f1 < (N : Int)
section
variable (N : Nat) (hN2 : 2 ≤ N) (hN : N ≤ 40) (l : List S34) (hl : l.length ≤ 160) (hg : GoodR N l)
include hN2 hN
include hl hg
end
theorem rvalid_l0 (n : Int) (l l2 : List S34) (hl : l.length < 10000000000000) : ∀ (d i fu : Nat), i + d = l.length → d < fu → cantingref07_Valid.l0 fu l l.length i n l2 = some (!((l.drop i).map cvA).any (badA n))
  | d, i, 0, h, hf => by omega
  | 0, i, fu + 1, h, hf => by
    simp only [cantingref07_Valid.l0]
    rw [if_neg (by omega), List.drop_eq_nil_of_le (by omega)]
    rfl
  | d + 1, i, fu + 1, h, hf => by
    have hi : i < l.length := by omega
    have hr : rd_T34 l (i : Int) = l[i] := by simp [rd_T34, hi]
    have ih := rvalid_l0 n l l2 hl d (i + 1) fu (by omega) (by omega)
    simp only [cantingref07_Valid.l0]
    rw [if_pos (by omega), if_pos (by omega), if_pos (by omega), hr, List.drop_eq_getElem_cons hi, show wrap64 ((i : Int) + 1) = ((i + 1 : Nat) : Int) from wrap_add1 (by omega) (by omega), ih, List.map_cons, List.any_cons]
    have hb : badA n (cvA l[i]) = true ↔ (l[i].f0 < 0 ∨ l[i].f0 ≥ n ∨ l[i].f1 < 0 ∨ l[i].f1 ≥ n ∨ l[i].f0 = l[i].f1 ∨ l[i].f2 < 0 ∨ l[i].f2 > 1000000) := by
      have e : badA n (cvA l[i]) = (decide (l[i].f0 = l[i].f1) || (decide (l[i].f0 < 0) || decide (l[i].f1 < 0)) || (decide (n ≤ l[i].f0) || decide (n ≤ l[i].f1)) || decide (l[i].f2 < 0) || decide (1000000 < l[i].f2)) := rfl
      rw [e]
      simp only [Bool.or_eq_true, decide_eq_true_eq]
      constructor
      · rintro ((((q | q | q) | q | q) | q) | q)
        · exact .inr (.inr (.inr (.inr (.inl q))))
        · exact .inl q
        · exact .inr (.inr (.inl q))
        · exact .inr (.inl q)
        · exact .inr (.inr (.inr (.inl q)))
        · exact .inr (.inr (.inr (.inr (.inr (.inl q)))))
        · exact .inr (.inr (.inr (.inr (.inr (.inr q)))))
      · rintro (q | q | q | q | q | q | q)
        · exact .inl (.inl (.inl (.inr (.inl q))))
        · exact .inl (.inl (.inr (.inl q)))
        · exact .inl (.inl (.inl (.inr (.inr q))))
        · exact .inl (.inl (.inr (.inr q)))
        · exact .inl (.inl (.inl (.inl q)))
        · exact .inl (.inr q)
        · exact .inr q
    cases hbb : badA n (cvA l[i]) with
    | true =>
      have := hb.1 hbb
      rw [Bool.true_or]
      by_cases c1 : l[i].f0 < 0
      · rw [if_pos c1]; rfl
      rw [if_neg c1]
      by_cases c2 : l[i].f0 ≥ n
      · rw [if_pos c2]; rfl
      rw [if_neg c2]
      by_cases c3 : l[i].f1 < 0
      · rw [if_pos c3]; rfl
      rw [if_neg c3]
      by_cases c4 : l[i].f1 ≥ n
      · rw [if_pos c4]; rfl
      rw [if_neg c4]
      by_cases c5 : l[i].f0 = l[i].f1
      · rw [if_pos c5]; rfl
      rw [if_neg c5]
      by_cases c6 : l[i].f2 < 0
      · rw [if_pos c6]; rfl
      rw [if_neg c6, if_pos (by omega)]
      rfl
    | false =>
      have hn : ¬ (l[i].f0 < 0 ∨ l[i].f0 ≥ n ∨ l[i].f1 < 0 ∨ l[i].f1 ≥ n ∨ l[i].f0 = l[i].f1 ∨ l[i].f2 < 0 ∨ l[i].f2 > 1000000) := fun h => by rw [hb.2 h] at hbb; cases hbb
      rw [Bool.false_or, if_neg (by omega), if_neg (by omega), if_neg (by omega), if_neg (by omega), if_neg (by omega), if_neg (by omega), if_neg (by omega)]
theorem rvalid_f (n : Int) (l : List S34) (hl : l.length < 10000000000000) (fu : Nat) (hf : 200 ≤ fu) : cantingref07_Valid.f fu n l = some (vdB n (netL l)) := by
  obtain ⟨fu, rfl⟩ : ∃ g, fu = g + 1 := ⟨fu - 1, by omega⟩
  have hnl : 160 < l.length → ¬ (netL l).length ≤ 160 := fun h => by unfold netL; simp; omega
  unfold cantingref07_Valid.f vdB
  by_cases h1 : n < 2
  · rw [if_pos h1]
    simp only [cantingref07_Valid.j0, if_true]
    rw [decide_eq_false (by omega)]
    rfl
  rw [if_neg h1]
  by_cases h2 : n > 40
  · rw [if_pos h2]
    simp only [cantingref07_Valid.j0, if_true]
    rw [decide_eq_false (p := n ≤ 40) (by omega), Bool.and_false]
    rfl
  rw [if_neg h2]
  by_cases h3 : (l.length : Int) > 160
  · rw [decide_eq_true h3]
    simp only [cantingref07_Valid.j0, if_true]
    rw [decide_eq_false (p := (netL l).length ≤ 160) (hnl (by omega)), Bool.and_false]
    rfl
  · rw [decide_eq_false h3]
    simp only [cantingref07_Valid.j0, Bool.false_eq_true, if_false]
    have := rvalid_l0 n l l hl l.length 0 fu (by omega) (by omega)
    rw [List.drop_zero] at this
    have e := netL_all (l := l) (by omega)
    refine this.trans ?_
    rw [e, decide_eq_true (by omega), decide_eq_true (p := n ≤ 40) (by omega), decide_eq_true (p := (l.map cvA).length ≤ 160) (by rw [List.length_map]; omega)]
    rfl
end Go.Proofs.Ytbamanjedfccpaa.HTab
end

section
set_option linter.unusedVariables false
set_option linter.unusedSimpArgs false
namespace Go.Proofs.Ytbamanjedfccpaa.HTab
open Go.RowKit Go.Proofs.YtbamanjedfccpaaW.PrintWords Go.Proofs.YtbamanjedfccpaaW.PrintLast Go.Proofs.YtbamanjedfccpaaW.PrintMore Go.Proofs.Ytbamanjedfccpaa.X
set_option linter.unusedVariables false
set_option linter.unusedSimpArgs false
end Go.Proofs.Ytbamanjedfccpaa.HTab
end

section
set_option linter.unusedVariables false
set_option linter.unusedSimpArgs false
namespace Go.Proofs.Ytbamanjedfccpaa.HTab
open Go.RowKit Go.Proofs.YtbamanjedfccpaaW.PrintWords Go.Proofs.YtbamanjedfccpaaW.PrintLast Go.Proofs.YtbamanjedfccpaaW.PrintMore Go.Proofs.Ytbamanjedfccpaa.X
set_option linter.unusedVariables false
set_option linter.unusedSimpArgs false
theorem rdB_set (d : List Bool) (w x : Int) (val : Bool) (w0 : 0 ≤ w) (w1 : w < d.length) (x0 : 0 ≤ x) : rdOf false (d.set w.toNat val) x = if x = w then val else rdOf false d x := by
  unfold rdOf
  rw [List.getD_eq_getElem?_getD, List.getElem?_set, List.getD_eq_getElem?_getD]
  by_cases h : x = w
  · subst h
    rw [if_pos rfl, if_pos (by omega), if_pos rfl]
    rfl
  · rw [if_neg (by omega), if_neg h]
def trueC : List Bool → Nat
  | [] => 0
  | x :: d => (if x then 1 else 0) + trueC d
theorem trueC_set : ∀ (d : List Bool) (n : Nat), n < d.length → d.getD n false = true → trueC (d.set n false) + 1 = trueC d
  | [], n, h, _ => by simp at h
  | x :: d, 0, h, hx => by
    have hx' : x = true := hx
    subst hx'
    show 0 + trueC d + 1 = 1 + trueC d
    omega
  | x :: d, n + 1, h, hx => by
    have := trueC_set d n (by simpa using h) hx
    show (if x then 1 else 0) + trueC (d.set n false) + 1 = (if x then 1 else 0) + trueC d
    omega
section
variable (arcs : List S35) (left : List Int) (out : List (List Int)) (snk : Int) (N : Nat)
def Back (P : Int → Prop) : Prop := P snk ∧ ∀ y e : Int, 0 ≤ y → y < N → P y → e ∈ rowOf out y → 0 < rd left (xrP e) → P (endP arcs e)
structure GrI (Pnd : Int → Int → Prop) (q : List Int) (d : List Bool) : Prop where
  len : d.length = N
  rng : ∀ x ∈ q, 0 ≤ x ∧ x < N ∧ rdOf false d x = false
  s0 : rdOf false d snk = false
  back : ∀ P, Back arcs left out snk N P → ∀ x : Int, 0 ≤ x → x < N → rdOf false d x = false → P x
  clo : ∀ y e : Int, 0 ≤ y → y < N → rdOf false d y = false → e ∈ rowOf out y → 0 < rd left (xrP e) → ¬ Pnd y e → rdOf false d (endP arcs e) = false
variable {arcs left out snk N}
theorem GrI.step (hs : 0 ≤ snk ∧ snk < N) {v e : Int} {rest q : List Int} {d : List Bool} (h : GrI arcs left out snk N (fun y e' => y ∈ q ∨ y = v ∧ e' ∈ e :: rest) q d) (v0 : 0 ≤ v) (v1 : v < N) (dv : rdOf false d v = false) (he : e ∈ rowOf out v) (w0 : 0 ≤ endP arcs e) (w1 : endP arcs e < N) :
    GrI arcs left out snk N (fun y e' => y ∈ (grE arcs left (q, d) e).1 ∨ y = v ∧ e' ∈ rest) (grE arcs left (q, d) e).1 (grE arcs left (q, d) e).2 ∧ rdOf false (grE arcs left (q, d) e).2 v = false ∧ (grE arcs left (q, d) e).1.length + trueC (grE arcs left (q, d) e).2 = q.length + trueC d := by
  unfold grE
  dsimp only
  by_cases hc : rdOf false d (endP arcs e) = true ∧ 0 < rd left (xrP e)
  · rw [if_pos hc]
    dsimp only
    obtain ⟨hd, hl⟩ := hc
    have hr : ∀ x : Int, 0 ≤ x → rdOf false (d.set (endP arcs e).toNat false) x = if x = endP arcs e then false else rdOf false d x := fun x x0 => rdB_set d _ x _ w0 (by rw [h.len]; omega) x0
    have hn : trueC (d.set (endP arcs e).toNat false) + 1 = trueC d := trueC_set d _ (by rw [h.len]; omega) hd
    obtain ⟨w, hwd⟩ : ∃ w, w = endP arcs e := ⟨_, rfl⟩
    rw [← hwd] at hr hn hd w0 w1 ⊢
    have hkeep : ∀ x : Int, 0 ≤ x → rdOf false d x = false → rdOf false (d.set w.toNat false) x = false := fun x x0 hx => by rw [hr x x0]; split; rfl; exact hx
    refine ⟨⟨by rw [List.length_set]; exact h.len, fun x hx => ?_, hkeep snk hs.1 h.s0, fun P hP x x0 x1 hx => ?_, fun y e' y0 y1 hy he' hl' hp => ?_⟩, hkeep v v0 dv, ?_⟩
    · rcases List.mem_append.1 hx with hx | hx
      · obtain ⟨a, b, c⟩ := h.rng x hx
        exact ⟨a, b, hkeep x a c⟩
      · rw [List.mem_singleton] at hx
        subst hx
        exact ⟨w0, w1, by rw [hr x w0, if_pos rfl]⟩
    · rw [hr x x0] at hx
      by_cases hxw : x = w
      · rw [hxw, hwd]
        exact hP.2 v e v0 v1 (h.back P hP v v0 v1 dv) he hl
      · rw [if_neg hxw] at hx
        exact h.back P hP x x0 x1 hx
    · rw [hr y y0] at hy
      by_cases hyw : y = w
      · exact absurd (.inl (List.mem_append.2 (.inr (List.mem_singleton.2 hyw)))) hp
      · rw [if_neg hyw] at hy
        by_cases hee : y = v ∧ e' = e
        · obtain ⟨-, rfl⟩ := hee
          rw [← hwd, hr w w0, if_pos rfl]
        · have h1 := h.clo y e' y0 y1 hy he' hl' (fun hq => by
            rcases hq with hq | ⟨hq, hm⟩
            · exact hp (.inl (List.mem_append.2 (.inl hq)))
            · rcases List.mem_cons.1 hm with hm | hm
              · exact hee ⟨hq, hm⟩
              · exact hp (.inr ⟨hq, hm⟩))
          by_cases hz : 0 ≤ endP arcs e'
          · exact hkeep _ hz h1
          · have e1 : ∀ l : List Bool, rdOf false l (endP arcs e') = rdOf false l 0 := fun l => by unfold rdOf; rw [show (endP arcs e').toNat = (0 : Int).toNat by omega]
            rw [e1] at h1 ⊢
            exact hkeep 0 (by omega) h1
    · rw [List.length_append, List.length_singleton]; omega
  · rw [if_neg hc]
    dsimp only
    refine ⟨⟨h.len, h.rng, h.s0, h.back, fun y e' y0 y1 hy he' hl' hp => ?_⟩, dv, rfl⟩
    by_cases hee : y = v ∧ e' = e
    · obtain ⟨-, rfl⟩ := hee
      cases hq : rdOf false d (endP arcs e') with
      | false => rfl
      | true => exact absurd ⟨hq, hl'⟩ hc
    · exact h.clo y e' y0 y1 hy he' hl' (fun hq => by
        rcases hq with hq | ⟨hq, hm⟩
        · exact hp (.inl hq)
        · rcases List.mem_cons.1 hm with hm | hm
          · exact hee ⟨hq, hm⟩
          · exact hp (.inr ⟨hq, hm⟩))
theorem GrI.fold (hs : 0 ≤ snk ∧ snk < N) {v : Int} (v0 : 0 ≤ v) (v1 : v < N) : ∀ (rest q : List Int) (d : List Bool), GrI arcs left out snk N (fun y e' => y ∈ q ∨ y = v ∧ e' ∈ rest) q d → rdOf false d v = false → (∀ e ∈ rest, e ∈ rowOf out v ∧ 0 ≤ endP arcs e ∧ endP arcs e < N) →
    GrI arcs left out snk N (fun y _ => y ∈ (rest.foldl (grE arcs left) (q, d)).1) (rest.foldl (grE arcs left) (q, d)).1 (rest.foldl (grE arcs left) (q, d)).2 ∧ (rest.foldl (grE arcs left) (q, d)).1.length + trueC (rest.foldl (grE arcs left) (q, d)).2 = q.length + trueC d
  | [], q, d, h, dv, hr => ⟨⟨h.len, h.rng, h.s0, h.back, fun y e y0 y1 hy he hl hp => h.clo y e y0 y1 hy he hl (fun hq => by
      rcases hq with hq | ⟨_, hm⟩
      · exact hp hq
      · cases hm)⟩, rfl⟩
  | e :: rest, q, d, h, dv, hr => by
    obtain ⟨he, w0, w1⟩ := hr e (List.mem_cons_self ..)
    obtain ⟨h1, h2, h3⟩ := h.step hs v0 v1 dv he w0 w1
    obtain ⟨h4, h5⟩ := GrI.fold hs v0 v1 rest _ _ h1 h2 (fun e' he' => hr e' (List.mem_cons_of_mem _ he'))
    exact ⟨h4, h5.trans h3⟩
end
structure GrD (arcs : List S35) (left : List Int) (out : List (List Int)) (snk : Int) (N : Nat) (D : List Bool) : Prop where
  len : D.length = N
  s0 : rdOf false D snk = false
  back : ∀ P, Back arcs left out snk N P → ∀ x : Int, 0 ≤ x → x < N → rdOf false D x = false → P x
  clo : ∀ y e : Int, 0 ≤ y → y < N → rdOf false D y = false → e ∈ rowOf out y → 0 < rd left (xrP e) → rdOf false D (endP arcs e) = false
end Go.Proofs.Ytbamanjedfccpaa.HTab
end

section
set_option linter.unusedVariables false
set_option linter.unusedSimpArgs false
namespace Go.Proofs.Ytbamanjedfccpaa.HTab
open Go.RowKit Go.Proofs.YtbamanjedfccpaaW.PrintWords Go.Proofs.YtbamanjedfccpaaW.PrintLast Go.Proofs.YtbamanjedfccpaaW.PrintMore Go.Proofs.Ytbamanjedfccpaa.X
set_option linter.unusedVariables false
set_option linter.unusedSimpArgs false
theorem costF_congr {N : Nat} (both : Bool) (T T' : Int → Bool) (hT : ∀ v : Int, 0 ≤ v → v < N → T v = T' v) : ∀ l : List S35, Good N l → costF both T l = costF both T' l
  | [], _ => rfl
  | a :: l, hg => by
    obtain ⟨g0, g1, g2, g3⟩ := hg a (List.mem_cons_self ..)
    simp only [costF]
    rw [costF_congr both T T' hT l (fun b hb => hg b (List.mem_cons_of_mem _ hb)), hT a.f0 g0 g1, hT a.f1 g2 g3]
section
variable {N : Nat} {arcs : List S35} {src snk : Int} {l1 D : List Int} {G : List Bool}
end
end Go.Proofs.Ytbamanjedfccpaa.HTab
end

section
set_option linter.unusedVariables false
set_option linter.unusedSimpArgs false
namespace Go.Proofs.Ytbamanjedfccpaa.HTab
open Go.RowKit Go.Proofs.YtbamanjedfccpaaW.PrintWords Go.Proofs.YtbamanjedfccpaaW.PrintLast Go.Proofs.YtbamanjedfccpaaW.PrintMore Go.Proofs.Ytbamanjedfccpaa.X
set_option linter.unusedVariables false
set_option linter.unusedSimpArgs false
theorem rep_zero (N : Nat) (x : Int) : rd (List.replicate N 0) x = 0 := by
  unfold rd
  rw [List.getD_eq_getElem?_getD, List.getElem?_replicate]
  split <;> rfl
theorem rows_in {N : Nat} {arcs : List S35} (hg : Good N arcs) : ∀ v e : Int, 0 ≤ v → v < N → e ∈ rowOf (outZ N arcs) v → 0 ≤ endP arcs e ∧ endP arcs e < N := by
  intro v e v0 v1 he
  obtain ⟨n, a, b, c⟩ := ((outZ_rel hg).2 v v0 v1 e).1 he
  subst b
  rw [endP_N arcs n a]
  exact (tl_in hg n a).2.2
structure NetD (N : Nat) (arcs : List S35) (s : Int) (l1 D : List Int) (G : List Bool) : Prop where
  value : wax_Value.f N arcs = some (s, 0)
  flow : wax_Flow.f N arcs = some (flowL l1 arcs.length, 0)
  least : wax_Least.f N arcs = some (leastL D, 0)
  great : wax_Greatest.f N arcs = some (G, 0)
  s0 : 0 ≤ s
  lok : LOK false arcs l1
  res : ∀ T, resF T arcs l1 = costF false T arcs - s * (ind T 0 - ind T ((N : Int) - 1))
  lv : LvD arcs l1 (outZ N arcs) 0 N D
  gr : GrD arcs l1 (outZ N arcs) ((N : Int) - 1) N G
  no : rd D ((N : Int) - 1) < 0
section
variable {N : Nat} {arcs : List S35} {s : Int} {l1 D : List Int} {G : List Bool}
theorem NetD.min (h : NetD N arcs s l1 D G) (T : Int → Bool) (hT : side T 0 ((N : Int) - 1)) : s ≤ costF false T arcs := by
  have h1 := h.res T
  have h2 := resF_nonneg T h.lok
  rw [ind_side hT] at h1
  omega
theorem NetD.zero (h : NetD N arcs s l1 D G) (T : Int → Bool) (hT : side T 0 ((N : Int) - 1)) : costF false T arcs = s ↔ resF T arcs l1 = 0 := by
  have h1 := h.res T
  rw [ind_side hT] at h1
  omega
theorem leastL_rd (D : List Int) (x : Int) (x0 : 0 ≤ x) (x1 : x < D.length) : rdOf false (leastL D) x = decide (0 ≤ rd D x) := by
  obtain ⟨n, rfl⟩ : ∃ n : Nat, x = n := ⟨x.toNat, by omega⟩
  have h : n < D.length := by omega
  simp [rdOf, rd, leastL, h]
end
end Go.Proofs.Ytbamanjedfccpaa.HTab
end

section
set_option linter.unusedVariables false
set_option linter.unusedSimpArgs false
namespace Go.Proofs.Ytbamanjedfccpaa.HTab
open Go.RowKit Go.Proofs.YtbamanjedfccpaaW.PrintWords Go.Proofs.YtbamanjedfccpaaW.PrintLast Go.Proofs.YtbamanjedfccpaaW.PrintMore Go.Proofs.Ytbamanjedfccpaa.X
set_option linter.unusedVariables false
set_option linter.unusedSimpArgs false
theorem rvalid_g (n : Int) (l : List S34) (fu : Nat) (hf : 200 ≤ fu) : cantingref07_Valid.f fu n l = some (vdB n (netL l)) := by
  by_cases hl : l.length ≤ 160
  · exact rvalid_f n l (by omega) fu hf
  · obtain ⟨fu, rfl⟩ : ∃ g, fu = g + 1 := ⟨fu - 1, by omega⟩
    have hnl : ¬ (netL l).length ≤ 160 := by unfold netL; simp; omega
    have h3 : (l.length : Int) > 160 := by omega
    unfold cantingref07_Valid.f vdB
    rw [decide_eq_true h3, decide_eq_false hnl]
    simp only [cantingref07_Valid.j0, if_true]
    simp
end Go.Proofs.Ytbamanjedfccpaa.HTab
namespace Go.Proofs.Ytbamanjedfccpaa.X
open Go.RowKit Go.Proofs.YtbamanjedfccpaaW.PrintWords Go.Proofs.YtbamanjedfccpaaW.PrintLast Go.Proofs.YtbamanjedfccpaaW.PrintMore Go.Proofs.Ytbamanjedfccpaa.HTab
end Go.Proofs.Ytbamanjedfccpaa.X
end
