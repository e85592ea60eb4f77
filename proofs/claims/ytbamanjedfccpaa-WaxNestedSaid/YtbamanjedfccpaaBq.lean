/- Lemmas of the proof: part Bq. -/
import Derived.Test.YtbamanjedfccpaaBc
import Derived.Test.YtbamanjedfccpaaBi
import Derived.Test.YtbamanjedfccpaaBl
import Derived.Test.YtbamanjedfccpaaBm
import Derived.Test.YtbamanjedfccpaaBn
import Derived.Test.YtbamanjedfccpaaBp
section
set_option linter.unusedVariables false
set_option linter.unusedSimpArgs false
namespace Go.Proofs.Ytbamanjedfccpaa.X
open Go.RowKit Go.Proofs.YtbamanjedfccpaaW.PrintWords Go.Proofs.YtbamanjedfccpaaW.PrintLast Go.Proofs.YtbamanjedfccpaaW.PrintMore
attribute [local go_sem] max2_int min2_int max_two min_two max_three min_three max_four min_four   -- for this text's walks alone
set_option linter.unusedVariables false
set_option linter.unusedSimpArgs false
end Go.Proofs.Ytbamanjedfccpaa.X
end

section
set_option linter.unusedVariables false
set_option linter.unusedSimpArgs false
namespace Go.Proofs.Ytbamanjedfccpaa.HTab
open Go.RowKit Go.Proofs.YtbamanjedfccpaaW.PrintWords Go.Proofs.YtbamanjedfccpaaW.PrintLast Go.Proofs.YtbamanjedfccpaaW.PrintMore Go.Proofs.Ytbamanjedfccpaa.X
set_option linter.unusedVariables false
set_option linter.unusedSimpArgs false
def GoodR (N : Nat) (l : List S34) : Prop := ∀ a ∈ l, 0 ≤ a.f0 ∧ a.f0 < (N : Int) ∧ 0 ≤ a.f1 ∧ a.f1 < (N : Int)
section
variable (N : Nat) (hN2 : 2 ≤ N) (hN : N ≤ 40) (l : List S34) (hl : l.length ≤ 160) (hg : GoodR N l)
include hN2 hN
include hl hg
end
end Go.Proofs.Ytbamanjedfccpaa.HTab
end

section
set_option linter.unusedVariables false
set_option linter.unusedSimpArgs false
namespace Go.Proofs.Ytbamanjedfccpaa.HTab
open Go.RowKit Go.Proofs.YtbamanjedfccpaaW.PrintWords Go.Proofs.YtbamanjedfccpaaW.PrintLast Go.Proofs.YtbamanjedfccpaaW.PrintMore Go.Proofs.Ytbamanjedfccpaa.X
set_option linter.unusedVariables false
set_option linter.unusedSimpArgs false
def sumF (g : Int → Int) : Nat → Int
  | 0 => 0
  | n + 1 => sumF g n + g (n : Int)
theorem sumF_add (g h : Int → Int) : ∀ n, sumF (fun v => g v + h v) n = sumF g n + sumF h n
  | 0 => rfl
  | n + 1 => by simp only [sumF]; rw [sumF_add g h n]; omega
theorem sumF_sub (g h : Int → Int) : ∀ n, sumF (fun v => g v - h v) n = sumF g n - sumF h n
  | 0 => rfl
  | n + 1 => by simp only [sumF]; rw [sumF_sub g h n]; omega
theorem sumF_congr {g h : Int → Int} : ∀ n : Nat, (∀ v : Int, 0 ≤ v → v < n → g v = h v) → sumF g n = sumF h n
  | 0, _ => rfl
  | n + 1, hh => by
    simp only [sumF]
    rw [sumF_congr n (fun v v0 v1 => hh v v0 (by omega)), hh n (by omega) (by omega)]
end Go.Proofs.Ytbamanjedfccpaa.HTab
end

section
set_option linter.unusedVariables false
set_option linter.unusedSimpArgs false
namespace Go.Proofs.Ytbamanjedfccpaa.HTab
open Go.RowKit Go.Proofs.YtbamanjedfccpaaW.PrintWords Go.Proofs.YtbamanjedfccpaaW.PrintLast Go.Proofs.YtbamanjedfccpaaW.PrintMore Go.Proofs.Ytbamanjedfccpaa.X
set_option linter.unusedVariables false
set_option linter.unusedSimpArgs false
theorem rdB_set (d : List Bool) (w x : Int) (val : Bool) (w0 : 0 ≤ w) (w1 : w < d.length) (x0 : 0 ≤ x) : rdOf false (d.set w.toNat val) x = if x = w then val else rdOf false d x := by
  unfold rdOf
  rw [List.getD_eq_getElem?_getD, List.getElem?_set, List.getD_eq_getElem?_getD]
  by_cases h : x = w
  · subst h
    rw [if_pos rfl, if_pos (by omega), if_pos rfl]
    rfl
  · rw [if_neg (by omega), if_neg h]
def trueC : List Bool → Nat
  | [] => 0
  | x :: d => (if x then 1 else 0) + trueC d
theorem trueC_set : ∀ (d : List Bool) (n : Nat), n < d.length → d.getD n false = true → trueC (d.set n false) + 1 = trueC d
  | [], n, h, _ => by simp at h
  | x :: d, 0, h, hx => by
    have hx' : x = true := hx
    subst hx'
    show 0 + trueC d + 1 = 1 + trueC d
    omega
  | x :: d, n + 1, h, hx => by
    have := trueC_set d n (by simpa using h) hx
    show (if x then 1 else 0) + trueC (d.set n false) + 1 = (if x then 1 else 0) + trueC d
    omega
theorem trueC_rep (n : Nat) : trueC (List.replicate n true) = n := by
  induction n with
  | zero => rfl
  | succ n ih => rw [List.replicate_succ]; simp only [trueC]; rw [ih]; simp; omega
section
variable (arcs : List S35) (left : List Int) (out : List (List Int)) (snk : Int) (N : Nat)
def Back (P : Int → Prop) : Prop := P snk ∧ ∀ y e : Int, 0 ≤ y → y < N → P y → e ∈ rowOf out y → 0 < rd left (xrP e) → P (endP arcs e)
structure GrI (Pnd : Int → Int → Prop) (q : List Int) (d : List Bool) : Prop where
  len : d.length = N
  rng : ∀ x ∈ q, 0 ≤ x ∧ x < N ∧ rdOf false d x = false
  s0 : rdOf false d snk = false
  back : ∀ P, Back arcs left out snk N P → ∀ x : Int, 0 ≤ x → x < N → rdOf false d x = false → P x
  clo : ∀ y e : Int, 0 ≤ y → y < N → rdOf false d y = false → e ∈ rowOf out y → 0 < rd left (xrP e) → ¬ Pnd y e → rdOf false d (endP arcs e) = false
variable {arcs left out snk N}
theorem GrI.step (hs : 0 ≤ snk ∧ snk < N) {v e : Int} {rest q : List Int} {d : List Bool} (h : GrI arcs left out snk N (fun y e' => y ∈ q ∨ y = v ∧ e' ∈ e :: rest) q d) (v0 : 0 ≤ v) (v1 : v < N) (dv : rdOf false d v = false) (he : e ∈ rowOf out v) (w0 : 0 ≤ endP arcs e) (w1 : endP arcs e < N) :
    GrI arcs left out snk N (fun y e' => y ∈ (grE arcs left (q, d) e).1 ∨ y = v ∧ e' ∈ rest) (grE arcs left (q, d) e).1 (grE arcs left (q, d) e).2 ∧ rdOf false (grE arcs left (q, d) e).2 v = false ∧ (grE arcs left (q, d) e).1.length + trueC (grE arcs left (q, d) e).2 = q.length + trueC d := by
  unfold grE
  dsimp only
  by_cases hc : rdOf false d (endP arcs e) = true ∧ 0 < rd left (xrP e)
  · rw [if_pos hc]
    dsimp only
    obtain ⟨hd, hl⟩ := hc
    have hr : ∀ x : Int, 0 ≤ x → rdOf false (d.set (endP arcs e).toNat false) x = if x = endP arcs e then false else rdOf false d x := fun x x0 => rdB_set d _ x _ w0 (by rw [h.len]; omega) x0
    have hn : trueC (d.set (endP arcs e).toNat false) + 1 = trueC d := trueC_set d _ (by rw [h.len]; omega) hd
    obtain ⟨w, hwd⟩ : ∃ w, w = endP arcs e := ⟨_, rfl⟩
    rw [← hwd] at hr hn hd w0 w1 ⊢
    have hkeep : ∀ x : Int, 0 ≤ x → rdOf false d x = false → rdOf false (d.set w.toNat false) x = false := fun x x0 hx => by rw [hr x x0]; split; rfl; exact hx
    refine ⟨⟨by rw [List.length_set]; exact h.len, fun x hx => ?_, hkeep snk hs.1 h.s0, fun P hP x x0 x1 hx => ?_, fun y e' y0 y1 hy he' hl' hp => ?_⟩, hkeep v v0 dv, ?_⟩
    · rcases List.mem_append.1 hx with hx | hx
      · obtain ⟨a, b, c⟩ := h.rng x hx
        exact ⟨a, b, hkeep x a c⟩
      · rw [List.mem_singleton] at hx
        subst hx
        exact ⟨w0, w1, by rw [hr x w0, if_pos rfl]⟩
    · rw [hr x x0] at hx
      by_cases hxw : x = w
      · rw [hxw, hwd]
        exact hP.2 v e v0 v1 (h.back P hP v v0 v1 dv) he hl
      · rw [if_neg hxw] at hx
        exact h.back P hP x x0 x1 hx
    · rw [hr y y0] at hy
      by_cases hyw : y = w
      · exact absurd (.inl (List.mem_append.2 (.inr (List.mem_singleton.2 hyw)))) hp
      · rw [if_neg hyw] at hy
        by_cases hee : y = v ∧ e' = e
        · obtain ⟨-, rfl⟩ := hee
          rw [← hwd, hr w w0, if_pos rfl]
        · have h1 := h.clo y e' y0 y1 hy he' hl' (fun hq => by
            rcases hq with hq | ⟨hq, hm⟩
            · exact hp (.inl (List.mem_append.2 (.inl hq)))
            · rcases List.mem_cons.1 hm with hm | hm
              · exact hee ⟨hq, hm⟩
              · exact hp (.inr ⟨hq, hm⟩))
          by_cases hz : 0 ≤ endP arcs e'
          · exact hkeep _ hz h1
          · have e1 : ∀ l : List Bool, rdOf false l (endP arcs e') = rdOf false l 0 := fun l => by unfold rdOf; rw [show (endP arcs e').toNat = (0 : Int).toNat by omega]
            rw [e1] at h1 ⊢
            exact hkeep 0 (by omega) h1
    · rw [List.length_append, List.length_singleton]; omega
  · rw [if_neg hc]
    dsimp only
    refine ⟨⟨h.len, h.rng, h.s0, h.back, fun y e' y0 y1 hy he' hl' hp => ?_⟩, dv, rfl⟩
    by_cases hee : y = v ∧ e' = e
    · obtain ⟨-, rfl⟩ := hee
      cases hq : rdOf false d (endP arcs e') with
      | false => rfl
      | true => exact absurd ⟨hq, hl'⟩ hc
    · exact h.clo y e' y0 y1 hy he' hl' (fun hq => by
        rcases hq with hq | ⟨hq, hm⟩
        · exact hp (.inl hq)
        · rcases List.mem_cons.1 hm with hm | hm
          · exact hee ⟨hq, hm⟩
          · exact hp (.inr ⟨hq, hm⟩))
theorem GrI.fold (hs : 0 ≤ snk ∧ snk < N) {v : Int} (v0 : 0 ≤ v) (v1 : v < N) : ∀ (rest q : List Int) (d : List Bool), GrI arcs left out snk N (fun y e' => y ∈ q ∨ y = v ∧ e' ∈ rest) q d → rdOf false d v = false → (∀ e ∈ rest, e ∈ rowOf out v ∧ 0 ≤ endP arcs e ∧ endP arcs e < N) →
    GrI arcs left out snk N (fun y _ => y ∈ (rest.foldl (grE arcs left) (q, d)).1) (rest.foldl (grE arcs left) (q, d)).1 (rest.foldl (grE arcs left) (q, d)).2 ∧ (rest.foldl (grE arcs left) (q, d)).1.length + trueC (rest.foldl (grE arcs left) (q, d)).2 = q.length + trueC d
  | [], q, d, h, dv, hr => ⟨⟨h.len, h.rng, h.s0, h.back, fun y e y0 y1 hy he hl hp => h.clo y e y0 y1 hy he hl (fun hq => by
      rcases hq with hq | ⟨_, hm⟩
      · exact hp hq
      · cases hm)⟩, rfl⟩
  | e :: rest, q, d, h, dv, hr => by
    obtain ⟨he, w0, w1⟩ := hr e (List.mem_cons_self ..)
    obtain ⟨h1, h2, h3⟩ := h.step hs v0 v1 dv he w0 w1
    obtain ⟨h4, h5⟩ := GrI.fold hs v0 v1 rest _ _ h1 h2 (fun e' he' => hr e' (List.mem_cons_of_mem _ he'))
    exact ⟨h4, h5.trans h3⟩
theorem grQ_ok (hs : 0 ≤ snk ∧ snk < N) (hrow : ∀ v e : Int, 0 ≤ v → v < N → e ∈ rowOf out v → 0 ≤ endP arcs e ∧ endP arcs e < N) : ∀ (k : Nat) (q : List Int) (d : List Bool), GrI arcs left out snk N (fun y _ => y ∈ q) q d → q.length + trueC d ≤ k →
    ∃ D, grQ arcs left out k q d = some D ∧ GrI arcs left out snk N (fun _ _ => False) [] D
  | k, [], d, h, hk => ⟨d, grQ_nil _ _ _ _ _, ⟨h.len, h.rng, h.s0, h.back, fun y e y0 y1 hy he hl hp => h.clo y e y0 y1 hy he hl (fun hq => by cases hq)⟩⟩
  | 0, v :: q, d, h, hk => by simp at hk
  | k + 1, v :: q, d, h, hk => by
    obtain ⟨v0, v1, dv⟩ := h.rng v (List.mem_cons_self ..)
    have h1 : GrI arcs left out snk N (fun y e' => y ∈ q ∨ y = v ∧ e' ∈ rowOf out v) q d :=
      ⟨h.len, fun x hx => h.rng x (List.mem_cons_of_mem _ hx), h.s0, h.back, fun y e y0 y1 hy he hl hp => h.clo y e y0 y1 hy he hl (fun hq => by
        rcases List.mem_cons.1 hq with hq | hq
        · exact hp (.inr ⟨hq, by rw [← hq]; exact he⟩)
        · exact hp (.inl hq))⟩
    obtain ⟨h2, h3⟩ := h1.fold hs v0 v1 (rowOf out v) q d dv (fun e he => ⟨he, hrow v e v0 v1 he⟩)
    simp only [grQ]
    exact grQ_ok hs hrow k _ _ h2 (by simp only [List.length_cons] at hk; omega)
end
structure GrD (arcs : List S35) (left : List Int) (out : List (List Int)) (snk : Int) (N : Nat) (D : List Bool) : Prop where
  len : D.length = N
  s0 : rdOf false D snk = false
  back : ∀ P, Back arcs left out snk N P → ∀ x : Int, 0 ≤ x → x < N → rdOf false D x = false → P x
  clo : ∀ y e : Int, 0 ≤ y → y < N → rdOf false D y = false → e ∈ rowOf out y → 0 < rd left (xrP e) → rdOf false D (endP arcs e) = false
theorem great_ok (arcs : List S35) (left : List Int) (out : List (List Int)) (src snk : Int) (N : Nat) (dep nxt : List Int) (hs : 0 ≤ snk ∧ snk < N) (hrow : ∀ v e : Int, 0 ≤ v → v < N → e ∈ rowOf out v → 0 ≤ endP arcs e ∧ endP arcs e < N) (k : Nat) (hk : N ≤ k) :
    ∃ D, greatP k ⟨N, arcs, left, out, src, snk, dep, nxt⟩ = some D ∧ GrD arcs left out snk N D := by
  have hr : ∀ x : Int, 0 ≤ x → x < N → rdOf false ((List.replicate N true).set snk.toNat false) x = if x = snk then false else true := fun x x0 x1 => by
    rw [rdB_set _ _ _ _ hs.1 (by simp; omega) x0]
    congr 1
    unfold rdOf
    rw [List.getD_eq_getElem?_getD, List.getElem?_replicate, if_pos (by omega)]
    rfl
  have hn : trueC ((List.replicate N true).set snk.toNat false) + 1 = N := by
    have := trueC_set (List.replicate N true) snk.toNat (by simp; omega) (by rw [List.getD_eq_getElem?_getD, List.getElem?_replicate, if_pos (by omega)]; rfl)
    rw [trueC_rep] at this
    exact this
  have h0 : GrI arcs left out snk N (fun y _ => y ∈ [snk]) [snk] ((List.replicate N true).set snk.toNat false) := by
    refine ⟨by simp, fun x hx => ?_, by rw [hr snk hs.1 hs.2, if_pos rfl], fun P hP x x0 x1 hx => ?_, fun y e y0 y1 hy he hl hp => ?_⟩
    · rw [List.mem_singleton] at hx
      subst hx
      exact ⟨hs.1, hs.2, by rw [hr x hs.1 hs.2, if_pos rfl]⟩
    · rw [hr x x0 x1] at hx
      split at hx
      · rename_i h; rw [h]; exact hP.1
      · cases hx
    · rw [hr y y0 y1] at hy
      split at hy
      · rename_i h; exact absurd (List.mem_singleton.2 h) hp
      · cases hy
  obtain ⟨D, hD, hI⟩ := grQ_ok hs hrow k [snk] _ h0 (by simp only [List.length_singleton]; omega)
  refine ⟨D, ?_, hI.len, hI.s0, hI.back, fun y e y0 y1 hy he hl => hI.clo y e y0 y1 hy he hl (fun q => q)⟩
  unfold greatP
  dsimp only
  rw [Int.toNat_natCast]
  exact hD
end Go.Proofs.Ytbamanjedfccpaa.HTab
end

section
set_option linter.unusedVariables false
set_option linter.unusedSimpArgs false
namespace Go.Proofs.Ytbamanjedfccpaa.HTab
open Go.RowKit Go.Proofs.YtbamanjedfccpaaW.PrintWords Go.Proofs.YtbamanjedfccpaaW.PrintLast Go.Proofs.YtbamanjedfccpaaW.PrintMore Go.Proofs.Ytbamanjedfccpaa.X
set_option linter.unusedVariables false
set_option linter.unusedSimpArgs false
theorem costF_congr {N : Nat} (both : Bool) (T T' : Int → Bool) (hT : ∀ v : Int, 0 ≤ v → v < N → T v = T' v) : ∀ l : List S35, Good N l → costF both T l = costF both T' l
  | [], _ => rfl
  | a :: l, hg => by
    obtain ⟨g0, g1, g2, g3⟩ := hg a (List.mem_cons_self ..)
    simp only [costF]
    rw [costF_congr both T T' hT l (fun b hb => hg b (List.mem_cons_of_mem _ hb)), hT a.f0 g0 g1, hT a.f1 g2 g3]
theorem resF_pos (T : Int → Bool) : ∀ (l : List S35) (L : List Int), LOK false l L → resF T l L = 0 → ∀ n, n < 2 * l.length → T (tlN l n) = true → T (hdN l n) = false → L.getD n 0 = 0
  | [], [], _, _, n, hn, _, _ => by simp at hn
  | a :: l, x :: y :: L, h, hr, n, hn, ht, hh => by
    obtain ⟨h1, h2, h3, h4⟩ := h
    have hnn := resF_nonneg T h4
    simp only [resF] at hr
    match n, hn, ht, hh with
    | 0, hn, ht, hh =>
      have ht' : T a.f0 = true := ht
      have hh' : T a.f1 = false := hh
      rw [ht', hh'] at hr
      simp at hr
      show x = 0
      omega
    | 1, hn, ht, hh =>
      have ht' : T a.f1 = true := ht
      have hh' : T a.f0 = false := hh
      rw [ht', hh'] at hr
      simp at hr
      show y = 0
      omega
    | n + 2, hn, ht, hh =>
      refine resF_pos T l L h4 ?_ n (by simp at hn; omega) ht hh
      have a1 : 0 ≤ (if T a.f0 && !T a.f1 then x else 0) := by split <;> omega
      have a2 : 0 ≤ (if T a.f1 && !T a.f0 then y else 0) := by split <;> omega
      omega
  | [], x :: L, h, _, _, _, _, _ => h.elim
  | a :: l, [], h, _, _, _, _, _ => h.elim
  | a :: l, [x], h, _, _, _, _, _ => h.elim
section
variable {N : Nat} {arcs : List S35} {src snk : Int} {l1 D : List Int} {G : List Bool}
theorem great_src (hg : Good N arcs) (hv : LvD arcs l1 (outZ N arcs) src N D) (hG : GrD arcs l1 (outZ N arcs) snk N G) (hn : rd D snk < 0) (x : Int) (x0 : 0 ≤ x) (x1 : x < N) (hx : 0 ≤ rd D x) : rdOf false G x = true := by
  cases hq : rdOf false G x with
  | true => rfl
  | false =>
    have := hG.back (fun v => rd D v < 0) ⟨hn, fun y e y0 y1 hy he hl => by
      obtain ⟨n, a, b, c⟩ := ((outZ_rel hg).2 y y0 y1 e).1 he
      have ht := tl_in hg n a
      subst b
      rw [xrP_N] at hl
      rw [endP_N arcs n a]
      refine Int.not_le.1 (fun hw => ?_)
      have hx2 := xrN_lt n arcs.length a
      have h1 := hv.clo (hdN arcs n) ((xrN n : Nat) : Int) ht.2.2.1 ht.2.2.2 hw (((outZ_rel hg).2 _ ht.2.2.1 ht.2.2.2 _).2 ⟨xrN n, hx2, rfl, tl_xr arcs n⟩) hl
      rw [endP_N arcs _ hx2, hd_xr, c] at h1
      omega⟩ x x0 x1 hq
    omega
theorem great_zero (hg : Good N arcs) (hL : LOK false arcs l1) (hG : GrD arcs l1 (outZ N arcs) snk N G) : resF (fun v => rdOf false G v) arcs l1 = 0 := by
  refine resF_zero _ arcs l1 hL.len (fun n hn ht hh => ?_)
  have hi := tl_in hg n hn
  have h3 := hL.nonneg n
  rcases Int.lt_or_eq_of_le h3 with q | q
  · exfalso
    have hx2 := xrN_lt n arcs.length hn
    have := hG.clo (hdN arcs n) ((xrN n : Nat) : Int) hi.2.2.1 hi.2.2.2 hh (((outZ_rel hg).2 _ hi.2.2.1 hi.2.2.2 _).2 ⟨xrN n, hx2, rfl, tl_xr arcs n⟩) (by rw [xrP_N, xrN_xrN]; exact q)
    rw [endP_N arcs _ hx2, hd_xr] at this
    have ht' : rdOf false G (tlN arcs n) = true := ht
    rw [this] at ht'
    cases ht'
  · exact q.symm
theorem least_in (hg : Good N arcs) (hL : LOK false arcs l1) (hv : LvD arcs l1 (outZ N arcs) src N D) (T : Int → Bool) (hT : T src = true) (h0 : resF T arcs l1 = 0) : ∀ (d : Nat) (x : Int), 0 ≤ x → x < N → rd D x = d → T x = true := by
  intro d
  induction d with
  | zero => intro x x0 x1 hx; rw [hv.uni x x0 x1 hx]; exact hT
  | succ d ih =>
    intro x x0 x1 hx
    obtain ⟨y, e, y0, y1, hy, he, hl, hex⟩ := hv.pred x x0 x1 (by omega)
    have hy2 := ih y y0 y1 (by omega)
    obtain ⟨n, a, b, c⟩ := ((outZ_rel hg).2 y y0 y1 e).1 he
    subst b
    rw [endP_N arcs n a] at hex
    cases hq : T x with
    | true => rfl
    | false =>
      have := resF_pos T arcs l1 hL h0 n a (by rw [c]; exact hy2) (by rw [hex]; exact hq)
      have hl' : 0 < l1.getD n 0 := hl
      omega
theorem great_in (hg : Good N arcs) (hL : LOK false arcs l1) (hG : GrD arcs l1 (outZ N arcs) snk N G) (T : Int → Bool) (hT : T snk = false) (h0 : resF T arcs l1 = 0) (x : Int) (x0 : 0 ≤ x) (x1 : x < N) (hx : rdOf false G x = false) : T x = false := by
  refine hG.back (fun v => T v = false) ⟨hT, fun y e y0 y1 hy he hl => ?_⟩ x x0 x1 hx
  obtain ⟨n, a, b, c⟩ := ((outZ_rel hg).2 y y0 y1 e).1 he
  subst b
  rw [xrP_N] at hl
  have hx2 := xrN_lt n arcs.length a
  show T (endP arcs (n : Int)) = false
  rw [endP_N arcs n a]
  cases hq : T (hdN arcs n) with
  | false => rfl
  | true =>
    have := resF_pos T arcs l1 hL h0 (xrN n) hx2 (by rw [tl_xr]; exact hq) (by rw [hd_xr, c]; exact hy)
    have hl' : 0 < l1.getD (xrN n) 0 := hl
    omega
end
end Go.Proofs.Ytbamanjedfccpaa.HTab
end

section
set_option linter.unusedVariables false
set_option linter.unusedSimpArgs false
namespace Go.Proofs.Ytbamanjedfccpaa.HTab
open Go.RowKit Go.Proofs.YtbamanjedfccpaaW.PrintWords Go.Proofs.YtbamanjedfccpaaW.PrintLast Go.Proofs.YtbamanjedfccpaaW.PrintMore Go.Proofs.Ytbamanjedfccpaa.X
set_option linter.unusedVariables false
set_option linter.unusedSimpArgs false
theorem rows_in {N : Nat} {arcs : List S35} (hg : Good N arcs) : ∀ v e : Int, 0 ≤ v → v < N → e ∈ rowOf (outZ N arcs) v → 0 ≤ endP arcs e ∧ endP arcs e < N := by
  intro v e v0 v1 he
  obtain ⟨n, a, b, c⟩ := ((outZ_rel hg).2 v v0 v1 e).1 he
  subst b
  rw [endP_N arcs n a]
  exact (tl_in hg n a).2.2
structure NetD (N : Nat) (arcs : List S35) (s : Int) (l1 D : List Int) (G : List Bool) : Prop where
  value : wax_Value.f N arcs = some (s, 0)
  flow : wax_Flow.f N arcs = some (flowL l1 arcs.length, 0)
  least : wax_Least.f N arcs = some (leastL D, 0)
  great : wax_Greatest.f N arcs = some (G, 0)
  s0 : 0 ≤ s
  lok : LOK false arcs l1
  res : ∀ T, resF T arcs l1 = costF false T arcs - s * (ind T 0 - ind T ((N : Int) - 1))
  lv : LvD arcs l1 (outZ N arcs) 0 N D
  gr : GrD arcs l1 (outZ N arcs) ((N : Int) - 1) N G
  no : rd D ((N : Int) - 1) < 0
section
variable {N : Nat} {arcs : List S35} {s : Int} {l1 D : List Int} {G : List Bool}
theorem NetD.min (h : NetD N arcs s l1 D G) (T : Int → Bool) (hT : side T 0 ((N : Int) - 1)) : s ≤ costF false T arcs := by
  have h1 := h.res T
  have h2 := resF_nonneg T h.lok
  rw [ind_side hT] at h1
  omega
theorem NetD.zero (h : NetD N arcs s l1 D G) (T : Int → Bool) (hT : side T 0 ((N : Int) - 1)) : costF false T arcs = s ↔ resF T arcs l1 = 0 := by
  have h1 := h.res T
  rw [ind_side hT] at h1
  omega
theorem leastL_rd (D : List Int) (x : Int) (x0 : 0 ≤ x) (x1 : x < D.length) : rdOf false (leastL D) x = decide (0 ≤ rd D x) := by
  obtain ⟨n, rfl⟩ : ∃ n : Nat, x = n := ⟨x.toNat, by omega⟩
  have h : n < D.length := by omega
  simp [rdOf, rd, leastL, h]
theorem NetD.least_rd (h : NetD N arcs s l1 D G) (x : Int) (x0 : 0 ≤ x) (x1 : x < N) : rdOf false (leastL D) x = decide (0 ≤ rd D x) := leastL_rd D x x0 (by rw [h.lv.len]; exact x1)
theorem NetD.least_side (h : NetD N arcs s l1 D G) (hN : 2 ≤ N) : side (fun v => rdOf false (leastL D) v) 0 ((N : Int) - 1) := by
  constructor
  · show rdOf false (leastL D) 0 = true
    rw [h.least_rd 0 (by omega) (by omega), h.lv.s0]
    rfl
  · show rdOf false (leastL D) ((N : Int) - 1) = false
    rw [h.least_rd _ (by omega) (by omega)]
    exact decide_eq_false (by have := h.no; omega)
theorem NetD.least_cost (h : NetD N arcs s l1 D G) (hN : 2 ≤ N) (hg : Good N arcs) : costF false (fun v => rdOf false (leastL D) v) arcs = s := by
  rw [costF_congr (N := N) false _ (fun v => decide (0 ≤ rd D v)) (fun v v0 v1 => h.least_rd v v0 v1) arcs hg]
  refine (h.zero _ ⟨by simp [h.lv.s0], ?_⟩).2 (reach_zero hg h.lok h.lv)
  exact decide_eq_false (by have := h.no; omega)
theorem NetD.great_side (h : NetD N arcs s l1 D G) (hN : 2 ≤ N) (hg : Good N arcs) : side (fun v => rdOf false G v) 0 ((N : Int) - 1) :=
  ⟨great_src hg h.lv h.gr h.no 0 (by omega) (by omega) (by rw [h.lv.s0]; omega), h.gr.s0⟩
theorem NetD.great_cost (h : NetD N arcs s l1 D G) (hN : 2 ≤ N) (hg : Good N arcs) : costF false (fun v => rdOf false G v) arcs = s :=
  (h.zero _ (h.great_side hN hg)).2 (great_zero hg h.lok h.gr)
theorem NetD.between (h : NetD N arcs s l1 D G) (hN : 2 ≤ N) (hg : Good N arcs) (T : Int → Bool) (hT : side T 0 ((N : Int) - 1)) (hc : costF false T arcs = s) (x : Int) (x0 : 0 ≤ x) (x1 : x < N) : (rdOf false (leastL D) x = true → T x = true) ∧ (T x = true → rdOf false G x = true) := by
  have h0 := (h.zero T hT).1 hc
  refine ⟨fun hx => ?_, fun hx => ?_⟩
  · rw [h.least_rd x x0 x1] at hx
    have := of_decide_eq_true hx
    exact least_in hg h.lok h.lv T hT.1 h0 (rd D x).toNat x x0 x1 (by omega)
  · cases hq : rdOf false G x with
    | true => rfl
    | false =>
      have := great_in hg h.lok h.gr T hT.2 h0 x x0 x1 hq
      rw [this] at hx
      cases hx
end
end Go.Proofs.Ytbamanjedfccpaa.HTab
end

section
set_option linter.unusedVariables false
set_option linter.unusedSimpArgs false
namespace Go.Proofs.Ytbamanjedfccpaa.HTab
open Go.RowKit Go.Proofs.YtbamanjedfccpaaW.PrintWords Go.Proofs.YtbamanjedfccpaaW.PrintLast Go.Proofs.YtbamanjedfccpaaW.PrintMore Go.Proofs.Ytbamanjedfccpaa.X
set_option linter.unusedVariables false
set_option linter.unusedSimpArgs false
structure GSq (N : Nat) (g : List (List Int)) : Prop where
  len : g.length = N
  row : ∀ i : Int, 0 ≤ i → i < N → (rd_L4 g i).length = N
theorem GSq.put {N : Nat} {g : List (List Int)} (h : GSq N g) {i : Int} (j x : Int) (i0 : 0 ≤ i) (i1 : i < N) : GSq N (putG g i j x) := by
  refine ⟨by unfold putG; rw [List.length_set]; exact h.len, fun a a0 a1 => ?_⟩
  unfold putG
  rw [rdL_set g i a _ i0 (by rw [h.len]; exact i1) a0]
  split
  · rw [List.length_set]; exact h.row i i0 i1
  · exact h.row a a0 a1
theorem sumF_nonneg {h : Int → Int} : ∀ n : Nat, (∀ v : Int, 0 ≤ v → v < n → 0 ≤ h v) → 0 ≤ sumF h n
  | 0, _ => Int.le_refl _
  | n + 1, hh => by
    simp only [sumF]
    have := sumF_nonneg n (fun v v0 v1 => hh v v0 (by omega))
    have := hh n (by omega) (by omega)
    omega
theorem sumF_pos {h : Int → Int} : ∀ n : Nat, (∀ v : Int, 0 ≤ v → v < n → 0 ≤ h v) → sumF h n = 0 → ∀ v : Int, 0 ≤ v → v < n → h v = 0
  | 0, _, _, v, v0, v1 => by omega
  | n + 1, hh, hs, v, v0, v1 => by
    simp only [sumF] at hs
    have h1 := sumF_nonneg n (fun v v0 v1 => hh v v0 (by omega))
    have h2 := hh n (by omega) (by omega)
    by_cases q : v = n
    · rw [q]; omega
    · exact sumF_pos n (fun v v0 v1 => hh v v0 (by omega)) (by omega) v v0 (by omega)
structure GOK (N : Nat) (g : List (List Int)) : Prop extends GSq N g where
  nn : ∀ i j : Int, 0 ≤ i → i < N → 0 ≤ j → j < N → 0 ≤ gr g i j
  up : ∀ i j : Int, 0 ≤ i → i < N → 0 ≤ j → j < N → gr g i j + gr g j i ≤ 2000000000
structure WayD (N : Nat) (g : List (List Int)) (s : Int) (fr : List Int) : Prop where
  len : fr.length = N
  lo : ∀ x : Int, 0 ≤ x → x < N → -1 ≤ rd fr x ∧ rd fr x < N
  s0 : rd fr s = s
  clo : ∀ u v : Int, 0 ≤ u → u < N → 0 ≤ v → v < N → 0 ≤ rd fr u → 0 < gr g u v → 0 ≤ rd fr v
  rank : ∃ p : Int → Nat, (∀ x : Int, 0 ≤ x → x < N → 0 ≤ rd fr x → p x < N) ∧ ∀ x : Int, 0 ≤ x → x < N → x ≠ s → 0 ≤ rd fr x → 0 ≤ rd fr (rd fr x) ∧ p (rd fr x) < p x ∧ 0 < gr g (rd fr x) x
structure WI (N : Nat) (g : List (List Int)) (s : Int) (fr q : List Int) (k : Nat) (j : Int) : Prop where
  len : fr.length = N
  cnt : q.length + negC fr = N
  inq : ∀ i : Nat, i < q.length → 0 ≤ rd q i ∧ rd q i < N ∧ 0 ≤ rd fr (rd q i)
  all : ∀ x : Int, 0 ≤ x → x < N → 0 ≤ rd fr x → ∃ i : Nat, i < q.length ∧ rd q i = x
  s0 : rd fr s = s
  lo : ∀ x : Int, 0 ≤ x → x < N → -1 ≤ rd fr x ∧ rd fr x < N
  prev : ∀ i : Nat, i < q.length → rd q i ≠ s → ∃ i' : Nat, i' < i ∧ rd q i' = rd fr (rd q i) ∧ 0 < gr g (rd fr (rd q i)) (rd q i)
  done : ∀ i : Nat, i < k → ∀ v : Int, 0 ≤ v → v < N → 0 < gr g (rd q i) v → 0 ≤ rd fr v
  part : ∀ v : Int, 0 ≤ v → v < j → 0 < gr g (rd q k) v → 0 ≤ rd fr v
theorem rd_app (q : List Int) (x : Int) (i : Nat) (h : i < q.length) : rd (q ++ [x]) i = rd q i := by
  simp [rd, List.getD_eq_getElem?_getD, List.getElem?_append_left h]
theorem rd_last (q : List Int) (x : Int) : rd (q ++ [x]) (q.length : Nat) = x := by
  simp [rd, List.getD_eq_getElem?_getD]
theorem WI.add {N : Nat} {g : List (List Int)} {s : Int} {fr q : List Int} {k : Nat} {j : Int} (h : WI N g s fr q k j) (hk : k < q.length) (j0 : 0 ≤ j) (j1 : j < N) (hs : 0 ≤ s ∧ s < N) (hn : rd fr j < 0) (hp : 0 < gr g (rd q k) j) : WI N g s (fr.set j.toNat (rd q k)) (q ++ [j]) k (j + 1) := by
  have hqk := h.inq k hk
  have hr : ∀ x : Int, 0 ≤ x → rd (fr.set j.toNat (rd q k)) x = if x = j then rd q k else rd fr x := fun x x0 => rd_set fr j x _ j0 (by rw [h.len]; exact j1) x0
  have hup : ∀ x : Int, 0 ≤ x → 0 ≤ rd fr x → 0 ≤ rd (fr.set j.toNat (rd q k)) x := fun x x0 hx => by
    rw [hr x x0]; split
    · exact hqk.1
    · exact hx
  have hjs : j ≠ s := fun e => by rw [e, h.s0] at hn; omega
  have hqj : ∀ i : Nat, i < q.length → rd q i ≠ j := fun i hi e => by have := (h.inq i hi).2.2; rw [e] at this; omega
  refine ⟨by rw [List.length_set]; exact h.len, ?_, fun i hi => ?_, fun x x0 x1 hx => ?_, ?_, fun x x0 x1 => ?_, fun i hi hne => ?_, fun i hi v v0 v1 hv => ?_, fun v v0 v1 hv => ?_⟩
  · have := negC_set (rd q k) hqk.1 fr j.toNat (by rw [h.len]; omega) hn
    have := h.cnt
    rw [List.length_append, List.length_singleton]
    omega
  · rw [List.length_append, List.length_singleton] at hi
    by_cases e : i < q.length
    · rw [rd_app q j i e]
      have := h.inq i e
      exact ⟨this.1, this.2.1, hup _ this.1 this.2.2⟩
    · obtain rfl : i = q.length := by omega
      rw [rd_last]
      exact ⟨j0, j1, by rw [hr j j0, if_pos rfl]; exact hqk.1⟩
  · by_cases e : x = j
    · exact ⟨q.length, by simp, by rw [rd_last, e]⟩
    · rw [hr x x0, if_neg e] at hx
      obtain ⟨i, hi, hq⟩ := h.all x x0 x1 hx
      exact ⟨i, by rw [List.length_append]; omega, by rw [rd_app q j i hi]; exact hq⟩
  · rw [hr s hs.1, if_neg (fun e => hjs e.symm)]; exact h.s0
  · rw [hr x x0]; split
    · exact ⟨by omega, hqk.2.1⟩
    · exact h.lo x x0 x1
  · rw [List.length_append, List.length_singleton] at hi
    by_cases e : i < q.length
    · rw [rd_app q j i e] at hne ⊢
      obtain ⟨i', a, b, c⟩ := h.prev i e hne
      rw [hr _ (h.inq i e).1, if_neg (hqj i e)]
      exact ⟨i', a, by rw [rd_app q j i' (by omega)]; exact b, c⟩
    · obtain rfl : i = q.length := by omega
      rw [rd_last, hr j j0, if_pos rfl]
      exact ⟨k, hk, by rw [rd_app q j k hk], hp⟩
  · by_cases e : i < q.length
    · rw [rd_app q j i e] at hv
      exact hup v v0 (h.done i hi v v0 v1 hv)
    · omega
  · rw [rd_app q j k hk] at hv
    by_cases e : v = j
    · rw [hr v v0, if_pos e]; exact hqk.1
    · exact hup v v0 (h.part v v0 (by omega) hv)
theorem WI.skip {N : Nat} {g : List (List Int)} {s : Int} {fr q : List Int} {k : Nat} {j : Int} (h : WI N g s fr q k j) (hn : 0 < gr g (rd q k) j → 0 ≤ rd fr j) : WI N g s fr q k (j + 1) :=
  ⟨h.len, h.cnt, h.inq, h.all, h.s0, h.lo, h.prev, h.done, fun v v0 v1 hv => by
    by_cases e : v = j
    · rw [e] at hv ⊢; exact hn hv
    · exact h.part v v0 (by omega) hv⟩
theorem WI.next {N : Nat} {g : List (List Int)} {s : Int} {fr q : List Int} {k : Nat} (h : WI N g s fr q k N) : WI N g s fr q (k + 1) 0 :=
  ⟨h.len, h.cnt, h.inq, h.all, h.s0, h.lo, h.prev, fun i hi v v0 v1 hv => by
    by_cases e : i = k
    · rw [e] at hv; exact h.part v v0 v1 hv
    · exact h.done i (by omega) v v0 v1 hv, fun v v0 v1 hv => by omega⟩
theorem idx_le : ∀ (q : List Int) (i : Nat) (h : i < q.length), q.idxOf q[i] ≤ i
  | a :: l, 0, h => by simp
  | a :: l, i + 1, h => by
    have ih := idx_le l i (by simpa using h)
    rw [List.getElem_cons_succ, List.idxOf_cons]
    cases (a == l[i]'(by simpa using h)) <;> simp <;> omega
theorem WI.fin {N : Nat} {g : List (List Int)} {s : Int} {fr q : List Int} {j : Int} (h : WI N g s fr q q.length j) : WayD N g s fr := by
  refine ⟨h.len, h.lo, h.s0, fun u v u0 u1 v0 v1 hu hp => ?_, fun x => q.idxOf x, fun x x0 x1 hx => ?_, fun x x0 x1 hxs hx => ?_⟩
  · obtain ⟨i, hi, e⟩ := h.all u u0 u1 hu
    exact h.done i hi v v0 v1 (by rw [e]; exact hp)
  · obtain ⟨i, hi, e⟩ := h.all x x0 x1 hx
    have hm : x ∈ q := by rw [← e]; exact rd_mem q i (by omega) (by omega)
    have := List.idxOf_lt_length_iff.2 hm
    have := h.cnt
    dsimp only
    omega
  · obtain ⟨i, hi, e⟩ := h.all x x0 x1 hx
    have hm : x ∈ q := by rw [← e]; exact rd_mem q i (by omega) (by omega)
    have hl := List.idxOf_lt_length_iff.2 hm
    have hg : rd q (q.idxOf x : Nat) = x := by
      unfold rd
      rw [Int.toNat_natCast, List.getD_eq_getElem?_getD, List.getElem?_eq_getElem hl]
      exact List.getElem_idxOf hl
    obtain ⟨i', a, b, c⟩ := h.prev (q.idxOf x) hl (by rw [hg]; exact hxs)
    rw [hg] at b c
    have hi' : i' < q.length := by omega
    have := h.inq i' hi'
    rw [b] at this
    refine ⟨this.2.2, ?_, c⟩
    have hle : q.idxOf (rd fr x) ≤ i' := by
      rw [← b]
      unfold rd
      rw [Int.toNat_natCast, List.getD_eq_getElem?_getD, List.getElem?_eq_getElem hi']
      exact idx_le q i' hi'
    dsimp only
    omega
end Go.Proofs.Ytbamanjedfccpaa.HTab
end
