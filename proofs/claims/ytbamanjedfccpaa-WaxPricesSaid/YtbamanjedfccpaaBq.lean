/- Lemmas of the proof: part Bq. -/
import Derived.Test.YtbamanjedfccpaaBc
import Derived.Test.YtbamanjedfccpaaBi
import Derived.Test.YtbamanjedfccpaaBl
import Derived.Test.YtbamanjedfccpaaBm
import Derived.Test.YtbamanjedfccpaaBn
import Derived.Test.YtbamanjedfccpaaBp
import Derived.Test.YtbamanjedfccpaaBh
import Derived.Test.YtbamanjedfccpaaBk
section
set_option linter.unusedVariables false
set_option linter.unusedSimpArgs false
namespace Go.Proofs.Ytbamanjedfccpaa.X
open Go.RowKit Go.Proofs.YtbamanjedfccpaaW.PrintWords Go.Proofs.YtbamanjedfccpaaW.PrintLast Go.Proofs.YtbamanjedfccpaaW.PrintMore
attribute [local go_sem] max2_int min2_int max_two min_two max_three min_three max_four min_four   -- for this text's walks alone
set_option linter.unusedVariables false
set_option linter.unusedSimpArgs false
end Go.Proofs.Ytbamanjedfccpaa.X
end

section
set_option linter.unusedVariables false
set_option linter.unusedSimpArgs false
namespace Go.Proofs.Ytbamanjedfccpaa.HTab
open Go.RowKit Go.Proofs.YtbamanjedfccpaaW.PrintWords Go.Proofs.YtbamanjedfccpaaW.PrintLast Go.Proofs.YtbamanjedfccpaaW.PrintMore Go.Proofs.Ytbamanjedfccpaa.X
set_option linter.unusedVariables false
set_option linter.unusedSimpArgs false
def GoodR (N : Nat) (l : List S34) : Prop := ∀ a ∈ l, 0 ≤ a.f0 ∧ a.f0 < (N : Int) ∧ 0 ≤ a.f1 ∧ a.f1 < (N : Int)
section
variable (N : Nat) (hN2 : 2 ≤ N) (hN : N ≤ 40) (l : List S34) (hl : l.length ≤ 160) (hg : GoodR N l)
include hN2 hN
include hl hg
end
end Go.Proofs.Ytbamanjedfccpaa.HTab
end

section
set_option linter.unusedVariables false
set_option linter.unusedSimpArgs false
namespace Go.Proofs.Ytbamanjedfccpaa.HTab
open Go.RowKit Go.Proofs.YtbamanjedfccpaaW.PrintWords Go.Proofs.YtbamanjedfccpaaW.PrintLast Go.Proofs.YtbamanjedfccpaaW.PrintMore Go.Proofs.Ytbamanjedfccpaa.X
set_option linter.unusedVariables false
set_option linter.unusedSimpArgs false
def sumF (g : Int → Int) : Nat → Int
  | 0 => 0
  | n + 1 => sumF g n + g (n : Int)
theorem sumF_add (g h : Int → Int) : ∀ n, sumF (fun v => g v + h v) n = sumF g n + sumF h n
  | 0 => rfl
  | n + 1 => by simp only [sumF]; rw [sumF_add g h n]; omega
theorem sumF_sub (g h : Int → Int) : ∀ n, sumF (fun v => g v - h v) n = sumF g n - sumF h n
  | 0 => rfl
  | n + 1 => by simp only [sumF]; rw [sumF_sub g h n]; omega
theorem sumF_zero : ∀ n, sumF (fun _ => 0) n = 0
  | 0 => rfl
  | n + 1 => by simp only [sumF]; rw [sumF_zero n]; rfl
theorem sumF_congr {g h : Int → Int} : ∀ n : Nat, (∀ v : Int, 0 ≤ v → v < n → g v = h v) → sumF g n = sumF h n
  | 0, _ => rfl
  | n + 1, hh => by
    simp only [sumF]
    rw [sumF_congr n (fun v v0 v1 => hh v v0 (by omega)), hh n (by omega) (by omega)]
end Go.Proofs.Ytbamanjedfccpaa.HTab
end

section
set_option linter.unusedVariables false
set_option linter.unusedSimpArgs false
namespace Go.Proofs.Ytbamanjedfccpaa.HTab
open Go.RowKit Go.Proofs.YtbamanjedfccpaaW.PrintWords Go.Proofs.YtbamanjedfccpaaW.PrintLast Go.Proofs.YtbamanjedfccpaaW.PrintMore Go.Proofs.Ytbamanjedfccpaa.X
set_option linter.unusedVariables false
set_option linter.unusedSimpArgs false
theorem rdB_set (d : List Bool) (w x : Int) (val : Bool) (w0 : 0 ≤ w) (w1 : w < d.length) (x0 : 0 ≤ x) : rdOf false (d.set w.toNat val) x = if x = w then val else rdOf false d x := by
  unfold rdOf
  rw [List.getD_eq_getElem?_getD, List.getElem?_set, List.getD_eq_getElem?_getD]
  by_cases h : x = w
  · subst h
    rw [if_pos rfl, if_pos (by omega), if_pos rfl]
    rfl
  · rw [if_neg (by omega), if_neg h]
def trueC : List Bool → Nat
  | [] => 0
  | x :: d => (if x then 1 else 0) + trueC d
theorem trueC_set : ∀ (d : List Bool) (n : Nat), n < d.length → d.getD n false = true → trueC (d.set n false) + 1 = trueC d
  | [], n, h, _ => by simp at h
  | x :: d, 0, h, hx => by
    have hx' : x = true := hx
    subst hx'
    show 0 + trueC d + 1 = 1 + trueC d
    omega
  | x :: d, n + 1, h, hx => by
    have := trueC_set d n (by simpa using h) hx
    show (if x then 1 else 0) + trueC (d.set n false) + 1 = (if x then 1 else 0) + trueC d
    omega
theorem trueC_rep (n : Nat) : trueC (List.replicate n true) = n := by
  induction n with
  | zero => rfl
  | succ n ih => rw [List.replicate_succ]; simp only [trueC]; rw [ih]; simp; omega
section
variable (arcs : List S35) (left : List Int) (out : List (List Int)) (snk : Int) (N : Nat)
def Back (P : Int → Prop) : Prop := P snk ∧ ∀ y e : Int, 0 ≤ y → y < N → P y → e ∈ rowOf out y → 0 < rd left (xrP e) → P (endP arcs e)
structure GrI (Pnd : Int → Int → Prop) (q : List Int) (d : List Bool) : Prop where
  len : d.length = N
  rng : ∀ x ∈ q, 0 ≤ x ∧ x < N ∧ rdOf false d x = false
  s0 : rdOf false d snk = false
  back : ∀ P, Back arcs left out snk N P → ∀ x : Int, 0 ≤ x → x < N → rdOf false d x = false → P x
  clo : ∀ y e : Int, 0 ≤ y → y < N → rdOf false d y = false → e ∈ rowOf out y → 0 < rd left (xrP e) → ¬ Pnd y e → rdOf false d (endP arcs e) = false
variable {arcs left out snk N}
theorem GrI.step (hs : 0 ≤ snk ∧ snk < N) {v e : Int} {rest q : List Int} {d : List Bool} (h : GrI arcs left out snk N (fun y e' => y ∈ q ∨ y = v ∧ e' ∈ e :: rest) q d) (v0 : 0 ≤ v) (v1 : v < N) (dv : rdOf false d v = false) (he : e ∈ rowOf out v) (w0 : 0 ≤ endP arcs e) (w1 : endP arcs e < N) :
    GrI arcs left out snk N (fun y e' => y ∈ (grE arcs left (q, d) e).1 ∨ y = v ∧ e' ∈ rest) (grE arcs left (q, d) e).1 (grE arcs left (q, d) e).2 ∧ rdOf false (grE arcs left (q, d) e).2 v = false ∧ (grE arcs left (q, d) e).1.length + trueC (grE arcs left (q, d) e).2 = q.length + trueC d := by
  unfold grE
  dsimp only
  by_cases hc : rdOf false d (endP arcs e) = true ∧ 0 < rd left (xrP e)
  · rw [if_pos hc]
    dsimp only
    obtain ⟨hd, hl⟩ := hc
    have hr : ∀ x : Int, 0 ≤ x → rdOf false (d.set (endP arcs e).toNat false) x = if x = endP arcs e then false else rdOf false d x := fun x x0 => rdB_set d _ x _ w0 (by rw [h.len]; omega) x0
    have hn : trueC (d.set (endP arcs e).toNat false) + 1 = trueC d := trueC_set d _ (by rw [h.len]; omega) hd
    obtain ⟨w, hwd⟩ : ∃ w, w = endP arcs e := ⟨_, rfl⟩
    rw [← hwd] at hr hn hd w0 w1 ⊢
    have hkeep : ∀ x : Int, 0 ≤ x → rdOf false d x = false → rdOf false (d.set w.toNat false) x = false := fun x x0 hx => by rw [hr x x0]; split; rfl; exact hx
    refine ⟨⟨by rw [List.length_set]; exact h.len, fun x hx => ?_, hkeep snk hs.1 h.s0, fun P hP x x0 x1 hx => ?_, fun y e' y0 y1 hy he' hl' hp => ?_⟩, hkeep v v0 dv, ?_⟩
    · rcases List.mem_append.1 hx with hx | hx
      · obtain ⟨a, b, c⟩ := h.rng x hx
        exact ⟨a, b, hkeep x a c⟩
      · rw [List.mem_singleton] at hx
        subst hx
        exact ⟨w0, w1, by rw [hr x w0, if_pos rfl]⟩
    · rw [hr x x0] at hx
      by_cases hxw : x = w
      · rw [hxw, hwd]
        exact hP.2 v e v0 v1 (h.back P hP v v0 v1 dv) he hl
      · rw [if_neg hxw] at hx
        exact h.back P hP x x0 x1 hx
    · rw [hr y y0] at hy
      by_cases hyw : y = w
      · exact absurd (.inl (List.mem_append.2 (.inr (List.mem_singleton.2 hyw)))) hp
      · rw [if_neg hyw] at hy
        by_cases hee : y = v ∧ e' = e
        · obtain ⟨-, rfl⟩ := hee
          rw [← hwd, hr w w0, if_pos rfl]
        · have h1 := h.clo y e' y0 y1 hy he' hl' (fun hq => by
            rcases hq with hq | ⟨hq, hm⟩
            · exact hp (.inl (List.mem_append.2 (.inl hq)))
            · rcases List.mem_cons.1 hm with hm | hm
              · exact hee ⟨hq, hm⟩
              · exact hp (.inr ⟨hq, hm⟩))
          by_cases hz : 0 ≤ endP arcs e'
          · exact hkeep _ hz h1
          · have e1 : ∀ l : List Bool, rdOf false l (endP arcs e') = rdOf false l 0 := fun l => by unfold rdOf; rw [show (endP arcs e').toNat = (0 : Int).toNat by omega]
            rw [e1] at h1 ⊢
            exact hkeep 0 (by omega) h1
    · rw [List.length_append, List.length_singleton]; omega
  · rw [if_neg hc]
    dsimp only
    refine ⟨⟨h.len, h.rng, h.s0, h.back, fun y e' y0 y1 hy he' hl' hp => ?_⟩, dv, rfl⟩
    by_cases hee : y = v ∧ e' = e
    · obtain ⟨-, rfl⟩ := hee
      cases hq : rdOf false d (endP arcs e') with
      | false => rfl
      | true => exact absurd ⟨hq, hl'⟩ hc
    · exact h.clo y e' y0 y1 hy he' hl' (fun hq => by
        rcases hq with hq | ⟨hq, hm⟩
        · exact hp (.inl hq)
        · rcases List.mem_cons.1 hm with hm | hm
          · exact hee ⟨hq, hm⟩
          · exact hp (.inr ⟨hq, hm⟩))
theorem GrI.fold (hs : 0 ≤ snk ∧ snk < N) {v : Int} (v0 : 0 ≤ v) (v1 : v < N) : ∀ (rest q : List Int) (d : List Bool), GrI arcs left out snk N (fun y e' => y ∈ q ∨ y = v ∧ e' ∈ rest) q d → rdOf false d v = false → (∀ e ∈ rest, e ∈ rowOf out v ∧ 0 ≤ endP arcs e ∧ endP arcs e < N) →
    GrI arcs left out snk N (fun y _ => y ∈ (rest.foldl (grE arcs left) (q, d)).1) (rest.foldl (grE arcs left) (q, d)).1 (rest.foldl (grE arcs left) (q, d)).2 ∧ (rest.foldl (grE arcs left) (q, d)).1.length + trueC (rest.foldl (grE arcs left) (q, d)).2 = q.length + trueC d
  | [], q, d, h, dv, hr => ⟨⟨h.len, h.rng, h.s0, h.back, fun y e y0 y1 hy he hl hp => h.clo y e y0 y1 hy he hl (fun hq => by
      rcases hq with hq | ⟨_, hm⟩
      · exact hp hq
      · cases hm)⟩, rfl⟩
  | e :: rest, q, d, h, dv, hr => by
    obtain ⟨he, w0, w1⟩ := hr e (List.mem_cons_self ..)
    obtain ⟨h1, h2, h3⟩ := h.step hs v0 v1 dv he w0 w1
    obtain ⟨h4, h5⟩ := GrI.fold hs v0 v1 rest _ _ h1 h2 (fun e' he' => hr e' (List.mem_cons_of_mem _ he'))
    exact ⟨h4, h5.trans h3⟩
theorem grQ_ok (hs : 0 ≤ snk ∧ snk < N) (hrow : ∀ v e : Int, 0 ≤ v → v < N → e ∈ rowOf out v → 0 ≤ endP arcs e ∧ endP arcs e < N) : ∀ (k : Nat) (q : List Int) (d : List Bool), GrI arcs left out snk N (fun y _ => y ∈ q) q d → q.length + trueC d ≤ k →
    ∃ D, grQ arcs left out k q d = some D ∧ GrI arcs left out snk N (fun _ _ => False) [] D
  | k, [], d, h, hk => ⟨d, grQ_nil _ _ _ _ _, ⟨h.len, h.rng, h.s0, h.back, fun y e y0 y1 hy he hl hp => h.clo y e y0 y1 hy he hl (fun hq => by cases hq)⟩⟩
  | 0, v :: q, d, h, hk => by simp at hk
  | k + 1, v :: q, d, h, hk => by
    obtain ⟨v0, v1, dv⟩ := h.rng v (List.mem_cons_self ..)
    have h1 : GrI arcs left out snk N (fun y e' => y ∈ q ∨ y = v ∧ e' ∈ rowOf out v) q d :=
      ⟨h.len, fun x hx => h.rng x (List.mem_cons_of_mem _ hx), h.s0, h.back, fun y e y0 y1 hy he hl hp => h.clo y e y0 y1 hy he hl (fun hq => by
        rcases List.mem_cons.1 hq with hq | hq
        · exact hp (.inr ⟨hq, by rw [← hq]; exact he⟩)
        · exact hp (.inl hq))⟩
    obtain ⟨h2, h3⟩ := h1.fold hs v0 v1 (rowOf out v) q d dv (fun e he => ⟨he, hrow v e v0 v1 he⟩)
    simp only [grQ]
    exact grQ_ok hs hrow k _ _ h2 (by simp only [List.length_cons] at hk; omega)
end
structure GrD (arcs : List S35) (left : List Int) (out : List (List Int)) (snk : Int) (N : Nat) (D : List Bool) : Prop where
  len : D.length = N
  s0 : rdOf false D snk = false
  back : ∀ P, Back arcs left out snk N P → ∀ x : Int, 0 ≤ x → x < N → rdOf false D x = false → P x
  clo : ∀ y e : Int, 0 ≤ y → y < N → rdOf false D y = false → e ∈ rowOf out y → 0 < rd left (xrP e) → rdOf false D (endP arcs e) = false
theorem great_ok (arcs : List S35) (left : List Int) (out : List (List Int)) (src snk : Int) (N : Nat) (dep nxt : List Int) (hs : 0 ≤ snk ∧ snk < N) (hrow : ∀ v e : Int, 0 ≤ v → v < N → e ∈ rowOf out v → 0 ≤ endP arcs e ∧ endP arcs e < N) (k : Nat) (hk : N ≤ k) :
    ∃ D, greatP k ⟨N, arcs, left, out, src, snk, dep, nxt⟩ = some D ∧ GrD arcs left out snk N D := by
  have hr : ∀ x : Int, 0 ≤ x → x < N → rdOf false ((List.replicate N true).set snk.toNat false) x = if x = snk then false else true := fun x x0 x1 => by
    rw [rdB_set _ _ _ _ hs.1 (by simp; omega) x0]
    congr 1
    unfold rdOf
    rw [List.getD_eq_getElem?_getD, List.getElem?_replicate, if_pos (by omega)]
    rfl
  have hn : trueC ((List.replicate N true).set snk.toNat false) + 1 = N := by
    have := trueC_set (List.replicate N true) snk.toNat (by simp; omega) (by rw [List.getD_eq_getElem?_getD, List.getElem?_replicate, if_pos (by omega)]; rfl)
    rw [trueC_rep] at this
    exact this
  have h0 : GrI arcs left out snk N (fun y _ => y ∈ [snk]) [snk] ((List.replicate N true).set snk.toNat false) := by
    refine ⟨by simp, fun x hx => ?_, by rw [hr snk hs.1 hs.2, if_pos rfl], fun P hP x x0 x1 hx => ?_, fun y e y0 y1 hy he hl hp => ?_⟩
    · rw [List.mem_singleton] at hx
      subst hx
      exact ⟨hs.1, hs.2, by rw [hr x hs.1 hs.2, if_pos rfl]⟩
    · rw [hr x x0 x1] at hx
      split at hx
      · rename_i h; rw [h]; exact hP.1
      · cases hx
    · rw [hr y y0 y1] at hy
      split at hy
      · rename_i h; exact absurd (List.mem_singleton.2 h) hp
      · cases hy
  obtain ⟨D, hD, hI⟩ := grQ_ok hs hrow k [snk] _ h0 (by simp only [List.length_singleton]; omega)
  refine ⟨D, ?_, hI.len, hI.s0, hI.back, fun y e y0 y1 hy he hl => hI.clo y e y0 y1 hy he hl (fun q => q)⟩
  unfold greatP
  dsimp only
  rw [Int.toNat_natCast]
  exact hD
end Go.Proofs.Ytbamanjedfccpaa.HTab
end

section
set_option linter.unusedVariables false
set_option linter.unusedSimpArgs false
namespace Go.Proofs.Ytbamanjedfccpaa.HTab
open Go.RowKit Go.Proofs.YtbamanjedfccpaaW.PrintWords Go.Proofs.YtbamanjedfccpaaW.PrintLast Go.Proofs.YtbamanjedfccpaaW.PrintMore Go.Proofs.Ytbamanjedfccpaa.X
set_option linter.unusedVariables false
set_option linter.unusedSimpArgs false
theorem costF_congr {N : Nat} (both : Bool) (T T' : Int → Bool) (hT : ∀ v : Int, 0 ≤ v → v < N → T v = T' v) : ∀ l : List S35, Good N l → costF both T l = costF both T' l
  | [], _ => rfl
  | a :: l, hg => by
    obtain ⟨g0, g1, g2, g3⟩ := hg a (List.mem_cons_self ..)
    simp only [costF]
    rw [costF_congr both T T' hT l (fun b hb => hg b (List.mem_cons_of_mem _ hb)), hT a.f0 g0 g1, hT a.f1 g2 g3]
theorem resF_pos (T : Int → Bool) : ∀ (l : List S35) (L : List Int), LOK false l L → resF T l L = 0 → ∀ n, n < 2 * l.length → T (tlN l n) = true → T (hdN l n) = false → L.getD n 0 = 0
  | [], [], _, _, n, hn, _, _ => by simp at hn
  | a :: l, x :: y :: L, h, hr, n, hn, ht, hh => by
    obtain ⟨h1, h2, h3, h4⟩ := h
    have hnn := resF_nonneg T h4
    simp only [resF] at hr
    match n, hn, ht, hh with
    | 0, hn, ht, hh =>
      have ht' : T a.f0 = true := ht
      have hh' : T a.f1 = false := hh
      rw [ht', hh'] at hr
      simp at hr
      show x = 0
      omega
    | 1, hn, ht, hh =>
      have ht' : T a.f1 = true := ht
      have hh' : T a.f0 = false := hh
      rw [ht', hh'] at hr
      simp at hr
      show y = 0
      omega
    | n + 2, hn, ht, hh =>
      refine resF_pos T l L h4 ?_ n (by simp at hn; omega) ht hh
      have a1 : 0 ≤ (if T a.f0 && !T a.f1 then x else 0) := by split <;> omega
      have a2 : 0 ≤ (if T a.f1 && !T a.f0 then y else 0) := by split <;> omega
      omega
  | [], x :: L, h, _, _, _, _, _ => h.elim
  | a :: l, [], h, _, _, _, _, _ => h.elim
  | a :: l, [x], h, _, _, _, _, _ => h.elim
section
variable {N : Nat} {arcs : List S35} {src snk : Int} {l1 D : List Int} {G : List Bool}
theorem great_src (hg : Good N arcs) (hv : LvD arcs l1 (outZ N arcs) src N D) (hG : GrD arcs l1 (outZ N arcs) snk N G) (hn : rd D snk < 0) (x : Int) (x0 : 0 ≤ x) (x1 : x < N) (hx : 0 ≤ rd D x) : rdOf false G x = true := by
  cases hq : rdOf false G x with
  | true => rfl
  | false =>
    have := hG.back (fun v => rd D v < 0) ⟨hn, fun y e y0 y1 hy he hl => by
      obtain ⟨n, a, b, c⟩ := ((outZ_rel hg).2 y y0 y1 e).1 he
      have ht := tl_in hg n a
      subst b
      rw [xrP_N] at hl
      rw [endP_N arcs n a]
      refine Int.not_le.1 (fun hw => ?_)
      have hx2 := xrN_lt n arcs.length a
      have h1 := hv.clo (hdN arcs n) ((xrN n : Nat) : Int) ht.2.2.1 ht.2.2.2 hw (((outZ_rel hg).2 _ ht.2.2.1 ht.2.2.2 _).2 ⟨xrN n, hx2, rfl, tl_xr arcs n⟩) hl
      rw [endP_N arcs _ hx2, hd_xr, c] at h1
      omega⟩ x x0 x1 hq
    omega
theorem great_zero (hg : Good N arcs) (hL : LOK false arcs l1) (hG : GrD arcs l1 (outZ N arcs) snk N G) : resF (fun v => rdOf false G v) arcs l1 = 0 := by
  refine resF_zero _ arcs l1 hL.len (fun n hn ht hh => ?_)
  have hi := tl_in hg n hn
  have h3 := hL.nonneg n
  rcases Int.lt_or_eq_of_le h3 with q | q
  · exfalso
    have hx2 := xrN_lt n arcs.length hn
    have := hG.clo (hdN arcs n) ((xrN n : Nat) : Int) hi.2.2.1 hi.2.2.2 hh (((outZ_rel hg).2 _ hi.2.2.1 hi.2.2.2 _).2 ⟨xrN n, hx2, rfl, tl_xr arcs n⟩) (by rw [xrP_N, xrN_xrN]; exact q)
    rw [endP_N arcs _ hx2, hd_xr] at this
    have ht' : rdOf false G (tlN arcs n) = true := ht
    rw [this] at ht'
    cases ht'
  · exact q.symm
theorem least_in (hg : Good N arcs) (hL : LOK false arcs l1) (hv : LvD arcs l1 (outZ N arcs) src N D) (T : Int → Bool) (hT : T src = true) (h0 : resF T arcs l1 = 0) : ∀ (d : Nat) (x : Int), 0 ≤ x → x < N → rd D x = d → T x = true := by
  intro d
  induction d with
  | zero => intro x x0 x1 hx; rw [hv.uni x x0 x1 hx]; exact hT
  | succ d ih =>
    intro x x0 x1 hx
    obtain ⟨y, e, y0, y1, hy, he, hl, hex⟩ := hv.pred x x0 x1 (by omega)
    have hy2 := ih y y0 y1 (by omega)
    obtain ⟨n, a, b, c⟩ := ((outZ_rel hg).2 y y0 y1 e).1 he
    subst b
    rw [endP_N arcs n a] at hex
    cases hq : T x with
    | true => rfl
    | false =>
      have := resF_pos T arcs l1 hL h0 n a (by rw [c]; exact hy2) (by rw [hex]; exact hq)
      have hl' : 0 < l1.getD n 0 := hl
      omega
theorem great_in (hg : Good N arcs) (hL : LOK false arcs l1) (hG : GrD arcs l1 (outZ N arcs) snk N G) (T : Int → Bool) (hT : T snk = false) (h0 : resF T arcs l1 = 0) (x : Int) (x0 : 0 ≤ x) (x1 : x < N) (hx : rdOf false G x = false) : T x = false := by
  refine hG.back (fun v => T v = false) ⟨hT, fun y e y0 y1 hy he hl => ?_⟩ x x0 x1 hx
  obtain ⟨n, a, b, c⟩ := ((outZ_rel hg).2 y y0 y1 e).1 he
  subst b
  rw [xrP_N] at hl
  have hx2 := xrN_lt n arcs.length a
  show T (endP arcs (n : Int)) = false
  rw [endP_N arcs n a]
  cases hq : T (hdN arcs n) with
  | false => rfl
  | true =>
    have := resF_pos T arcs l1 hL h0 (xrN n) hx2 (by rw [tl_xr]; exact hq) (by rw [hd_xr, c]; exact hy)
    have hl' : 0 < l1.getD (xrN n) 0 := hl
    omega
end
end Go.Proofs.Ytbamanjedfccpaa.HTab
end

section
set_option linter.unusedVariables false
set_option linter.unusedSimpArgs false
namespace Go.Proofs.Ytbamanjedfccpaa.HTab
open Go.RowKit Go.Proofs.YtbamanjedfccpaaW.PrintWords Go.Proofs.YtbamanjedfccpaaW.PrintLast Go.Proofs.YtbamanjedfccpaaW.PrintMore Go.Proofs.Ytbamanjedfccpaa.X
set_option linter.unusedVariables false
set_option linter.unusedSimpArgs false
theorem ind_eq (x v : Int) : ind (fun u => u == x) v = if v = x then 1 else 0 := by
  unfold ind
  by_cases h : v = x
  · rw [if_pos h, h]; simp
  · rw [if_neg h, if_neg (by simpa using h)]
theorem rep_zero (N : Nat) (x : Int) : rd (List.replicate N 0) x = 0 := by
  unfold rd
  rw [List.getD_eq_getElem?_getD, List.getElem?_replicate]
  split <;> rfl
theorem rows_in {N : Nat} {arcs : List S35} (hg : Good N arcs) : ∀ v e : Int, 0 ≤ v → v < N → e ∈ rowOf (outZ N arcs) v → 0 ≤ endP arcs e ∧ endP arcs e < N := by
  intro v e v0 v1 he
  obtain ⟨n, a, b, c⟩ := ((outZ_rel hg).2 v v0 v1 e).1 he
  subst b
  rw [endP_N arcs n a]
  exact (tl_in hg n a).2.2
structure NetD (N : Nat) (arcs : List S35) (s : Int) (l1 D : List Int) (G : List Bool) : Prop where
  value : wax_Value.f N arcs = some (s, 0)
  flow : wax_Flow.f N arcs = some (flowL l1 arcs.length, 0)
  least : wax_Least.f N arcs = some (leastL D, 0)
  great : wax_Greatest.f N arcs = some (G, 0)
  s0 : 0 ≤ s
  lok : LOK false arcs l1
  res : ∀ T, resF T arcs l1 = costF false T arcs - s * (ind T 0 - ind T ((N : Int) - 1))
  lv : LvD arcs l1 (outZ N arcs) 0 N D
  gr : GrD arcs l1 (outZ N arcs) ((N : Int) - 1) N G
  no : rd D ((N : Int) - 1) < 0
section
variable {N : Nat} {arcs : List S35} {s : Int} {l1 D : List Int} {G : List Bool}
theorem NetD.min (h : NetD N arcs s l1 D G) (T : Int → Bool) (hT : side T 0 ((N : Int) - 1)) : s ≤ costF false T arcs := by
  have h1 := h.res T
  have h2 := resF_nonneg T h.lok
  rw [ind_side hT] at h1
  omega
theorem NetD.zero (h : NetD N arcs s l1 D G) (T : Int → Bool) (hT : side T 0 ((N : Int) - 1)) : costF false T arcs = s ↔ resF T arcs l1 = 0 := by
  have h1 := h.res T
  rw [ind_side hT] at h1
  omega
theorem leastL_rd (D : List Int) (x : Int) (x0 : 0 ≤ x) (x1 : x < D.length) : rdOf false (leastL D) x = decide (0 ≤ rd D x) := by
  obtain ⟨n, rfl⟩ : ∃ n : Nat, x = n := ⟨x.toNat, by omega⟩
  have h : n < D.length := by omega
  simp [rdOf, rd, leastL, h]
theorem NetD.least_rd (h : NetD N arcs s l1 D G) (x : Int) (x0 : 0 ≤ x) (x1 : x < N) : rdOf false (leastL D) x = decide (0 ≤ rd D x) := leastL_rd D x x0 (by rw [h.lv.len]; exact x1)
theorem NetD.least_side (h : NetD N arcs s l1 D G) (hN : 2 ≤ N) : side (fun v => rdOf false (leastL D) v) 0 ((N : Int) - 1) := by
  constructor
  · show rdOf false (leastL D) 0 = true
    rw [h.least_rd 0 (by omega) (by omega), h.lv.s0]
    rfl
  · show rdOf false (leastL D) ((N : Int) - 1) = false
    rw [h.least_rd _ (by omega) (by omega)]
    exact decide_eq_false (by have := h.no; omega)
theorem NetD.least_cost (h : NetD N arcs s l1 D G) (hN : 2 ≤ N) (hg : Good N arcs) : costF false (fun v => rdOf false (leastL D) v) arcs = s := by
  rw [costF_congr (N := N) false _ (fun v => decide (0 ≤ rd D v)) (fun v v0 v1 => h.least_rd v v0 v1) arcs hg]
  refine (h.zero _ ⟨by simp [h.lv.s0], ?_⟩).2 (reach_zero hg h.lok h.lv)
  exact decide_eq_false (by have := h.no; omega)
theorem NetD.great_side (h : NetD N arcs s l1 D G) (hN : 2 ≤ N) (hg : Good N arcs) : side (fun v => rdOf false G v) 0 ((N : Int) - 1) :=
  ⟨great_src hg h.lv h.gr h.no 0 (by omega) (by omega) (by rw [h.lv.s0]; omega), h.gr.s0⟩
theorem NetD.great_cost (h : NetD N arcs s l1 D G) (hN : 2 ≤ N) (hg : Good N arcs) : costF false (fun v => rdOf false G v) arcs = s :=
  (h.zero _ (h.great_side hN hg)).2 (great_zero hg h.lok h.gr)
theorem NetD.between (h : NetD N arcs s l1 D G) (hN : 2 ≤ N) (hg : Good N arcs) (T : Int → Bool) (hT : side T 0 ((N : Int) - 1)) (hc : costF false T arcs = s) (x : Int) (x0 : 0 ≤ x) (x1 : x < N) : (rdOf false (leastL D) x = true → T x = true) ∧ (T x = true → rdOf false G x = true) := by
  have h0 := (h.zero T hT).1 hc
  refine ⟨fun hx => ?_, fun hx => ?_⟩
  · rw [h.least_rd x x0 x1] at hx
    have := of_decide_eq_true hx
    exact least_in hg h.lok h.lv T hT.1 h0 (rd D x).toNat x x0 x1 (by omega)
  · cases hq : rdOf false G x with
    | true => rfl
    | false =>
      have := great_in hg h.lok h.gr T hT.2 h0 x x0 x1 hq
      rw [this] at hx
      cases hx
end
end Go.Proofs.Ytbamanjedfccpaa.HTab
end

section
set_option linter.unusedVariables false
set_option linter.unusedSimpArgs false
namespace Go.Proofs.Ytbamanjedfccpaa.HTab
open Go.RowKit Go.Proofs.YtbamanjedfccpaaW.PrintWords Go.Proofs.YtbamanjedfccpaaW.PrintLast Go.Proofs.YtbamanjedfccpaaW.PrintMore Go.Proofs.Ytbamanjedfccpaa.X
set_option linter.unusedVariables false
set_option linter.unusedSimpArgs false
structure GSq (N : Nat) (g : List (List Int)) : Prop where
  len : g.length = N
  row : ∀ i : Int, 0 ≤ i → i < N → (rd_L4 g i).length = N
theorem gr_put {N : Nat} {g : List (List Int)} (h : GSq N g) {i j : Int} (x : Int) (i0 : 0 ≤ i) (i1 : i < N) (j0 : 0 ≤ j) (j1 : j < N) (a b : Int) (a0 : 0 ≤ a) (b0 : 0 ≤ b) : gr (putG g i j x) a b = if a = i ∧ b = j then x else gr g a b := by
  unfold gr putG
  rw [rdL_set g i a _ i0 (by rw [h.len]; exact i1) a0]
  by_cases ha : a = i
  · rw [if_pos ha, rd_set _ j b x j0 (by rw [h.row i i0 i1]; exact j1) b0]
    by_cases hb : b = j
    · rw [if_pos hb, if_pos ⟨ha, hb⟩]
    · rw [if_neg hb, if_neg (fun q => hb q.2), ha]
  · rw [if_neg ha, if_neg (fun q => ha q.1)]
theorem GSq.put {N : Nat} {g : List (List Int)} (h : GSq N g) {i : Int} (j x : Int) (i0 : 0 ≤ i) (i1 : i < N) : GSq N (putG g i j x) := by
  refine ⟨by unfold putG; rw [List.length_set]; exact h.len, fun a a0 a1 => ?_⟩
  unfold putG
  rw [rdL_set g i a _ i0 (by rw [h.len]; exact i1) a0]
  split
  · rw [List.length_set]; exact h.row i i0 i1
  · exact h.row a a0 a1
theorem sumF_upd {h h' : Int → Int} (a : Int) (a0 : 0 ≤ a) : ∀ n : Nat, (∀ v : Int, 0 ≤ v → v < n → v ≠ a → h' v = h v) → sumF h' n = sumF h n + (if a < n then h' a - h a else 0)
  | 0, _ => by rw [if_neg (by omega)]; rfl
  | n + 1, hh => by
    simp only [sumF]
    rw [sumF_upd a a0 n (fun v v0 v1 => hh v v0 (by omega))]
    by_cases q : a = (n : Int)
    · have c1 : ¬ a < (n : Int) := by omega
      have c2 : a < ((n + 1 : Nat) : Int) := by omega
      rw [if_neg c1, if_pos c2, q]
      omega
    · rw [hh n (by omega) (by omega) (fun e => q e.symm)]
      by_cases q2 : a < (n : Int)
      · have c2 : a < ((n + 1 : Nat) : Int) := by omega
        rw [if_pos q2, if_pos c2]
        omega
      · have c2 : ¬ a < ((n + 1 : Nat) : Int) := by omega
        rw [if_neg q2, if_neg c2]
        omega
theorem sumF_nonneg {h : Int → Int} : ∀ n : Nat, (∀ v : Int, 0 ≤ v → v < n → 0 ≤ h v) → 0 ≤ sumF h n
  | 0, _ => Int.le_refl _
  | n + 1, hh => by
    simp only [sumF]
    have := sumF_nonneg n (fun v v0 v1 => hh v v0 (by omega))
    have := hh n (by omega) (by omega)
    omega
theorem sumF_pos {h : Int → Int} : ∀ n : Nat, (∀ v : Int, 0 ≤ v → v < n → 0 ≤ h v) → sumF h n = 0 → ∀ v : Int, 0 ≤ v → v < n → h v = 0
  | 0, _, _, v, v0, v1 => by omega
  | n + 1, hh, hs, v, v0, v1 => by
    simp only [sumF] at hs
    have h1 := sumF_nonneg n (fun v v0 v1 => hh v v0 (by omega))
    have h2 := hh n (by omega) (by omega)
    by_cases q : v = n
    · rw [q]; omega
    · exact sumF_pos n (fun v v0 v1 => hh v v0 (by omega)) (by omega) v v0 (by omega)
def rowG (N : Nat) (T : Int → Bool) (g : List (List Int)) (i : Int) : Int := if T i then sumF (fun j => if T j then 0 else gr g i j) N else 0
def resG (N : Nat) (T : Int → Bool) (g : List (List Int)) : Int := sumF (rowG N T g) N
theorem resG_put {N : Nat} {g : List (List Int)} (h : GSq N g) (T : Int → Bool) {i j : Int} (x : Int) (i0 : 0 ≤ i) (i1 : i < N) (j0 : 0 ≤ j) (j1 : j < N) : resG N T (putG g i j x) = resG N T g + (if T i && !T j then x - gr g i j else 0) := by
  unfold resG
  rw [sumF_upd (h := rowG N T g) i i0 N (fun v v0 v1 hv => by
    unfold rowG
    rw [sumF_congr (h := fun w => if T w then 0 else gr g v w) N (fun w w0 w1 => by
      by_cases hT : T w = true
      · rw [if_pos hT, if_pos hT]
      · rw [if_neg hT, if_neg hT, gr_put h x i0 i1 j0 j1 v w v0 w0, if_neg (show ¬ (v = i ∧ w = j) from fun q => hv q.1)])]), if_pos i1]
  unfold rowG
  cases hT : T i with
  | false => simp
  | true =>
    simp only [if_true, Bool.true_and]
    rw [sumF_upd (h := fun w => if T w then 0 else gr g i w) (h' := fun w => if T w then 0 else gr (putG g i j x) i w) j j0 N (fun w w0 w1 hw => by
      rw [gr_put h x i0 i1 j0 j1 i w i0 w0, if_neg (show ¬ (i = i ∧ w = j) from fun q => hw q.2)]), if_pos j1]
    have e : gr (putG g i j x) i j = x := by rw [gr_put h x i0 i1 j0 j1 i j i0 j0, if_pos (show (i = i ∧ j = j) from ⟨rfl, rfl⟩)]
    rw [e]
    cases T j <;> simp <;> omega
structure GOK (N : Nat) (g : List (List Int)) : Prop extends GSq N g where
  nn : ∀ i j : Int, 0 ≤ i → i < N → 0 ≤ j → j < N → 0 ≤ gr g i j
  up : ∀ i j : Int, 0 ≤ i → i < N → 0 ≤ j → j < N → gr g i j + gr g j i ≤ 2000000000
theorem resG_nonneg {N : Nat} {g : List (List Int)} (h : GOK N g) (T : Int → Bool) : 0 ≤ resG N T g := sumF_nonneg N (fun i i0 i1 => by
  unfold rowG
  split
  · exact sumF_nonneg N (fun j j0 j1 => by
      split
      · exact Int.le_refl _
      · exact h.nn i j i0 i1 j0 j1)
  · exact Int.le_refl _)
theorem resG_pos {N : Nat} {g : List (List Int)} (h : GOK N g) (T : Int → Bool) (hz : resG N T g = 0) (i j : Int) (i0 : 0 ≤ i) (i1 : i < N) (j0 : 0 ≤ j) (j1 : j < N) (hi : T i = true) (hj : T j = false) : gr g i j = 0 := by
  have h1 := sumF_pos N (fun i i0 i1 => by
    unfold rowG
    split
    · exact sumF_nonneg N (fun j j0 j1 => by
        split
        · exact Int.le_refl _
        · exact h.nn i j i0 i1 j0 j1)
    · exact Int.le_refl _) hz i i0 i1
  unfold rowG at h1
  rw [if_pos hi] at h1
  have h2 := sumF_pos N (fun j j0 j1 => by
    split
    · exact Int.le_refl _
    · exact h.nn i j i0 i1 j0 j1) h1 j j0 j1
  rw [if_neg (by rw [hj]; decide)] at h2
  exact h2
theorem resG_zero {N : Nat} {g : List (List Int)} (T : Int → Bool) (hz : ∀ i j : Int, 0 ≤ i → i < N → 0 ≤ j → j < N → T i = true → T j = false → gr g i j = 0) : resG N T g = 0 := by
  unfold resG
  rw [sumF_congr (h := fun _ => 0) N (fun i i0 i1 => by
    unfold rowG
    split
    · rename_i hi
      rw [sumF_congr (h := fun _ => 0) N (fun j j0 j1 => by
        cases hj : T j with
        | true => rfl
        | false => rw [if_neg (by decide)]; exact hz i j i0 i1 j0 j1 hi hj), sumF_zero]
    · rfl), sumF_zero]
def sendG (g : List (List Int)) (i j f : Int) : List (List Int) := putG (putG g i j (gr g i j - f)) j i (gr (putG g i j (gr g i j - f)) j i + f)
theorem gr_send {N : Nat} {g : List (List Int)} (h : GSq N g) {i j : Int} (f : Int) (i0 : 0 ≤ i) (i1 : i < N) (j0 : 0 ≤ j) (j1 : j < N) (hij : i ≠ j) (a b : Int) (a0 : 0 ≤ a) (b0 : 0 ≤ b) : gr (sendG g i j f) a b = if a = i ∧ b = j then gr g i j - f else if a = j ∧ b = i then gr g j i + f else gr g a b := by
  unfold sendG
  rw [gr_put (h.put j _ i0 i1) _ j0 j1 i0 i1 a b a0 b0, gr_put h _ i0 i1 j0 j1 j i j0 i0, gr_put h _ i0 i1 j0 j1 a b a0 b0, if_neg (show ¬ (j = i ∧ i = j) from fun q => hij q.2)]
  by_cases q1 : a = i ∧ b = j
  · rw [if_pos q1, if_pos q1, if_neg (fun q => hij (q1.1.symm.trans q.1))]
  · rw [if_neg q1, if_neg q1]
theorem send_ok {N : Nat} {g : List (List Int)} (h : GOK N g) {i j f : Int} (i0 : 0 ≤ i) (i1 : i < N) (j0 : 0 ≤ j) (j1 : j < N) (hij : i ≠ j) (f0 : 0 ≤ f) (f1 : f ≤ gr g i j) : GOK N (sendG g i j f) ∧ ∀ T, resG N T (sendG g i j f) = resG N T g - f * (ind T i - ind T j) := by
  have hs : GSq N (sendG g i j f) := (h.toGSq.put j _ i0 i1).put i _ j0 j1
  refine ⟨⟨hs, fun a b a0 a1 b0 b1 => ?_, fun a b a0 a1 b0 b1 => ?_⟩, fun T => ?_⟩
  · have := h.nn a b a0 a1 b0 b1
    have := h.nn j i j0 j1 i0 i1
    rw [gr_send h.toGSq f i0 i1 j0 j1 hij a b a0 b0]
    split
    · omega
    · split <;> omega
  · have h1 := h.up a b a0 a1 b0 b1
    have h2 := h.up i j i0 i1 j0 j1
    rw [gr_send h.toGSq f i0 i1 j0 j1 hij a b a0 b0, gr_send h.toGSq f i0 i1 j0 j1 hij b a b0 a0]
    by_cases q1 : a = i ∧ b = j
    · rw [if_pos q1, if_neg (fun q => hij (q1.1.symm.trans q.2)), if_pos ⟨q1.2, q1.1⟩]; omega
    · rw [if_neg q1]
      by_cases q2 : a = j ∧ b = i
      · rw [if_pos q2, if_pos ⟨q2.2, q2.1⟩]; omega
      · rw [if_neg q2, if_neg (fun q => q2 ⟨q.2, q.1⟩), if_neg (fun q => q1 ⟨q.2, q.1⟩)]
        exact h1
  · unfold sendG
    rw [resG_put (h.toGSq.put j _ i0 i1) T _ j0 j1 i0 i1, resG_put h.toGSq T _ i0 i1 j0 j1]
    unfold ind
    cases T i <;> cases T j <;> simp <;> omega
structure WayD (N : Nat) (g : List (List Int)) (s : Int) (fr : List Int) : Prop where
  len : fr.length = N
  lo : ∀ x : Int, 0 ≤ x → x < N → -1 ≤ rd fr x ∧ rd fr x < N
  s0 : rd fr s = s
  clo : ∀ u v : Int, 0 ≤ u → u < N → 0 ≤ v → v < N → 0 ≤ rd fr u → 0 < gr g u v → 0 ≤ rd fr v
  rank : ∃ p : Int → Nat, (∀ x : Int, 0 ≤ x → x < N → 0 ≤ rd fr x → p x < N) ∧ ∀ x : Int, 0 ≤ x → x < N → x ≠ s → 0 ≤ rd fr x → 0 ≤ rd fr (rd fr x) ∧ p (rd fr x) < p x ∧ 0 < gr g (rd fr x) x
structure WI (N : Nat) (g : List (List Int)) (s : Int) (fr q : List Int) (k : Nat) (j : Int) : Prop where
  len : fr.length = N
  cnt : q.length + negC fr = N
  inq : ∀ i : Nat, i < q.length → 0 ≤ rd q i ∧ rd q i < N ∧ 0 ≤ rd fr (rd q i)
  all : ∀ x : Int, 0 ≤ x → x < N → 0 ≤ rd fr x → ∃ i : Nat, i < q.length ∧ rd q i = x
  s0 : rd fr s = s
  lo : ∀ x : Int, 0 ≤ x → x < N → -1 ≤ rd fr x ∧ rd fr x < N
  prev : ∀ i : Nat, i < q.length → rd q i ≠ s → ∃ i' : Nat, i' < i ∧ rd q i' = rd fr (rd q i) ∧ 0 < gr g (rd fr (rd q i)) (rd q i)
  done : ∀ i : Nat, i < k → ∀ v : Int, 0 ≤ v → v < N → 0 < gr g (rd q i) v → 0 ≤ rd fr v
  part : ∀ v : Int, 0 ≤ v → v < j → 0 < gr g (rd q k) v → 0 ≤ rd fr v
theorem rd_app (q : List Int) (x : Int) (i : Nat) (h : i < q.length) : rd (q ++ [x]) i = rd q i := by
  simp [rd, List.getD_eq_getElem?_getD, List.getElem?_append_left h]
theorem rd_last (q : List Int) (x : Int) : rd (q ++ [x]) (q.length : Nat) = x := by
  simp [rd, List.getD_eq_getElem?_getD]
theorem WI.add {N : Nat} {g : List (List Int)} {s : Int} {fr q : List Int} {k : Nat} {j : Int} (h : WI N g s fr q k j) (hk : k < q.length) (j0 : 0 ≤ j) (j1 : j < N) (hs : 0 ≤ s ∧ s < N) (hn : rd fr j < 0) (hp : 0 < gr g (rd q k) j) : WI N g s (fr.set j.toNat (rd q k)) (q ++ [j]) k (j + 1) := by
  have hqk := h.inq k hk
  have hr : ∀ x : Int, 0 ≤ x → rd (fr.set j.toNat (rd q k)) x = if x = j then rd q k else rd fr x := fun x x0 => rd_set fr j x _ j0 (by rw [h.len]; exact j1) x0
  have hup : ∀ x : Int, 0 ≤ x → 0 ≤ rd fr x → 0 ≤ rd (fr.set j.toNat (rd q k)) x := fun x x0 hx => by
    rw [hr x x0]; split
    · exact hqk.1
    · exact hx
  have hjs : j ≠ s := fun e => by rw [e, h.s0] at hn; omega
  have hqj : ∀ i : Nat, i < q.length → rd q i ≠ j := fun i hi e => by have := (h.inq i hi).2.2; rw [e] at this; omega
  refine ⟨by rw [List.length_set]; exact h.len, ?_, fun i hi => ?_, fun x x0 x1 hx => ?_, ?_, fun x x0 x1 => ?_, fun i hi hne => ?_, fun i hi v v0 v1 hv => ?_, fun v v0 v1 hv => ?_⟩
  · have := negC_set (rd q k) hqk.1 fr j.toNat (by rw [h.len]; omega) hn
    have := h.cnt
    rw [List.length_append, List.length_singleton]
    omega
  · rw [List.length_append, List.length_singleton] at hi
    by_cases e : i < q.length
    · rw [rd_app q j i e]
      have := h.inq i e
      exact ⟨this.1, this.2.1, hup _ this.1 this.2.2⟩
    · obtain rfl : i = q.length := by omega
      rw [rd_last]
      exact ⟨j0, j1, by rw [hr j j0, if_pos rfl]; exact hqk.1⟩
  · by_cases e : x = j
    · exact ⟨q.length, by simp, by rw [rd_last, e]⟩
    · rw [hr x x0, if_neg e] at hx
      obtain ⟨i, hi, hq⟩ := h.all x x0 x1 hx
      exact ⟨i, by rw [List.length_append]; omega, by rw [rd_app q j i hi]; exact hq⟩
  · rw [hr s hs.1, if_neg (fun e => hjs e.symm)]; exact h.s0
  · rw [hr x x0]; split
    · exact ⟨by omega, hqk.2.1⟩
    · exact h.lo x x0 x1
  · rw [List.length_append, List.length_singleton] at hi
    by_cases e : i < q.length
    · rw [rd_app q j i e] at hne ⊢
      obtain ⟨i', a, b, c⟩ := h.prev i e hne
      rw [hr _ (h.inq i e).1, if_neg (hqj i e)]
      exact ⟨i', a, by rw [rd_app q j i' (by omega)]; exact b, c⟩
    · obtain rfl : i = q.length := by omega
      rw [rd_last, hr j j0, if_pos rfl]
      exact ⟨k, hk, by rw [rd_app q j k hk], hp⟩
  · by_cases e : i < q.length
    · rw [rd_app q j i e] at hv
      exact hup v v0 (h.done i hi v v0 v1 hv)
    · omega
  · rw [rd_app q j k hk] at hv
    by_cases e : v = j
    · rw [hr v v0, if_pos e]; exact hqk.1
    · exact hup v v0 (h.part v v0 (by omega) hv)
theorem WI.skip {N : Nat} {g : List (List Int)} {s : Int} {fr q : List Int} {k : Nat} {j : Int} (h : WI N g s fr q k j) (hn : 0 < gr g (rd q k) j → 0 ≤ rd fr j) : WI N g s fr q k (j + 1) :=
  ⟨h.len, h.cnt, h.inq, h.all, h.s0, h.lo, h.prev, h.done, fun v v0 v1 hv => by
    by_cases e : v = j
    · rw [e] at hv ⊢; exact hn hv
    · exact h.part v v0 (by omega) hv⟩
theorem WI.next {N : Nat} {g : List (List Int)} {s : Int} {fr q : List Int} {k : Nat} (h : WI N g s fr q k N) : WI N g s fr q (k + 1) 0 :=
  ⟨h.len, h.cnt, h.inq, h.all, h.s0, h.lo, h.prev, fun i hi v v0 v1 hv => by
    by_cases e : i = k
    · rw [e] at hv; exact h.part v v0 v1 hv
    · exact h.done i (by omega) v v0 v1 hv, fun v v0 v1 hv => by omega⟩
theorem idx_le : ∀ (q : List Int) (i : Nat) (h : i < q.length), q.idxOf q[i] ≤ i
  | a :: l, 0, h => by simp
  | a :: l, i + 1, h => by
    have ih := idx_le l i (by simpa using h)
    rw [List.getElem_cons_succ, List.idxOf_cons]
    cases (a == l[i]'(by simpa using h)) <;> simp <;> omega
theorem WI.fin {N : Nat} {g : List (List Int)} {s : Int} {fr q : List Int} {j : Int} (h : WI N g s fr q q.length j) : WayD N g s fr := by
  refine ⟨h.len, h.lo, h.s0, fun u v u0 u1 v0 v1 hu hp => ?_, fun x => q.idxOf x, fun x x0 x1 hx => ?_, fun x x0 x1 hxs hx => ?_⟩
  · obtain ⟨i, hi, e⟩ := h.all u u0 u1 hu
    exact h.done i hi v v0 v1 (by rw [e]; exact hp)
  · obtain ⟨i, hi, e⟩ := h.all x x0 x1 hx
    have hm : x ∈ q := by rw [← e]; exact rd_mem q i (by omega) (by omega)
    have := List.idxOf_lt_length_iff.2 hm
    have := h.cnt
    dsimp only
    omega
  · obtain ⟨i, hi, e⟩ := h.all x x0 x1 hx
    have hm : x ∈ q := by rw [← e]; exact rd_mem q i (by omega) (by omega)
    have hl := List.idxOf_lt_length_iff.2 hm
    have hg : rd q (q.idxOf x : Nat) = x := by
      unfold rd
      rw [Int.toNat_natCast, List.getD_eq_getElem?_getD, List.getElem?_eq_getElem hl]
      exact List.getElem_idxOf hl
    obtain ⟨i', a, b, c⟩ := h.prev (q.idxOf x) hl (by rw [hg]; exact hxs)
    rw [hg] at b c
    have hi' : i' < q.length := by omega
    have := h.inq i' hi'
    rw [b] at this
    refine ⟨this.2.2, ?_, c⟩
    have hle : q.idxOf (rd fr x) ≤ i' := by
      rw [← b]
      unfold rd
      rw [Int.toNat_natCast, List.getD_eq_getElem?_getD, List.getElem?_eq_getElem hi']
      exact idx_le q i' hi'
    dsimp only
    omega
end Go.Proofs.Ytbamanjedfccpaa.HTab
end

section
set_option linter.unusedVariables false
set_option linter.unusedSimpArgs false
namespace Go.Proofs.Ytbamanjedfccpaa.HTab
open Go.RowKit Go.Proofs.YtbamanjedfccpaaW.PrintWords Go.Proofs.YtbamanjedfccpaaW.PrintLast Go.Proofs.YtbamanjedfccpaaW.PrintMore Go.Proofs.Ytbamanjedfccpaa.X
set_option linter.unusedVariables false
set_option linter.unusedSimpArgs false
section
variable {N : Nat} {g : List (List Int)} {s : Int} (hN : N ≤ 1000) (hg : GSq N g) (hs : 0 ≤ s ∧ s < N)
include hN hg hs
theorem way_l2 (k C : Nat) (hk : k < N) (u : Int) (R : List Int → Prop) (ih : ∀ (fr q : List Int) (fu : Nat), k < q.length → WI N g s fr q (k + 1) 0 → C ≤ fu → ∃ r, cantingref07_way.l1 fu g fr q ((k + 1 : Nat) : Int) = some r ∧ R r) : ∀ (d j fu : Nat) (fr q : List Int), j + d = N → k < q.length → rd q k = u → WI N g s fr q k j → d + C + 1 ≤ fu →
    ∃ r, cantingref07_way.l2 fu g fr q k (rd_L4 g u) N j = some r ∧ R r
  | d, j, 0, fr, q, hd, hq, hu, h, hf => by omega
  | 0, j, fu + 1, fr, q, hd, hq, hu, h, hf => by
    obtain rfl : j = N := by omega
    simp only [cantingref07_way.l2]
    rw [if_neg (by omega), show wrap64 ((k : Int) + 1) = ((k + 1 : Nat) : Int) from wrap_add1 (by omega) (by omega)]
    exact ih fr q fu hq h.next (by omega)
  | d + 1, j, fu + 1, fr, q, hd, hq, hu, h, hf => by
    have hr := hg.row u (by rw [← hu]; exact (h.inq k hq).1) (by rw [← hu]; exact (h.inq k hq).2.1)
    have hql : q.length ≤ N := by have := h.cnt; omega
    simp only [cantingref07_way.l2]
    rw [if_pos (by omega), if_pos (by omega), if_pos (by rw [hr]; omega), show wrap64 ((j : Int) + 1) = ((j + 1 : Nat) : Int) from wrap_add1 (by omega) (by omega)]
    by_cases c1 : rd (rd_L4 g u) (j : Int) > 0
    · rw [if_pos c1, if_pos (by rw [h.len]; omega)]
      by_cases c2 : rd fr (j : Int) < 0
      · rw [if_pos c2, if_pos (by omega), if_pos (by omega), if_pos (by omega)]
        have h' := h.add hq (by omega) (by omega) hs c2 (by rw [hu]; exact c1)
        exact way_l2 k C hk u R ih d (j + 1) fu _ _ (by omega) (by rw [List.length_append]; omega) (by rw [rd_app q _ k hq]; exact hu) h' (by omega)
      · rw [if_neg c2]
        exact way_l2 k C hk u R ih d (j + 1) fu _ _ (by omega) hq hu (h.skip (fun _ => by omega)) (by omega)
    · rw [if_neg c1]
      exact way_l2 k C hk u R ih d (j + 1) fu _ _ (by omega) hq hu (h.skip (fun hp => absurd (by rw [hu] at hp; exact hp) c1)) (by omega)
theorem way_l1 : ∀ (m k fu : Nat) (fr q : List Int), k + m = N → k ≤ q.length → WI N g s fr q k 0 → m * (N + 2) + 1 ≤ fu → ∃ r, cantingref07_way.l1 fu g fr q k = some r ∧ WayD N g s r
  | m, k, 0, fr, q, hm, hq, h, hf => by omega
  | m, k, fu + 1, fr, q, hm, hq, h, hf => by
    have hql : q.length ≤ N := by have := h.cnt; omega
    simp only [cantingref07_way.l1]
    by_cases c : k < q.length
    · obtain ⟨m, rfl⟩ : ∃ m', m = m' + 1 := ⟨m - 1, by omega⟩
      have hi := h.inq k c
      have hr := hg.row (rd q (k : Int)) hi.1 hi.2.1
      rw [if_pos (by omega), if_pos (by omega), if_pos hi.1, if_pos (by rw [hg.len]; exact hi.2.1), hr]
      have e : (m + 1) * (N + 2) = m * (N + 2) + (N + 2) := Nat.succ_mul _ _
      exact way_l2 hN hg hs k (m * (N + 2) + 1) (by omega) (rd q (k : Int)) (WayD N g s) (fun fr' q' fu' hq' h' hf' => way_l1 m (k + 1) fu' fr' q' (by omega) hq' h' hf') N 0 fu fr q (by omega) c rfl h (by omega)
    · rw [if_neg (by omega)]
      obtain rfl : k = q.length := by omega
      exact ⟨fr, rfl, h.fin⟩
theorem way_l0 : ∀ (d i fu : Nat) (fr : List Int), i + d = N → fr.length = N → (∀ x : Int, 0 ≤ x → x < i → rd fr x = -1) → d + N * (N + 2) + 2 ≤ fu → ∃ r, cantingref07_way.l0 fu g s fr N i = some r ∧ WayD N g s r
  | d, i, 0, fr, hd, hl, h, hf => by omega
  | 0, i, fu + 1, fr, hd, hl, h, hf => by
    obtain rfl : i = N := by omega
    simp only [cantingref07_way.l0]
    rw [if_neg (by omega), if_pos hs.1, if_pos (by omega)]
    have hr : ∀ x : Int, 0 ≤ x → x < i → rd (fr.set s.toNat s) x = if x = s then s else -1 := fun x x0 x1 => by
      rw [rd_set fr s x s hs.1 (by omega) x0, h x x0 x1]
    have e1 : ([s] : List Int).length = 1 := rfl
    have e0 : ∀ i : Nat, i < ([s] : List Int).length → rd [s] (i : Int) = s := fun i hi => by
      obtain rfl : i = 0 := by simp at hi; omega
      rfl
    have hneg : ∀ d : List Int, (∀ x : Int, 0 ≤ x → x < d.length → rd d x = -1) → negC d = d.length := fun d => by
      induction d with
      | nil => intro _; rfl
      | cons y d ihd =>
        intro hd
        have h0 : y = -1 := hd 0 (by omega) (by simp)
        have := ihd (fun x x0 x1 => by
          have := hd (x + 1) (by omega) (by simp; omega)
          unfold rd at this ⊢
          rw [show (x + 1).toNat = x.toNat + 1 by omega] at this
          exact this)
        simp only [negC, List.length_cons]
        rw [this, if_pos (by omega)]
        omega
    refine way_l1 hN hg hs i 0 fu _ [s] (by omega) (by omega) ⟨by rw [List.length_set]; exact hl, ?_, fun j hj => ?_, fun x x0 x1 hx => ?_, ?_, fun x x0 x1 => ?_, fun j hj hne => ?_, fun j hj => by omega, fun v v0 v1 => by omega⟩ (by omega)
    · have h1 := negC_set s hs.1 fr s.toNat (by omega) (by have := h s hs.1 hs.2; unfold rd at this; rw [this]; omega)
      have h2 := hneg fr (fun x x0 x1 => h x x0 (by omega))
      rw [e1]
      omega
    · rw [e0 j hj]
      exact ⟨hs.1, hs.2, by rw [hr s hs.1 hs.2, if_pos rfl]; exact hs.1⟩
    · rw [hr x x0 x1] at hx
      split at hx
      · rename_i e; exact ⟨0, by simp, by rw [e]; rfl⟩
      · omega
    · rw [hr s hs.1 hs.2, if_pos rfl]
    · rw [hr x x0 x1]
      split <;> omega
    · exact absurd (e0 j hj) hne
  | d + 1, i, fu + 1, fr, hd, hl, h, hf => by
    simp only [cantingref07_way.l0]
    rw [if_pos (by omega), if_pos (by omega), if_pos (by omega), show wrap64 ((i : Int) + 1) = ((i + 1 : Nat) : Int) from wrap_add1 (by omega) (by omega)]
    exact way_l0 d (i + 1) fu _ (by omega) (by rw [List.length_set]; exact hl) (fun x x0 x1 => by
      rw [rd_set fr (i : Int) x (-1) (by omega) (by omega) x0]
      split
      · rfl
      · exact h x x0 (by omega)) (by omega)
theorem way_f (fu : Nat) (hf : N * (N + 2) + N + 2 ≤ fu) : ∃ r, cantingref07_way.f fu g s = some r ∧ WayD N g s r := by
  unfold cantingref07_way.f
  rw [hg.len, if_pos (by omega), if_pos (by omega), Option.bind_some, Int.toNat_natCast, List.length_replicate]
  exact way_l0 hN hg hs N 0 fu _ (by omega) (by simp) (fun x x0 x1 => by omega) (by omega)
end
end Go.Proofs.Ytbamanjedfccpaa.HTab
end

section
set_option linter.unusedVariables false
set_option linter.unusedSimpArgs false
namespace Go.Proofs.Ytbamanjedfccpaa.HTab
open Go.RowKit Go.Proofs.YtbamanjedfccpaaW.PrintWords Go.Proofs.YtbamanjedfccpaaW.PrintLast Go.Proofs.YtbamanjedfccpaaW.PrintMore Go.Proofs.Ytbamanjedfccpaa.X
set_option linter.unusedVariables false
set_option linter.unusedSimpArgs false
def fuelK : Nat := 10000
def rgrt (N : Nat) (arcs : List S34) : Option (Int × List (List Int)) := grtP fuelK N 0 ((N : Int) - 1) fuelW (capG N arcs) 0
end Go.Proofs.Ytbamanjedfccpaa.HTab
namespace Go.Proofs.Ytbamanjedfccpaa.X
open Go.RowKit Go.Proofs.YtbamanjedfccpaaW.PrintWords Go.Proofs.YtbamanjedfccpaaW.PrintLast Go.Proofs.YtbamanjedfccpaaW.PrintMore Go.Proofs.Ytbamanjedfccpaa.HTab
end Go.Proofs.Ytbamanjedfccpaa.X
end

section
set_option linter.unusedVariables false
set_option linter.unusedSimpArgs false
namespace Go.Proofs.Ytbamanjedfccpaa.HTab
open Go.RowKit Go.Proofs.YtbamanjedfccpaaW.PrintWords Go.Proofs.YtbamanjedfccpaaW.PrintLast Go.Proofs.YtbamanjedfccpaaW.PrintMore Go.Proofs.Ytbamanjedfccpaa.X
set_option linter.unusedVariables false
set_option linter.unusedSimpArgs false
def backG (N : Nat) (G : List (List Int)) : List (List Int) := (List.range N).map fun (i : Nat) => (List.range N).map fun (j : Nat) => gr G (j : Int) (i : Int)
def fromL (fr : List Int) (N : Nat) : List Bool := (List.range N).map fun (i : Nat) => decide (0 ≤ rd fr (i : Int))
def toL (fr : List Int) (N : Nat) : List Bool := (List.range N).map fun (i : Nat) => decide (rd fr (i : Int) < 0)
theorem fromL_succ (fr : List Int) (m : Nat) : fromL fr (m + 1) = fromL fr m ++ [decide (0 ≤ rd fr (m : Int))] := by unfold fromL; rw [List.range_succ, List.map_append]; rfl
theorem toL_succ (fr : List Int) (m : Nat) : toL fr (m + 1) = toL fr m ++ [decide (rd fr (m : Int) < 0)] := by unfold toL; rw [List.range_succ, List.map_append]; rfl
theorem gr_set (G : List (List Int)) (i j x : Int) (i0 : 0 ≤ i) (i1 : i < G.length) (j0 : 0 ≤ j) (j1 : j < (rd_L4 G i).length) (a b : Int) (a0 : 0 ≤ a) (b0 : 0 ≤ b) : gr (putG G i j x) a b = if a = i ∧ b = j then x else gr G a b := by
  unfold gr putG
  rw [rdL_set G i a _ i0 i1 a0]
  by_cases ha : a = i
  · rw [if_pos ha]
    unfold rd
    rw [List.getD_eq_getElem?_getD, List.getElem?_set]
    by_cases hb : b = j
    · rw [if_pos (by omega), if_pos (by omega), if_pos ⟨ha, hb⟩]; rfl
    · rw [if_neg (by omega), if_neg (fun q => hb q.2), ha, List.getD_eq_getElem?_getD]
  · rw [if_neg ha, if_neg (fun q => ha q.1)]
theorem backG_eq {N : Nat} {G B : List (List Int)} (hl : B.length = N) (hr : ∀ i : Nat, i < N → (rd_L4 B (i : Nat)).length = N) (h : ∀ a x : Nat, a < N → x < N → gr B a x = gr G x a) : B = backG N G := by
  refine List.ext_getElem (by unfold backG; rw [hl, List.length_map, List.length_range]) (fun i h1 h2 => ?_)
  have e : rd_L4 B (i : Nat) = B[i] := by
    unfold rd_L4
    rw [Int.toNat_natCast, List.getD_eq_getElem?_getD, List.getElem?_eq_getElem h1]
    rfl
  have hi : i < N := by omega
  have hl2 := hr i hi
  rw [e] at hl2
  have e2 : (backG N G)[i] = (List.range N).map fun (j : Nat) => gr G (j : Int) (i : Int) := by
    simp [backG]
  rw [e2]
  refine List.ext_getElem (by rw [hl2, List.length_map, List.length_range]) (fun j h3 h4 => ?_)
  rw [List.getElem_map, List.getElem_range]
  have := h i j hi (by omega)
  unfold gr at this
  rw [e] at this
  unfold rd at this
  rw [Int.toNat_natCast, List.getD_eq_getElem?_getD, List.getElem?_eq_getElem h3] at this
  exact this
def tb_ends_10.T : Bool × List (List Nat × List Nat) := (true, [([], []), ([], []), ([0, 1], [0, 1]), ([2], [2]), ([], []), ([], []), ([], []), ([5, 6], [5, 6]), ([7], [7]), ([], []), ([8, 9], [8, 9]), ([10], [10]), ([3, 4, 0, 1, 2, 3, 4, 5, 6, 7, 8, 9, 10, 11], [3, 4]), ([12, 11, 0, 1, 2, 3, 4, 5, 6, 7, 8, 9, 10, 11], [11, 12])])
def tb_ends_10.B : List Nat := [0, 0, 3, 7, 0, 0, 0, 96, 224, 0, 992, 2016, 4095, 8191]
theorem tb_ends_10.tab : rtab .any (opsOf Try.f63 10) = tb_ends_10.T := by kernel_rfl
theorem tb_ends_10.bits : waitsOk tb_ends_10.T.2 tb_ends_10.B = true := by kernel_rfl
set_option maxRecDepth 100000 in
set_option maxHeartbeats 8000000 in
theorem ends_calls {b A c N : Nat} {p q : Nat → Nat} (w : World) (G : List (List Int)) (s t : Int) (h2 : 1 ≤ N) (hN : N ≤ 1000) (h : GM w b w.heap.size A c N p q N G) (hs : 0 ≤ s ∧ s < N) (ht : 0 ≤ t ∧ t < N) (K k : Nat) (v : Int) (G1 : List (List Int)) (hP : grtP K N s t k G 0 = some (v, G1)) (fr bk : List Int) (hfr : cantingref07_way.f K G1 s = some fr) (hfl : fr.length = N) (hto : cantingref07_way.f K (backG N G1) t = some bk) (htl : bk.length = N) :
    Calls Try.prog 63 #[.slice (some ⟨A, 0, none⟩) N c, .int .i64 s, .int .i64 t] w fun e w' => ∃ v1 v2 : Value, e = .returned (.tuple #[v1, v2]) ∧ KB.R 4 w' w.heap.size (fun _ => True) v1 (fromL fr N) ∧ KB.R 4 w' w.heap.size (fun _ => True) v2 (toL bk N) ∧ Below b w w' ∧ ∀ k, v1.ownBlock = some k → v2.ownBlock ≠ some k := by
  have H := Aside0.mk h
  have HP := Aside0.mk hP
  have hfr := Aside0.mk hfr
  have hto := Aside0.mk hto
  have hfl := Aside0.mk hfl
  have htl := Aside0.mk htl
  have hbs : b ≤ w.heap.size := by have := h.bA; omega
  have hcN := h.hc
  clear h hP
  go_enter Try.func63, Try.ntmps63
  go_wp2_with fail
  refine (rgreatest_calls w G s t hN H.out hs ht K k (v, G1) HP.out).mono ?_
  rintro e w2 ⟨rfl, hG2, hb2⟩
  have HG2 := Aside0.mk hG2
  have HB2 := Aside0.mk hb2
  have HS2 : Aside0 (w.heap.size ≤ w2.heap.size) := ⟨hb2.size⟩
  clear hG2 hb2 H HP
  go_wp2_with ((with_reducible refine gate_dst (N := 22) rfl ?_); refine mark_ ?_)
  refine ⟨?_⟩
  refine Kd.R_make nilK (w0 := w2) w2.heap.size 40 rfl (N := 22) rfl 90 _ _ rfl (N : Int) rfl rfl Try.underlying90 (.slice none 0 0) 24 info40 rfl (by decide) (by omega) () (ok := fun _ => True) (okp := fun _ => False) rfl (fun _ h => h.elim) trivial (by omega) (by rw [Int.toNat_natCast]; omega) (Below.refl _ _) (Nat.le_refl _) ?_
  intro vo w4 hR4 hB4 hg4 hne4
  rw [Int.toNat_natCast] at hR4
  obtain ⟨B, cB, rfl, hbo, hbl, _⟩ := Kd.R_form hR4 (by rw [List.length_replicate]; omega)
  rw [List.length_replicate] at hR4 ⊢
  have HBk := Aside0.mk (GM.made (fun _ => 0) (fun _ => 0) hR4)
  have HG4 := Aside0.mk (HG2.out.below hB4)
  have HB4 := Aside0.mk (below_then HB2.out (Nat.le_trans hbs HS2.out) hB4)
  clear hR4 hB4 hg4 hne4 hbl HB2 HG2
  go_wp2
  go_loopg [25] (N) (fun kq v25 w' => ∃ (i : Nat) (pB qB : Nat → Nat) (Gb : List (List Int)), i + kq = N ∧ v25 = .int .i64 i ∧ Aside0 (GM w' w2.heap.size w'.heap.size B cB N pB qB i Gb) ∧ Aside0 (∀ a x : Nat, a < i → x < N → gr Gb a x = gr G1 x a) ∧ Aside0 (GM w' b w.heap.size A c N p q N G1) ∧ Aside0 (Below b w w'))
  case atStart => exact ⟨0, fun _ => 0, fun _ => 0, List.replicate N [], by omega, rfl, HBk, ⟨fun a x ha => by omega⟩, HG4, HB4⟩
  case round =>
    clear HBk HG4 HB4
    obtain ⟨i, pB, qB, Gb, hi, rfl, HK, HR, HG, HB⟩ := hrel
    by_cases hlt : i < N
    · have hdec : decide (i < N) = true := decide_eq_true hlt
      have b0 : ((i : Int) < 0) = False := eq_false (by omega)
      have b1 : ((i : Int) < (N : Int)) = True := eq_true (by omega)
      go_wp2_with ((with_reducible refine gate_dst (N := 32) rfl ?_); refine mark_ ?_)
      refine ⟨?_⟩
      refine Kd.R_make KI (w0 := wr) wr.heap.size 3 rfl (N := 32) rfl 40 _ _ rfl (N : Int) rfl rfl Try.underlying40 (.int .i64 0) 8 info3 rfl (by decide) (by omega) 0 (ok := fun _ => True) (okp := fun _ => True) rfl (fun _ hk => hk) trivial (by omega) (by rw [Int.toNat_natCast]; omega) (Below.refl _ _) (Nat.le_refl _) ?_
      intro vr w5 hR5 hB5 hg5 hne5
      rw [Int.toNat_natCast] at hR5
      obtain ⟨ρ, cr, rfl, hρ, hρl, _⟩ := Kd.R_form hR5 (by rw [List.length_replicate]; omega)
      rw [List.length_replicate] at hR5 ⊢
      have hsz : b ≤ wr.heap.size := by have := HB.out.size; omega
      have hbA := HK.out.bA
      have hR6 : KI.R 3 w5 w2.heap.size (fun x => x = ρ) (.slice (some ⟨ρ, 0, none⟩) N cr) (List.replicate N 0) := Kd.R_mono (Kd.R_lower (Kd.R_tight rfl hR5) (by omega)) (fun k hk => by injection hk)
      have hG5 := (HK.out.below hB5).up hB5.size
      have fz := hG5.fz i
      have kz := hG5.cell0 i (Nat.le_refl _) hlt
      have HK6 : Aside0 (GM (w5.setCell ⟨B, i, none⟩ (.slice (some ⟨ρ, 0, none⟩) N cr)) w2.heap.size w5.heap.size B cB N (fun j => if j = i then ρ else pB j) (fun j => if j = i then cr else qB j) (i + 1) (Gb.set i (List.replicate N 0))) :=
        ⟨hG5.lay hlt hR6 ⟨by omega, hρl, by omega⟩ (fun j hj e => by have := (HK.out.pM j hj).2.1; omega)⟩
      have HR6 : Aside0 (∀ a x : Nat, a < i → x < N → gr (Gb.set i (List.replicate N 0)) a x = gr G1 x a) := ⟨fun a x ha hx => by
        rw [← HR.out a x ha hx]
        unfold gr
        have e := rdL_set Gb (i : Int) (a : Int) (List.replicate N 0) (by omega) (by rw [HK.out.len]; omega) (by omega)
        rw [Int.toNat_natCast] at e
        rw [e, if_neg (by omega)]⟩
      have HB6 : Aside0 (Below b w (w5.setCell ⟨B, i, none⟩ (.slice (some ⟨ρ, 0, none⟩) N cr))) := ⟨(below_then HB.out hsz hB5).setCell (show b ≤ B by have := HS2.out; omega) _⟩
      have HG6 : Aside0 (GM (w5.setCell ⟨B, i, none⟩ (.slice (some ⟨ρ, 0, none⟩) N cr)) b w.heap.size A c N p q N G1) := ⟨(HG.out.below hB5).far (by have := HS2.out; omega) _⟩
      clear hR5 hR6 hB5 hg5 hne5 hG5 HK HR HB HG hρ hρl hsz hbA
      go_wp2
      obtain ⟨W6, hW6⟩ : ∃ W, W = w5.setCell ⟨B, i, none⟩ (.slice (some ⟨ρ, 0, none⟩) N cr) := ⟨_, rfl⟩
      have HS6 : Aside0 (w5.heap.size = W6.heap.size) := ⟨by rw [hW6]; simp⟩
      rw [HS6.out, ← hW6] at HK6
      rw [← hW6] at HB6 HG6 ⊢
      clear hW6 kz fz
      obtain ⟨pC, hpC⟩ : ∃ f, f = (fun j => if j = i then ρ else pB j) := ⟨_, rfl⟩
      obtain ⟨qC, hqC⟩ : ∃ f, f = (fun j => if j = i then cr else qB j) := ⟨_, rfl⟩
      obtain ⟨Gc, hGc⟩ : ∃ f, f = (Gb.set i (List.replicate N 0)) := ⟨_, rfl⟩
      rw [← hpC, ← hqC, ← hGc] at HK6
      rw [← hGc] at HR6
      clear hpC hqC hGc HS6
      go_loopg [36] (N) (fun kq v36 w' => ∃ (j : Nat) (Gd : List (List Int)), j + kq = N ∧ v36 = .int .i64 j ∧ Aside0 (GM w' w2.heap.size w'.heap.size B cB N pC qC (i + 1) Gd) ∧ Aside0 (∀ a x : Nat, a < i → x < N → gr Gd a x = gr G1 x a) ∧ Aside0 (∀ x : Nat, x < j → gr Gd i x = gr G1 x i) ∧ Aside0 (GM w' b w.heap.size A c N p q N G1) ∧ Aside0 (Below b w w'))
      case atStart => exact ⟨0, Gc, by omega, rfl, HK6, HR6, ⟨fun x hx => by omega⟩, HG6, HB6⟩
      case round =>
        clear HK6 HR6 HG6 HB6
        obtain ⟨j, Gd, hj, rfl, HK, HR, HQ, HG, HB⟩ := hrel
        by_cases hlj : j < N
        · have hdec2 : decide (j < N) = true := decide_eq_true hlj
          have c0 : ((j : Int) < 0) = False := eq_false (by omega)
          have c1 : ((j : Int) < (N : Int)) = True := eq_true (by omega)
          have kr := HK.out.cell (i : Int) (by omega) (by omega)
          obtain ⟨-, fe⟩ := HK.out.at_ (i : Int) (by omega) (by omega) (j : Int) (by omega) (by omega)
          obtain ⟨kd, -⟩ := HK.out.at_ (i : Int) (by omega) (by omega) (j : Int) (by omega) (by omega)
          have kg := HG.out.cell (j : Int) (by omega) (by omega)
          obtain ⟨ke, -⟩ := HG.out.at_ (j : Int) (by omega) (by omega) (i : Int) (by omega) (by omega)
          simp only [Int.toNat_natCast] at kr fe kg ke kd
          obtain ⟨x, hx⟩ : ∃ x, x = gr G1 j i := ⟨_, rfl⟩
          rw [← hx] at ke
          have hpi := HK.out.pM i (by omega)
          have hrl := HK.out.rowlen (i : Int) (by omega) (by omega)
          obtain ⟨W7, hW7⟩ : ∃ W, W = (wr.setCell ⟨pC i, j, none⟩ (.int .i64 x)).drew := ⟨_, rfl⟩
          have HK7 : Aside0 (GM W7 w2.heap.size W7.heap.size B cB N pC qC (i + 1) (putG Gd i j x)) := ⟨by
            have := (HK.out.put (i : Int) (by omega) (by omega) (j : Int) x).below (below_drew (Below.refl _ _))
            simp only [Int.toNat_natCast] at this
            rw [← hW7] at this
            exact this.up (by rw [hW7]; simp)⟩
          have hgs : ∀ a y : Nat, gr (putG Gd i j x) a y = if (a : Int) = i ∧ (y : Int) = j then x else gr Gd a y := fun a y => gr_set Gd i j x (by omega) (by rw [HK.out.len]; omega) (by omega) (by rw [hrl]; omega) a y (by omega) (by omega)
          have HR7 : Aside0 (∀ a y : Nat, a < i → y < N → gr (putG Gd i j x) a y = gr G1 y a) := ⟨fun a y ha hy => by rw [hgs, if_neg (by omega)]; exact HR.out a y ha hy⟩
          have HQ7 : Aside0 (∀ y : Nat, y < j + 1 → gr (putG Gd i j x) i y = gr G1 y i) := ⟨fun y hy => by
            rw [hgs]
            by_cases e : y = j
            · rw [if_pos ⟨rfl, by omega⟩, hx, e]
            · rw [if_neg (by omega)]; exact HQ.out y (by omega)⟩
          have HG7 : Aside0 (GM W7 b w.heap.size A c N p q N G1) := ⟨by rw [hW7]; exact (HG.out.far (by have := HS2.out; omega) _).below (below_drew (Below.refl _ _))⟩
          have HB7 : Aside0 (Below b w W7) := ⟨by rw [hW7]; exact below_drew (HB.out.setCell (show b ≤ pC i by have := HS2.out; omega) _)⟩
          clear HK HR HQ HG HB hpi hrl hgs
          replace hx := Aside0.mk hx
          replace hW7 := Aside0.mk hW7
          go_wp2
          refine start_ (n := 14) (S := fun w' => (w'.cell? ⟨B, i, none⟩ = some (.slice (some ⟨pC i, 0, none⟩) N (qC i))) ∧ (w'.cell? ⟨A, j, none⟩ = some (.slice (some ⟨p j, 0, none⟩) N (q j))) ∧ (w'.cell? ⟨p j, i, none⟩ = some (.int .i64 x)) ∧ (w'.cell? ⟨pC i, j, none⟩ = some (.int .i64 (gr Gd i j)))) (ds := [13]) #[false, false, false, false, false, false, false, false, false, false, false, false, false, false] (by kernel_rfl) rfl rfl ⟨kr, kg, ke, kd⟩ (fun hHeld => ?_)
          refine with_tabW tb_ends_10.tab tb_ends_10.bits (fun HT_ HW_ => ?_)
          refine pure_ (i := 0) (N := some 39) (v := ?_) (a' := ?_) #[true, false, false, false, false, false, false, false, false, false, false, false, false, false] rfl rfl (any_of HT_.out (by kernel_rfl)) (fun _ _ _ h => h) (Or.inl ⟨by rfl, ?_⟩) ?_ ?_
          rotate_left
          · intro w'
            go_simp
            with_reducible rfl
          rotate_left
          · simp only [Act.put, List.setIfInBounds_toArray, List.set_cons_zero, List.set_cons_succ, i64_w, i32_w]
            rfl
          refine pure_ (i := 1) (N := some 40) (v := ?_) (a' := ?_) #[true, true, false, false, false, false, false, false, false, false, false, false, false, false] rfl rfl (any_of HT_.out (by kernel_rfl)) (fun _ _ _ h => h) (Or.inl ⟨by rfl, ?_⟩) ?_ ?_
          rotate_left
          · intro w'
            go_simp
            with_reducible rfl
          rotate_left
          · simp only [Act.put, List.setIfInBounds_toArray, List.set_cons_zero, List.set_cons_succ, i64_w, i32_w]
            rfl
          refine pure_ (i := 2) (N := some 41) (v := ?_) (a' := ?_) #[true, true, true, false, false, false, false, false, false, false, false, false, false, false] rfl rfl (any_of HT_.out (by kernel_rfl)) (fun _ _ _ h => h) (Or.inl ⟨by rfl, ?_⟩) ?_ ?_
          rotate_left
          · intro w'
            go_simp
            with_reducible rfl
          rotate_left
          · simp only [Act.put, List.setIfInBounds_toArray, List.set_cons_zero, List.set_cons_succ, i64_w, i32_w]
            rfl
          refine take_ (i := 3) (N := some 42) (v := ?_) (a' := ?_) #[true, true, true, true, false, false, false, false, false, false, false, false, false, false] rfl rfl (take_ofW HT_.out HW_.out (by kernel_rfl)) (fun _ _ _ h => h) (Or.inl ⟨by rfl, ?_⟩) hHeld ?_ ?_
          rotate_left
          · rintro w' ⟨s0, s1, s2, s3⟩
            go_simp
            with_reducible rfl
          rotate_left
          · simp only [Act.put, List.setIfInBounds_toArray, List.set_cons_zero, List.set_cons_succ, i64_w, i32_w]
            rfl
          refine pure_ (i := 4) (N := some 43) (v := ?_) (a' := ?_) #[true, true, true, true, true, false, false, false, false, false, false, false, false, false] rfl rfl (any_of HT_.out (by kernel_rfl)) (fun _ _ _ h => h) (Or.inl ⟨by rfl, ?_⟩) ?_ ?_
          rotate_left
          · intro w'
            go_simp
            with_reducible rfl
          rotate_left
          · simp only [Act.put, List.setIfInBounds_toArray, List.set_cons_zero, List.set_cons_succ, i64_w, i32_w]
            rfl
          refine pure_ (i := 5) (N := some 44) (v := ?_) (a' := ?_) #[true, true, true, true, true, true, false, false, false, false, false, false, false, false] rfl rfl (any_of HT_.out (by kernel_rfl)) (fun _ _ _ h => h) (Or.inl ⟨by rfl, ?_⟩) ?_ ?_
          rotate_left
          · intro w'
            go_simp
            with_reducible rfl
          rotate_left
          · simp only [Act.put, List.setIfInBounds_toArray, List.set_cons_zero, List.set_cons_succ, i64_w, i32_w]
            rfl
          refine pure_ (i := 6) (N := some 45) (v := ?_) (a' := ?_) #[true, true, true, true, true, true, true, false, false, false, false, false, false, false] rfl rfl (any_of HT_.out (by kernel_rfl)) (fun _ _ _ h => h) (Or.inl ⟨by rfl, ?_⟩) ?_ ?_
          rotate_left
          · intro w'
            go_simp
            with_reducible rfl
          rotate_left
          · simp only [Act.put, List.setIfInBounds_toArray, List.set_cons_zero, List.set_cons_succ, i64_w, i32_w]
            rfl
          refine pure_ (i := 7) (N := some 46) (v := ?_) (a' := ?_) #[true, true, true, true, true, true, true, true, false, false, false, false, false, false] rfl rfl (any_of HT_.out (by kernel_rfl)) (fun _ _ _ h => h) (Or.inl ⟨by rfl, ?_⟩) ?_ ?_
          rotate_left
          · intro w'
            go_simp
            with_reducible rfl
          rotate_left
          · simp only [Act.put, List.setIfInBounds_toArray, List.set_cons_zero, List.set_cons_succ, i64_w, i32_w]
            rfl
          refine take_ (i := 8) (N := some 47) (v := ?_) (a' := ?_) #[true, true, true, true, true, true, true, true, true, false, false, false, false, false] rfl rfl (take_ofW HT_.out HW_.out (by kernel_rfl)) (fun _ _ _ h => h) (Or.inl ⟨by rfl, ?_⟩) hHeld ?_ ?_
          rotate_left
          · rintro w' ⟨s0, s1, s2, s3⟩
            go_simp
            with_reducible rfl
          rotate_left
          · simp only [Act.put, List.setIfInBounds_toArray, List.set_cons_zero, List.set_cons_succ, i64_w, i32_w]
            rfl
          refine pure_ (i := 9) (N := some 48) (v := ?_) (a' := ?_) #[true, true, true, true, true, true, true, true, true, true, false, false, false, false] rfl rfl (any_of HT_.out (by kernel_rfl)) (fun _ _ _ h => h) (Or.inl ⟨by rfl, ?_⟩) ?_ ?_
          rotate_left
          · intro w'
            go_simp
            with_reducible rfl
          rotate_left
          · simp only [Act.put, List.setIfInBounds_toArray, List.set_cons_zero, List.set_cons_succ, i64_w, i32_w]
            rfl
          refine pure_ (i := 10) (N := some 49) (v := ?_) (a' := ?_) #[true, true, true, true, true, true, true, true, true, true, true, false, false, false] rfl rfl (any_of HT_.out (by kernel_rfl)) (fun _ _ _ h => h) (Or.inl ⟨by rfl, ?_⟩) ?_ ?_
          rotate_left
          · intro w'
            go_simp
            with_reducible rfl
          rotate_left
          · simp only [Act.put, List.setIfInBounds_toArray, List.set_cons_zero, List.set_cons_succ, i64_w, i32_w]
            rfl
          refine take_ (i := 11) (N := some 50) (v := ?_) (a' := ?_) #[true, true, true, true, true, true, true, true, true, true, true, true, false, false] rfl rfl (take_ofW HT_.out HW_.out (by kernel_rfl)) (fun _ _ _ h => h) (Or.inl ⟨by rfl, ?_⟩) hHeld ?_ ?_
          rotate_left
          · rintro w' ⟨s0, s1, s2, s3⟩
            go_simp
            with_reducible rfl
          rotate_left
          · simp only [Act.put, List.setIfInBounds_toArray, List.set_cons_zero, List.set_cons_succ, i64_w, i32_w]
            rfl
          refine pure_ (i := 12) (N := some 51) (v := ?_) (a' := ?_) #[true, true, true, true, true, true, true, true, true, true, true, true, true, false] rfl rfl (any_of HT_.out (by kernel_rfl)) (fun _ _ _ h => h) (Or.inl ⟨by rfl, ?_⟩) ?_ ?_
          rotate_left
          · intro w'
            go_simp
            with_reducible rfl
          rotate_left
          · simp only [Act.put, List.setIfInBounds_toArray, List.set_cons_zero, List.set_cons_succ, i64_w, i32_w]
            rfl
          refine last_ (i := 13) (N := none) #[true, true, true, true, true, true, true, true, true, true, true, true, true, true] rfl rfl (one_of HT_.out (by kernel_rfl)) (by decide) (fun K hK => ?_)
          refine skip_ (w1 := ?_) (by rfl) rfl ?_ ?_
          rotate_left
          · go_simp
            rfl
          clear fe
          refine hK.out _ _ ?_
          clear hK K
          refine norm_ (a' := ?_) ?_ ?_
          rotate_left
          · rfl
          refine done_ (done_of HT_.out (by kernel_rfl)) ?_
          rw [← hW7.out]
          clear hW7 kr kg ke kd
          go_wp2
          go_roundg (N - (j + 1))
          case measure => omega
          case rel => exact ⟨j + 1, _, by omega, by go_num, HK7, HR7, HQ7, HG7, HB7⟩
        · have hdec2 : decide (j < N) = false := decide_eq_false hlj
          obtain rfl : j = N := by omega
          have HR8 : Aside0 (∀ a x : Nat, a < i + 1 → x < j → gr Gd a x = gr G1 x a) := ⟨fun a x ha hx => by
            by_cases e : a = i
            · subst e; exact HQ.out x hx
            · exact HR.out a x (by omega) hx⟩
          clear HR HQ
          go_wp2
          go_roundg (j - (i + 1))
          case measure => omega
          case rel => exact ⟨i + 1, pC, qC, Gd, by omega, by go_num, HK, HR8, HG, HB⟩
    · have hdec : decide (i < N) = false := decide_eq_false hlt
      obtain rfl : i = N := by omega
      obtain rfl : Gb = backG i G1 := backG_eq HK.out.len (fun j hj => HK.out.rowlen (j : Int) (by omega) (by omega)) HR.out
      clear hlt HR
      go_wp2_with fail
      refine (way_calls K (some ⟨A, 0, none⟩) c i G1 s fr wr HG.out.len (HG.out.toC hN) hcN hfr.out).mono ?_
      rintro e w6 ⟨v11, rfl, hR6, hb6⟩
      obtain ⟨gf, cf, rfl, hgf, hgl, _⟩ := Kd.R_form hR6 (by rw [hfl.out]; omega)
      rw [hfl.out] at hR6 ⊢
      have HF6 := Aside0.mk hR6
      have HK6 := Aside0.mk (HK.out.below hb6)
      have HB6 := Aside0.mk (below_then HB.out (by have := HB.out.size; omega) hb6)
      clear hR6 hb6 HK HB HG hgf hgl
      go_wp2_with fail
      refine (way_calls K (some ⟨B, 0, none⟩) cB i (backG i G1) t bk w6 HK6.out.len (HK6.out.toC hN) HK6.out.hc hto.out).mono ?_
      rintro e w7 ⟨v12, rfl, hR7, hb7⟩
      obtain ⟨gt, ct, rfl, hgt, hgtl, _⟩ := Kd.R_form hR7 (by rw [htl.out]; omega)
      rw [htl.out] at hR7 ⊢
      have HT7 := Aside0.mk (Kd.R_lower (base' := 0) hR7 (Nat.zero_le _))
      have HF7 := Aside0.mk (Kd.R_lower (base' := 0) (Kd.R_below HF6.out hb7) (Nat.zero_le _))
      have HB7 := Aside0.mk (below_then HB6.out (by have := HB6.out.size; omega) hb7)
      have HS7 : Aside0 (b ≤ w7.heap.size ∧ w.heap.size ≤ w7.heap.size) := ⟨by have := HB7.out.size; omega⟩
      clear hR7 hb7 HF6 HB6 HK6 hgt hgtl hdec
      go_wp2
      go_loopg [13, 14, 62] (i) (fun kq v13 v14 v62 w' => ∃ (j : Nat) (A1 A2 : Option Addr) (c1 c2 : Nat), j + kq = i ∧ v62 = .int .i64 j ∧ v13 = .slice A1 (fromL fr j).length c1 ∧ v14 = .slice A2 (toL bk j).length c2 ∧ Aside0 (KB.R 4 w' w7.heap.size (fun _ => True) (.slice A1 (fromL fr j).length c1) (fromL fr j)) ∧ Aside0 (KB.R 4 w' w7.heap.size (fun _ => True) (.slice A2 (toL bk j).length c2) (toL bk j)) ∧ Aside0 (Below w7.heap.size w7 w') ∧ Aside0 (∀ k, (Value.slice A1 (fromL fr j).length c1).ownBlock = some k → (Value.slice A2 (toL bk j).length c2).ownBlock ≠ some k))
      case atStart => exact ⟨0, none, none, 0, 0, by omega, rfl, rfl, rfl, ⟨Kd.R_nil _ _ _ _ _⟩, ⟨Kd.R_nil _ _ _ _ _⟩, ⟨Below.refl _ _⟩, ⟨fun k hk => by simp [Value.ownBlock] at hk⟩⟩
      case round =>
        obtain ⟨j, A1, A2, c1, c2, hj, rfl, rfl, rfl, H1, H2, HW, HN⟩ := hrel
        by_cases hlj : j < i
        · have hdec2 : decide (j < i) = true := decide_eq_true hlj
          have b0 : ((j : Int) < 0) = False := eq_false (by omega)
          have b1 : ((j : Int) < (i : Int)) = True := eq_true (by omega)
          obtain ⟨kf, -⟩ := R_at (Kd.R_below HF7.out HW.out) (j : Int) (by omega) (by omega)
          simp only [Int.toNat_natCast] at kf
          obtain ⟨x, hx⟩ : ∃ x, x = rd fr (j : Int) := ⟨_, rfl⟩
          rw [← hx] at kf
          have hs1 : Aside0 (fromL fr j ++ [decide (0 ≤ x)] = fromL fr (j + 1)) := ⟨by rw [fromL_succ, hx]⟩
          have hl1 : Aside0 ((fromL fr j).length = j) := ⟨by simp [fromL]⟩
          have hl2 : Aside0 ((toL bk j).length = j) := ⟨by simp [toL]⟩
          replace hx := Aside0.mk hx
          go_wp2_with ((with_reducible refine gate_dst (N := 72) rfl ?_); refine mark_ ?_)
          refine ⟨?_⟩
          refine Kd.R_append KB (w0 := w7) (W := wr) w7.heap.size rfl (.tmp 65) (.tmp 71) 45 4 (.bool false) 1 rfl Try.underlying45 info4 rfl (by decide) (by decide) (.slice A1 (fromL fr j).length c1) (fromL fr j) (decide (0 ≤ x)) [.bool (decide (0 ≤ x))] (fun _ => True) (fun _ => False) rfl rfl rfl (fun k hk => hk.elim) (fun k hk => trivial) H1.out HW.out HW.out.size (by rw [hl1.out]; omega) ?_
          intro v9 w8 hR8 hB8 hg8 hat8
          rw [hs1.out] at hR8
          obtain ⟨A8, c8, rfl, _⟩ := Kd.R_reads hR8
          have H1' := Aside0.mk hR8
          have H2' : Aside0 (KB.R 4 w8 w7.heap.size (fun _ => True) (.slice A2 (toL bk j).length c2) (toL bk j)) := ⟨Kd.R_mono (Kd.R_grown (Kd.R_tight rfl H2.out) hg8 (fun k hk e => HN.out k e.symm hk.symm)) (fun _ _ => trivial)⟩
          have HN' : Aside0 (∀ k, (Value.slice A8 (fromL fr (j + 1)).length c8).ownBlock = some k → (Value.slice A2 (toL bk j).length c2).ownBlock ≠ some k) := ⟨fun k hk e => by
            rcases hat8 with h8 | ⟨b8, h8, hb8⟩
            · exact HN.out k (h8.symm.trans hk) e
            · have h9 := Kd.R_lt H2.out k e
              rw [h8] at hk
              injection hk with hk
              omega⟩
          have HW' := Aside0.mk hB8
          clear hR8 hg8 hat8 kf H1 H2 HN
          obtain ⟨kt, -⟩ := R_at (Kd.R_below HT7.out hB8) (j : Int) (by omega) (by omega)
          simp only [Int.toNat_natCast] at kt
          obtain ⟨y, hy⟩ : ∃ y, y = rd bk (j : Int) := ⟨_, rfl⟩
          rw [← hy] at kt
          have hs2 : Aside0 (toL bk j ++ [decide (y < 0)] = toL bk (j + 1)) := ⟨by rw [toL_succ, hy]⟩
          replace hy := Aside0.mk hy
          clear hB8 HW
          go_wp2_with ((with_reducible refine gate_dst (N := 80) rfl ?_); refine mark_ ?_)
          refine ⟨?_⟩
          refine Kd.R_append KB (w0 := w7) (W := w8) w7.heap.size rfl (.tmp 73) (.tmp 79) 45 4 (.bool false) 1 rfl Try.underlying45 info4 rfl (by decide) (by decide) (.slice A2 (toL bk j).length c2) (toL bk j) (decide (y < 0)) [.bool (decide (y < 0))] (fun _ => True) (fun _ => False) rfl rfl rfl (fun k hk => hk.elim) (fun k hk => trivial) H2'.out HW'.out HW'.out.size (by rw [hl2.out]; omega) ?_
          intro v10 w9 hR9 hB9 hg9 hat9
          rw [hs2.out] at hR9
          obtain ⟨A9, c9, rfl, _⟩ := Kd.R_reads hR9
          have H2'' := Aside0.mk hR9
          have H1'' : Aside0 (KB.R 4 w9 w7.heap.size (fun _ => True) (.slice A8 (fromL fr (j + 1)).length c8) (fromL fr (j + 1))) := ⟨Kd.R_mono (Kd.R_grown (Kd.R_tight rfl H1'.out) hg9 (fun k hk e => HN'.out k hk.symm e.symm)) (fun _ _ => trivial)⟩
          have HN'' : Aside0 (∀ k, (Value.slice A8 (fromL fr (j + 1)).length c8).ownBlock = some k → (Value.slice A9 (toL bk (j + 1)).length c9).ownBlock ≠ some k) := ⟨fun k hk e => by
            rcases hat9 with h8 | ⟨b8, h8, hb8⟩
            · exact HN'.out k hk (h8.symm.trans e)
            · have h9 := Kd.R_lt H1'.out k hk
              rw [h8] at e
              injection e with e
              omega⟩
          have HW'' := Aside0.mk hB9
          clear hR9 hB9 hg9 hat9 kt H1' H2' HN' HW'
          go_wp2
          go_roundg (i - (j + 1))
          case measure => omega
          case rel => exact ⟨j + 1, A8, A9, c8, c9, by omega, by go_num, rfl, rfl, H1'', H2'', HW'', HN''⟩
        · have hdec2 : decide (j < i) = false := decide_eq_false hlj
          obtain rfl : j = i := by omega
          go_wp2
          go_ret2
          exact ⟨_, _, rfl, Kd.R_lower H1.out HS7.out.2, Kd.R_lower H2.out HS7.out.2, below_then HB7.out HS7.out.1 HW.out, HN.out⟩
end Go.Proofs.Ytbamanjedfccpaa.HTab
end

section
set_option linter.unusedVariables false
set_option linter.unusedSimpArgs false
namespace Go.Proofs.Ytbamanjedfccpaa.HTab
open Go.RowKit Go.Proofs.YtbamanjedfccpaaW.PrintWords Go.Proofs.YtbamanjedfccpaaW.PrintLast Go.Proofs.YtbamanjedfccpaaW.PrintMore Go.Proofs.Ytbamanjedfccpaa.X
set_option linter.unusedVariables false
set_option linter.unusedSimpArgs false
end Go.Proofs.Ytbamanjedfccpaa.HTab
namespace Go.Proofs.Ytbamanjedfccpaa.X
open Go.RowKit Go.Proofs.YtbamanjedfccpaaW.PrintWords Go.Proofs.YtbamanjedfccpaaW.PrintLast Go.Proofs.YtbamanjedfccpaaW.PrintMore Go.Proofs.Ytbamanjedfccpaa.HTab
end Go.Proofs.Ytbamanjedfccpaa.X
end

section
set_option linter.unusedVariables false
set_option linter.unusedSimpArgs false
namespace Go.Proofs.Ytbamanjedfccpaa.HTab
open Go.RowKit Go.Proofs.YtbamanjedfccpaaW.PrintWords Go.Proofs.YtbamanjedfccpaaW.PrintLast Go.Proofs.YtbamanjedfccpaaW.PrintMore Go.Proofs.Ytbamanjedfccpaa.X
set_option linter.unusedVariables false
set_option linter.unusedSimpArgs false
def pathL (fr : List Int) (s : Int) : Nat → Int → List Int
  | 0, _ => []
  | k + 1, j => if j = s then [] else j :: pathL fr s k (rd fr j)
theorem mn_le (a b : Int) : mn a b ≤ a ∧ mn a b ≤ b ∧ (0 < a → 0 < b → 0 < mn a b) := by unfold mn; split <;> omega
theorem sendW_eq {N : Nat} {G' : List (List Int)} (hG : GOK N G') {i j f : Int} (i0 : 0 ≤ i) (i1 : i < N) (j0 : 0 ≤ j) (j1 : j < N) (hij : i ≠ j) (f0 : 0 ≤ f) (f1 : f ≤ gr G' i j) : sendW G' i j f = sendG G' i j f := by
  have h1 := hG.nn i j i0 i1 j0 j1
  have h2 := hG.nn j i j0 j1 i0 i1
  have h3 := hG.up i j i0 i1 j0 j1
  have w1 : wrap64 (gr G' i j - f) = gr G' i j - f := wrap_id (by omega) (by omega)
  have e : gr (putG G' i j (gr G' i j - f)) j i = gr G' j i := by rw [gr_put hG.toGSq _ i0 i1 j0 j1 j i j0 i0, if_neg (fun q => hij q.2)]
  unfold sendW sendG
  rw [w1, e, show wrap64 (gr G' j i + f) = gr G' j i + f from wrap_id (by omega) (by omega)]
section
variable {N : Nat} {G : List (List Int)} {s : Int} {fr : List Int} {p : Int → Nat} (hr : ∀ x : Int, 0 ≤ x → x < N → x ≠ s → 0 ≤ rd fr x → 0 ≤ rd fr (rd fr x) ∧ p (rd fr x) < p x ∧ 0 < gr G (rd fr x) x) (hlo : ∀ x : Int, 0 ≤ x → x < N → -1 ≤ rd fr x ∧ rd fr x < N)
include hr hlo
theorem path_rank : ∀ (k : Nat) (j : Int), 0 ≤ j → j < N → 0 ≤ rd fr j → ∀ x ∈ pathL fr s k j, 0 ≤ x ∧ x < N ∧ x ≠ s ∧ 0 ≤ rd fr x ∧ p x ≤ p j
  | 0, j, _, _, _, x, hx => by simp [pathL] at hx
  | k + 1, j, j0, j1, hj, x, hx => by
    simp only [pathL] at hx
    by_cases e : j = s
    · rw [if_pos e] at hx; cases hx
    · rw [if_neg e] at hx
      obtain ⟨a, b, c⟩ := hr j j0 j1 e hj
      rcases List.mem_cons.1 hx with rfl | hx
      · exact ⟨j0, j1, e, hj, Nat.le_refl _⟩
      · obtain ⟨d1, d2, d3, d4, d5⟩ := path_rank k (rd fr j) hj (hlo j j0 j1).2 a x hx
        exact ⟨d1, d2, d3, d4, by omega⟩
theorem minP_ok : ∀ (k : Nat) (j most : Int), 0 ≤ j → j < N → 0 ≤ rd fr j → p j < k → 0 < most → ∃ m, minP fr G N s k j most = some m ∧ 0 < m ∧ m ≤ most ∧ ∀ x ∈ pathL fr s k j, m ≤ gr G (rd fr x) x
  | 0, j, most, _, _, _, hk, _ => by omega
  | k + 1, j, most, j0, j1, hj, hk, hm => by
    simp only [minP, pathL]
    by_cases e : j = s
    · rw [if_pos e, if_pos e]
      exact ⟨most, rfl, hm, Int.le_refl _, fun x hx => by cases hx⟩
    · rw [if_neg e, if_neg e]
      obtain ⟨a, b, c⟩ := hr j j0 j1 e hj
      have hl := hlo j j0 j1
      have hmn := mn_le most (gr G (rd fr j) j)
      rw [if_pos ⟨j0, j1, hj, hl.2⟩]
      obtain ⟨m, e1, m0, m1, m2⟩ := minP_ok k (rd fr j) (mn most (gr G (rd fr j) j)) hj hl.2 a (by omega) (hmn.2.2 hm c)
      refine ⟨m, e1, m0, by omega, fun x hx => ?_⟩
      rcases List.mem_cons.1 hx with rfl | hx
      · omega
      · exact m2 x hx
theorem augP_ok (f : Int) (f0 : 0 ≤ f) : ∀ (k : Nat) (j : Int) (G' : List (List Int)), 0 ≤ j → j < N → 0 ≤ rd fr j → p j < k → GOK N G' → (∀ x ∈ pathL fr s k j, f ≤ gr G' (rd fr x) x) →
    ∃ G2, augP fr N s f k G' j = some G2 ∧ GOK N G2 ∧ ∀ T, resG N T G2 = resG N T G' - f * (ind T s - ind T j)
  | 0, j, G', _, _, _, hk, _, _ => by omega
  | k + 1, j, G', j0, j1, hj, hk, hG, hp => by
    simp only [augP]
    simp only [pathL] at hp
    by_cases e : j = s
    · rw [if_pos e]
      exact ⟨G', rfl, hG, fun T => by rw [e, Int.sub_self, Int.mul_zero, Int.sub_zero]⟩
    · rw [if_neg e] at hp ⊢
      obtain ⟨a, b, c⟩ := hr j j0 j1 e hj
      have hl := hlo j j0 j1
      have hne : rd fr j ≠ j := fun q => by rw [q] at b; omega
      have hf := hp j (List.mem_cons_self ..)
      rw [if_pos ⟨j0, j1, hj, hl.2⟩, sendW_eq hG hj hl.2 j0 j1 hne f0 hf]
      obtain ⟨s1, s2⟩ := send_ok hG hj hl.2 j0 j1 hne f0 hf
      obtain ⟨G2, e2, g2, r2⟩ := augP_ok f f0 k (rd fr j) _ hj hl.2 a (by omega) s1 (fun x hx => by
        obtain ⟨d1, d2, d3, d4, d5⟩ := path_rank hr hlo k (rd fr j) hj hl.2 a x hx
        obtain ⟨q1, q2, q3⟩ := hr x d1 d2 d3 d4
        rw [gr_send hG.toGSq f hj hl.2 j0 j1 hne (rd fr x) x d4 d1, if_neg (fun q => by rw [q.2] at d5; omega), if_neg (fun q => by rw [q.1] at q2; omega)]
        exact hp x (List.mem_cons_of_mem _ hx))
      refine ⟨G2, e2, g2, fun T => ?_⟩
      rw [r2 T, s2 T]
      have := Int.mul_sub f (ind T s - ind T (rd fr j)) (-(ind T (rd fr j) - ind T j))
      rw [show ind T s - ind T (rd fr j) - -(ind T (rd fr j) - ind T j) = ind T s - ind T j by omega, Int.mul_neg] at this
      omega
end
theorem grtP_ok {N : Nat} (hN : N ≤ 40) {s t : Int} (hs : 0 ≤ s ∧ s < N) (ht : 0 ≤ t ∧ t < N) (hst : s ≠ t) : ∀ (k : Nat) (G : List (List Int)) (total : Int), GOK N G → 0 ≤ total → total + resG N (fun v => v == s) G ≤ 4000000000 → (resG N (fun v => v == s) G).toNat < k →
    ∃ v G1 fr, grtP fuelK N s t k G total = some (v, G1) ∧ GOK N G1 ∧ (∀ T, resG N T G1 = resG N T G - (v - total) * (ind T s - ind T t)) ∧ total ≤ v ∧ cantingref07_way.f fuelK G1 s = some fr ∧ WayD N G1 s fr ∧ rd fr t < 0
  | 0, G, total, hG, h0, h1, hk => by omega
  | k + 1, G, total, hG, h0, h1, hk => by
    have hNN : N * (N + 2) ≤ 40 * 42 := Nat.mul_le_mul hN (by omega)
    obtain ⟨fr, hfr, hw⟩ := way_f (by omega) hG.toGSq hs fuelK (by unfold fuelK; omega)
    simp only [grtP]
    rw [hfr, Option.bind_some, if_pos hw.len]
    by_cases c : rd fr t < 0
    · rw [if_pos c]
      exact ⟨total, G, fr, rfl, hG, fun T => by rw [Int.sub_self, Int.zero_mul, Int.sub_zero], Int.le_refl _, hfr, hw, c⟩
    · rw [if_neg c]
      obtain ⟨p, hp1, hp2⟩ := hw.rank
      have hpt := hp1 t ht.1 ht.2 (by omega)
      obtain ⟨m, em, m0, m1, m2⟩ := minP_ok hp2 hw.lo fuelK t 1152921504606846976 ht.1 ht.2 (by omega) (by unfold fuelK; omega) (by decide)
      obtain ⟨G2, e2, g2, r2⟩ := augP_ok hp2 hw.lo m (by omega) fuelK t G ht.1 ht.2 (by omega) (by unfold fuelK; omega) hG m2
      rw [em, Option.bind_some, e2, Option.bind_some]
      have e := r2 (fun v => v == s)
      rw [ind_eq, ind_eq, if_pos rfl, if_neg (fun q => hst q.symm)] at e
      have n2 := resG_nonneg g2 (fun v => v == s)
      have w : wrap64 (total + m) = total + m := wrap_id (by omega) (by omega)
      rw [w]
      obtain ⟨v, G1, fr1, e3, g3, r3, le3, f3, w3, c3⟩ := grtP_ok hN hs ht hst k G2 (total + m) g2 (by omega) (by omega) (by omega)
      refine ⟨v, G1, fr1, e3, g3, fun T => ?_, by omega, f3, w3, c3⟩
      rw [r3 T, r2 T]
      have q1 := Int.sub_mul (v - total) m (ind T s - ind T t)
      rw [show v - total - m = v - (total + m) by omega] at q1
      omega
theorem zero_sq (N : Nat) : GSq N (zeroG N) ∧ ∀ i j : Int, gr (zeroG N) i j = 0 := by
  have e : ∀ i : Int, rd_L4 (zeroG N) i = if i.toNat < N then List.replicate N 0 else [] := fun i => by
    unfold rd_L4 zeroG
    rw [List.getD_eq_getElem?_getD, List.getElem?_replicate]
    split <;> rfl
  refine ⟨⟨List.length_replicate .., fun i i0 i1 => by rw [e, if_pos (by omega), List.length_replicate]⟩, fun i j => ?_⟩
  unfold gr
  rw [e]
  split
  · exact rep_zero N j
  · simp [rd]
end Go.Proofs.Ytbamanjedfccpaa.HTab
end

section
set_option linter.unusedVariables false
set_option linter.unusedSimpArgs false
namespace Go.Proofs.Ytbamanjedfccpaa.X
open Go.RowKit Go.Proofs.YtbamanjedfccpaaW.PrintWords Go.Proofs.YtbamanjedfccpaaW.PrintLast Go.Proofs.YtbamanjedfccpaaW.PrintMore
attribute [local go_sem] max2_int min2_int max_two min_two max_three min_three max_four min_four   -- for this text's walks alone
set_option linter.unusedVariables false
set_option linter.unusedSimpArgs false
end Go.Proofs.Ytbamanjedfccpaa.X
end
