/- The law MaskPoints holds of the program, for every input that its statement lets in. -/
import Derived.Test.YtlplphgoldkoeaaBy
import Derived.Test.YtlplphgoldkoeaaBn
import Derived.Test.YtlplphgoldkoeaaBza
import Derived.Test.YtlplphgoldkoeaaBx
import Derived.Test.YtlplphgoldkoeaaBc
import Derived.Test.YtlplphgoldkoeaaBj
import Derived.Test.YtlplphgoldkoeaaRows
import Derived.WalkKit
import Derived.ProofKit
import Derived.OpenShut
import Derived.ShutString
import Derived.ChangeOld
import Derived.Below
import Derived.SizedLaws
import Derived.Test.YtlplphgoldkoeaaBb
section
set_option linter.unusedVariables false
set_option linter.unusedSimpArgs false
namespace Go.Proofs.Ytlplphgoldkoeaa.HTab
open Go.RowKit Go.Proofs.YtlplphgoldkoeaaW.PrintWords Go.Proofs.YtlplphgoldkoeaaW.PrintLast Go.Proofs.YtlplphgoldkoeaaW.PrintMore Go.Proofs.Ytlplphgoldkoeaa.HMap Go.Proofs.Ytlplphgoldkoeaa.X
set_option linter.unusedVariables false
set_option linter.unusedSimpArgs false
section
variable (v r : Int) (l : List S106)
theorem at_both (p : Int) (fu : Nat) (hf : 5000 ≤ fu) : ∃ b e, mask_At.f fu v (ofL l) r p = some (b, e) ∧ cantingref02_At.f fu v l r p = some (b, e) := by
  by_cases h : VM v (l.map ofR) r
  · have v0 := h.v0
    have v12 := h.v12
    have hn := h.root.2.2
    rw [h.ofL.1]
    unfold mask_At.f cantingref02_At.f mask_Valid.f cantingref02_Valid.f
    rw [vmB_true h, if_pos (by omega)]
    simp only [Option.bind_some, if_true]
    have hsh := shl1 (k := v) (by omega) (by omega)
    have hc := pow_cast v.toNat
    rw [hsh]
    by_cases hp : p < 0
    · exact ⟨_, _, if_pos hp, if_pos hp⟩
    · rw [if_neg hp, if_neg hp, if_pos v0, if_pos v0]
      by_cases hp2 : p ≥ 2 ^ v.toNat
      · exact ⟨_, _, if_pos hp2, if_pos hp2⟩
      · rw [if_neg hp2, if_neg hp2]
        have e1 := holds_f v (l.map ofR) r v12 (by omega) h.wf.wo h.pl p.toNat (by omega) fu (by omega)
        have e2 := value_f v l r v12 (by have := h.ofL.2; omega) h.wf.wo h.pl p.toNat (by omega) fu (by omega)
        rw [Int.toNat_of_nonneg (by omega)] at e1 e2
        rw [e1, e2]
        exact ⟨_, _, rfl, rfl⟩
  · refine ⟨false, 2, ?_, ?_⟩
    · unfold mask_At.f mask_Valid.f
      rw [vmB_false (fun q => h (ofL_vm.1 q)), if_pos (by have := ofL_len l; omega)]
      rfl
    · unfold cantingref02_At.f cantingref02_Valid.f
      rw [vmB_false h]
      rfl
theorem count_ok {v r : Int} {l : List S107} (h : VM v l r) : mask_Mask_count.f v l r = some (cntL (tab v l r) : Int) := by
  unfold mask_Mask_count.f
  rw [vmB_true h, if_pos rfl]
theorem cnt_both (fu : Nat) (hf : 5000 ≤ fu) : ∃ n e, mask_Count.f v (ofL l) r = some (n, e) ∧ cantingref02_Count.f fu v l r = some (n, e) := by
  by_cases h : VM v (l.map ofR) r
  · have hn := h.root.2.2
    rw [h.ofL.1]
    unfold mask_Count.f cantingref02_Count.f mask_Valid.f cantingref02_Valid.f
    rw [vmB_true h, if_pos (by omega)]
    simp only [Option.bind_some, if_true]
    rw [count_ok h, points_f h fu hf]
    simp only [Option.bind_some]
    rw [ptsL_len]
    exact ⟨_, _, rfl, rfl⟩
  · refine ⟨0, 2, ?_, ?_⟩
    · unfold mask_Count.f mask_Valid.f
      rw [vmB_false (fun q => h (ofL_vm.1 q)), if_pos (by have := ofL_len l; omega)]
      rfl
    · unfold cantingref02_Count.f cantingref02_Valid.f
      rw [vmB_false h]
      rfl
theorem nextR_l0 (P : List Int) (p : Int) (q : Nat) (hl : P.length ≤ 4096) (hq : q ≤ P.length) (h : ∀ i : Int, 0 ≤ i → i < P.length → (rd P i < p ↔ i < q)) : ∀ (d i fu : Nat), i + d = q → d < fu →
    cantingref02_Next.l0 fu p P P.length i = if q < P.length then some (rd P q, 0) else some (0, 7)
  | 0, i, fu, hi, hf => by
    obtain ⟨fu, rfl⟩ : ∃ n, fu = n + 1 := ⟨fu - 1, by omega⟩
    have : i = q := by omega
    subst this
    simp only [cantingref02_Next.l0]
    by_cases hq2 : i < P.length
    · have := h i (by omega) (by omega)
      rw [if_pos (by omega), if_pos (by omega), if_pos (by omega), if_pos (by omega), if_pos hq2]
    · rw [if_neg (by omega), if_neg hq2]
  | d + 1, i, fu, hi, hf => by
    obtain ⟨fu, rfl⟩ : ∃ n, fu = n + 1 := ⟨fu - 1, by omega⟩
    have := h i (by omega) (by omega)
    simp only [cantingref02_Next.l0]
    rw [if_pos (by omega), if_pos (by omega), if_pos (by omega), if_neg (by omega), wrap_add1 (by omega) (by omega)]
    have := nextR_l0 P p q hl hq h d (i + 1) fu (by omega) (by omega)
    rwa [Int.natCast_add, Int.natCast_one] at this
theorem nextM_end {v r : Int} {l : List S107} (h : VM v l r) (p : Int) (q : Nat) (hq : q ≤ cntL (tab v l r)) (hi : Int) (fu : Nat) (hlt : ¬ (q : Int) < hi) (hf : 5000 ≤ fu) :
    mask_Next.l0 (fu + 1) p q hi v l r = if q < cntL (tab v l r) then some (rd (ptsL 0 (tab v l r)) q, 0) else some (0, 7) := by
  simp only [mask_Next.l0]
  rw [if_neg hlt, count_ok h]
  simp only [Option.bind_some]
  by_cases hc : q < cntL (tab v l r)
  · rw [if_neg (by omega), nth_f h _ (by omega) (by omega) fu (by omega), if_pos hc]
    rfl
  · rw [if_pos (by omega), if_neg hc]
theorem nextM_l0 {v r : Int} {l : List S107} (h : VM v l r) (p : Int) (q : Nat) (hq : q ≤ cntL (tab v l r)) (hr : ∀ i : Int, 0 ≤ i → i < cntL (tab v l r) → (rd (ptsL 0 (tab v l r)) i < p ↔ i < q)) : ∀ (d : Nat) (lo hi : Int) (fu : Nat), hi - lo ≤ d → 0 ≤ lo → lo ≤ q → q ≤ hi → hi ≤ cntL (tab v l r) → d + 5001 ≤ fu →
    mask_Next.l0 fu p lo hi v l r = if q < cntL (tab v l r) then some (rd (ptsL 0 (tab v l r)) q, 0) else some (0, 7)
  | 0, lo, hi, fu, hd, h0, h1, h2, h3, hf => by
    obtain ⟨fu, rfl⟩ : ∃ n, fu = n + 1 := ⟨fu - 1, by omega⟩
    have e : lo = q := by omega
    subst e
    exact nextM_end h p q hq hi fu (by omega) (by omega)
  | d + 1, lo, hi, fu, hd, h0, h1, h2, h3, hf => by
    obtain ⟨fu, rfl⟩ : ∃ n, fu = n + 1 := ⟨fu - 1, by omega⟩
    have v12 := h.v12
    have hb := p12 (k := v.toNat) (by omega)
    have htl := tab_length v l r
    have hcl := cntL_le (tab v l r)
    by_cases hlt : lo < hi
    · have w1 : wrap64 (lo + hi) = lo + hi := by unfold wrap64; omega
      have w2 : wrap64 (Int.tdiv (lo + hi) 2) = (lo + hi) / 2 := by
        rw [Int.tdiv_eq_ediv_of_nonneg (by omega)]
        unfold wrap64; omega
      simp only [mask_Next.l0]
      rw [if_pos hlt, w1, w2, nth_f h _ (by omega) (by omega) fu (by omega)]
      simp only [Option.bind_some]
      have := hr ((lo + hi) / 2) (by omega) (by omega)
      by_cases hc : rd (ptsL 0 (tab v l r)) ((lo + hi) / 2) < p
      · rw [if_pos hc, wrap_add1 (by omega) (by omega)]
        exact nextM_l0 h p q hq hr d _ _ fu (by omega) (by omega) (by omega) h2 h3 (by omega)
      · rw [if_neg hc]
        exact nextM_l0 h p q hq hr d _ _ fu (by omega) h0 h1 (by omega) (by omega) (by omega)
    · have e : lo = q := by omega
      subst e
      exact nextM_end h p q hq hi fu hlt (by omega)
theorem next_both (p : Int) (fu : Nat) (hf : 10000 ≤ fu) : ∃ n e, mask_Next.f fu v (ofL l) r p = some (n, e) ∧ cantingref02_Next.f fu v l r p = some (n, e) := by
  obtain ⟨fu, rfl⟩ : ∃ n, fu = n + 1 := ⟨fu - 1, by omega⟩
  by_cases h : VM v (l.map ofR) r
  · have v0 := h.v0
    have v12 := h.v12
    have hn := h.root.2.2
    have hb := p12 (k := v.toNat) (by omega)
    have htl := tab_length v (l.map ofR) r
    have hcl := cntL_le (tab v (l.map ofR) r)
    rw [h.ofL.1]
    unfold mask_Next.f cantingref02_Next.f mask_Valid.f cantingref02_Valid.f
    rw [vmB_true h, if_pos (by omega)]
    simp only [Option.bind_some, if_true]
    have hsh := shl1 (k := v) (by omega) (by omega)
    rw [hsh]
    by_cases hp : p < 0 ∨ p ≥ 2 ^ v.toNat
    · refine ⟨0, 2, ?_, ?_⟩
      · by_cases h0 : p < 0
        · rw [if_pos h0]; simp [mask_Next.j0]
        · rw [if_neg h0, if_pos v0, decide_eq_true (by omega)]; simp [mask_Next.j0]
      · by_cases h0 : p < 0
        · rw [if_pos h0]; simp [cantingref02_Next.j0]
        · rw [if_neg h0, if_pos v0, decide_eq_true (by omega)]; simp [cantingref02_Next.j0]
    · have hp0 : ¬ p < 0 := fun q => hp (.inl q)
      have hp1 : ¬ p ≥ 2 ^ v.toNat := fun q => hp (.inr q)
      rw [if_neg hp0, if_neg hp0, if_pos v0, if_pos v0, decide_eq_false hp1]
      simp only [mask_Next.j0, cantingref02_Next.j0, Bool.false_eq_true, if_false]
      rw [count_ok h, points_f h fu (by omega)]
      simp only [Option.bind_some]
      obtain ⟨q, q1, q2⟩ := ptsL_rise (tab v (l.map ofR) r) 0 p
      have hpl := ptsL_len (tab v (l.map ofR) r) 0
      have e1 := nextR_l0 (ptsL 0 (tab v (l.map ofR) r)) p q (by omega) q1 q2 q 0 fu (by omega) (by omega)
      have e2 := nextM_l0 h p q (by omega) (by rw [← hpl]; exact q2) (cntL (tab v (l.map ofR) r)) 0 (cntL (tab v (l.map ofR) r)) fu (by omega) (by omega) (by omega) (by omega) (by omega) (by omega)
      rw [Int.natCast_zero] at e1
      rw [e1, e2, hpl]
      split
      · exact ⟨_, _, rfl, rfl⟩
      · exact ⟨_, _, rfl, rfl⟩
  · refine ⟨0, 2, ?_, ?_⟩
    · unfold mask_Next.f mask_Valid.f
      rw [vmB_false (fun q => h (ofL_vm.1 q)), if_pos (by have := ofL_len l; omega)]
      simp [mask_Next.j0]
    · unfold cantingref02_Next.f cantingref02_Valid.f
      rw [vmB_false h]
      simp [cantingref02_Next.j0]
theorem nth_both (k : Int) (fu : Nat) (hf : 10000 ≤ fu) : ∃ n e, mask_Nth.f fu v (ofL l) r k = some (n, e) ∧ cantingref02_Nth.f fu v l r k = some (n, e) := by
  obtain ⟨fu, rfl⟩ : ∃ n, fu = n + 1 := ⟨fu - 1, by omega⟩
  by_cases h : VM v (l.map ofR) r
  · have v0 := h.v0
    have v12 := h.v12
    have hn := h.root.2.2
    rw [h.ofL.1]
    unfold mask_Nth.f cantingref02_Nth.f mask_Valid.f cantingref02_Valid.f
    rw [vmB_true h, if_pos (by omega)]
    simp only [Option.bind_some, if_true, mask_Nth.j0, cantingref02_Nth.j0]
    by_cases hk : k < 0
    · rw [decide_eq_true hk]
      exact ⟨_, _, rfl, rfl⟩
    · rw [decide_eq_false hk]
      simp only [Bool.false_eq_true, if_false]
      rw [count_ok h, points_f h fu (by omega)]
      simp only [Option.bind_some]
      have hpl := ptsL_len (tab v (l.map ofR) r) 0
      rw [hpl]
      by_cases hk2 : k ≥ (cntL (tab v (l.map ofR) r) : Int)
      · rw [if_pos hk2, if_pos hk2]
        exact ⟨_, _, rfl, rfl⟩
      · rw [if_neg hk2, if_neg hk2, if_pos (by omega), if_pos (by omega), nth_f h k (by omega) (by omega) fu (by omega)]
        exact ⟨_, _, rfl, rfl⟩
  · refine ⟨0, 2, ?_, ?_⟩
    · unfold mask_Nth.f mask_Valid.f
      rw [vmB_false (fun q => h (ofL_vm.1 q)), if_pos (by have := ofL_len l; omega)]
      simp [mask_Nth.j0]
    · unfold cantingref02_Nth.f cantingref02_Valid.f
      rw [vmB_false h]
      simp [cantingref02_Nth.j0]
end
end Go.Proofs.Ytlplphgoldkoeaa.HTab
end

section
set_option linter.unusedVariables false
set_option linter.unusedSimpArgs false
namespace Go.Proofs.Ytlplphgoldkoeaa.X
open Go.RowKit Go.Proofs.YtlplphgoldkoeaaW.PrintWords Go.Proofs.YtlplphgoldkoeaaW.PrintLast Go.Proofs.YtlplphgoldkoeaaW.PrintMore
attribute [local go_sem] max2_int min2_int max_two min_two max_three min_three max_four min_four   -- for this text's walks alone
set_option linter.unusedVariables false
set_option linter.unusedSimpArgs false
mutual
def cantinglaw02_MaskPoints.j0 : Nat → Int → Int → Bool → Int → List (S106) → Int → Option (Bool)
  | 0, _, _, _, _, _, _ => none
  | k + 1, x1, x2, x37, x839000, x839001, x839002 => if x37 = true then (some false) else ((cantinglaw02_of.f k x839000 x839001 x839002).bind fun bt849 => ((mask_Count.f bt849.1 bt849.2.1 bt849.2.2).bind fun bt854 => ((cantingref02_Count.f k x839000 x839001 x839002).bind fun bt856 => (if bt854.1 = bt856.1 then (cantinglaw02_MaskPoints.j1 k x1 x2 (bt854.2 != bt856.2) x839000 x839001 x839002) else (cantinglaw02_MaskPoints.j1 k x1 x2 true x839000 x839001 x839002)))))
def cantinglaw02_MaskPoints.j1 : Nat → Int → Int → Bool → Int → List (S106) → Int → Option (Bool)
  | 0, _, _, _, _, _, _ => none
  | k + 1, x1, x2, x56, x839000, x839001, x839002 => if x56 = true then (some false) else ((cantinglaw02_of.f k x839000 x839001 x839002).bind fun bt858 => ((mask_Next.f k bt858.1 bt858.2.1 bt858.2.2 x1).bind fun bt863 => ((cantingref02_Next.f k x839000 x839001 x839002 x1).bind fun bt865 => (if bt863.1 = bt865.1 then (cantinglaw02_MaskPoints.j2 k x2 (bt863.2 != bt865.2) x839000 x839001 x839002) else (cantinglaw02_MaskPoints.j2 k x2 true x839000 x839001 x839002)))))
def cantinglaw02_MaskPoints.j2 : Nat → Int → Bool → Int → List (S106) → Int → Option (Bool)
  | 0, _, _, _, _, _ => none
  | k + 1, x2, x77, x839000, x839001, x839002 => if x77 = true then (some false) else ((cantinglaw02_of.f k x839000 x839001 x839002).bind fun bt867 => ((mask_Nth.f k bt867.1 bt867.2.1 bt867.2.2 x2).bind fun bt872 => ((cantingref02_Nth.f k x839000 x839001 x839002 x2).bind fun bt874 => (if bt872.1 = bt874.1 then (some (bt872.2 == bt874.2)) else (some false)))))
end
def cantinglaw02_MaskPoints.f (k : Nat) (a0_0 : Int) (l0_1 : List (S106)) (a0_2 : Int) (a1 : Int) (a2 : Int) : Option (Bool) := (cantinglaw02_of.f k a0_0 l0_1 a0_2).bind fun bt839 => ((mask_At.f k bt839.1 bt839.2.1 bt839.2.2 a1).bind fun bt844 => ((cantingref02_At.f k a0_0 l0_1 a0_2 a1).bind fun bt846 => (if (bt844.1 != bt846.1) = true then (cantinglaw02_MaskPoints.j0 k a1 a2 true a0_0 l0_1 a0_2) else (if bt844.2 = bt846.2 then ((cantinglaw02_awake.f k).bind fun t848 => (cantinglaw02_MaskPoints.j0 k a1 a2 (!t848) a0_0 l0_1 a0_2)) else (cantinglaw02_MaskPoints.j0 k a1 a2 true a0_0 l0_1 a0_2)))))
theorem cantinglaw02_MaskPoints.mono_l : ∀ k, (∀ y0 y1 y2 y3 y4 y5, LeO (cantinglaw02_MaskPoints.j0 k y0 y1 y2 y3 y4 y5) (cantinglaw02_MaskPoints.j0 (k + 1) y0 y1 y2 y3 y4 y5)) ∧ (∀ y0 y1 y2 y3 y4 y5, LeO (cantinglaw02_MaskPoints.j1 k y0 y1 y2 y3 y4 y5) (cantinglaw02_MaskPoints.j1 (k + 1) y0 y1 y2 y3 y4 y5)) ∧ (∀ y0 y1 y2 y3 y4, LeO (cantinglaw02_MaskPoints.j2 k y0 y1 y2 y3 y4) (cantinglaw02_MaskPoints.j2 (k + 1) y0 y1 y2 y3 y4))
  | 0 => ⟨fun _ _ _ _ _ _ r h => by simp [cantinglaw02_MaskPoints.j0] at h, fun _ _ _ _ _ _ r h => by simp [cantinglaw02_MaskPoints.j1] at h, fun _ _ _ _ _ r h => by simp [cantinglaw02_MaskPoints.j2] at h⟩
  | k + 1 => by
    obtain ⟨ih0, ih1, ih2⟩ := cantinglaw02_MaskPoints.mono_l k
    refine ⟨?_, ?_, ?_⟩
    · intro y0 y1 y2 y3 y4 y5
      unfold cantinglaw02_MaskPoints.j0
      repeat' first
      | (with_reducible exact ih0 _ _ _ _ _ _)
      | (with_reducible exact ih1 _ _ _ _ _ _)
      | (with_reducible exact ih2 _ _ _ _ _)
      | (with_reducible exact cantinglaw02_awake.mono _)
      | (with_reducible exact cantinglaw02_of.mono _ _ _ _)
      | (with_reducible exact cantingref02_At.mono _ _ _ _ _)
      | (with_reducible exact cantingref02_Count.mono _ _ _ _)
      | (with_reducible exact cantingref02_Next.mono _ _ _ _ _)
      | (with_reducible exact cantingref02_Nth.mono _ _ _ _ _)
      | (with_reducible exact mask_At.mono _ _ _ _ _)
      | (with_reducible exact mask_Next.mono _ _ _ _ _)
      | (with_reducible exact mask_Nth.mono _ _ _ _ _)
      | (with_reducible exact LeO.refl _)
      | (with_reducible exact LeO.none _)
      | (with_reducible refine LeO.ite ?_ ?_)
      | (with_reducible refine LeO.bind ?_ (fun _ => ?_))
      | exact ih0 _ _ _ _ _ _
      | exact ih1 _ _ _ _ _ _
      | exact ih2 _ _ _ _ _
      | exact cantinglaw02_awake.mono _
      | exact cantinglaw02_of.mono _ _ _ _
      | exact cantingref02_At.mono _ _ _ _ _
      | exact cantingref02_Count.mono _ _ _ _
      | exact cantingref02_Next.mono _ _ _ _ _
      | exact cantingref02_Nth.mono _ _ _ _ _
      | exact mask_At.mono _ _ _ _ _
      | exact mask_Next.mono _ _ _ _ _
      | exact mask_Nth.mono _ _ _ _ _
      | exact LeO.none _
      | refine LeO.ite ?_ ?_
      | refine LeO.bind ?_ (fun _ => ?_)
    · intro y0 y1 y2 y3 y4 y5
      unfold cantinglaw02_MaskPoints.j1
      repeat' first
      | (with_reducible exact ih0 _ _ _ _ _ _)
      | (with_reducible exact ih1 _ _ _ _ _ _)
      | (with_reducible exact ih2 _ _ _ _ _)
      | (with_reducible exact cantinglaw02_awake.mono _)
      | (with_reducible exact cantinglaw02_of.mono _ _ _ _)
      | (with_reducible exact cantingref02_At.mono _ _ _ _ _)
      | (with_reducible exact cantingref02_Count.mono _ _ _ _)
      | (with_reducible exact cantingref02_Next.mono _ _ _ _ _)
      | (with_reducible exact cantingref02_Nth.mono _ _ _ _ _)
      | (with_reducible exact mask_At.mono _ _ _ _ _)
      | (with_reducible exact mask_Next.mono _ _ _ _ _)
      | (with_reducible exact mask_Nth.mono _ _ _ _ _)
      | (with_reducible exact LeO.refl _)
      | (with_reducible exact LeO.none _)
      | (with_reducible refine LeO.ite ?_ ?_)
      | (with_reducible refine LeO.bind ?_ (fun _ => ?_))
      | exact ih0 _ _ _ _ _ _
      | exact ih1 _ _ _ _ _ _
      | exact ih2 _ _ _ _ _
      | exact cantinglaw02_awake.mono _
      | exact cantinglaw02_of.mono _ _ _ _
      | exact cantingref02_At.mono _ _ _ _ _
      | exact cantingref02_Count.mono _ _ _ _
      | exact cantingref02_Next.mono _ _ _ _ _
      | exact cantingref02_Nth.mono _ _ _ _ _
      | exact mask_At.mono _ _ _ _ _
      | exact mask_Next.mono _ _ _ _ _
      | exact mask_Nth.mono _ _ _ _ _
      | exact LeO.none _
      | refine LeO.ite ?_ ?_
      | refine LeO.bind ?_ (fun _ => ?_)
    · intro y0 y1 y2 y3 y4
      unfold cantinglaw02_MaskPoints.j2
      repeat' first
      | (with_reducible exact ih0 _ _ _ _ _ _)
      | (with_reducible exact ih1 _ _ _ _ _ _)
      | (with_reducible exact ih2 _ _ _ _ _)
      | (with_reducible exact cantinglaw02_awake.mono _)
      | (with_reducible exact cantinglaw02_of.mono _ _ _ _)
      | (with_reducible exact cantingref02_At.mono _ _ _ _ _)
      | (with_reducible exact cantingref02_Count.mono _ _ _ _)
      | (with_reducible exact cantingref02_Next.mono _ _ _ _ _)
      | (with_reducible exact cantingref02_Nth.mono _ _ _ _ _)
      | (with_reducible exact mask_At.mono _ _ _ _ _)
      | (with_reducible exact mask_Next.mono _ _ _ _ _)
      | (with_reducible exact mask_Nth.mono _ _ _ _ _)
      | (with_reducible exact LeO.refl _)
      | (with_reducible exact LeO.none _)
      | (with_reducible refine LeO.ite ?_ ?_)
      | (with_reducible refine LeO.bind ?_ (fun _ => ?_))
      | exact ih0 _ _ _ _ _ _
      | exact ih1 _ _ _ _ _ _
      | exact ih2 _ _ _ _ _
      | exact cantinglaw02_awake.mono _
      | exact cantinglaw02_of.mono _ _ _ _
      | exact cantingref02_At.mono _ _ _ _ _
      | exact cantingref02_Count.mono _ _ _ _
      | exact cantingref02_Next.mono _ _ _ _ _
      | exact cantingref02_Nth.mono _ _ _ _ _
      | exact mask_At.mono _ _ _ _ _
      | exact mask_Next.mono _ _ _ _ _
      | exact mask_Nth.mono _ _ _ _ _
      | exact LeO.none _
      | refine LeO.ite ?_ ?_
      | refine LeO.bind ?_ (fun _ => ?_)
theorem cantinglaw02_MaskPoints.mono : ∀ a0 a1 a2 a3 a4 k, LeO (cantinglaw02_MaskPoints.f k a0 a1 a2 a3 a4) (cantinglaw02_MaskPoints.f (k + 1) a0 a1 a2 a3 a4) := by
  intro a0 a1 a2 a3 a4 k
  obtain ⟨ih0, ih1, ih2⟩ := cantinglaw02_MaskPoints.mono_l k
  unfold cantinglaw02_MaskPoints.f
  repeat' first
      | (with_reducible exact ih0 _ _ _ _ _ _)
      | (with_reducible exact ih1 _ _ _ _ _ _)
      | (with_reducible exact ih2 _ _ _ _ _)
      | (with_reducible exact cantinglaw02_awake.mono _)
      | (with_reducible exact cantinglaw02_of.mono _ _ _ _)
      | (with_reducible exact cantingref02_At.mono _ _ _ _ _)
      | (with_reducible exact cantingref02_Count.mono _ _ _ _)
      | (with_reducible exact cantingref02_Next.mono _ _ _ _ _)
      | (with_reducible exact cantingref02_Nth.mono _ _ _ _ _)
      | (with_reducible exact mask_At.mono _ _ _ _ _)
      | (with_reducible exact mask_Next.mono _ _ _ _ _)
      | (with_reducible exact mask_Nth.mono _ _ _ _ _)
      | (with_reducible exact LeO.refl _)
      | (with_reducible exact LeO.none _)
      | (with_reducible refine LeO.ite ?_ ?_)
      | (with_reducible refine LeO.bind ?_ (fun _ => ?_))
      | exact ih0 _ _ _ _ _ _
      | exact ih1 _ _ _ _ _ _
      | exact ih2 _ _ _ _ _
      | exact cantinglaw02_awake.mono _
      | exact cantinglaw02_of.mono _ _ _ _
      | exact cantingref02_At.mono _ _ _ _ _
      | exact cantingref02_Count.mono _ _ _ _
      | exact cantingref02_Next.mono _ _ _ _ _
      | exact cantingref02_Nth.mono _ _ _ _ _
      | exact mask_At.mono _ _ _ _ _
      | exact mask_Next.mono _ _ _ _ _
      | exact mask_Nth.mono _ _ _ _ _
      | exact LeO.none _
      | refine LeO.ite ?_ ?_
      | refine LeO.bind ?_ (fun _ => ?_)
set_option maxHeartbeats 8000000 in
set_option maxRecDepth 100000 in
theorem cantinglaw02_MaskPoints.calls (k : Nat) (a0_0 : Int) (A0_1 : Option Addr) (c0_1 : Nat) (l0_1 : List (S106)) (a0_2 : Int) (a1 : Int) (a2 : Int) (r : Bool) (w : World) (hr0_1 : Kd.C k106 w A0_1 l0_1.length l0_1) (hc0_1 : l0_1.length ≤ c0_1) (h : cantinglaw02_MaskPoints.f k a0_0 l0_1 a0_2 a1 a2 = some r) :
    Calls Try.prog 10 #[.agg #[.int .i64 a0_0, .slice A0_1 l0_1.length c0_1, .int .i64 a0_2], .int .i64 a1, .int .i64 a2] w fun e w' => e = .returned (.bool r) ∧ Below w.heap.size w w' := by
  have hu33 := Try.underlying33
  have HR0_1 := Aside0.mk hr0_1
  have HC0_1 := Aside0.mk hc0_1
  clear hr0_1 hc0_1
  have HB := Aside0.mk (Below.refl w.heap.size w)
  have H : ((cantinglaw02_of.f k a0_0 l0_1 a0_2).bind fun bt839 => ((mask_At.f k bt839.1 bt839.2.1 bt839.2.2 a1).bind fun bt844 => ((cantingref02_At.f k a0_0 l0_1 a0_2 a1).bind fun bt846 => (if (bt844.1 != bt846.1) = true then (cantinglaw02_MaskPoints.j0 k a1 a2 true a0_0 l0_1 a0_2) else (if bt844.2 = bt846.2 then ((cantinglaw02_awake.f k).bind fun t848 => (cantinglaw02_MaskPoints.j0 k a1 a2 (!t848) a0_0 l0_1 a0_2)) else (cantinglaw02_MaskPoints.j0 k a1 a2 true a0_0 l0_1 a0_2)))))) = some r := h
  clear h
  replace H := Option.bind_eq_some_iff.mp H
  obtain ⟨⟨t839, t840, t843⟩, A40, H⟩ := H
  replace H : ((mask_At.f k t839 t840 t843 a1).bind fun bt844 => ((cantingref02_At.f k a0_0 l0_1 a0_2 a1).bind fun bt846 => (if (bt844.1 != bt846.1) = true then (cantinglaw02_MaskPoints.j0 k a1 a2 true a0_0 l0_1 a0_2) else (if bt844.2 = bt846.2 then ((cantinglaw02_awake.f k).bind fun t848 => (cantinglaw02_MaskPoints.j0 k a1 a2 (!t848) a0_0 l0_1 a0_2)) else (cantinglaw02_MaskPoints.j0 k a1 a2 true a0_0 l0_1 a0_2))))) = some r := H
  have A4 := Aside0.mk A40
  clear A40
  replace H := Option.bind_eq_some_iff.mp H
  obtain ⟨⟨t844, t845⟩, A50, H⟩ := H
  replace H : ((cantingref02_At.f k a0_0 l0_1 a0_2 a1).bind fun bt846 => (if (t844 != bt846.1) = true then (cantinglaw02_MaskPoints.j0 k a1 a2 true a0_0 l0_1 a0_2) else (if t845 = bt846.2 then ((cantinglaw02_awake.f k).bind fun t848 => (cantinglaw02_MaskPoints.j0 k a1 a2 (!t848) a0_0 l0_1 a0_2)) else (cantinglaw02_MaskPoints.j0 k a1 a2 true a0_0 l0_1 a0_2)))) = some r := H
  have A5 := Aside0.mk A50
  clear A50
  replace H := Option.bind_eq_some_iff.mp H
  obtain ⟨⟨t846, t847⟩, A60, H⟩ := H
  replace H : (if (t844 != t846) = true then (cantinglaw02_MaskPoints.j0 k a1 a2 true a0_0 l0_1 a0_2) else (if t845 = t847 then ((cantinglaw02_awake.f k).bind fun t848 => (cantinglaw02_MaskPoints.j0 k a1 a2 (!t848) a0_0 l0_1 a0_2)) else (cantinglaw02_MaskPoints.j0 k a1 a2 true a0_0 l0_1 a0_2))) = some r := H
  have A6 := Aside0.mk A60
  clear A60
  have HC7 := Aside0.mk H
  clear H
  go_enter Try.func10, Try.ntmps10
  go_upto_region 3 with (first | ((with_reducible refine gate_dst (N := 3) rfl ?_); refine box_event ?hg (N := 3) ?hd (cs := #[.int .i64 a0_0, .slice A0_1 l0_1.length c0_1, .int .i64 a0_2]) (t := 33) ?hr ?_; (case hd => rfl); (case hg => rfl); (case hr => first | (go_simp; done) | (go_simp; rfl)); intro gb838 hg w8 hbox hb; have n0_ := Aside0.mk (below_step (by repeat (first | (with_reducible first | exact HB.out | apply below_alloc | apply pw_below_drewN | apply below_drew1) | exact HB.out)) hb); have n1_ := Aside0.mk (hbox); have n2_ := Aside0.mk ((by rw [hg]; exact (below_size (by repeat (first | (with_reducible first | exact HB.out | apply below_alloc | apply pw_below_drewN | apply below_drew1) | exact HB.out))) : w.heap.size ≤ gb838)); have n3_ := Aside0.mk ((by rw [hg]; exact (below_size (by repeat (first | (with_reducible first | exact HB.out | apply below_alloc | apply pw_below_drewN | apply below_drew1) | exact HB.out))) : w.heap.size ≤ gb838)); clear HB; have HB := n0_; have BK838 := n1_; have GW838 := n2_; have GE838 := n3_; clear n0_ n1_ n2_ n3_; clear hb hbox hg; have hcz9_0 : w8.cell? ⟨gb838, 0, none⟩ = some (.int .i64 a0_0) := (blk_cell BK838.out 0).trans rfl; have hcz9_1 : w8.cell? ⟨gb838, 1, none⟩ = some (.slice A0_1 l0_1.length c0_1) := (blk_cell BK838.out 1).trans rfl; have hcz9_2 : w8.cell? ⟨gb838, 2, none⟩ = some (.int .i64 a0_2) := (blk_cell BK838.out 2).trans rfl; have hfz9_0 := blk_frozen BK838.out 0; have hfz9_1 := blk_frozen BK838.out 1; have hfz9_2 := blk_frozen BK838.out 2) | ((with_reducible refine gate_callee (f := 30) rfl ?_); refine goesL_ (some 15) rfl rfl Try.func30 (by kernel_rfl) rfl #[.agg #[.int .i64 a0_0, .slice A0_1 l0_1.length c0_1, .int .i64 a0_2]] rfl (by (try simp only [List.map_toArray, List.map_cons, List.map_nil]); first | done | rfl | (simp only [List.length_drop, List.length_take]; rfl)) ?_; (with_reducible refine (cantinglaw02_of.calls k a0_0 _ _ l0_1 a0_2 t839 t840 t843 _ ?side1 ?side2 A4.out).mono ?_); (case side1 => repeat (first | exact (Kd.C_below HR0_1.out HB.out) | (with_reducible refine Kd.C_alloc ?_ _) | (with_reducible refine Kd.C_drewN ?_ _) | (with_reducible refine Kd.C_drew ?_))); (case side2 => exact HC0_1.out); rintro e w10 ⟨v841, rfl, ho0, hb⟩; refine ⟨_, rfl, ?_⟩; have n0_ := Aside0.mk (Kd.R_lower ho0 (below_size (by repeat (first | (with_reducible first | exact HB.out | apply below_alloc | apply pw_below_drewN | apply below_drew1 | refine below_set ?_ GE838.out) | exact HB.out)))); have n1_ := Aside0.mk (blk_below (g := gb838) (o := .cells #[.int .i64 a0_0, .slice A0_1 l0_1.length c0_1, .int .i64 a0_2] 33 (0, 0)) (by (with_reducible repeat (first | refine blk_drewN ?_ _ | refine blk_drew ?_ | refine blk_alloc ?_ _)); exact BK838.out) hb); have n2_ := Aside0.mk (below_step (by repeat (first | (with_reducible first | exact HB.out | apply below_alloc | apply pw_below_drewN | apply below_drew1 | refine below_set ?_ GE838.out) | exact HB.out)) hb); clear BK838; clear HB; have HO842 := n0_; have BK838 := n1_; have HB := n2_; clear n0_ n1_ n2_; (try clear hb); (try clear hb2); (try clear hk); (try clear hi); (try clear ho0); obtain ⟨Ao11, co11, eo11⟩ := Kd.R_slice HO842.out; subst eo11) | ((with_reducible refine gate_callee (f := 56) rfl ?_); refine goesL_ (some 17) rfl rfl Try.func56 (by kernel_rfl) rfl #[.agg #[.int .i64 t839, .slice Ao11 t840.length co11, .int .i64 t843], .int .i64 a1] rfl (by (try simp only [List.map_toArray, List.map_cons, List.map_nil]); first | done | rfl | (simp only [List.length_drop, List.length_take]; rfl)) ?_; (with_reducible refine (mask_At.calls k t839 _ _ t840 t843 a1 t844 t845 _ ?side1 ?side2 A5.out).mono ?_); (case side1 => repeat (first | exact (Kd.R_reads' HO842.out).2.2 | (with_reducible refine Kd.C_alloc ?_ _) | (with_reducible refine Kd.C_drewN ?_ _) | (with_reducible refine Kd.C_drew ?_))); (case side2 => exact (Kd.R_reads' HO842.out).2.1); rintro e w12 ⟨rfl, hb⟩; refine ⟨_, rfl, ?_⟩; have n0_ := Aside0.mk (Kd.R_below (by (with_reducible repeat (first | apply Kd.R_alloc | apply Kd.R_drewN | apply Kd.R_drew)); exact HO842.out) hb); have n1_ := Aside0.mk (blk_below (g := gb838) (o := .cells #[.int .i64 a0_0, .slice A0_1 l0_1.length c0_1, .int .i64 a0_2] 33 (0, 0)) (by (with_reducible repeat (first | refine blk_drewN ?_ _ | refine blk_drew ?_ | refine blk_alloc ?_ _)); exact BK838.out) hb); have n2_ := Aside0.mk (below_step (by repeat (first | (with_reducible first | exact HB.out | apply below_alloc | apply pw_below_drewN | apply below_drew1 | refine below_set ?_ GE838.out) | exact HB.out)) hb); clear HO842; clear BK838; clear HB; have HO842 := n0_; have BK838 := n1_; have HB := n2_; clear n0_ n1_ n2_; (try clear hb); (try clear hb2); (try clear hk); (try clear hi); have hcz13_0 : w12.cell? ⟨gb838, 0, none⟩ = some (.int .i64 a0_0) := (blk_cell BK838.out 0).trans rfl; have hcz13_1 : w12.cell? ⟨gb838, 1, none⟩ = some (.slice A0_1 l0_1.length c0_1) := (blk_cell BK838.out 1).trans rfl; have hcz13_2 : w12.cell? ⟨gb838, 2, none⟩ = some (.int .i64 a0_2) := (blk_cell BK838.out 2).trans rfl; have hfz13_0 := blk_frozen BK838.out 0; have hfz13_1 := blk_frozen BK838.out 1; have hfz13_2 := blk_frozen BK838.out 2) | ((with_reducible refine gate_callee (f := 57) rfl ?_); refine goesL_ (some 23) rfl rfl Try.func57 (by kernel_rfl) rfl #[.agg #[.int .i64 a0_0, .slice A0_1 l0_1.length c0_1, .int .i64 a0_2], .int .i64 a1] rfl (by (try simp only [List.map_toArray, List.map_cons, List.map_nil]); first | done | rfl | (simp only [List.length_drop, List.length_take]; rfl)) ?_; (with_reducible refine (cantingref02_At.calls k a0_0 _ _ l0_1 a0_2 a1 t846 t847 _ ?side1 ?side2 A6.out).mono ?_); (case side1 => repeat (first | exact (Kd.C_below HR0_1.out HB.out) | (with_reducible refine Kd.C_alloc ?_ _) | (with_reducible refine Kd.C_drewN ?_ _) | (with_reducible refine Kd.C_drew ?_))); (case side2 => exact HC0_1.out); rintro e w14 ⟨rfl, hb⟩; refine ⟨_, rfl, ?_⟩; have n0_ := Aside0.mk (Kd.R_below (by (with_reducible repeat (first | apply Kd.R_alloc | apply Kd.R_drewN | apply Kd.R_drew)); exact HO842.out) hb); have n1_ := Aside0.mk (blk_below (g := gb838) (o := .cells #[.int .i64 a0_0, .slice A0_1 l0_1.length c0_1, .int .i64 a0_2] 33 (0, 0)) (by (with_reducible repeat (first | refine blk_drewN ?_ _ | refine blk_drew ?_ | refine blk_alloc ?_ _)); exact BK838.out) hb); have n2_ := Aside0.mk (below_step (by repeat (first | (with_reducible first | exact HB.out | apply below_alloc | apply pw_below_drewN | apply below_drew1 | refine below_set ?_ GE838.out) | exact HB.out)) hb); clear HO842; clear BK838; clear HB; have HO842 := n0_; have BK838 := n1_; have HB := n2_; clear n0_ n1_ n2_; (try clear hb); (try clear hb2); (try clear hk); (try clear hi)))
  (try simp only [Act.put, List.setIfInBounds_toArray, List.set_cons_zero, List.set_cons_succ])
  go_cut [37] (fun v37 wc => ∃ (kq : Nat) (x37_6 : Bool), v37 = .bool x37_6 ∧ Aside0 (cantinglaw02_MaskPoints.j0 kq a1 a2 x37_6 a0_0 l0_1 a0_2 = some r) ∧ Aside0 (kq ≤ k) ∧ Aside0 (wc.heap[gb838]? = some (.cells #[.int .i64 a0_0, (.slice A0_1 l0_1.length c0_1), .int .i64 a0_2] 33 (0, 0))) ∧ Aside0 (Below w.heap.size w wc))
  case first =>
    have H := HC7.out
    clear HC7
    by_cases c15 : (t844 != t846) = true
    · rw [if_pos c15] at H
      have c15b0 : (t844 != t846) = true := c15
      (try (have c15b1 : decide (t844 = t846) = false := by simpa using c15))
      (try (have c15b2 : (t844 == t846) = false := by simpa using c15))
      (try (have c15b3 : ¬ (t844 = t846) := by simpa using c15))
      clear c15
      (first | rw [c15b0] | (simp only [i64_w, i32_w]; rw [c15b0]) | skip)
      have H' := Aside0.mk H
      clear H
      go_wp2
      go_meet
      case rel => exact ⟨_, (true), (by first | rfl | (simp; done) | (simp [*]; done)), H', ⟨by first | omega | exact Nat.le_refl _⟩, ⟨by (with_reducible repeat (first | refine blk_drewN ?_ _ | refine blk_drew ?_ | refine blk_alloc ?_ _)); exact BK838.out⟩, ⟨by repeat (first | (with_reducible first | exact HB.out | apply below_alloc | apply pw_below_drewN | apply below_drew1 | refine below_set ?_ GE838.out) | exact HB.out)⟩⟩
    · rw [if_neg c15] at H
      have c15b0 : (t844 != t846) = false := by simpa using c15
      (try (have c15b1 : decide (t844 = t846) = true := by simpa using c15))
      (try (have c15b2 : (t844 == t846) = true := by simpa using c15))
      clear c15
      (first | rw [c15b0] | (simp only [i64_w, i32_w]; rw [c15b0]) | skip)
      by_cases c16 : t845 = t847
      · rw [if_pos c16] at H
        have c16b0 : (t845 == t847) = true := beq_iff_eq.mpr c16
        have c16b1 : (t845 != t847) = false := bne_eq_false_iff_eq.mpr c16
        clear c16
        replace H := Option.bind_eq_some_iff.mp H
        obtain ⟨t848, A170, H⟩ := H
        replace H : (cantinglaw02_MaskPoints.j0 k a1 a2 (!t848) a0_0 l0_1 a0_2) = some r := H
        have A17 := Aside0.mk A170
        clear A170
        have H' := Aside0.mk H
        clear H
        go_wp2_with (first | (go_at_call 24; (with_reducible refine (cantinglaw02_awake.calls k  t848 _ A17.out).mono ?_); rintro e w18 ⟨rfl, hb⟩; have n0_ := Aside0.mk (Kd.R_below (by (with_reducible repeat (first | apply Kd.R_alloc | apply Kd.R_drewN | apply Kd.R_drew)); exact HO842.out) hb); have n1_ := Aside0.mk (blk_below (g := gb838) (o := .cells #[.int .i64 a0_0, .slice A0_1 l0_1.length c0_1, .int .i64 a0_2] 33 (0, 0)) (by (with_reducible repeat (first | refine blk_drewN ?_ _ | refine blk_drew ?_ | refine blk_alloc ?_ _)); exact BK838.out) hb); have n2_ := Aside0.mk (below_step (by repeat (first | (with_reducible first | exact HB.out | apply below_alloc | apply pw_below_drewN | apply below_drew1 | refine below_set ?_ GE838.out) | exact HB.out)) hb); clear HO842; clear BK838; clear HB; have HO842 := n0_; have BK838 := n1_; have HB := n2_; clear n0_ n1_ n2_; (try clear hb); (try clear hb2); (try clear hk); (try clear hi)))
        go_meet
        case rel => exact ⟨_, (!t848), (by first | rfl | (simp; done) | (simp [*]; done)), H', ⟨by first | omega | exact Nat.le_refl _⟩, ⟨by (with_reducible repeat (first | refine blk_drewN ?_ _ | refine blk_drew ?_ | refine blk_alloc ?_ _)); exact BK838.out⟩, ⟨by repeat (first | (with_reducible first | exact HB.out | apply below_alloc | apply pw_below_drewN | apply below_drew1 | refine below_set ?_ GE838.out) | exact HB.out)⟩⟩
      · rw [if_neg c16] at H
        have c16b0 : (t845 == t847) = false := beq_eq_false_iff_ne.mpr c16
        have c16b1 : (t845 != t847) = true := bne_iff_ne.mpr c16
        have H' := Aside0.mk H
        clear H
        go_wp2
        go_meet
        case rel => exact ⟨_, (true), (by first | rfl | (simp; done) | (simp [*]; done)), H', ⟨by first | omega | exact Nat.le_refl _⟩, ⟨by (with_reducible repeat (first | refine blk_drewN ?_ _ | refine blk_drew ?_ | refine blk_alloc ?_ _)); exact BK838.out⟩, ⟨by repeat (first | (with_reducible first | exact HB.out | apply below_alloc | apply pw_below_drewN | apply below_drew1 | refine below_set ?_ GE838.out) | exact HB.out)⟩⟩
  case rest =>
    clear HC7
    try clear c1
    try clear p2
    try clear c3
    try clear c5
    try clear c10
    try clear c15
    try clear c15b0
    try clear c15b1
    try clear c15b2
    try clear c16
    try clear c16b0
    try clear c16b1
    try clear hcz13_0
    try clear hcz13_1
    try clear hcz13_2
    try clear hcz9_0
    try clear hcz9_1
    try clear hcz9_2
    try clear hfz13_0
    try clear hfz13_1
    try clear hfz13_2
    try clear hfz9_0
    try clear hfz9_1
    try clear hfz9_2
    obtain ⟨kq, x37_6, rfl, HA, HJ6, BK838, HB⟩ := hcut
    cases kq with
    | zero => exact absurd HA.out (by simp [cantinglaw02_MaskPoints.j0])
    | succ kj6 =>
      have H := HA.out
      clear HA
      simp only [cantinglaw02_MaskPoints.j0] at H
      by_cases c19 : x37_6 = true
      · subst c19
        have H1 : (some false) = some r := by rw [if_pos rfl] at H; exact H
        clear H
        have H := H1
        clear H1
        obtain rfl := Option.some.inj H
        go_wp2
        go_ret
        exact ⟨by first | rfl | (simp [errW_none, errW_some] <;> rfl) | (simp [*, errW_none, errW_some] <;> rfl), by repeat (first | (with_reducible first | exact HB.out | apply below_alloc | apply pw_below_drewN | apply below_drew1 | refine below_set ?_ GE838.out) | exact HB.out)⟩
      · replace c19 := Bool.eq_false_iff.mpr c19
        subst c19
        have H1 : ((cantinglaw02_of.f kj6 a0_0 l0_1 a0_2).bind fun bt849 => ((mask_Count.f bt849.1 bt849.2.1 bt849.2.2).bind fun bt854 => ((cantingref02_Count.f kj6 a0_0 l0_1 a0_2).bind fun bt856 => (if bt854.1 = bt856.1 then (cantinglaw02_MaskPoints.j1 kj6 a1 a2 (bt854.2 != bt856.2) a0_0 l0_1 a0_2) else (cantinglaw02_MaskPoints.j1 kj6 a1 a2 true a0_0 l0_1 a0_2))))) = some r := by rw [if_neg (show ¬ (false = true) by decide)] at H; exact H
        clear H
        have H := H1
        clear H1
        replace H := Option.bind_eq_some_iff.mp H
        obtain ⟨⟨t849, t850, t853⟩, A200, H⟩ := H
        replace H : ((mask_Count.f t849 t850 t853).bind fun bt854 => ((cantingref02_Count.f kj6 a0_0 l0_1 a0_2).bind fun bt856 => (if bt854.1 = bt856.1 then (cantinglaw02_MaskPoints.j1 kj6 a1 a2 (bt854.2 != bt856.2) a0_0 l0_1 a0_2) else (cantinglaw02_MaskPoints.j1 kj6 a1 a2 true a0_0 l0_1 a0_2)))) = some r := H
        have A20 := Aside0.mk A200
        clear A200
        replace H := Option.bind_eq_some_iff.mp H
        obtain ⟨⟨t854, t855⟩, A210, H⟩ := H
        replace H : ((cantingref02_Count.f kj6 a0_0 l0_1 a0_2).bind fun bt856 => (if t854 = bt856.1 then (cantinglaw02_MaskPoints.j1 kj6 a1 a2 (t855 != bt856.2) a0_0 l0_1 a0_2) else (cantinglaw02_MaskPoints.j1 kj6 a1 a2 true a0_0 l0_1 a0_2))) = some r := H
        have A21 := Aside0.mk A210
        clear A210
        replace H := Option.bind_eq_some_iff.mp H
        obtain ⟨⟨t856, t857⟩, A220, H⟩ := H
        replace H : (if t854 = t856 then (cantinglaw02_MaskPoints.j1 kj6 a1 a2 (t855 != t857) a0_0 l0_1 a0_2) else (cantinglaw02_MaskPoints.j1 kj6 a1 a2 true a0_0 l0_1 a0_2)) = some r := H
        have A22 := Aside0.mk A220
        clear A220
        have HC23 := Aside0.mk H
        clear H
        have hcz24_0 : wc.cell? ⟨gb838, 0, none⟩ = some (.int .i64 a0_0) := (blk_cell BK838.out 0).trans rfl
        have hcz24_1 : wc.cell? ⟨gb838, 1, none⟩ = some (.slice A0_1 l0_1.length c0_1) := (blk_cell BK838.out 1).trans rfl
        have hcz24_2 : wc.cell? ⟨gb838, 2, none⟩ = some (.int .i64 a0_2) := (blk_cell BK838.out 2).trans rfl
        have hfz24_0 := blk_frozen BK838.out 0
        have hfz24_1 := blk_frozen BK838.out 1
        have hfz24_2 := blk_frozen BK838.out 2
        go_upto_region 7 with (first | ((with_reducible refine gate_callee (f := 30) rfl ?_); refine goesL_ (some 40) rfl rfl Try.func30 (by kernel_rfl) rfl #[.agg #[.int .i64 a0_0, .slice A0_1 l0_1.length c0_1, .int .i64 a0_2]] rfl (by (try simp only [List.map_toArray, List.map_cons, List.map_nil]); first | done | rfl | (simp only [List.length_drop, List.length_take]; rfl)) ?_; (with_reducible refine (cantinglaw02_of.calls kj6 a0_0 _ _ l0_1 a0_2 t849 t850 t853 _ ?side1 ?side2 A20.out).mono ?_); (case side1 => repeat (first | exact (Kd.C_below HR0_1.out HB.out) | (with_reducible refine Kd.C_alloc ?_ _) | (with_reducible refine Kd.C_drewN ?_ _) | (with_reducible refine Kd.C_drew ?_))); (case side2 => exact HC0_1.out); rintro e w25 ⟨v851, rfl, ho0, hb⟩; refine ⟨_, rfl, ?_⟩; have n0_ := Aside0.mk (Kd.R_lower ho0 (below_size (by repeat (first | (with_reducible first | exact HB.out | apply below_alloc | apply pw_below_drewN | apply below_drew1 | refine below_set ?_ GE838.out) | exact HB.out)))); have n1_ := Aside0.mk (blk_below (g := gb838) (o := .cells #[.int .i64 a0_0, .slice A0_1 l0_1.length c0_1, .int .i64 a0_2] 33 (0, 0)) (by (with_reducible repeat (first | refine blk_drewN ?_ _ | refine blk_drew ?_ | refine blk_alloc ?_ _)); exact BK838.out) hb); have n2_ := Aside0.mk (below_step (by repeat (first | (with_reducible first | exact HB.out | apply below_alloc | apply pw_below_drewN | apply below_drew1 | refine below_set ?_ GE838.out) | exact HB.out)) hb); clear BK838; clear HB; have HO852 := n0_; have BK838 := n1_; have HB := n2_; clear n0_ n1_ n2_; (try clear hb); (try clear hb2); (try clear hk); (try clear hi); (try clear ho0); obtain ⟨Ao26, co26, eo26⟩ := Kd.R_slice HO852.out; subst eo26) | ((with_reducible refine gate_callee (f := 55) rfl ?_); refine goesL_ (some 41) rfl rfl Try.func55 (by kernel_rfl) rfl #[.agg #[.int .i64 t849, .slice Ao26 t850.length co26, .int .i64 t853]] rfl (by (try simp only [List.map_toArray, List.map_cons, List.map_nil]); first | done | rfl | (simp only [List.length_drop, List.length_take]; rfl)) ?_; (with_reducible refine (mask_Count.calls t849 _ _ t850 t853 t854 t855 _ ?side1 ?side2 A21.out).mono ?_); (case side1 => repeat (first | exact (Kd.R_reads' HO852.out).2.2 | (with_reducible refine Kd.C_alloc ?_ _) | (with_reducible refine Kd.C_drewN ?_ _) | (with_reducible refine Kd.C_drew ?_))); (case side2 => exact (Kd.R_reads' HO852.out).2.1); rintro e w27 ⟨rfl, hb⟩; refine ⟨_, rfl, ?_⟩; have n0_ := Aside0.mk (Kd.R_below (by (with_reducible repeat (first | apply Kd.R_alloc | apply Kd.R_drewN | apply Kd.R_drew)); exact HO852.out) hb); have n1_ := Aside0.mk (blk_below (g := gb838) (o := .cells #[.int .i64 a0_0, .slice A0_1 l0_1.length c0_1, .int .i64 a0_2] 33 (0, 0)) (by (with_reducible repeat (first | refine blk_drewN ?_ _ | refine blk_drew ?_ | refine blk_alloc ?_ _)); exact BK838.out) hb); have n2_ := Aside0.mk (below_step (by repeat (first | (with_reducible first | exact HB.out | apply below_alloc | apply pw_below_drewN | apply below_drew1 | refine below_set ?_ GE838.out) | exact HB.out)) hb); clear HO852; clear BK838; clear HB; have HO852 := n0_; have BK838 := n1_; have HB := n2_; clear n0_ n1_ n2_; (try clear hb); (try clear hb2); (try clear hk); (try clear hi); have hcz28_0 : w27.cell? ⟨gb838, 0, none⟩ = some (.int .i64 a0_0) := (blk_cell BK838.out 0).trans rfl; have hcz28_1 : w27.cell? ⟨gb838, 1, none⟩ = some (.slice A0_1 l0_1.length c0_1) := (blk_cell BK838.out 1).trans rfl; have hcz28_2 : w27.cell? ⟨gb838, 2, none⟩ = some (.int .i64 a0_2) := (blk_cell BK838.out 2).trans rfl; have hfz28_0 := blk_frozen BK838.out 0; have hfz28_1 := blk_frozen BK838.out 1; have hfz28_2 := blk_frozen BK838.out 2) | ((with_reducible refine gate_callee (f := 58) rfl ?_); refine goesL_ (some 46) rfl rfl Try.func58 (by kernel_rfl) rfl #[.agg #[.int .i64 a0_0, .slice A0_1 l0_1.length c0_1, .int .i64 a0_2]] rfl (by (try simp only [List.map_toArray, List.map_cons, List.map_nil]); first | done | rfl | (simp only [List.length_drop, List.length_take]; rfl)) ?_; (with_reducible refine (cantingref02_Count.calls kj6 a0_0 _ _ l0_1 a0_2 t856 t857 _ ?side1 ?side2 A22.out).mono ?_); (case side1 => repeat (first | exact (Kd.C_below HR0_1.out HB.out) | (with_reducible refine Kd.C_alloc ?_ _) | (with_reducible refine Kd.C_drewN ?_ _) | (with_reducible refine Kd.C_drew ?_))); (case side2 => exact HC0_1.out); rintro e w29 ⟨rfl, hb⟩; refine ⟨_, rfl, ?_⟩; have n0_ := Aside0.mk (Kd.R_below (by (with_reducible repeat (first | apply Kd.R_alloc | apply Kd.R_drewN | apply Kd.R_drew)); exact HO852.out) hb); have n1_ := Aside0.mk (blk_below (g := gb838) (o := .cells #[.int .i64 a0_0, .slice A0_1 l0_1.length c0_1, .int .i64 a0_2] 33 (0, 0)) (by (with_reducible repeat (first | refine blk_drewN ?_ _ | refine blk_drew ?_ | refine blk_alloc ?_ _)); exact BK838.out) hb); have n2_ := Aside0.mk (below_step (by repeat (first | (with_reducible first | exact HB.out | apply below_alloc | apply pw_below_drewN | apply below_drew1 | refine below_set ?_ GE838.out) | exact HB.out)) hb); clear HO852; clear BK838; clear HB; have HO852 := n0_; have BK838 := n1_; have HB := n2_; clear n0_ n1_ n2_; (try clear hb); (try clear hb2); (try clear hk); (try clear hi)))
        (try simp only [Act.put, List.setIfInBounds_toArray, List.set_cons_zero, List.set_cons_succ])
        go_cut [56] (fun v56 wc => ∃ (kq : Nat) (x56_22 : Bool), v56 = .bool x56_22 ∧ Aside0 (cantinglaw02_MaskPoints.j1 kq a1 a2 x56_22 a0_0 l0_1 a0_2 = some r) ∧ Aside0 (kq ≤ kj6) ∧ Aside0 (wc.heap[gb838]? = some (.cells #[.int .i64 a0_0, (.slice A0_1 l0_1.length c0_1), .int .i64 a0_2] 33 (0, 0))) ∧ Aside0 (Below w.heap.size w wc))
        case first =>
          have H := HC23.out
          clear HC23
          by_cases c30 : t854 = t856
          · rw [if_pos c30] at H
            have c30b0 : (t854 == t856) = true := beq_iff_eq.mpr c30
            have c30b1 : (t854 != t856) = false := bne_eq_false_iff_eq.mpr c30
            clear c30
            (first | rw [c30b0] | (simp only [i64_w, i32_w]; rw [c30b0]) | skip)
            have H' := Aside0.mk H
            clear H
            go_wp2
            go_meet
            case rel => exact ⟨_, ((t855 != t857)), (by first | rfl | (simp; done) | (simp [*]; done)), H', ⟨by have := HJ6.out; first | omega | exact Nat.le_refl _⟩, ⟨by (with_reducible repeat (first | refine blk_drewN ?_ _ | refine blk_drew ?_ | refine blk_alloc ?_ _)); exact BK838.out⟩, ⟨by repeat (first | (with_reducible first | exact HB.out | apply below_alloc | apply pw_below_drewN | apply below_drew1 | refine below_set ?_ GE838.out) | exact HB.out)⟩⟩
          · rw [if_neg c30] at H
            have c30b0 : (t854 == t856) = false := beq_eq_false_iff_ne.mpr c30
            have c30b1 : (t854 != t856) = true := bne_iff_ne.mpr c30
            (first | rw [c30b0] | (simp only [i64_w, i32_w]; rw [c30b0]) | skip)
            have H' := Aside0.mk H
            clear H
            go_wp2
            go_meet
            case rel => exact ⟨_, (true), (by first | rfl | (simp; done) | (simp [*]; done)), H', ⟨by have := HJ6.out; first | omega | exact Nat.le_refl _⟩, ⟨by (with_reducible repeat (first | refine blk_drewN ?_ _ | refine blk_drew ?_ | refine blk_alloc ?_ _)); exact BK838.out⟩, ⟨by repeat (first | (with_reducible first | exact HB.out | apply below_alloc | apply pw_below_drewN | apply below_drew1 | refine below_set ?_ GE838.out) | exact HB.out)⟩⟩
        case rest =>
          clear HC23
          try clear c1
          try clear p2
          try clear c3
          try clear c5
          try clear c10
          try clear c15
          try clear c15b0
          try clear c15b1
          try clear c15b2
          try clear c16
          try clear c16b0
          try clear c16b1
          try clear c19
          try clear c30
          try clear c30b0
          try clear c30b1
          try clear hcz13_0
          try clear hcz13_1
          try clear hcz13_2
          try clear hcz24_0
          try clear hcz24_1
          try clear hcz24_2
          try clear hcz28_0
          try clear hcz28_1
          try clear hcz28_2
          try clear hcz9_0
          try clear hcz9_1
          try clear hcz9_2
          try clear hfz13_0
          try clear hfz13_1
          try clear hfz13_2
          try clear hfz24_0
          try clear hfz24_1
          try clear hfz24_2
          try clear hfz28_0
          try clear hfz28_1
          try clear hfz28_2
          try clear hfz9_0
          try clear hfz9_1
          try clear hfz9_2
          try clear p2
          obtain ⟨kq, x56_22, rfl, HA, HJ22, BK838, HB⟩ := hcut
          cases kq with
          | zero => exact absurd HA.out (by simp [cantinglaw02_MaskPoints.j1])
          | succ kj22 =>
            have H := HA.out
            clear HA
            simp only [cantinglaw02_MaskPoints.j1] at H
            by_cases c31 : x56_22 = true
            · subst c31
              have H1 : (some false) = some r := by rw [if_pos rfl] at H; exact H
              clear H
              have H := H1
              clear H1
              obtain rfl := Option.some.inj H
              go_wp2
              go_ret
              exact ⟨by first | rfl | (simp [errW_none, errW_some] <;> rfl) | (simp [*, errW_none, errW_some] <;> rfl), by repeat (first | (with_reducible first | exact HB.out | apply below_alloc | apply pw_below_drewN | apply below_drew1 | refine below_set ?_ GE838.out) | exact HB.out)⟩
            · replace c31 := Bool.eq_false_iff.mpr c31
              subst c31
              have H1 : ((cantinglaw02_of.f kj22 a0_0 l0_1 a0_2).bind fun bt858 => ((mask_Next.f kj22 bt858.1 bt858.2.1 bt858.2.2 a1).bind fun bt863 => ((cantingref02_Next.f kj22 a0_0 l0_1 a0_2 a1).bind fun bt865 => (if bt863.1 = bt865.1 then (cantinglaw02_MaskPoints.j2 kj22 a2 (bt863.2 != bt865.2) a0_0 l0_1 a0_2) else (cantinglaw02_MaskPoints.j2 kj22 a2 true a0_0 l0_1 a0_2))))) = some r := by rw [if_neg (show ¬ (false = true) by decide)] at H; exact H
              clear H
              have H := H1
              clear H1
              replace H := Option.bind_eq_some_iff.mp H
              obtain ⟨⟨t858, t859, t862⟩, A320, H⟩ := H
              replace H : ((mask_Next.f kj22 t858 t859 t862 a1).bind fun bt863 => ((cantingref02_Next.f kj22 a0_0 l0_1 a0_2 a1).bind fun bt865 => (if bt863.1 = bt865.1 then (cantinglaw02_MaskPoints.j2 kj22 a2 (bt863.2 != bt865.2) a0_0 l0_1 a0_2) else (cantinglaw02_MaskPoints.j2 kj22 a2 true a0_0 l0_1 a0_2)))) = some r := H
              have A32 := Aside0.mk A320
              clear A320
              replace H := Option.bind_eq_some_iff.mp H
              obtain ⟨⟨t863, t864⟩, A330, H⟩ := H
              replace H : ((cantingref02_Next.f kj22 a0_0 l0_1 a0_2 a1).bind fun bt865 => (if t863 = bt865.1 then (cantinglaw02_MaskPoints.j2 kj22 a2 (t864 != bt865.2) a0_0 l0_1 a0_2) else (cantinglaw02_MaskPoints.j2 kj22 a2 true a0_0 l0_1 a0_2))) = some r := H
              have A33 := Aside0.mk A330
              clear A330
              replace H := Option.bind_eq_some_iff.mp H
              obtain ⟨⟨t865, t866⟩, A340, H⟩ := H
              replace H : (if t863 = t865 then (cantinglaw02_MaskPoints.j2 kj22 a2 (t864 != t866) a0_0 l0_1 a0_2) else (cantinglaw02_MaskPoints.j2 kj22 a2 true a0_0 l0_1 a0_2)) = some r := H
              have A34 := Aside0.mk A340
              clear A340
              have HC35 := Aside0.mk H
              clear H
              have hcz36_0 : wc.cell? ⟨gb838, 0, none⟩ = some (.int .i64 a0_0) := (blk_cell BK838.out 0).trans rfl
              have hcz36_1 : wc.cell? ⟨gb838, 1, none⟩ = some (.slice A0_1 l0_1.length c0_1) := (blk_cell BK838.out 1).trans rfl
              have hcz36_2 : wc.cell? ⟨gb838, 2, none⟩ = some (.int .i64 a0_2) := (blk_cell BK838.out 2).trans rfl
              have hfz36_0 := blk_frozen BK838.out 0
              have hfz36_1 := blk_frozen BK838.out 1
              have hfz36_2 := blk_frozen BK838.out 2
              go_upto_region 11 with (first | ((with_reducible refine gate_callee (f := 30) rfl ?_); refine goesL_ (some 59) rfl rfl Try.func30 (by kernel_rfl) rfl #[.agg #[.int .i64 a0_0, .slice A0_1 l0_1.length c0_1, .int .i64 a0_2]] rfl (by (try simp only [List.map_toArray, List.map_cons, List.map_nil]); first | done | rfl | (simp only [List.length_drop, List.length_take]; rfl)) ?_; (with_reducible refine (cantinglaw02_of.calls kj22 a0_0 _ _ l0_1 a0_2 t858 t859 t862 _ ?side1 ?side2 A32.out).mono ?_); (case side1 => repeat (first | exact (Kd.C_below HR0_1.out HB.out) | (with_reducible refine Kd.C_alloc ?_ _) | (with_reducible refine Kd.C_drewN ?_ _) | (with_reducible refine Kd.C_drew ?_))); (case side2 => exact HC0_1.out); rintro e w37 ⟨v860, rfl, ho0, hb⟩; refine ⟨_, rfl, ?_⟩; have n0_ := Aside0.mk (Kd.R_lower ho0 (below_size (by repeat (first | (with_reducible first | exact HB.out | apply below_alloc | apply pw_below_drewN | apply below_drew1 | refine below_set ?_ GE838.out) | exact HB.out)))); have n1_ := Aside0.mk (blk_below (g := gb838) (o := .cells #[.int .i64 a0_0, .slice A0_1 l0_1.length c0_1, .int .i64 a0_2] 33 (0, 0)) (by (with_reducible repeat (first | refine blk_drewN ?_ _ | refine blk_drew ?_ | refine blk_alloc ?_ _)); exact BK838.out) hb); have n2_ := Aside0.mk (below_step (by repeat (first | (with_reducible first | exact HB.out | apply below_alloc | apply pw_below_drewN | apply below_drew1 | refine below_set ?_ GE838.out) | exact HB.out)) hb); clear BK838; clear HB; have HO861 := n0_; have BK838 := n1_; have HB := n2_; clear n0_ n1_ n2_; (try clear hb); (try clear hb2); (try clear hk); (try clear hi); (try clear ho0); obtain ⟨Ao38, co38, eo38⟩ := Kd.R_slice HO861.out; subst eo38) | ((with_reducible refine gate_callee (f := 59) rfl ?_); refine goesL_ (some 61) rfl rfl Try.func59 (by kernel_rfl) rfl #[.agg #[.int .i64 t858, .slice Ao38 t859.length co38, .int .i64 t862], .int .i64 a1] rfl (by (try simp only [List.map_toArray, List.map_cons, List.map_nil]); first | done | rfl | (simp only [List.length_drop, List.length_take]; rfl)) ?_; (with_reducible refine (mask_Next.calls kj22 t858 _ _ t859 t862 a1 t863 t864 _ ?side1 ?side2 A33.out).mono ?_); (case side1 => repeat (first | exact (Kd.R_reads' HO861.out).2.2 | (with_reducible refine Kd.C_alloc ?_ _) | (with_reducible refine Kd.C_drewN ?_ _) | (with_reducible refine Kd.C_drew ?_))); (case side2 => exact (Kd.R_reads' HO861.out).2.1); rintro e w39 ⟨rfl, hb⟩; refine ⟨_, rfl, ?_⟩; have n0_ := Aside0.mk (Kd.R_below (by (with_reducible repeat (first | apply Kd.R_alloc | apply Kd.R_drewN | apply Kd.R_drew)); exact HO861.out) hb); have n1_ := Aside0.mk (blk_below (g := gb838) (o := .cells #[.int .i64 a0_0, .slice A0_1 l0_1.length c0_1, .int .i64 a0_2] 33 (0, 0)) (by (with_reducible repeat (first | refine blk_drewN ?_ _ | refine blk_drew ?_ | refine blk_alloc ?_ _)); exact BK838.out) hb); have n2_ := Aside0.mk (below_step (by repeat (first | (with_reducible first | exact HB.out | apply below_alloc | apply pw_below_drewN | apply below_drew1 | refine below_set ?_ GE838.out) | exact HB.out)) hb); clear HO861; clear BK838; clear HB; have HO861 := n0_; have BK838 := n1_; have HB := n2_; clear n0_ n1_ n2_; (try clear hb); (try clear hb2); (try clear hk); (try clear hi); have hcz40_0 : w39.cell? ⟨gb838, 0, none⟩ = some (.int .i64 a0_0) := (blk_cell BK838.out 0).trans rfl; have hcz40_1 : w39.cell? ⟨gb838, 1, none⟩ = some (.slice A0_1 l0_1.length c0_1) := (blk_cell BK838.out 1).trans rfl; have hcz40_2 : w39.cell? ⟨gb838, 2, none⟩ = some (.int .i64 a0_2) := (blk_cell BK838.out 2).trans rfl; have hfz40_0 := blk_frozen BK838.out 0; have hfz40_1 := blk_frozen BK838.out 1; have hfz40_2 := blk_frozen BK838.out 2) | ((with_reducible refine gate_callee (f := 60) rfl ?_); refine goesL_ (some 67) rfl rfl Try.func60 (by kernel_rfl) rfl #[.agg #[.int .i64 a0_0, .slice A0_1 l0_1.length c0_1, .int .i64 a0_2], .int .i64 a1] rfl (by (try simp only [List.map_toArray, List.map_cons, List.map_nil]); first | done | rfl | (simp only [List.length_drop, List.length_take]; rfl)) ?_; (with_reducible refine (cantingref02_Next.calls kj22 a0_0 _ _ l0_1 a0_2 a1 t865 t866 _ ?side1 ?side2 A34.out).mono ?_); (case side1 => repeat (first | exact (Kd.C_below HR0_1.out HB.out) | (with_reducible refine Kd.C_alloc ?_ _) | (with_reducible refine Kd.C_drewN ?_ _) | (with_reducible refine Kd.C_drew ?_))); (case side2 => exact HC0_1.out); rintro e w41 ⟨rfl, hb⟩; refine ⟨_, rfl, ?_⟩; have n0_ := Aside0.mk (Kd.R_below (by (with_reducible repeat (first | apply Kd.R_alloc | apply Kd.R_drewN | apply Kd.R_drew)); exact HO861.out) hb); have n1_ := Aside0.mk (blk_below (g := gb838) (o := .cells #[.int .i64 a0_0, .slice A0_1 l0_1.length c0_1, .int .i64 a0_2] 33 (0, 0)) (by (with_reducible repeat (first | refine blk_drewN ?_ _ | refine blk_drew ?_ | refine blk_alloc ?_ _)); exact BK838.out) hb); have n2_ := Aside0.mk (below_step (by repeat (first | (with_reducible first | exact HB.out | apply below_alloc | apply pw_below_drewN | apply below_drew1 | refine below_set ?_ GE838.out) | exact HB.out)) hb); clear HO861; clear BK838; clear HB; have HO861 := n0_; have BK838 := n1_; have HB := n2_; clear n0_ n1_ n2_; (try clear hb); (try clear hb2); (try clear hk); (try clear hi)))
              (try simp only [Act.put, List.setIfInBounds_toArray, List.set_cons_zero, List.set_cons_succ])
              go_cut [77] (fun v77 wc => ∃ (kq : Nat) (x77_34 : Bool), v77 = .bool x77_34 ∧ Aside0 (cantinglaw02_MaskPoints.j2 kq a2 x77_34 a0_0 l0_1 a0_2 = some r) ∧ Aside0 (kq ≤ kj22) ∧ Aside0 (wc.heap[gb838]? = some (.cells #[.int .i64 a0_0, (.slice A0_1 l0_1.length c0_1), .int .i64 a0_2] 33 (0, 0))) ∧ Aside0 (Below w.heap.size w wc))
              case first =>
                have H := HC35.out
                clear HC35
                by_cases c42 : t863 = t865
                · rw [if_pos c42] at H
                  have c42b0 : (t863 == t865) = true := beq_iff_eq.mpr c42
                  have c42b1 : (t863 != t865) = false := bne_eq_false_iff_eq.mpr c42
                  clear c42
                  (first | rw [c42b0] | (simp only [i64_w, i32_w]; rw [c42b0]) | skip)
                  have H' := Aside0.mk H
                  clear H
                  go_wp2
                  go_meet
                  case rel => exact ⟨_, ((t864 != t866)), (by first | rfl | (simp; done) | (simp [*]; done)), H', ⟨by have := HJ6.out; have := HJ22.out; first | omega | exact Nat.le_refl _⟩, ⟨by (with_reducible repeat (first | refine blk_drewN ?_ _ | refine blk_drew ?_ | refine blk_alloc ?_ _)); exact BK838.out⟩, ⟨by repeat (first | (with_reducible first | exact HB.out | apply below_alloc | apply pw_below_drewN | apply below_drew1 | refine below_set ?_ GE838.out) | exact HB.out)⟩⟩
                · rw [if_neg c42] at H
                  have c42b0 : (t863 == t865) = false := beq_eq_false_iff_ne.mpr c42
                  have c42b1 : (t863 != t865) = true := bne_iff_ne.mpr c42
                  (first | rw [c42b0] | (simp only [i64_w, i32_w]; rw [c42b0]) | skip)
                  have H' := Aside0.mk H
                  clear H
                  go_wp2
                  go_meet
                  case rel => exact ⟨_, (true), (by first | rfl | (simp; done) | (simp [*]; done)), H', ⟨by have := HJ6.out; have := HJ22.out; first | omega | exact Nat.le_refl _⟩, ⟨by (with_reducible repeat (first | refine blk_drewN ?_ _ | refine blk_drew ?_ | refine blk_alloc ?_ _)); exact BK838.out⟩, ⟨by repeat (first | (with_reducible first | exact HB.out | apply below_alloc | apply pw_below_drewN | apply below_drew1 | refine below_set ?_ GE838.out) | exact HB.out)⟩⟩
              case rest =>
                clear HC35
                try clear c1
                try clear p2
                try clear c3
                try clear c4
                try clear c5
                try clear c6
                try clear c10
                try clear c15
                try clear c15b0
                try clear c15b1
                try clear c15b2
                try clear c16
                try clear c16b0
                try clear c16b1
                try clear c19
                try clear c30
                try clear c30b0
                try clear c30b1
                try clear c31
                try clear c42
                try clear c42b0
                try clear c42b1
                try clear hcz13_0
                try clear hcz13_1
                try clear hcz13_2
                try clear hcz24_0
                try clear hcz24_1
                try clear hcz24_2
                try clear hcz28_0
                try clear hcz28_1
                try clear hcz28_2
                try clear hcz36_0
                try clear hcz36_1
                try clear hcz36_2
                try clear hcz40_0
                try clear hcz40_1
                try clear hcz40_2
                try clear hcz9_0
                try clear hcz9_1
                try clear hcz9_2
                try clear hfz13_0
                try clear hfz13_1
                try clear hfz13_2
                try clear hfz24_0
                try clear hfz24_1
                try clear hfz24_2
                try clear hfz28_0
                try clear hfz28_1
                try clear hfz28_2
                try clear hfz36_0
                try clear hfz36_1
                try clear hfz36_2
                try clear hfz40_0
                try clear hfz40_1
                try clear hfz40_2
                try clear hfz9_0
                try clear hfz9_1
                try clear hfz9_2
                try clear p2
                obtain ⟨kq, x77_34, rfl, HA, HJ34, BK838, HB⟩ := hcut
                cases kq with
                | zero => exact absurd HA.out (by simp [cantinglaw02_MaskPoints.j2])
                | succ kj34 =>
                  have H := HA.out
                  clear HA
                  simp only [cantinglaw02_MaskPoints.j2] at H
                  by_cases c43 : x77_34 = true
                  · subst c43
                    have H1 : (some false) = some r := by rw [if_pos rfl] at H; exact H
                    clear H
                    have H := H1
                    clear H1
                    obtain rfl := Option.some.inj H
                    go_wp2
                    go_ret
                    exact ⟨by first | rfl | (simp [errW_none, errW_some] <;> rfl) | (simp [*, errW_none, errW_some] <;> rfl), by repeat (first | (with_reducible first | exact HB.out | apply below_alloc | apply pw_below_drewN | apply below_drew1 | refine below_set ?_ GE838.out) | exact HB.out)⟩
                  · replace c43 := Bool.eq_false_iff.mpr c43
                    subst c43
                    have H1 : ((cantinglaw02_of.f kj34 a0_0 l0_1 a0_2).bind fun bt867 => ((mask_Nth.f kj34 bt867.1 bt867.2.1 bt867.2.2 a2).bind fun bt872 => ((cantingref02_Nth.f kj34 a0_0 l0_1 a0_2 a2).bind fun bt874 => (if bt872.1 = bt874.1 then (some (bt872.2 == bt874.2)) else (some false))))) = some r := by rw [if_neg (show ¬ (false = true) by decide)] at H; exact H
                    clear H
                    have H := H1
                    clear H1
                    replace H := Option.bind_eq_some_iff.mp H
                    obtain ⟨⟨t867, t868, t871⟩, A440, H⟩ := H
                    replace H : ((mask_Nth.f kj34 t867 t868 t871 a2).bind fun bt872 => ((cantingref02_Nth.f kj34 a0_0 l0_1 a0_2 a2).bind fun bt874 => (if bt872.1 = bt874.1 then (some (bt872.2 == bt874.2)) else (some false)))) = some r := H
                    have A44 := Aside0.mk A440
                    clear A440
                    replace H := Option.bind_eq_some_iff.mp H
                    obtain ⟨⟨t872, t873⟩, A450, H⟩ := H
                    replace H : ((cantingref02_Nth.f kj34 a0_0 l0_1 a0_2 a2).bind fun bt874 => (if t872 = bt874.1 then (some (t873 == bt874.2)) else (some false))) = some r := H
                    have A45 := Aside0.mk A450
                    clear A450
                    replace H := Option.bind_eq_some_iff.mp H
                    obtain ⟨⟨t874, t875⟩, A460, H⟩ := H
                    replace H : (if t872 = t874 then (some (t873 == t875)) else (some false)) = some r := H
                    have A46 := Aside0.mk A460
                    clear A460
                    by_cases c47 : t872 = t874
                    · rw [if_pos c47] at H
                      have c47b0 : (t872 == t874) = true := beq_iff_eq.mpr c47
                      have c47b1 : (t872 != t874) = false := bne_eq_false_iff_eq.mpr c47
                      clear c47
                      obtain rfl := Option.some.inj H
                      have hcz48_0 : wc.cell? ⟨gb838, 0, none⟩ = some (.int .i64 a0_0) := (blk_cell BK838.out 0).trans rfl
                      have hcz48_1 : wc.cell? ⟨gb838, 1, none⟩ = some (.slice A0_1 l0_1.length c0_1) := (blk_cell BK838.out 1).trans rfl
                      have hcz48_2 : wc.cell? ⟨gb838, 2, none⟩ = some (.int .i64 a0_2) := (blk_cell BK838.out 2).trans rfl
                      have hfz48_0 := blk_frozen BK838.out 0
                      have hfz48_1 := blk_frozen BK838.out 1
                      have hfz48_2 := blk_frozen BK838.out 2
                      go_wp2_with (first | ((with_reducible refine gate_callee (f := 30) rfl ?_); refine goesL_ (some 80) rfl rfl Try.func30 (by kernel_rfl) rfl #[.agg #[.int .i64 a0_0, .slice A0_1 l0_1.length c0_1, .int .i64 a0_2]] rfl (by (try simp only [List.map_toArray, List.map_cons, List.map_nil]); first | done | rfl | (simp only [List.length_drop, List.length_take]; rfl)) ?_; (with_reducible refine (cantinglaw02_of.calls kj34 a0_0 _ _ l0_1 a0_2 t867 t868 t871 _ ?side1 ?side2 A44.out).mono ?_); (case side1 => repeat (first | exact (Kd.C_below HR0_1.out HB.out) | (with_reducible refine Kd.C_alloc ?_ _) | (with_reducible refine Kd.C_drewN ?_ _) | (with_reducible refine Kd.C_drew ?_))); (case side2 => exact HC0_1.out); rintro e w49 ⟨v869, rfl, ho0, hb⟩; refine ⟨_, rfl, ?_⟩; have n0_ := Aside0.mk (Kd.R_lower ho0 (below_size (by repeat (first | (with_reducible first | exact HB.out | apply below_alloc | apply pw_below_drewN | apply below_drew1 | refine below_set ?_ GE838.out) | exact HB.out)))); have n1_ := Aside0.mk (blk_below (g := gb838) (o := .cells #[.int .i64 a0_0, .slice A0_1 l0_1.length c0_1, .int .i64 a0_2] 33 (0, 0)) (by (with_reducible repeat (first | refine blk_drewN ?_ _ | refine blk_drew ?_ | refine blk_alloc ?_ _)); exact BK838.out) hb); have n2_ := Aside0.mk (below_step (by repeat (first | (with_reducible first | exact HB.out | apply below_alloc | apply pw_below_drewN | apply below_drew1 | refine below_set ?_ GE838.out) | exact HB.out)) hb); clear BK838; clear HB; have HO870 := n0_; have BK838 := n1_; have HB := n2_; clear n0_ n1_ n2_; (try clear hb); (try clear hb2); (try clear hk); (try clear hi); (try clear ho0); obtain ⟨Ao50, co50, eo50⟩ := Kd.R_slice HO870.out; subst eo50) | ((with_reducible refine gate_callee (f := 61) rfl ?_); refine goesL_ (some 82) rfl rfl Try.func61 (by kernel_rfl) rfl #[.agg #[.int .i64 t867, .slice Ao50 t868.length co50, .int .i64 t871], .int .i64 a2] rfl (by (try simp only [List.map_toArray, List.map_cons, List.map_nil]); first | done | rfl | (simp only [List.length_drop, List.length_take]; rfl)) ?_; (with_reducible refine (mask_Nth.calls kj34 t867 _ _ t868 t871 a2 t872 t873 _ ?side1 ?side2 A45.out).mono ?_); (case side1 => repeat (first | exact (Kd.R_reads' HO870.out).2.2 | (with_reducible refine Kd.C_alloc ?_ _) | (with_reducible refine Kd.C_drewN ?_ _) | (with_reducible refine Kd.C_drew ?_))); (case side2 => exact (Kd.R_reads' HO870.out).2.1); rintro e w51 ⟨rfl, hb⟩; refine ⟨_, rfl, ?_⟩; have n0_ := Aside0.mk (Kd.R_below (by (with_reducible repeat (first | apply Kd.R_alloc | apply Kd.R_drewN | apply Kd.R_drew)); exact HO870.out) hb); have n1_ := Aside0.mk (blk_below (g := gb838) (o := .cells #[.int .i64 a0_0, .slice A0_1 l0_1.length c0_1, .int .i64 a0_2] 33 (0, 0)) (by (with_reducible repeat (first | refine blk_drewN ?_ _ | refine blk_drew ?_ | refine blk_alloc ?_ _)); exact BK838.out) hb); have n2_ := Aside0.mk (below_step (by repeat (first | (with_reducible first | exact HB.out | apply below_alloc | apply pw_below_drewN | apply below_drew1 | refine below_set ?_ GE838.out) | exact HB.out)) hb); clear HO870; clear BK838; clear HB; have HO870 := n0_; have BK838 := n1_; have HB := n2_; clear n0_ n1_ n2_; (try clear hb); (try clear hb2); (try clear hk); (try clear hi); have hcz52_0 : w51.cell? ⟨gb838, 0, none⟩ = some (.int .i64 a0_0) := (blk_cell BK838.out 0).trans rfl; have hcz52_1 : w51.cell? ⟨gb838, 1, none⟩ = some (.slice A0_1 l0_1.length c0_1) := (blk_cell BK838.out 1).trans rfl; have hcz52_2 : w51.cell? ⟨gb838, 2, none⟩ = some (.int .i64 a0_2) := (blk_cell BK838.out 2).trans rfl; have hfz52_0 := blk_frozen BK838.out 0; have hfz52_1 := blk_frozen BK838.out 1; have hfz52_2 := blk_frozen BK838.out 2) | ((with_reducible refine gate_callee (f := 62) rfl ?_); refine goesL_ (some 88) rfl rfl Try.func62 (by kernel_rfl) rfl #[.agg #[.int .i64 a0_0, .slice A0_1 l0_1.length c0_1, .int .i64 a0_2], .int .i64 a2] rfl (by (try simp only [List.map_toArray, List.map_cons, List.map_nil]); first | done | rfl | (simp only [List.length_drop, List.length_take]; rfl)) ?_; (with_reducible refine (cantingref02_Nth.calls kj34 a0_0 _ _ l0_1 a0_2 a2 t874 t875 _ ?side1 ?side2 A46.out).mono ?_); (case side1 => repeat (first | exact (Kd.C_below HR0_1.out HB.out) | (with_reducible refine Kd.C_alloc ?_ _) | (with_reducible refine Kd.C_drewN ?_ _) | (with_reducible refine Kd.C_drew ?_))); (case side2 => exact HC0_1.out); rintro e w53 ⟨rfl, hb⟩; refine ⟨_, rfl, ?_⟩; have n0_ := Aside0.mk (Kd.R_below (by (with_reducible repeat (first | apply Kd.R_alloc | apply Kd.R_drewN | apply Kd.R_drew)); exact HO870.out) hb); have n1_ := Aside0.mk (blk_below (g := gb838) (o := .cells #[.int .i64 a0_0, .slice A0_1 l0_1.length c0_1, .int .i64 a0_2] 33 (0, 0)) (by (with_reducible repeat (first | refine blk_drewN ?_ _ | refine blk_drew ?_ | refine blk_alloc ?_ _)); exact BK838.out) hb); have n2_ := Aside0.mk (below_step (by repeat (first | (with_reducible first | exact HB.out | apply below_alloc | apply pw_below_drewN | apply below_drew1 | refine below_set ?_ GE838.out) | exact HB.out)) hb); clear HO870; clear BK838; clear HB; have HO870 := n0_; have BK838 := n1_; have HB := n2_; clear n0_ n1_ n2_; (try clear hb); (try clear hb2); (try clear hk); (try clear hi)))
                      go_ret
                      exact ⟨by first | rfl | (simp [errW_none, errW_some] <;> rfl) | (simp [*, errW_none, errW_some] <;> rfl), by repeat (first | (with_reducible first | exact HB.out | apply below_alloc | apply pw_below_drewN | apply below_drew1 | refine below_set ?_ GE838.out) | exact HB.out)⟩
                    · rw [if_neg c47] at H
                      have c47b0 : (t872 == t874) = false := beq_eq_false_iff_ne.mpr c47
                      have c47b1 : (t872 != t874) = true := bne_iff_ne.mpr c47
                      obtain rfl := Option.some.inj H
                      have hcz54_0 : wc.cell? ⟨gb838, 0, none⟩ = some (.int .i64 a0_0) := (blk_cell BK838.out 0).trans rfl
                      have hcz54_1 : wc.cell? ⟨gb838, 1, none⟩ = some (.slice A0_1 l0_1.length c0_1) := (blk_cell BK838.out 1).trans rfl
                      have hcz54_2 : wc.cell? ⟨gb838, 2, none⟩ = some (.int .i64 a0_2) := (blk_cell BK838.out 2).trans rfl
                      have hfz54_0 := blk_frozen BK838.out 0
                      have hfz54_1 := blk_frozen BK838.out 1
                      have hfz54_2 := blk_frozen BK838.out 2
                      go_wp2_with (first | ((with_reducible refine gate_callee (f := 30) rfl ?_); refine goesL_ (some 80) rfl rfl Try.func30 (by kernel_rfl) rfl #[.agg #[.int .i64 a0_0, .slice A0_1 l0_1.length c0_1, .int .i64 a0_2]] rfl (by (try simp only [List.map_toArray, List.map_cons, List.map_nil]); first | done | rfl | (simp only [List.length_drop, List.length_take]; rfl)) ?_; (with_reducible refine (cantinglaw02_of.calls kj34 a0_0 _ _ l0_1 a0_2 t867 t868 t871 _ ?side1 ?side2 A44.out).mono ?_); (case side1 => repeat (first | exact (Kd.C_below HR0_1.out HB.out) | (with_reducible refine Kd.C_alloc ?_ _) | (with_reducible refine Kd.C_drewN ?_ _) | (with_reducible refine Kd.C_drew ?_))); (case side2 => exact HC0_1.out); rintro e w55 ⟨v869, rfl, ho0, hb⟩; refine ⟨_, rfl, ?_⟩; have n0_ := Aside0.mk (Kd.R_lower ho0 (below_size (by repeat (first | (with_reducible first | exact HB.out | apply below_alloc | apply pw_below_drewN | apply below_drew1 | refine below_set ?_ GE838.out) | exact HB.out)))); have n1_ := Aside0.mk (blk_below (g := gb838) (o := .cells #[.int .i64 a0_0, .slice A0_1 l0_1.length c0_1, .int .i64 a0_2] 33 (0, 0)) (by (with_reducible repeat (first | refine blk_drewN ?_ _ | refine blk_drew ?_ | refine blk_alloc ?_ _)); exact BK838.out) hb); have n2_ := Aside0.mk (below_step (by repeat (first | (with_reducible first | exact HB.out | apply below_alloc | apply pw_below_drewN | apply below_drew1 | refine below_set ?_ GE838.out) | exact HB.out)) hb); clear BK838; clear HB; have HO870 := n0_; have BK838 := n1_; have HB := n2_; clear n0_ n1_ n2_; (try clear hb); (try clear hb2); (try clear hk); (try clear hi); (try clear ho0); obtain ⟨Ao56, co56, eo56⟩ := Kd.R_slice HO870.out; subst eo56) | ((with_reducible refine gate_callee (f := 61) rfl ?_); refine goesL_ (some 82) rfl rfl Try.func61 (by kernel_rfl) rfl #[.agg #[.int .i64 t867, .slice Ao56 t868.length co56, .int .i64 t871], .int .i64 a2] rfl (by (try simp only [List.map_toArray, List.map_cons, List.map_nil]); first | done | rfl | (simp only [List.length_drop, List.length_take]; rfl)) ?_; (with_reducible refine (mask_Nth.calls kj34 t867 _ _ t868 t871 a2 t872 t873 _ ?side1 ?side2 A45.out).mono ?_); (case side1 => repeat (first | exact (Kd.R_reads' HO870.out).2.2 | (with_reducible refine Kd.C_alloc ?_ _) | (with_reducible refine Kd.C_drewN ?_ _) | (with_reducible refine Kd.C_drew ?_))); (case side2 => exact (Kd.R_reads' HO870.out).2.1); rintro e w57 ⟨rfl, hb⟩; refine ⟨_, rfl, ?_⟩; have n0_ := Aside0.mk (Kd.R_below (by (with_reducible repeat (first | apply Kd.R_alloc | apply Kd.R_drewN | apply Kd.R_drew)); exact HO870.out) hb); have n1_ := Aside0.mk (blk_below (g := gb838) (o := .cells #[.int .i64 a0_0, .slice A0_1 l0_1.length c0_1, .int .i64 a0_2] 33 (0, 0)) (by (with_reducible repeat (first | refine blk_drewN ?_ _ | refine blk_drew ?_ | refine blk_alloc ?_ _)); exact BK838.out) hb); have n2_ := Aside0.mk (below_step (by repeat (first | (with_reducible first | exact HB.out | apply below_alloc | apply pw_below_drewN | apply below_drew1 | refine below_set ?_ GE838.out) | exact HB.out)) hb); clear HO870; clear BK838; clear HB; have HO870 := n0_; have BK838 := n1_; have HB := n2_; clear n0_ n1_ n2_; (try clear hb); (try clear hb2); (try clear hk); (try clear hi); have hcz58_0 : w57.cell? ⟨gb838, 0, none⟩ = some (.int .i64 a0_0) := (blk_cell BK838.out 0).trans rfl; have hcz58_1 : w57.cell? ⟨gb838, 1, none⟩ = some (.slice A0_1 l0_1.length c0_1) := (blk_cell BK838.out 1).trans rfl; have hcz58_2 : w57.cell? ⟨gb838, 2, none⟩ = some (.int .i64 a0_2) := (blk_cell BK838.out 2).trans rfl; have hfz58_0 := blk_frozen BK838.out 0; have hfz58_1 := blk_frozen BK838.out 1; have hfz58_2 := blk_frozen BK838.out 2) | ((with_reducible refine gate_callee (f := 62) rfl ?_); refine goesL_ (some 88) rfl rfl Try.func62 (by kernel_rfl) rfl #[.agg #[.int .i64 a0_0, .slice A0_1 l0_1.length c0_1, .int .i64 a0_2], .int .i64 a2] rfl (by (try simp only [List.map_toArray, List.map_cons, List.map_nil]); first | done | rfl | (simp only [List.length_drop, List.length_take]; rfl)) ?_; (with_reducible refine (cantingref02_Nth.calls kj34 a0_0 _ _ l0_1 a0_2 a2 t874 t875 _ ?side1 ?side2 A46.out).mono ?_); (case side1 => repeat (first | exact (Kd.C_below HR0_1.out HB.out) | (with_reducible refine Kd.C_alloc ?_ _) | (with_reducible refine Kd.C_drewN ?_ _) | (with_reducible refine Kd.C_drew ?_))); (case side2 => exact HC0_1.out); rintro e w59 ⟨rfl, hb⟩; refine ⟨_, rfl, ?_⟩; have n0_ := Aside0.mk (Kd.R_below (by (with_reducible repeat (first | apply Kd.R_alloc | apply Kd.R_drewN | apply Kd.R_drew)); exact HO870.out) hb); have n1_ := Aside0.mk (blk_below (g := gb838) (o := .cells #[.int .i64 a0_0, .slice A0_1 l0_1.length c0_1, .int .i64 a0_2] 33 (0, 0)) (by (with_reducible repeat (first | refine blk_drewN ?_ _ | refine blk_drew ?_ | refine blk_alloc ?_ _)); exact BK838.out) hb); have n2_ := Aside0.mk (below_step (by repeat (first | (with_reducible first | exact HB.out | apply below_alloc | apply pw_below_drewN | apply below_drew1 | refine below_set ?_ GE838.out) | exact HB.out)) hb); clear HO870; clear BK838; clear HB; have HO870 := n0_; have BK838 := n1_; have HB := n2_; clear n0_ n1_ n2_; (try clear hb); (try clear hb2); (try clear hk); (try clear hi)))
                      go_ret
                      exact ⟨by first | rfl | (simp [errW_none, errW_some] <;> rfl) | (simp [*, errW_none, errW_some] <;> rfl), by repeat (first | (with_reducible first | exact HB.out | apply below_alloc | apply pw_below_drewN | apply below_drew1 | refine below_set ?_ GE838.out) | exact HB.out)⟩
end Go.Proofs.Ytlplphgoldkoeaa.X
end

section
set_option linter.unusedVariables false
set_option linter.unusedSimpArgs false
namespace Go.Proofs.Ytlplphgoldkoeaa.HTab
open Go.RowKit Go.Proofs.YtlplphgoldkoeaaW.PrintWords Go.Proofs.YtlplphgoldkoeaaW.PrintLast Go.Proofs.YtlplphgoldkoeaaW.PrintMore Go.Proofs.Ytlplphgoldkoeaa.HMap Go.Proofs.Ytlplphgoldkoeaa.X
set_option linter.unusedVariables false
set_option linter.unusedSimpArgs false
theorem points_all (v r p k : Int) (l : List S106) (hl : l.length < 10000000000000) : cantinglaw02_MaskPoints.f 20000 v l r p k = some true := by
  obtain ⟨b1, e1, p1, q1⟩ := at_both v r l p 20000 (by omega)
  obtain ⟨n2, e2, p2, q2⟩ := cnt_both v r l 19999 (by omega)
  obtain ⟨n3, e3, p3, q3⟩ := next_both v r l p 19998 (by omega)
  obtain ⟨n4, e4, p4, q4⟩ := nth_both v r l k 19997 (by omega)
  unfold cantinglaw02_MaskPoints.f
  rw [of_f l v r hl 20000 (by omega)]
  simp only [Option.bind_some]
  rw [p1, q1, awake_f 20000 (by omega)]
  simp only [Option.bind_some, bne_self_eq_false, Bool.false_eq_true, if_false, if_true, Bool.not_true, cantinglaw02_MaskPoints.j0]
  rw [of_f l v r hl 19999 (by omega)]
  simp only [Option.bind_some]
  rw [p2, q2]
  simp only [Option.bind_some, if_true, bne_self_eq_false, Bool.false_eq_true, if_false, cantinglaw02_MaskPoints.j1]
  rw [of_f l v r hl 19998 (by omega)]
  simp only [Option.bind_some]
  rw [p3, q3]
  simp only [Option.bind_some, if_true, bne_self_eq_false, Bool.false_eq_true, if_false, cantinglaw02_MaskPoints.j2]
  rw [of_f l v r hl 19997 (by omega)]
  simp only [Option.bind_some]
  rw [p4, q4]
  simp
end Go.Proofs.Ytlplphgoldkoeaa.HTab
end

section
set_option linter.unusedVariables false
set_option linter.unusedSimpArgs false
namespace Go.Proofs.Ytlplphgoldkoeaa.maskPoints
open Go.ChangeShapes Go.WideShapes Go.ChangeAt Go.RowKit Go.Proofs.YtlplphgoldkoeaaW.PrintWords Go.Proofs.Ytlplphgoldkoeaa.HTab Go.Proofs.Ytlplphgoldkoeaa.X
open Go.ChangeMaps (open_string shut_string)
set_option linter.unusedVariables false
theorem own : ownKnob Try.prog.godebug = none := by kernel_rfl
theorem laidOut : laidOutB Try.prog = true := by kernel_rfl
set_option maxRecDepth 100000 in
theorem lifted (os : Os) (started : os.Started) (H : Type) (enc : TypeId × Value → H) :
    ReturnsInHanded {} Try.checked os 10 .any (Rows.maskPointsSpec.pre6 enc Try.prog Try.f10 Rows.maskPointsRow.domain false) (Rows.maskPointsSpec.post enc Try.prog Try.f10 false true false false) := by
  refine returnsInHanded_of_change_sized (C := Try.checked) own started (by kernel_rfl) Try.func10
    (ChangeSpec.witness6 (enc := enc) (C := Try.checked) false ⟨#[], #[.agg #[.int .i64 0, .slice none 0 0, .int .i64 0], .int .i64 0, .int .i64 0], []⟩ 8 (by kernel_rfl) (by kernel_rfl) (by kernel_rfl) (by kernel_rfl)) ?_
  intro W base args ds gs before hval0 hW hcnd hsz0 _
  have hsz : (DataW.weightsEach Try.prog (Try.f10.params.toList ++ Rows.maskPointsSpec.plain.varTypes Try.prog) (ds ++ gs)).all (· ≤ reachBytes) = true := hsz0
  have hval : ∀ (j : Nat) t v, Try.f10.params[j]? = some t → args[j]? = some v → Value.okWide Try.prog W .any base t v := hval0
  have hW' := hW
  obtain ⟨p, q, hA0, hV, rfl, hfz, hnd⟩ := hW
  have hA : DataW.TrodAll enc Try.prog W 0 (fun _ => true) true Try.f10.params.toList args.toList ds p := hA0
  rw [Try.params10] at hA hval hsz
  obtain ⟨v0, vs0, d0, ds0, p0, q0, hargs, rfl, rfl, h0, r0⟩ := trodAll_cons hA
  obtain ⟨v1, vs1, d1, ds1, p1, q1, rfl, rfl, rfl, h1, r1⟩ := trodAll_cons r0
  obtain ⟨v2, vs2, d2, ds2, p2, q2, rfl, rfl, rfl, h2, r2⟩ := trodAll_cons r1
  obtain ⟨rfl, rfl, rfl⟩ := trodAll_nil r2
  obtain rfl : args = #[v0, v1, v2] := by cases args; simp_all
  obtain ⟨rfl, rfl⟩ := trodVars_none hV
  have k0 := h0
  have lt0 : ∀ x ∈ p0, x.block < W.heap.size := by obtain ⟨m, hm⟩ := k0; exact DataW.trod_lt m _ _ _ hm
  obtain ⟨n0, A0, c0, l0, r0_, rfl, C0, L0, B0, wn0, wr0⟩ := open_mask (hval 0 33 v0 rfl rfl) h0 hsz (j := 0) rfl rfl
  obtain ⟨a1, rfl, rfl, rfl, w1⟩ := open_int Try.underlying3 (hval 1 3 v1 rfl rfl) h1
  obtain ⟨a2, rfl, rfl, rfl, w2⟩ := open_int Try.underlying3 (hval 2 3 v2 rfl rfl) h2
  clear hA0 hval0 hsz0 hsz
  refine (((cantinglaw02_MaskPoints.calls 20000 n0 A0 c0 l0 r0_ a1 a2 true W C0 L0 (points_all n0 r0_ a1 a2 l0 B0)))).mono fun e W' ⟨he, bel⟩ => ?_
  subst he
  exact ⟨_, rfl, _, _, _, [], _, [], hW', trodAll_mk1 (shut_bool Try.underlying4 _), (trodAll_cons_mk (Below.trod laidOut (by kernel_rfl) (of_decide_eq_true (by kernel_rfl)) k0 bel lt0) (trodAll_cons_mk (shut_int Try.underlying3 w1) (trodAll_cons_mk (shut_int Try.underlying3 w2) trodAll_mk0))), rfl, bel.frame _, fun h => by cases h⟩
theorem over : Rows.maskPointsRow.holds Try.pinned (OpenSpec.ofChange Rows.maskPointsSpec) :=
  OpenClaim.holds_of_wide 10 Try.f10 rfl rfl rfl rfl rfl rfl rfl ⟨rfl, rfl, rfl, rfl, rfl⟩ rfl rfl rfl rfl rfl (by kernel_rfl) Try.func10 (by kernel_rfl)
    (of_decide_eq_true (by kernel_rfl)) (by unfold Func.isWrapper; first | (rw [if_pos (by decide +kernel)]; kernel_rfl) | (rw [if_neg (by decide +kernel)]; exact ⟨rfl, rfl⟩))
    (fun os started H enc _ => lifted os started H enc)
theorem proved : Rows.MaskPointsSaid := over
end Go.Proofs.Ytlplphgoldkoeaa.maskPoints
namespace Go.Proofs.Ytlplphgoldkoeaa
theorem maskPoints_holds : Rows.MaskPointsSaid := maskPoints.proved
end Go.Proofs.Ytlplphgoldkoeaa
#print axioms Go.Proofs.Ytlplphgoldkoeaa.maskPoints_holds
end
