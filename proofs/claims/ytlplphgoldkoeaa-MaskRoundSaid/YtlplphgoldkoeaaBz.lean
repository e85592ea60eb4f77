/- Lemmas of the masks: part Bz. -/
import Derived.Test.YtlplphgoldkoeaaBw
import Derived.Test.YtlplphgoldkoeaaBx
section
set_option linter.unusedVariables false
set_option linter.unusedSimpArgs false
namespace Go.Proofs.Ytlplphgoldkoeaa.HTab
open Go.RowKit Go.Proofs.YtlplphgoldkoeaaW.PrintWords Go.Proofs.YtlplphgoldkoeaaW.PrintLast Go.Proofs.YtlplphgoldkoeaaW.PrintMore Go.Proofs.Ytlplphgoldkoeaa.HMap Go.Proofs.Ytlplphgoldkoeaa.X
set_option linter.unusedVariables false
set_option linter.unusedSimpArgs false
theorem whP_inj {kk : Nat} (hk : kk ≤ 6) {p q : Int} (p0 : 0 ≤ p) (p1 : p < 4 ^ kk) (q0 : 0 ≤ q) (q1 : q < 4 ^ kk) (h : whP kk p 0 0 = whP kk q 0 0) : p = q := by
  have a := (where_ok kk hk p p0 p1).2.2.2.2
  have b := (where_ok kk hk q q0 q1).2.2.2.2
  rw [h, b] at a
  injection a with a
  exact a.symm
def MvTo (kk : Nat) (g : Int → Int → Int × Int) (t t' : List Bool) : Prop :=
  t.length = 4 ^ kk ∧ t'.length = 4 ^ kk ∧ ∀ p : Int, 0 ≤ p → p < 4 ^ kk → ∃ q : Int, 0 ≤ q ∧ q < 4 ^ kk ∧ whP kk q 0 0 = g (whP kk p 0 0).1 (whP kk p 0 0).2 ∧ t'.getD p.toNat false = t.getD q.toNat false
theorem mvT_to {v r : Int} {l : List S107} (h : VM v l r) (kk : Nat) (hv : v = 2 * kk) {g : Int → Int → Int × Int} (hg : OnCloth kk g) : MvTo kk g (tab v l r) (mvT kk g v r l) := by
  have hk : kk ≤ 6 := by have := h.v12; omega
  have h42 := four_two kk v hv
  have hc := pow_cast v.toNat
  have hc4 : ((4 ^ kk : Nat) : Int) = 4 ^ kk := by simp
  refine ⟨by rw [tab_length]; omega, by rw [mvT_len]; omega, fun p p0 p1 => ?_⟩
  obtain ⟨q0, q1, q2, q3, _⟩ := where_ok kk hk p p0 p1
  obtain ⟨g0, g1, g2, g3⟩ := hg _ _ q0 q1 q2 q3
  obtain ⟨cc, c1, c2, c3, c4, c5⟩ := point_ok kk hk _ _ g0 g1 g2 g3
  obtain ⟨dd, d1, d2, d3, d4⟩ := mvT_get h kk hv hg p p0 p1
  rw [c1] at d1
  injection d1 with d1
  subst d1
  exact ⟨cc, c3, c4, c5, d4⟩
theorem MvTo.then {kk : Nat} (hk : kk ≤ 6) {g1 g2 : Int → Int → Int × Int} {t t1 t2 : List Bool} (h1 : MvTo kk g1 t t1) (h2 : MvTo kk g2 t1 t2) : MvTo kk (fun x y => g1 (g2 x y).1 (g2 x y).2) t t2 := by
  refine ⟨h1.1, h2.2.1, fun p p0 p1 => ?_⟩
  obtain ⟨q, a1, a2, a3, a4⟩ := h2.2.2 p p0 p1
  obtain ⟨s, b1, b2, b3, b4⟩ := h1.2.2 q a1 a2
  rw [a3] at b3
  exact ⟨s, b1, b2, b3, by rw [a4, b4]⟩
theorem MvTo.same {kk : Nat} (hk : kk ≤ 6) {g : Int → Int → Int × Int} {t t' : List Bool} (h : MvTo kk g t t') (hg : ∀ x y, 0 ≤ x → x < 2 ^ kk → 0 ≤ y → y < 2 ^ kk → g x y = (x, y)) : t' = t := by
  have hc4 : ((4 ^ kk : Nat) : Int) = 4 ^ kk := by simp
  refine list_ext (by rw [h.1, h.2.1]) (fun i hi => ?_)
  rw [h.2.1] at hi
  obtain ⟨q, a1, a2, a3, a4⟩ := h.2.2 i (by omega) (by omega)
  obtain ⟨q0, q1, q2, q3, _⟩ := where_ok kk hk i (by omega) (by omega)
  rw [hg _ _ q0 q1 q2 q3] at a3
  have : q = i := whP_inj hk a1 a2 (by omega) (by omega) a3
  rw [Int.toNat_natCast] at a4
  rw [a4, this, Int.toNat_natCast]
theorem inj_length {α : Type} [DecidableEq α] (R : α → α → Prop) : ∀ (A B : List α), A.Nodup → (∀ a ∈ A, ∃ b ∈ B, R a b) → (∀ a a' b, a ∈ A → a' ∈ A → R a b → R a' b → a = a') → A.length ≤ B.length
  | [], B, _, _, _ => Nat.zero_le _
  | a :: A, B, hn, hs, hi => by
    rw [List.nodup_cons] at hn
    obtain ⟨b, hb, hr⟩ := hs a List.mem_cons_self
    have := inj_length R A (B.erase b) hn.2 (fun x hx => by
      obtain ⟨y, hy, hxy⟩ := hs x (List.mem_cons_of_mem _ hx)
      refine ⟨y, ?_, hxy⟩
      have hne : y ≠ b := fun e => by
        subst e
        have := hi x a y (List.mem_cons_of_mem _ hx) List.mem_cons_self hxy hr
        subst this
        exact hn.1 hx
      exact (List.mem_erase_of_ne hne).2 hy) (fun x y z hx hy => hi x y z (List.mem_cons_of_mem _ hx) (List.mem_cons_of_mem _ hy))
    rw [List.length_erase_of_mem hb] at this
    have hp := List.length_pos_of_mem hb
    simp only [List.length_cons]
    omega
def wh (b : Bool) (t : List Bool) : List Nat := (List.range t.length).filter fun i => t.getD i false == b
theorem wh_count (b : Bool) (t : List Bool) : t.count b = (wh b t).length := by
  have ht : t = (List.range t.length).map fun i => t.getD i false := by
    apply List.ext_getElem (by simp)
    intro i h1 h2
    simp [List.getD_eq_getElem?_getD, h1]
  conv => lhs; rw [ht]
  unfold wh
  rw [← List.countP_eq_length_filter, List.count_eq_countP, List.countP_map]
  rfl
theorem wh_mem {b : Bool} {t : List Bool} {i : Nat} : i ∈ wh b t ↔ i < t.length ∧ t.getD i false = b := by
  unfold wh
  rw [List.mem_filter, List.mem_range]
  simp
theorem count_both : ∀ t : List Bool, t.count true + t.count false = t.length
  | [] => rfl
  | true :: t => by have := count_both t; simp; omega
  | false :: t => by have := count_both t; simp; omega
theorem MvTo.le {kk : Nat} (hk : kk ≤ 6) {g h : Int → Int → Int × Int} (hm : Moves kk g h) {t t' : List Bool} (hM : MvTo kk g t t') (b : Bool) : t'.count b ≤ t.count b := by
  have hc4 : ((4 ^ kk : Nat) : Int) = 4 ^ kk := by simp
  rw [wh_count, wh_count]
  refine inj_length (fun (p q : Nat) => whP kk q 0 0 = g (whP kk p 0 0).1 (whP kk p 0 0).2) (wh b t') (wh b t) (show ((List.range t'.length).filter fun i => t'.getD i false == b).Nodup from List.Nodup.sublist List.filter_sublist List.nodup_range) (fun p hp => ?_) (fun p p' q hp hp' h1 h2 => ?_)
  · rw [wh_mem, hM.2.1] at hp
    obtain ⟨q, a1, a2, a3, a4⟩ := hM.2.2 p (by omega) (by omega)
    refine ⟨q.toNat, ?_, ?_⟩
    · rw [wh_mem, hM.1]
      rw [Int.toNat_natCast] at a4
      exact ⟨by omega, by rw [← a4]; exact hp.2⟩
    · rw [Int.toNat_of_nonneg a1]; exact a3
  · rw [wh_mem, hM.2.1] at hp hp'
    rw [h1] at h2
    obtain ⟨q0, q1, q2, q3, _⟩ := where_ok kk hk p (by omega) (by omega)
    obtain ⟨s0, s1, s2, s3, _⟩ := where_ok kk hk p' (by omega) (by omega)
    have e1 := hm.hg _ _ q0 q1 q2 q3
    have e2 := hm.hg _ _ s0 s1 s2 s3
    rw [← h2] at e2
    have : whP kk p 0 0 = whP kk p' 0 0 := by rw [← Prod.eta (whP kk p 0 0), ← Prod.eta (whP kk p' 0 0), ← e1, ← e2]
    have := whP_inj hk (by omega) (by omega) (by omega) (by omega) this
    omega
theorem MvTo.cnt {kk : Nat} (hk : kk ≤ 6) {g h : Int → Int → Int × Int} (hm : Moves kk g h) {t t' : List Bool} (hM : MvTo kk g t t') : cntL t' = cntL t := by
  have a := hM.le hk hm true
  have b := hM.le hk hm false
  have c := count_both t
  have d := count_both t'
  have e := hM.1
  have f := hM.2.1
  unfold cntL
  omega
theorem sh_back (kk : Nat) (hk : kk ≤ 6) (dx dx' : Int) (h : (dx + dx') % 2 ^ kk = 0) (x : Int) (x0 : 0 ≤ x) (x1 : x < 2 ^ kk) : ((x - dx'.tmod (2 ^ kk) + 2 ^ kk) % 2 ^ kk - dx.tmod (2 ^ kk) + 2 ^ kk) % 2 ^ kk = x := by
  have hp := pow_pos kk
  generalize (2 : Int) ^ kk = P at *
  have d1 := Int.mul_tdiv_add_tmod dx P
  have d2 := Int.mul_tdiv_add_tmod dx' P
  generalize dx.tmod P = m at *
  generalize dx'.tmod P = m' at *
  generalize dx.tdiv P = q at *
  generalize dx'.tdiv P = q' at *
  rw [Int.add_emod_right, Int.sub_emod, Int.emod_emod_of_dvd _ (Int.dvd_refl P), ← Int.sub_emod]
  have e : x - m' + P - m = (x - (dx + dx')) + P * (q + q' + 1) := by
    rw [Int.mul_add, Int.mul_add, Int.mul_one]
    omega
  rw [e, Int.add_mul_emod_self_left, Int.sub_emod, h, Int.sub_zero, Int.emod_emod_of_dvd _ (Int.dvd_refl P)]
  exact Int.emod_eq_of_lt x0 x1
theorem neg_wrap (kk : Nat) (hk : kk ≤ 6) (dx : Int) (h : -2 ^ 63 ≤ dx ∧ dx < 2 ^ 63) : (dx + wrap64 (-dx)) % 2 ^ kk = 0 := by
  have h63 : (2 : Int) ^ 63 = 9223372036854775808 := by decide
  rw [h63] at h
  have : wrap64 (-dx) = -dx ∨ (dx = -9223372036854775808 ∧ wrap64 (-dx) = -9223372036854775808) := by unfold wrap64; omega
  rcases this with h1 | ⟨h1, h2⟩
  · rw [h1, Int.add_right_neg]; exact Int.zero_emod _
  · rw [h2, h1]
    have : kk = 0 ∨ kk = 1 ∨ kk = 2 ∨ kk = 3 ∨ kk = 4 ∨ kk = 5 ∨ kk = 6 := by omega
    rcases this with rfl | rfl | rfl | rfl | rfl | rfl | rfl <;> decide
theorem shift_back {kk : Nat} (hk : kk ≤ 6) {dx dy dx' dy' : Int} (hx : (dx + dx') % 2 ^ kk = 0) (hy : (dy + dy') % 2 ^ kk = 0) {t t1 t2 : List Bool} (h1 : MvTo kk (shG dx dy (2 ^ kk)) t t1) (h2 : MvTo kk (shG dx' dy' (2 ^ kk)) t1 t2) : t2 = t := by
  refine (h1.then hk h2).same hk (fun x y x0 x1 y0 y1 => ?_)
  unfold shG
  simp only
  rw [sh_back kk hk dx dx' hx x x0 x1, sh_back kk hk dy dy' hy y y0 y1]
theorem turn_back {kk : Nat} (hk : kk ≤ 6) {t t1 t2 t3 t4 : List Bool} (h1 : MvTo kk (tuG (2 ^ kk)) t t1) (h2 : MvTo kk (tuG (2 ^ kk)) t1 t2) (h3 : MvTo kk (tuG (2 ^ kk)) t2 t3) (h4 : MvTo kk (tuG (2 ^ kk)) t3 t4) : t4 = t := by
  refine (((h1.then hk h2).then hk h3).then hk h4).same hk (fun x y x0 x1 y0 y1 => ?_)
  unfold tuG
  simp only [Prod.mk.injEq]
  omega
end Go.Proofs.Ytlplphgoldkoeaa.HTab
end
