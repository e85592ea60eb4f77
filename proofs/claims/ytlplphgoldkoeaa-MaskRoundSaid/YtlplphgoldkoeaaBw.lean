/- Lemmas of the masks: part Bw. -/
import Derived.Test.YtlplphgoldkoeaaBn
import Derived.Test.YtlplphgoldkoeaaBu
import Derived.Test.YtlplphgoldkoeaaBv
section
set_option linter.unusedVariables false
set_option linter.unusedSimpArgs false
namespace Go.Proofs.Ytlplphgoldkoeaa.HTab
open Go.RowKit Go.Proofs.YtlplphgoldkoeaaW.PrintWords Go.Proofs.YtlplphgoldkoeaaW.PrintLast Go.Proofs.YtlplphgoldkoeaaW.PrintMore Go.Proofs.Ytlplphgoldkoeaa.HMap Go.Proofs.Ytlplphgoldkoeaa.X
set_option linter.unusedVariables false
set_option linter.unusedSimpArgs false
theorem build_VM (n : Nat) (hn : n ≤ 12) (f : Int → Bool) : ∃ out r, buildP n f = some (out, r) ∧ VM n out r ∧ tab n out r = (List.range (2 ^ n)).map (fun (i : Nat) => f i) ∧ out.length ≤ 4095 := by
  obtain ⟨out, r, ts, b1, b2, b3⟩ := build_of n hn f
  obtain ⟨l, r', ts', o1, o2, o3, o4⟩ := of_VM n hn ((List.range (2 ^ n)).map fun (i : Nat) => f i) (by simp)
  rw [b2] at o1
  simp only [Option.some.injEq, Prod.mk.injEq, BS.mk.injEq] at o1
  obtain ⟨q1, q2, q3⟩ := o1
  have q4 := toR_inj q2
  subst q1 q4
  exact ⟨out, r, b1, o2, o3, o4⟩
structure Moves (kk : Nat) (g h : Int → Int → Int × Int) : Prop where
  on : OnCloth kk g
  onh : OnCloth kk h
  gh : ∀ x y, 0 ≤ x → x < 2 ^ kk → 0 ≤ y → y < 2 ^ kk → g (h x y).1 (h x y).2 = (x, y)
  hg : ∀ x y, 0 ≤ x → x < 2 ^ kk → 0 ≤ y → y < 2 ^ kk → h (g x y).1 (g x y).2 = (x, y)
theorem emod_three {z P : Int} (h0 : 0 ≤ z) (h1 : z < 3 * P) : (z < P → z % P = z) ∧ (P ≤ z → z < 2 * P → z % P = z - P) ∧ (2 * P ≤ z → z % P = z - 2 * P) := by
  refine ⟨fun h => Int.emod_eq_of_lt h0 h, fun h h2 => ?_, fun h => ?_⟩
  · have := Int.sub_emod_right z P
    rw [← this]
    exact Int.emod_eq_of_lt (by omega) (by omega)
  · have e1 := Int.sub_emod_right z P
    have e2 := Int.sub_emod_right (z - P) P
    rw [← e1, ← e2]
    have : z - P - P = z - 2 * P := by omega
    rw [this]
    exact Int.emod_eq_of_lt (by omega) (by omega)
theorem tmod_two (a P : Int) (hP : 0 < P) : a.tmod P = a % P ∨ a.tmod P = a % P - P := by
  have hb := Int.emod_nonneg a (show P ≠ 0 by omega)
  have hl := Int.emod_lt_of_pos a hP
  rw [Int.tmod_eq_emod]
  split
  · exact .inl (by omega)
  · right
    have : (P.natAbs : Int) = P := by omega
    omega
def shH (dx dy P : Int) (x y : Int) : Int × Int := ((x + dx % P) % P, (y + dy % P) % P)
theorem sh_one {a P x : Int} (hP : 0 < P) (h0 : 0 ≤ x) (h1 : x < P) : ((x + a % P) % P - a.tmod P + P) % P = x ∧ ((x - a.tmod P + P) % P + a % P) % P = x := by
  have d0 := Int.emod_nonneg a (show P ≠ 0 by omega)
  have d1 := Int.emod_lt_of_pos a hP
  have m := tmod_two a P hP
  generalize a % P = d at *
  generalize a.tmod P = t at *
  constructor
  · have q := emod_three (z := x + d) (P := P) (by omega) (by omega)
    by_cases hc : x + d < P
    · rw [q.1 hc]
      have q2 := emod_three (z := x + d - t + P) (P := P) (by omega) (by omega)
      rcases m with rfl | rfl
      · rw [q2.2.1 (by omega) (by omega)]; omega
      · rw [q2.2.2 (by omega)]; omega
    · rw [q.2.1 (by omega) (by omega)]
      have q2 := emod_three (z := x + d - P - t + P) (P := P) (by omega) (by omega)
      rcases m with rfl | rfl
      · rw [q2.1 (by omega)]; omega
      · rw [q2.2.1 (by omega) (by omega)]; omega
  · have q := emod_three (z := x - t + P) (P := P) (by omega) (by omega)
    by_cases c1 : x - t + P < P
    · rw [q.1 c1]
      have q2 := emod_three (z := x - t + P + d) (P := P) (by omega) (by omega)
      rcases m with rfl | rfl
      · rw [q2.2.1 (by omega) (by omega)]; omega
      · omega
    · by_cases c2 : x - t + P < 2 * P
      · rw [q.2.1 (by omega) (by omega)]
        have q2 := emod_three (z := x - t + P - P + d) (P := P) (by omega) (by omega)
        rcases m with rfl | rfl
        · rw [q2.1 (by omega)]; omega
        · rw [q2.2.1 (by omega) (by omega)]; omega
      · rw [q.2.2 (by omega)]
        have q2 := emod_three (z := x - t + P - 2 * P + d) (P := P) (by omega) (by omega)
        rcases m with rfl | rfl
        · omega
        · rw [q2.1 (by omega)]; omega
theorem sh_moves (kk : Nat) (dx dy : Int) : Moves kk (shG dx dy (2 ^ kk)) (shH dx dy (2 ^ kk)) := by
  have hp := pow_pos kk
  refine ⟨shG_on kk dx dy, fun x y _ _ _ _ => ⟨Int.emod_nonneg _ (by omega), Int.emod_lt_of_pos _ hp, Int.emod_nonneg _ (by omega), Int.emod_lt_of_pos _ hp⟩, fun x y h0 h1 h2 h3 => ?_, fun x y h0 h1 h2 h3 => ?_⟩
  · unfold shG shH
    rw [(sh_one (a := dx) hp h0 h1).1, (sh_one (a := dy) hp h2 h3).1]
  · unfold shG shH
    rw [(sh_one (a := dx) hp h0 h1).2, (sh_one (a := dy) hp h2 h3).2]
def tuH (P x y : Int) : Int × Int := (P - 1 - y, x)
theorem tu_moves (kk : Nat) : Moves kk (tuG (2 ^ kk)) (tuH (2 ^ kk)) := by
  refine ⟨tuG_on kk, fun x y h0 h1 h2 h3 => ⟨by show 0 ≤ 2 ^ kk - 1 - y; omega, by show 2 ^ kk - 1 - y < 2 ^ kk; omega, h0, h1⟩, fun x y h0 h1 h2 h3 => ?_, fun x y h0 h1 h2 h3 => ?_⟩
  · unfold tuG tuH
    simp only [Prod.mk.injEq, true_and]
    omega
  · unfold tuG tuH
    simp only [Prod.mk.injEq, and_true]
    omega
def mvT (kk : Nat) (g : Int → Int → Int × Int) (v r : Int) (l : List S107) : List Bool := (List.range (2 ^ v.toNat)).map fun (i : Nat) => mvF kk 20 g v r l i
theorem mvT_len (kk : Nat) (g : Int → Int → Int × Int) (v r : Int) (l : List S107) : (mvT kk g v r l).length = 2 ^ v.toNat := by unfold mvT; simp
theorem mvT_get {v r : Int} {l : List S107} (h : VM v l r) (kk : Nat) (hv : v = 2 * kk) {g : Int → Int → Int × Int} (hg : OnCloth kk g) (p : Int) (p0 : 0 ≤ p) (p1 : p < 4 ^ kk) :
    ∃ cc : Int, mask_cell.f 20 kk (g (whP kk p 0 0).1 (whP kk p 0 0).2).1 (g (whP kk p 0 0).1 (whP kk p 0 0).2).2 = some cc ∧ 0 ≤ cc ∧ cc < 4 ^ kk ∧ (mvT kk g v r l).getD p.toNat false = (tab v l r).getD cc.toNat false := by
  have hk : kk ≤ 6 := by have := h.v12; omega
  have h42 := four_two kk v hv
  have hc := pow_cast v.toNat
  obtain ⟨q0, q1, q2, q3, _⟩ := where_ok kk hk p p0 p1
  obtain ⟨g0, g1, g2, g3⟩ := hg _ _ q0 q1 q2 q3
  obtain ⟨cc, c1, c2, c3, c4, c5⟩ := point_ok kk hk _ _ g0 g1 g2 g3
  have hh := holds_f v l r h.v12 (by have := h.root.2.2; omega) h.wf.wo h.pl cc.toNat (by omega) 20 (by omega)
  rw [Int.toNat_of_nonneg c3] at hh
  refine ⟨cc, c1, c3, c4, ?_⟩
  have hlt : p.toNat < 2 ^ v.toNat := by omega
  unfold mvT
  rw [List.getD_eq_getElem?_getD, List.getElem?_map, List.getElem?_range hlt]
  simp only [Option.map_some, Option.getD_some]
  unfold mvF
  rw [Int.toNat_of_nonneg p0, c1]
  simp only [Option.bind_some]
  rw [hh]
  rfl
def Inv (kk : Nat) (g : Int → Int → Int × Int) (T acc : List Bool) (cx cy : Int) : Prop :=
  acc.length = T.length ∧ ∀ p : Int, 0 ≤ p → p < 4 ^ kk → ((g (whP kk p 0 0).1 (whP kk p 0 0).2).1 < cx ∨ ((g (whP kk p 0 0).1 (whP kk p 0 0).2).1 = cx ∧ (g (whP kk p 0 0).1 (whP kk p 0 0).2).2 < cy)) → acc.getD p.toNat false = T.getD p.toNat false
theorem getD_set (l : List Bool) (i j : Nat) (b : Bool) (hi : i < l.length) : (l.set i b).getD j false = if i = j then b else l.getD j false := by
  rw [List.getD_eq_getElem?_getD, List.getElem?_set, List.getD_eq_getElem?_getD]
  by_cases h : i = j
  · subst h; simp [hi]
  · simp [h]
theorem Inv.step {v r : Int} {l : List S107} (hV : VM v l r) {kk : Nat} (hv : v = 2 * kk) {g h : Int → Int → Int × Int} (hm : Moves kk g h) {acc : List Bool} {cx cy : Int} (x0 : 0 ≤ cx) (x1 : cx < 2 ^ kk) (y0 : 0 ≤ cy) (y1 : cy < 2 ^ kk) (hI : Inv kk g (mvT kk g v r l) acc cx cy) :
    ∃ p q : Int, cantingref02_Point.f 20 kk (h cx cy).1 (h cx cy).2 = some p ∧ cantingref02_Point.f 20 kk cx cy = some q ∧ 0 ≤ p ∧ p < 4 ^ kk ∧ 0 ≤ q ∧ q < 4 ^ kk ∧ Inv kk g (mvT kk g v r l) (acc.set p.toNat ((tab v l r).getD q.toNat false)) cx (cy + 1) := by
  have hk : kk ≤ 6 := by have := hV.v12; omega
  have h42 := four_two kk v hv
  have hc := pow_cast v.toNat
  obtain ⟨a0, a1, a2, a3⟩ := hm.onh cx cy x0 x1 y0 y1
  obtain ⟨p, p1, p2, p3, p4, p5⟩ := point_ok kk hk _ _ a0 a1 a2 a3
  obtain ⟨q, q1, q2, q3, q4, q5⟩ := point_ok kk hk cx cy x0 x1 y0 y1
  have hgp : g (whP kk p 0 0).1 (whP kk p 0 0).2 = (cx, cy) := by rw [p5]; exact hm.gh cx cy x0 x1 y0 y1
  refine ⟨p, q, p2, q2, p3, p4, q3, q4, by rw [List.length_set]; exact hI.1, fun p' h0 h1 hpr => ?_⟩
  have hlen := hI.1
  rw [mvT_len] at hlen
  rw [getD_set _ _ _ _ (by omega)]
  by_cases he : p.toNat = p'.toNat
  · have hpp : p = p' := by omega
    subst hpp
    rw [if_pos rfl]
    obtain ⟨cc, c1, c2, c3, c4⟩ := mvT_get hV kk hv hm.on p p3 p4
    rw [hgp, q1] at c1
    injection c1 with c1
    rw [c4, c1]
  · rw [if_neg he]
    refine hI.2 p' h0 h1 ?_
    rcases hpr with hpr | ⟨e1, e2⟩
    · exact .inl hpr
    · by_cases hcy : (g (whP kk p' 0 0).1 (whP kk p' 0 0).2).2 = cy
      · exfalso
        obtain ⟨w0, w1, w2, w3, w4⟩ := where_ok kk hk p' h0 h1
        have hh := hm.hg _ _ w0 w1 w2 w3
        rw [e1, hcy] at hh
        have : whP kk p 0 0 = whP kk p' 0 0 := by rw [p5, hh]
        have w5 := (where_ok kk hk p p3 p4).2.2.2.2
        rw [this, w4] at w5
        injection w5 with w5
        omega
      · exact .inr ⟨e1, by omega⟩
end Go.Proofs.Ytlplphgoldkoeaa.HTab
end

section
set_option linter.unusedVariables false
set_option linter.unusedSimpArgs false
namespace Go.Proofs.Ytlplphgoldkoeaa.HTab
open Go.RowKit Go.Proofs.YtlplphgoldkoeaaW.PrintWords Go.Proofs.YtlplphgoldkoeaaW.PrintLast Go.Proofs.YtlplphgoldkoeaaW.PrintMore Go.Proofs.Ytlplphgoldkoeaa.HMap Go.Proofs.Ytlplphgoldkoeaa.X
set_option linter.unusedVariables false
set_option linter.unusedSimpArgs false
theorem Inv.row {kk : Nat} {g : Int → Int → Int × Int} (hg : OnCloth kk g) (hk : kk ≤ 6) {T acc : List Bool} {x : Int} (hI : Inv kk g T acc x (2 ^ kk)) : Inv kk g T acc (x + 1) 0 := by
  refine ⟨hI.1, fun p h0 h1 hp => hI.2 p h0 h1 ?_⟩
  obtain ⟨w0, w1, w2, w3, w4⟩ := where_ok kk hk p h0 h1
  have := hg _ _ w0 w1 w2 w3
  rcases hp with h | h <;> omega
section
variable {v r : Int} {l : List S106} (hV : VM v (l.map ofR) r) (kk : Nat) (hv : v = 2 * kk)
include hV hv
end
theorem moved_f {v r : Int} {l : List S107} (h : VM v l r) (kk : Nat) (hv : v = 2 * kk) (g : Int → Int → Int → Int × Int) : ∃ l' r', movedF g v l r = some (v, l', r', 0) ∧ VM v l' r' ∧ tab v l' r' = mvT kk (g (2 ^ kk)) v r l ∧ l'.length ≤ 4095 := by
  have hn := h.root.2.2
  have v12 := h.v12
  obtain ⟨out, r', b1, b2, b3, b4⟩ := build_VM v.toNat (by omega) (mvF kk 20 (g (2 ^ kk)) v r l)
  rw [Int.toNat_of_nonneg h.v0] at b1 b2 b3
  refine ⟨out, r', ?_, b2, b3, b4⟩
  unfold movedF
  rw [if_pos (by omega), vmB_true h, show (v / 2).toNat = kk by omega, if_pos (by simp; omega), b1]
  simp only [Option.bind_some]
  rw [if_pos (by omega)]
theorem moved_f_err {v r : Int} {l : List S107} (hl : l.length ≤ 1000000000) (h : ¬ (VM v l r ∧ v % 2 = 0)) (g : Int → Int → Int → Int × Int) : movedF g v l r = some (0, [], 0, 2) := by
  unfold movedF
  rw [if_pos hl, if_neg]
  intro hb
  simp only [Bool.and_eq_true, decide_eq_true_eq] at hb
  exact h ⟨vmB_iff.1 hb.1, hb.2⟩
end Go.Proofs.Ytlplphgoldkoeaa.HTab
end
