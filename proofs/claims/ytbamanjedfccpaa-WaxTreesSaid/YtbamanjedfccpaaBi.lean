/- Lemmas of the proof: part Bi. -/
import Derived.Test.YtbamanjedfccpaaBg
import Derived.Test.YtbamanjedfccpaaBh
import Derived.Test.YtbamanjedfccpaaBc
section
set_option linter.unusedVariables false
set_option linter.unusedSimpArgs false
namespace Go.Proofs.Ytbamanjedfccpaa.HTab
open Go.RowKit Go.Proofs.YtbamanjedfccpaaW.PrintWords Go.Proofs.YtbamanjedfccpaaW.PrintLast Go.Proofs.YtbamanjedfccpaaW.PrintMore Go.Proofs.Ytbamanjedfccpaa.X
set_option linter.unusedVariables false
set_option linter.unusedSimpArgs false
def tlN : List S35 → Nat → Int
  | [], _ => 0
  | a :: _, 0 => a.f0
  | a :: _, 1 => a.f1
  | _ :: l, n + 2 => tlN l n
def hdN : List S35 → Nat → Int
  | [], _ => 0
  | a :: _, 0 => a.f1
  | a :: _, 1 => a.f0
  | _ :: l, n + 2 => hdN l n
def xrN : Nat → Nat
  | 0 => 1
  | 1 => 0
  | n + 2 => xrN n + 2
theorem xrN_ne : ∀ n, xrN n ≠ n
  | 0 => by decide
  | 1 => by decide
  | n + 2 => by have := xrN_ne n; simp only [xrN]; omega
theorem xrN_lt : ∀ (n m : Nat), n < 2 * m → xrN n < 2 * m
  | 0, m, h => by simp only [xrN]; omega
  | 1, m, h => by simp only [xrN]; omega
  | n + 2, 0, h => by omega
  | n + 2, m + 1, h => by have := xrN_lt n m (by omega); simp only [xrN]; omega
theorem xrP_N : ∀ n : Nat, xrP (n : Int) = (xrN n : Int)
  | 0 => rfl
  | 1 => rfl
  | n + 2 => by
    have := xrP_N n
    unfold xrP at *
    simp only [xrN]
    split at this <;> split <;> omega
theorem rd_Arc_cons (a : S35) (l : List S35) (i : Int) (h : 0 ≤ i) : rd_T35 (a :: l) (i + 1) = rd_T35 l i := by
  unfold rd_T35
  rw [show (i + 1).toNat = i.toNat + 1 by omega]
  rfl
theorem endP_N : ∀ (l : List S35) (n : Nat), n < 2 * l.length → endP l (n : Int) = hdN l n
  | [], n, h => by simp at h
  | a :: l, 0, h => rfl
  | a :: l, 1, h => rfl
  | a :: l, n + 2, h => by
    have ih := endP_N l n (by simp at h; omega)
    simp only [hdN]
    rw [← ih]
    unfold endP
    rw [show ((n + 2 : Nat) : Int) % 2 = (n : Int) % 2 by omega, show ((n + 2 : Nat) : Int) / 2 = (n : Int) / 2 + 1 by omega, rd_Arc_cons a l _ (by omega)]
theorem tl_xr : ∀ (l : List S35) (n : Nat), tlN l (xrN n) = hdN l n
  | [], n => rfl
  | a :: l, 0 => rfl
  | a :: l, 1 => rfl
  | a :: l, n + 2 => tl_xr l n
def LOK (both : Bool) : List S35 → List Int → Prop
  | [], [] => True
  | a :: l, x :: y :: L => 0 ≤ x ∧ 0 ≤ y ∧ x + y = a.f2 + (if both then a.f2 else 0) ∧ LOK both l L
  | _, _ => False
def ind (T : Int → Bool) (v : Int) : Int := if T v then 1 else 0
def resF (T : Int → Bool) : List S35 → List Int → Int
  | a :: l, x :: y :: L => (if T a.f0 && !T a.f1 then x else 0) + (if T a.f1 && !T a.f0 then y else 0) + resF T l L
  | _, _ => 0
theorem LOK.len {both : Bool} : ∀ {l : List S35} {L : List Int}, LOK both l L → L.length = 2 * l.length
  | [], [], _ => rfl
  | a :: l, x :: y :: L, h => by have := LOK.len h.2.2.2; simp; omega
  | [], x :: L, h => h.elim
  | a :: l, [], h => h.elim
  | a :: l, [x], h => h.elim
theorem LOK.nonneg {both : Bool} : ∀ {l : List S35} {L : List Int}, LOK both l L → ∀ n, 0 ≤ L.getD n 0
  | [], [], _, n => by simp
  | a :: l, x :: y :: L, h, 0 => h.1
  | a :: l, x :: y :: L, h, 1 => h.2.1
  | a :: l, x :: y :: L, h, n + 2 => LOK.nonneg h.2.2.2 n
  | [], x :: L, h, _ => h.elim
  | a :: l, [], h, _ => h.elim
  | a :: l, [x], h, _ => h.elim
theorem LOK.le {both : Bool} {C : Int} : ∀ {l : List S35} {L : List Int}, LOK both l L → (∀ a ∈ l, 0 ≤ a.f2 ∧ a.f2 ≤ C) → ∀ n, n < L.length → L.getD n 0 ≤ 2 * C
  | [], [], _, _, n, hn => by simp at hn
  | a :: l, x :: y :: L, h, hc, 0, hn => by
    have := hc a (List.mem_cons_self ..)
    obtain ⟨h1, h2, h3, _⟩ := h
    show x ≤ 2 * C
    split at h3 <;> omega
  | a :: l, x :: y :: L, h, hc, 1, hn => by
    have := hc a (List.mem_cons_self ..)
    obtain ⟨h1, h2, h3, _⟩ := h
    show y ≤ 2 * C
    split at h3 <;> omega
  | a :: l, x :: y :: L, h, hc, n + 2, hn => LOK.le h.2.2.2 (fun b hb => hc b (List.mem_cons_of_mem _ hb)) n (by simpa using hn)
  | [], x :: L, h, _, _, _ => h.elim
  | a :: l, [], h, _, _, _ => h.elim
  | a :: l, [x], h, _, _, _ => h.elim
theorem resF_nonneg {both : Bool} (T : Int → Bool) : ∀ {l : List S35} {L : List Int}, LOK both l L → 0 ≤ resF T l L
  | [], [], _ => Int.le_refl _
  | a :: l, x :: y :: L, h => by
    have := resF_nonneg T h.2.2.2
    obtain ⟨h1, h2, _⟩ := h
    simp only [resF]
    split <;> split <;> omega
  | [], x :: L, h => h.elim
  | a :: l, [], h => h.elim
  | a :: l, [x], h => h.elim
def sendN (L : List Int) (n : Nat) (f : Int) : List Int := (L.set n (L.getD n 0 - f)).set (xrN n) (L.getD (xrN n) 0 + f)
theorem sendN_ok {both : Bool} (f : Int) (h0 : 0 ≤ f) : ∀ (l : List S35) (L : List Int) (n : Nat), LOK both l L → n < L.length → f ≤ L.getD n 0 → LOK both l (sendN L n f) ∧ ∀ T, resF T l (sendN L n f) = resF T l L - f * (ind T (tlN l n) - ind T (hdN l n))
  | [], [], n, h, hn, hf => by simp at hn
  | a :: l, x :: y :: L, 0, h, hn, hf => by
    obtain ⟨h1, h2, h3, h4⟩ := h
    have hf' : f ≤ x := hf
    refine ⟨⟨by omega, by show 0 ≤ y + f; omega, by show x - f + (y + f) = _; omega, h4⟩, fun T => ?_⟩
    show (if T a.f0 && !T a.f1 then x - f else 0) + (if T a.f1 && !T a.f0 then y + f else 0) + resF T l L = (if T a.f0 && !T a.f1 then x else 0) + (if T a.f1 && !T a.f0 then y else 0) + resF T l L - f * (ind T a.f0 - ind T a.f1)
    unfold ind
    cases T a.f0 <;> cases T a.f1 <;> simp <;> omega
  | a :: l, x :: y :: L, 1, h, hn, hf => by
    obtain ⟨h1, h2, h3, h4⟩ := h
    have hf' : f ≤ y := hf
    refine ⟨⟨by show 0 ≤ x + f; omega, by show 0 ≤ y - f; omega, by show x + f + (y - f) = _; omega, h4⟩, fun T => ?_⟩
    show (if T a.f0 && !T a.f1 then x + f else 0) + (if T a.f1 && !T a.f0 then y - f else 0) + resF T l L = (if T a.f0 && !T a.f1 then x else 0) + (if T a.f1 && !T a.f0 then y else 0) + resF T l L - f * (ind T a.f1 - ind T a.f0)
    unfold ind
    cases T a.f0 <;> cases T a.f1 <;> simp <;> omega
  | a :: l, x :: y :: L, n + 2, h, hn, hf => by
    obtain ⟨h1, h2, h3, h4⟩ := h
    obtain ⟨i1, i2⟩ := sendN_ok f h0 l L n h4 (by simpa using hn) hf
    refine ⟨⟨h1, h2, h3, i1⟩, fun T => ?_⟩
    have := i2 T
    show (if T a.f0 && !T a.f1 then x else 0) + (if T a.f1 && !T a.f0 then y else 0) + resF T l (sendN L n f) = (if T a.f0 && !T a.f1 then x else 0) + (if T a.f1 && !T a.f0 then y else 0) + resF T l L - f * (ind T (tlN l n) - ind T (hdN l n))
    rw [this]
    omega
  | [], x :: L, n, h, _, _ => h.elim
  | a :: l, [], n, h, _, _ => h.elim
  | a :: l, [x], n, h, _, _ => h.elim
theorem sendN_other (L : List Int) (n : Nat) (f : Int) (j : Nat) (h1 : j ≠ n) (h2 : j ≠ xrN n) : (sendN L n f).getD j 0 = L.getD j 0 := by
  unfold sendN
  simp [List.getD_eq_getElem?_getD, List.getElem?_set_ne (Ne.symm h1), List.getElem?_set_ne (Ne.symm h2)]
theorem sendP_N {both : Bool} {l : List S35} {L : List Int} {C : Int} (h : LOK both l L) (hc : ∀ a ∈ l, 0 ≤ a.f2 ∧ a.f2 ≤ C) (hC : C ≤ 1000000000) (n : Nat) (hn : n < L.length) (f : Int) (h0 : 0 ≤ f) (hf : f ≤ L.getD n 0) : sendP L (n : Int) f = sendN L n f := by
  have hx := xrN_lt n l.length (by rw [← h.len]; exact hn)
  have a1 := h.nonneg n
  have a2 := h.nonneg (xrN n)
  have b1 := h.le hc n hn
  have b2 := h.le hc (xrN n) (by rw [h.len]; exact hx)
  unfold sendP sendN
  rw [xrP_N]
  simp only [rd, Int.toNat_natCast]
  have e1 : wrap64 (L.getD n 0 - f) = L.getD n 0 - f := wrap_id (by omega) (by omega)
  rw [e1]
  have e2 : (L.set n (L.getD n 0 - f)).getD (xrN n) 0 = L.getD (xrN n) 0 := by simp [List.getD_eq_getElem?_getD, List.getElem?_set_ne (xrN_ne n).symm]
  rw [e2, wrap_id (x := L.getD (xrN n) 0 + f) (by omega) (by omega)]
def costF (both : Bool) (T : Int → Bool) : List S35 → Int
  | [] => 0
  | a :: l => (if T a.f0 && !T a.f1 then a.f2 else 0) + (if T a.f1 && !T a.f0 then (if both then a.f2 else 0) else 0) + costF both T l
theorem leftF_app (both : Bool) : ∀ (l : List S35) (L : List Int), leftF both l L = L ++ leftF both l []
  | [], L => by simp [leftF]
  | a :: l, L => by
    simp only [leftF]
    rw [leftF_app both l (L ++ _), leftF_app both l ([] ++ _)]
    simp
theorem leftF_ok {C : Int} (both : Bool) : ∀ (l : List S35), (∀ a ∈ l, 0 ≤ a.f2 ∧ a.f2 ≤ C) → LOK both l (leftF both l []) ∧ ∀ T, resF T l (leftF both l []) = costF both T l
  | [], _ => ⟨trivial, fun T => rfl⟩
  | a :: l, h => by
    obtain ⟨i1, i2⟩ := leftF_ok both l (fun b hb => h b (List.mem_cons_of_mem _ hb))
    have ha := h a (List.mem_cons_self ..)
    have e : leftF both (a :: l) [] = a.f2 :: (if both then a.f2 else 0) :: leftF both l [] := by
      simp only [leftF]
      rw [leftF_app]
      rfl
    rw [e]
    refine ⟨⟨ha.1, by cases both <;> simp; exact ha.1, rfl, i1⟩, fun T => ?_⟩
    simp only [resF, costF]
    rw [i2 T]
end Go.Proofs.Ytbamanjedfccpaa.HTab
end

section
set_option linter.unusedVariables false
set_option linter.unusedSimpArgs false
namespace Go.Proofs.Ytbamanjedfccpaa.HTab
open Go.RowKit Go.Proofs.YtbamanjedfccpaaW.PrintWords Go.Proofs.YtbamanjedfccpaaW.PrintLast Go.Proofs.YtbamanjedfccpaaW.PrintMore Go.Proofs.Ytbamanjedfccpaa.X
set_option linter.unusedVariables false
set_option linter.unusedSimpArgs false
theorem rd_set (d : List Int) (w x val : Int) (w0 : 0 ≤ w) (w1 : w < d.length) (x0 : 0 ≤ x) : rd (d.set w.toNat val) x = if x = w then val else rd d x := by
  unfold rd
  rw [List.getD_eq_getElem?_getD, List.getElem?_set, List.getD_eq_getElem?_getD]
  by_cases h : x = w
  · subst h
    rw [if_pos rfl, if_pos (by omega), if_pos rfl]
    rfl
  · rw [if_neg (by omega), if_neg h]
def negC : List Int → Nat
  | [] => 0
  | x :: d => (if x < 0 then 1 else 0) + negC d
theorem negC_set (val : Int) (hv : 0 ≤ val) : ∀ (d : List Int) (n : Nat), n < d.length → d.getD n 0 < 0 → negC (d.set n val) + 1 = negC d
  | [], n, h, _ => by simp at h
  | x :: d, 0, h, hx => by
    have hx' : x < 0 := hx
    show (if val < 0 then 1 else 0) + negC d + 1 = (if x < 0 then 1 else 0) + negC d
    rw [if_neg (by omega), if_pos hx']; omega
  | x :: d, n + 1, h, hx => by
    have := negC_set val hv d n (by simpa using h) hx
    show (if x < 0 then 1 else 0) + negC (d.set n val) + 1 = (if x < 0 then 1 else 0) + negC d
    omega
theorem negC_rep (n : Nat) : negC (List.replicate n (-1)) = n := by
  induction n with
  | zero => rfl
  | succ n ih => rw [List.replicate_succ]; simp only [negC]; rw [ih, if_pos (by decide)]; omega
section
variable (arcs : List S35) (left : List Int) (out : List (List Int)) (src : Int) (N : Nat)
structure LvI (Pnd : Int → Int → Prop) (q d : List Int) : Prop where
  len : d.length = N
  rng : ∀ x ∈ q, 0 ≤ x ∧ x < N ∧ 0 ≤ rd d x
  lo : ∀ x : Int, 0 ≤ x → x < N → -1 ≤ rd d x
  s0 : rd d src = 0
  uni : ∀ x : Int, 0 ≤ x → x < N → rd d x = 0 → x = src
  pred : ∀ x : Int, 0 ≤ x → x < N → 1 ≤ rd d x → ∃ y e : Int, 0 ≤ y ∧ y < N ∧ rd d y = rd d x - 1 ∧ e ∈ rowOf out y ∧ 0 < rd left e ∧ endP arcs e = x
  clo : ∀ y e : Int, 0 ≤ y → y < N → 0 ≤ rd d y → e ∈ rowOf out y → 0 < rd left e → ¬ Pnd y e → 0 ≤ rd d (endP arcs e)
  hi : ∀ x : Int, 0 ≤ x → x < N → rd d x + negC d ≤ N
variable {arcs left out src N}
theorem LvI.step (hN : N ≤ 1000) (hs : 0 ≤ src ∧ src < N) {v e : Int} {rest q d : List Int} (h : LvI arcs left out src N (fun y e' => y ∈ q ∨ y = v ∧ e' ∈ e :: rest) q d) (v0 : 0 ≤ v) (v1 : v < N) (dv : 0 ≤ rd d v) (he : e ∈ rowOf out v) (w0 : 0 ≤ endP arcs e) (w1 : endP arcs e < N) :
    LvI arcs left out src N (fun y e' => y ∈ (lvE arcs left v (q, d) e).1 ∨ y = v ∧ e' ∈ rest) (lvE arcs left v (q, d) e).1 (lvE arcs left v (q, d) e).2 ∧ 0 ≤ rd (lvE arcs left v (q, d) e).2 v ∧ (lvE arcs left v (q, d) e).1.length + negC (lvE arcs left v (q, d) e).2 = q.length + negC d := by
  unfold lvE
  dsimp only
  by_cases hc : 0 < rd left e ∧ rd d (endP arcs e) < 0
  · rw [if_pos hc]
    dsimp only
    obtain ⟨hl, hd⟩ := hc
    have hh := h.hi v v0 v1
    have hw : wrap64 (rd d v + 1) = rd d v + 1 := wrap_id (by omega) (by omega)
    rw [hw]
    have hr : ∀ x : Int, 0 ≤ x → rd (d.set (endP arcs e).toNat (rd d v + 1)) x = if x = endP arcs e then rd d v + 1 else rd d x := fun x x0 => rd_set d _ x _ w0 (by rw [h.len]; omega) x0
    have hn : negC (d.set (endP arcs e).toNat (rd d v + 1)) + 1 = negC d := negC_set _ (by omega) d _ (by rw [h.len]; omega) hd
    have hvw : v ≠ endP arcs e := fun q => by rw [← q] at hd; omega
    obtain ⟨w, hwd⟩ : ∃ w, w = endP arcs e := ⟨_, rfl⟩
    rw [← hwd] at hr hn hd w0 w1 hvw ⊢
    refine ⟨⟨by rw [List.length_set]; exact h.len, fun x hx => ?_, fun x x0 x1 => ?_, ?_, fun x x0 x1 hx => ?_, fun x x0 x1 hx => ?_, fun y e' y0 y1 hy he' hl' hp => ?_, fun x x0 x1 => ?_⟩, ?_, ?_⟩
    · rcases List.mem_append.1 hx with hx | hx
      · obtain ⟨a, b, c⟩ := h.rng x hx
        refine ⟨a, b, ?_⟩
        rw [hr x a]; split <;> omega
      · rw [List.mem_singleton] at hx
        subst hx
        exact ⟨w0, w1, by rw [hr x w0, if_pos rfl]; omega⟩
    · have := h.lo x x0 x1
      rw [hr x x0]; split <;> omega
    · rw [hr src hs.1, if_neg (fun q => by have := h.s0; rw [q] at this; omega)]
      exact h.s0
    · rw [hr x x0] at hx
      split at hx
      · omega
      · exact h.uni x x0 x1 hx
    · rw [hr x x0] at hx
      by_cases hxw : x = w
      · subst hxw
        exact ⟨v, e, v0, v1, by rw [hr v v0, hr x x0, if_neg hvw, if_pos rfl]; omega, he, hl, hwd.symm⟩
      · rw [if_neg hxw] at hx
        obtain ⟨y, e', y0, y1, hy, a, b, c⟩ := h.pred x x0 x1 hx
        refine ⟨y, e', y0, y1, ?_, a, b, c⟩
        rw [hr y y0, hr x x0, if_neg hxw, if_neg (fun q => by rw [q] at hy; omega)]
        exact hy
    · rw [hr y y0] at hy
      by_cases hyw : y = w
      · exact absurd (.inl (List.mem_append.2 (.inr (List.mem_singleton.2 hyw)))) hp
      · rw [if_neg hyw] at hy
        have hge : ∀ z : Int, 0 ≤ rd d z → 0 ≤ z → 0 ≤ rd (d.set w.toNat (rd d v + 1)) z := fun z hz z0 => by rw [hr z z0]; split <;> omega
        by_cases hee : y = v ∧ e' = e
        · obtain ⟨-, rfl⟩ := hee
          rw [← hwd, hr w w0, if_pos rfl]; omega
        · have h1 := h.clo y e' y0 y1 hy he' hl' (fun hq => by
            rcases hq with hq | ⟨hq, hm⟩
            · exact hp (.inl (List.mem_append.2 (.inl hq)))
            · rcases List.mem_cons.1 hm with hm | hm
              · exact hee ⟨hq, hm⟩
              · exact hp (.inr ⟨hq, hm⟩))
          by_cases hz : 0 ≤ endP arcs e'
          · exact hge _ h1 hz
          · have e1 : ∀ l : List Int, rd l (endP arcs e') = rd l 0 := fun l => by unfold rd; rw [show (endP arcs e').toNat = (0 : Int).toNat by omega]
            rw [e1] at h1 ⊢
            exact hge 0 h1 (by omega)
    · have := h.hi x x0 x1
      rw [hr x x0]; split <;> omega
    · rw [hr v v0, if_neg hvw]; exact dv
    · rw [List.length_append, List.length_singleton]; omega
  · rw [if_neg hc]
    dsimp only
    refine ⟨⟨h.len, h.rng, h.lo, h.s0, h.uni, h.pred, fun y e' y0 y1 hy he' hl' hp => ?_, h.hi⟩, dv, rfl⟩
    by_cases hee : y = v ∧ e' = e
    · obtain ⟨-, rfl⟩ := hee
      exact Int.not_lt.1 (fun q => hc ⟨hl', q⟩)
    · exact h.clo y e' y0 y1 hy he' hl' (fun hq => by
        rcases hq with hq | ⟨hq, hm⟩
        · exact hp (.inl hq)
        · rcases List.mem_cons.1 hm with hm | hm
          · exact hee ⟨hq, hm⟩
          · exact hp (.inr ⟨hq, hm⟩))
theorem LvI.fold (hN : N ≤ 1000) (hs : 0 ≤ src ∧ src < N) {v : Int} (v0 : 0 ≤ v) (v1 : v < N) : ∀ (rest q d : List Int), LvI arcs left out src N (fun y e' => y ∈ q ∨ y = v ∧ e' ∈ rest) q d → 0 ≤ rd d v → (∀ e ∈ rest, e ∈ rowOf out v ∧ 0 ≤ endP arcs e ∧ endP arcs e < N) →
    LvI arcs left out src N (fun y _ => y ∈ (rest.foldl (lvE arcs left v) (q, d)).1) (rest.foldl (lvE arcs left v) (q, d)).1 (rest.foldl (lvE arcs left v) (q, d)).2 ∧ (rest.foldl (lvE arcs left v) (q, d)).1.length + negC (rest.foldl (lvE arcs left v) (q, d)).2 = q.length + negC d
  | [], q, d, h, dv, hr => ⟨⟨h.len, h.rng, h.lo, h.s0, h.uni, h.pred, fun y e y0 y1 hy he hl hp => h.clo y e y0 y1 hy he hl (fun hq => by
      rcases hq with hq | ⟨_, hm⟩
      · exact hp hq
      · cases hm), h.hi⟩, rfl⟩
  | e :: rest, q, d, h, dv, hr => by
    obtain ⟨he, w0, w1⟩ := hr e (List.mem_cons_self ..)
    obtain ⟨h1, h2, h3⟩ := h.step hN hs v0 v1 dv he w0 w1
    obtain ⟨h4, h5⟩ := LvI.fold hN hs v0 v1 rest _ _ h1 h2 (fun e' he' => hr e' (List.mem_cons_of_mem _ he'))
    exact ⟨h4, h5.trans h3⟩
theorem lvQ_ok (hN : N ≤ 1000) (hs : 0 ≤ src ∧ src < N) (hrow : ∀ v e : Int, 0 ≤ v → v < N → e ∈ rowOf out v → 0 ≤ endP arcs e ∧ endP arcs e < N) : ∀ (k : Nat) (q d : List Int), LvI arcs left out src N (fun y _ => y ∈ q) q d → q.length + negC d ≤ k →
    ∃ D, lvQ arcs left out k q d = some D ∧ LvI arcs left out src N (fun _ _ => False) [] D
  | k, [], d, h, hk => ⟨d, lvQ_nil _ _ _ _ _, ⟨h.len, h.rng, h.lo, h.s0, h.uni, h.pred, fun y e y0 y1 hy he hl hp => h.clo y e y0 y1 hy he hl (fun hq => by cases hq), h.hi⟩⟩
  | 0, v :: q, d, h, hk => by simp at hk
  | k + 1, v :: q, d, h, hk => by
    obtain ⟨v0, v1, dv⟩ := h.rng v (List.mem_cons_self ..)
    have h1 : LvI arcs left out src N (fun y e' => y ∈ q ∨ y = v ∧ e' ∈ rowOf out v) q d :=
      ⟨h.len, fun x hx => h.rng x (List.mem_cons_of_mem _ hx), h.lo, h.s0, h.uni, h.pred, fun y e y0 y1 hy he hl hp => h.clo y e y0 y1 hy he hl (fun hq => by
        rcases List.mem_cons.1 hq with hq | hq
        · exact hp (.inr ⟨hq, by rw [← hq]; exact he⟩)
        · exact hp (.inl hq)), h.hi⟩
    obtain ⟨h2, h3⟩ := h1.fold hN hs v0 v1 (rowOf out v) q d dv (fun e he => ⟨he, hrow v e v0 v1 he⟩)
    simp only [lvQ]
    exact lvQ_ok hN hs hrow k _ _ h2 (by simp only [List.length_cons] at hk; omega)
end
structure LvD (arcs : List S35) (left : List Int) (out : List (List Int)) (src : Int) (N : Nat) (D : List Int) : Prop where
  len : D.length = N
  lo : ∀ x : Int, 0 ≤ x → x < N → -1 ≤ rd D x ∧ rd D x ≤ N
  s0 : rd D src = 0
  uni : ∀ x : Int, 0 ≤ x → x < N → rd D x = 0 → x = src
  pred : ∀ x : Int, 0 ≤ x → x < N → 1 ≤ rd D x → ∃ y e : Int, 0 ≤ y ∧ y < N ∧ rd D y = rd D x - 1 ∧ e ∈ rowOf out y ∧ 0 < rd left e ∧ endP arcs e = x
  clo : ∀ y e : Int, 0 ≤ y → y < N → 0 ≤ rd D y → e ∈ rowOf out y → 0 < rd left e → 0 ≤ rd D (endP arcs e)
theorem level_ok (arcs : List S35) (left : List Int) (out : List (List Int)) (src snk : Int) (N : Nat) (dep nxt : List Int) (hN : N ≤ 1000) (hs : 0 ≤ src ∧ src < N) (hrow : ∀ v e : Int, 0 ≤ v → v < N → e ∈ rowOf out v → 0 ≤ endP arcs e ∧ endP arcs e < N) (k : Nat) (hk : N ≤ k) :
    ∃ D, levelP k ⟨N, arcs, left, out, src, snk, dep, nxt⟩ = some D ∧ LvD arcs left out src N D := by
  have hr : ∀ x : Int, 0 ≤ x → x < N → rd ((List.replicate N (-1)).set src.toNat 0) x = if x = src then 0 else -1 := fun x x0 x1 => by
    rw [rd_set _ _ _ _ hs.1 (by simp; omega) x0]
    congr 1
    unfold rd
    rw [List.getD_eq_getElem?_getD, List.getElem?_replicate, if_pos (by omega)]
    rfl
  have hn : negC ((List.replicate N (-1)).set src.toNat 0) + 1 = N := by
    have := negC_set 0 (by decide) (List.replicate N (-1)) src.toNat (by simp; omega) (by rw [List.getD_eq_getElem?_getD, List.getElem?_replicate, if_pos (by omega)]; decide)
    rw [negC_rep] at this
    exact this
  have h0 : LvI arcs left out src N (fun y _ => y ∈ [src]) [src] ((List.replicate N (-1)).set src.toNat 0) := by
    refine ⟨by simp, fun x hx => ?_, fun x x0 x1 => ?_, ?_, fun x x0 x1 hx => ?_, fun x x0 x1 hx => ?_, fun y e y0 y1 hy he hl hp => ?_, fun x x0 x1 => ?_⟩
    · rw [List.mem_singleton] at hx
      subst hx
      exact ⟨hs.1, hs.2, by rw [hr x hs.1 hs.2, if_pos rfl]; omega⟩
    · rw [hr x x0 x1]; split <;> omega
    · rw [hr src hs.1 hs.2, if_pos rfl]
    · rw [hr x x0 x1] at hx
      split at hx
      · assumption
      · omega
    · rw [hr x x0 x1] at hx
      split at hx <;> omega
    · rw [hr y y0 y1] at hy
      split at hy
      · rename_i h; exact absurd (List.mem_singleton.2 h) hp
      · omega
    · rw [hr x x0 x1]; split <;> omega
  obtain ⟨D, hD, hI⟩ := lvQ_ok hN hs hrow k [src] _ h0 (by simp only [List.length_singleton]; omega)
  refine ⟨D, ?_, hI.len, fun x x0 x1 => ⟨hI.lo x x0 x1, by have := hI.hi x x0 x1; omega⟩, hI.s0, hI.uni, hI.pred, fun y e y0 y1 hy he hl => hI.clo y e y0 y1 hy he hl (fun q => q)⟩
  unfold levelP
  dsimp only
  rw [Int.toNat_natCast]
  exact hD
end Go.Proofs.Ytbamanjedfccpaa.HTab
end

section
set_option linter.unusedVariables false
set_option linter.unusedSimpArgs false
namespace Go.Proofs.Ytbamanjedfccpaa.HTab
open Go.RowKit Go.Proofs.YtbamanjedfccpaaW.PrintWords Go.Proofs.YtbamanjedfccpaaW.PrintLast Go.Proofs.YtbamanjedfccpaaW.PrintMore Go.Proofs.Ytbamanjedfccpaa.X
set_option linter.unusedVariables false
set_option linter.unusedSimpArgs false
def remF : List (List Int) → List Int → Nat
  | r :: R, x :: L => (r.length - x.toNat) + remF R L
  | _, _ => 0
theorem remF_set : ∀ (R : List (List Int)) (L : List Int) (n : Nat), n < R.length → n < L.length → 0 ≤ L.getD n 0 → L.getD n 0 < (R.getD n []).length → remF R (L.set n (L.getD n 0 + 1)) + 1 = remF R L
  | [], L, n, h, _, _, _ => by simp at h
  | r :: R, [], n, _, h, _, _ => by simp at h
  | r :: R, x :: L, 0, _, _, h0, h1 => by
    have h0' : 0 ≤ x := h0
    have h1' : x < r.length := h1
    show (r.length - (x + 1).toNat) + remF R L + 1 = (r.length - x.toNat) + remF R L
    omega
  | r :: R, x :: L, n + 1, hn, hl, h0, h1 => by
    have := remF_set R L n (by simpa using hn) (by simpa using hl) h0 h1
    show (r.length - x.toNat) + remF R (L.set n (L.getD n 0 + 1)) + 1 = (r.length - x.toNat) + remF R L
    omega
theorem remF_mono : ∀ (R : List (List Int)) (L L' : List Int), L'.length = L.length → (∀ n, n < L.length → L.getD n 0 ≤ L'.getD n 0) → remF R L' ≤ remF R L
  | [], L, L', _, _ => by simp [remF]
  | r :: R, [], [], _, _ => Nat.le_refl _
  | r :: R, [], y :: L', h, _ => by simp at h
  | r :: R, x :: L, [], h, _ => by simp at h
  | r :: R, x :: L, y :: L', h, hm => by
    have h0 : x ≤ y := hm 0 (by simp)
    have := remF_mono R L L' (by simpa using h) (fun n hn => hm (n + 1) (by simpa using hn))
    show (r.length - y.toNat) + remF R L' ≤ (r.length - x.toNat) + remF R L
    omega
structure PN (both : Bool) (N : Nat) (arcs : List S35) (out : List (List Int)) (D : List Int) (snk : Int) : Prop where
  small : N ≤ 1000
  caps : ∀ a ∈ arcs, 0 ≤ a.f2 ∧ a.f2 ≤ 1000000
  outN : out.length = N
  rl : ∀ x : Int, (rowOf out x).length ≤ 1000000
  rows : ∀ x e : Int, 0 ≤ x → x < N → e ∈ rowOf out x → ∃ n : Nat, e = n ∧ n < 2 * arcs.length ∧ tlN arcs n = x ∧ 0 ≤ hdN arcs n ∧ hdN arcs n < N
  dep : ∀ x : Int, 0 ≤ x → x < N → -1 ≤ rd D x ∧ rd D x ≤ N
  snk : 0 ≤ snk ∧ snk < N
def NOK (N : Nat) (out : List (List Int)) (nxt : List Int) : Prop := nxt.length = N ∧ ∀ x : Int, 0 ≤ x → x < N → 0 ≤ rd nxt x ∧ rd nxt x ≤ (rowOf out x).length
def DeadI (N : Nat) (arcs : List S35) (out : List (List Int)) (D : List Int) (snk : Int) (left nxt : List Int) : Prop :=
  ∀ x : Int, 0 ≤ x → x < N → x ≠ snk → ∀ j : Int, 0 ≤ j → j < rd nxt x → rd left (rd (rowOf out x) j) = 0 ∨ rd D (endP arcs (rd (rowOf out x) j)) ≠ rd D x + 1 ∨ (endP arcs (rd (rowOf out x) j) ≠ snk ∧ rd nxt (endP arcs (rd (rowOf out x) j)) = (rowOf out (endP arcs (rd (rowOf out x) j))).length)
structure PuR (both : Bool) (N : Nat) (arcs : List S35) (out : List (List Int)) (D : List Int) (snk : Int) (left nxt : List Int) (v m f : Int) (l1 n1 : List Int) : Prop where
  f0 : 0 ≤ f
  fm : f ≤ m
  lok : LOK both arcs l1
  res : ∀ T, resF T arcs l1 = resF T arcs left - f * (ind T v - ind T snk)
  keep : ∀ n, n < 2 * arcs.length → rd D (tlN arcs n) < rd D v → l1.getD n 0 = left.getD n 0
  nok : NOK N out n1
  mono : ∀ x : Int, 0 ≤ x → x < N → rd nxt x ≤ rd n1 x
  keepN : ∀ x : Int, 0 ≤ x → x < N → rd D x < rd D v → rd n1 x = rd nxt x
  dead : f = 0 → l1 = left ∧ (DeadI N arcs out D snk left nxt → DeadI N arcs out D snk left n1) ∧ v ≠ snk ∧ rd n1 v = (rowOf out v).length
section
variable {both : Bool} {N : Nat} {arcs : List S35} {out : List (List Int)} {D : List Int} {snk : Int}
theorem NOK.next (h : PN both N arcs out D snk) {nxt : List Int} (hn : NOK N out nxt) {v : Int} (v0 : 0 ≤ v) (v1 : v < N) (hlt : rd nxt v < (rowOf out v).length) :
    (∀ x : Int, 0 ≤ x → rd (nxt.set v.toNat (wrap64 (rd nxt v + 1))) x = if x = v then rd nxt v + 1 else rd nxt x) ∧ NOK N out (nxt.set v.toNat (wrap64 (rd nxt v + 1))) ∧ remF out (nxt.set v.toNat (wrap64 (rd nxt v + 1))) + 1 = remF out nxt := by
  have h1 := hn.2 v v0 v1
  have h2 := h.rl v
  have hw : wrap64 (rd nxt v + 1) = rd nxt v + 1 := wrap_id (by omega) (by omega)
  rw [hw]
  have hr : ∀ x : Int, 0 ≤ x → rd (nxt.set v.toNat (rd nxt v + 1)) x = if x = v then rd nxt v + 1 else rd nxt x := fun x x0 => rd_set nxt v x _ v0 (by rw [hn.1]; omega) x0
  refine ⟨hr, ⟨by rw [List.length_set]; exact hn.1, fun x x0 x1 => ?_⟩, ?_⟩
  · rw [hr x x0]
    split
    · rename_i hx; subst hx; omega
    · exact hn.2 x x0 x1
  · exact remF_set out nxt v.toNat (by rw [h.outN]; omega) (by rw [hn.1]; omega) h1.1 hlt
theorem DeadI.next {left nxt n2 : List Int} {v : Int} (hd : DeadI N arcs out D snk left nxt) (v0 : 0 ≤ v) (v1 : v < N) (hlt : rd nxt v < (rowOf out v).length) (hr : ∀ x : Int, 0 ≤ x → rd n2 x = if x = v then rd nxt v + 1 else rd nxt x)
    (hrng : ∀ x e : Int, 0 ≤ x → x < N → e ∈ rowOf out x → 0 ≤ endP arcs e) (hnn : 0 ≤ rd nxt v) (hle : ∀ x : Int, 0 ≤ x → x < N → rd nxt x ≤ (rowOf out x).length)
    (he : rd left (rd (rowOf out v) (rd nxt v)) = 0 ∨ rd D (endP arcs (rd (rowOf out v) (rd nxt v))) ≠ rd D v + 1 ∨ (endP arcs (rd (rowOf out v) (rd nxt v)) ≠ v ∧ endP arcs (rd (rowOf out v) (rd nxt v)) ≠ snk ∧ rd nxt (endP arcs (rd (rowOf out v) (rd nxt v))) = (rowOf out (endP arcs (rd (rowOf out v) (rd nxt v)))).length)) : DeadI N arcs out D snk left n2 := by
  intro x x0 x1 hx j j0 hj
  rw [hr x x0] at hj
  have conv : ∀ w : Int, 0 ≤ w → w ≠ v → rd n2 w = rd nxt w := fun w w0 hw => by rw [hr w w0, if_neg hw]
  by_cases hxv : x = v
  · subst hxv
    rw [if_pos rfl] at hj
    by_cases hjl : j = rd nxt x
    · subst hjl
      rcases he with he | he | ⟨a, b, c⟩
      · exact .inl he
      · exact .inr (.inl he)
      · refine .inr (.inr ⟨b, ?_⟩)
        rw [conv _ (hrng x _ x0 x1 (rd_mem _ _ hnn hlt)) a]
        exact c
    · rcases hd x x0 x1 hx j j0 (by omega) with he | he | ⟨b, c⟩
      · exact .inl he
      · exact .inr (.inl he)
      · refine .inr (.inr ⟨b, ?_⟩)
        have hm : rd (rowOf out x) j ∈ rowOf out x := rd_mem _ _ j0 (by omega)
        by_cases hw : endP arcs (rd (rowOf out x) j) = x
        · rw [hw] at c; omega
        · rw [conv _ (hrng x _ x0 x1 hm) hw]; exact c
  · rw [if_neg hxv] at hj
    rcases hd x x0 x1 hx j j0 hj with he | he | ⟨b, c⟩
    · exact .inl he
    · exact .inr (.inl he)
    · refine .inr (.inr ⟨b, ?_⟩)
      have hm : rd (rowOf out x) j ∈ rowOf out x := rd_mem _ _ j0 (by have := hle x x0 x1; omega)
      by_cases hw : endP arcs (rd (rowOf out x) j) = v
      · rw [hw] at c; omega
      · rw [conv _ (hrng x _ x0 x1 hm) hw]; exact c
theorem push_ok (left0 : List Int) (src : Int) (nxt0 : List Int) (h : PN both N arcs out D snk) : ∀ k,
    (∀ (left nxt : List Int) (v m : Int), LOK both arcs left → NOK N out nxt → 0 ≤ v → v < N → 0 < m → 2 * ((N : Int) + 1 - rd D v).toNat + remF out nxt + 2 ≤ k → ∃ f l1 n1, pushP ⟨N, arcs, left0, out, src, snk, D, nxt0⟩ k left nxt v m = some (f, l1, n1) ∧ PuR both N arcs out D snk left nxt v m f l1 n1) ∧
    (∀ (left nxt : List Int) (v m : Int), LOK both arcs left → NOK N out nxt → 0 ≤ v → v < N → 0 < m → v ≠ snk → 2 * ((N : Int) + 1 - rd D v).toNat + remF out nxt + 1 ≤ k → ∃ f l1 n1, pushL ⟨N, arcs, left0, out, src, snk, D, nxt0⟩ k left nxt v m = some (f, l1, n1) ∧ PuR both N arcs out D snk left nxt v m f l1 n1)
  | 0 => ⟨fun left nxt v m hl hn v0 v1 hm hk => by omega, fun left nxt v m hl hn v0 v1 hm hs hk => by omega⟩
  | k + 1 => by
    obtain ⟨ih1, ih2⟩ := push_ok left0 src nxt0 h k
    refine ⟨fun left nxt v m hl hn v0 v1 hm hk => ?_, fun left nxt v m hl hn v0 v1 hm hs hk => ?_⟩
    · simp only [pushP]
      by_cases hv : v = snk
      · rw [if_pos hv]
        refine ⟨m, left, nxt, rfl, by omega, Int.le_refl _, hl, fun T => ?_, fun _ _ _ => rfl, hn, fun _ _ _ => Int.le_refl _, fun _ _ _ _ => rfl, fun q => by omega⟩
        rw [hv, Int.sub_self, Int.mul_zero, Int.sub_zero]
      · rw [if_neg hv]
        exact ih2 left nxt v m hl hn v0 v1 hm hv (by omega)
    · simp only [pushL]
      have hnv := hn.2 v v0 v1
      rw [if_pos hnv.1]
      by_cases hlt : rd nxt v < (rowOf out v).length
      · rw [if_pos hlt]
        have hmem := rd_mem (rowOf out v) (rd nxt v) hnv.1 hlt
        obtain ⟨n, hen, hn2, htl, w0, w1⟩ := h.rows v _ v0 v1 hmem
        obtain ⟨nr, nn, nrem⟩ := hn.next h v0 v1 hlt
        have hhd : endP arcs (rd (rowOf out v) (rd nxt v)) = hdN arcs n := by rw [hen]; exact endP_N arcs n hn2
        have hrng : ∀ x e : Int, 0 ≤ x → x < N → e ∈ rowOf out x → 0 ≤ endP arcs e := fun x e x0 x1 he => by
          obtain ⟨n', h1, h2, h3, h4, h5⟩ := h.rows x e x0 x1 he
          rw [h1, endP_N arcs n' h2]; exact h4
        have hdv := h.dep v v0 v1
        have hwd : wrap64 (rd D v + 1) = rd D v + 1 := by have := h.small; exact wrap_id (by omega) (by omega)
        have skip : (rd left (rd (rowOf out v) (rd nxt v)) = 0 ∨ rd D (endP arcs (rd (rowOf out v) (rd nxt v))) ≠ rd D v + 1) → ∃ f l1 n1, pushL ⟨N, arcs, left0, out, src, snk, D, nxt0⟩ k left (nxt.set v.toNat (wrap64 (rd nxt v + 1))) v m = some (f, l1, n1) ∧ PuR both N arcs out D snk left nxt v m f l1 n1 := fun hsk => by
          obtain ⟨f, l1, n1, e, p⟩ := ih2 left _ v m hl nn v0 v1 hm hs (by omega)
          refine ⟨f, l1, n1, e, p.f0, p.fm, p.lok, p.res, p.keep, p.nok, fun x x0 x1 => ?_, fun x x0 x1 hx => ?_, fun hf => ?_⟩
          · have := p.mono x x0 x1
            rw [nr x x0] at this
            split at this
            · rename_i hx; subst hx; omega
            · exact this
          · rw [p.keepN x x0 x1 hx, nr x x0, if_neg (fun q => by rw [q] at hx; omega)]
          · obtain ⟨a, b, c⟩ := p.dead hf
            exact ⟨a, fun hd => b (hd.next v0 v1 hlt nr hrng hnv.1 (fun x x0 x1 => (hn.2 x x0 x1).2) (by rcases hsk with q | q; exact .inl q; exact .inr (.inl q))), c⟩
        by_cases q1 : rd left (rd (rowOf out v) (rd nxt v)) = 0
        · rw [if_pos q1]; exact skip (.inl q1)
        rw [if_neg q1, hwd]
        by_cases q2 : rd D (endP arcs (rd (rowOf out v) (rd nxt v))) = rd D v + 1
        · rw [if_neg (fun z => z q2)]
          have hle : rd left (rd (rowOf out v) (rd nxt v)) = left.getD n 0 := by rw [hen]; rfl
          have hl0 := hl.nonneg n
          rw [hhd] at q2 ⊢
          rw [hle] at q1 ⊢
          have hM : 0 < mn m (left.getD n 0) ∧ mn m (left.getD n 0) ≤ m ∧ mn m (left.getD n 0) ≤ left.getD n 0 := by unfold mn; split <;> omega
          obtain ⟨M, hMd⟩ : ∃ M, M = mn m (left.getD n 0) := ⟨_, rfl⟩
          rw [← hMd] at hM ⊢
          have hdw := h.dep (hdN arcs n) w0 w1
          obtain ⟨f, l1, n1, e, p⟩ := ih1 left nxt (hdN arcs n) M hl hn w0 w1 hM.1 (by omega)
          rw [e]
          dsimp only
          have hk1 : l1.getD n 0 = left.getD n 0 := p.keep n hn2 (by rw [htl, q2]; omega)
          have hl1 := p.lok.len
          by_cases q3 : f > 0
          · rw [if_pos q3, hen]
            have hf : f ≤ l1.getD n 0 := by have := p.fm; omega
            have hn3 : n < l1.length := by rw [hl1]; exact hn2
            rw [sendP_N p.lok h.caps (by decide) n hn3 f p.f0 hf]
            obtain ⟨s1, s2⟩ := sendN_ok (both := both) f p.f0 arcs l1 n p.lok hn3 hf
            refine ⟨f, _, n1, rfl, p.f0, by have := p.fm; omega, s1, fun T => ?_, fun n' hn' hd' => ?_, p.nok, p.mono, fun x x0 x1 hx => p.keepN x x0 x1 (by omega), fun hf => by omega⟩
            · rw [s2 T, p.res T, htl]
              simp only [Int.mul_sub]
              omega
            · rw [sendN_other l1 n f n' (fun z => by rw [z, htl] at hd'; omega) (fun z => by rw [z, tl_xr] at hd'; omega)]
              exact p.keep n' hn' (by omega)
          · rw [if_neg q3]
            have hf0 : f = 0 := by have := p.f0; omega
            subst hf0
            obtain ⟨d1, d2, d3, d4⟩ := p.dead rfl
            subst d1
            have hvn : rd n1 v = rd nxt v := p.keepN v v0 v1 (by omega)
            obtain ⟨nr1, nn1, nrem1⟩ := p.nok.next h v0 v1 (by rw [hvn]; exact hlt)
            have hrm : remF out n1 ≤ remF out nxt := remF_mono out nxt n1 (p.nok.1.trans hn.1.symm) (fun j hj => by
              have := p.mono (j : Int) (by omega) (by have := hn.1; omega)
              exact this)
            obtain ⟨f, l2, n2, e2, p2⟩ := ih2 l1 _ v m hl nn1 v0 v1 hm hs (by omega)
            refine ⟨f, l2, n2, e2, p2.f0, p2.fm, p2.lok, p2.res, p2.keep, p2.nok, fun x x0 x1 => ?_, fun x x0 x1 hx => ?_, fun hf => ?_⟩
            · have h1 := p2.mono x x0 x1
              have h2 := p.mono x x0 x1
              rw [nr1 x x0] at h1
              split at h1
              · rename_i hx; subst hx; omega
              · omega
            · rw [p2.keepN x x0 x1 hx, nr1 x x0, if_neg (fun q => by rw [q] at hx; omega)]
              exact p.keepN x x0 x1 (by omega)
            · obtain ⟨a, b, c⟩ := p2.dead hf
              refine ⟨a, fun hd => b ((d2 hd).next v0 v1 (by rw [hvn]; exact hlt) nr1 hrng (by rw [hvn]; exact hnv.1) (fun x x0 x1 => (p.nok.2 x x0 x1).2) (.inr (.inr ?_))), c⟩
              rw [hvn, hhd]
              exact ⟨fun z => by rw [z] at q2; omega, d3, d4⟩
        · rw [if_pos q2]; exact skip (.inr q2)
      · rw [if_neg hlt]
        refine ⟨0, left, nxt, rfl, Int.le_refl _, by omega, hl, fun T => by rw [Int.zero_mul, Int.sub_zero], fun _ _ _ => rfl, hn, fun _ _ _ => Int.le_refl _, fun _ _ _ _ => rfl, fun _ => ⟨rfl, id, hs, by omega⟩⟩
end
end Go.Proofs.Ytbamanjedfccpaa.HTab
end

section
set_option linter.unusedVariables false
set_option linter.unusedSimpArgs false
namespace Go.Proofs.Ytbamanjedfccpaa.HTab
open Go.RowKit Go.Proofs.YtbamanjedfccpaaW.PrintWords Go.Proofs.YtbamanjedfccpaaW.PrintLast Go.Proofs.YtbamanjedfccpaaW.PrintMore Go.Proofs.Ytbamanjedfccpaa.X
set_option linter.unusedVariables false
set_option linter.unusedSimpArgs false
theorem tlN_app : ∀ (pre l : List S35) (n : Nat), tlN (pre ++ l) (2 * pre.length + n) = tlN l n
  | [], l, n => by simp
  | a :: pre, l, n => by
    rw [show 2 * (a :: pre).length + n = (2 * pre.length + n) + 2 by simp; omega]
    exact tlN_app pre l n
theorem rowOf_set (O : List (List Int)) (u x : Int) (r : List Int) (u0 : 0 ≤ u) (u1 : u < O.length) (x0 : 0 ≤ x) : rowOf (O.set u.toNat r) x = if x = u then r else rowOf O x := by
  unfold rowOf
  rw [List.getD_eq_getElem?_getD, List.getElem?_set, List.getD_eq_getElem?_getD]
  by_cases h : x = u
  · subst h
    rw [if_pos rfl, if_pos (by omega), if_pos rfl]
    rfl
  · rw [if_neg (by omega), if_neg h]
def RowsRel (N : Nat) (arcs : List S35) (n0 : Nat) (O : List (List Int)) : Prop := O.length = N ∧ ∀ x : Int, 0 ≤ x → x < N → ∀ e : Int, e ∈ rowOf O x ↔ ∃ n, n < n0 ∧ e = (n : Int) ∧ tlN arcs n = x
theorem RowsRel.next {N : Nat} {arcs : List S35} {n0 : Nat} {O : List (List Int)} (h : RowsRel N arcs n0 O) {u : Int} (u0 : 0 ≤ u) (u1 : u < N) (hu : tlN arcs n0 = u) : RowsRel N arcs (n0 + 1) (O.set u.toNat (rowOf O u ++ [(n0 : Int)])) := by
  refine ⟨by rw [List.length_set]; exact h.1, fun x x0 x1 e => ?_⟩
  rw [rowOf_set O u x _ u0 (by rw [h.1]; exact u1) x0]
  have hx := h.2 x x0 x1 e
  by_cases hxu : x = u
  · subst hxu
    rw [if_pos rfl, List.mem_append, List.mem_singleton, hx]
    constructor
    · rintro (⟨n, a, b, c⟩ | hq)
      · exact ⟨n, by omega, b, c⟩
      · exact ⟨n0, by omega, hq, hu⟩
    · rintro ⟨n, a, b, c⟩
      by_cases hn : n = n0
      · subst hn; exact .inr b
      · exact .inl ⟨n, by omega, b, c⟩
  · rw [if_neg hxu, hx]
    constructor
    · rintro ⟨n, a, b, c⟩; exact ⟨n, by omega, b, c⟩
    · rintro ⟨n, a, b, c⟩
      refine ⟨n, ?_, b, c⟩
      by_cases hn : n = n0
      · subst hn; exact absurd (c.symm.trans hu) hxu
      · omega
theorem outF_rel {N : Nat} : ∀ (l pre : List S35) (O : List (List Int)), Good N l → RowsRel N (pre ++ l) (2 * pre.length) O → RowsRel N (pre ++ l) (2 * (pre ++ l).length) (outF l pre.length O)
  | [], pre, O, _, h => by simpa [outF] using h
  | a :: l, pre, O, hg, h => by
    obtain ⟨g0, g1, g2, g3⟩ := hg a (List.mem_cons_self ..)
    have h1 := h.next g0 g1 (by have := tlN_app pre (a :: l) 0; rw [Nat.add_zero] at this; rw [this]; rfl)
    have h2 := h1.next g2 g3 (by have := tlN_app pre (a :: l) 1; rw [this]; rfl)
    simp only [outF]
    have e : pre ++ a :: l = (pre ++ [a]) ++ l := by simp
    have h3 := outF_rel l (pre ++ [a]) _ (fun b hb => hg b (List.mem_cons_of_mem _ hb)) (by
      rw [← e, show 2 * (pre ++ [a]).length = 2 * pre.length + 1 + 1 by simp; omega]
      exact h2)
    rw [← e, show (pre ++ [a]).length = pre.length + 1 by simp] at h3
    rw [show (2 * (pre.length : Int)) = ((2 * pre.length : Nat) : Int) by omega, show ((2 * pre.length : Nat) : Int) + 1 = ((2 * pre.length + 1 : Nat) : Int) by omega]
    exact h3
abbrev outZ (N : Nat) (arcs : List S35) : List (List Int) := outF arcs 0 (List.replicate N [])
theorem outZ_rel {N : Nat} {arcs : List S35} (hg : Good N arcs) : RowsRel N arcs (2 * arcs.length) (outZ N arcs) := by
  have := outF_rel (N := N) arcs [] (List.replicate N []) hg ⟨by simp, fun x x0 x1 e => by
    have : rowOf (List.replicate N []) x = [] := by
      unfold rowOf
      rw [List.getD_eq_getElem?_getD, List.getElem?_replicate]
      split <;> rfl
    rw [this]
    simp⟩
  simpa using this
theorem tl_in {N : Nat} : ∀ {arcs : List S35}, Good N arcs → ∀ n, n < 2 * arcs.length → 0 ≤ tlN arcs n ∧ tlN arcs n < N ∧ 0 ≤ hdN arcs n ∧ hdN arcs n < N
  | [], _, n, h => by simp at h
  | a :: l, hg, 0, h => by have := hg a (List.mem_cons_self ..); exact ⟨this.1, this.2.1, this.2.2.1, this.2.2.2⟩
  | a :: l, hg, 1, h => by have := hg a (List.mem_cons_self ..); exact ⟨this.2.2.1, this.2.2.2, this.1, this.2.1⟩
  | a :: l, hg, n + 2, h => tl_in (arcs := l) (fun b hb => hg b (List.mem_cons_of_mem _ hb)) n (by simp at h; omega)
theorem outZ_PN {both : Bool} {N : Nat} {arcs : List S35} {D : List Int} {snk : Int} (hN : N ≤ 1000) (hl : arcs.length ≤ 1000) (hg : Good N arcs) (hc : ∀ a ∈ arcs, 0 ≤ a.f2 ∧ a.f2 ≤ 1000000) (hd : ∀ x : Int, 0 ≤ x → x < N → -1 ≤ rd D x ∧ rd D x ≤ N) (hs : 0 ≤ snk ∧ snk < N) : PN both N arcs (outZ N arcs) D snk := by
  have hr := outZ_rel hg
  have hR : RowsIn (outZ N arcs) (2 * arcs.length) := by
    have := outF_rows arcs 0 (List.replicate N []) (fun x hx => by rw [List.eq_of_mem_replicate hx]; exact ⟨by simp, fun e he => by cases he⟩)
    rwa [Nat.zero_add] at this
  refine ⟨hN, hc, hr.1, fun x => by have := (rowOf_in hR x).1; omega, fun x e x0 x1 he => ?_, hd, hs⟩
  obtain ⟨n, a, b, c⟩ := (hr.2 x x0 x1 e).1 he
  have := tl_in hg n a
  exact ⟨n, b, a, c, this.2.2⟩
theorem remF_le : ∀ (R : List (List Int)) (L : List Int) (M : Nat), (∀ r ∈ R, r.length ≤ M) → remF R L ≤ R.length * M
  | [], L, M, _ => by simp [remF]
  | r :: R, [], M, _ => by simp [remF]
  | r :: R, x :: L, M, h => by
    have := remF_le R L M (fun y hy => h y (List.mem_cons_of_mem _ hy))
    have h1 := h r (List.mem_cons_self ..)
    simp only [remF, List.length_cons]
    rw [Nat.succ_mul]
    omega
theorem first_push {both : Bool} {N : Nat} {arcs : List S35} {out : List (List Int)} {D : List Int} {src snk : Int} {left nxt : List Int} {f : Int} {l1 n1 : List Int} (h : PN both N arcs out D snk) (hL : LvD arcs left out src N D) (hs : 0 ≤ src ∧ src < N) (hk : 0 ≤ rd D snk) (hz : ∀ x : Int, 0 ≤ x → x < N → rd nxt x = 0) (hp : PuR both N arcs out D snk left nxt src maxI f l1 n1) : 0 < f := by
  rcases Int.lt_or_eq_of_le hp.f0 with h0 | h0
  · exact h0
  exfalso
  obtain ⟨e1, d2, d3, d4⟩ := hp.dead h0.symm
  have hD := d2 (fun x x0 x1 hx j j0 hj => by rw [hz x x0 x1] at hj; omega)
  have all : ∀ (d : Nat) (x : Int), 0 ≤ x → x < N → rd D x = d → x ≠ snk ∧ rd n1 x = (rowOf out x).length := by
    intro d
    induction d with
    | zero =>
      intro x x0 x1 hx
      rw [hL.uni x x0 x1 (by omega)]
      exact ⟨d3, d4⟩
    | succ d ih =>
      intro x x0 x1 hx
      obtain ⟨y, e, y0, y1, hy, he, hl, hex⟩ := hL.pred x x0 x1 (by omega)
      obtain ⟨i1, i2⟩ := ih y y0 y1 (by omega)
      obtain ⟨j, hj, hje⟩ := List.getElem_of_mem he
      have hrd : rd (rowOf out y) (j : Int) = e := by unfold rd; rw [Int.toNat_natCast, List.getD_eq_getElem?_getD, List.getElem?_eq_getElem hj, hje]; rfl
      rcases hD y y0 y1 i1 (j : Int) (by omega) (by rw [i2]; omega) with q | q | ⟨q, r⟩
      · rw [hrd] at q; omega
      · rw [hrd, hex] at q; omega
      · rw [hrd, hex] at q r
        exact ⟨q, r⟩
  have := all (rd D snk).toNat snk h.snk.1 h.snk.2 (by omega)
  exact this.1 rfl
structure FR (both : Bool) (N : Nat) (arcs : List S35) (out : List (List Int)) (src snk : Int) (left : List Int) (sum s : Int) (l1 d1 : List Int) : Prop where
  lok : LOK both arcs l1
  res : ∀ T, resF T arcs l1 = resF T arcs left - (s - sum) * (ind T src - ind T snk)
  le : sum ≤ s
  lv : LvD arcs l1 out src N d1
  no : rd d1 snk < 0
section
variable {both : Bool} {N : Nat} {arcs : List S35} {src snk : Int}
theorem fill_ok (left0 dep0 nxt0 : List Int) (hN : N ≤ 1000) (hl : arcs.length ≤ 1000) (hg : Good N arcs) (hc : ∀ a ∈ arcs, 0 ≤ a.f2 ∧ a.f2 ≤ 1000000) (hs : 0 ≤ src ∧ src < N) (ht : 0 ≤ snk ∧ snk < N) (hst : src ≠ snk) (C : Nat) (hC : 2 * (N + 2) + remF (outZ N arcs) (List.replicate N 0) + N + 10 ≤ C) : ∀ k,
    (∀ (left dep nxt : List Int) (sum : Int), LOK both arcs left → 0 ≤ sum → sum + resF (fun v => v == src) arcs left ≤ 4000000000 → 3 * (resF (fun v => v == src) arcs left).toNat + C ≤ k →
      ∃ s l1 d1 n1, fillO ⟨N, arcs, left0, outZ N arcs, src, snk, dep0, nxt0⟩ k left dep nxt sum = some (s, l1, d1, n1) ∧ FR both N arcs (outZ N arcs) src snk left sum s l1 d1) ∧
    (∀ (D left nxt : List Int) (f sum : Int), LOK both arcs left → NOK N (outZ N arcs) nxt → (∀ x : Int, 0 ≤ x → x < N → -1 ≤ rd D x ∧ rd D x ≤ N) → 0 ≤ sum → 0 ≤ f → sum + f + resF (fun v => v == src) arcs left ≤ 4000000000 → 3 * (resF (fun v => v == src) arcs left).toNat + C + (if f > 0 then 2 else 1) ≤ k →
      ∃ s l1 d1 n1, fillI ⟨N, arcs, left0, outZ N arcs, src, snk, dep0, nxt0⟩ k D left nxt f sum = some (s, l1, d1, n1) ∧ FR both N arcs (outZ N arcs) src snk left (sum + f) s l1 d1)
  | 0 => ⟨fun left dep nxt sum _ _ _ hk => by omega, fun D left nxt f sum _ _ _ _ _ _ hk => by split at hk <;> omega⟩
  | k + 1 => by
    obtain ⟨ih1, ih2⟩ := fill_ok left0 dep0 nxt0 hN hl hg hc hs ht hst C hC k
    have hT : ind (fun v => v == src) src - ind (fun v => v == src) snk = 1 := by
      unfold ind
      simp [Ne.symm hst]
    have hrel := outZ_rel hg
    have hfu : ∀ (D nxt : List Int), (∀ x : Int, 0 ≤ x → x < N → -1 ≤ rd D x ∧ rd D x ≤ N) → NOK N (outZ N arcs) nxt → 2 * ((N : Int) + 1 - rd D src).toNat + remF (outZ N arcs) nxt + 2 + N ≤ C := fun D nxt hD hn => by
      have h1 := (hD src hs.1 hs.2).1
      have h2 : remF (outZ N arcs) nxt ≤ remF (outZ N arcs) (List.replicate N 0) := remF_mono _ _ _ (by rw [hn.1, List.length_replicate]) (fun n hn' => by
        rw [List.length_replicate] at hn'
        have := (hn.2 (n : Int) (by omega) (by omega)).1
        rw [List.getD_eq_getElem?_getD, List.getElem?_replicate, if_pos hn']
        exact this)
      omega
    refine ⟨fun left dep nxt sum hL h0 hB hk => ?_, fun D left nxt f sum hL hn hD h0 hf0 hB hk => ?_⟩
    · have hnn := resF_nonneg (fun v => v == src) hL
      simp only [fillO, RZ.dat_]
      obtain ⟨D, hDl, hLv⟩ := level_ok arcs left (outZ N arcs) src snk N dep nxt hN hs (fun v e v0 v1 he => by
        obtain ⟨n, a, b, c⟩ := (hrel.2 v v0 v1 e).1 he
        rw [b, endP_N arcs n a]
        exact (tl_in hg n a).2.2) k (by omega)
      rw [hDl]
      dsimp only
      by_cases hk0 : 0 ≤ rd D snk
      · rw [if_pos hk0, Int.toNat_natCast]
        have hPN : PN both N arcs (outZ N arcs) D snk := outZ_PN hN hl hg hc hLv.lo ht
        have hzero : ∀ x : Int, 0 ≤ x → x < N → rd (List.replicate N 0) x = 0 := fun x x0 x1 => by
          unfold rd
          rw [List.getD_eq_getElem?_getD, List.getElem?_replicate, if_pos (by omega)]
          rfl
        have hnz : NOK N (outZ N arcs) (List.replicate N 0) := ⟨by simp, fun x x0 x1 => by rw [hzero x x0 x1]; omega⟩
        have hfz := hfu D _ hLv.lo hnz
        obtain ⟨f, l1, n1, e, p⟩ := (push_ok left src nxt hPN k).1 left (List.replicate N 0) src maxI hL hnz hs.1 hs.2 (by decide) (by omega)
        rw [e]
        dsimp only
        have hf := first_push hPN hLv hs hk0 hzero p
        have hr := p.res (fun v => v == src)
        rw [hT, Int.mul_one] at hr
        have hnn1 := resF_nonneg (fun v => v == src) p.lok
        obtain ⟨s, l2, d2, n2, e2, q⟩ := ih2 D l1 n1 f sum p.lok p.nok hLv.lo h0 p.f0 (by omega) (by rw [if_pos hf]; omega)
        refine ⟨s, l2, d2, n2, e2, q.lok, fun T => ?_, by have := q.le; omega, q.lv, q.no⟩
        rw [q.res T, p.res T]
        simp only [Int.sub_mul, Int.add_mul]
        omega
      · rw [if_neg hk0]
        exact ⟨sum, left, D, nxt, rfl, hL, fun T => by rw [Int.sub_self, Int.zero_mul, Int.sub_zero], Int.le_refl _, hLv, by omega⟩
    · have hnn := resF_nonneg (fun v => v == src) hL
      simp only [fillI, RZ.dat_]
      by_cases hf : f > 0
      · rw [if_pos hf] at hk ⊢
        have hPN : PN both N arcs (outZ N arcs) D snk := outZ_PN hN hl hg hc hD ht
        have hfz := hfu D nxt hD hn
        obtain ⟨f', l1, n1, e, p⟩ := (push_ok left src nxt hPN k).1 left nxt src maxI hL hn hs.1 hs.2 (by decide) (by omega)
        rw [e]
        dsimp only
        have hr := p.res (fun v => v == src)
        rw [hT, Int.mul_one] at hr
        have hnn1 := resF_nonneg (fun v => v == src) p.lok
        have hf'0 := p.f0
        have hw : wrap64 (sum + f) = sum + f := by unfold wrap64; omega
        rw [hw]
        clear hw
        obtain ⟨s, l2, d2, n2, e2, q⟩ := ih2 D l1 n1 f' (sum + f) p.lok p.nok hD (by omega) p.f0 (by omega) (by split <;> omega)
        refine ⟨s, l2, d2, n2, e2, q.lok, fun T => ?_, by have := q.le; omega, q.lv, q.no⟩
        rw [q.res T, p.res T]
        simp only [Int.sub_mul, Int.add_mul]
        omega
      · rw [if_neg hf] at hk ⊢
        have hfe : f = 0 := by omega
        subst hfe
        rw [Int.add_zero]
        exact ih1 left D nxt sum hL h0 (by omega) (by omega)
end
theorem costF_le (both : Bool) (T : Int → Bool) : ∀ (l : List S35), (∀ a ∈ l, 0 ≤ a.f2 ∧ a.f2 ≤ 1000000) → 0 ≤ costF both T l ∧ costF both T l ≤ 2000000 * l.length
  | [], _ => by simp [costF]
  | a :: l, h => by
    have := costF_le both T l (fun b hb => h b (List.mem_cons_of_mem _ hb))
    have ha := h a (List.mem_cons_self ..)
    simp only [costF, List.length_cons]
    cases T a.f0 <;> cases T a.f1 <;> cases both <;> simp <;> omega
theorem resF_zero (T : Int → Bool) : ∀ (l : List S35) (L : List Int), L.length = 2 * l.length → (∀ n, n < 2 * l.length → T (tlN l n) = true → T (hdN l n) = false → L.getD n 0 = 0) → resF T l L = 0
  | [], [], _, _ => rfl
  | a :: l, x :: y :: L, hl, h => by
    have h0 := h 0 (by simp <;> omega)
    have h1 := h 1 (by simp <;> omega)
    have ih := resF_zero T l L (by simp at hl; omega) (fun n hn => h (n + 2) (by simp; omega))
    simp only [resF]
    rw [ih]
    have e0 : T a.f0 = true → T a.f1 = false → x = 0 := h0
    have e1 : T a.f1 = true → T a.f0 = false → y = 0 := h1
    cases q0 : T a.f0 <;> cases q1 : T a.f1 <;> simp
    · exact e1 q1 q0
    · exact e0 q0 q1
  | [], x :: L, h, _ => by simp at h
  | a :: l, [], h, _ => by simp at h
  | a :: l, [x], h, _ => by simp at h <;> omega
theorem fillZ_ok (both : Bool) (N : Nat) (arcs : List S35) (src snk : Int) (hN : N ≤ 1000) (hl : arcs.length ≤ 1000) (hg : Good N arcs) (hc : ∀ a ∈ arcs, 0 ≤ a.f2 ∧ a.f2 ≤ 1000000) (hs : 0 ≤ src ∧ src < N) (ht : 0 ≤ snk ∧ snk < N) (hst : src ≠ snk) :
    ∃ s l1 d1 n1, fillZ fuelW (restP both N arcs src snk) = some (s, l1, d1, n1) ∧ 0 ≤ s ∧ LOK both arcs l1 ∧ (∀ T, resF T arcs l1 = costF both T arcs - s * (ind T src - ind T snk)) ∧ LvD arcs l1 (outZ N arcs) src N d1 ∧ rd d1 snk < 0 := by
  obtain ⟨h1, h2⟩ := leftF_ok both arcs hc
  have hb := costF_le both (fun v => v == src) arcs hc
  have hR : RowsIn (outZ N arcs) (2 * arcs.length) := by
    have := outF_rows arcs 0 (List.replicate N []) (fun x hx => by rw [List.eq_of_mem_replicate hx]; exact ⟨by simp, fun e he => by cases he⟩)
    rwa [Nat.zero_add] at this
  have hrm := remF_le (outZ N arcs) (List.replicate N 0) 2000 (fun r hr => by have := (hR r hr).1; omega)
  have hol : (outZ N arcs).length = N := (outZ_rel hg).1
  rw [hol] at hrm
  have hrm2 : N * 2000 ≤ 2000000 := by omega
  obtain ⟨s, l1, d1, n1, e, q⟩ := (fill_ok (both := both) (leftF both arcs []) [] [] hN hl hg hc hs ht hst 3000000 (by omega) fuelW).1 (leftF both arcs []) [] [] 0 h1 (Int.le_refl _) (by rw [h2]; omega) (by rw [h2]; unfold fuelW; omega)
  refine ⟨s, l1, d1, n1, e, q.le, q.lok, fun T => ?_, q.lv, q.no⟩
  rw [q.res T, h2 T, Int.sub_zero]
def side (T : Int → Bool) (src snk : Int) : Prop := T src = true ∧ T snk = false
theorem ind_side {T : Int → Bool} {src snk : Int} (h : side T src snk) : ind T src - ind T snk = 1 := by
  unfold ind
  rw [h.1, h.2]
  rfl
section
variable {both : Bool} {N : Nat} {arcs : List S35} {src snk s : Int} {l1 d1 : List Int}
theorem reach_zero (hg : Good N arcs) (hL : LOK both arcs l1) (hv : LvD arcs l1 (outZ N arcs) src N d1) : resF (fun v => decide (0 ≤ rd d1 v)) arcs l1 = 0 := by
  refine resF_zero _ arcs l1 hL.len (fun n hn ht hh => ?_)
  have hi := tl_in hg n hn
  have h1 := of_decide_eq_true ht
  have h2 := of_decide_eq_false hh
  have h3 := hL.nonneg n
  rcases Int.lt_or_eq_of_le h3 with q | q
  · exfalso
    have := hv.clo (tlN arcs n) (n : Int) hi.1 hi.2.1 h1 (((outZ_rel hg).2 _ hi.1 hi.2.1 _).2 ⟨n, hn, rfl, rfl⟩) q
    rw [endP_N arcs n hn] at this
    exact h2 this
  · exact q.symm
end
theorem fillZ_min (both : Bool) (N : Nat) (arcs : List S35) (src snk : Int) (hN : N ≤ 1000) (hl : arcs.length ≤ 1000) (hg : Good N arcs) (hc : ∀ a ∈ arcs, 0 ≤ a.f2 ∧ a.f2 ≤ 1000000) (hs : 0 ≤ src ∧ src < N) (ht : 0 ≤ snk ∧ snk < N) (hst : src ≠ snk) :
    ∃ s r, fillZ fuelW (restP both N arcs src snk) = some (s, r) ∧ (∃ T, side T src snk ∧ costF both T arcs = s) ∧ ∀ T, side T src snk → s ≤ costF both T arcs := by
  obtain ⟨s, l1, d1, n1, e, h0, hL, hr, hv, hn⟩ := fillZ_ok both N arcs src snk hN hl hg hc hs ht hst
  refine ⟨s, (l1, d1, n1), e, ⟨fun v => decide (0 ≤ rd d1 v), ⟨by simp [hv.s0], by simp; omega⟩, ?_⟩, fun T hT => ?_⟩
  · have h1 := hr (fun v => decide (0 ≤ rd d1 v))
    rw [reach_zero hg hL hv, ind_side ⟨by simp [hv.s0], by simp; omega⟩] at h1
    omega
  · have h1 := hr T
    have h2 := resF_nonneg T hL
    rw [ind_side hT] at h1
    omega
end Go.Proofs.Ytbamanjedfccpaa.HTab
end

section
set_option linter.unusedVariables false
set_option linter.unusedSimpArgs false
namespace Go.Proofs.Ytbamanjedfccpaa.X
open Go.RowKit Go.Proofs.YtbamanjedfccpaaW.PrintWords Go.Proofs.YtbamanjedfccpaaW.PrintLast Go.Proofs.YtbamanjedfccpaaW.PrintMore
attribute [local go_sem] max2_int min2_int max_two min_two max_three min_three max_four min_four   -- for this text's walks alone
set_option linter.unusedVariables false
set_option linter.unusedSimpArgs false
def cantinglaw07_net.l0 : Nat → List (S34) → Int → Int → Int → List (S35) → Option (Int × (List (S35)))
  | 0, _, _, _, _, _ => none
  | k + 1, x10, x11, x12, x165000, x165001 => if x12 < x11 then (if 0 ≤ x12 then (if x12 < (x10.length : Int) then (if x12 > 161 then (some (x165000, x165001)) else (if x165001.length < 5864062014805 then (cantinglaw07_net.l0 k x10 x11 (wrap64 (x12 + 1)) x165000 (x165001 ++ [(⟨(rd_T34 x10 x12).f0, (rd_T34 x10 x12).f1, (rd_T34 x10 x12).f2⟩ : S35)])) else (none))) else (none)) else (none)) else (some (x165000, x165001))
def cantinglaw07_net.f (k : Nat) (a0_0 : Int) (l0_1 : List (S34)) : Option (Int × (List (S35))) := cantinglaw07_net.l0 k l0_1 (l0_1.length : Int) 0 a0_0 ([] : List (S35))
set_option maxHeartbeats 8000000 in
set_option maxRecDepth 100000 in
theorem cantinglaw07_net.calls (k : Nat) (a0_0 : Int) (A0_1 : Option Addr) (c0_1 : Nat) (l0_1 : List (S34)) (r1 : Int) (r2 : List (S35)) (w : World) (hr0_1 : Kd.C k34 w A0_1 l0_1.length l0_1) (hc0_1 : l0_1.length ≤ c0_1) (h : cantinglaw07_net.f k a0_0 l0_1 = some (r1, r2)) :
    Calls Try.prog 17 #[.agg #[.int .i64 a0_0, .slice A0_1 l0_1.length c0_1]] w fun e w' => ∃ v1_ : Value, e = .returned (.agg #[.int .i64 r1, v1_]) ∧ Kd.R k35 35 w' w.heap.size (fun _ => True) v1_ r2 ∧ Below w.heap.size w w' := by
  have hu24 := Try.underlying24
  have hu30 := Try.underlying30
  have hu34 := Try.underlying34
  have hu35 := Try.underlying35
  have HR0_1 := Aside0.mk hr0_1
  have HC0_1 := Aside0.mk hc0_1
  clear hr0_1 hc0_1
  have HB := Aside0.mk (Below.refl w.heap.size w)
  have H : (cantinglaw07_net.l0 k l0_1 (l0_1.length : Int) 0 a0_0 ([] : List (S35))) = some (r1, r2) := h
  clear h
  have H' := Aside0.mk H
  clear H
  go_enter Try.func17, Try.ntmps17
  go_wp2_with (first | ((with_reducible refine gate_dst (N := 1) rfl ?_); refine box_event ?hg (N := 1) ?hd (cs := #[.int .i64 a0_0, .slice A0_1 l0_1.length c0_1]) (t := 24) ?hr ?_; (case hd => rfl); (case hg => rfl); (case hr => first | (go_simp; done) | (go_simp; rfl)); intro gb162 hg w2 hbox hb; have n0_ := Aside0.mk (below_step (by repeat (first | (with_reducible first | exact HB.out | apply below_alloc | apply pw_below_drewN | apply below_drew1) | exact HB.out)) hb); have n1_ := Aside0.mk (hbox); have n2_ := Aside0.mk ((by rw [hg]; exact (below_size (by repeat (first | (with_reducible first | exact HB.out | apply below_alloc | apply pw_below_drewN | apply below_drew1) | exact HB.out))) : w.heap.size ≤ gb162)); have n3_ := Aside0.mk ((by rw [hg]; exact (below_size (by repeat (first | (with_reducible first | exact HB.out | apply below_alloc | apply pw_below_drewN | apply below_drew1) | exact HB.out))) : w.heap.size ≤ gb162)); clear HB; have HB := n0_; have BK162 := n1_; have GW162 := n2_; have GE162 := n3_; clear n0_ n1_ n2_ n3_; clear hb hbox hg) | ((with_reducible refine gate_dst (N := 2) rfl ?_); refine box_event ?hg (N := 2) ?hd (cs := #[.int .i64 0, .slice none 0 0]) (t := 30) ?hr ?_; (case hd => rfl); (case hg => rfl); (case hr => first | (go_simp; done) | (go_simp; rfl)); intro gb163 hg w3 hbox hb; have n0_ := Aside0.mk (blk_below (g := gb162) (o := .cells #[.int .i64 a0_0, .slice A0_1 l0_1.length c0_1] 24 (0, 0)) (by (with_reducible repeat (first | refine blk_drewN ?_ _ | refine blk_drew ?_ | refine blk_alloc ?_ _)); exact BK162.out) hb); have n1_ := Aside0.mk (below_step (by repeat (first | (with_reducible first | exact HB.out | apply below_alloc | apply pw_below_drewN | apply below_drew1 | refine below_set ?_ GE162.out) | exact HB.out)) hb); have n2_ := Aside0.mk (hbox); have n3_ := Aside0.mk ((by rw [hg]; exact (below_size (by repeat (first | (with_reducible first | exact HB.out | apply below_alloc | apply pw_below_drewN | apply below_drew1 | refine below_set ?_ GE162.out) | exact HB.out))) : w.heap.size ≤ gb163)); have n4_ := Aside0.mk ((by rw [hg]; exact (below_size (by repeat (first | (with_reducible first | exact HB.out | apply below_alloc | apply pw_below_drewN | apply below_drew1 | refine below_set ?_ GE162.out) | exact HB.out))) : w.heap.size ≤ gb163)); have n5_ := Aside0.mk ((by rw [hg]; exact Nat.ne_of_lt (blk_lt (g := gb162) (o := .cells #[.int .i64 a0_0, .slice A0_1 l0_1.length c0_1] 24 (0, 0)) (by (with_reducible repeat (first | refine blk_drewN ?_ _ | refine blk_drew ?_ | refine blk_alloc ?_ _)); exact BK162.out)) : gb162 ≠ gb163)); have n6_ := Aside0.mk ((by rw [hg]; exact Nat.ne_of_gt (blk_lt (g := gb162) (o := .cells #[.int .i64 a0_0, .slice A0_1 l0_1.length c0_1] 24 (0, 0)) (by (with_reducible repeat (first | refine blk_drewN ?_ _ | refine blk_drew ?_ | refine blk_alloc ?_ _)); exact BK162.out)) : gb163 ≠ gb162)); clear BK162; clear HB; have BK162 := n0_; have HB := n1_; have BK163 := n2_; have GW163 := n3_; have GE163 := n4_; have NB162_163 := n5_; have NB163_162 := n6_; clear n0_ n1_ n2_ n3_ n4_ n5_ n6_; clear hb hbox hg; have hnb4 := NB162_163.out; have hnc4 := NB163_162.out; have hcz5_0 : w3.cell? ⟨gb162, 0, none⟩ = some (.int .i64 a0_0) := (blk_cell BK162.out 0).trans rfl; have hcz5_1 : w3.cell? ⟨gb162, 1, none⟩ = some (.slice A0_1 l0_1.length c0_1) := (blk_cell BK162.out 1).trans rfl; have hfz5_0 := blk_frozen BK162.out 0; have hfz5_1 := blk_frozen BK162.out 1) | ((with_reducible refine gate_dst (N := 3) rfl ?_); refine box_event ?hg (N := 3) ?hd (cs := #[.int .i64 0, .slice none 0 0]) (t := 30) ?hr ?_; (case hd => rfl); (case hg => rfl); (case hr => first | (go_simp; done) | (go_simp; rfl)); intro gb164 hg w6 hbox hb; have n0_ := Aside0.mk (blk_below (g := gb162) (o := .cells #[.int .i64 a0_0, .slice A0_1 l0_1.length c0_1] 24 (0, 0)) (by (with_reducible repeat (first | refine blk_drewN ?_ _ | refine blk_drew ?_ | refine blk_alloc ?_ _)); exact BK162.out) hb); have n1_ := Aside0.mk (blk_below (g := gb163) (o := .cells #[.int .i64 0, .slice none 0 0] 30 (0, 0)) (by (with_reducible repeat (first | refine blk_drewN ?_ _ | refine blk_drew ?_ | refine blk_alloc ?_ _)); exact BK163.out) hb); have n2_ := Aside0.mk (below_step (by repeat (first | (with_reducible first | exact HB.out | apply below_alloc | apply pw_below_drewN | apply below_drew1 | refine below_set ?_ GE162.out | refine below_set ?_ GE163.out) | exact HB.out)) hb); have n3_ := Aside0.mk (hbox); have n4_ := Aside0.mk ((by rw [hg]; exact (below_size (by repeat (first | (with_reducible first | exact HB.out | apply below_alloc | apply pw_below_drewN | apply below_drew1 | refine below_set ?_ GE162.out | refine below_set ?_ GE163.out) | exact HB.out))) : w.heap.size ≤ gb164)); have n5_ := Aside0.mk ((by rw [hg]; exact (below_size (by repeat (first | (with_reducible first | exact HB.out | apply below_alloc | apply pw_below_drewN | apply below_drew1 | refine below_set ?_ GE162.out | refine below_set ?_ GE163.out) | exact HB.out))) : w.heap.size ≤ gb164)); have n6_ := Aside0.mk ((by rw [hg]; exact Nat.ne_of_lt (blk_lt (g := gb162) (o := .cells #[.int .i64 a0_0, .slice A0_1 l0_1.length c0_1] 24 (0, 0)) (by (with_reducible repeat (first | refine blk_drewN ?_ _ | refine blk_drew ?_ | refine blk_alloc ?_ _)); exact BK162.out)) : gb162 ≠ gb164)); have n7_ := Aside0.mk ((by rw [hg]; exact Nat.ne_of_gt (blk_lt (g := gb162) (o := .cells #[.int .i64 a0_0, .slice A0_1 l0_1.length c0_1] 24 (0, 0)) (by (with_reducible repeat (first | refine blk_drewN ?_ _ | refine blk_drew ?_ | refine blk_alloc ?_ _)); exact BK162.out)) : gb164 ≠ gb162)); have n8_ := Aside0.mk ((by rw [hg]; exact Nat.ne_of_lt (blk_lt (g := gb163) (o := .cells #[.int .i64 0, .slice none 0 0] 30 (0, 0)) (by (with_reducible repeat (first | refine blk_drewN ?_ _ | refine blk_drew ?_ | refine blk_alloc ?_ _)); exact BK163.out)) : gb163 ≠ gb164)); have n9_ := Aside0.mk ((by rw [hg]; exact Nat.ne_of_gt (blk_lt (g := gb163) (o := .cells #[.int .i64 0, .slice none 0 0] 30 (0, 0)) (by (with_reducible repeat (first | refine blk_drewN ?_ _ | refine blk_drew ?_ | refine blk_alloc ?_ _)); exact BK163.out)) : gb164 ≠ gb163)); clear BK162; clear BK163; clear HB; have BK162 := n0_; have BK163 := n1_; have HB := n2_; have BK164 := n3_; have GW164 := n4_; have GE164 := n5_; have NB162_164 := n6_; have NB164_162 := n7_; have NB163_164 := n8_; have NB164_163 := n9_; clear n0_ n1_ n2_ n3_ n4_ n5_ n6_ n7_ n8_ n9_; clear hb hbox hg; have hnb7 := NB164_162.out; have hnc7 := NB162_164.out; have hnb8 := NB164_163.out; have hnc8 := NB163_164.out; have hcz9_0 : w6.cell? ⟨gb164, 0, none⟩ = some (.int .i64 0) := (blk_cell BK164.out 0).trans rfl; have hcz9_1 : w6.cell? ⟨gb164, 1, none⟩ = some (.slice none 0 0) := (blk_cell BK164.out 1).trans rfl; have hfz9_0 := blk_frozen BK164.out 0; have hfz9_1 := blk_frozen BK164.out 1; have hcz10_0 : w6.cell? ⟨gb162, 0, none⟩ = some (.int .i64 a0_0) := (blk_cell BK162.out 0).trans rfl; have hcz10_1 : w6.cell? ⟨gb162, 1, none⟩ = some (.slice A0_1 l0_1.length c0_1) := (blk_cell BK162.out 1).trans rfl; have hfz10_0 := blk_frozen BK162.out 0; have hfz10_1 := blk_frozen BK162.out 1))
  go_loopg [12] k (fun kq v12 w' => ∃ (x12_1 : Int) (x165001_1 : List (S35)) (u165001 : Value), v12 = .int .i64 x12_1 ∧ Aside0 (cantinglaw07_net.l0 kq l0_1 (l0_1.length : Int) x12_1 a0_0 x165001_1 = some (r1, r2)) ∧ Aside0 (kq ≤ k) ∧ Aside0 (Kd.R k35 35 w' w.heap.size (fun _ => True) u165001 x165001_1) ∧ Aside0 (w'.heap[gb162]? = some (.cells #[.int .i64 a0_0, (.slice A0_1 l0_1.length c0_1)] 24 (0, 0))) ∧ Aside0 (w'.heap[gb163]? = some (.cells #[.int .i64 0, (.slice none 0 0)] 30 (0, 0))) ∧ Aside0 (w'.heap[gb164]? = some (.cells #[.int .i64 a0_0, u165001] 30 (0, 0))) ∧ Aside0 (Below w.heap.size w w'))
  case atStart => exact ⟨(0), (([] : List (S35))), (.slice none 0 0), (by first | rfl | (simp; done) | (simp [*]; done)), H', ⟨Nat.le_refl _⟩, ⟨by first | exact Kd.R_nil _ _ _ _ _ | exact Kd.N_nil _ _ _ _ _ | exact Kd.V_nil _ _ _ _ _ | exact Kd.Q_nil _ _ _ _ _ | exact Kd.S_nil _ _ _ _ _⟩, ⟨by (with_reducible repeat (first | refine blk_drewN ?_ _ | refine blk_drew ?_ | refine blk_alloc ?_ _)); refine blk_far ?_ NB162_164.out _; (with_reducible repeat (first | refine blk_drewN ?_ _ | refine blk_drew ?_ | refine blk_alloc ?_ _)); refine blk_far ?_ NB162_164.out _; (with_reducible repeat (first | refine blk_drewN ?_ _ | refine blk_drew ?_ | refine blk_alloc ?_ _)); exact BK162.out⟩, ⟨by (with_reducible repeat (first | refine blk_drewN ?_ _ | refine blk_drew ?_ | refine blk_alloc ?_ _)); refine blk_far ?_ NB163_164.out _; (with_reducible repeat (first | refine blk_drewN ?_ _ | refine blk_drew ?_ | refine blk_alloc ?_ _)); refine blk_far ?_ NB163_164.out _; (with_reducible repeat (first | refine blk_drewN ?_ _ | refine blk_drew ?_ | refine blk_alloc ?_ _)); exact BK163.out⟩, ⟨by (with_reducible repeat (first | refine blk_drewN ?_ _ | refine blk_drew ?_ | refine blk_alloc ?_ _)); refine blk_put (cs := #[.int .i64 a0_0, .slice none 0 0]) ?_ 1 _ rfl; (with_reducible repeat (first | refine blk_drewN ?_ _ | refine blk_drew ?_ | refine blk_alloc ?_ _)); refine blk_put (cs := #[.int .i64 0, .slice none 0 0]) ?_ 0 _ rfl; (with_reducible repeat (first | refine blk_drewN ?_ _ | refine blk_drew ?_ | refine blk_alloc ?_ _)); exact BK164.out⟩, ⟨by repeat (first | (with_reducible first | exact HB.out | apply below_alloc | apply pw_below_drewN | apply below_drew1 | refine below_set ?_ GE162.out | refine below_set ?_ GE163.out | refine below_set ?_ GE164.out) | exact HB.out)⟩⟩
  case round =>
    clear H'
    try clear c1
    try clear p2
    try clear c4
    try clear c7
    try clear c8
    try clear hcz10_0
    try clear hcz10_1
    try clear hcz5_0
    try clear hcz5_1
    try clear hcz9_0
    try clear hcz9_1
    try clear hfz10_0
    try clear hfz10_1
    try clear hfz5_0
    try clear hfz5_1
    try clear hfz9_0
    try clear hfz9_1
    obtain ⟨x12_1, x165001_1, u165001, rfl, HA, HK1, HO_165001, BK162, BK163, BK164, HB⟩ := hrel
    cases gk with
    | zero => exact absurd HA.out (by simp [cantinglaw07_net.l0])
    | succ k1 =>
      have H := HA.out
      clear HA
      simp only [cantinglaw07_net.l0] at H
      by_cases c11 : x12_1 < (l0_1.length : Int)
      · rw [if_pos c11] at H
        have c11b0 : decide (x12_1 < (l0_1.length : Int)) = true := decide_eq_true c11
        clear c11
        by_cases c12 : 0 ≤ x12_1
        · rw [if_pos c12] at H
          have c12b0 : decide (0 ≤ x12_1) = true := decide_eq_true c12
          clear c12
          by_cases c13 : x12_1 < (l0_1.length : Int)
          · rw [if_pos c13] at H
            have c13b0 : decide (x12_1 < (l0_1.length : Int)) = true := decide_eq_true c13
            clear c13
            by_cases c14 : x12_1 > 161
            · rw [if_pos c14] at H
              have c14b0 : decide (161 < x12_1) = true := decide_eq_true c14
              clear c14
              simp only [Option.some.injEq, Prod.mk.injEq] at H
              obtain ⟨rfl, rfl⟩ := H
              have p165 : 0 ≤ (x12_1 : Int) := of_decide_eq_true (by first | (with_reducible assumption) | assumption)
              have q165 : x12_1 < (l0_1.length : Int) := of_decide_eq_true (by first | (with_reducible assumption) | assumption)
              obtain ⟨ad165, e165, hx165_0, hx165_1, hx165_2⟩ := at_T34 HR0_1.out x12_1 p165 q165
              cases e165
              replace hx165_0 := (HB.out.cell (World.block_lt_of_cell? w _ hx165_0)).trans hx165_0
              replace hx165_1 := (HB.out.cell (World.block_lt_of_cell? w _ hx165_1)).trans hx165_1
              replace hx165_2 := (HB.out.cell (World.block_lt_of_cell? w _ hx165_2)).trans hx165_2
              replace p165 := eq_true p165
              replace q165 := eq_true q165
              go_wp2_with (first | ((with_reducible refine gate_dst (N := 5) rfl ?_); refine box_event ?hg (N := 5) ?hd (cs := #[.int .i64 0, .int .i64 0, .int .i64 0]) (t := 34) ?hr ?_; (case hd => rfl); (case hg => rfl); (case hr => first | (go_simp; done) | (go_simp; rfl)); intro gb166 hg w15 hbox hb; have n0_ := Aside0.mk (Kd.R_below (by (with_reducible repeat (first | apply Kd.R_alloc | apply Kd.R_drewN | apply Kd.R_drew)); exact HO_165001.out) hb); have n1_ := Aside0.mk (blk_below (g := gb162) (o := .cells #[.int .i64 a0_0, .slice (some ad165) l0_1.length c0_1] 24 (0, 0)) (by (with_reducible repeat (first | refine blk_drewN ?_ _ | refine blk_drew ?_ | refine blk_alloc ?_ _)); exact BK162.out) hb); have n2_ := Aside0.mk (blk_below (g := gb163) (o := .cells #[.int .i64 0, .slice none 0 0] 30 (0, 0)) (by (with_reducible repeat (first | refine blk_drewN ?_ _ | refine blk_drew ?_ | refine blk_alloc ?_ _)); exact BK163.out) hb); have n3_ := Aside0.mk (blk_below (g := gb164) (o := .cells #[.int .i64 a0_0, u165001] 30 (0, 0)) (by (with_reducible repeat (first | refine blk_drewN ?_ _ | refine blk_drew ?_ | refine blk_alloc ?_ _)); exact BK164.out) hb); have n4_ := Aside0.mk (below_step (by repeat (first | (with_reducible first | exact HB.out | apply below_alloc | apply pw_below_drewN | apply below_drew1 | refine below_set ?_ GE162.out | refine below_set ?_ GE163.out | refine below_set ?_ GE164.out) | exact HB.out)) hb); have n5_ := Aside0.mk (hbox); have n6_ := Aside0.mk ((by rw [hg]; exact (below_size (by repeat (first | (with_reducible first | exact HB.out | apply below_alloc | apply pw_below_drewN | apply below_drew1 | refine below_set ?_ GE162.out | refine below_set ?_ GE163.out | refine below_set ?_ GE164.out) | exact HB.out))) : w.heap.size ≤ gb166)); have n7_ := Aside0.mk ((by rw [hg]; exact (below_size (by repeat (first | (with_reducible first | exact HB.out | apply below_alloc | apply pw_below_drewN | apply below_drew1 | refine below_set ?_ GE162.out | refine below_set ?_ GE163.out | refine below_set ?_ GE164.out) | exact HB.out))) : w.heap.size ≤ gb166)); have n8_ := Aside0.mk ((by rw [hg]; exact Nat.ne_of_lt (blk_lt (g := gb162) (o := .cells #[.int .i64 a0_0, .slice (some ad165) l0_1.length c0_1] 24 (0, 0)) (by (with_reducible repeat (first | refine blk_drewN ?_ _ | refine blk_drew ?_ | refine blk_alloc ?_ _)); exact BK162.out)) : gb162 ≠ gb166)); have n9_ := Aside0.mk ((by rw [hg]; exact Nat.ne_of_gt (blk_lt (g := gb162) (o := .cells #[.int .i64 a0_0, .slice (some ad165) l0_1.length c0_1] 24 (0, 0)) (by (with_reducible repeat (first | refine blk_drewN ?_ _ | refine blk_drew ?_ | refine blk_alloc ?_ _)); exact BK162.out)) : gb166 ≠ gb162)); have n10_ := Aside0.mk ((by rw [hg]; exact Nat.ne_of_lt (blk_lt (g := gb163) (o := .cells #[.int .i64 0, .slice none 0 0] 30 (0, 0)) (by (with_reducible repeat (first | refine blk_drewN ?_ _ | refine blk_drew ?_ | refine blk_alloc ?_ _)); exact BK163.out)) : gb163 ≠ gb166)); have n11_ := Aside0.mk ((by rw [hg]; exact Nat.ne_of_gt (blk_lt (g := gb163) (o := .cells #[.int .i64 0, .slice none 0 0] 30 (0, 0)) (by (with_reducible repeat (first | refine blk_drewN ?_ _ | refine blk_drew ?_ | refine blk_alloc ?_ _)); exact BK163.out)) : gb166 ≠ gb163)); have n12_ := Aside0.mk ((by rw [hg]; exact Nat.ne_of_lt (blk_lt (g := gb164) (o := .cells #[.int .i64 a0_0, u165001] 30 (0, 0)) (by (with_reducible repeat (first | refine blk_drewN ?_ _ | refine blk_drew ?_ | refine blk_alloc ?_ _)); exact BK164.out)) : gb164 ≠ gb166)); have n13_ := Aside0.mk ((by rw [hg]; exact Nat.ne_of_gt (blk_lt (g := gb164) (o := .cells #[.int .i64 a0_0, u165001] 30 (0, 0)) (by (with_reducible repeat (first | refine blk_drewN ?_ _ | refine blk_drew ?_ | refine blk_alloc ?_ _)); exact BK164.out)) : gb166 ≠ gb164)); clear HO_165001; clear BK162; clear BK163; clear BK164; clear HB; have HO_165001 := n0_; have BK162 := n1_; have BK163 := n2_; have BK164 := n3_; have HB := n4_; have BK166 := n5_; have GW166 := n6_; have GE166 := n7_; have NB162_166 := n8_; have NB166_162 := n9_; have NB163_166 := n10_; have NB166_163 := n11_; have NB164_166 := n12_; have NB166_164 := n13_; clear n0_ n1_ n2_ n3_ n4_ n5_ n6_ n7_ n8_ n9_ n10_ n11_ n12_ n13_; clear hb hbox hg; have hnb16 := NB166_162.out; have hnc16 := NB162_166.out; have hnb17 := NB166_163.out; have hnc17 := NB163_166.out; have hnb18 := NB166_164.out; have hnc18 := NB164_166.out; have hcz19_0 : w15.cell? ⟨gb166, 0, none⟩ = some (.int .i64 0) := (blk_cell BK166.out 0).trans rfl; have hcz19_1 : w15.cell? ⟨gb166, 1, none⟩ = some (.int .i64 0) := (blk_cell BK166.out 1).trans rfl; have hcz19_2 : w15.cell? ⟨gb166, 2, none⟩ = some (.int .i64 0) := (blk_cell BK166.out 2).trans rfl; have hfz19_0 := blk_frozen BK166.out 0; have hfz19_1 := blk_frozen BK166.out 1; have hfz19_2 := blk_frozen BK166.out 2; have hnb20 := NB164_162.out; have hnc20 := NB162_164.out; have hnb21 := NB164_163.out; have hnc21 := NB163_164.out; have hcz22_0 : w15.cell? ⟨gb164, 0, none⟩ = some (.int .i64 a0_0) := (blk_cell BK164.out 0).trans rfl; have hcz22_1 : w15.cell? ⟨gb164, 1, none⟩ = some (u165001) := (blk_cell BK164.out 1).trans rfl; have hfz22_0 := blk_frozen BK164.out 0; have hfz22_1 := blk_frozen BK164.out 1; have hnb23 := NB163_162.out; have hnc23 := NB162_163.out; have hcz24_0 : w15.cell? ⟨gb163, 0, none⟩ = some (.int .i64 0) := (blk_cell BK163.out 0).trans rfl; have hcz24_1 : w15.cell? ⟨gb163, 1, none⟩ = some (.slice none 0 0) := (blk_cell BK163.out 1).trans rfl; have hfz24_0 := blk_frozen BK163.out 0; have hfz24_1 := blk_frozen BK163.out 1; obtain ⟨Ao25, co25, eo25⟩ := Kd.R_slice HO_165001.out; subst eo25))
              refine bodyPost_ret (results_cell_row rfl _ _ gb163 30 #[.int .i64 a0_0, .slice Ao25 x165001_1.length co25] (0, 0) _ rfl (by (with_reducible repeat (first | refine blk_drewN ?_ _ | refine blk_drew ?_ | refine blk_alloc ?_ _)); refine blk_put (cs := #[.int .i64 a0_0, .slice none 0 0]) ?_ 1 _ rfl; (with_reducible repeat (first | refine blk_drewN ?_ _ | refine blk_drew ?_ | refine blk_alloc ?_ _)); refine blk_put (cs := #[.int .i64 0, .slice none 0 0]) ?_ 0 _ rfl; (with_reducible repeat (first | refine blk_drewN ?_ _ | refine blk_drew ?_ | refine blk_alloc ?_ _)); refine blk_far ?_ NB163_166.out _; (with_reducible repeat (first | refine blk_drewN ?_ _ | refine blk_drew ?_ | refine blk_alloc ?_ _)); refine blk_far ?_ NB163_166.out _; (with_reducible repeat (first | refine blk_drewN ?_ _ | refine blk_drew ?_ | refine blk_alloc ?_ _)); refine blk_far ?_ NB163_166.out _; (with_reducible repeat (first | refine blk_drewN ?_ _ | refine blk_drew ?_ | refine blk_alloc ?_ _)); exact BK163.out) Try.underlying30 rfl (by kernel_rfl)) rfl ?_
              exact ⟨_, by first | rfl | (simp [errW_none, errW_some] <;> rfl) | (simp [*, errW_none, errW_some] <;> rfl), by (with_reducible repeat (first | apply Kd.R_alloc | apply Kd.R_drewN | apply Kd.R_drew)); exact Kd.R_mono (Kd.R_far (p := ⟨gb163, 1, none⟩) (Kd.R_far (p := ⟨gb163, 0, none⟩) (Kd.R_far (p := ⟨gb166, 2, none⟩) (Kd.R_far (p := ⟨gb166, 1, none⟩) (Kd.R_far (p := ⟨gb166, 0, none⟩) (Kd.R_types (Kd.R_types HO_165001.out BK166.out (by decide)) BK163.out (by decide)) (fun _ hk => hk.1.2) (.int .i64 ((rd_T34 l0_1 x12_1).f0))) (fun _ hk => hk.1.2) (.int .i64 ((rd_T34 l0_1 x12_1).f1))) (fun _ hk => hk.1.2) (.int .i64 ((rd_T34 l0_1 x12_1).f2))) (fun _ hk => hk.2) (.int .i64 a0_0)) (fun _ hk => hk.2) (.slice Ao25 x165001_1.length co25)) (fun _ hk => trivial), by repeat (first | (with_reducible first | exact HB.out | apply below_alloc | apply pw_below_drewN | apply below_drew1 | refine below_set ?_ GE162.out | refine below_set ?_ GE163.out | refine below_set ?_ GE164.out | refine below_set ?_ GE166.out) | exact HB.out)⟩
            · rw [if_neg c14] at H
              have c14b0 : decide (161 < x12_1) = false := decide_eq_false c14
              clear c14
              by_cases c26 : x165001_1.length < 5864062014805
              · rw [if_pos c26] at H
                have LMc26 := Aside0.mk c26
                clear c26
                obtain ⟨y167, hy167⟩ : ∃ y_ : List (S35), y_ = (x165001_1 ++ [(⟨(rd_T34 l0_1 x12_1).f0, (rd_T34 l0_1 x12_1).f1, (rd_T34 l0_1 x12_1).f2⟩ : S35)]) := ⟨_, rfl⟩
                replace H : (cantinglaw07_net.l0 k1 l0_1 (l0_1.length : Int) (wrap64 (x12_1 + 1)) a0_0 y167) = some (r1, r2) := by first | (rw [hy167]; with_reducible exact H) | (have H2_ := (Option.bind_some _ _).symm.trans H; rw [hy167]; with_reducible exact H2_) | (have H2_ := (Option.bind_some _ _).symm.trans H; with_reducible exact H2_) | with_reducible exact H | (rw [hy167]; exact H) | exact H
                have Ny167 := Aside0.mk hy167
                clear hy167
                have H' := Aside0.mk H
                clear H
                have p165 : 0 ≤ (x12_1 : Int) := of_decide_eq_true (by first | (with_reducible assumption) | assumption)
                have q165 : x12_1 < (l0_1.length : Int) := of_decide_eq_true (by first | (with_reducible assumption) | assumption)
                obtain ⟨ad165, e165, hx165_0, hx165_1, hx165_2⟩ := at_T34 HR0_1.out x12_1 p165 q165
                cases e165
                replace hx165_0 := (HB.out.cell (World.block_lt_of_cell? w _ hx165_0)).trans hx165_0
                replace hx165_1 := (HB.out.cell (World.block_lt_of_cell? w _ hx165_1)).trans hx165_1
                replace hx165_2 := (HB.out.cell (World.block_lt_of_cell? w _ hx165_2)).trans hx165_2
                replace p165 := eq_true p165
                replace q165 := eq_true q165
                go_wp2_with (first | ((with_reducible refine gate_dst (N := 5) rfl ?_); refine box_event ?hg (N := 5) ?hd (cs := #[.int .i64 0, .int .i64 0, .int .i64 0]) (t := 34) ?hr ?_; (case hd => rfl); (case hg => rfl); (case hr => first | (go_simp; done) | (go_simp; rfl)); intro gb166 hg w27 hbox hb; have n0_ := Aside0.mk (Kd.R_below (by (with_reducible repeat (first | apply Kd.R_alloc | apply Kd.R_drewN | apply Kd.R_drew)); exact HO_165001.out) hb); have n1_ := Aside0.mk (blk_below (g := gb162) (o := .cells #[.int .i64 a0_0, .slice (some ad165) l0_1.length c0_1] 24 (0, 0)) (by (with_reducible repeat (first | refine blk_drewN ?_ _ | refine blk_drew ?_ | refine blk_alloc ?_ _)); exact BK162.out) hb); have n2_ := Aside0.mk (blk_below (g := gb163) (o := .cells #[.int .i64 0, .slice none 0 0] 30 (0, 0)) (by (with_reducible repeat (first | refine blk_drewN ?_ _ | refine blk_drew ?_ | refine blk_alloc ?_ _)); exact BK163.out) hb); have n3_ := Aside0.mk (blk_below (g := gb164) (o := .cells #[.int .i64 a0_0, u165001] 30 (0, 0)) (by (with_reducible repeat (first | refine blk_drewN ?_ _ | refine blk_drew ?_ | refine blk_alloc ?_ _)); exact BK164.out) hb); have n4_ := Aside0.mk (below_step (by repeat (first | (with_reducible first | exact HB.out | apply below_alloc | apply pw_below_drewN | apply below_drew1 | refine below_set ?_ GE162.out | refine below_set ?_ GE163.out | refine below_set ?_ GE164.out) | exact HB.out)) hb); have n5_ := Aside0.mk (hbox); have n6_ := Aside0.mk ((by rw [hg]; exact (below_size (by repeat (first | (with_reducible first | exact HB.out | apply below_alloc | apply pw_below_drewN | apply below_drew1 | refine below_set ?_ GE162.out | refine below_set ?_ GE163.out | refine below_set ?_ GE164.out) | exact HB.out))) : w.heap.size ≤ gb166)); have n7_ := Aside0.mk ((by rw [hg]; exact (below_size (by repeat (first | (with_reducible first | exact HB.out | apply below_alloc | apply pw_below_drewN | apply below_drew1 | refine below_set ?_ GE162.out | refine below_set ?_ GE163.out | refine below_set ?_ GE164.out) | exact HB.out))) : w.heap.size ≤ gb166)); have n8_ := Aside0.mk ((by rw [hg]; exact Nat.ne_of_lt (blk_lt (g := gb162) (o := .cells #[.int .i64 a0_0, .slice (some ad165) l0_1.length c0_1] 24 (0, 0)) (by (with_reducible repeat (first | refine blk_drewN ?_ _ | refine blk_drew ?_ | refine blk_alloc ?_ _)); exact BK162.out)) : gb162 ≠ gb166)); have n9_ := Aside0.mk ((by rw [hg]; exact Nat.ne_of_gt (blk_lt (g := gb162) (o := .cells #[.int .i64 a0_0, .slice (some ad165) l0_1.length c0_1] 24 (0, 0)) (by (with_reducible repeat (first | refine blk_drewN ?_ _ | refine blk_drew ?_ | refine blk_alloc ?_ _)); exact BK162.out)) : gb166 ≠ gb162)); have n10_ := Aside0.mk ((by rw [hg]; exact Nat.ne_of_lt (blk_lt (g := gb163) (o := .cells #[.int .i64 0, .slice none 0 0] 30 (0, 0)) (by (with_reducible repeat (first | refine blk_drewN ?_ _ | refine blk_drew ?_ | refine blk_alloc ?_ _)); exact BK163.out)) : gb163 ≠ gb166)); have n11_ := Aside0.mk ((by rw [hg]; exact Nat.ne_of_gt (blk_lt (g := gb163) (o := .cells #[.int .i64 0, .slice none 0 0] 30 (0, 0)) (by (with_reducible repeat (first | refine blk_drewN ?_ _ | refine blk_drew ?_ | refine blk_alloc ?_ _)); exact BK163.out)) : gb166 ≠ gb163)); have n12_ := Aside0.mk ((by rw [hg]; exact Nat.ne_of_lt (blk_lt (g := gb164) (o := .cells #[.int .i64 a0_0, u165001] 30 (0, 0)) (by (with_reducible repeat (first | refine blk_drewN ?_ _ | refine blk_drew ?_ | refine blk_alloc ?_ _)); exact BK164.out)) : gb164 ≠ gb166)); have n13_ := Aside0.mk ((by rw [hg]; exact Nat.ne_of_gt (blk_lt (g := gb164) (o := .cells #[.int .i64 a0_0, u165001] 30 (0, 0)) (by (with_reducible repeat (first | refine blk_drewN ?_ _ | refine blk_drew ?_ | refine blk_alloc ?_ _)); exact BK164.out)) : gb166 ≠ gb164)); clear HO_165001; clear BK162; clear BK163; clear BK164; clear HB; have HO_165001 := n0_; have BK162 := n1_; have BK163 := n2_; have BK164 := n3_; have HB := n4_; have BK166 := n5_; have GW166 := n6_; have GE166 := n7_; have NB162_166 := n8_; have NB166_162 := n9_; have NB163_166 := n10_; have NB166_163 := n11_; have NB164_166 := n12_; have NB166_164 := n13_; clear n0_ n1_ n2_ n3_ n4_ n5_ n6_ n7_ n8_ n9_ n10_ n11_ n12_ n13_; clear hb hbox hg; have hnb28 := NB166_162.out; have hnc28 := NB162_166.out; have hnb29 := NB166_163.out; have hnc29 := NB163_166.out; have hnb30 := NB166_164.out; have hnc30 := NB164_166.out; have hcz31_0 : w27.cell? ⟨gb166, 0, none⟩ = some (.int .i64 0) := (blk_cell BK166.out 0).trans rfl; have hcz31_1 : w27.cell? ⟨gb166, 1, none⟩ = some (.int .i64 0) := (blk_cell BK166.out 1).trans rfl; have hcz31_2 : w27.cell? ⟨gb166, 2, none⟩ = some (.int .i64 0) := (blk_cell BK166.out 2).trans rfl; have hfz31_0 := blk_frozen BK166.out 0; have hfz31_1 := blk_frozen BK166.out 1; have hfz31_2 := blk_frozen BK166.out 2; have hnb32 := NB164_162.out; have hnc32 := NB162_164.out; have hnb33 := NB164_163.out; have hnc33 := NB163_164.out; have hcz34_0 : w27.cell? ⟨gb164, 0, none⟩ = some (.int .i64 a0_0) := (blk_cell BK164.out 0).trans rfl; have hcz34_1 : w27.cell? ⟨gb164, 1, none⟩ = some (u165001) := (blk_cell BK164.out 1).trans rfl; have hfz34_0 := blk_frozen BK164.out 0; have hfz34_1 := blk_frozen BK164.out 1) | ((with_reducible refine gate_builtin (b := .append) (xs := #[.tmp 20, .tmp 28]) rfl ?_); at_builtin; refine Kd.R_append k35 (w0 := w) w.heap.size rfl (.tmp 20) (.tmp 28) 28 35 (.agg #[(.int .i64 0), (.int .i64 0), (.int .i64 0)]) 24 rfl Try.underlying28 info35 rfl (by decide) (by omega) u165001 x165001_1 (⟨(rd_T34 l0_1 x12_1).f0, (rd_T34 l0_1 x12_1).f1, (rd_T34 l0_1 x12_1).f2⟩ : S35) [.int .i64 ((rd_T34 l0_1 x12_1).f0), .int .i64 ((rd_T34 l0_1 x12_1).f1), .int .i64 ((rd_T34 l0_1 x12_1).f2)] (fun _ => True) (fun _ => False) rfl (by first | (go_simp; done) | (go_simp; rfl)) ?aP (fun _ hk => hk.elim) ?aF ?aO ?aB ?aS ?aL ?_; (case aP => exact k35_mkM _ _ _ (⟨(rd_T34 l0_1 x12_1).f0, (rd_T34 l0_1 x12_1).f1, (rd_T34 l0_1 x12_1).f2⟩ : S35)); (case aB => exact (by repeat (first | (with_reducible first | exact HB.out | apply below_alloc | apply pw_below_drewN | apply below_drew1 | refine below_set ?_ GE162.out | refine below_set ?_ GE163.out | refine below_set ?_ GE164.out | refine below_set ?_ GE166.out) | exact HB.out))); (case aF => exact (fun _ _ => trivial)); (case aO => exact (by (with_reducible repeat (first | apply Kd.R_alloc | apply Kd.R_drewN | apply Kd.R_drew)); exact Kd.R_mono (Kd.R_far (p := ⟨gb166, 2, none⟩) (Kd.R_far (p := ⟨gb166, 1, none⟩) (Kd.R_far (p := ⟨gb166, 0, none⟩) (Kd.R_types HO_165001.out BK166.out (by decide)) (fun _ hk => hk.2) (.int .i64 ((rd_T34 l0_1 x12_1).f0))) (fun _ hk => hk.2) (.int .i64 ((rd_T34 l0_1 x12_1).f1))) (fun _ hk => hk.2) (.int .i64 ((rd_T34 l0_1 x12_1).f2))) (fun _ hk => trivial))); (case aS => exact (below_size (by repeat (first | (with_reducible first | exact HB.out | apply below_alloc | apply pw_below_drewN | apply below_drew1 | refine below_set ?_ GE162.out | refine below_set ?_ GE163.out | refine below_set ?_ GE164.out | refine below_set ?_ GE166.out) | exact HB.out)))); (case aL => have := LMc26.out; omega); intro v168 w35 ho hb hg hat; rw [← Ny167.out] at ho; have n0_ := Aside0.mk (blk_grown (g := gb162) (o := .cells #[.int .i64 a0_0, .slice (some ad165) l0_1.length c0_1] 24 (0, 0)) (by (with_reducible repeat (first | refine blk_drewN ?_ _ | refine blk_drew ?_ | refine blk_alloc ?_ _)); refine blk_far ?_ NB162_166.out _; (with_reducible repeat (first | refine blk_drewN ?_ _ | refine blk_drew ?_ | refine blk_alloc ?_ _)); refine blk_far ?_ NB162_166.out _; (with_reducible repeat (first | refine blk_drewN ?_ _ | refine blk_drew ?_ | refine blk_alloc ?_ _)); refine blk_far ?_ NB162_166.out _; (with_reducible repeat (first | refine blk_drewN ?_ _ | refine blk_drew ?_ | refine blk_alloc ?_ _)); exact BK162.out) hg (Kd.R_ne HO_165001.out BK162.out (by decide))); have n1_ := Aside0.mk (blk_grown (g := gb163) (o := .cells #[.int .i64 0, .slice none 0 0] 30 (0, 0)) (by (with_reducible repeat (first | refine blk_drewN ?_ _ | refine blk_drew ?_ | refine blk_alloc ?_ _)); refine blk_far ?_ NB163_166.out _; (with_reducible repeat (first | refine blk_drewN ?_ _ | refine blk_drew ?_ | refine blk_alloc ?_ _)); refine blk_far ?_ NB163_166.out _; (with_reducible repeat (first | refine blk_drewN ?_ _ | refine blk_drew ?_ | refine blk_alloc ?_ _)); refine blk_far ?_ NB163_166.out _; (with_reducible repeat (first | refine blk_drewN ?_ _ | refine blk_drew ?_ | refine blk_alloc ?_ _)); exact BK163.out) hg (Kd.R_ne HO_165001.out BK163.out (by decide))); have n2_ := Aside0.mk (blk_grown (g := gb164) (o := .cells #[.int .i64 a0_0, u165001] 30 (0, 0)) (by (with_reducible repeat (first | refine blk_drewN ?_ _ | refine blk_drew ?_ | refine blk_alloc ?_ _)); refine blk_far ?_ NB164_166.out _; (with_reducible repeat (first | refine blk_drewN ?_ _ | refine blk_drew ?_ | refine blk_alloc ?_ _)); refine blk_far ?_ NB164_166.out _; (with_reducible repeat (first | refine blk_drewN ?_ _ | refine blk_drew ?_ | refine blk_alloc ?_ _)); refine blk_far ?_ NB164_166.out _; (with_reducible repeat (first | refine blk_drewN ?_ _ | refine blk_drew ?_ | refine blk_alloc ?_ _)); exact BK164.out) hg (Kd.R_ne HO_165001.out BK164.out (by decide))); have n3_ := Aside0.mk (blk_grown (g := gb166) (o := .cells #[.int .i64 ((rd_T34 l0_1 x12_1).f0), .int .i64 ((rd_T34 l0_1 x12_1).f1), .int .i64 ((rd_T34 l0_1 x12_1).f2)] 34 (0, 0)) (by (with_reducible repeat (first | refine blk_drewN ?_ _ | refine blk_drew ?_ | refine blk_alloc ?_ _)); refine blk_put (cs := #[.int .i64 ((rd_T34 l0_1 x12_1).f0), .int .i64 ((rd_T34 l0_1 x12_1).f1), .int .i64 0]) ?_ 2 _ rfl; (with_reducible repeat (first | refine blk_drewN ?_ _ | refine blk_drew ?_ | refine blk_alloc ?_ _)); refine blk_put (cs := #[.int .i64 ((rd_T34 l0_1 x12_1).f0), .int .i64 0, .int .i64 0]) ?_ 1 _ rfl; (with_reducible repeat (first | refine blk_drewN ?_ _ | refine blk_drew ?_ | refine blk_alloc ?_ _)); refine blk_put (cs := #[.int .i64 0, .int .i64 0, .int .i64 0]) ?_ 0 _ rfl; (with_reducible repeat (first | refine blk_drewN ?_ _ | refine blk_drew ?_ | refine blk_alloc ?_ _)); exact BK166.out) hg (Kd.R_ne HO_165001.out BK166.out (by decide))); have n4_ := Aside0.mk (hb); have n5_ := Aside0.mk (ho); clear BK162; clear BK163; clear BK164; clear BK166; clear HB; clear HO_165001; have BK162 := n0_; have BK163 := n1_; have BK164 := n2_; have BK166 := n3_; have HB := n4_; have HO169 := n5_; clear n0_ n1_ n2_ n3_ n4_ n5_; clear ho hb hg hat; obtain ⟨Ao36, co36, eo36⟩ := Kd.R_slice HO169.out; subst eo36; have hcz37_0 : w35.cell? ⟨gb164, 0, none⟩ = some (.int .i64 a0_0) := (blk_cell BK164.out 0).trans rfl; have hcz37_1 : w35.cell? ⟨gb164, 1, none⟩ = some (u165001) := (blk_cell BK164.out 1).trans rfl; have hfz37_0 := blk_frozen BK164.out 0; have hfz37_1 := blk_frozen BK164.out 1))
                go_roundg k1
                case measure => have := HK1.out; omega
                case rel => exact ⟨(wrap64 (x12_1 + 1)), (y167), (.slice Ao36 y167.length co36), (by first | rfl | (simp; done) | (simp [*]; done)), H', ⟨by have := HK1.out; omega⟩, ⟨by (with_reducible repeat (first | apply Kd.R_alloc | apply Kd.R_drewN | apply Kd.R_drew)); exact Kd.R_mono (Kd.R_far (p := ⟨gb164, 1, none⟩) (Kd.R_types HO169.out BK164.out (by decide)) (fun _ hk => hk.2) (.slice Ao36 y167.length co36)) (fun _ hk => trivial)⟩, ⟨by (with_reducible repeat (first | refine blk_drewN ?_ _ | refine blk_drew ?_ | refine blk_alloc ?_ _)); refine blk_far ?_ NB162_164.out _; (with_reducible repeat (first | refine blk_drewN ?_ _ | refine blk_drew ?_ | refine blk_alloc ?_ _)); exact BK162.out⟩, ⟨by (with_reducible repeat (first | refine blk_drewN ?_ _ | refine blk_drew ?_ | refine blk_alloc ?_ _)); refine blk_far ?_ NB163_164.out _; (with_reducible repeat (first | refine blk_drewN ?_ _ | refine blk_drew ?_ | refine blk_alloc ?_ _)); exact BK163.out⟩, ⟨by (with_reducible repeat (first | refine blk_drewN ?_ _ | refine blk_drew ?_ | refine blk_alloc ?_ _)); refine blk_put (cs := #[.int .i64 a0_0, u165001]) ?_ 1 _ rfl; (with_reducible repeat (first | refine blk_drewN ?_ _ | refine blk_drew ?_ | refine blk_alloc ?_ _)); exact BK164.out⟩, ⟨by repeat (first | (with_reducible first | exact HB.out | apply below_alloc | apply pw_below_drewN | apply below_drew1 | refine below_set ?_ GE162.out | refine below_set ?_ GE163.out | refine below_set ?_ GE164.out | refine below_set ?_ GE166.out) | exact HB.out)⟩⟩
              · rw [if_neg c26] at H
                exact absurd H (by simp)
          · rw [if_neg c13] at H
            exact absurd H (by simp)
        · rw [if_neg c12] at H
          exact absurd H (by simp)
      · rw [if_neg c11] at H
        have c11b0 : decide (x12_1 < (l0_1.length : Int)) = false := decide_eq_false c11
        clear c11
        simp only [Option.some.injEq, Prod.mk.injEq] at H
        obtain ⟨rfl, rfl⟩ := H
        have hnb38 := NB164_162.out
        have hnc38 := NB162_164.out
        have hnb39 := NB164_163.out
        have hnc39 := NB163_164.out
        have hcz40_0 : wr.cell? ⟨gb164, 0, none⟩ = some (.int .i64 a0_0) := (blk_cell BK164.out 0).trans rfl
        have hcz40_1 : wr.cell? ⟨gb164, 1, none⟩ = some (u165001) := (blk_cell BK164.out 1).trans rfl
        have hfz40_0 := blk_frozen BK164.out 0
        have hfz40_1 := blk_frozen BK164.out 1
        have hnb41 := NB163_162.out
        have hnc41 := NB162_163.out
        have hcz42_0 : wr.cell? ⟨gb163, 0, none⟩ = some (.int .i64 0) := (blk_cell BK163.out 0).trans rfl
        have hcz42_1 : wr.cell? ⟨gb163, 1, none⟩ = some (.slice none 0 0) := (blk_cell BK163.out 1).trans rfl
        have hfz42_0 := blk_frozen BK163.out 0
        have hfz42_1 := blk_frozen BK163.out 1
        obtain ⟨Ao43, co43, eo43⟩ := Kd.R_slice HO_165001.out
        subst eo43
        go_wp2
        refine bodyPost_ret (results_cell_row rfl _ _ gb163 30 #[.int .i64 a0_0, .slice Ao43 x165001_1.length co43] (0, 0) _ rfl (by (with_reducible repeat (first | refine blk_drewN ?_ _ | refine blk_drew ?_ | refine blk_alloc ?_ _)); refine blk_put (cs := #[.int .i64 a0_0, .slice none 0 0]) ?_ 1 _ rfl; (with_reducible repeat (first | refine blk_drewN ?_ _ | refine blk_drew ?_ | refine blk_alloc ?_ _)); refine blk_put (cs := #[.int .i64 0, .slice none 0 0]) ?_ 0 _ rfl; (with_reducible repeat (first | refine blk_drewN ?_ _ | refine blk_drew ?_ | refine blk_alloc ?_ _)); exact BK163.out) Try.underlying30 rfl (by kernel_rfl)) rfl ?_
        exact ⟨_, by first | rfl | (simp [errW_none, errW_some] <;> rfl) | (simp [*, errW_none, errW_some] <;> rfl), by (with_reducible repeat (first | apply Kd.R_alloc | apply Kd.R_drewN | apply Kd.R_drew)); exact Kd.R_mono (Kd.R_far (p := ⟨gb163, 1, none⟩) (Kd.R_far (p := ⟨gb163, 0, none⟩) (Kd.R_types HO_165001.out BK163.out (by decide)) (fun _ hk => hk.2) (.int .i64 a0_0)) (fun _ hk => hk.2) (.slice Ao43 x165001_1.length co43)) (fun _ hk => trivial), by repeat (first | (with_reducible first | exact HB.out | apply below_alloc | apply pw_below_drewN | apply below_drew1 | refine below_set ?_ GE162.out | refine below_set ?_ GE163.out | refine below_set ?_ GE164.out) | exact HB.out)⟩
end Go.Proofs.Ytbamanjedfccpaa.X
end

section
set_option linter.unusedVariables false
set_option linter.unusedSimpArgs false
namespace Go.Proofs.Ytbamanjedfccpaa.X
open Go.RowKit Go.Proofs.YtbamanjedfccpaaW.PrintWords Go.Proofs.YtbamanjedfccpaaW.PrintLast Go.Proofs.YtbamanjedfccpaaW.PrintMore
attribute [local go_sem] max2_int min2_int max_two min_two max_three min_three max_four min_four   -- for this text's walks alone
set_option linter.unusedVariables false
set_option linter.unusedSimpArgs false
def cantinglaw07_awake.f  : Option (Bool) := (wax_Value.f 3 (([(⟨0, 1, 3⟩ : S35), (⟨1, 2, 2⟩ : S35)] : List (S35)))).bind fun bt173 => (if bt173.1 = 2 then (some (bt173.2 == 0)) else (some false))
set_option maxHeartbeats 8000000 in
set_option maxRecDepth 100000 in
theorem cantinglaw07_awake.calls  (r : Bool) (w : World) (h : cantinglaw07_awake.f  = some r) :
    Calls Try.prog 18 #[] w fun e w' => e = .returned (.bool r) ∧ Below w.heap.size w w' := by
  have hu35 := Try.underlying35
  have hu30 := Try.underlying30
  have HB := Aside0.mk (Below.refl w.heap.size w)
  have H : ((wax_Value.f 3 (([(⟨0, 1, 3⟩ : S35), (⟨1, 2, 2⟩ : S35)] : List (S35)))).bind fun bt173 => (if bt173.1 = 2 then (some (bt173.2 == 0)) else (some false))) = some r := h
  clear h
  obtain ⟨y170, hy170⟩ : ∃ y_ : List (S35), y_ = (([(⟨0, 1, 3⟩ : S35), (⟨1, 2, 2⟩ : S35)] : List (S35))) := ⟨_, rfl⟩
  replace H : ((wax_Value.f 3 y170).bind fun bt173 => (if bt173.1 = 2 then (some (bt173.2 == 0)) else (some false))) = some r := by first | (rw [hy170]; with_reducible exact H) | (have H2_ := (Option.bind_some _ _).symm.trans H; rw [hy170]; with_reducible exact H2_) | (have H2_ := (Option.bind_some _ _).symm.trans H; with_reducible exact H2_) | with_reducible exact H | (rw [hy170]; exact H) | exact H
  have Ny170 := Aside0.mk hy170
  clear hy170
  replace H := Option.bind_eq_some_iff.mp H
  obtain ⟨⟨t173, t174⟩, A10, H⟩ := H
  replace H : (if t173 = 2 then (some (t174 == 0)) else (some false)) = some r := H
  have A1 := Aside0.mk A10
  clear A10
  by_cases c2 : t173 = 2
  · rw [if_pos c2] at H
    have c2b0 : (t173 == 2) = true := beq_iff_eq.mpr c2
    have c2b1 : (t173 != 2) = false := bne_eq_false_iff_eq.mpr c2
    clear c2
    obtain rfl := Option.some.inj H
    go_enter Try.func18, Try.ntmps18
    go_wp2_with (first | ((with_reducible refine gate_dst (N := 6) rfl ?_); refine Kd.R_lit k35 _ 35 ?hg (N := 6) ?hd (xs := ([(⟨0, 1, 3⟩ : S35), (⟨1, 2, 2⟩ : S35)] : List (S35))) (inner := [.int .i64 0, .int .i64 1, .int .i64 3, .int .i64 1, .int .i64 2, .int .i64 2]) (ok := fun _ => True) (okp := fun _ => True) ?hr ?hp (fun _ hk => hk) trivial (Below.refl _ _) (Nat.le_refl _) (by simp) ?_; (case hd => rfl); (case hg => rfl); (case hr => first | (go_simp; done) | (go_simp; rfl)); (case hp => exact (Reps.c3 (show Kd.M k35 _ _ _ (⟨0, 1, 3⟩ : S35) [.int .i64 0, .int .i64 1, .int .i64 3] from (k35_mkM _ _ _ (⟨0, 1, 3⟩ : S35) )) (Reps.c3 (show Kd.M k35 _ _ _ (⟨1, 2, 2⟩ : S35) [.int .i64 1, .int .i64 2, .int .i64 2] from (k35_mkM _ _ _ (⟨1, 2, 2⟩ : S35) )) (Reps.none _ _)))); intro v171 w3 ho4 hb hg_ hnew_; clear hg_ hnew_; (first | rw [← Ny170.out] at ho4 | (simp only [Int.reduceToNat] at ho4; rw [← Ny170.out] at ho4)); have n0_ := Aside0.mk (Kd.R_lower ho4 (below_size (by repeat (first | (with_reducible first | exact HB.out | apply below_alloc | apply pw_below_drewN | apply below_drew1) | exact HB.out)))); have n1_ := Aside0.mk (below_step (by repeat (first | (with_reducible first | exact HB.out | apply below_alloc | apply pw_below_drewN | apply below_drew1) | exact HB.out)) hb); clear HB; have HO172 := n0_; have HB := n1_; clear n0_ n1_; clear hb ho4; obtain ⟨Ao5, co5, eo5⟩ := Kd.R_slice HO172.out; subst eo5) | ((with_reducible refine gate_callee (f := 19) rfl ?_); refine goesL_ (some 8) rfl rfl Try.func19 (by kernel_rfl) rfl #[.agg #[.int .i64 3, .slice Ao5 y170.length co5]] rfl (by (try simp only [List.map_toArray, List.map_cons, List.map_nil]); first | done | rfl | (simp only [List.length_drop, List.length_take]; rfl)) ?_; (with_reducible refine (wax_Value.calls 3 _ _ y170 t173 t174 _ ?side1 ?side2 A1.out).mono ?_); (case side1 => repeat (first | exact (Kd.R_reads' HO172.out).2.2 | (with_reducible refine Kd.C_alloc ?_ _) | (with_reducible refine Kd.C_drewN ?_ _) | (with_reducible refine Kd.C_drew ?_))); (case side2 => exact (Kd.R_reads' HO172.out).2.1); rintro e w6 ⟨rfl, hb⟩; refine ⟨_, rfl, ?_⟩; have n0_ := Aside0.mk (Kd.R_below (by (with_reducible repeat (first | apply Kd.R_alloc | apply Kd.R_drewN | apply Kd.R_drew)); exact HO172.out) hb); have n1_ := Aside0.mk (below_step (by repeat (first | (with_reducible first | exact HB.out | apply below_alloc | apply pw_below_drewN | apply below_drew1) | exact HB.out)) hb); clear HO172; clear HB; have HO172 := n0_; have HB := n1_; clear n0_ n1_; (try clear hb); (try clear hb2); (try clear hk); (try clear hi)))
    go_ret
    exact ⟨by first | rfl | (simp [errW_none, errW_some] <;> rfl) | (simp [*, errW_none, errW_some] <;> rfl), by repeat (first | (with_reducible first | exact HB.out | apply below_alloc | apply pw_below_drewN | apply below_drew1) | exact HB.out)⟩
  · rw [if_neg c2] at H
    have c2b0 : (t173 == 2) = false := beq_eq_false_iff_ne.mpr c2
    have c2b1 : (t173 != 2) = true := bne_iff_ne.mpr c2
    obtain rfl := Option.some.inj H
    go_enter Try.func18, Try.ntmps18
    go_wp2_with (first | ((with_reducible refine gate_dst (N := 6) rfl ?_); refine Kd.R_lit k35 _ 35 ?hg (N := 6) ?hd (xs := ([(⟨0, 1, 3⟩ : S35), (⟨1, 2, 2⟩ : S35)] : List (S35))) (inner := [.int .i64 0, .int .i64 1, .int .i64 3, .int .i64 1, .int .i64 2, .int .i64 2]) (ok := fun _ => True) (okp := fun _ => True) ?hr ?hp (fun _ hk => hk) trivial (Below.refl _ _) (Nat.le_refl _) (by simp) ?_; (case hd => rfl); (case hg => rfl); (case hr => first | (go_simp; done) | (go_simp; rfl)); (case hp => exact (Reps.c3 (show Kd.M k35 _ _ _ (⟨0, 1, 3⟩ : S35) [.int .i64 0, .int .i64 1, .int .i64 3] from (k35_mkM _ _ _ (⟨0, 1, 3⟩ : S35) )) (Reps.c3 (show Kd.M k35 _ _ _ (⟨1, 2, 2⟩ : S35) [.int .i64 1, .int .i64 2, .int .i64 2] from (k35_mkM _ _ _ (⟨1, 2, 2⟩ : S35) )) (Reps.none _ _)))); intro v171 w7 ho8 hb hg_ hnew_; clear hg_ hnew_; (first | rw [← Ny170.out] at ho8 | (simp only [Int.reduceToNat] at ho8; rw [← Ny170.out] at ho8)); have n0_ := Aside0.mk (Kd.R_lower ho8 (below_size (by repeat (first | (with_reducible first | exact HB.out | apply below_alloc | apply pw_below_drewN | apply below_drew1) | exact HB.out)))); have n1_ := Aside0.mk (below_step (by repeat (first | (with_reducible first | exact HB.out | apply below_alloc | apply pw_below_drewN | apply below_drew1) | exact HB.out)) hb); clear HB; have HO172 := n0_; have HB := n1_; clear n0_ n1_; clear hb ho8; obtain ⟨Ao9, co9, eo9⟩ := Kd.R_slice HO172.out; subst eo9) | ((with_reducible refine gate_callee (f := 19) rfl ?_); refine goesL_ (some 8) rfl rfl Try.func19 (by kernel_rfl) rfl #[.agg #[.int .i64 3, .slice Ao9 y170.length co9]] rfl (by (try simp only [List.map_toArray, List.map_cons, List.map_nil]); first | done | rfl | (simp only [List.length_drop, List.length_take]; rfl)) ?_; (with_reducible refine (wax_Value.calls 3 _ _ y170 t173 t174 _ ?side1 ?side2 A1.out).mono ?_); (case side1 => repeat (first | exact (Kd.R_reads' HO172.out).2.2 | (with_reducible refine Kd.C_alloc ?_ _) | (with_reducible refine Kd.C_drewN ?_ _) | (with_reducible refine Kd.C_drew ?_))); (case side2 => exact (Kd.R_reads' HO172.out).2.1); rintro e w10 ⟨rfl, hb⟩; refine ⟨_, rfl, ?_⟩; have n0_ := Aside0.mk (Kd.R_below (by (with_reducible repeat (first | apply Kd.R_alloc | apply Kd.R_drewN | apply Kd.R_drew)); exact HO172.out) hb); have n1_ := Aside0.mk (below_step (by repeat (first | (with_reducible first | exact HB.out | apply below_alloc | apply pw_below_drewN | apply below_drew1) | exact HB.out)) hb); clear HO172; clear HB; have HO172 := n0_; have HB := n1_; clear n0_ n1_; (try clear hb); (try clear hb2); (try clear hk); (try clear hi)))
    go_ret
    exact ⟨by first | rfl | (simp [errW_none, errW_some] <;> rfl) | (simp [*, errW_none, errW_some] <;> rfl), by repeat (first | (with_reducible first | exact HB.out | apply below_alloc | apply pw_below_drewN | apply below_drew1) | exact HB.out)⟩
end Go.Proofs.Ytbamanjedfccpaa.X
end

section
set_option linter.unusedVariables false
set_option linter.unusedSimpArgs false
namespace Go.Proofs.Ytbamanjedfccpaa.HTab
open Go.RowKit Go.Proofs.YtbamanjedfccpaaW.PrintWords Go.Proofs.YtbamanjedfccpaaW.PrintLast Go.Proofs.YtbamanjedfccpaaW.PrintMore Go.Proofs.Ytbamanjedfccpaa.X
set_option linter.unusedVariables false
set_option linter.unusedSimpArgs false
theorem vdB_facts {n : Int} {l : List S35} (h : vdB n l = true) : ∃ N : Nat, n = N ∧ 2 ≤ N ∧ N ≤ 40 ∧ l.length ≤ 160 ∧ Good N l ∧ ∀ a ∈ l, 0 ≤ a.f2 ∧ a.f2 ≤ 1000000 := by
  obtain ⟨h1, h2, h3, h4⟩ := vdB_iff.1 h
  obtain ⟨N, rfl⟩ : ∃ N : Nat, n = N := ⟨n.toNat, by omega⟩
  refine ⟨N, rfl, by omega, by omega, h3, any_good h4, fun a ha => ?_⟩
  have := List.any_eq_false.1 h4 a ha
  simp only [badA, Bool.or_eq_true, not_or, beq_iff_eq, decide_eq_true_eq] at this
  omega
def IsMin (both : Bool) (l : List S35) (src snk s : Int) : Prop := (∃ T, side T src snk ∧ costF both T l = s) ∧ ∀ T, side T src snk → s ≤ costF both T l
theorem IsMin.eq {both : Bool} {l : List S35} {src snk s s' : Int} (h : IsMin both l src snk s) (h' : IsMin both l src snk s') : s = s' := by
  obtain ⟨⟨T, hT, hc⟩, hm⟩ := h
  obtain ⟨⟨T', hT', hc'⟩, hm'⟩ := h'
  have := hm T' hT'
  have := hm' T hT
  omega
theorem value_f {n : Int} {l : List S35} (h : vdB n l = true) : ∃ s, wax_Value.f n l = some (s, 0) ∧ IsMin false l 0 (n - 1) s := by
  obtain ⟨N, rfl, a, b, c, d, e⟩ := vdB_facts h
  obtain ⟨s, r, hf, hm⟩ := fillZ_min false N l 0 ((N : Int) - 1) (by omega) (by omega) d e (by omega) (by omega) (by omega)
  refine ⟨s, ?_, hm⟩
  unfold wax_Value.f
  rw [if_pos h, Int.toNat_natCast, hf]
  rfl
theorem cut_f {n : Int} {l : List S35} {u v : Int} (h : cutOk n l u v = true) : ∃ s, wax_Cut.f n l u v = some (s, 0) ∧ IsMin true l u v s := by
  have h' := h
  simp only [cutOk, Bool.and_eq_true, decide_eq_true_eq] at h'
  obtain ⟨⟨q1, q2⟩, q3, q4, q5, q6, q7⟩ := h'
  obtain ⟨N, rfl, a, b, c, d, e⟩ := vdB_facts q1
  obtain ⟨s, r, hf, hm⟩ := fillZ_min true N l u v (by omega) (by omega) d e ⟨q4, q6⟩ ⟨q5, q7⟩ q3
  refine ⟨s, ?_, hm⟩
  unfold wax_Cut.f
  rw [if_pos h, Int.toNat_natCast, hf]
  rfl
theorem cut_f0 {n : Int} {l : List S35} {u v : Int} (h : cutOk n l u v = false) : wax_Cut.f n l u v = some (0, 2) := by
  unfold wax_Cut.f
  rw [h]
  rfl
def cvA (a : S34) : S35 := ⟨a.f0, a.f1, a.f2⟩
def netL (l : List S34) : List S35 := (l.take 162).map cvA
theorem netL_all {l : List S34} (h : l.length ≤ 162) : netL l = l.map cvA := by unfold netL; rw [List.take_of_length_le h]
theorem net_l0 (l : List S34) (hl : l.length < 10000000000000) (n : Int) : ∀ (d i fu : Nat), i + d = 162 → d < fu → cantinglaw07_net.l0 fu l l.length i n ((l.take (min i 162)).map cvA) = some (n, netL l)
  | d, i, 0, h, hf => by omega
  | d, i, fu + 1, h, hf => by
    simp only [cantinglaw07_net.l0]
    by_cases hi : i < l.length
    · rw [if_pos (by omega), if_pos (by omega), if_pos (by omega)]
      by_cases h161 : (i : Int) > 161
      · rw [if_pos h161, show min i 162 = 162 by omega]
        rfl
      · rw [if_neg h161, if_pos (by simp; omega)]
        have e : (l.take (min i 162)).map cvA ++ [(⟨(rd_T34 l i).f0, (rd_T34 l i).f1, (rd_T34 l i).f2⟩ : S35)] = (l.take (min (i + 1) 162)).map cvA := by
          rw [show min i 162 = i by omega, show min (i + 1) 162 = i + 1 by omega, List.take_succ_eq_append_getElem hi, List.map_append]
          simp [rd_T34, hi, cvA]
        rw [e]
        have w : wrap64 ((i : Int) + 1) = ((i + 1 : Nat) : Int) := wrap_add1 (by omega) (by omega)
        rw [w]
        cases d with
        | zero => omega
        | succ d => exact net_l0 l hl n d (i + 1) fu (by omega) (by omega)
    · rw [if_neg (by omega)]
      unfold netL
      rw [List.take_of_length_le (by omega), List.take_of_length_le (by omega)]
theorem net_f (l : List S34) (hl : l.length < 10000000000000) (n : Int) (fu : Nat) (hf : 164 ≤ fu) : cantinglaw07_net.f fu n l = some (n, netL l) := by
  unfold cantinglaw07_net.f
  have := net_l0 l hl n 162 0 fu (by omega) (by omega)
  simpa using this
theorem awake_f : cantinglaw07_awake.f = some true := by
  unfold cantinglaw07_awake.f
  obtain ⟨s, hs, ⟨T, hT, hc⟩, hm⟩ := value_f (n := 3) (l := [⟨0, 1, 3⟩, ⟨1, 2, 2⟩]) (by decide)
  rw [hs]
  have h1 := hm (fun v => v == 0 || v == 1) ⟨rfl, rfl⟩
  have h2 : costF false (fun v => v == 0 || v == 1) [(⟨0, 1, 3⟩ : S35), ⟨1, 2, 2⟩] = 2 := by decide
  have h3 : 2 ≤ s := by
    rw [← hc]
    obtain ⟨a, b⟩ := hT
    have b' : T 2 = false := b
    simp only [costF]
    rw [a, b']
    cases T 1 <;> decide
  have : s = 2 := by omega
  subst this
  rfl
theorem cost_swap (p q : Bool) (x : Int) : (if (!p && !!q) then x else 0) + (if (!q && !!p) then x else 0) = (if (p && !q) then x else 0) + (if (q && !p) then x else 0) := by
  cases p <;> cases q <;> simp
theorem cost_not (T : Int → Bool) : ∀ l : List S35, costF true (fun v => !T v) l = costF true T l
  | [] => rfl
  | a :: l => by
    have h := cost_not T l
    show _ + _ + costF true (fun v => !T v) l = _ + _ + costF true T l
    rw [h]
    exact congrArg (· + costF true T l) (cost_swap (T a.f0) (T a.f1) a.f2)
theorem IsMin.comm {l : List S35} {u v s : Int} (h : IsMin true l u v s) : IsMin true l v u s := by
  obtain ⟨⟨T, hT, hc⟩, hm⟩ := h
  refine ⟨⟨fun x => !T x, ⟨by show (!T v) = true; rw [hT.2]; rfl, by show (!T u) = false; rw [hT.1]; rfl⟩, by rw [cost_not]; exact hc⟩, fun T' hT' => ?_⟩
  rw [← cost_not]
  exact hm _ ⟨by show (!T' u) = true; rw [hT'.2]; rfl, by show (!T' v) = false; rw [hT'.1]; rfl⟩
theorem IsMin.tri {l : List S35} {u v w a b c : Int} (ha : IsMin true l u v a) (hb : IsMin true l v w b) (hc : IsMin true l u w c) : a ≤ c ∨ b ≤ c := by
  obtain ⟨⟨T, hT, e⟩, _⟩ := hc
  cases hv : T v with
  | true => exact .inr (by rw [← e]; exact hb.2 T ⟨hv, hT.2⟩)
  | false => exact .inl (by rw [← e]; exact ha.2 T ⟨hT.1, hv⟩)
end Go.Proofs.Ytbamanjedfccpaa.HTab
end
