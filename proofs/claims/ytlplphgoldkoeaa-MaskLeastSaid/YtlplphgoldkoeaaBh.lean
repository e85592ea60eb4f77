/- Lemmas of the masks: part Bh. -/
import Derived.Test.YtlplphgoldkoeaaBg
import Derived.Test.YtlplphgoldkoeaaBc
import Derived.Laws.BitsLemmas
section
set_option linter.unusedVariables false
set_option linter.unusedSimpArgs false
namespace Go.Proofs.Ytlplphgoldkoeaa.HTab
open Go.RowKit Go.Proofs.YtlplphgoldkoeaaW.PrintWords Go.Proofs.YtlplphgoldkoeaaW.PrintLast Go.Proofs.YtlplphgoldkoeaaW.PrintMore Go.Proofs.Ytlplphgoldkoeaa.HMap Go.Proofs.Ytlplphgoldkoeaa.X
set_option linter.unusedVariables false
set_option linter.unusedSimpArgs false
def getN (T : TB) (p : Int) : S107 := T.ns.getD p.toNat ⟨0, 0, 0⟩
def Pl (T : TB) (p : Int) : Prop := 0 ≤ p ∧ p < T.ns.length
theorem asks_lt {T : TB} {p : Int} (h : p < 2) : asksP T p = T.vars := if_pos h
theorem asks_ge {T : TB} {p : Int} (h : ¬ p < 2) : asksP T p = (getN T p).f0 := if_neg h
theorem side_ne {T : TB} {p v : Int} {b : Bool} (h : asksP T p ≠ v) : sideP T p v b = p := if_pos h
theorem side_eq {T : TB} {p v : Int} {b : Bool} (h : asksP T p = v) : sideP T p v b = if b then (getN T p).f2 else (getN T p).f1 := by
  unfold sideP getN
  rw [if_neg (by simpa using h)]
structure WF (T : TB) : Prop where
  two : 2 ≤ T.ns.length
  vars : 0 ≤ T.vars
  ok : ∀ p : Int, 2 ≤ p → p < T.ns.length → 0 ≤ (getN T p).f0 ∧ (getN T p).f0 < T.vars ∧ (getN T p).f1 ≠ (getN T p).f2 ∧ 0 ≤ (getN T p).f1 ∧ (getN T p).f1 < p ∧ 0 ≤ (getN T p).f2 ∧ (getN T p).f2 < p ∧
    (getN T p).f0 < asksP T (getN T p).f1 ∧ (getN T p).f0 < asksP T (getN T p).f2
  look : ∀ n r, HMap.look T.L n = some r → 2 ≤ r ∧ r < T.ns.length ∧ getN T r = n
  back : ∀ p : Int, 2 ≤ p → p < T.ns.length → HMap.look T.L (getN T p) = some p
theorem WF.asks_le {T : TB} (h : WF T) {p : Int} (hp : Pl T p) : asksP T p ≤ T.vars := by
  by_cases h2 : p < 2
  · rw [asks_lt h2]; exact Int.le_refl _
  · rw [asks_ge h2]; have := (h.ok p (by omega) hp.2).2.1; omega
theorem WF.asks_nonneg {T : TB} (h : WF T) {p : Int} (hp : Pl T p) : 0 ≤ asksP T p := by
  by_cases h2 : p < 2
  · rw [asks_lt h2]; exact h.vars
  · rw [asks_ge h2]; exact (h.ok p (by omega) hp.2).1
theorem WF.leaf {T : TB} (h : WF T) {p : Int} (hp : Pl T p) (ha : T.vars ≤ asksP T p) : p < 2 := by
  apply Classical.byContradiction
  intro h2
  rw [asks_ge h2] at ha
  have := (h.ok p (by omega) hp.2).2.1
  omega
theorem WF.side {T : TB} (h : WF T) {p v : Int} (b : Bool) (hp : Pl T p) (hv : v < T.vars) (ha : v ≤ asksP T p) : Pl T (sideP T p v b) ∧ v + 1 ≤ asksP T (sideP T p v b) := by
  by_cases he : asksP T p = v
  · have h2 : ¬ p < 2 := fun h2 => by rw [asks_lt h2] at he; omega
    have hk := h.ok p (by omega) hp.2
    rw [asks_ge h2] at he
    rw [side_eq (by rw [asks_ge h2]; exact he)]
    have := hp.2
    cases b
    · exact ⟨⟨hk.2.2.2.1, by simp only [Bool.false_eq_true, if_false]; omega⟩, by simp only [Bool.false_eq_true, if_false]; omega⟩
    · exact ⟨⟨hk.2.2.2.2.2.1, by simp only [if_true]; omega⟩, by simp only [if_true]; omega⟩
  · rw [side_ne he]
    exact ⟨hp, by omega⟩
def den (T : TB) : Nat → Int → List Bool
  | 0, p => [decide (p = 1)]
  | k + 1, p => den T k (sideP T p (T.vars - ((k : Int) + 1)) false) ++ den T k (sideP T p (T.vars - ((k : Int) + 1)) true)
theorem den_succ (T : TB) (k : Nat) (p : Int) : den T (k + 1) p = den T k (sideP T p (T.vars - ((k : Int) + 1)) false) ++ den T k (sideP T p (T.vars - ((k : Int) + 1)) true) := rfl
theorem den_length (T : TB) : ∀ (k : Nat) (p : Int), (den T k p).length = 2 ^ k
  | 0, p => rfl
  | k + 1, p => by
    unfold den
    rw [List.length_append, den_length T k, den_length T k, Nat.pow_succ]
    omega
theorem append_split {α : Type} {a b c d : List α} (h : a ++ b = c ++ d) (hl : a.length = c.length) : a = c ∧ b = d := List.append_inj h hl
theorem WF.inj {T : TB} (h : WF T) : ∀ (k : Nat) (p q : Int), (k : Int) ≤ T.vars → Pl T p → Pl T q → T.vars - k ≤ asksP T p → T.vars - k ≤ asksP T q → den T k p = den T k q → p = q
  | 0, p, q, hk, hp, hq, ap, aq, he => by
    have p2 := h.leaf hp (by omega)
    have q2 := h.leaf hq (by omega)
    simp only [den, List.cons.injEq, and_true] at he
    have := hp.1
    have := hq.1
    by_cases h1 : p = 1
    · have : q = 1 := by simpa [h1] using he
      omega
    · have : ¬ q = 1 := by simpa [h1] using he
      omega
  | k + 1, p, q, hk, hp, hq, ap, aq, he => by
    unfold den at he
    have hv : T.vars - ((k : Int) + 1) < T.vars := by omega
    obtain ⟨e0, e1⟩ := append_split he (by rw [den_length, den_length])
    have sp0 := h.side false hp hv (by omega)
    have sp1 := h.side true hp hv (by omega)
    have sq0 := h.side false hq hv (by omega)
    have sq1 := h.side true hq hv (by omega)
    have i0 := h.inj k _ _ (by omega) sp0.1 sq0.1 (by omega) (by omega) e0
    have i1 := h.inj k _ _ (by omega) sp1.1 sq1.1 (by omega) (by omega) e1
    by_cases hpv : asksP T p = T.vars - ((k : Int) + 1)
    · have p2 : ¬ p < 2 := fun h2 => by rw [asks_lt h2] at hpv; omega
      have okp := h.ok p (by omega) hp.2
      rw [side_eq hpv] at i0 i1
      by_cases hqv : asksP T q = T.vars - ((k : Int) + 1)
      · have q2 : ¬ q < 2 := fun h2 => by rw [asks_lt h2] at hqv; omega
        rw [side_eq hqv] at i0 i1
        simp only [Bool.false_eq_true, if_false, if_true] at i0 i1
        rw [asks_ge p2] at hpv
        rw [asks_ge q2] at hqv
        have hn : getN T p = getN T q := by
          have e2 : (getN T p).f0 = (getN T q).f0 := by omega
          cases hx : getN T p
          cases hy : getN T q
          simp only [hx, hy] at i0 i1 e2
          simp [i0, i1, e2]
        have b1 := h.back p (by omega) hp.2
        have b2 := h.back q (by omega) hq.2
        rw [hn] at b1
        exact Option.some.inj (b1.symm.trans b2)
      · rw [side_ne hqv] at i0 i1
        simp only [Bool.false_eq_true, if_false, if_true] at i0 i1
        exact absurd (i0.trans i1.symm) okp.2.2.1
    · rw [side_ne hpv] at i0 i1
      by_cases hqv : asksP T q = T.vars - ((k : Int) + 1)
      · have q2 : ¬ q < 2 := fun h2 => by rw [asks_lt h2] at hqv; omega
        have okq := h.ok q (by omega) hq.2
        rw [side_eq hqv] at i0 i1
        simp only [Bool.false_eq_true, if_false, if_true] at i0 i1
        exact absurd (i0.symm.trans i1) okq.2.2.1
      · rw [side_ne hqv] at i0
        exact i0
def Ext (T T' : TB) : Prop := T'.vars = T.vars ∧ ∃ l, T'.ns = T.ns ++ l
theorem Ext.refl (T : TB) : Ext T T := ⟨rfl, [], by simp⟩
theorem Ext.then_ {A B C : TB} (h : Ext A B) (k : Ext B C) : Ext A C := by
  obtain ⟨h1, l, h2⟩ := h
  obtain ⟨k1, m, k2⟩ := k
  exact ⟨k1.trans h1, l ++ m, by rw [k2, h2, List.append_assoc]⟩
theorem Ext.pl {T T' : TB} (h : Ext T T') {p : Int} (hp : Pl T p) : Pl T' p := by
  obtain ⟨_, l, h2⟩ := h
  refine ⟨hp.1, ?_⟩
  have := hp.2
  rw [h2, List.length_append]
  omega
theorem Ext.getN {T T' : TB} (h : Ext T T') {p : Int} (hp : Pl T p) : HTab.getN T' p = HTab.getN T p := by
  obtain ⟨_, l, h2⟩ := h
  have h3 : p.toNat < T.ns.length := by have := hp.1; have := hp.2; omega
  unfold HTab.getN
  rw [h2, List.getD_eq_getElem?_getD, List.getD_eq_getElem?_getD, List.getElem?_append_left h3]
theorem Ext.asks {T T' : TB} (h : Ext T T') {p : Int} (hp : Pl T p) : asksP T' p = asksP T p := by
  by_cases h2 : p < 2
  · rw [asks_lt h2, asks_lt h2, h.1]
  · rw [asks_ge h2, asks_ge h2, h.getN hp]
theorem Ext.side {T T' : TB} (h : Ext T T') {p v : Int} {b : Bool} (hp : Pl T p) : sideP T' p v b = sideP T p v b := by
  by_cases he : asksP T p = v
  · rw [side_eq he, side_eq (by rw [h.asks hp]; exact he), h.getN hp]
  · rw [side_ne he, side_ne (by rw [h.asks hp]; exact he)]
theorem Ext.den {T T' : TB} (h : Ext T T') (hw : WF T) : ∀ (k : Nat) (p : Int), (k : Int) ≤ T.vars → Pl T p → T.vars - k ≤ asksP T p → den T' k p = den T k p
  | 0, p, _, _, _ => rfl
  | k + 1, p, hk, hp, ha => by
    unfold HTab.den
    rw [h.1, h.side hp, h.side hp]
    have s0 := hw.side false hp (show T.vars - ((k : Int) + 1) < T.vars by omega) (by omega)
    have s1 := hw.side true hp (show T.vars - ((k : Int) + 1) < T.vars by omega) (by omega)
    rw [h.den hw k _ (by omega) s0.1 (by omega), h.den hw k _ (by omega) s1.1 (by omega)]
theorem WF.t0 (n : Int) (hn : 0 ≤ n) : WF (T0 n) := by
  refine ⟨Nat.le_refl 2, hn, ?_, ?_, ?_⟩
  · intro p h1 h2
    have : ((T0 n).ns.length : Int) = 2 := rfl
    omega
  · intro m r h
    simp [T0, HMap.look] at h
  · intro p h1 h2
    have : ((T0 n).ns.length : Int) = 2 := rfl
    omega
theorem WF.node {T : TB} (h : WF T) (v lo hi : Int) (h0 : 0 ≤ v) (hv : v < T.vars) (hl : Pl T lo) (hh : Pl T hi) (al : v < asksP T lo) (ah : v < asksP T hi) :
    WF (nodeP T ⟨v, lo, hi⟩).2 ∧ Ext T (nodeP T ⟨v, lo, hi⟩).2 ∧ Pl (nodeP T ⟨v, lo, hi⟩).2 (nodeP T ⟨v, lo, hi⟩).1 ∧ v ≤ asksP (nodeP T ⟨v, lo, hi⟩).2 (nodeP T ⟨v, lo, hi⟩).1 ∧
      ∀ k : Nat, T.vars - v = k + 1 → den (nodeP T ⟨v, lo, hi⟩).2 (k + 1) (nodeP T ⟨v, lo, hi⟩).1 = den T k lo ++ den T k hi := by
  unfold nodeP
  split
  · rename_i he
    simp only at he
    subst he
    refine ⟨h, Ext.refl _, hl, by simp only; omega, fun k hk => ?_⟩
    simp only [den]
    rw [show T.vars - ((k : Int) + 1) = v by omega, side_ne (by omega), side_ne (by omega)]
  · rename_i hne
    simp only at hne
    split
    · rename_i r hr
      obtain ⟨r1, r2, r3⟩ := h.look _ _ hr
      have ar : asksP T r = v := by rw [asks_ge (by omega), r3]
      refine ⟨h, Ext.refl _, ⟨by simp only; omega, r2⟩, by simp only; omega, fun k hk => ?_⟩
      simp only [den]
      rw [show T.vars - ((k : Int) + 1) = v by omega, side_eq ar, side_eq ar, r3]
      simp
    · rename_i hr
      have hE : Ext T ⟨T.vars, T.ns ++ [⟨v, lo, hi⟩], HMap.upd T.L ⟨v, lo, hi⟩ T.ns.length⟩ := ⟨rfl, _, rfl⟩
      have ht := h.two
      have hg : getN ⟨T.vars, T.ns ++ [⟨v, lo, hi⟩], HMap.upd T.L ⟨v, lo, hi⟩ T.ns.length⟩ (T.ns.length : Int) = ⟨v, lo, hi⟩ := by
        unfold getN
        simp
      have hlen : ((T.ns ++ [(⟨v, lo, hi⟩ : S107)]).length : Int) = T.ns.length + 1 := by simp
      have ar : asksP ⟨T.vars, T.ns ++ [⟨v, lo, hi⟩], HMap.upd T.L ⟨v, lo, hi⟩ T.ns.length⟩ (T.ns.length : Int) = v := by rw [asks_ge (by omega), hg]
      refine ⟨⟨?_, h.vars, ?_, ?_, ?_⟩, hE, ⟨by simp only; omega, by simp only [hlen]; omega⟩, by simp only [ar]; omega, fun k hk => ?_⟩
      · simp only [List.length_append]; omega
      · intro p h1 h2
        simp only [hlen] at h2
        by_cases hp : p = T.ns.length
        · subst hp
          rw [hg]
          refine ⟨h0, hv, hne, hl.1, hl.2, hh.1, hh.2, ?_, ?_⟩
          · rw [hE.asks hl]; exact al
          · rw [hE.asks hh]; exact ah
        · have hP : Pl T p := ⟨by omega, by omega⟩
          rw [hE.getN hP]
          have := h.ok p h1 hP.2
          refine ⟨this.1, this.2.1, this.2.2.1, this.2.2.2.1, this.2.2.2.2.1, this.2.2.2.2.2.1, this.2.2.2.2.2.2.1, ?_, ?_⟩
          · rw [hE.asks ⟨this.2.2.2.1, by have := hP.2; omega⟩]; exact this.2.2.2.2.2.2.2.1
          · rw [hE.asks ⟨this.2.2.2.2.2.1, by have := hP.2; omega⟩]; exact this.2.2.2.2.2.2.2.2
      · intro m r hm
        by_cases he : m = ⟨v, lo, hi⟩
        · subst he
          simp only [HMap.look_upd_same, Option.some.injEq] at hm
          subst hm
          exact ⟨by omega, by simp only [hlen]; omega, hg⟩
        · simp only [HMap.look_upd_other _ _ _ _ he] at hm
          obtain ⟨r1, r2, r3⟩ := h.look _ _ hm
          exact ⟨r1, by simp only [hlen]; omega, by rw [hE.getN ⟨by omega, r2⟩]; exact r3⟩
      · intro p h1 h2
        simp only [hlen] at h2
        by_cases hp : p = T.ns.length
        · subst hp
          rw [hg]
          simp only [HMap.look_upd_same]
        · have hP : Pl T p := ⟨by omega, by omega⟩
          rw [hE.getN hP]
          have hb := h.back p h1 hP.2
          have hne2 : getN T p ≠ ⟨v, lo, hi⟩ := fun e => by rw [e, hr] at hb; cases hb
          simp only [HMap.look_upd_other _ _ _ _ hne2]
          exact hb
      · show den ⟨T.vars, T.ns ++ [⟨v, lo, hi⟩], HMap.upd T.L ⟨v, lo, hi⟩ T.ns.length⟩ (k + 1) (T.ns.length : Int) = _
        rw [den_succ]
        rw [show (⟨T.vars, T.ns ++ [⟨v, lo, hi⟩], HMap.upd T.L ⟨v, lo, hi⟩ T.ns.length⟩ : TB).vars - ((k : Int) + 1) = v by show T.vars - ((k : Int) + 1) = v; omega, side_eq ar, side_eq ar, hg]
        simp only [Bool.false_eq_true, if_false, if_true]
        rw [hE.den h k lo (by omega) hl (by omega), hE.den h k hi (by omega) hh (by omega)]
end Go.Proofs.Ytlplphgoldkoeaa.HTab
end

section
set_option linter.unusedVariables false
set_option linter.unusedSimpArgs false
namespace Go.Proofs.Ytlplphgoldkoeaa.HTab
open Go.RowKit Go.Proofs.YtlplphgoldkoeaaW.PrintWords Go.Proofs.YtlplphgoldkoeaaW.PrintLast Go.Proofs.YtlplphgoldkoeaaW.PrintMore Go.Proofs.Ytlplphgoldkoeaa.HMap Go.Proofs.Ytlplphgoldkoeaa.X
set_option linter.unusedVariables false
set_option linter.unusedSimpArgs false
theorem range_two {α : Type} (g : Nat → α) (m : Nat) : (List.range (m + m)).map g = (List.range m).map g ++ (List.range m).map (fun i => g (m + i)) := by
  rw [List.range_add, List.map_append, List.map_map]
  rfl
theorem grow_ok (n : Int) (f : Int → Bool) : ∀ (k : Nat) (p : Int) (T : TB), WF T → T.vars = n → (k : Int) ≤ n →
    WF (growP n f k p T).2 ∧ Ext T (growP n f k p T).2 ∧ Pl (growP n f k p T).2 (growP n f k p T).1 ∧ n - k ≤ asksP (growP n f k p T).2 (growP n f k p T).1 ∧
      den (growP n f k p T).2 k (growP n f k p T).1 = (List.range (2 ^ k)).map fun (i : Nat) => f (p * 2 ^ k + (i : Int))
  | 0, p, T, h, hn, hk => by
    have h2 := h.two
    simp only [growP]
    refine ⟨h, Ext.refl T, ?_, ?_, ?_⟩
    · split
      · exact ⟨by omega, by omega⟩
      · exact ⟨by omega, by omega⟩
    · rw [asks_lt (by split <;> omega)]; omega
    · simp only [den, Nat.pow_zero, Int.pow_zero, Int.mul_one]
      rw [show List.range 1 = [0] from rfl]
      simp only [List.map_cons, List.map_nil, Int.ofNat_zero, Int.add_zero]
      cases hf : f p <;> simp [hf]
  | k + 1, p, T, h, hn, hk => by
    obtain ⟨w1, e1, p1, a1, d1⟩ := grow_ok n f k (2 * p) T h hn (by omega)
    obtain ⟨w2, e2, p2, a2, d2⟩ := grow_ok n f k (2 * p + 1) (growP n f k (2 * p) T).2 w1 (e1.1.trans hn) (by omega)
    have v2 : (growP n f k (2 * p + 1) (growP n f k (2 * p) T).2).2.vars = n := e2.1.trans (e1.1.trans hn)
    have a1' := e2.asks p1
    obtain ⟨w3, e3, p3, a3, d3⟩ := w2.node (n - ((k : Int) + 1)) (growP n f k (2 * p) T).1 (growP n f k (2 * p + 1) (growP n f k (2 * p) T).2).1 (by omega) (by omega) (e2.pl p1) p2 (by omega) (by omega)
    simp only [growP]
    refine ⟨w3, e1.then_ (e2.then_ e3), p3, a3, ?_⟩
    rw [d3 k (by omega), e2.den w1 k _ (by have := e1.1; omega) p1 (by have := e1.1; omega), d1, d2, Nat.pow_succ, Nat.mul_two, range_two]
    congr 1
    · apply List.map_congr_left
      intro i _
      congr 1
      rw [Int.pow_succ]
      congr 1
      rw [← Int.mul_assoc, Int.mul_comm (p * 2 ^ k) 2, ← Int.mul_assoc]
    · apply List.map_congr_left
      intro i _
      congr 1
      rw [Int.pow_succ, Int.add_mul, Int.natCast_add, Int.one_mul, Int.natCast_pow]
      rw [show p * (2 ^ k * 2) = 2 * p * 2 ^ k by rw [← Int.mul_assoc, Int.mul_comm (p * 2 ^ k) 2, ← Int.mul_assoc]]
      show _ + (2 : Int) ^ k + (i : Int) = 2 * p * 2 ^ k + ((2 : Int) ^ k + (i : Int))
      omega
theorem den_leaf {T : TB} (h : WF T) : ∀ (k : Nat) (p : Int), (k : Int) ≤ T.vars → p < 2 → den T k p = List.replicate (2 ^ k) (decide (p = 1))
  | 0, p, _, _ => rfl
  | k + 1, p, hk, hp => by
    rw [den_succ, side_ne (by rw [asks_lt hp]; omega), side_ne (by rw [asks_lt hp]; omega), den_leaf h k p (by omega) hp, List.replicate_append_replicate, Nat.pow_succ, Nat.mul_two]
theorem constP_eq {t : List Bool} (h : constP t = true) : t = List.replicate t.length (t.getD 0 false) := by
  unfold constP at h
  rw [List.all_eq_true] at h
  apply List.eq_replicate_of_mem
  intro x hx
  simpa using h x hx
theorem constP_rep (n : Nat) (x : Bool) : constP (List.replicate n x) = true := by
  unfold constP
  rw [List.all_eq_true]
  intro y hy
  rw [List.mem_replicate] at hy
  obtain ⟨h0, rfl⟩ := hy
  cases n with
  | zero => exact absurd rfl h0
  | succ n => simp [List.replicate_succ]
def toR (n : S107) : S106 := ⟨n.f0, n.f1, n.f2⟩
structure Rel (T : TB) (s : MS) (b : BS) : Prop where
  nodes : b.nodes = s.out.map toR
  len : b.ts.length = s.out.length
  zero : HMap.look s.M 0 = some 0
  one : HMap.look s.M 1 = some 1
  fwd : ∀ p q, HMap.look s.M p = some q → 2 ≤ p → Pl T p ∧ ∃ i : Nat, q = (i : Int) + 2 ∧ b.ts[i]? = some (den T (T.vars - asksP T p).toNat p)
  from_ : ∀ (i : Nat) t, b.ts[i]? = some t → ∃ p, 2 ≤ p ∧ Pl T p ∧ HMap.look s.M p = some ((i : Int) + 2) ∧ t = den T (T.vars - asksP T p).toNat p
theorem pow_inj {a b : Nat} (h : 2 ^ a = 2 ^ b) : a = b := by
  rcases Nat.lt_trichotomy a b with h1 | h1 | h1
  · have := Nat.pow_lt_pow_right (a := 2) (by omega) h1; omega
  · exact h1
  · have := Nat.pow_lt_pow_right (a := 2) (by omega) h1; omega
theorem Rel.same {T : TB} (hw : WF T) {s : MS} {b : BS} (h : Rel T s b) {i k : Nat} {p : Int} (hk : (k : Int) ≤ T.vars) (hp : Pl T p) (ha : asksP T p = T.vars - k) (hi : b.ts[i]? = some (den T k p)) : HMap.look s.M p = some ((i : Int) + 2) := by
  obtain ⟨p', h2, hP, hl, ht⟩ := h.from_ i _ hi
  have hlen := congrArg List.length ht
  rw [den_length, den_length] at hlen
  have hkk := pow_inj hlen
  have h3 := hw.asks_nonneg hP
  have h4 := hw.asks_le hP
  rw [← hkk] at ht
  have := hw.inj k p p' hk hp hP (by omega) (by omega) ht
  rw [this]
  exact hl
theorem mask_visit {T : TB} (hw : WF T) : ∀ (k fm fv : Nat) (p : Int) (s : MS) (b : BS), (k : Int) ≤ T.vars → Pl T p → T.vars - k ≤ asksP T p → k < fm → k < fv → Rel T s b →
    ∃ r s' b', maskP T fm s p = some (r, s') ∧ visitP fv b (den T k p) (T.vars - k) = some (r, b') ∧ Rel T s' b' ∧ s'.out.length + 1 ≤ s.out.length + 2 ^ k ∧ ∀ p', p < p' → HMap.look s'.M p' = HMap.look s.M p' := by
  intro k
  induction k with
  | zero =>
    intro fm fv p s b hk hp ha hm hv hR
    obtain ⟨fm, rfl⟩ : ∃ m, fm = m + 1 := ⟨fm - 1, by omega⟩
    obtain ⟨fv, rfl⟩ : ∃ m, fv = m + 1 := ⟨fv - 1, by omega⟩
    have h2 := hw.leaf hp (by omega)
    have h0 := hp.1
    have hl : HMap.look s.M p = some p := by
      have : p = 0 ∨ p = 1 := by omega
      rcases this with rfl | rfl
      · exact hR.zero
      · exact hR.one
    refine ⟨p, s, b, by simp [maskP, hl], ?_, hR, by simp, fun _ _ => rfl⟩
    rw [den_leaf hw 0 p hk h2]
    unfold visitP
    rw [if_neg (by simp), if_pos (constP_rep _ _)]
    have : p = 0 ∨ p = 1 := by omega
    rcases this with rfl | rfl <;> rfl
  | succ k ih =>
    intro fm fv p s b hk hp ha hm hv hR
    obtain ⟨fm, rfl⟩ : ∃ m, fm = m + 1 := ⟨fm - 1, by omega⟩
    obtain ⟨fv, rfl⟩ : ∃ m, fv = m + 1 := ⟨fv - 1, by omega⟩
    have h0 := hp.1
    have hpos : 0 < 2 ^ (k + 1) := Nat.two_pow_pos _
    by_cases h2 : p < 2
    · have hl : HMap.look s.M p = some p := by
        have : p = 0 ∨ p = 1 := by omega
        rcases this with rfl | rfl
        · exact hR.zero
        · exact hR.one
      refine ⟨p, s, b, by simp [maskP, hl], ?_, hR, by omega, fun _ _ => rfl⟩
      rw [den_leaf hw (k + 1) p hk h2]
      unfold visitP
      rw [if_neg (by simp), if_pos (constP_rep _ _)]
      obtain ⟨m, hm⟩ : ∃ m, 2 ^ (k + 1) = m + 1 := ⟨2 ^ (k + 1) - 1, by omega⟩
      rw [hm]
      have : p = 0 ∨ p = 1 := by omega
      rcases this with rfl | rfl <;> simp [List.replicate_succ]
    · have hnc : ¬ constP (den T (k + 1) p) = true := by
        intro hc
        have hc := constP_eq hc
        rw [den_length] at hc
        generalize (den T (k + 1) p).getD 0 false = x at hc
        have hq : den T (k + 1) p = den T (k + 1) (if x then 1 else 0) := by
          rw [den_leaf hw (k + 1) (if x then 1 else 0) hk (by split <;> omega), hc]
          cases x <;> simp
        have ht := hw.two
        have := hw.inj (k + 1) p (if x then 1 else 0) hk hp (by split <;> exact ⟨by omega, by omega⟩) ha (by rw [asks_lt (by split <;> omega)]; omega) hq
        split at this <;> omega
      have hne : ¬ den T (k + 1) p = [] := fun h => by have := congrArg List.length h; rw [den_length] at this; simp at this
      have hhalf : (den T (k + 1) p).length / 2 = (den T k (sideP T p (T.vars - ((k : Int) + 1)) false)).length := by
        rw [den_length, den_length, Nat.pow_succ]; omega
      have htake : (den T (k + 1) p).take ((den T (k + 1) p).length / 2) = den T k (sideP T p (T.vars - ((k : Int) + 1)) false) := by
        rw [hhalf, den_succ, List.take_left]
      have hdrop : (den T (k + 1) p).drop ((den T (k + 1) p).length / 2) = den T k (sideP T p (T.vars - ((k : Int) + 1)) true) := by
        rw [hhalf, den_succ, List.drop_left]
      have hvv : T.vars - ((k + 1 : Nat) : Int) + 1 = T.vars - k := by omega
      unfold visitP
      rw [if_neg hne, if_neg hnc, htake, hdrop, hvv]
      have s0 := hw.side false hp (show T.vars - ((k : Int) + 1) < T.vars by omega) (by omega)
      have s1 := hw.side true hp (show T.vars - ((k : Int) + 1) < T.vars by omega) (by omega)
      by_cases hav : asksP T p = T.vars - ((k : Int) + 1)
      · have okp := hw.ok p (by omega) hp.2
        have f0 : (getN T p).f0 = T.vars - ((k : Int) + 1) := by rw [asks_ge h2] at hav; exact hav
        rw [side_eq hav] at s0 s1
        rw [side_eq hav, side_eq hav]
        simp only [Bool.false_eq_true, if_false, if_true] at s0 s1 ⊢
        have hd : ¬ den T k (getN T p).f1 = den T k (getN T p).f2 := fun he => okp.2.2.1 (hw.inj k _ _ (by omega) s0.1 s1.1 (by omega) (by omega) he)
        rw [if_neg hd]
        cases hl : HMap.look s.M p with
        | some q =>
          obtain ⟨_, i, rfl, hi⟩ := hR.fwd p q hl (by omega)
          rw [show (T.vars - asksP T p).toNat = k + 1 by omega] at hi
          cases hx : idxOf b.ts (den T (k + 1) p) with
          | none => exact absurd hi (idxOf_none hx i)
          | some j =>
            obtain ⟨j1, j2, j3⟩ := idxOf_some hx
            have h4 := hR.same hw hk hp (by omega) j2
            rw [hl] at h4
            simp only [Option.some.injEq] at h4
            refine ⟨(i : Int) + 2, s, b, by simp [maskP, hl], ?_, hR, by omega, fun _ _ => rfl⟩
            simp only [Option.some.injEq, Prod.mk.injEq, and_true]
            omega
        | none =>
          cases hx : idxOf b.ts (den T (k + 1) p) with
          | some j =>
            obtain ⟨j1, j2, j3⟩ := idxOf_some hx
            have h4 := hR.same hw hk hp (by omega) j2
            rw [hl] at h4
            cases h4
          | none =>
            obtain ⟨r1, s1', b1, m1, v1, R1, l1, g1⟩ := ih fm fv (getN T p).f1 s b (by omega) s0.1 (by omega) (by omega) (by omega) hR
            obtain ⟨r2, s2', b2, m2, v2, R2, l2, g2⟩ := ih fm fv (getN T p).f2 s1' b1 (by omega) s1.1 (by omega) (by omega) (by omega) R1
            refine ⟨(s2'.out.length : Int) + 2, ⟨HMap.upd s2'.M p ((s2'.out.length : Int) + 2), s2'.out ++ [⟨(getN T p).f0, r1, r2⟩]⟩, ⟨b2.nodes ++ [⟨T.vars - ((k + 1 : Nat) : Int), r1, r2⟩], b2.ts ++ [den T (k + 1) p]⟩, ?_, ?_, ?_, ?_, ?_⟩
            · unfold maskP
              simp only [hl]
              rw [if_pos ⟨h0, hp.2⟩]
              show (maskP T fm s (getN T p).f1).bind _ = _
              rw [m1]
              show (maskP T fm s1' (getN T p).f2).bind _ = _
              rw [m2]
              rfl
            · simp only [v1, v2, Option.bind_some, R2.nodes, List.length_map]
            · have hkk : (T.vars - asksP T p).toNat = k + 1 := by omega
              refine ⟨?_, ?_, ?_, ?_, ?_, ?_⟩
              · simp only [R2.nodes, List.map_append, List.map_cons, List.map_nil, toR, f0]
                simp
              · simp [R2.len]
              · simp only; rw [HMap.look_upd_other _ _ _ _ (by omega)]; exact R2.zero
              · simp only; rw [HMap.look_upd_other _ _ _ _ (by omega)]; exact R2.one
              · intro p' q hq h2'
                simp only at hq
                by_cases he : p' = p
                · subst he
                  rw [HMap.look_upd_same] at hq
                  simp only [Option.some.injEq] at hq
                  refine ⟨hp, s2'.out.length, hq.symm, ?_⟩
                  simp only [hkk]
                  rw [← R2.len, List.getElem?_append_right (Nat.le_refl _)]
                  simp
                · rw [HMap.look_upd_other _ _ _ _ he] at hq
                  obtain ⟨hP, i, hi, ht⟩ := R2.fwd p' q hq h2'
                  refine ⟨hP, i, hi, ?_⟩
                  have := (List.getElem?_eq_some_iff.1 ht).1
                  simp only
                  rw [List.getElem?_append_left this]
                  exact ht
              · intro i t hi
                simp only at hi
                by_cases hlt : i < b2.ts.length
                · rw [List.getElem?_append_left hlt] at hi
                  obtain ⟨p', q1, q2, q3, q4⟩ := R2.from_ i t hi
                  have hpp : p' ≠ p := fun e => by
                    rw [e, g2 p okp.2.2.2.2.2.2.1, g1 p okp.2.2.2.2.1, hl] at q3
                    cases q3
                  refine ⟨p', q1, q2, ?_, q4⟩
                  simp only
                  rw [HMap.look_upd_other _ _ _ _ hpp]
                  exact q3
                · rw [List.getElem?_append_right (by omega)] at hi
                  have hi0 : i - b2.ts.length = 0 := by
                    apply Classical.byContradiction
                    intro hne
                    rw [List.getElem?_eq_none (by simp; omega)] at hi
                    cases hi
                  rw [hi0] at hi
                  simp only [List.getElem?_cons_zero, Option.some.injEq] at hi
                  refine ⟨p, by omega, hp, ?_, ?_⟩
                  · simp only
                    rw [HMap.look_upd_same]
                    have := R2.len
                    congr 1
                    omega
                  · rw [hkk, hi]
            · simp only [List.length_append, List.length_cons, List.length_nil]
              rw [Nat.pow_succ]
              omega
            · intro p' hp'
              simp only
              rw [HMap.look_upd_other _ _ _ _ (by omega), g2 p' (by have := okp.2.2.2.2.2.2.1; omega), g1 p' (by have := okp.2.2.2.2.1; omega)]
      · rw [side_ne hav] at s0
        rw [side_ne hav, side_ne hav, if_pos rfl]
        obtain ⟨r, s', b', m1, v1, R1, l1, g1⟩ := ih (fm + 1) fv p s b (by omega) hp (by omega) (by omega) (by omega) hR
        exact ⟨r, s', b', m1, v1, R1, by rw [Nat.pow_succ]; omega, g1⟩
theorem rel0 (T : TB) : Rel T M0 ⟨[], []⟩ := by
  refine ⟨rfl, rfl, rfl, rfl, ?_, ?_⟩
  · intro p q h h2
    simp only [M0, HMap.look] at h
    rw [if_neg (by omega), if_neg (by omega)] at h
    cases h
  · intro i t h
    simp at h
theorem mask_of {T : TB} (hw : WF T) (hn : T.vars ≤ 12) (p : Int) (hp : Pl T p) :
    ∃ r s' ts, maskP T 64 M0 p = some (r, s') ∧ ofP (den T T.vars.toNat p) = some (r, ⟨s'.out.map toR, ts⟩) ∧ s'.out.length ≤ 4096 := by
  have hv := hw.vars
  have ha := hw.asks_nonneg hp
  obtain ⟨r, s', b', h1, h2, h3, h4, _⟩ := mask_visit hw T.vars.toNat 64 64 p M0 ⟨[], []⟩ (by omega) hp (by omega) (by omega) (by omega) (rel0 T)
  rw [show T.vars - (T.vars.toNat : Int) = 0 by omega] at h2
  refine ⟨r, s', b'.ts, h1, ?_, ?_⟩
  · unfold ofP
    rw [h2, ← h3.nodes]
  · have h5 : 2 ^ T.vars.toNat ≤ 2 ^ 12 := Nat.pow_le_pow_right (by omega) (by omega)
    have : M0.out.length = 0 := rfl
    omega
end Go.Proofs.Ytlplphgoldkoeaa.HTab
end

section
set_option linter.unusedVariables false
set_option linter.unusedSimpArgs false
namespace Go.Proofs.Ytlplphgoldkoeaa.HTab
open Go.RowKit Go.Proofs.YtlplphgoldkoeaaW.PrintWords Go.Proofs.YtlplphgoldkoeaaW.PrintLast Go.Proofs.YtlplphgoldkoeaaW.PrintMore Go.Proofs.Ytlplphgoldkoeaa.HMap Go.Proofs.Ytlplphgoldkoeaa.X
set_option linter.unusedVariables false
set_option linter.unusedSimpArgs false
def addN (T : TB) (n : S107) : TB := ⟨T.vars, T.ns ++ [n], HMap.upd T.L n T.ns.length⟩
def TM (v : Int) (l : List S107) : TB := l.foldl addN (T0 v)
theorem TM_snoc (v : Int) (l : List S107) (n : S107) : TM v (l ++ [n]) = addN (TM v l) n := by
  unfold TM; rw [List.foldl_append]; rfl
theorem foldl_vars : ∀ (l : List S107) (T : TB), (l.foldl addN T).vars = T.vars
  | [], T => rfl
  | n :: l, T => by rw [List.foldl_cons, foldl_vars l]; rfl
theorem foldl_ns : ∀ (l : List S107) (T : TB), (l.foldl addN T).ns = T.ns ++ l
  | [], T => by simp
  | n :: l, T => by rw [List.foldl_cons, foldl_ns l]; simp [addN]
theorem TM_vars (v : Int) (l : List S107) : (TM v l).vars = v := foldl_vars l _
theorem TM_ns (v : Int) (l : List S107) : (TM v l).ns = ⟨0, 0, 0⟩ :: ⟨0, 0, 0⟩ :: l := (foldl_ns l _).trans rfl
theorem TM_len (v : Int) (l : List S107) : (TM v l).ns.length = l.length + 2 := by rw [TM_ns]; rfl
theorem TM_pl (v : Int) (l : List S107) (p : Int) : Pl (TM v l) p ↔ 0 ≤ p ∧ p < l.length + 2 := by
  unfold Pl; rw [TM_len]; constructor <;> (rintro ⟨a, b⟩; exact ⟨a, by omega⟩)
theorem TM_get (v : Int) (l : List S107) (p : Int) (h : 2 ≤ p) : getN (TM v l) p = l.getD (p - 2).toNat ⟨0, 0, 0⟩ := by
  unfold getN; rw [TM_ns]
  obtain ⟨m, hm⟩ : ∃ m, p.toNat = m + 2 := ⟨p.toNat - 2, by omega⟩
  rw [hm, show (p - 2).toNat = m by omega]; rfl
theorem Ext.addN (T : TB) (n : S107) : Ext T (HTab.addN T n) := ⟨rfl, [n], rfl⟩
structure Outs (T : TB) (s : MS) : Prop where
  wf : WF (TM T.vars s.out)
  zero : HMap.look s.M 0 = some 0
  one : HMap.look s.M 1 = some 1
  fwd : ∀ p q, Pl T p → HMap.look s.M p = some q → Pl (TM T.vars s.out) q ∧ asksP (TM T.vars s.out) q = asksP T p ∧ ∀ k : Nat, (k : Int) ≤ T.vars → T.vars - k ≤ asksP T p → den (TM T.vars s.out) k q = den T k p
  cov : ∀ q, 2 ≤ q → Pl (TM T.vars s.out) q → ∃ p, Pl T p ∧ HMap.look s.M p = some q
theorem Outs.m0 {T : TB} (hw : WF T) : Outs T M0 := by
  have ht := hw.two
  refine ⟨by show WF (T0 T.vars); exact WF.t0 _ hw.vars, rfl, rfl, ?_, ?_⟩
  · intro p q hp h
    have h0 := hw.vars
    have hpq : p = q ∧ (p = 0 ∨ p = 1) := by
      simp only [M0, HMap.look] at h
      split at h
      · simp only [Option.some.injEq] at h; omega
      · split at h
        · simp only [Option.some.injEq] at h; omega
        · cases h
    obtain ⟨rfl, h2⟩ := hpq
    have hv : (TM T.vars M0.out).vars = T.vars := TM_vars _ _
    have hw0 : WF (TM T.vars M0.out) := WF.t0 _ hw.vars
    refine ⟨(TM_pl _ _ _).2 ⟨by omega, by show p < 0 + 2; omega⟩, by rw [asks_lt (by omega), asks_lt (by omega), hv], fun k hk _ => ?_⟩
    rw [den_leaf hw0 k p (by rw [hv]; exact hk) (by omega), den_leaf hw k p hk (by omega)]
  · intro q h2 hq
    have := ((TM_pl _ _ _).1 hq).2
    simp only [M0, List.length_nil] at this
    omega
theorem mask_out {T : TB} (hw : WF T) : ∀ (k : Nat) (s s' : MS) (p r : Int), maskP T k s p = some (r, s') → Pl T p → Outs T s →
    Outs T s' ∧ HMap.look s'.M p = some r ∧ (∀ p', p < p' → HMap.look s'.M p' = HMap.look s.M p') ∧ (∀ p' q, HMap.look s.M p' = some q → HMap.look s'.M p' = some q) ∧ (s' = s ∨ r = s'.out.length + 1)
  | 0, s, s', p, r, h, _, _ => by simp [maskP] at h
  | k + 1, s, s', p, r, h, hp, hO => by
    unfold maskP at h
    split at h
    · rename_i q hq
      simp only [Option.some.injEq, Prod.mk.injEq] at h
      obtain ⟨rfl, rfl⟩ := h
      exact ⟨hO, hq, fun _ _ => rfl, fun _ _ h => h, .inl rfl⟩
    · rename_i hl
      rw [if_pos (show 0 ≤ p ∧ p < (T.ns.length : Int) from hp)] at h
      simp only [show rd_T107 T.ns p = getN T p from rfl] at h
      have h2 : ¬ p < 2 := fun h2 => by
        have := hp.1
        have : p = 0 ∨ p = 1 := by omega
        rcases this with rfl | rfl
        · rw [hO.zero] at hl; cases hl
        · rw [hO.one] at hl; cases hl
      have okp := hw.ok p (by omega) hp.2
      obtain ⟨⟨r1, s1⟩, h1, h⟩ := Option.bind_eq_some_iff.1 h
      obtain ⟨⟨r2, s2⟩, h3, h⟩ := Option.bind_eq_some_iff.1 h
      change maskP T k s (getN T p).f1 = some (r1, s1) at h1
      change maskP T k s1 (getN T p).f2 = some (r2, s2) at h3
      change some (_, _) = some (_, _) at h
      simp only [Option.some.injEq, Prod.mk.injEq] at h
      obtain ⟨rfl, rfl⟩ := h
      have hp1 : Pl T (getN T p).f1 := ⟨okp.2.2.2.1, by have := hp.2; omega⟩
      have hp2 : Pl T (getN T p).f2 := ⟨okp.2.2.2.2.2.1, by have := hp.2; omega⟩
      obtain ⟨O1, l1, g1, m1, _⟩ := mask_out hw k s s1 _ r1 h1 hp1 hO
      obtain ⟨O2, l2, g2, m2, _⟩ := mask_out hw k s1 s2 _ r2 h3 hp2 O1
      have hv : (TM T.vars s2.out).vars = T.vars := TM_vars _ _
      have hfree : HMap.look s2.M p = none := by rw [g2 p okp.2.2.2.2.2.2.1, g1 p okp.2.2.2.2.1]; exact hl
      obtain ⟨P1, A1, D1⟩ := O2.fwd _ _ hp1 (m2 _ _ l1)
      obtain ⟨P2, A2, D2⟩ := O2.fwd _ _ hp2 l2
      have hap : asksP T p = (getN T p).f0 := asks_ge h2
      obtain ⟨v, hvv⟩ : ∃ v, v = (getN T p).f0 := ⟨_, rfl⟩
      obtain ⟨j, hj⟩ : ∃ j : Nat, T.vars - v = j + 1 := ⟨(T.vars - v - 1).toNat, by omega⟩
      have hne : r1 ≠ r2 := fun e => by
        have e1 := D1 j (by omega) (by omega)
        have e2 := D2 j (by omega) (by omega)
        rw [e] at e1
        exact okp.2.2.1 (hw.inj j _ _ (by omega) hp1 hp2 (by omega) (by omega) (e1.symm.trans e2))
      have hden : den T (j + 1) p = den T j (getN T p).f1 ++ den T j (getN T p).f2 := by
        rw [den_succ, side_eq (by omega), side_eq (by omega)]; rfl
      have hnone : HMap.look (TM T.vars s2.out).L ⟨(getN T p).f0, r1, r2⟩ = none := by
        cases hx : HMap.look (TM T.vars s2.out).L ⟨(getN T p).f0, r1, r2⟩ with
        | none => rfl
        | some x =>
          obtain ⟨x1, x2, x3⟩ := O2.wf.look _ _ hx
          obtain ⟨p', hp', hl'⟩ := O2.cov x x1 ⟨by omega, x2⟩
          obtain ⟨P3, A3, D3⟩ := O2.fwd _ _ hp' hl'
          have ax : asksP (TM T.vars s2.out) x = (getN T p).f0 := by rw [asks_ge (by omega), x3]
          have e3 := D3 (j + 1) (by omega) (by omega)
          rw [den_succ, hv, side_eq (by omega), side_eq (by omega), x3] at e3
          simp only [Bool.false_eq_true, if_false, if_true] at e3
          rw [D1 j (by omega) (by omega), D2 j (by omega) (by omega), ← hden] at e3
          have := hw.inj (j + 1) p p' (by omega) hp hp' (by omega) (by omega) e3
          rw [← this, hfree] at hl'
          cases hl'
      have hnode : nodeP (TM T.vars s2.out) ⟨(getN T p).f0, r1, r2⟩ = (((TM T.vars s2.out).ns.length : Int), addN (TM T.vars s2.out) ⟨(getN T p).f0, r1, r2⟩) := by
        unfold nodeP
        rw [if_neg hne, hnone]
        rfl
      obtain ⟨w3, e3, p3, a3, d3⟩ := O2.wf.node (getN T p).f0 r1 r2 okp.1 (by rw [hv]; exact okp.2.1) P1 P2 (by omega) (by omega)
      rw [hnode] at w3 e3 p3 a3 d3
      simp only at w3 e3 p3 a3 d3
      have hlen : ((TM T.vars s2.out).ns.length : Int) = (s2.out.length : Int) + 2 := by rw [TM_len]; omega
      rw [hlen] at p3 a3 d3
      have hE : Ext (TM T.vars s2.out) (addN (TM T.vars s2.out) ⟨(getN T p).f0, r1, r2⟩) := Ext.addN _ _
      have hgn : getN (addN (TM T.vars s2.out) ⟨(getN T p).f0, r1, r2⟩) ((s2.out.length : Int) + 2) = ⟨(getN T p).f0, r1, r2⟩ := by
        unfold getN addN
        rw [show ((s2.out.length : Int) + 2).toNat = (TM T.vars s2.out).ns.length by rw [TM_len]; omega]
        simp
      refine ⟨⟨?_, ?_, ?_, ?_, ?_⟩, ?_, ?_, ?_, ?_⟩
      · show WF (TM T.vars (s2.out ++ [_])); rw [TM_snoc]; exact w3
      · show HMap.look (HMap.upd s2.M p _) 0 = _; rw [HMap.look_upd_other _ _ _ _ (by omega)]; exact O2.zero
      · show HMap.look (HMap.upd s2.M p _) 1 = _; rw [HMap.look_upd_other _ _ _ _ (by omega)]; exact O2.one
      · intro p' q hp' hq
        show Pl (TM T.vars (s2.out ++ [_])) q ∧ asksP (TM T.vars (s2.out ++ [_])) q = _ ∧ ∀ k : Nat, _ → _ → den (TM T.vars (s2.out ++ [_])) k q = _
        rw [TM_snoc]
        change HMap.look (HMap.upd s2.M p _) p' = _ at hq
        by_cases he : p' = p
        · subst he
          rw [HMap.look_upd_same] at hq
          simp only [Option.some.injEq] at hq
          subst hq
          refine ⟨p3, by rw [asks_ge (by omega), hgn, hap], fun k hk hka => ?_⟩
          have hk1 : k ≤ j + 1 ∨ j + 1 < k := by omega
          have hkj : (k : Int) ≥ j + 1 := by omega
          -- from level j + 1 up: the place stays
          have up : ∀ d : Nat, ((j + 1 + d : Nat) : Int) ≤ T.vars → den (addN (TM T.vars s2.out) ⟨(getN T p').f0, r1, r2⟩) (j + 1 + d) ((s2.out.length : Int) + 2) = den T (j + 1 + d) p' := by
            intro d
            induction d with
            | zero =>
              intro _
              show den _ (j + 1) _ = den T (j + 1) p'
              rw [d3 j (by omega), hden, D1 j (by omega) (by omega), D2 j (by omega) (by omega)]
            | succ d ih =>
              intro hd
              show den _ (j + 1 + d + 1) _ = den T (j + 1 + d + 1) p'
              have hvv2 : (addN (TM T.vars s2.out) ⟨(getN T p').f0, r1, r2⟩).vars = T.vars := hE.1.trans hv
              rw [den_succ, den_succ, hvv2, side_ne, side_ne, side_ne, side_ne, ih (by omega)]
              · omega
              · omega
              · rw [asks_ge (by omega), hgn]; simp only; omega
              · rw [asks_ge (by omega), hgn]; simp only; omega
          have := up (k - (j + 1)) (by omega)
          rw [show j + 1 + (k - (j + 1)) = k by omega] at this
          exact this
        · rw [HMap.look_upd_other _ _ _ _ he] at hq
          obtain ⟨P3, A3, D3⟩ := O2.fwd p' q hp' hq
          refine ⟨hE.pl P3, (hE.asks P3).trans A3, fun k hk hka => ?_⟩
          rw [hE.den O2.wf k q (by omega) P3 (by omega)]
          exact D3 k hk hka
      · intro q h2q hq
        change Pl (TM T.vars (s2.out ++ [_])) q at hq
        have hq2 := ((TM_pl _ _ _).1 hq).2
        simp only [List.length_append, List.length_singleton] at hq2
        by_cases he : q = (s2.out.length : Int) + 2
        · exact ⟨p, hp, by show HMap.look (HMap.upd s2.M p _) p = _; rw [HMap.look_upd_same, he]⟩
        · obtain ⟨p', hp', hl'⟩ := O2.cov q h2q ((TM_pl _ _ _).2 ⟨by omega, by omega⟩)
          refine ⟨p', hp', ?_⟩
          show HMap.look (HMap.upd s2.M p _) p' = _
          rw [HMap.look_upd_other _ _ _ _ (fun e => by rw [e, hfree] at hl'; cases hl')]
          exact hl'
      · show HMap.look (HMap.upd s2.M p _) p = _; rw [HMap.look_upd_same]
      · intro p' hpp
        show HMap.look (HMap.upd s2.M p _) p' = _
        rw [HMap.look_upd_other _ _ _ _ (by omega), g2 p' (by have := okp.2.2.2.2.2.2.1; omega), g1 p' (by have := okp.2.2.2.2.1; omega)]
      · intro p' q hq
        show HMap.look (HMap.upd s2.M p _) p' = _
        rw [HMap.look_upd_other _ _ _ _ (fun e => by rw [e, hl] at hq; cases hq)]
        exact m2 _ _ (m1 _ _ hq)
      · refine .inr ?_
        show (s2.out.length : Int) + 2 = ((s2.out ++ [_]).length : Int) + 1
        simp only [List.length_append, List.length_singleton]
        omega
structure VM (v : Int) (l : List S107) (r : Int) : Prop where
  v0 : 0 ≤ v
  v12 : v ≤ 12
  wf : WF (TM v l)
  pl : Pl (TM v l) r
  of_ : ∃ ts, ofP (den (TM v l) v.toNat r) = some (r, ⟨l.map toR, ts⟩)
def tab (v : Int) (l : List S107) (r : Int) : List Bool := den (TM v l) v.toNat r
theorem tab_length (v : Int) (l : List S107) (r : Int) : (tab v l r).length = 2 ^ v.toNat := den_length _ _ _
theorem toR_inj {a b : List S107} (h : a.map toR = b.map toR) : a = b := by
  induction a generalizing b with
  | nil => cases b with
    | nil => rfl
    | cons y b => simp at h
  | cons x a ih => cases b with
    | nil => simp at h
    | cons y b =>
      simp only [List.map_cons, List.cons.injEq] at h
      rw [ih h.2]
      congr 1
      cases x; cases y
      simp only [toR] at h
      injection h.1
      simp [*]
theorem mask_VM {T : TB} (hw : WF T) (hn : T.vars ≤ 12) (p : Int) (hp : Pl T p) :
    ∃ r s', maskP T 64 M0 p = some (r, s') ∧ VM T.vars s'.out r ∧ tab T.vars s'.out r = den T T.vars.toNat p ∧ s'.out.length ≤ 4095 ∧ (s'.out = [] ∨ r = s'.out.length + 1) := by
  obtain ⟨r, s', ts, h1, h2, h3⟩ := mask_of hw hn p hp
  obtain ⟨O, l, _, _, hr⟩ := mask_out hw 64 M0 s' p r h1 hp (Outs.m0 hw)
  obtain ⟨P1, A1, D1⟩ := O.fwd _ _ hp l
  have hd := D1 T.vars.toNat (by have := hw.vars; omega) (by have := hw.asks_nonneg hp; have := hw.vars; omega)
  have hlen : s'.out.length + 1 ≤ 2 ^ T.vars.toNat := by
    obtain ⟨r2, s2, b2, m1, m2, m3, m4, m5⟩ := mask_visit hw T.vars.toNat 64 64 p M0 ⟨[], []⟩ (by have := hw.vars; omega) hp (by have := hw.asks_nonneg hp; have := hw.vars; omega) (by omega) (by omega) (rel0 T)
    rw [h1] at m1
    simp only [Option.some.injEq, Prod.mk.injEq] at m1
    rw [m1.2]
    simpa [M0] using m4
  have h5 : 2 ^ T.vars.toNat ≤ 2 ^ 12 := Nat.pow_le_pow_right (by omega) (by omega)
  refine ⟨r, s', h1, ⟨hw.vars, hn, O.wf, P1, ts, ?_⟩, hd, by omega, ?_⟩
  · rw [hd]; exact h2
  · rcases hr with rfl | hr
    · exact .inl rfl
    · exact .inr hr
theorem VM.mask {v : Int} {l : List S107} {r : Int} (h : VM v l r) : ∃ s', maskP (TM v l) 64 M0 r = some (r, s') ∧ s'.out = l ∧ l.length ≤ 4095 ∧ (l = [] ∨ r = l.length + 1) := by
  obtain ⟨v0, v12, hw, hp, ts, ho⟩ := h
  have hv := TM_vars v l
  obtain ⟨r2, s', h1, h2, h3, h4, h5⟩ := mask_VM hw (by omega) r hp
  obtain ⟨r3, s3, ts3, g1, g2, g3⟩ := mask_of hw (by omega) r hp
  rw [h1] at g1
  simp only [Option.some.injEq, Prod.mk.injEq] at g1
  obtain ⟨rfl, rfl⟩ := g1
  rw [hv, ho] at g2
  simp only [Option.some.injEq, Prod.mk.injEq, BS.mk.injEq] at g2
  obtain ⟨e1, e2, e3⟩ := g2
  have e4 := toR_inj e2
  subst e1
  rw [← e4] at h4 h5
  exact ⟨s', h1, e4.symm, h4, h5⟩
theorem VM.same {v : Int} {l l' : List S107} {r r' : Int} (h : VM v l r) (h' : VM v l' r') (he : tab v l r = tab v l' r') : l = l' ∧ r = r' := by
  obtain ⟨ts, ho⟩ := h.of_
  obtain ⟨ts', ho'⟩ := h'.of_
  unfold tab at he
  rw [he, ho'] at ho
  simp only [Option.some.injEq, Prod.mk.injEq, BS.mk.injEq] at ho
  exact ⟨(toR_inj ho.2.1).symm, ho.1.symm⟩
theorem of_VM (n : Nat) (hn : n ≤ 12) (t : List Bool) (ht : t.length = 2 ^ n) :
    ∃ l r ts, ofP t = some (r, ⟨l.map toR, ts⟩) ∧ VM n l r ∧ tab n l r = t ∧ l.length ≤ 4095 := by
  obtain ⟨w1, e1, p1, a1, d1⟩ := grow_ok n (fun i => t.getD i.toNat false) n 0 (T0 n) (WF.t0 n (by omega)) rfl (by omega)
  have hv : (growP n (fun i => t.getD i.toNat false) n 0 (T0 n)).2.vars = n := e1.1
  obtain ⟨r, s', h1, h2, h3, h4, h5⟩ := mask_VM w1 (by omega) _ p1
  rw [hv] at h2 h3
  have hd : den (growP n (fun i => t.getD i.toNat false) n 0 (T0 n)).2 n (growP n (fun i => t.getD i.toNat false) n 0 (T0 n)).1 = t := by
    rw [d1]
    apply List.ext_getElem
    · simp [ht]
    · intro i g1 g2
      simp [g2]
  rw [show (n : Int).toNat = n by omega, hd] at h3
  obtain ⟨ts, ho⟩ := h2.of_
  unfold tab at h3
  rw [h3] at ho
  exact ⟨s'.out, r, ts, ho, h2, h3, h4⟩
end Go.Proofs.Ytlplphgoldkoeaa.HTab
end

section
set_option linter.unusedVariables false
set_option linter.unusedSimpArgs false
namespace Go.Proofs.Ytlplphgoldkoeaa.HTab
open Go.RowKit Go.Proofs.YtlplphgoldkoeaaW.PrintWords Go.Proofs.YtlplphgoldkoeaaW.PrintLast Go.Proofs.YtlplphgoldkoeaaW.PrintMore Go.Proofs.Ytlplphgoldkoeaa.X
set_option linter.unusedVariables false
set_option linter.unusedSimpArgs false
theorem wraps_i64 (n : Int) (h₀ : 0 ≤ n) (h₁ : n < 2 ^ 63) : IntKind.i64.wrap n = n := by rw [IntKind.wrap_i64]; omega
theorem and_one {x : Int} (h0 : 0 ≤ x) (h1 : x < 2 ^ 63) : Go.bits .and .i64 x 1 = x % 2 := bits_mask .i64 63 (by decide) wraps_i64 1 (by decide) x h0 h1
theorem pow_cast (k : Nat) : ((2 ^ k : Nat) : Int) = (2 : Int) ^ k := Int.natCast_pow 2 k
theorem pow_pos (k : Nat) : (0 : Int) < 2 ^ k := Int.pow_pos (by decide)
theorem div_lt {x : Int} (h0 : 0 ≤ x) (h1 : x < 2 ^ 63) (i : Nat) : 0 ≤ x / 2 ^ i ∧ x / 2 ^ i < 2 ^ 63 := by
  have hp := pow_pos i
  refine ⟨Int.ediv_nonneg h0 (by omega), ?_⟩
  have := Int.ediv_le_self (2 ^ i) h0
  omega
theorem shl1 {k : Int} (h0 : 0 ≤ k) (h : k ≤ 12) : shl .i64 1 k = 2 ^ k.toNat := by
  have : k = 0 ∨ k = 1 ∨ k = 2 ∨ k = 3 ∨ k = 4 ∨ k = 5 ∨ k = 6 ∨ k = 7 ∨ k = 8 ∨ k = 9 ∨ k = 10 ∨ k = 11 ∨ k = 12 := by omega
  rcases this with h | h | h | h | h | h | h | h | h | h | h | h | h <;> rw [h] <;> decide
theorem pow_nat_le {a b : Nat} (h : a ≤ b) : (2 : Nat) ^ a ≤ 2 ^ b := Nat.pow_le_pow_right (by omega) h
theorem p12 {k : Nat} (h : k ≤ 12) : 1 ≤ 2 ^ k ∧ 2 ^ k ≤ 4096 := ⟨Nat.two_pow_pos k, pow_nat_le h⟩
theorem wrap_add1 {i : Int} (h0 : 0 ≤ i) (h : i < 140737488355328) : wrap64 (i + 1) = i + 1 := by unfold wrap64; omega
theorem bit_eq {P : Int} (h0 : 0 ≤ P) (h1 : P < 2 ^ 63) (j : Nat) (hj : j ≤ 62) : Go.bits .and .i64 (shr .i64 P (j : Int)) 1 = P / 2 ^ j % 2 := by
  unfold shr
  rw [Int.toNat_natCast, Nat.min_eq_left (show j ≤ IntKind.i64.bits from (by show j ≤ 64; omega))]
  have := div_lt h0 h1 j
  exact and_one this.1 this.2
theorem bit_lo {P k : Nat} (h : P / 2 ^ k % 2 = 0) : P % 2 ^ (k + 1) = P % 2 ^ k := by
  rw [Nat.pow_succ, Nat.mod_mul, h]; omega
theorem bit_hi {P k : Nat} (h : P / 2 ^ k % 2 = 1) : P % 2 ^ (k + 1) = 2 ^ k + P % 2 ^ k := by
  rw [Nat.pow_succ, Nat.mod_mul, h]; omega
theorem getD_left {α : Type} {a b : List α} {n : Nat} {d : α} (h : n < a.length) : (a ++ b).getD n d = a.getD n d := by
  rw [List.getD_eq_getElem?_getD, List.getElem?_append_left h, List.getD_eq_getElem?_getD]
theorem getD_right {α : Type} {a b : List α} {n : Nat} {d : α} (h : a.length ≤ n) : (a ++ b).getD n d = b.getD (n - a.length) d := by
  rw [List.getD_eq_getElem?_getD, List.getElem?_append_right h, List.getD_eq_getElem?_getD]
end Go.Proofs.Ytlplphgoldkoeaa.HTab
end
