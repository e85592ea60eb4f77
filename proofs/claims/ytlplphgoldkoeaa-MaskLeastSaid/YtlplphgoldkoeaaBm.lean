/- Lemmas of the masks: part Bm. -/
import Derived.Test.YtlplphgoldkoeaaBc
import Derived.Test.YtlplphgoldkoeaaBi
import Derived.Test.YtlplphgoldkoeaaBk
import Derived.Deep.LoopGhost
import Derived.Lib.Hide
import Derived.Deep.DeepMust
section
set_option linter.unusedVariables false
set_option linter.unusedSimpArgs false
namespace Go.Proofs.Ytlplphgoldkoeaa.X
open Go.RowKit Go.Proofs.YtlplphgoldkoeaaW.PrintWords Go.Proofs.YtlplphgoldkoeaaW.PrintLast Go.Proofs.YtlplphgoldkoeaaW.PrintMore
attribute [local go_sem] max2_int min2_int max_two min_two max_three min_three max_four min_four   -- for this text's walks alone
set_option linter.unusedVariables false
set_option linter.unusedSimpArgs false
attribute [local go_sem high] eqA107
def mask_Node_92.l0 : Nat → List (S107) → List (S107) → Int → Int → Option (Bool)
  | 0, _, _, _, _ => none
  | k + 1, x0, x1, x12, x13 => if x13 < x12 then (if 0 ≤ x13 then (if x13 < (x0.length : Int) then (if x13 < (x1.length : Int) then (if (!(((rd_T107 x0 x13).f0) == ((rd_T107 x1 x13).f0)) || (!(((rd_T107 x0 x13).f1) == ((rd_T107 x1 x13).f1)) || (!(((rd_T107 x0 x13).f2) == ((rd_T107 x1 x13).f2))))) = true then (some false) else (mask_Node_92.l0 k x0 x1 x12 (wrap64 (x13 + 1)))) else (none)) else (none)) else (none)) else (some true)
def mask_Node_92.f (k : Nat) (l0 : List (S107)) (l1 : List (S107)) : Option (Bool) := if (l0.length : Int) = (l1.length : Int) then (mask_Node_92.l0 k l0 l1 (l0.length : Int) 0) else (some false)
theorem mask_Node_92.mono_l : ∀ k, (∀ y0 y1 y2 y3, LeO (mask_Node_92.l0 k y0 y1 y2 y3) (mask_Node_92.l0 (k + 1) y0 y1 y2 y3))
  | 0 => fun _ _ _ _ r h => by simp [mask_Node_92.l0] at h
  | k + 1 => by
    have ih0 := mask_Node_92.mono_l k
    · intro y0 y1 y2 y3
      unfold mask_Node_92.l0
      repeat' first
      | (with_reducible exact ih0 _ _ _ _)
      | (with_reducible exact LeO.refl _)
      | (with_reducible exact LeO.none _)
      | (with_reducible refine LeO.ite ?_ ?_)
      | (with_reducible refine LeO.bind ?_ (fun _ => ?_))
      | exact ih0 _ _ _ _
      | exact LeO.none _
      | refine LeO.ite ?_ ?_
      | refine LeO.bind ?_ (fun _ => ?_)
theorem mask_Node_92.mono : ∀ a0 a1 k, LeO (mask_Node_92.f k a0 a1) (mask_Node_92.f (k + 1) a0 a1) := by
  intro a0 a1 k
  have ih0 := mask_Node_92.mono_l k
  unfold mask_Node_92.f
  repeat' first
      | (with_reducible exact ih0 _ _ _ _)
      | (with_reducible exact LeO.refl _)
      | (with_reducible exact LeO.none _)
      | (with_reducible refine LeO.ite ?_ ?_)
      | (with_reducible refine LeO.bind ?_ (fun _ => ?_))
      | exact ih0 _ _ _ _
      | exact LeO.none _
      | refine LeO.ite ?_ ?_
      | refine LeO.bind ?_ (fun _ => ?_)
set_option maxHeartbeats 8000000 in
set_option maxRecDepth 100000 in
theorem mask_Node_92.calls (k : Nat) (A0 : Option Addr) (c0 : Nat) (l0 : List (S107)) (A1 : Option Addr) (c1 : Nat) (l1 : List (S107)) (r : Bool) (w : World) (hr0 : Kd.C k107 w A0 l0.length l0) (hc0 : l0.length ≤ c0) (hr1 : Kd.C k107 w A1 l1.length l1) (hc1 : l1.length ≤ c1) (h : mask_Node_92.f k l0 l1 = some r) :
    Calls Try.prog 92 #[.slice A0 l0.length c0, .slice A1 l1.length c1] w fun e w' => e = .returned (.bool r) ∧ Drawn0 w w' := by
  have hu107 := Try.underlying107
  have HR0 := Aside0.mk hr0
  have HC0 := Aside0.mk hc0
  clear hr0 hc0
  have HR1 := Aside0.mk hr1
  have HC1 := Aside0.mk hc1
  clear hr1 hc1
  have H : (if (l0.length : Int) = (l1.length : Int) then (mask_Node_92.l0 k l0 l1 (l0.length : Int) 0) else (some false)) = some r := h
  clear h
  by_cases c3 : (l0.length : Int) = (l1.length : Int)
  · rw [if_pos c3] at H
    have c3b0 : ((l0.length : Int) == (l1.length : Int)) = true := beq_iff_eq.mpr c3
    have c3b1 : ((l0.length : Int) != (l1.length : Int)) = false := bne_eq_false_iff_eq.mpr c3
    have c3b2 : (l0.length == l1.length) = true := by first | simpa using c3 | (simp at c3 ⊢; omega)
    clear c3
    have H' := Aside0.mk H
    clear H
    go_enter Try.func92, Try.ntmps92
    go_wp2
    repeat (go_quiet (fail); try go_wp2)
    go_loopg [13] k (fun kq v13 w' => ∃ (x13_1 : Int), v13 = .int .i64 x13_1 ∧ Aside0 (mask_Node_92.l0 kq l0 l1 (l0.length : Int) x13_1 = some r) ∧ Aside0 (kq ≤ k) ∧ Drawn0 w w')
    case atStart => exact ⟨(0), (by first | rfl | (simp; done) | (simp [*]; done)), H', ⟨Nat.le_refl _⟩, by repeat (first | exact Drawn0.refl _ | apply Drawn0.step)⟩
    case round =>
      clear H'
      try clear c1
      try clear p2
      try clear c3
      try clear c3b0
      try clear c3b1
      try clear c3b2
      obtain ⟨x13_1, rfl, HA, HK1, ⟨m1, rfl⟩⟩ := hrel
      cases gk with
      | zero => exact absurd HA.out (by simp [mask_Node_92.l0])
      | succ k1 =>
        have H := HA.out
        clear HA
        simp only [mask_Node_92.l0] at H
        by_cases c4 : x13_1 < (l0.length : Int)
        · rw [if_pos c4] at H
          have c4b0 : decide (x13_1 < (l0.length : Int)) = true := decide_eq_true c4
          clear c4
          by_cases c5 : 0 ≤ x13_1
          · rw [if_pos c5] at H
            have c5b0 : decide (0 ≤ x13_1) = true := decide_eq_true c5
            clear c5
            by_cases c6 : x13_1 < (l0.length : Int)
            · rw [if_pos c6] at H
              have c6b0 : decide (x13_1 < (l0.length : Int)) = true := decide_eq_true c6
              clear c6
              by_cases c7 : x13_1 < (l1.length : Int)
              · rw [if_pos c7] at H
                have c7b0 : decide (x13_1 < (l1.length : Int)) = true := decide_eq_true c7
                clear c7
                by_cases c8 : (!(((rd_T107 l0 x13_1).f0) == ((rd_T107 l1 x13_1).f0)) || (!(((rd_T107 l0 x13_1).f1) == ((rd_T107 l1 x13_1).f1)) || (!(((rd_T107 l0 x13_1).f2) == ((rd_T107 l1 x13_1).f2))))) = true
                · rw [if_pos c8] at H
                  have c8b0 : (!(((rd_T107 l0 x13_1).f0) == ((rd_T107 l1 x13_1).f0)) || (!(((rd_T107 l0 x13_1).f1) == ((rd_T107 l1 x13_1).f1)) || (!(((rd_T107 l0 x13_1).f2) == ((rd_T107 l1 x13_1).f2))))) = true := c8
                  clear c8
                  obtain rfl := Option.some.inj H
                  have p204 : 0 ≤ (x13_1 : Int) := of_decide_eq_true (by first | (with_reducible assumption) | assumption)
                  have q204 : x13_1 < (l0.length : Int) := of_decide_eq_true (by first | (with_reducible assumption) | assumption)
                  obtain ⟨ad204, e204, hx204_0, hx204_1, hx204_2⟩ := at_T107 HR0.out x13_1 p204 q204
                  cases e204
                  replace p204 := eq_true p204
                  replace q204 := eq_true q204
                  have p205 : 0 ≤ (x13_1 : Int) := of_decide_eq_true (by first | (with_reducible assumption) | assumption)
                  have q205 : x13_1 < (l1.length : Int) := of_decide_eq_true (by first | (with_reducible assumption) | assumption)
                  obtain ⟨ad205, e205, hx205_0, hx205_1, hx205_2⟩ := at_T107 HR1.out x13_1 p205 q205
                  cases e205
                  replace p205 := eq_true p205
                  replace q205 := eq_true q205
                  go_wp2
                  repeat (go_quiet (fail); try go_wp2)
                  go_ret
                  exact ⟨by first | rfl | (simp; done) | (simp [*]; done), by repeat (first | exact Drawn0.refl _ | apply Drawn0.step)⟩
                · rw [if_neg c8] at H
                  have c8b0 : (!(((rd_T107 l0 x13_1).f0) == ((rd_T107 l1 x13_1).f0)) || (!(((rd_T107 l0 x13_1).f1) == ((rd_T107 l1 x13_1).f1)) || (!(((rd_T107 l0 x13_1).f2) == ((rd_T107 l1 x13_1).f2))))) = false := by simpa using c8
                  clear c8
                  have H' := Aside0.mk H
                  clear H
                  have p204 : 0 ≤ (x13_1 : Int) := of_decide_eq_true (by first | (with_reducible assumption) | assumption)
                  have q204 : x13_1 < (l0.length : Int) := of_decide_eq_true (by first | (with_reducible assumption) | assumption)
                  obtain ⟨ad204, e204, hx204_0, hx204_1, hx204_2⟩ := at_T107 HR0.out x13_1 p204 q204
                  cases e204
                  replace p204 := eq_true p204
                  replace q204 := eq_true q204
                  have p205 : 0 ≤ (x13_1 : Int) := of_decide_eq_true (by first | (with_reducible assumption) | assumption)
                  have q205 : x13_1 < (l1.length : Int) := of_decide_eq_true (by first | (with_reducible assumption) | assumption)
                  obtain ⟨ad205, e205, hx205_0, hx205_1, hx205_2⟩ := at_T107 HR1.out x13_1 p205 q205
                  cases e205
                  replace p205 := eq_true p205
                  replace q205 := eq_true q205
                  go_wp2
                  repeat (go_quiet (fail); try go_wp2)
                  go_roundg k1
                  case measure => have := HK1.out; omega
                  case rel => exact ⟨(wrap64 (x13_1 + 1)), (by first | rfl | (simp; done) | (simp [*]; done)), H', ⟨by have := HK1.out; omega⟩, by repeat (first | exact Drawn0.refl _ | apply Drawn0.step)⟩
              · rw [if_neg c7] at H
                exact absurd H (by simp)
            · rw [if_neg c6] at H
              exact absurd H (by simp)
          · rw [if_neg c5] at H
            exact absurd H (by simp)
        · rw [if_neg c4] at H
          have c4b0 : decide (x13_1 < (l0.length : Int)) = false := decide_eq_false c4
          clear c4
          obtain rfl := Option.some.inj H
          go_wp2
          repeat (go_quiet (fail); try go_wp2)
          go_ret
          exact ⟨by first | rfl | (simp; done) | (simp [*]; done), by repeat (first | exact Drawn0.refl _ | apply Drawn0.step)⟩
  · rw [if_neg c3] at H
    have c3b0 : ((l0.length : Int) == (l1.length : Int)) = false := beq_eq_false_iff_ne.mpr c3
    have c3b1 : ((l0.length : Int) != (l1.length : Int)) = true := bne_iff_ne.mpr c3
    have c3b2 : (l0.length == l1.length) = false := by first | simpa using c3 | (simp at c3 ⊢; omega)
    obtain rfl := Option.some.inj H
    go_enter Try.func92, Try.ntmps92
    go_wp2
    repeat (go_quiet (fail); try go_wp2)
    go_ret
    exact ⟨by first | rfl | (simp; done) | (simp [*]; done), by repeat (first | exact Drawn0.refl _ | apply Drawn0.step)⟩
end Go.Proofs.Ytlplphgoldkoeaa.X
end

section
set_option linter.unusedVariables false
set_option linter.unusedSimpArgs false
namespace Go.Proofs.Ytlplphgoldkoeaa.HTab
open Go.RowKit Go.Proofs.YtlplphgoldkoeaaW.PrintWords Go.Proofs.YtlplphgoldkoeaaW.PrintLast Go.Proofs.YtlplphgoldkoeaaW.PrintMore Go.Proofs.Ytlplphgoldkoeaa.HMap Go.Proofs.Ytlplphgoldkoeaa.X
attribute [local go_sem] max2_int min2_int max_two min_two max_three min_three max_four min_four   -- for this text's walks alone
set_option linter.unusedVariables false
set_option linter.unusedSimpArgs false
theorem eqn_l0 (l m : List S107) (hm : m.length = l.length) (hl : l.length < 140737488355000) : ∀ (d i k : Nat), i + d = l.length → d < k →
    mask_Node_92.l0 k l m l.length i = some (decide (l.drop i = m.drop i))
  | 0, i, k, hi, hk => by
    obtain ⟨k, rfl⟩ : ∃ m, k = m + 1 := ⟨k - 1, by omega⟩
    simp only [mask_Node_92.l0]
    rw [if_neg (by omega), List.drop_eq_nil_of_le (by omega), List.drop_eq_nil_of_le (by omega)]
    rfl
  | d + 1, i, k, hi, hk => by
    obtain ⟨k, rfl⟩ : ∃ m, k = m + 1 := ⟨k - 1, by omega⟩
    have h1 : i < l.length := by omega
    have h2 : i < m.length := by omega
    simp only [mask_Node_92.l0]
    rw [if_pos (by omega), if_pos (by omega), if_pos (by omega), if_pos (by omega)]
    have e1 : rd_T107 l i = l[i] := by simp [rd_T107, h1]
    have e2 : rd_T107 m i = m[i] := by simp [rd_T107, h2]
    rw [e1, e2, List.drop_eq_getElem_cons h1, List.drop_eq_getElem_cons h2]
    by_cases he : l[i] = m[i]
    · rw [he, if_neg (by simp), wrap_add1 (by omega) (by omega)]
      have := eqn_l0 l m hm hl d (i + 1) k (by omega) (by omega)
      rw [show ((i + 1 : Nat) : Int) = (i : Int) + 1 by omega] at this
      rw [this]
      congr 1
      rw [decide_eq_decide]
      simp only [List.cons.injEq, true_and]
    · rw [if_pos (by
        cases hx : l[i]; cases hy : m[i]
        rw [hx, hy] at he
        simp only [S107.mk.injEq] at he
        simp only [Bool.or_eq_true, Bool.not_eq_true', beq_eq_false_iff_ne]
        omega)]
      rw [decide_eq_false (fun h => he (List.cons.inj h).1)]
theorem eqn_f (l m : List S107) (hl : l.length < 140737488355000) (k : Nat) (hk : l.length < k) : mask_Node_92.f k l m = some (decide (l = m)) := by
  unfold mask_Node_92.f
  by_cases he : l.length = m.length
  · rw [if_pos (by omega)]
    have := eqn_l0 l m he.symm hl l.length 0 k (by omega) (by omega)
    simpa using this
  · rw [if_neg (by omega)]
    rw [decide_eq_false (fun (h : l = m) => he (by rw [h]))]
def Told (b : Bool) (w : World) (e : Ending) (w' : World) : Prop := e = .returned (.bool b) ∧ Below w.heap.size w w'
set_option maxRecDepth 100000 in
set_option maxHeartbeats 4000000 in
theorem valid_head (v r : Int) (A : Option Addr) (c : Nat) (l : List S107) (w : World) (hl : l.length ≤ 1000000000) (h : v < 0 ∨ 12 < v ∨ (l.length = 0 ∧ r ≠ 0 ∧ r ≠ 1) ∨ (0 < l.length ∧ r ≠ (l.length : Int) + 1)) :
    Calls Try.prog 29 #[.agg #[.int .i64 v, .slice A l.length c, .int .i64 r]] w (Told false w) := by
  by_cases h0 : v < 0
  · have d0 : decide (v < 0) = true := decide_eq_true h0
    clear h
    go_enter Try.func29, Try.ntmps29
    go_wp2
    go_ret
    exact ⟨rfl, below_alloc (Below.refl _ _) _⟩
  have d0 : decide (v < 0) = false := decide_eq_false h0
  by_cases h1 : 12 < v
  · have d1 : decide (12 < v) = true := decide_eq_true h1
    clear h
    go_enter Try.func29, Try.ntmps29
    go_wp2
    go_ret
    exact ⟨rfl, below_alloc (Below.refl _ _) _⟩
  have d1 : decide (12 < v) = false := decide_eq_false h1
  by_cases h2 : l.length = 0
  · have d2 : ((l.length : Int) == 0) = true := by simp [h2]
    have d3 : (r != 0) = true := by simp; omega
    have d4 : (r != 1) = true := by simp; omega
    clear h
    rw [h2] at d2 ⊢
    go_enter Try.func29, Try.ntmps29
    go_wp2
    go_ret
    exact ⟨rfl, below_alloc (Below.refl _ _) _⟩
  · have d2 : ((l.length : Int) == 0) = false := by simpa using h2
    have d5 : decide ((0 : Int) < l.length) = true := decide_eq_true (by omega)
    have d5' : decide (0 < l.length) = true := decide_eq_true (by omega)
    have d6 : (r != (l.length : Int) + 1) = true := by simp; omega
    have hp : 0 < l.length := by omega
    clear h
    go_enter Try.func29, Try.ntmps29
    go_wp2
    go_ret
    exact ⟨rfl, below_alloc (Below.refl _ _) _⟩
def behV (x y : Bool) (j : Nat) : Bool := if j = 0 then x && y else if j = 1 then y else true
set_option maxRecDepth 100000 in
set_option maxHeartbeats 16000000 in
theorem valid_main (v r : Int) (A : Option Addr) (c : Nat) (l : List S107) (w : World) (hR : Kd.C k107 w A l.length l) (hc : l.length ≤ c) (h0 : 0 ≤ v) (h12 : v ≤ 12) (hlen : l.length ≤ 1000000000) (hr : (l.length = 0 ∧ r = 0) ∨ (l.length = 0 ∧ r = 1) ∨ (0 < l.length ∧ r = (l.length : Int) + 1))
    (B res : Bool) (hB : allFrom (nodeV v l) l.length 0 = B) (hF : B = false → res = false)
    (hT : B = true → ∃ R r' s', loadP l [0, 1] (T0 v) = some R ∧ R.1.length = l.length + 2 ∧ R.2.vars = v ∧ R.2.ns.length ≤ 2 + l.length ∧ maskP R.2 64 M0 (rd R.1 r) = some (r', s') ∧ s'.out.length ≤ 4095 ∧ res = (decide (r' = r) && decide (s'.out = l))) :
    Calls Try.prog 29 #[.agg #[.int .i64 v, .slice A l.length c, .int .i64 r]] w (Told res w) := by
  have d0 : decide (v < 0) = false := decide_eq_false (by omega)
  have d1 : decide (12 < v) = false := decide_eq_false (by omega)
  have HR := Aside0.mk hR
  have HB := Aside0.mk hB
  have HF := Aside0.mk hF
  have HT := Aside0.mk hT
  have hb0 : Aside0 (Below w.heap.size w (w.alloc (.cells #[.int .i64 v, .slice A l.length c, .int .i64 r] 28))) := ⟨below_alloc (Below.refl _ _) _⟩
  have hk0 : Aside0 ((w.alloc (.cells #[.int .i64 v, .slice A l.length c, .int .i64 r] 28)).heap[w.heap.size]? = some (.cells #[.int .i64 v, .slice A l.length c, .int .i64 r] 28 (0, 0))) := ⟨blk_new _ _⟩
  have hr0 : Aside0 (0 ≤ r ∧ r < (l.length : Int) + 2) := ⟨by omega⟩
  clear hR hB hF hT
  rcases hr with ⟨hl0, hr⟩ | ⟨hl0, hr⟩ | ⟨hl0, hr⟩
  · have e0 : ((l.length : Int) == 0) = true := by rw [beq_iff_eq]; omega
    have e1 : (r != 0) = false := by simp [hr]
    have e2 : decide ((0 : Int) < l.length) = false := decide_eq_false (by omega)
    have e2' : decide (0 < l.length) = false := decide_eq_false (by omega)
    replace hl0 := Lib.hid hl0
    clear hr
    go_enter Try.func29, Try.ntmps29
    go_wp2
    clear d0 d1 e0 e1 e2 e2'
    go_loopg [51] (l.length) (fun kq v51 w' => ∃ i : Nat, i + kq = l.length ∧ v51 = .int .i64 i ∧ Aside0 (allFrom (nodeV v l) l.length i = B) ∧ Aside0 (Below w.heap.size w w') ∧ Aside0 (w'.heap[w.heap.size]? = some (.cells #[.int .i64 v, .slice A l.length c, .int .i64 r] 28 (0, 0))))
    case atStart => exact ⟨0, by omega, rfl, HB, hb0, hk0⟩
    case round =>
      clear hb0 hk0
      obtain ⟨i, hi, rfl, HA, HW, HK⟩ := hrel
      have k0 := (blk_cell HK.out 0).trans rfl
      have k1 := (blk_cell HK.out 1).trans rfl
      have hlt : ¬ i < l.length := by have := hl0.out; omega
      have hBt : B = true := by rw [← HA.out]; exact allFrom_end _ _ _ (by omega)
      obtain ⟨R, r', s', e1, e2, e3, e4, e5, e6, e7⟩ := HT.out hBt
      subst hBt
      have hd : decide (i < l.length) = false := decide_eq_false hlt
      have E1 := Aside0.mk e1
      have E2 := Aside0.mk e2
      have E3 := Aside0.mk e3
      have E5 := Aside0.mk e5
      have E6 := Aside0.mk e6
      have E7 := Aside0.mk e7
      clear HA HF HT e1 e2 e3 e5 e6 e7 hlt
      go_wp2_with fail
      refine (newTable_calls v wr).mono ?_
      rintro e w4 ⟨g, rfl, hT4, hB4⟩
      have HT4 := Aside0.mk hT4
      have HB4 := Aside0.mk (below_then HW.out HW.out.size hB4)
      have K4 := Aside0.mk (blk_below HK.out hB4)
      have S4 := Aside0.mk (show w.heap.size < wr.heap.size from blk_lt HK.out)
      have Q4 := Aside0.mk hB4.size
      clear hT4 hB4 k0 k1
      have k0 := (blk_cell K4.out 0).trans rfl
      have k1 := (blk_cell K4.out 1).trans rfl
      have k2 := (blk_cell K4.out 2).trans rfl
      go_wp2_with fail
      refine (load_calls g (T0 v) v r A c l R w4 HT4.out (by show 2 + l.length < _; omega) (fun w' hf => ?lf) hc E1.out ⟨hr0.out.1, by rw [E2.out]; have := hr0.out.2; omega⟩).mono ?_
      case lf =>
        exact Kd.C_below HR.out ⟨hf.os.trans HB4.out.os, hf.tape.trans HB4.out.tape, hf.output.trans HB4.out.output, Nat.le_trans HB4.out.size hf.size, fun k hk => (hf.block k (Nat.lt_of_lt_of_le hk HB4.out.size) (fun h => by have := S4.out; omega)).trans (HB4.out.block k hk)⟩
      rintro e w5 ⟨rfl, hT5, hF5⟩
      have HT5 := Aside0.mk hT5
      have HB5 : Aside0 (Below w.heap.size w w5) := ⟨⟨hF5.os.trans HB4.out.os, hF5.tape.trans HB4.out.tape, hF5.output.trans HB4.out.output, Nat.le_trans HB4.out.size hF5.size, fun k hk => (hF5.block k (Nat.lt_of_lt_of_le hk HB4.out.size) (fun h => by have := S4.out; omega)).trans (HB4.out.block k hk)⟩⟩
      have K5 : Aside0 (w5.heap[w.heap.size]? = some (.cells #[.int .i64 v, .slice A l.length c, .int .i64 r] 28 (0, 0))) := ⟨(hF5.block _ (blk_lt K4.out) (fun h => by have := S4.out; omega)).trans K4.out⟩
      clear hT5 hF5 k0 k1 k2
      go_wp2_with fail
      refine (tmask_calls g R.2 64 s' _ r' w5 HT5.out (by have := E6.out; omega) E5.out).mono ?_
      rintro e w6 ⟨v6, rfl, hR6, hB6⟩
      obtain ⟨A6, c6, rfl, hc6, hC6⟩ := Kd.R_reads hR6
      rw [E3.out]
      have HB6 := Aside0.mk (below_then HB5.out HB5.out.size hB6)
      have K6 := Aside0.mk (blk_alloc (blk_below K5.out hB6) (.cells #[.int .i64 v, .slice A6 s'.out.length c6, .int .i64 r'] 28))
      have C6 := Aside0.mk hC6
      clear hR6 hB6 hC6
      have k1 := (blk_cell K6.out 1).trans rfl
      have k2 := (blk_cell K6.out 2).trans rfl
      by_cases hrr : r' = r
      · have z : (r' == r) = true := by simpa using hrr
        have D6 := Aside0.mk (Kd.C_below HR.out (below_alloc HB6.out (.cells #[.int .i64 v, .slice A6 s'.out.length c6, .int .i64 r'] 28)))
        have C7 := Aside0.mk (Kd.C_alloc C6.out (.cells #[.int .i64 v, .slice A6 s'.out.length c6, .int .i64 r'] 28))
        have HRR := Aside0.mk hrr
        clear hrr
        go_wp2_with fail
        refine (mask_Node_92.calls 5000 A6 c6 s'.out A c l (decide (s'.out = l)) _ C7.out hc6 D6.out hc (eqn_f _ _ (by have := E6.out; omega) _ (by have := E6.out; omega))).mono ?_
        rintro e w7 ⟨rfl, ⟨m7, rfl⟩⟩
        go_wp2
        go_ret
        exact ⟨by rw [E7.out, HRR.out]; simp, pw_below_drewN (below_alloc HB6.out _) _⟩
      · have z : (r' == r) = false := by simpa using hrr
        have HRR := Aside0.mk hrr
        clear hrr
        go_wp2
        go_ret
        exact ⟨by rw [E7.out, decide_eq_false HRR.out]; rfl, below_alloc HB6.out _⟩
  · have e0 : ((l.length : Int) == 0) = true := by rw [beq_iff_eq]; omega
    have e1 : (r != 0) = true := by simp [hr]
    have e3 : (r != 1) = false := by simp [hr]
    have e2 : decide ((0 : Int) < l.length) = false := decide_eq_false (by omega)
    have e2' : decide (0 < l.length) = false := decide_eq_false (by omega)
    replace hl0 := Lib.hid hl0
    clear hr
    go_enter Try.func29, Try.ntmps29
    go_wp2
    clear d0 d1 e0 e1 e2 e2' e3
    go_loopg [51] (l.length) (fun kq v51 w' => ∃ i : Nat, i + kq = l.length ∧ v51 = .int .i64 i ∧ Aside0 (allFrom (nodeV v l) l.length i = B) ∧ Aside0 (Below w.heap.size w w') ∧ Aside0 (w'.heap[w.heap.size]? = some (.cells #[.int .i64 v, .slice A l.length c, .int .i64 r] 28 (0, 0))))
    case atStart => exact ⟨0, by omega, rfl, HB, hb0, hk0⟩
    case round =>
      clear hb0 hk0
      obtain ⟨i, hi, rfl, HA, HW, HK⟩ := hrel
      have k0 := (blk_cell HK.out 0).trans rfl
      have k1 := (blk_cell HK.out 1).trans rfl
      have hlt : ¬ i < l.length := by have := hl0.out; omega
      have hBt : B = true := by rw [← HA.out]; exact allFrom_end _ _ _ (by omega)
      obtain ⟨R, r', s', e1, e2, e3, e4, e5, e6, e7⟩ := HT.out hBt
      subst hBt
      have hd : decide (i < l.length) = false := decide_eq_false hlt
      have E1 := Aside0.mk e1
      have E2 := Aside0.mk e2
      have E3 := Aside0.mk e3
      have E5 := Aside0.mk e5
      have E6 := Aside0.mk e6
      have E7 := Aside0.mk e7
      clear HA HF HT e1 e2 e3 e5 e6 e7 hlt
      go_wp2_with fail
      refine (newTable_calls v wr).mono ?_
      rintro e w4 ⟨g, rfl, hT4, hB4⟩
      have HT4 := Aside0.mk hT4
      have HB4 := Aside0.mk (below_then HW.out HW.out.size hB4)
      have K4 := Aside0.mk (blk_below HK.out hB4)
      have S4 := Aside0.mk (show w.heap.size < wr.heap.size from blk_lt HK.out)
      have Q4 := Aside0.mk hB4.size
      clear hT4 hB4 k0 k1
      have k0 := (blk_cell K4.out 0).trans rfl
      have k1 := (blk_cell K4.out 1).trans rfl
      have k2 := (blk_cell K4.out 2).trans rfl
      go_wp2_with fail
      refine (load_calls g (T0 v) v r A c l R w4 HT4.out (by show 2 + l.length < _; omega) (fun w' hf => ?lf) hc E1.out ⟨hr0.out.1, by rw [E2.out]; have := hr0.out.2; omega⟩).mono ?_
      case lf =>
        exact Kd.C_below HR.out ⟨hf.os.trans HB4.out.os, hf.tape.trans HB4.out.tape, hf.output.trans HB4.out.output, Nat.le_trans HB4.out.size hf.size, fun k hk => (hf.block k (Nat.lt_of_lt_of_le hk HB4.out.size) (fun h => by have := S4.out; omega)).trans (HB4.out.block k hk)⟩
      rintro e w5 ⟨rfl, hT5, hF5⟩
      have HT5 := Aside0.mk hT5
      have HB5 : Aside0 (Below w.heap.size w w5) := ⟨⟨hF5.os.trans HB4.out.os, hF5.tape.trans HB4.out.tape, hF5.output.trans HB4.out.output, Nat.le_trans HB4.out.size hF5.size, fun k hk => (hF5.block k (Nat.lt_of_lt_of_le hk HB4.out.size) (fun h => by have := S4.out; omega)).trans (HB4.out.block k hk)⟩⟩
      have K5 : Aside0 (w5.heap[w.heap.size]? = some (.cells #[.int .i64 v, .slice A l.length c, .int .i64 r] 28 (0, 0))) := ⟨(hF5.block _ (blk_lt K4.out) (fun h => by have := S4.out; omega)).trans K4.out⟩
      clear hT5 hF5 k0 k1 k2
      go_wp2_with fail
      refine (tmask_calls g R.2 64 s' _ r' w5 HT5.out (by have := E6.out; omega) E5.out).mono ?_
      rintro e w6 ⟨v6, rfl, hR6, hB6⟩
      obtain ⟨A6, c6, rfl, hc6, hC6⟩ := Kd.R_reads hR6
      rw [E3.out]
      have HB6 := Aside0.mk (below_then HB5.out HB5.out.size hB6)
      have K6 := Aside0.mk (blk_alloc (blk_below K5.out hB6) (.cells #[.int .i64 v, .slice A6 s'.out.length c6, .int .i64 r'] 28))
      have C6 := Aside0.mk hC6
      clear hR6 hB6 hC6
      have k1 := (blk_cell K6.out 1).trans rfl
      have k2 := (blk_cell K6.out 2).trans rfl
      by_cases hrr : r' = r
      · have z : (r' == r) = true := by simpa using hrr
        have D6 := Aside0.mk (Kd.C_below HR.out (below_alloc HB6.out (.cells #[.int .i64 v, .slice A6 s'.out.length c6, .int .i64 r'] 28)))
        have C7 := Aside0.mk (Kd.C_alloc C6.out (.cells #[.int .i64 v, .slice A6 s'.out.length c6, .int .i64 r'] 28))
        have HRR := Aside0.mk hrr
        clear hrr
        go_wp2_with fail
        refine (mask_Node_92.calls 5000 A6 c6 s'.out A c l (decide (s'.out = l)) _ C7.out hc6 D6.out hc (eqn_f _ _ (by have := E6.out; omega) _ (by have := E6.out; omega))).mono ?_
        rintro e w7 ⟨rfl, ⟨m7, rfl⟩⟩
        go_wp2
        go_ret
        exact ⟨by rw [E7.out, HRR.out]; simp, pw_below_drewN (below_alloc HB6.out _) _⟩
      · have z : (r' == r) = false := by simpa using hrr
        have HRR := Aside0.mk hrr
        clear hrr
        go_wp2
        go_ret
        exact ⟨by rw [E7.out, decide_eq_false HRR.out]; rfl, below_alloc HB6.out _⟩
  · have e0 : ((l.length : Int) == 0) = false := by rw [beq_eq_false_iff_ne]; omega
    have e2 : decide ((0 : Int) < l.length) = true := decide_eq_true (by omega)
    have e2' : decide (0 < l.length) = true := decide_eq_true (by omega)
    have e1 : (r != (l.length : Int) + 1) = false := by simp [hr]
    clear hr
    go_enter Try.func29, Try.ntmps29
    go_wp2
    clear d0 d1 e0 e1 e2 e2' hl0
    go_loopg [51] (l.length) (fun kq v51 w' => ∃ i : Nat, i + kq = l.length ∧ v51 = .int .i64 i ∧ Aside0 (allFrom (nodeV v l) l.length i = B) ∧ Aside0 (Below w.heap.size w w') ∧ Aside0 (w'.heap[w.heap.size]? = some (.cells #[.int .i64 v, .slice A l.length c, .int .i64 r] 28 (0, 0))))
    case atStart => exact ⟨0, by omega, rfl, HB, hb0, hk0⟩
    case round =>
      clear hb0 hk0
      obtain ⟨i, hi, rfl, HA, HW, HK⟩ := hrel
      have k0 := (blk_cell HK.out 0).trans rfl
      have k1 := (blk_cell HK.out 1).trans rfl
      by_cases hlt : i < l.length
      · have HA2 := HA.out
        rw [allFrom_next _ _ _ hlt] at HA2
        obtain ⟨ad, e1, x0, x1, x2⟩ := at_T107 (Kd.C_below HR.out HW.out) (i : Int) (by omega) (by omega)
        subst e1
        have hd : decide (i < l.length) = true := decide_eq_true hlt
        simp only [Int.toNat_natCast] at x0 x1 x2
        obtain ⟨n, hn⟩ : ∃ n, n = rd_T107 l i := ⟨_, rfl⟩
        rw [← hn] at x0 x1 x2
        have hnode : nodeV v l i = (decide (0 ≤ n.f0) && decide (n.f0 < v) && !(n.f1 == n.f2) && decide (0 ≤ n.f1) && decide (n.f1 < i + 2) && decide (0 ≤ n.f2) && decide (n.f2 < i + 2) && behindV l n.f0 n.f1 && behindV l n.f0 n.f2) := by rw [hn]; rfl
        rw [hnode] at HA2
        replace HA2 := Aside0.mk HA2
        replace hn := Aside0.mk hn
        have hwa : Aside0 (∀ o, Below w.heap.size w (wr.alloc o)) := ⟨fun o => below_alloc HW.out o⟩
        have k0y : ∀ o : Obj, (wr.alloc o).cell? ⟨w.heap.size, 0, none⟩ = some (.int .i64 v) := fun o => pw_cell_below (below_alloc (Below.refl _ _) o) k0
        obtain ⟨mm, hmm⟩ : ∃ m, (if n.f2 < n.f1 then n.f2 else n.f1) = m := ⟨_, rfl⟩
        obtain ⟨mM, hmM⟩ : ∃ m, (if n.f1 < n.f2 then n.f2 else n.f1) = m := ⟨_, rfl⟩
        have HMM := Aside0.mk (And.intro hmm hmM)
        clear HA hnode
        by_cases t0 : n.f0 < 0
        · have hB0 : B = false := by rw [← HA2.out]; simp [show ¬ 0 ≤ n.f0 by omega]
          have hr := HF.out hB0
          subst hr
          have s0 : decide (n.f0 < 0) = true := decide_eq_true t0
          clear hB0
          go_wp2
          go_ret
          exact ⟨rfl, hwa.out _⟩
        have s0 : decide (n.f0 < 0) = false := decide_eq_false t0
        by_cases t1 : v ≤ n.f0
        · have hB0 : B = false := by rw [← HA2.out]; simp [show ¬ n.f0 < v by omega]
          have hr := HF.out hB0
          subst hr
          have s1 : decide (v ≤ n.f0) = true := decide_eq_true t1
          clear hB0
          go_wp2
          go_ret
          exact ⟨rfl, hwa.out _⟩
        have s1 : decide (v ≤ n.f0) = false := decide_eq_false t1
        by_cases t2 : n.f1 = n.f2
        · have hB0 : B = false := by rw [← HA2.out]; simp [t2]
          have hr := HF.out hB0
          subst hr
          have s2 : (n.f1 == n.f2) = true := by simpa using t2
          clear hB0 t2
          go_wp2
          go_ret
          exact ⟨rfl, hwa.out _⟩
        have s2 : (n.f1 == n.f2) = false := by simpa using t2
        by_cases t3 : mm < 0
        · have hB0 : B = false := by rw [← HA2.out]; (have : ¬ (0 ≤ n.f1 ∧ 0 ≤ n.f2) := by have := HMM.out.1; split at this <;> omega); by_cases q : 0 ≤ n.f1 <;> simp [q, show ¬ (0 ≤ n.f1 ∧ 0 ≤ n.f2) from this] <;> (intros; omega)
          have hr := HF.out hB0
          subst hr
          have s3 : decide (mm < 0) = true := decide_eq_true t3
          clear hB0
          go_wp2
          go_ret
          exact ⟨rfl, hwa.out _⟩
        have s3 : decide (mm < 0) = false := decide_eq_false t3
        by_cases t4 : (i : Int) + 2 ≤ mM
        · have hB0 : B = false := by rw [← HA2.out]; (have : ¬ (n.f1 < (i : Int) + 2 ∧ n.f2 < (i : Int) + 2) := by have := HMM.out.2; split at this <;> omega); by_cases q : n.f1 < (i : Int) + 2 <;> simp [q] <;> (intros; omega)
          have hr := HF.out hB0
          subst hr
          have s4 : decide ((i : Int) + 2 ≤ mM) = true := decide_eq_true t4
          clear hB0
          go_wp2
          go_ret
          exact ⟨rfl, hwa.out _⟩
        have s4 : decide ((i : Int) + 2 ≤ mM) = false := decide_eq_false t4
        obtain ⟨q1, q2, q3, q4⟩ : 0 ≤ n.f1 ∧ 0 ≤ n.f2 ∧ n.f1 < (i : Int) + 2 ∧ n.f2 < (i : Int) + 2 := by
          have a1 := HMM.out.1
          have a2 := HMM.out.2
          split at a1 <;> split at a2 <;> omega
        have HA3 : Aside0 ((behV (behindV l n.f0 n.f1) (behindV l n.f0 n.f2) 0 && allFrom (nodeV v l) l.length (i + 1)) = B) := ⟨by
          have := HA2.out
          simp only [show 0 ≤ n.f0 by omega, show n.f0 < v by omega, q1, q2, q3, q4, s2, decide_true, Bool.true_and, Bool.not_false] at this
          exact this⟩
        have HW2 := Aside0.mk (below_alloc (below_alloc HW.out (.cells #[.int .i64 n.f0, .int .i64 n.f1, .int .i64 n.f2] 107)) (.cells #[.int .i64 n.f1, .int .i64 n.f2] 3))
        have hkf : Aside0 (((wr.alloc (.cells #[.int .i64 n.f0, .int .i64 n.f1, .int .i64 n.f2] 107)).alloc (.cells #[.int .i64 n.f1, .int .i64 n.f2] 3)).heap[w.heap.size]? = some (.cells #[.int .i64 v, .slice (some ad) l.length c, .int .i64 r] 28 (0, 0))) := ⟨blk_alloc (blk_alloc HK.out _) _⟩
        have hkn : Aside0 (((wr.alloc (.cells #[.int .i64 n.f0, .int .i64 n.f1, .int .i64 n.f2] 107)).alloc (.cells #[.int .i64 n.f1, .int .i64 n.f2] 3)).heap[wr.heap.size]? = some (.cells #[.int .i64 n.f0, .int .i64 n.f1, .int .i64 n.f2] 107 (0, 0))) := ⟨blk_alloc (blk_new _ _) _⟩
        have hks : Aside0 (((wr.alloc (.cells #[.int .i64 n.f0, .int .i64 n.f1, .int .i64 n.f2] 107)).alloc (.cells #[.int .i64 n.f1, .int .i64 n.f2] 3)).heap[wr.heap.size + 1]? = some (.cells #[.int .i64 n.f1, .int .i64 n.f2] 3 (0, 0))) := ⟨by simpa using blk_new (wr.alloc (.cells #[.int .i64 n.f0, .int .i64 n.f1, .int .i64 n.f2] 107)) (.cells #[.int .i64 n.f1, .int .i64 n.f2] 3)⟩
        clear HA2 hwa
        go_wp2
        clear s0 s1 s2 s3 s4 x0 x1 x2 hd k0 k1 k0y hmm hmM HMM
        obtain ⟨W1, hW1⟩ : ∃ W, W = ((wr.alloc (.cells #[.int .i64 n.f0, .int .i64 n.f1, .int .i64 n.f2] 107)).alloc (.cells #[.int .i64 n.f1, .int .i64 n.f2] 3)) := ⟨_, rfl⟩
        rw [← hW1] at hkf hkn hks HW2
        rw [← hW1]
        clear hW1
        go_loopg [97] 2 (fun kq v97 w' => ∃ j : Nat, j + kq = 2 ∧ v97 = .int .i64 j ∧ Aside0 ((behV (behindV l n.f0 n.f1) (behindV l n.f0 n.f2) j && allFrom (nodeV v l) l.length (i + 1)) = B) ∧ Aside0 (Below w.heap.size w w') ∧ Aside0 (w'.heap[w.heap.size]? = some (.cells #[.int .i64 v, .slice (some ad) l.length c, .int .i64 r] 28 (0, 0))) ∧ Aside0 (w'.heap[wr.heap.size]? = some (.cells #[.int .i64 n.f0, .int .i64 n.f1, .int .i64 n.f2] 107 (0, 0))) ∧ Aside0 (w'.heap[wr.heap.size + 1]? = some (.cells #[.int .i64 n.f1, .int .i64 n.f2] 3 (0, 0))))
        case atStart => exact ⟨0, by omega, rfl, HA3, HW2, hkf, hkn, hks⟩
        case round =>
          rename_i wj
          clear hkf hkn hks HW2 HA3 HW HK
          obtain ⟨j, hj, rfl, HJ, HWj, HKj, HNj, HSj⟩ := hrel
          have f1 := (blk_cell HKj.out 1).trans rfl
          have m0 := (blk_cell HNj.out 0).trans rfl
          have hj3 : j = 0 ∨ j = 1 ∨ j = 2 := by omega
          rcases hj3 with rfl | rfl | rfl
          · have g0 := (blk_cell HSj.out 0).trans rfl
            by_cases g1 : 1 < n.f1
            · obtain ⟨ad2, e2, y0, y1, y2⟩ := at_T107 (Kd.C_below HR.out HWj.out) (n.f1 - 2) (by omega) (by omega)
              obtain rfl : ad = ad2 := by injection e2
              have hl0 : decide (1 < n.f1) = true := decide_eq_true g1
              have hs : IntKind.i64.wrap (n.f1 - 2) = n.f1 - 2 := IntWalk.i64_in _ (by omega)
              have hs0 : 0 ≤ n.f1 - 2 := by omega
              have hs1 : n.f1 - 2 < l.length := by omega
              obtain ⟨z, hz⟩ : ∃ z, z = (rd_T107 l (n.f1 - 2)).f0 := ⟨_, rfl⟩
              rw [← hz] at y0
              clear y1 y2
              by_cases g2 : z ≤ n.f0
              · have hB0 : B = false := by
                  rw [← HJ.out]
                  have : behindV l n.f0 n.f1 = false := by simp [behindV, g1, ← hz, g2]
                  simp [behV, this]
                have hr := HF.out hB0
                subst hr
                have hl1 : decide (z ≤ n.f0) = true := decide_eq_true g2
                clear hB0 hz
                go_wp2
                go_quiet (fail)
                go_wp2
                go_ret
                exact ⟨rfl, pw_below_drewN HWj.out _⟩
              · have hb : Aside0 (behindV l n.f0 n.f1 = true) := ⟨by simp only [behindV, decide_eq_true g1, ← hz, decide_eq_false g2]; rfl⟩
                have hl1 : decide (z ≤ n.f0) = false := decide_eq_false g2
                clear hz
                go_wp2
                go_quiet (fail)
                go_wp2
                go_roundg (gk - 1)
                case measure => omega
                case rel => exact ⟨1, by omega, rfl, ⟨by rw [← HJ.out]; simp [behV, hb.out]⟩, ⟨pw_below_drewN HWj.out _⟩, ⟨blk_drewN HKj.out _⟩, ⟨blk_drewN HNj.out _⟩, ⟨blk_drewN HSj.out _⟩⟩
            · have hb : Aside0 (behindV l n.f0 n.f1 = true) := ⟨by simp only [behindV, decide_eq_false g1]; rfl⟩
              have hl0 : decide (1 < n.f1) = false := decide_eq_false g1
              go_wp2
              go_quiet (fail)
              go_wp2
              go_roundg (gk - 1)
              case measure => omega
              case rel => exact ⟨1, by omega, rfl, ⟨by rw [← HJ.out]; simp [behV, hb.out]⟩, ⟨pw_below_drewN HWj.out _⟩, ⟨blk_drewN HKj.out _⟩, ⟨blk_drewN HNj.out _⟩, ⟨blk_drewN HSj.out _⟩⟩
          · have g0 := (blk_cell HSj.out 1).trans rfl
            by_cases g1 : 1 < n.f2
            · obtain ⟨ad2, e2, y0, y1, y2⟩ := at_T107 (Kd.C_below HR.out HWj.out) (n.f2 - 2) (by omega) (by omega)
              obtain rfl : ad = ad2 := by injection e2
              have hl0 : decide (1 < n.f2) = true := decide_eq_true g1
              have hs : IntKind.i64.wrap (n.f2 - 2) = n.f2 - 2 := IntWalk.i64_in _ (by omega)
              have hs0 : 0 ≤ n.f2 - 2 := by omega
              have hs1 : n.f2 - 2 < l.length := by omega
              obtain ⟨z, hz⟩ : ∃ z, z = (rd_T107 l (n.f2 - 2)).f0 := ⟨_, rfl⟩
              rw [← hz] at y0
              clear y1 y2
              by_cases g2 : z ≤ n.f0
              · have hB0 : B = false := by
                  rw [← HJ.out]
                  have : behindV l n.f0 n.f2 = false := by simp [behindV, g1, ← hz, g2]
                  simp [behV, this]
                have hr := HF.out hB0
                subst hr
                have hl1 : decide (z ≤ n.f0) = true := decide_eq_true g2
                clear hB0 hz
                go_wp2
                go_quiet (fail)
                go_wp2
                go_ret
                exact ⟨rfl, pw_below_drewN HWj.out _⟩
              · have hb : Aside0 (behindV l n.f0 n.f2 = true) := ⟨by simp only [behindV, decide_eq_true g1, ← hz, decide_eq_false g2]; rfl⟩
                have hl1 : decide (z ≤ n.f0) = false := decide_eq_false g2
                clear hz
                go_wp2
                go_quiet (fail)
                go_wp2
                go_roundg (gk - 1)
                case measure => omega
                case rel => exact ⟨2, by omega, rfl, ⟨by rw [← HJ.out]; simp [behV, hb.out]⟩, ⟨pw_below_drewN HWj.out _⟩, ⟨blk_drewN HKj.out _⟩, ⟨blk_drewN HNj.out _⟩, ⟨blk_drewN HSj.out _⟩⟩
            · have hb : Aside0 (behindV l n.f0 n.f2 = true) := ⟨by simp only [behindV, decide_eq_false g1]; rfl⟩
              have hl0 : decide (1 < n.f2) = false := decide_eq_false g1
              go_wp2
              go_quiet (fail)
              go_wp2
              go_roundg (gk - 1)
              case measure => omega
              case rel => exact ⟨2, by omega, rfl, ⟨by rw [← HJ.out]; simp [behV, hb.out]⟩, ⟨pw_below_drewN HWj.out _⟩, ⟨blk_drewN HKj.out _⟩, ⟨blk_drewN HNj.out _⟩, ⟨blk_drewN HSj.out _⟩⟩
          · go_wp2
            go_roundg (l.length - (i + 1))
            case measure => omega
            case rel => exact ⟨i + 1, by omega, by go_num, ⟨by rw [← HJ.out]; simp [behV]⟩, HWj, HKj⟩
      · have hBt : B = true := by rw [← HA.out]; exact allFrom_end _ _ _ (by omega)
        obtain ⟨R, r', s', e1, e2, e3, e4, e5, e6, e7⟩ := HT.out hBt
        subst hBt
        have hd : decide (i < l.length) = false := decide_eq_false hlt
        have E1 := Aside0.mk e1
        have E2 := Aside0.mk e2
        have E3 := Aside0.mk e3
        have E5 := Aside0.mk e5
        have E6 := Aside0.mk e6
        have E7 := Aside0.mk e7
        clear HA HF HT e1 e2 e3 e5 e6 e7 hlt
        go_wp2_with fail
        refine (newTable_calls v wr).mono ?_
        rintro e w4 ⟨g, rfl, hT4, hB4⟩
        have HT4 := Aside0.mk hT4
        have HB4 := Aside0.mk (below_then HW.out HW.out.size hB4)
        have K4 := Aside0.mk (blk_below HK.out hB4)
        have S4 := Aside0.mk (show w.heap.size < wr.heap.size from blk_lt HK.out)
        have Q4 := Aside0.mk hB4.size
        clear hT4 hB4 k0 k1
        have k0 := (blk_cell K4.out 0).trans rfl
        have k1 := (blk_cell K4.out 1).trans rfl
        have k2 := (blk_cell K4.out 2).trans rfl
        go_wp2_with fail
        refine (load_calls g (T0 v) v r A c l R w4 HT4.out (by show 2 + l.length < _; omega) (fun w' hf => ?lf) hc E1.out ⟨hr0.out.1, by rw [E2.out]; have := hr0.out.2; omega⟩).mono ?_
        case lf =>
          exact Kd.C_below HR.out ⟨hf.os.trans HB4.out.os, hf.tape.trans HB4.out.tape, hf.output.trans HB4.out.output, Nat.le_trans HB4.out.size hf.size, fun k hk => (hf.block k (Nat.lt_of_lt_of_le hk HB4.out.size) (fun h => by have := S4.out; omega)).trans (HB4.out.block k hk)⟩
        rintro e w5 ⟨rfl, hT5, hF5⟩
        have HT5 := Aside0.mk hT5
        have HB5 : Aside0 (Below w.heap.size w w5) := ⟨⟨hF5.os.trans HB4.out.os, hF5.tape.trans HB4.out.tape, hF5.output.trans HB4.out.output, Nat.le_trans HB4.out.size hF5.size, fun k hk => (hF5.block k (Nat.lt_of_lt_of_le hk HB4.out.size) (fun h => by have := S4.out; omega)).trans (HB4.out.block k hk)⟩⟩
        have K5 : Aside0 (w5.heap[w.heap.size]? = some (.cells #[.int .i64 v, .slice A l.length c, .int .i64 r] 28 (0, 0))) := ⟨(hF5.block _ (blk_lt K4.out) (fun h => by have := S4.out; omega)).trans K4.out⟩
        clear hT5 hF5 k0 k1 k2
        go_wp2_with fail
        refine (tmask_calls g R.2 64 s' _ r' w5 HT5.out (by have := E6.out; omega) E5.out).mono ?_
        rintro e w6 ⟨v6, rfl, hR6, hB6⟩
        obtain ⟨A6, c6, rfl, hc6, hC6⟩ := Kd.R_reads hR6
        rw [E3.out]
        have HB6 := Aside0.mk (below_then HB5.out HB5.out.size hB6)
        have K6 := Aside0.mk (blk_alloc (blk_below K5.out hB6) (.cells #[.int .i64 v, .slice A6 s'.out.length c6, .int .i64 r'] 28))
        have C6 := Aside0.mk hC6
        clear hR6 hB6 hC6
        have k1 := (blk_cell K6.out 1).trans rfl
        have k2 := (blk_cell K6.out 2).trans rfl
        by_cases hrr : r' = r
        · have z : (r' == r) = true := by simpa using hrr
          have D6 := Aside0.mk (Kd.C_below HR.out (below_alloc HB6.out (.cells #[.int .i64 v, .slice A6 s'.out.length c6, .int .i64 r'] 28)))
          have C7 := Aside0.mk (Kd.C_alloc C6.out (.cells #[.int .i64 v, .slice A6 s'.out.length c6, .int .i64 r'] 28))
          have HRR := Aside0.mk hrr
          clear hrr
          go_wp2_with fail
          refine (mask_Node_92.calls 5000 A6 c6 s'.out A c l (decide (s'.out = l)) _ C7.out hc6 D6.out hc (eqn_f _ _ (by have := E6.out; omega) _ (by have := E6.out; omega))).mono ?_
          rintro e w7 ⟨rfl, ⟨m7, rfl⟩⟩
          go_wp2
          go_ret
          exact ⟨by rw [E7.out, HRR.out]; simp, pw_below_drewN (below_alloc HB6.out _) _⟩
        · have z : (r' == r) = false := by simpa using hrr
          have HRR := Aside0.mk hrr
          clear hrr
          go_wp2
          go_ret
          exact ⟨by rw [E7.out, decide_eq_false HRR.out]; rfl, below_alloc HB6.out _⟩
end Go.Proofs.Ytlplphgoldkoeaa.HTab
namespace Go.Proofs.Ytlplphgoldkoeaa.X
open Go.RowKit Go.Proofs.YtlplphgoldkoeaaW.PrintWords Go.Proofs.YtlplphgoldkoeaaW.PrintLast Go.Proofs.YtlplphgoldkoeaaW.PrintMore Go.Proofs.Ytlplphgoldkoeaa.HTab
set_option linter.unusedVariables false
def mask_Valid.f (a0_0 : Int) (l0_1 : List (S107)) (a0_2 : Int) : Option Bool := if l0_1.length ≤ 1000000000 then some (vmB a0_0 l0_1 a0_2) else none
theorem mask_Valid.calls (a0_0 : Int) (A0_1 : Option Addr) (c0_1 : Nat) (l0_1 : List (S107)) (a0_2 : Int) (r : Bool) (w : World) (hr0_1 : Kd.C k107 w A0_1 l0_1.length l0_1) (hc0_1 : l0_1.length ≤ c0_1) (h : mask_Valid.f a0_0 l0_1 a0_2 = some r) :
    Calls Try.prog 29 #[.agg #[.int .i64 a0_0, .slice A0_1 l0_1.length c0_1, .int .i64 a0_2]] w fun e w' => e = .returned (.bool r) ∧ Below w.heap.size w w' := by
  unfold mask_Valid.f at h
  split at h
  case isFalse => cases h
  rename_i hl
  obtain rfl := Option.some.inj h
  by_cases hd : a0_0 < 0 ∨ 12 < a0_0 ∨ (l0_1.length = 0 ∧ a0_2 ≠ 0 ∧ a0_2 ≠ 1) ∨ (0 < l0_1.length ∧ a0_2 ≠ (l0_1.length : Int) + 1)
  · have hV : ¬ VM a0_0 l0_1 a0_2 := fun hV => by
      have h1 := hV.v0
      have h2 := hV.v12
      have h3 := hV.root
      omega
    rw [vmB_false hV]
    exact valid_head a0_0 a0_2 A0_1 c0_1 l0_1 w hl hd
  · refine valid_main a0_0 a0_2 A0_1 c0_1 l0_1 w hr0_1 hc0_1 (by omega) (by omega) hl (by omega) _ _ rfl (fun hB => ?_) (fun hB => ?_)
    · exact vmB_false (fun hV => by rw [hV.nodes] at hB; cases hB)
    · exact back_V a0_0 l0_1 a0_2 (by omega) (by omega) hB (by omega)
end Go.Proofs.Ytlplphgoldkoeaa.X
end
