/- Lemmas of the masks: part Be. -/
import Derived.Test.YtlplphgoldkoeaaBc
import Derived.Test.YtlplphgoldkoeaaBd
import Derived.Deep.LoopGhost
import Derived.Lib.Hide
import Derived.Deep.DeepMust
section
set_option linter.unusedVariables false
set_option linter.unusedSimpArgs false
namespace Go.Proofs.Ytlplphgoldkoeaa.X
open Go.RowKit Go.Proofs.YtlplphgoldkoeaaW.PrintWords Go.Proofs.YtlplphgoldkoeaaW.PrintLast Go.Proofs.YtlplphgoldkoeaaW.PrintMore
attribute [local go_sem] max2_int min2_int max_two min_two max_three min_three max_four min_four   -- for this text's walks alone
set_option linter.unusedVariables false
set_option linter.unusedSimpArgs false
def cantingref02_constant.l0 : Nat → List Bool → List Bool → Int → Int → Option (Bool)
  | 0, _, _, _, _ => none
  | k + 1, x0, x5, x6, x7 => if x7 < x6 then (if 0 ≤ x7 then (if x7 < (x5.length : Int) then (if 0 < (x0.length : Int) then (if ((rdOf false x5 x7) != (rdOf false x0 0)) = true then (some false) else (cantingref02_constant.l0 k x0 x5 x6 (wrap64 (x7 + 1)))) else (none)) else (none)) else (none)) else (some true)
def cantingref02_constant.f (k : Nat) (l0 : List Bool) : Option (Bool) := cantingref02_constant.l0 k l0 l0 (l0.length : Int) 0
theorem cantingref02_constant.mono_l : ∀ k, (∀ y0 y1 y2 y3, LeO (cantingref02_constant.l0 k y0 y1 y2 y3) (cantingref02_constant.l0 (k + 1) y0 y1 y2 y3))
  | 0 => fun _ _ _ _ r h => by simp [cantingref02_constant.l0] at h
  | k + 1 => by
    have ih0 := cantingref02_constant.mono_l k
    · intro y0 y1 y2 y3
      unfold cantingref02_constant.l0
      repeat' first
      | (with_reducible exact ih0 _ _ _ _)
      | (with_reducible exact LeO.refl _)
      | (with_reducible exact LeO.none _)
      | (with_reducible refine LeO.ite ?_ ?_)
      | (with_reducible refine LeO.bind ?_ (fun _ => ?_))
      | exact ih0 _ _ _ _
      | exact LeO.none _
      | refine LeO.ite ?_ ?_
      | refine LeO.bind ?_ (fun _ => ?_)
theorem cantingref02_constant.mono : ∀ a0 k, LeO (cantingref02_constant.f k a0) (cantingref02_constant.f (k + 1) a0) := by
  intro a0 k
  have ih0 := cantingref02_constant.mono_l k
  unfold cantingref02_constant.f
  repeat' first
      | (with_reducible exact ih0 _ _ _ _)
      | (with_reducible exact LeO.refl _)
      | (with_reducible exact LeO.none _)
      | (with_reducible refine LeO.ite ?_ ?_)
      | (with_reducible refine LeO.bind ?_ (fun _ => ?_))
      | exact ih0 _ _ _ _
      | exact LeO.none _
      | refine LeO.ite ?_ ?_
      | refine LeO.bind ?_ (fun _ => ?_)
set_option maxHeartbeats 8000000 in
set_option maxRecDepth 100000 in
theorem cantingref02_constant.calls (k : Nat) (A0 : Option Addr) (c0 : Nat) (l0 : List Bool) (r : Bool) (w : World) (hr0 : Kd.C Kd.bool w A0 l0.length l0) (hc0 : l0.length ≤ c0) (h : cantingref02_constant.f k l0 = some r) :
    Calls Try.prog 138 #[.slice A0 l0.length c0] w fun e w' => e = .returned (.bool r) ∧ Drawn0 w w' := by
  have HR0 := Aside0.mk hr0
  have HC0 := Aside0.mk hc0
  clear hr0 hc0
  have H : (cantingref02_constant.l0 k l0 l0 (l0.length : Int) 0) = some r := h
  clear h
  have H' := Aside0.mk H
  clear H
  go_enter Try.func138, Try.ntmps138
  go_wp2
  go_loopg [7] k (fun kq v7 w' => ∃ (x7_1 : Int), v7 = .int .i64 x7_1 ∧ Aside0 (cantingref02_constant.l0 kq l0 l0 (l0.length : Int) x7_1 = some r) ∧ Aside0 (kq ≤ k) ∧ Drawn0 w w')
  case atStart => exact ⟨(0), (by first | rfl | (simp; done) | (simp [*]; done)), H', ⟨Nat.le_refl _⟩, by repeat (first | exact Drawn0.refl _ | apply Drawn0.step)⟩
  case round =>
    clear H'
    try clear c1
    obtain ⟨x7_1, rfl, HA, HK1, ⟨m1, rfl⟩⟩ := hrel
    cases gk with
    | zero => exact absurd HA.out (by simp [cantingref02_constant.l0])
    | succ k1 =>
      have H := HA.out
      clear HA
      simp only [cantingref02_constant.l0] at H
      by_cases c2 : x7_1 < (l0.length : Int)
      · rw [if_pos c2] at H
        have c2b0 : decide (x7_1 < (l0.length : Int)) = true := decide_eq_true c2
        clear c2
        by_cases c3 : 0 ≤ x7_1
        · rw [if_pos c3] at H
          have c3b0 : decide (0 ≤ x7_1) = true := decide_eq_true c3
          clear c3
          by_cases c4 : x7_1 < (l0.length : Int)
          · rw [if_pos c4] at H
            have c4b0 : decide (x7_1 < (l0.length : Int)) = true := decide_eq_true c4
            clear c4
            by_cases c5 : 0 < (l0.length : Int)
            · rw [if_pos c5] at H
              have c5b0 : decide (0 < (l0.length : Int)) = true := decide_eq_true c5
              have c5b1 : decide (0 < l0.length) = true := decide_eq_true (by omega)
              clear c5
              by_cases c6 : ((rdOf false l0 x7_1) != (rdOf false l0 0)) = true
              · rw [if_pos c6] at H
                have c6b0 : ((rdOf false l0 x7_1) != (rdOf false l0 0)) = true := c6
                (try (have c6b1 : decide ((rdOf false l0 x7_1) = (rdOf false l0 0)) = false := by simpa using c6))
                (try (have c6b2 : ((rdOf false l0 x7_1) == (rdOf false l0 0)) = false := by simpa using c6))
                (try (have c6b3 : ¬ ((rdOf false l0 x7_1) = (rdOf false l0 0)) := by simpa using c6))
                clear c6
                obtain rfl := Option.some.inj H
                have p108 : 0 ≤ (x7_1 : Int) := of_decide_eq_true (by first | (with_reducible assumption) | assumption)
                have q108 : x7_1 < (l0.length : Int) := of_decide_eq_true (by first | (with_reducible assumption) | assumption)
                obtain ⟨ad108, e108, hx108_0⟩ := Kd.at_bool HR0.out x7_1 p108 q108
                cases e108
                replace p108 := eq_true p108
                replace q108 := eq_true q108
                have p109 : 0 ≤ (0 : Int) := (by omega)
                have q109 : 0 < (l0.length : Int) := of_decide_eq_true (by first | (with_reducible assumption) | assumption)
                obtain ⟨ad109, e109, hx109_0⟩ := Kd.at_bool HR0.out 0 p109 q109
                obtain rfl : ad108 = ad109 := (by injection e109)
                have qi109 : (0 < l0.length) = True := eq_true (by omega)
                (try rw [show ((0 : Int)).toNat = 0 from rfl] at hx109_0)
                (try rw [Addr.add_zero'] at hx109_0)
                replace p109 := eq_true p109
                replace q109 := eq_true q109
                go_wp2
                go_ret
                exact ⟨by first | rfl | (simp; done) | (simp [*]; done), by repeat (first | exact Drawn0.refl _ | apply Drawn0.step)⟩
              · rw [if_neg c6] at H
                have c6b0 : ((rdOf false l0 x7_1) != (rdOf false l0 0)) = false := by simpa using c6
                (try (have c6b1 : decide ((rdOf false l0 x7_1) = (rdOf false l0 0)) = true := by simpa using c6))
                (try (have c6b2 : ((rdOf false l0 x7_1) == (rdOf false l0 0)) = true := by simpa using c6))
                clear c6
                have H' := Aside0.mk H
                clear H
                have p108 : 0 ≤ (x7_1 : Int) := of_decide_eq_true (by first | (with_reducible assumption) | assumption)
                have q108 : x7_1 < (l0.length : Int) := of_decide_eq_true (by first | (with_reducible assumption) | assumption)
                obtain ⟨ad108, e108, hx108_0⟩ := Kd.at_bool HR0.out x7_1 p108 q108
                cases e108
                replace p108 := eq_true p108
                replace q108 := eq_true q108
                have p109 : 0 ≤ (0 : Int) := (by omega)
                have q109 : 0 < (l0.length : Int) := of_decide_eq_true (by first | (with_reducible assumption) | assumption)
                obtain ⟨ad109, e109, hx109_0⟩ := Kd.at_bool HR0.out 0 p109 q109
                obtain rfl : ad108 = ad109 := (by injection e109)
                have qi109 : (0 < l0.length) = True := eq_true (by omega)
                (try rw [show ((0 : Int)).toNat = 0 from rfl] at hx109_0)
                (try rw [Addr.add_zero'] at hx109_0)
                replace p109 := eq_true p109
                replace q109 := eq_true q109
                go_wp2
                go_roundg k1
                case measure => have := HK1.out; omega
                case rel => exact ⟨(wrap64 (x7_1 + 1)), (by first | rfl | (simp; done) | (simp [*]; done)), H', ⟨by have := HK1.out; omega⟩, by repeat (first | exact Drawn0.refl _ | apply Drawn0.step)⟩
            · rw [if_neg c5] at H
              exact absurd H (by simp)
          · rw [if_neg c4] at H
            exact absurd H (by simp)
        · rw [if_neg c3] at H
          exact absurd H (by simp)
      · rw [if_neg c2] at H
        have c2b0 : decide (x7_1 < (l0.length : Int)) = false := decide_eq_false c2
        clear c2
        obtain rfl := Option.some.inj H
        go_wp2
        go_ret
        exact ⟨by first | rfl | (simp; done) | (simp [*]; done), by repeat (first | exact Drawn0.refl _ | apply Drawn0.step)⟩
end Go.Proofs.Ytlplphgoldkoeaa.X
end

section
set_option linter.unusedVariables false
set_option linter.unusedSimpArgs false
namespace Go.Proofs.Ytlplphgoldkoeaa.X
open Go.RowKit Go.Proofs.YtlplphgoldkoeaaW.PrintWords Go.Proofs.YtlplphgoldkoeaaW.PrintLast Go.Proofs.YtlplphgoldkoeaaW.PrintMore
attribute [local go_sem] max2_int min2_int max_two min_two max_three min_three max_four min_four   -- for this text's walks alone
set_option linter.unusedVariables false
set_option linter.unusedSimpArgs false
def cantingref02_equal.l0 : Nat → List Bool → List Bool → Int → Int → Option (Bool)
  | 0, _, _, _, _ => none
  | k + 1, x1, x12, x13, x14 => if x14 < x13 then (if 0 ≤ x14 then (if x14 < (x12.length : Int) then (if x14 < (x1.length : Int) then (if ((rdOf false x12 x14) != (rdOf false x1 x14)) = true then (some false) else (cantingref02_equal.l0 k x1 x12 x13 (wrap64 (x14 + 1)))) else (none)) else (none)) else (none)) else (some true)
def cantingref02_equal.f (k : Nat) (l0 : List Bool) (l1 : List Bool) : Option (Bool) := if (l0.length : Int) = (l1.length : Int) then (cantingref02_equal.l0 k l1 l0 (l0.length : Int) 0) else (some false)
theorem cantingref02_equal.mono_l : ∀ k, (∀ y0 y1 y2 y3, LeO (cantingref02_equal.l0 k y0 y1 y2 y3) (cantingref02_equal.l0 (k + 1) y0 y1 y2 y3))
  | 0 => fun _ _ _ _ r h => by simp [cantingref02_equal.l0] at h
  | k + 1 => by
    have ih0 := cantingref02_equal.mono_l k
    · intro y0 y1 y2 y3
      unfold cantingref02_equal.l0
      repeat' first
      | (with_reducible exact ih0 _ _ _ _)
      | (with_reducible exact LeO.refl _)
      | (with_reducible exact LeO.none _)
      | (with_reducible refine LeO.ite ?_ ?_)
      | (with_reducible refine LeO.bind ?_ (fun _ => ?_))
      | exact ih0 _ _ _ _
      | exact LeO.none _
      | refine LeO.ite ?_ ?_
      | refine LeO.bind ?_ (fun _ => ?_)
theorem cantingref02_equal.mono : ∀ a0 a1 k, LeO (cantingref02_equal.f k a0 a1) (cantingref02_equal.f (k + 1) a0 a1) := by
  intro a0 a1 k
  have ih0 := cantingref02_equal.mono_l k
  unfold cantingref02_equal.f
  repeat' first
      | (with_reducible exact ih0 _ _ _ _)
      | (with_reducible exact LeO.refl _)
      | (with_reducible exact LeO.none _)
      | (with_reducible refine LeO.ite ?_ ?_)
      | (with_reducible refine LeO.bind ?_ (fun _ => ?_))
      | exact ih0 _ _ _ _
      | exact LeO.none _
      | refine LeO.ite ?_ ?_
      | refine LeO.bind ?_ (fun _ => ?_)
set_option maxHeartbeats 8000000 in
set_option maxRecDepth 100000 in
theorem cantingref02_equal.calls (k : Nat) (A0 : Option Addr) (c0 : Nat) (l0 : List Bool) (A1 : Option Addr) (c1 : Nat) (l1 : List Bool) (r : Bool) (w : World) (hr0 : Kd.C Kd.bool w A0 l0.length l0) (hc0 : l0.length ≤ c0) (hr1 : Kd.C Kd.bool w A1 l1.length l1) (hc1 : l1.length ≤ c1) (h : cantingref02_equal.f k l0 l1 = some r) :
    Calls Try.prog 139 #[.slice A0 l0.length c0, .slice A1 l1.length c1] w fun e w' => e = .returned (.bool r) ∧ Drawn0 w w' := by
  have HR0 := Aside0.mk hr0
  have HC0 := Aside0.mk hc0
  clear hr0 hc0
  have HR1 := Aside0.mk hr1
  have HC1 := Aside0.mk hc1
  clear hr1 hc1
  have H : (if (l0.length : Int) = (l1.length : Int) then (cantingref02_equal.l0 k l1 l0 (l0.length : Int) 0) else (some false)) = some r := h
  clear h
  by_cases c3 : (l0.length : Int) = (l1.length : Int)
  · rw [if_pos c3] at H
    have c3b0 : ((l0.length : Int) == (l1.length : Int)) = true := beq_iff_eq.mpr c3
    have c3b1 : ((l0.length : Int) != (l1.length : Int)) = false := bne_eq_false_iff_eq.mpr c3
    have c3b2 : (l0.length == l1.length) = true := by first | simpa using c3 | (simp at c3 ⊢; omega)
    clear c3
    have H' := Aside0.mk H
    clear H
    go_enter Try.func139, Try.ntmps139
    go_wp2
    go_loopg [14] k (fun kq v14 w' => ∃ (x14_1 : Int), v14 = .int .i64 x14_1 ∧ Aside0 (cantingref02_equal.l0 kq l1 l0 (l0.length : Int) x14_1 = some r) ∧ Aside0 (kq ≤ k) ∧ Drawn0 w w')
    case atStart => exact ⟨(0), (by first | rfl | (simp; done) | (simp [*]; done)), H', ⟨Nat.le_refl _⟩, by repeat (first | exact Drawn0.refl _ | apply Drawn0.step)⟩
    case round =>
      clear H'
      try clear c1
      try clear p2
      try clear c3
      try clear c3b0
      try clear c3b1
      try clear c3b2
      obtain ⟨x14_1, rfl, HA, HK1, ⟨m1, rfl⟩⟩ := hrel
      cases gk with
      | zero => exact absurd HA.out (by simp [cantingref02_equal.l0])
      | succ k1 =>
        have H := HA.out
        clear HA
        simp only [cantingref02_equal.l0] at H
        by_cases c4 : x14_1 < (l0.length : Int)
        · rw [if_pos c4] at H
          have c4b0 : decide (x14_1 < (l0.length : Int)) = true := decide_eq_true c4
          clear c4
          by_cases c5 : 0 ≤ x14_1
          · rw [if_pos c5] at H
            have c5b0 : decide (0 ≤ x14_1) = true := decide_eq_true c5
            clear c5
            by_cases c6 : x14_1 < (l0.length : Int)
            · rw [if_pos c6] at H
              have c6b0 : decide (x14_1 < (l0.length : Int)) = true := decide_eq_true c6
              clear c6
              by_cases c7 : x14_1 < (l1.length : Int)
              · rw [if_pos c7] at H
                have c7b0 : decide (x14_1 < (l1.length : Int)) = true := decide_eq_true c7
                clear c7
                by_cases c8 : ((rdOf false l0 x14_1) != (rdOf false l1 x14_1)) = true
                · rw [if_pos c8] at H
                  have c8b0 : ((rdOf false l0 x14_1) != (rdOf false l1 x14_1)) = true := c8
                  (try (have c8b1 : decide ((rdOf false l0 x14_1) = (rdOf false l1 x14_1)) = false := by simpa using c8))
                  (try (have c8b2 : ((rdOf false l0 x14_1) == (rdOf false l1 x14_1)) = false := by simpa using c8))
                  (try (have c8b3 : ¬ ((rdOf false l0 x14_1) = (rdOf false l1 x14_1)) := by simpa using c8))
                  clear c8
                  obtain rfl := Option.some.inj H
                  have p110 : 0 ≤ (x14_1 : Int) := of_decide_eq_true (by first | (with_reducible assumption) | assumption)
                  have q110 : x14_1 < (l0.length : Int) := of_decide_eq_true (by first | (with_reducible assumption) | assumption)
                  obtain ⟨ad110, e110, hx110_0⟩ := Kd.at_bool HR0.out x14_1 p110 q110
                  cases e110
                  replace p110 := eq_true p110
                  replace q110 := eq_true q110
                  have p111 : 0 ≤ (x14_1 : Int) := of_decide_eq_true (by first | (with_reducible assumption) | assumption)
                  have q111 : x14_1 < (l1.length : Int) := of_decide_eq_true (by first | (with_reducible assumption) | assumption)
                  obtain ⟨ad111, e111, hx111_0⟩ := Kd.at_bool HR1.out x14_1 p111 q111
                  cases e111
                  replace p111 := eq_true p111
                  replace q111 := eq_true q111
                  go_wp2
                  go_ret
                  exact ⟨by first | rfl | (simp; done) | (simp [*]; done), by repeat (first | exact Drawn0.refl _ | apply Drawn0.step)⟩
                · rw [if_neg c8] at H
                  have c8b0 : ((rdOf false l0 x14_1) != (rdOf false l1 x14_1)) = false := by simpa using c8
                  (try (have c8b1 : decide ((rdOf false l0 x14_1) = (rdOf false l1 x14_1)) = true := by simpa using c8))
                  (try (have c8b2 : ((rdOf false l0 x14_1) == (rdOf false l1 x14_1)) = true := by simpa using c8))
                  clear c8
                  have H' := Aside0.mk H
                  clear H
                  have p110 : 0 ≤ (x14_1 : Int) := of_decide_eq_true (by first | (with_reducible assumption) | assumption)
                  have q110 : x14_1 < (l0.length : Int) := of_decide_eq_true (by first | (with_reducible assumption) | assumption)
                  obtain ⟨ad110, e110, hx110_0⟩ := Kd.at_bool HR0.out x14_1 p110 q110
                  cases e110
                  replace p110 := eq_true p110
                  replace q110 := eq_true q110
                  have p111 : 0 ≤ (x14_1 : Int) := of_decide_eq_true (by first | (with_reducible assumption) | assumption)
                  have q111 : x14_1 < (l1.length : Int) := of_decide_eq_true (by first | (with_reducible assumption) | assumption)
                  obtain ⟨ad111, e111, hx111_0⟩ := Kd.at_bool HR1.out x14_1 p111 q111
                  cases e111
                  replace p111 := eq_true p111
                  replace q111 := eq_true q111
                  go_wp2
                  go_roundg k1
                  case measure => have := HK1.out; omega
                  case rel => exact ⟨(wrap64 (x14_1 + 1)), (by first | rfl | (simp; done) | (simp [*]; done)), H', ⟨by have := HK1.out; omega⟩, by repeat (first | exact Drawn0.refl _ | apply Drawn0.step)⟩
              · rw [if_neg c7] at H
                exact absurd H (by simp)
            · rw [if_neg c6] at H
              exact absurd H (by simp)
          · rw [if_neg c5] at H
            exact absurd H (by simp)
        · rw [if_neg c4] at H
          have c4b0 : decide (x14_1 < (l0.length : Int)) = false := decide_eq_false c4
          clear c4
          obtain rfl := Option.some.inj H
          go_wp2
          go_ret
          exact ⟨by first | rfl | (simp; done) | (simp [*]; done), by repeat (first | exact Drawn0.refl _ | apply Drawn0.step)⟩
  · rw [if_neg c3] at H
    have c3b0 : ((l0.length : Int) == (l1.length : Int)) = false := beq_eq_false_iff_ne.mpr c3
    have c3b1 : ((l0.length : Int) != (l1.length : Int)) = true := bne_iff_ne.mpr c3
    have c3b2 : (l0.length == l1.length) = false := by first | simpa using c3 | (simp at c3 ⊢; omega)
    obtain rfl := Option.some.inj H
    go_enter Try.func139, Try.ntmps139
    go_wp2
    go_ret
    exact ⟨by first | rfl | (simp; done) | (simp [*]; done), by repeat (first | exact Drawn0.refl _ | apply Drawn0.step)⟩
end Go.Proofs.Ytlplphgoldkoeaa.X
end

section
set_option linter.unusedVariables false
set_option linter.unusedSimpArgs false
namespace Go.Proofs.Ytlplphgoldkoeaa.HTab
open Go.RowKit Go.Proofs.YtlplphgoldkoeaaW.PrintWords Go.Proofs.YtlplphgoldkoeaaW.PrintLast Go.Proofs.YtlplphgoldkoeaaW.PrintMore Go.Proofs.Ytlplphgoldkoeaa.X
set_option linter.unusedVariables false
theorem wrap_inc {i : Int} (h0 : 0 ≤ i) (h : i < 140737488355328) : wrap64 (i + 1) = i + 1 := by unfold wrap64; omega
def constP (l : List Bool) : Bool := l.all (fun x => x == l.getD 0 false)
theorem constant_l0 (l : List Bool) (hl : l.length < 140737488355328) (d : Nat) : ∀ (k i : Nat), i + d = l.length → d < k →
    cantingref02_constant.l0 k l l l.length i = some ((l.drop i).all (fun x => x == l.getD 0 false)) := by
  induction d with
  | zero =>
    intro k i hi hk
    obtain ⟨k, rfl⟩ : ∃ m, k = m + 1 := ⟨k - 1, by omega⟩
    simp only [cantingref02_constant.l0]
    rw [if_neg (by omega), List.drop_eq_nil_of_le (by omega)]
    rfl
  | succ d ih =>
    intro k i hi hk
    obtain ⟨k, rfl⟩ : ∃ m, k = m + 1 := ⟨k - 1, by omega⟩
    have hlt : i < l.length := by omega
    simp only [cantingref02_constant.l0]
    rw [if_pos (by omega), if_pos (by omega), if_pos (by omega), if_pos (by omega), List.drop_eq_getElem_cons hlt]
    have h1 : rdOf false l (i : Int) = l[i] := by simp [rdOf, hlt]
    have h2 : rdOf false l 0 = l.getD 0 false := rfl
    rw [h1, h2, List.all_cons]
    by_cases e : l[i] = l.getD 0 false
    · rw [if_neg (by simp [e]), wrap_inc (by omega) (by omega)]
      have := ih k (i + 1) (by omega) (by omega)
      rw [show ((i : Int) + 1) = ((i + 1 : Nat) : Int) by omega, this]
      simp [e]
    · rw [if_pos (by simpa using e)]
      have : (l[i] == l.getD 0 false) = false := by simpa using e
      rw [this]; rfl
theorem constant_f (l : List Bool) (hl : l.length < 140737488355328) (k : Nat) (hk : l.length < k) : cantingref02_constant.f k l = some (constP l) := by
  have := constant_l0 l hl l.length k 0 (by omega) hk
  simpa [cantingref02_constant.f, constP] using this
theorem equal_l0 (a b : List Bool) (hab : a.length = b.length) (hl : a.length < 140737488355328) (d : Nat) : ∀ (k i : Nat), i + d = a.length → d < k →
    cantingref02_equal.l0 k b a a.length i = some (decide (a.drop i = b.drop i)) := by
  induction d with
  | zero =>
    intro k i hi hk
    obtain ⟨k, rfl⟩ : ∃ m, k = m + 1 := ⟨k - 1, by omega⟩
    simp only [cantingref02_equal.l0]
    rw [if_neg (by omega), List.drop_eq_nil_of_le (by omega), List.drop_eq_nil_of_le (by omega)]
    rfl
  | succ d ih =>
    intro k i hi hk
    obtain ⟨k, rfl⟩ : ∃ m, k = m + 1 := ⟨k - 1, by omega⟩
    have hlt : i < a.length := by omega
    have hlt2 : i < b.length := by omega
    simp only [cantingref02_equal.l0]
    rw [if_pos (by omega), if_pos (by omega), if_pos (by omega), if_pos (by omega), List.drop_eq_getElem_cons hlt, List.drop_eq_getElem_cons hlt2]
    have h1 : rdOf false a (i : Int) = a[i] := by simp [rdOf, hlt]
    have h2 : rdOf false b (i : Int) = b[i] := by simp [rdOf, hlt2]
    rw [h1, h2]
    by_cases e : a[i] = b[i]
    · rw [if_neg (by simp [e]), wrap_inc (by omega) (by omega)]
      have := ih k (i + 1) (by omega) (by omega)
      rw [show ((i : Int) + 1) = ((i + 1 : Nat) : Int) by omega, this, e]
      simp only [List.cons.injEq, true_and]
    · rw [if_pos (by simpa using e), decide_eq_false (fun h => e (List.cons.inj h).1)]
theorem equal_f (a b : List Bool) (hl : a.length < 140737488355328) (k : Nat) (hk : a.length < k) : cantingref02_equal.f k a b = some (decide (a = b)) := by
  unfold cantingref02_equal.f
  by_cases h : a.length = b.length
  · rw [if_pos (by omega)]
    have := equal_l0 a b h hl a.length k 0 (by omega) hk
    simpa using this
  · rw [if_neg (by omega)]
    have : a ≠ b := fun e => h (by rw [e])
    simp [this]
theorem constant_calls (A : Option Addr) (c : Nat) (l : List Bool) (w : World) (hr : Kd.C Kd.bool w A l.length l) (hc : l.length ≤ c) (hl : l.length < 140737488355328) :
    Calls Try.prog 138 #[.slice A l.length c] w fun e w' => e = .returned (.bool (constP l)) ∧ Drawn0 w w' :=
  cantingref02_constant.calls (l.length + 1) A c l _ w hr hc (constant_f l hl _ (by omega))
theorem equal_calls (A : Option Addr) (c : Nat) (a : List Bool) (B : Option Addr) (c2 : Nat) (b : List Bool) (w : World) (hr : Kd.C Kd.bool w A a.length a) (hc : a.length ≤ c) (hr2 : Kd.C Kd.bool w B b.length b) (hc2 : b.length ≤ c2) (hl : a.length < 140737488355328) :
    Calls Try.prog 139 #[.slice A a.length c, .slice B b.length c2] w fun e w' => e = .returned (.bool (decide (a = b))) ∧ Drawn0 w w' :=
  cantingref02_equal.calls (a.length + 1) A c a B c2 b _ w hr hc hr2 hc2 (equal_f a b hl _ (by omega))
end Go.Proofs.Ytlplphgoldkoeaa.HTab
end

section
set_option linter.unusedVariables false
set_option linter.unusedSimpArgs false
namespace Go.Proofs.Ytlplphgoldkoeaa.HTab
open Go.RowKit Go.Proofs.YtlplphgoldkoeaaW.PrintWords Go.Proofs.YtlplphgoldkoeaaW.PrintLast Go.Proofs.YtlplphgoldkoeaaW.PrintMore Go.Proofs.Ytlplphgoldkoeaa.HMap Go.Proofs.Ytlplphgoldkoeaa.X
set_option linter.unusedVariables false
set_option linter.unusedSimpArgs false
structure BS where
  nodes : List S106
  ts : List (List Bool)
def idxOf (ts : List (List Bool)) (t : List Bool) : Option Nat := ts.findIdx? (fun s => decide (s = t))
def visitP : Nat → BS → List Bool → Int → Option (Int × BS)
  | 0, _, _, _ => none
  | k + 1, b, t, v =>
    if t = [] then none else
    if constP t = true then some (if t.getD 0 false then 1 else 0, b) else
    if t.take (t.length / 2) = t.drop (t.length / 2) then visitP k b (t.take (t.length / 2)) (v + 1) else
    match idxOf b.ts t with
    | some i => some ((i : Int) + 2, b)
    | none => (visitP k b (t.take (t.length / 2)) (v + 1)).bind fun p => (visitP k p.2 (t.drop (t.length / 2)) (v + 1)).bind fun q =>
        some ((q.2.nodes.length : Int) + 2, ⟨q.2.nodes ++ [⟨v, p.1, q.1⟩], q.2.ts ++ [t]⟩)
def Rd (S : Nat → Prop) (w : World) (A : Option Addr) (xs : List Bool) : Prop := ∀ w', Fr S w w' → Kd.bool.C w' A xs.length xs
theorem Rd.now {S : Nat → Prop} {w : World} {A : Option Addr} {xs : List Bool} (h : Rd S w A xs) : Kd.bool.C w A xs.length xs := h w (Fr.refl S w)
theorem Rd.next {S S2 : Nat → Prop} {w w1 : World} {A : Option Addr} {xs : List Bool} (h : Rd S w A xs) (hf : Fr S w w1) (hs : ∀ k, S2 k → S k ∨ w.heap.size ≤ k) : Rd S2 w1 A xs := fun w' hf' => h w' (hf.then_ hf' hs)
theorem Rd.take {S : Nat → Prop} {w : World} {A : Option Addr} {xs : List Bool} (h : Rd S w A xs) (m : Nat) (hm : m ≤ xs.length) : Rd S w A (xs.take m) := fun w' hf => Kd.C_take (h w' hf) hm
theorem Rd.drop {S : Nat → Prop} {w : World} {A : Option Addr} {xs : List Bool} (h : Rd S w A xs) (m c : Nat) (hm : m < c) (hml : m ≤ xs.length) (hc : xs.length ≤ c) : Rd S w (A.map (·.add m)) (xs.drop m) := fun w' hf => by
  have := Kd.C_drop (h w' hf) hml hc
  rw [if_neg (by omega)] at this
  have hz : Kd.bool.sz = 1 := rfl
  simpa [hz] using this
def kSl : Kd (Option Addr × Nat × Nat) := Kd.scalar (fun p => .slice p.1 p.2.1 p.2.2) (fun _ => rfl)
def RowsOk (S : Nat → Prop) (w : World) (ps : List (Option Addr × Nat × Nat)) (ts : List (List Bool)) : Prop :=
  ps.length = ts.length ∧ ∀ (i : Nat) p t, ps[i]? = some p → ts[i]? = some t → p.2.1 = t.length ∧ t.length ≤ p.2.2 ∧ t.length < 140737488355328 ∧ Rd S w p.1 t
theorem RowsOk.next {S S2 : Nat → Prop} {w w1 : World} {ps : List (Option Addr × Nat × Nat)} {ts : List (List Bool)} (h : RowsOk S w ps ts) (hf : Fr S w w1) (hs : ∀ k, S2 k → S k ∨ w.heap.size ≤ k) : RowsOk S2 w1 ps ts :=
  ⟨h.1, fun i p t hp ht => ⟨(h.2 i p t hp ht).1, (h.2 i p t hp ht).2.1, (h.2 i p t hp ht).2.2.1, (h.2 i p t hp ht).2.2.2.next hf hs⟩⟩
theorem RowsOk.snoc {S : Nat → Prop} {w : World} {ps : List (Option Addr × Nat × Nat)} {ts : List (List Bool)} (h : RowsOk S w ps ts) {A : Option Addr} {c : Nat} {t : List Bool} (hc : t.length ≤ c) (hl : t.length < 140737488355328) (hr : Rd S w A t) : RowsOk S w (ps ++ [(A, t.length, c)]) (ts ++ [t]) := by
  refine ⟨by simp [h.1], fun i p q hp hq => ?_⟩
  have h1 := h.1
  by_cases hi : i < ps.length
  · rw [List.getElem?_append_left hi] at hp
    rw [List.getElem?_append_left (by omega)] at hq
    exact h.2 i p q hp hq
  · rw [List.getElem?_append_right (by omega)] at hp
    rw [List.getElem?_append_right (by omega)] at hq
    have hi2 : i - ps.length < 1 := by
      have := (List.getElem?_eq_some_iff.1 hp).1
      simpa using this
    have e1 : i - ps.length = 0 := by omega
    have e2 : i - ts.length = 0 := by omega
    rw [e1] at hp
    rw [e2] at hq
    simp only [List.getElem?_cons_zero, Option.some.injEq] at hp hq
    subst hp; subst hq
    exact ⟨rfl, hc, hl, hr⟩
def Bld (w : World) (S : Nat → Prop) (b : Nat) (B : BS) : Prop :=
  ∃ vN vT ps, w.heap[b]? = some (.cells #[vN, vT] 154 (0, 0)) ∧ S b ∧ k106.R 106 w 0 S vN B.nodes ∧ kSl.R 47 w 0 S vT ps ∧ RowsOk S w ps B.ts
theorem Bld.bound {w : World} {S : Nat → Prop} {b : Nat} {B : BS} (h : Bld w S b B) : Bld w (fun k => S k ∧ k < w.heap.size) b B := by
  obtain ⟨vN, vT, ps, hb, sb, hN, hT, hR⟩ := h
  exact ⟨vN, vT, ps, hb, ⟨sb, blk_lt hb⟩, Kd.R_mono (Kd.R_bound hN) (fun k hk => ⟨hk.1, hk.2.2.1⟩), Kd.R_mono (Kd.R_bound hT) (fun k hk => ⟨hk.1, hk.2.2.1⟩), hR.next (Fr.refl S w) (fun k hk => .inl hk.1)⟩
theorem Bld.grow {w : World} {S : Nat → Prop} {b : Nat} {B : BS} (h : Bld w S b B) : Bld w (fun k => (S k ∨ w.heap.size ≤ k) ∧ k < w.heap.size) b B := by
  obtain ⟨vN, vT, ps, hb, sb, hN, hT, hR⟩ := h.bound
  exact ⟨vN, vT, ps, hb, ⟨.inl sb.1, sb.2⟩, Kd.R_mono hN (fun k hk => ⟨.inl hk.1, hk.2⟩), Kd.R_mono hT (fun k hk => ⟨.inl hk.1, hk.2⟩), hR.next (Fr.refl _ w) (fun k hk => hk.1.elim (fun h => .inl ⟨h, hk.2⟩) .inr)⟩
theorem Bld.mono' {w : World} {S S2 : Nat → Prop} {b : Nat} {B : BS} (h : Bld w S b B) (hs : ∀ k, S k → S2 k) (h2 : ∀ k, S2 k → S k ∨ w.heap.size ≤ k) : Bld w S2 b B := by
  obtain ⟨vN, vT, ps, hb, sb, hN, hT, hR⟩ := h
  exact ⟨vN, vT, ps, hb, hs _ sb, Kd.R_mono hN hs, Kd.R_mono hT hs, hR.next (Fr.refl S w) h2⟩
theorem Bld.drewN {w : World} {S : Nat → Prop} {b : Nat} {B : BS} (h : Bld w S b B) (n : Nat) : Bld (w.drewN n) S b B := by
  obtain ⟨vN, vT, ps, hb, sb, hN, hT, hR⟩ := h
  exact ⟨vN, vT, ps, hb, sb, Kd.R_drewN hN n, Kd.R_drewN hT n, hR.next ⟨rfl, rfl, rfl, Nat.le_refl _, fun _ _ _ => rfl⟩ (fun k hk => .inl hk)⟩
theorem Bld.drawn {w W : World} {S : Nat → Prop} {b : Nat} {B : BS} (h : Bld w S b B) (hd : Drawn0 w W) : Bld W S b B := by obtain ⟨n, rfl⟩ := hd.out; exact h.drewN n
theorem fr_drewN (S : Nat → Prop) (w : World) (n : Nat) : Fr S w (w.drewN n) := ⟨rfl, rfl, rfl, Nat.le_refl _, fun _ _ _ => rfl⟩
theorem quiet_drawn {P : Program} {f : FuncId} {args : Array Value} {w : World} {n : Nat} {v : Value} (h : Calls P f args (w.drewN n) fun e w' => e = .returned v ∧ Drawn0 (w.drewN n) w') :
    Calls P f args (w.drewN n) fun e w'' => e = .returned v ∧ ∃ m, w'' = w.drewN m := Calls.quiet_of (h.mono fun _ _ h => ⟨h.1, h.2.out⟩)
theorem dr1 (w : World) (a : Nat) : Drawn0 w (w.drewN a) := ⟨⟨a, rfl⟩⟩
theorem fr_drawn (S : Nat → Prop) {w W : World} (h : Drawn0 w W) : Fr S w W := by obtain ⟨n, rfl⟩ := h.out; exact fr_drewN S w n
theorem setCell_size (w : World) (p : Addr) (v : Value) : (w.setCell p v).heap.size = w.heap.size := by simp [World.setCell]
theorem add_zero_addr (ad : Addr) : ad.add 0 = ad := by
  unfold Addr.add
  split <;> simp_all
theorem half_lt {t : List Bool} (h : constP t = false) : 0 < t.length / 2 ∧ t.length / 2 < t.length := by
  have : 2 ≤ t.length := by
    match t, h with
    | [], h => simp [constP] at h
    | [x], h => simp [constP] at h
    | _ :: _ :: _, _ => simp
  omega
def VPost (w : World) (S : Nat → Prop) (b : Nat) (r : Int) (B : BS) (e : Ending) (w' : World) : Prop :=
  e = .returned (.int .i64 r) ∧ Bld w' (fun k => (S k ∨ w.heap.size ≤ k) ∧ k < w'.heap.size) b B ∧ Fr S w w'
set_option maxRecDepth 100000 in
set_option maxHeartbeats 4000000 in
theorem visit_const {S : Nat → Prop} (b : Nat) (B : BS) (A : Option Addr) (c : Nat) (t : List Bool) (v : Int) (w : World) (hB : Bld w S b B) (hr : Rd S w A t) (hc : t.length ≤ c) (hl : t.length < 140737488355328) (h0 : t ≠ []) (hk : constP t = true) :
    Calls Try.prog 128 #[.pointer (some ⟨b, 0, none⟩), .slice A t.length c, .int .i64 v] w (VPost w S b (if t.getD 0 false then 1 else 0) B) := by
  have hlen : 0 < t.length := List.length_pos_iff.2 h0
  have HC : ∀ W, Drawn0 w W → Calls Try.prog 138 #[.slice A t.length c] W fun e w' => e = .returned (.bool true) ∧ Drawn0 W w' := fun W hW => by
    have := constant_calls A c t W (hr _ (fr_drawn S hW)) hc hl
    rwa [hk] at this
  have hC0 := hr.now
  obtain ⟨ad, rfl, x0⟩ := Kd.at_bool hC0 0 (by omega) (by omega)
  have HB := Aside0.mk hB
  have HCs := Aside0.mk HC
  clear hB HC hr hC0 hk
  have hx : rdOf false t 0 = t.getD 0 false := rfl
  rw [hx] at x0
  have hz : (0 : Int) < t.length := by omega
  simp only [Int.toNat_zero, add_zero_addr] at x0
  cases hv : t.getD 0 false
  all_goals
    rw [hv] at x0
    have HV := Aside0.mk hv
    clear hv hx
    go_enter Try.func128, Try.ntmps128
    go_wp2_with (go_at_call 138; first | (refine (HCs.out _ (Drawn0.refl w)).mono ?_; rintro e w1 ⟨rfl, ⟨n, rfl⟩⟩) | (refine (HCs.out _ (dr1 w _)).mono ?_; rintro e w2 ⟨rfl, ⟨n2, rfl⟩⟩))
    go_ret
    exact ⟨rfl, (HB.out.drewN _).grow, fr_drewN S w _⟩
theorem visitP_mono : ∀ (k : Nat) (B : BS) (t : List Bool) (v r : Int) (B' : BS), visitP k B t v = some (r, B') → B.nodes.length ≤ B'.nodes.length ∧ B.ts.length ≤ B'.ts.length
  | 0, _, _, _, _, _, h => by simp [visitP] at h
  | k + 1, B, t, v, r, B', h => by
    unfold visitP at h
    split at h
    · cases h
    split at h
    · simp only [Option.some.injEq, Prod.mk.injEq] at h
      rw [← h.2]; exact ⟨Nat.le_refl _, Nat.le_refl _⟩
    split at h
    · exact visitP_mono k _ _ _ _ _ h
    split at h
    · simp only [Option.some.injEq, Prod.mk.injEq] at h
      rw [← h.2]; exact ⟨Nat.le_refl _, Nat.le_refl _⟩
    · obtain ⟨⟨p1, p2⟩, hp, h⟩ := Option.bind_eq_some_iff.1 h
      obtain ⟨⟨q1, q2⟩, hq, h⟩ := Option.bind_eq_some_iff.1 h
      have h1 := visitP_mono k _ _ _ _ _ hp
      have h2 := visitP_mono k _ _ _ _ _ hq
      simp only [Option.some.injEq, Prod.mk.injEq] at h
      rw [← h.2]
      simp only at h1 h2
      simp; omega
set_option maxRecDepth 100000 in
set_option maxHeartbeats 4000000 in
theorem visit_same {S : Nat → Prop} (b : Nat) (B : BS) (A : Option Addr) (c : Nat) (t : List Bool) (v : Int) (w : World) (R : Ending → World → Prop) (hB : Bld w S b B) (hr : Rd S w A t) (hc : t.length ≤ c) (hl : t.length < 140737488355328) (hk : constP t = false) (hv0 : 0 ≤ v) (hv1 : v < 1000000000000)
    (he : t.take (t.length / 2) = t.drop (t.length / 2))
    (IH : ∀ W, Drawn0 w W → Calls Try.prog 128 #[.pointer (some ⟨b, 0, none⟩), .slice A (t.take (t.length / 2)).length c, .int .i64 (v + 1)] W R)
    (hR : ∀ e w', R e w' → ∃ r, e = .returned (.int .i64 r)) :
    Calls Try.prog 128 #[.pointer (some ⟨b, 0, none⟩), .slice A t.length c, .int .i64 v] w R := by
  obtain ⟨hh0, hh1⟩ := half_lt hk
  have HC : ∀ W, Drawn0 w W → Calls Try.prog 138 #[.slice A t.length c] W fun e w' => e = .returned (.bool false) ∧ Drawn0 W w' := fun W hW => by
    have := constant_calls A c t W (hr _ (fr_drawn S hW)) hc hl
    rwa [hk] at this
  obtain ⟨ad, rfl, x0⟩ := Kd.at_bool hr.now 0 (by omega) (by omega)
  clear x0
  obtain ⟨h, hh⟩ : ∃ h, h = t.length / 2 := ⟨_, rfl⟩
  have hlt : (t.take (t.length / 2)).length = h := by rw [hh]; simp; omega
  have hld : (t.drop (t.length / 2)).length = t.length - h := by rw [hh]; simp
  have HE : ∀ W, Drawn0 w W → Calls Try.prog 139 #[.slice (some ad) h c, .slice (some (ad.add h)) (t.length - h) (c - h)] W fun e w' => e = .returned (.bool true) ∧ Drawn0 W w' := fun W hW => by
    have := equal_calls (some ad) c (t.take (t.length / 2)) (some (ad.add h)) (c - h) (t.drop (t.length / 2)) W ((hr.take _ (by omega)) _ (fr_drawn S hW)) (by omega) (by rw [hh]; exact (hr.drop (t.length / 2) c (by omega) (by omega) hc) _ (fr_drawn S hW)) (by omega) (by omega)
    rw [hlt, hld, decide_eq_true he] at this
    exact this
  rw [hlt] at IH
  have HCs := Aside0.mk HC
  have HEs := Aside0.mk HE
  have IHs := Aside0.mk IH
  have hq : ((t.length : Int) / 2) = (h : Int) := by omega
  have hch : (c = h) = False := by simp; omega
  have hh2 : h < t.length := by omega
  have hh3 : h ≤ c := by omega
  have hh4 : h ≤ t.length := by omega
  have HRs := Aside0.mk hR
  clear hB hr HC HE IH hk he hlt hld hh hh0 hh1 hR
  go_enter Try.func128, Try.ntmps128
  go_wp2_with (go_at_call 138; first | (refine (HCs.out _ (Drawn0.refl w)).mono ?_; rintro e w1 ⟨rfl, ⟨n, rfl⟩⟩) | (refine (HCs.out _ (dr1 w _)).mono ?_; rintro e w2 ⟨rfl, ⟨n2, rfl⟩⟩))
  obtain ⟨W1, hW1, hD1⟩ : ∃ W, W = w.drewN (n + n2) ∧ Aside0 (Drawn0 w W) := ⟨_, rfl, ⟨dr1 w _⟩⟩
  rw [← hW1]
  clear hW1
  go_quiet ((go_at_call 139; exact quiet_drawn (HEs.out _ (hD1.out.step _))))
  go_wp2_with (go_at_call 128; refine (IHs.out _ (hD1.out.step _)).mono ?_; intro e w4 h4; obtain ⟨r, rfl⟩ := HRs.out _ _ h4)
  exact h4
def VIH (b k : Nat) : Prop := ∀ (S : Nat → Prop) (B : BS) (A : Option Addr) (c : Nat) (t : List Bool) (v : Int) (w : World) (r : Int) (B' : BS), Bld w S b B → Rd S w A t → t.length ≤ c → t.length < 140737488355328 → 0 ≤ v → v + k < 1000000000000 → B'.nodes.length < 1000000000000 → B'.ts.length < 1000000000000 → visitP k B t v = some (r, B') →
  Calls Try.prog 128 #[.pointer (some ⟨b, 0, none⟩), .slice A t.length c, .int .i64 v] w (VPost w S b r B')
theorem idxOf_some {ts : List (List Bool)} {t : List Bool} {i : Nat} (h : idxOf ts t = some i) : i < ts.length ∧ ts[i]? = some t ∧ ∀ j, j < i → ts[j]? ≠ some t := by
  unfold idxOf at h
  rw [List.findIdx?_eq_some_iff_getElem] at h
  obtain ⟨h1, h2, h3⟩ := h
  refine ⟨h1, by simpa [h1] using h2, fun j hj => ?_⟩
  have := h3 j hj
  have hl : j < ts.length := by omega
  simpa [hl] using this
theorem idxOf_none {ts : List (List Bool)} {t : List Bool} (h : idxOf ts t = none) (j : Nat) : ts[j]? ≠ some t := by
  unfold idxOf at h
  rw [List.findIdx?_eq_none_iff] at h
  intro e
  have := h t (List.mem_of_getElem? e)
  simp at this
set_option maxRecDepth 100000 in
set_option maxHeartbeats 4000000 in
theorem visit_found {S : Nat → Prop} (b : Nat) (B : BS) (A : Option Addr) (c : Nat) (t : List Bool) (v : Int) (w : World) (i : Nat) (hB : Bld w S b B) (hr : Rd S w A t) (hc : t.length ≤ c) (hl : t.length < 140737488355328) (hk : constP t = false) (hbn : B.ts.length < 1000000000000)
    (he : t.take (t.length / 2) ≠ t.drop (t.length / 2)) (hidx : idxOf B.ts t = some i) :
    Calls Try.prog 128 #[.pointer (some ⟨b, 0, none⟩), .slice A t.length c, .int .i64 v] w (VPost w S b ((i : Int) + 2) B) := by
  obtain ⟨hh0, hh1⟩ := half_lt hk
  have HC : ∀ W, Drawn0 w W → Calls Try.prog 138 #[.slice A t.length c] W fun e w' => e = .returned (.bool false) ∧ Drawn0 W w' := fun W hW => by
    have := constant_calls A c t W (hr _ (fr_drawn S hW)) hc hl
    rwa [hk] at this
  obtain ⟨ad, rfl, x0⟩ := Kd.at_bool hr.now 0 (by omega) (by omega)
  clear x0
  obtain ⟨h, hh⟩ : ∃ h, h = t.length / 2 := ⟨_, rfl⟩
  have hlt : (t.take (t.length / 2)).length = h := by rw [hh]; simp; omega
  have hld : (t.drop (t.length / 2)).length = t.length - h := by rw [hh]; simp
  have HE : ∀ W, Drawn0 w W → Calls Try.prog 139 #[.slice (some ad) h c, .slice (some (ad.add h)) (t.length - h) (c - h)] W fun e w' => e = .returned (.bool false) ∧ Drawn0 W w' := fun W hW => by
    have := equal_calls (some ad) c (t.take (t.length / 2)) (some (ad.add h)) (c - h) (t.drop (t.length / 2)) W ((hr.take _ (by omega)) _ (fr_drawn S hW)) (by omega) (by rw [hh]; exact (hr.drop (t.length / 2) c (by omega) (by omega) hc) _ (fr_drawn S hW)) (by omega) (by omega)
    rw [hlt, hld, decide_eq_false he] at this
    exact this
  have HBG := Aside0.mk hB
  obtain ⟨vN, vT, ps, hb, sb, hN, hT, hR⟩ := hB
  obtain ⟨AT, cT, rfl, hcT, hCT⟩ := Kd.R_reads hT
  have hpl : ps.length = B.ts.length := hR.1
  have HG : ∀ W, Drawn0 w W → ∀ (j : Nat) (p : Option Addr × Nat × Nat) (q : List Bool), ps[j]? = some p → B.ts[j]? = some q → Calls Try.prog 139 #[.slice p.1 p.2.1 p.2.2, .slice (some ad) t.length c] W fun e w' => e = .returned (.bool (decide (q = t))) ∧ Drawn0 W w' := fun W hW j p q hp hq => by
    obtain ⟨g1, g2, g3, g4⟩ := hR.2 j p q hp hq
    have := equal_calls p.1 p.2.2 q (some ad) c t W (g4 _ (fr_drawn S hW)) g2 (hr _ (fr_drawn S hW)) hc g3
    rw [← g1] at this
    exact this
  obtain ⟨hi1, hi2, hi3⟩ := idxOf_some hidx
  have HCs := Aside0.mk HC
  have HEs := Aside0.mk HE
  have HGs := Aside0.mk HG
  have HCT := Aside0.mk hCT
  have HI2 := Aside0.mk hi2
  have HI3 := Aside0.mk hi3
  have hq : ((t.length : Int) / 2) = (h : Int) := by omega
  have hch : (c = h) = False := by simp; omega
  have hh2 : h < t.length := by omega
  have hh3 : h ≤ c := by omega
  have hh4 : h ≤ t.length := by omega
  have hc1 := (blk_cell hb 1).trans rfl
  rw [← hpl] at hi1 hbn
  have HPL := Aside0.mk hpl
  clear hr HC HE hk he hlt hld hh hh0 hh1 hN hT hR hb HG hi2 hi3 hidx hpl hCT
  go_enter Try.func128, Try.ntmps128
  go_wp2_with (go_at_call 138; first | (refine (HCs.out _ (Drawn0.refl w)).mono ?_; rintro e w1 ⟨rfl, ⟨n, rfl⟩⟩) | (refine (HCs.out _ (dr1 w _)).mono ?_; rintro e w2 ⟨rfl, ⟨n2, rfl⟩⟩))
  obtain ⟨W1, hW1, hD1⟩ : ∃ W, W = w.drewN (n + n2) ∧ Aside0 (Drawn0 w W) := ⟨_, rfl, ⟨dr1 w _⟩⟩
  replace hc1 : W1.cell? ⟨b, 1, none⟩ = some (.slice AT ps.length cT) := by rw [hW1]; exact hc1
  replace HCT : Aside0 (kSl.C W1 AT ps.length ps) := ⟨by rw [hW1]; exact HCT.out⟩
  rw [← hW1]
  clear hW1
  go_quiet ((go_at_call 139; exact quiet_drawn (HEs.out _ (hD1.out.step _))))
  go_wp2
  go_loopg [46] (ps.length) (fun kq v46 w' => ∃ (j : Nat) (m : Nat), v46 = .int .i64 j ∧ j ≤ i ∧ j + kq = ps.length ∧ w' = W1.drewN m)
  case atStart => exact ⟨0, _, rfl, Nat.zero_le _, by omega, rfl⟩
  case round =>
    obtain ⟨j, m, rfl, hji, hjk, rfl⟩ := hrel
    have hjlt : j < ps.length := by omega
    have hd : decide (j < ps.length) = true := decide_eq_true hjlt
    obtain ⟨ad2, cc, e2, hcl, hK2, hc2⟩ := Kd.C_get HCT.out (none, 0, 0) (j : Int) (by omega) (by omega)
    subst e2
    obtain ⟨p, hp⟩ : ∃ p, ps[j]? = some p := ⟨_, List.getElem?_eq_getElem hjlt⟩
    have hpj : ps.getD (j : Int).toNat (none, 0, 0) = p := by simp [hp]
    rw [hpj] at hK2
    obtain rfl : cc = [.slice p.1 p.2.1 p.2.2] := hK2
    have y := hc2 0 _ rfl
    have hz : kSl.sz = 1 := rfl
    simp only [hz, Int.toNat_natCast, Nat.mul_one, Nat.add_zero] at y
    have hjt : j < B.ts.length := by rw [← HPL.out]; exact hjlt
    obtain ⟨q, hq2⟩ : ∃ q, B.ts[j]? = some q := ⟨_, List.getElem?_eq_getElem hjt⟩
    have HP := Aside0.mk hp
    have HQ := Aside0.mk hq2
    clear hc2 hcl hpj hp hq2 hz
    by_cases hji2 : j = i
    · subst hji2
      have hqt : decide (q = t) = true := by
        have := HQ.out.symm.trans HI2.out
        simpa using this
      have HQT := Aside0.mk hqt
      clear hqt
      go_wp2_with (go_at_call 139; refine (HGs.out _ (hD1.out.step _) _ p q HP.out HQ.out).mono ?_; rw [HQT.out]; rintro e w5 ⟨rfl, ⟨m5, rfl⟩⟩)
      go_ret
      refine ⟨rfl, ?_, fr_drawn S (hD1.out.step _)⟩
      have h9 := (HBG.out.drawn (hD1.out.step (m + m5))).grow
      obtain ⟨n9, e9⟩ := (hD1.out.step (m + m5)).out
      rw [e9] at h9 ⊢
      exact h9
    · have hqt : decide (q = t) = false := by
        have := HI3.out j (by omega)
        rw [HQ.out] at this
        simpa using this
      have HQT := Aside0.mk hqt
      clear hqt
      go_wp2_with (go_at_call 139; refine (HGs.out _ (hD1.out.step _) _ p q HP.out HQ.out).mono ?_; rw [HQT.out]; rintro e w5 ⟨rfl, ⟨m5, rfl⟩⟩)
      go_roundg (gk - 1)
      case measure => omega
      case rel => exact ⟨j + 1, m + m5, by go_num, by omega, by omega, rfl⟩
set_option maxRecDepth 100000 in
set_option maxHeartbeats 4000000 in
theorem visit_new {S : Nat → Prop} (b k : Nat) (B B1 B2 : BS) (r1 r2 : Int) (A : Option Addr) (c : Nat) (t : List Bool) (v : Int) (w : World) (hB : Bld w S b B) (hr : Rd S w A t) (hc : t.length ≤ c) (hl : t.length < 140737488355328) (hk : constP t = false) (hbn : B.ts.length < 1000000000000)
    (he : t.take (t.length / 2) ≠ t.drop (t.length / 2)) (hidx : idxOf B.ts t = none)
    (hv0 : 0 ≤ v) (hvk : v + k + 1 < 1000000000000) (IH : VIH b k) (h1 : visitP k B (t.take (t.length / 2)) (v + 1) = some (r1, B1)) (h2 : visitP k B1 (t.drop (t.length / 2)) (v + 1) = some (r2, B2)) (hn2 : B2.nodes.length + 1 < 1000000000000) (ht2 : B2.ts.length + 1 < 1000000000000) :
    Calls Try.prog 128 #[.pointer (some ⟨b, 0, none⟩), .slice A t.length c, .int .i64 v] w (VPost w S b ((B2.nodes.length : Int) + 2) ⟨B2.nodes ++ [⟨v, r1, r2⟩], B2.ts ++ [t]⟩) := by
  obtain ⟨hh0, hh1⟩ := half_lt hk
  have HC : ∀ W, Drawn0 w W → Calls Try.prog 138 #[.slice A t.length c] W fun e w' => e = .returned (.bool false) ∧ Drawn0 W w' := fun W hW => by
    have := constant_calls A c t W (hr _ (fr_drawn S hW)) hc hl
    rwa [hk] at this
  obtain ⟨ad, rfl, x0⟩ := Kd.at_bool hr.now 0 (by omega) (by omega)
  clear x0
  obtain ⟨h, hh⟩ : ∃ h, h = t.length / 2 := ⟨_, rfl⟩
  have hlt : (t.take (t.length / 2)).length = h := by rw [hh]; simp; omega
  have hld : (t.drop (t.length / 2)).length = t.length - h := by rw [hh]; simp
  have HE : ∀ W, Drawn0 w W → Calls Try.prog 139 #[.slice (some ad) h c, .slice (some (ad.add h)) (t.length - h) (c - h)] W fun e w' => e = .returned (.bool false) ∧ Drawn0 W w' := fun W hW => by
    have := equal_calls (some ad) c (t.take (t.length / 2)) (some (ad.add h)) (c - h) (t.drop (t.length / 2)) W ((hr.take _ (by omega)) _ (fr_drawn S hW)) (by omega) (by rw [hh]; exact (hr.drop (t.length / 2) c (by omega) (by omega) hc) _ (fr_drawn S hW)) (by omega) (by omega)
    rw [hlt, hld, decide_eq_false he] at this
    exact this
  have HBG := Aside0.mk hB
  obtain ⟨vN, vT, ps, hb, sb, hN, hT, hR⟩ := id hB
  obtain ⟨AT, cT, rfl, hcT, hCT⟩ := Kd.R_reads hT
  have hpl : ps.length = B.ts.length := hR.1
  have HG : ∀ W, Drawn0 w W → ∀ (j : Nat) (p : Option Addr × Nat × Nat) (q : List Bool), ps[j]? = some p → B.ts[j]? = some q → Calls Try.prog 139 #[.slice p.1 p.2.1 p.2.2, .slice (some ad) t.length c] W fun e w' => e = .returned (.bool (decide (q = t))) ∧ Drawn0 W w' := fun W hW j p q hp hq => by
    obtain ⟨g1, g2, g3, g4⟩ := hR.2 j p q hp hq
    have := equal_calls p.1 p.2.2 q (some ad) c t W (g4 _ (fr_drawn S hW)) g2 (hr _ (fr_drawn S hW)) hc g3
    rw [← g1] at this
    exact this
  have m1 := visitP_mono _ _ _ _ _ _ h1
  have m2 := visitP_mono _ _ _ _ _ _ h2
  have HL1 := Aside0.mk hlt
  have HL2 := Aside0.mk hld
  have HHH := Aside0.mk hh
  have HC1 : Aside0 (∀ W, Drawn0 w W → Calls Try.prog 128 #[.pointer (some ⟨b, 0, none⟩), .slice (some ad) h c, .int .i64 (v + 1)] W (VPost W S b r1 B1)) := ⟨fun W hW => by
    have := IH S B (some ad) c (t.take (t.length / 2)) (v + 1) W r1 B1 (hB.drawn hW) ((hr.take _ (by omega)).next (fr_drawn S hW) (fun k hk => .inl hk)) (by omega) (by omega) (by omega) (by omega) (by omega) (by omega) h1
    rwa [hlt] at this⟩
  have HC2 : Aside0 (∀ (S1 : Nat → Prop) (W : World), Bld W S1 b B1 → Fr S w W → (∀ k, S1 k → S k ∨ w.heap.size ≤ k) → Calls Try.prog 128 #[.pointer (some ⟨b, 0, none⟩), .slice (some (ad.add h)) (t.length - h) (c - h), .int .i64 (v + 1)] W (VPost W S1 b r2 B2)) := ⟨fun S1 W hB1 hF hS1 => by
    have := IH S1 B1 (some (ad.add h)) (c - h) (t.drop (t.length / 2)) (v + 1) W r2 B2 hB1 ((by rw [hh]; exact (hr.drop (t.length / 2) c (by omega) (by omega) hc) : Rd S w (some (ad.add h)) (t.drop (t.length / 2))).next hF hS1) (by omega) (by omega) (by omega) (by omega) (by omega) (by omega) h2
    rwa [hld] at this⟩
  have HRT : Aside0 (Rd S w (some ad) t) := ⟨hr⟩
  have HCs := Aside0.mk HC
  have HEs := Aside0.mk HE
  have HGs := Aside0.mk HG
  have HCT := Aside0.mk hCT
  have HI3 := Aside0.mk (idxOf_none hidx)
  have hq : ((t.length : Int) / 2) = (h : Int) := by omega
  have hch : (c = h) = False := by simp; omega
  have hh2 : h < t.length := by omega
  have hh3 : h ≤ c := by omega
  have hh4 : h ≤ t.length := by omega
  have hc1 := (blk_cell hb 1).trans rfl
  rw [← hpl] at hbn
  have HPL := Aside0.mk hpl
  clear hr HC HE hk he hlt hld hh hh0 hh1 hN hT hR hb HG hidx hpl hCT hB h1 h2 IH m1 m2
  go_enter Try.func128, Try.ntmps128
  go_wp2_with (go_at_call 138; first | (refine (HCs.out _ (Drawn0.refl w)).mono ?_; rintro e w1 ⟨rfl, ⟨n, rfl⟩⟩) | (refine (HCs.out _ (dr1 w _)).mono ?_; rintro e w2 ⟨rfl, ⟨n2, rfl⟩⟩))
  obtain ⟨W1, hW1, hD1⟩ : ∃ W, W = w.drewN (n + n2) ∧ Aside0 (Drawn0 w W) := ⟨_, rfl, ⟨dr1 w _⟩⟩
  replace hc1 : W1.cell? ⟨b, 1, none⟩ = some (.slice AT ps.length cT) := by rw [hW1]; exact hc1
  replace HCT : Aside0 (kSl.C W1 AT ps.length ps) := ⟨by rw [hW1]; exact HCT.out⟩
  rw [← hW1]
  clear hW1
  go_quiet ((go_at_call 139; exact quiet_drawn (HEs.out _ (hD1.out.step _))))
  go_wp2
  go_loopg [46] (ps.length) (fun kq v46 w' => ∃ (j : Nat) (m : Nat), v46 = .int .i64 j ∧ j + kq = ps.length ∧ w' = W1.drewN m)
  case atStart => exact ⟨0, _, rfl, by omega, rfl⟩
  case round =>
    obtain ⟨j, m, rfl, hjk, rfl⟩ := hrel
    by_cases hjlt : j < ps.length
    · have hd : decide (j < ps.length) = true := decide_eq_true hjlt
      obtain ⟨ad2, cc, e2, hcl, hK2, hc2⟩ := Kd.C_get HCT.out (none, 0, 0) (j : Int) (by omega) (by omega)
      subst e2
      obtain ⟨p, hp⟩ : ∃ p, ps[j]? = some p := ⟨_, List.getElem?_eq_getElem hjlt⟩
      have hpj : ps.getD (j : Int).toNat (none, 0, 0) = p := by simp [hp]
      rw [hpj] at hK2
      obtain rfl : cc = [.slice p.1 p.2.1 p.2.2] := hK2
      have y := hc2 0 _ rfl
      have hz : kSl.sz = 1 := rfl
      simp only [hz, Int.toNat_natCast, Nat.mul_one, Nat.add_zero] at y
      have hjt : j < B.ts.length := by rw [← HPL.out]; exact hjlt
      obtain ⟨q, hq2⟩ : ∃ q, B.ts[j]? = some q := ⟨_, List.getElem?_eq_getElem hjt⟩
      have HP := Aside0.mk hp
      have HQ := Aside0.mk hq2
      clear hc2 hcl hpj hp hq2 hz
      have hqt : decide (q = t) = false := by
        have := HI3.out j
        rw [HQ.out] at this
        simpa using this
      have HQT := Aside0.mk hqt
      clear hqt
      go_wp2_with (go_at_call 139; refine (HGs.out _ (hD1.out.step _) _ p q HP.out HQ.out).mono ?_; rw [HQT.out]; rintro e w5 ⟨rfl, ⟨m5, rfl⟩⟩)
      go_roundg (gk - 1)
      case measure => omega
      case rel => exact ⟨j + 1, m + m5, by go_num, by omega, rfl⟩
    · have hd : decide (j < ps.length) = false := decide_eq_false hjlt
      obtain ⟨W2, hW2, hD2⟩ : ∃ W, W = W1.drewN m ∧ Aside0 (Drawn0 w W) := ⟨_, rfl, ⟨hD1.out.step _⟩⟩
      rw [← hW2]
      clear hW2 hc1 HCT HGs HEs HCs hjk hbn hD1
      have hv2 : v < 1000000000000 := by omega
      go_wp2_with fail
      refine (HC1.out _ hD2.out).mono ?_
      intro e w3 hv3
      obtain ⟨rfl, hB3, hF3⟩ := hv3
      replace hF3 : Fr S w w3 := (fr_drawn S hD2.out).then_ hF3 (fun i h => .inl h)
      have hS3 : ∀ k, ((S k ∨ W2.heap.size ≤ k) ∧ k < w3.heap.size) → S k ∨ w.heap.size ≤ k := fun k h => h.1.imp id (Nat.le_trans (fr_drawn S hD2.out).size)
      have HC3 := Aside0.mk (HC2.out _ w3 hB3 hF3 hS3)
      replace hF3 := Aside0.mk hF3
      replace hS3 := Aside0.mk hS3
      clear hB3 HC2 HC1
      go_wp2_with fail
      refine HC3.out.mono ?_
      intro e w4 hv4
      obtain ⟨rfl, hB4, hF4⟩ := hv4
      replace hF4 : Fr S w w4 := hF3.out.then_ hF4 hS3.out
      have hws : W2.heap.size = w.heap.size := by obtain ⟨n, e⟩ := hD2.out.out; rw [e]; rfl
      have hB4' : Bld w4 (fun k => (S k ∨ w.heap.size ≤ k) ∧ k < w4.heap.size) b B2 := hB4.mono' (fun k hk => ⟨hk.1.elim (fun h => hS3.out k h) (fun h => .inr (Nat.le_trans hF3.out.size h)), hk.2⟩) (fun k hk => by
        by_cases h3 : k < w3.heap.size
        · exact .inl ⟨.inl ⟨hk.1.imp id (fun h => by rw [hws]; exact h), h3⟩, hk.2⟩
        · exact .inl ⟨.inr (by omega), hk.2⟩)
      have HF4 := Aside0.mk hF4
      clear hB4 hF4 HC3 HBG HI3 HPL hws
      obtain ⟨vN, vT, ps4, hb4, sb4, hN4, hT4, hR4⟩ := hB4'
      obtain ⟨AN4, cN4, rfl, hcN4, _⟩ := Kd.R_reads hN4
      obtain ⟨AT4, cT4, rfl, hcT4, _⟩ := Kd.R_reads hT4
      have c4 := (blk_cell hb4 0).trans rfl
      have HB4 := Aside0.mk hb4
      have HN4 := Aside0.mk (Kd.R_mono hN4 (fun k hk => hk.1))
      have HT4 := Aside0.mk hT4
      have HR4 := Aside0.mk hR4
      have HS4 := Aside0.mk sb4
      have hal : (B2.nodes.length + 1) * 24 ≤ 140737488355328 := by omega
      have HAL := Aside0.mk hal
      have hsz4 := Aside0.mk HF4.out.size
      have hpl4 := hR4.1
      have HAL2 : Aside0 ((ps4.length + 1) * 24 ≤ 140737488355328) := ⟨by rw [hpl4]; omega⟩
      clear hb4 hN4 hT4 hR4 sb4 hal hpl4
      go_wp2_with (first | (at_builtin; refine Kd.R_append k106 (w0 := w4) (W := w4) 0 rfl (.tmp 75) (.tmp 80) 31 106 _ 24 rfl Try.underlying31 info106 rfl (by decide) (by decide) (.slice AN4 B2.nodes.length cN4) B2.nodes ⟨v, r1, r2⟩ [.int .i64 v, .int .i64 r1, .int .i64 r2] (fun k => S k ∨ w.heap.size ≤ k) (fun _ => False) rfl rfl (k106_mkM _ _ _ ⟨v, r1, r2⟩) (fun k hk => hk.elim) (fun k hk => .inr (Nat.le_trans hsz4.out hk)) HN4.out (Below.refl 0 _) (Nat.zero_le _) HAL.out ?_; intro v5 w5 hR5 hB5 hg5 hat5; obtain ⟨A5, c5, rfl, hc5, hC5'⟩ := Kd.R_reads hR5; have hb5 := blk_grown HB4.out hg5 (Kd.R_ne HN4.out HB4.out (by decide)); have d5 := (blk_cell hb5 0).trans rfl; have d6 := (blk_cell hb5 1).trans rfl; have f5 := blk_frozen hb5 0; have f6 := blk_frozen hb5 1; have HB5 := Aside0.mk hb5; have HT6 := Aside0.mk (Kd.R_set (Kd.R_grown (Kd.R_apart' (Kd.R_mono HT4.out (fun k hk => hk.1)) (Kd.R_typed HN4.out) (by decide)) hg5 (fun k hk => hk.2)) hb5 (by decide) 0 (.slice A5 (B2.nodes.length + 1) c5)); clear hb5) | (at_builtin; refine Kd.R_append kSl (w0 := w5.setCell ⟨b, 0, none⟩ (.slice A5 (B2.nodes.length + 1) c5)) (W := w5.setCell ⟨b, 0, none⟩ (.slice A5 (B2.nodes.length + 1) c5)) 0 rfl (.tmp 88) (.tmp 90) 152 47 _ 24 rfl Try.underlying152 info47 rfl (by decide) (by decide) (.slice AT4 ps4.length cT4) ps4 (some ad, t.length, c) [.slice (some ad) t.length c] (fun k => S k ∨ w.heap.size ≤ k) (fun _ => False) rfl (by rw [setCell_size]; rfl) rfl (fun k hk => hk.elim) ?_ (Kd.R_mono HT6.out (fun k hk => hk.1)) (Below.refl 0 _) (Nat.zero_le _) HAL2.out ?_; (exact fun k hk => .inr (Nat.le_trans hsz4.out (Nat.le_trans hg5.size (by simpa [World.setCell] using hk)))); intro v7 w7 hR7 hB7 hg7 hat7; obtain ⟨A7, c7, rfl, hc7, hC7'⟩ := Kd.R_reads hR7; have hb6 : (w5.setCell ⟨b, 0, none⟩ (.slice A5 (B2.nodes.length + 1) c5)).heap[b]? = some (.cells #[.slice A5 (B2.nodes.length + 1) c5, .slice AT4 ps4.length cT4] 154 (0, 0)) := (by simpa using blk_set HB5.out 0 (.slice A5 (B2.nodes.length + 1) c5)); have hb7 := blk_grown hb6 hg7 (Kd.R_ne HT6.out hb6 (by decide)); have d7 := (blk_cell hb7 0).trans rfl; have d8 := (blk_cell hb7 1).trans rfl; have f8 := blk_frozen hb7 1; have HB6 := Aside0.mk hb6; have HB7 := Aside0.mk hb7; clear hb6 hb7))
      go_ret
      have hl5 : (B2.nodes ++ [(⟨v, r1, r2⟩ : S106)]).length = B2.nodes.length + 1 := by simp
      have hl7 : (ps4 ++ [(some ad, t.length, c)]).length = ps4.length + 1 := by simp
      rw [hl5] at hR5
      rw [hl7] at hR7
      have g7 : (w7.setCell ⟨b, 1, none⟩ (.slice A7 (ps4.length + 1) c7)).heap[b]? = some (.cells #[.slice A5 (B2.nodes.length + 1) c5, .slice A7 (ps4.length + 1) c7] 154 (0, 0)) := by simpa using blk_set HB7.out 1 (.slice A7 (ps4.length + 1) c7)
      have F5 : Fr S w w5 := HF4.out.then_ (S2 := fun k => S k ∨ w.heap.size ≤ k) (Fr.of_grown hg5 (fun k hk => HN4.out.1 k hk)) (fun i h => h)
      have F6 : Fr S w (w5.setCell ⟨b, 0, none⟩ (.slice A5 (B2.nodes.length + 1) c5)) := F5.then_ (S2 := S) (Fr.setCell _ _ _ _ sb) (fun i h => .inl h)
      have F7 : Fr S w w7 := F6.then_ (S2 := fun k => (Value.slice AT4 ps4.length cT4).ownBlock = some k) (Fr.of_grown hg7 (fun k hk => hk)) (fun i h => (HT4.out.1 i h).1)
      have F8 : Fr S w (w7.setCell ⟨b, 1, none⟩ (.slice A7 (ps4.length + 1) c7)) := F7.then_ (S2 := S) (Fr.setCell _ _ _ _ sb) (fun i h => .inl h)
      have K5 : Fr (fun k => (S k ∨ w.heap.size ≤ k) ∧ k < w4.heap.size) w4 w5 := Fr.of_grown hg5 (fun k hk => ⟨HN4.out.1 k hk, ((Kd.R_bound HN4.out).1 k hk).2.2.1⟩)
      have N6 := Kd.R_set hR5 HB5.out (by decide) 0 (.slice A5 (B2.nodes.length + 1) c5)
      have N7 := Kd.R_grown (Kd.R_apart' N6 (Kd.R_typed HT6.out) (by decide)) hg7 (fun k hk => hk.2)
      have N8 := Kd.R_set N7 HB7.out (by decide) 1 (.slice A7 (ps4.length + 1) c7)
      have T8 := Kd.R_set hR7 HB7.out (by decide) 1 (.slice A7 (ps4.length + 1) c7)
      refine ⟨by simp; omega, ?_, F8⟩
      refine ⟨_, _, _, g7, ?_, Kd.R_mono (Kd.R_bound N8) (fun k hk => ⟨hk.1.1, hk.2.2.1⟩), Kd.R_mono (Kd.R_bound T8) (fun k hk => ⟨hk.1, hk.2.2.1⟩), ?_⟩
      · exact ⟨.inl sb, blk_lt g7⟩
      · have hb4' : b < w4.heap.size := blk_lt HB4.out
        have K6 := K5.then_ (S2 := fun k => (S k ∨ w.heap.size ≤ k) ∧ k < w4.heap.size) (Fr.setCell _ w5 ⟨b, 0, none⟩ (.slice A5 (B2.nodes.length + 1) c5) ⟨.inl sb, hb4'⟩) (fun i h => .inl h)
        have K7 := K6.then_ (S2 := fun k => (Value.slice AT4 ps4.length cT4).ownBlock = some k) (Fr.of_grown hg7 (fun k hk => hk)) (fun i h => .inl (HT4.out.1 i h))
        have K8 := K7.then_ (S2 := fun k => (S k ∨ w.heap.size ≤ k) ∧ k < w4.heap.size) (Fr.setCell _ w7 ⟨b, 1, none⟩ (.slice A7 (ps4.length + 1) c7) ⟨.inl sb, hb4'⟩) (fun i h => .inl h)
        exact (HR4.out.next K8 (fun k hk => by
          by_cases h4 : k < w4.heap.size
          · exact .inl ⟨hk.1, h4⟩
          · exact .inr (by omega))).snoc hc hl (HRT.out.next F8 (fun k hk => hk.1))
end Go.Proofs.Ytlplphgoldkoeaa.HTab
end

section
set_option linter.unusedVariables false
set_option linter.unusedSimpArgs false
namespace Go.Proofs.Ytlplphgoldkoeaa.HTab
open Go.RowKit Go.Proofs.YtlplphgoldkoeaaW.PrintWords Go.Proofs.YtlplphgoldkoeaaW.PrintLast Go.Proofs.YtlplphgoldkoeaaW.PrintMore Go.Proofs.Ytlplphgoldkoeaa.HMap Go.Proofs.Ytlplphgoldkoeaa.X
set_option linter.unusedVariables false
set_option linter.unusedSimpArgs false
theorem visit_calls (b : Nat) : ∀ k, VIH b k
  | 0 => by
    intro S B A c t v w r B' _ _ _ _ _ _ _ _ h
    simp [visitP] at h
  | k + 1 => by
    have IH := visit_calls b k
    intro S B A c t v w r B' hB hr hc hl hv0 hvk hn ht h
    unfold visitP at h
    split at h
    · cases h
    rename_i h0
    split at h
    · rename_i hk
      simp only [Option.some.injEq, Prod.mk.injEq] at h
      obtain ⟨rfl, rfl⟩ := h
      exact visit_const b B A c t v w hB hr hc hl h0 hk
    rename_i hk
    have hk' : constP t = false := by simpa using hk
    obtain ⟨hh0, hh1⟩ := half_lt hk'
    split at h
    · rename_i he
      refine visit_same b B A c t v w _ hB hr hc hl hk' hv0 (by omega) he (fun W hW => ?_) (fun e w' h => ⟨_, h.1⟩)
      refine (IH S B A c _ (v + 1) W r B' (hB.drawn hW) ((hr.take _ (by omega)).next (fr_drawn S hW) (fun k hk => .inl hk)) (by simp; omega) (by simp; omega) (by omega) (by omega) hn ht h).mono ?_
      intro e w' hp
      obtain ⟨n, rfl⟩ := hW.out
      exact ⟨hp.1, hp.2.1, (fr_drewN S w n).then_ hp.2.2 (fun i h => .inl h)⟩
    rename_i he
    split at h
    · rename_i i hidx
      simp only [Option.some.injEq, Prod.mk.injEq] at h
      obtain ⟨rfl, rfl⟩ := h
      exact visit_found b B A c t v w i hB hr hc hl hk' ht he hidx
    · rename_i hidx
      obtain ⟨⟨r1, B1⟩, h1, h⟩ := Option.bind_eq_some_iff.1 h
      obtain ⟨⟨r2, B2⟩, h2, h⟩ := Option.bind_eq_some_iff.1 h
      simp only [Option.some.injEq, Prod.mk.injEq] at h
      obtain ⟨rfl, rfl⟩ := h
      have m1 := visitP_mono _ _ _ _ _ _ h1
      have m2 := visitP_mono _ _ _ _ _ _ h2
      simp only [List.length_append, List.length_singleton] at hn ht
      exact visit_new b k B B1 B2 r1 r2 A c t v w hB hr hc hl hk' (by simp only at m1 m2; omega) he hidx hv0 (by omega) IH h1 h2 hn ht
theorem visitP_len : ∀ (k : Nat) (B : BS) (t : List Bool) (v r : Int) (B' : BS), visitP k B t v = some (r, B') → B'.nodes.length + 1 ≤ B.nodes.length + t.length ∧ B'.ts.length + 1 ≤ B.ts.length + t.length
  | 0, _, _, _, _, _, h => by simp [visitP] at h
  | k + 1, B, t, v, r, B', h => by
    unfold visitP at h
    split at h
    · cases h
    rename_i h0
    have hp : 0 < t.length := List.length_pos_iff.2 h0
    split at h
    · simp only [Option.some.injEq, Prod.mk.injEq] at h
      rw [← h.2]; omega
    rename_i hk
    obtain ⟨hh0, hh1⟩ := half_lt (by simpa using hk)
    split at h
    · have := visitP_len k _ _ _ _ _ h
      simp only [List.length_take] at this
      omega
    split at h
    · simp only [Option.some.injEq, Prod.mk.injEq] at h
      rw [← h.2]; omega
    · obtain ⟨⟨p1, p2⟩, hp, h⟩ := Option.bind_eq_some_iff.1 h
      obtain ⟨⟨q1, q2⟩, hq, h⟩ := Option.bind_eq_some_iff.1 h
      have h1 := visitP_len k _ _ _ _ _ hp
      have h2 := visitP_len k _ _ _ _ _ hq
      simp only [Option.some.injEq, Prod.mk.injEq] at h
      rw [← h.2]
      simp only [List.length_take, List.length_drop] at h1 h2
      simp; omega
theorem R_raise {α : Type} {d : Kd α} {e : Nat} {w : World} {base : Nat} {ok : Nat → Prop} {v : Value} {xs : List α} (hM : ∀ (w : World) ok ok' x cs, d.M w 0 ok x cs → d.M w base ok' x cs) (h : d.R e w 0 ok v xs) (hb : ∀ k, ok k → base ≤ k) : d.R e w base (fun _ => True) v xs := by
  obtain ⟨h0, inner, ho, hr⟩ := h
  refine ⟨fun _ _ => trivial, inner, ?_, hr.imp_ (fun _ _ hp => hM _ _ _ _ _ hp)⟩
  obtain ⟨h1, h2⟩ := ho
  refine ⟨h1, ?_⟩
  rcases h2 with h2 | ⟨g, cap, cur, rfl, hg, hh, r⟩
  · exact .inl h2
  · exact .inr ⟨g, cap, cur, rfl, hb g (h0 g (by simp [Value.ownBlock])), hh, r⟩
def ofP (t : List Bool) : Option (Int × BS) := visitP 64 ⟨[], []⟩ t 0
end Go.Proofs.Ytlplphgoldkoeaa.HTab
namespace Go.Proofs.Ytlplphgoldkoeaa.X
open Go.RowKit Go.Proofs.YtlplphgoldkoeaaW.PrintWords Go.Proofs.YtlplphgoldkoeaaW.PrintLast Go.Proofs.YtlplphgoldkoeaaW.PrintMore Go.Proofs.Ytlplphgoldkoeaa.HTab
def cantingref02_Of.f (a0 : Int) (l1 : List Bool) : Option (Int × List S106 × Int) := if l1.length ≤ 8192 then (ofP l1).map fun p => (a0, p.2.nodes, p.1) else none
set_option maxRecDepth 100000 in
set_option maxHeartbeats 4000000 in
theorem cantingref02_Of.calls (a0 : Int) (A1 : Option Addr) (c1 : Nat) (l1 : List Bool) (r1 : Int) (r2 : List (S106)) (r3 : Int) (w : World) (hr1 : Kd.C Kd.bool w A1 l1.length l1) (hc1 : l1.length ≤ c1) (h : cantingref02_Of.f a0 l1 = some (r1, r2, r3)) :
    Calls Try.prog 87 #[.int .i64 a0, .slice A1 l1.length c1] w fun e w' => ∃ v2_ : Value, e = .returned (.agg #[.int .i64 r1, v2_, .int .i64 r3]) ∧ Kd.R k106 106 w' w.heap.size (fun _ => True) v2_ r2 ∧ Below w.heap.size w w' := by
  unfold cantingref02_Of.f at h
  split at h
  case isFalse => cases h
  rename_i hl
  obtain ⟨⟨root, B'⟩, hp, he⟩ := Option.map_eq_some_iff.1 h
  simp only [Prod.mk.injEq] at he
  obtain ⟨rfl, rfl, rfl⟩ := he
  have hlen := visitP_len _ _ _ _ _ _ hp
  simp only [List.length_nil] at hlen
  obtain ⟨g0, hg0⟩ : ∃ g, g = w.heap.size := ⟨_, rfl⟩
  obtain ⟨w2, hw2⟩ : ∃ w2, w2 = (w.alloc (.cells #[.int .i64 0, .slice none 0 0, .int .i64 0] 33)).alloc (.cells #[.slice none 0 0, .slice none 0 0] 154) := ⟨_, rfl⟩
  have hbel : Below w.heap.size w w2 := by rw [hw2]; apply below_alloc; apply below_alloc; exact Below.refl _ _
  have hres : w2.heap[w.heap.size]? = some (.cells #[.int .i64 0, .slice none 0 0, .int .i64 0] 33 (0, 0)) := by rw [hw2]; exact blk_alloc (blk_new _ _) _
  have hbld : w2.heap[w.heap.size + 1]? = some (.cells #[.slice none 0 0, .slice none 0 0] 154 (0, 0)) := by rw [hw2]; simpa using blk_new (w.alloc (.cells #[.int .i64 0, .slice none 0 0, .int .i64 0] 33)) (.cells #[.slice none 0 0, .slice none 0 0] 154)
  have hB : Bld w2 (fun k => k = w.heap.size + 1) (w.heap.size + 1) ⟨[], []⟩ := ⟨_, _, [], hbld, rfl, Kd.R_nil _ _ _ _ _, Kd.R_nil _ _ _ _ _, rfl, fun i p t hp => by simp at hp⟩
  have hrd : Rd (fun k => k = w.heap.size + 1) w2 A1 l1 := fun W hW => Kd.C_below hr1 ⟨hW.os.trans hbel.os, hW.tape.trans hbel.tape, hW.output.trans hbel.output, Nat.le_trans hbel.size hW.size, fun i hi => (hW.block i (Nat.lt_of_lt_of_le hi hbel.size) (fun e => by omega)).trans (hbel.block i hi)⟩
  have HV := Aside0.mk (visit_calls (w.heap.size + 1) 64 (fun k => k = w.heap.size + 1) ⟨[], []⟩ A1 c1 l1 0 w2 root B' hB hrd hc1 (by omega) (by omega) (by omega) (by omega) (by omega) hp)
  have HR := Aside0.mk hres
  have HBL := Aside0.mk hbel
  have hsz2 : w2.heap.size = w.heap.size + 2 := by rw [hw2]; simp
  have HSZ := Aside0.mk hsz2
  clear hB hrd hbld hres hbel h hp hlen hr1 hg0 hsz2 hl
  go_enter Try.func87, Try.ntmps87
  go_wp2_with fail
  rw [← hw2]
  clear hw2
  refine HV.out.mono ?_
  intro e w3 hv
  obtain ⟨rfl, ⟨vN, vT, ps, hb3, sb3, hN3, hT3, hR3⟩, hF3⟩ := hv
  obtain ⟨AN, cN, rfl, hcN, _⟩ := Kd.R_reads hN3
  have c0 := (blk_cell hb3 0).trans rfl
  have hr3 : w3.heap[w.heap.size]? = some (.cells #[.int .i64 0, .slice none 0 0, .int .i64 0] 33 (0, 0)) := (hF3.block w.heap.size (blk_lt HR.out) (fun e => by omega)).trans HR.out
  have d0 := (blk_cell hr3 0).trans rfl
  have d1 := (blk_cell hr3 1).trans rfl
  have d2 := (blk_cell hr3 2).trans rfl
  have f0 := blk_frozen hr3 0
  have f1 := blk_frozen hr3 1
  have f2 := blk_frozen hr3 2
  have HR3 := Aside0.mk hr3
  have HF3 := Aside0.mk hF3
  have HN3 := Aside0.mk hN3
  have hu := Try.underlying33
  clear hb3 sb3 hN3 hT3 hR3 hF3 hr3
  go_wp2
  have hb4 : (((w3.setCell ⟨w.heap.size, 0, none⟩ (.int .i64 a0)).setCell ⟨w.heap.size, 1, none⟩ (.slice AN B'.nodes.length cN)).setCell ⟨w.heap.size, 2, none⟩ (.int .i64 root)).heap[w.heap.size]? = some (.cells #[.int .i64 a0, .slice AN B'.nodes.length cN, .int .i64 root] 33 (0, 0)) :=
    blk_put (cs := #[.int .i64 a0, .slice AN B'.nodes.length cN, .int .i64 0]) (blk_put (cs := #[.int .i64 a0, .slice none 0 0, .int .i64 0]) (blk_put (cs := #[.int .i64 0, .slice none 0 0, .int .i64 0]) HR3.out 0 _ rfl) 1 _ rfl) 2 _ rfl
  refine bodyPost_ret (results_cell_row rfl _ _ w.heap.size 33 #[.int .i64 a0, .slice AN B'.nodes.length cN, .int .i64 root] (0, 0) _ rfl hb4 Try.underlying33 rfl (by kernel_rfl)) rfl ?_
  have hsz := HSZ.out
  refine ⟨_, rfl, ?_, ?_⟩
  · have hN : k106.R 106 w3 w.heap.size (fun _ => True) (.slice AN B'.nodes.length cN) B'.nodes :=
      R_raise (fun w ok ok' x cs hm => by rw [k106_openM hm]; exact k106_mkM _ _ _ _) HN3.out (fun k hk => hk.1.elim (fun h => by omega) (fun h => by omega))
    exact Kd.R_mono (Kd.R_far (p := ⟨w.heap.size, 2, none⟩) (Kd.R_far (p := ⟨w.heap.size, 1, none⟩) (Kd.R_far (p := ⟨w.heap.size, 0, none⟩) (Kd.R_types hN HR3.out (by decide)) (fun _ hk => hk.2) _) (fun _ hk => hk.2) _) (fun _ hk => hk.2) _) (fun _ _ => trivial)
  · have h3 : Below w.heap.size w w3 := ⟨HF3.out.os.trans HBL.out.os, HF3.out.tape.trans HBL.out.tape, HF3.out.output.trans HBL.out.output, Nat.le_trans HBL.out.size HF3.out.size, fun i hi => (HF3.out.block i (Nat.lt_of_lt_of_le hi HBL.out.size) (fun e => by omega)).trans (HBL.out.block i hi)⟩
    exact below_set (below_set (below_set h3 (Nat.le_refl _)) (Nat.le_refl _)) (Nat.le_refl _)
end Go.Proofs.Ytlplphgoldkoeaa.X
end
