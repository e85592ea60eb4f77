/- Lemmas of the masks: part Bzm. -/
import Derived.Test.YtlplphgoldkoeaaBc
import Derived.Test.YtlplphgoldkoeaaBk
import Derived.Test.YtlplphgoldkoeaaBzh
import Derived.Test.YtlplphgoldkoeaaBzb
import Derived.Test.YtlplphgoldkoeaaBpa
import Derived.Test.YtlplphgoldkoeaaBx
import Derived.Test.YtlplphgoldkoeaaBj
import Derived.Test.YtlplphgoldkoeaaBn
section
set_option linter.unusedVariables false
set_option linter.unusedSimpArgs false
namespace Go.Proofs.Ytlplphgoldkoeaa.X
open Go.RowKit Go.Proofs.YtlplphgoldkoeaaW.PrintWords Go.Proofs.YtlplphgoldkoeaaW.PrintLast Go.Proofs.YtlplphgoldkoeaaW.PrintMore
attribute [local go_sem] max2_int min2_int max_two min_two max_three min_three max_four min_four   -- for this text's walks alone
set_option linter.unusedVariables false
set_option linter.unusedSimpArgs false
def cantinglaw02_inside.l0 : Nat → Int → Int → List Int → Int → Int → Option (Bool)
  | 0, _, _, _, _, _ => none
  | k + 1, x0, x1, x9, x10, x11 => if x11 < x10 then (if 0 ≤ x11 then (if x11 < (x9.length : Int) then (if (rd x9 x11) = 2 then (cantinglaw02_inside.l0 k x0 x1 x9 x10 (wrap64 (x11 + 1))) else ((cantingref02_Bit.f x0 x1 x11).bind fun t1280 => (if (((rd x9 x11) == 1) != t1280) = true then (some false) else (cantinglaw02_inside.l0 k x0 x1 x9 x10 (wrap64 (x11 + 1)))))) else (none)) else (none)) else (some true)
def cantinglaw02_inside.f (k : Nat) (a0 : Int) (a1 : Int) (l2 : List Int) : Option (Bool) := cantinglaw02_inside.l0 k a0 a1 l2 (l2.length : Int) 0
theorem cantinglaw02_inside.mono_l : ∀ k, (∀ y0 y1 y2 y3 y4, LeO (cantinglaw02_inside.l0 k y0 y1 y2 y3 y4) (cantinglaw02_inside.l0 (k + 1) y0 y1 y2 y3 y4))
  | 0 => fun _ _ _ _ _ r h => by simp [cantinglaw02_inside.l0] at h
  | k + 1 => by
    have ih0 := cantinglaw02_inside.mono_l k
    · intro y0 y1 y2 y3 y4
      unfold cantinglaw02_inside.l0
      repeat' first
      | (with_reducible exact ih0 _ _ _ _ _)
      | (with_reducible exact LeO.refl _)
      | (with_reducible exact LeO.none _)
      | (with_reducible refine LeO.ite ?_ ?_)
      | (with_reducible refine LeO.bind ?_ (fun _ => ?_))
      | exact ih0 _ _ _ _ _
      | exact LeO.none _
      | refine LeO.ite ?_ ?_
      | refine LeO.bind ?_ (fun _ => ?_)
theorem cantinglaw02_inside.mono : ∀ a0 a1 a2 k, LeO (cantinglaw02_inside.f k a0 a1 a2) (cantinglaw02_inside.f (k + 1) a0 a1 a2) := by
  intro a0 a1 a2 k
  have ih0 := cantinglaw02_inside.mono_l k
  unfold cantinglaw02_inside.f
  repeat' first
      | (with_reducible exact ih0 _ _ _ _ _)
      | (with_reducible exact LeO.refl _)
      | (with_reducible exact LeO.none _)
      | (with_reducible refine LeO.ite ?_ ?_)
      | (with_reducible refine LeO.bind ?_ (fun _ => ?_))
      | exact ih0 _ _ _ _ _
      | exact LeO.none _
      | refine LeO.ite ?_ ?_
      | refine LeO.bind ?_ (fun _ => ?_)
set_option maxHeartbeats 8000000 in
set_option maxRecDepth 100000 in
theorem cantinglaw02_inside.calls (k : Nat) (a0 : Int) (a1 : Int) (A2 : Option Addr) (c2 : Nat) (l2 : List Int) (r : Bool) (w : World) (hr2 : Kd.C (Kd.int .i64) w A2 l2.length l2) (hc2 : l2.length ≤ c2) (h : cantinglaw02_inside.f k a0 a1 l2 = some r) :
    Calls Try.prog 78 #[.int .i64 a0, .int .i64 a1, .slice A2 l2.length c2] w fun e w' => e = .returned (.bool r) ∧ Drawn0 w w' := by
  have HR2 := Aside0.mk hr2
  have HC2 := Aside0.mk hc2
  clear hr2 hc2
  have H : (cantinglaw02_inside.l0 k a0 a1 l2 (l2.length : Int) 0) = some r := h
  clear h
  have H' := Aside0.mk H
  clear H
  go_enter Try.func78, Try.ntmps78
  go_wp2
  go_loopg [11] k (fun kq v11 w' => ∃ (x11_1 : Int), v11 = .int .i64 x11_1 ∧ Aside0 (cantinglaw02_inside.l0 kq a0 a1 l2 (l2.length : Int) x11_1 = some r) ∧ Aside0 (kq ≤ k) ∧ Drawn0 w w')
  case atStart => exact ⟨(0), (by first | rfl | (simp; done) | (simp [*]; done)), H', ⟨Nat.le_refl _⟩, by repeat (first | exact Drawn0.refl _ | apply Drawn0.step)⟩
  case round =>
    clear H'
    try clear c2
    try clear p2
    obtain ⟨x11_1, rfl, HA, HK1, ⟨m1, rfl⟩⟩ := hrel
    cases gk with
    | zero => exact absurd HA.out (by simp [cantinglaw02_inside.l0])
    | succ k1 =>
      have H := HA.out
      clear HA
      simp only [cantinglaw02_inside.l0] at H
      by_cases c4 : x11_1 < (l2.length : Int)
      · rw [if_pos c4] at H
        have c4b0 : decide (x11_1 < (l2.length : Int)) = true := decide_eq_true c4
        clear c4
        by_cases c5 : 0 ≤ x11_1
        · rw [if_pos c5] at H
          have c5b0 : decide (0 ≤ x11_1) = true := decide_eq_true c5
          clear c5
          by_cases c6 : x11_1 < (l2.length : Int)
          · rw [if_pos c6] at H
            have c6b0 : decide (x11_1 < (l2.length : Int)) = true := decide_eq_true c6
            clear c6
            by_cases c7 : (rd l2 x11_1) = 2
            · rw [if_pos c7] at H
              have c7b0 : ((rd l2 x11_1) == 2) = true := beq_iff_eq.mpr c7
              have c7b1 : ((rd l2 x11_1) != 2) = false := bne_eq_false_iff_eq.mpr c7
              clear c7
              have H' := Aside0.mk H
              clear H
              have p1279 : 0 ≤ (x11_1 : Int) := of_decide_eq_true (by first | (with_reducible assumption) | assumption)
              have q1279 : x11_1 < (l2.length : Int) := of_decide_eq_true (by first | (with_reducible assumption) | assumption)
              obtain ⟨ad1279, e1279, hx1279_0⟩ := Kd.at_int HR2.out x11_1 p1279 q1279
              cases e1279
              replace p1279 := eq_true p1279
              replace q1279 := eq_true q1279
              go_wp2
              go_roundg k1
              case measure => have := HK1.out; omega
              case rel => exact ⟨(wrap64 (x11_1 + 1)), (by first | rfl | (simp; done) | (simp [*]; done)), H', ⟨by have := HK1.out; omega⟩, by repeat (first | exact Drawn0.refl _ | apply Drawn0.step)⟩
            · rw [if_neg c7] at H
              have c7b0 : ((rd l2 x11_1) == 2) = false := beq_eq_false_iff_ne.mpr c7
              have c7b1 : ((rd l2 x11_1) != 2) = true := bne_iff_ne.mpr c7
              replace H := Option.bind_eq_some_iff.mp H
              obtain ⟨t1280, A80, H⟩ := H
              replace H : (if (((rd l2 x11_1) == 1) != t1280) = true then (some false) else (cantinglaw02_inside.l0 k1 a0 a1 l2 (l2.length : Int) (wrap64 (x11_1 + 1)))) = some r := H
              have A8 := Aside0.mk A80
              clear A80
              by_cases c9 : (((rd l2 x11_1) == 1) != t1280) = true
              · rw [if_pos c9] at H
                have c9b0 : (((rd l2 x11_1) == 1) != t1280) = true := c9
                (try (have c9b1 : decide (((rd l2 x11_1) == 1) = t1280) = false := by simpa using c9))
                (try (have c9b2 : (((rd l2 x11_1) == 1) == t1280) = false := by simpa using c9))
                (try (have c9b3 : ¬ (((rd l2 x11_1) == 1) = t1280) := by simpa using c9))
                clear c9
                obtain rfl := Option.some.inj H
                have p1279 : 0 ≤ (x11_1 : Int) := of_decide_eq_true (by first | (with_reducible assumption) | assumption)
                have q1279 : x11_1 < (l2.length : Int) := of_decide_eq_true (by first | (with_reducible assumption) | assumption)
                obtain ⟨ad1279, e1279, hx1279_0⟩ := Kd.at_int HR2.out x11_1 p1279 q1279
                cases e1279
                replace p1279 := eq_true p1279
                replace q1279 := eq_true q1279
                go_wp2_with (first | (go_at_call 88; (with_reducible refine (cantingref02_Bit.calls a0 a1 x11_1 t1280 _ A8.out).mono ?_); rintro e w' ⟨rfl, ⟨nd, rfl⟩⟩))
                go_ret
                exact ⟨by first | rfl | (simp; done) | (simp [*]; done), by repeat (first | exact Drawn0.refl _ | apply Drawn0.step)⟩
              · rw [if_neg c9] at H
                have c9b0 : (((rd l2 x11_1) == 1) != t1280) = false := by simpa using c9
                (try (have c9b1 : decide (((rd l2 x11_1) == 1) = t1280) = true := by simpa using c9))
                (try (have c9b2 : (((rd l2 x11_1) == 1) == t1280) = true := by simpa using c9))
                clear c9
                have H' := Aside0.mk H
                clear H
                have p1279 : 0 ≤ (x11_1 : Int) := of_decide_eq_true (by first | (with_reducible assumption) | assumption)
                have q1279 : x11_1 < (l2.length : Int) := of_decide_eq_true (by first | (with_reducible assumption) | assumption)
                obtain ⟨ad1279, e1279, hx1279_0⟩ := Kd.at_int HR2.out x11_1 p1279 q1279
                cases e1279
                replace p1279 := eq_true p1279
                replace q1279 := eq_true q1279
                go_wp2_with (first | (go_at_call 88; (with_reducible refine (cantingref02_Bit.calls a0 a1 x11_1 t1280 _ A8.out).mono ?_); rintro e w' ⟨rfl, ⟨nd, rfl⟩⟩))
                go_roundg k1
                case measure => have := HK1.out; omega
                case rel => exact ⟨(wrap64 (x11_1 + 1)), (by first | rfl | (simp; done) | (simp [*]; done)), H', ⟨by have := HK1.out; omega⟩, by repeat (first | exact Drawn0.refl _ | apply Drawn0.step)⟩
          · rw [if_neg c6] at H
            exact absurd H (by simp)
        · rw [if_neg c5] at H
          exact absurd H (by simp)
      · rw [if_neg c4] at H
        have c4b0 : decide (x11_1 < (l2.length : Int)) = false := decide_eq_false c4
        clear c4
        obtain rfl := Option.some.inj H
        go_wp2
        go_ret
        exact ⟨by first | rfl | (simp; done) | (simp [*]; done), by repeat (first | exact Drawn0.refl _ | apply Drawn0.step)⟩
end Go.Proofs.Ytlplphgoldkoeaa.X
end

section
set_option linter.unusedVariables false
set_option linter.unusedSimpArgs false
namespace Go.Proofs.Ytlplphgoldkoeaa.HTab
open Go.RowKit Go.Proofs.YtlplphgoldkoeaaW.PrintWords Go.Proofs.YtlplphgoldkoeaaW.PrintLast Go.Proofs.YtlplphgoldkoeaaW.PrintMore Go.Proofs.Ytlplphgoldkoeaa.HMap Go.Proofs.Ytlplphgoldkoeaa.X
set_option linter.unusedVariables false
set_option linter.unusedSimpArgs false
def insL (n P : Nat) : Nat → List Int → Bool
  | _, [] => true
  | i, x :: c => (x == 2 || ((x == 1) == bitN P (n - 1 - i))) && insL n P (i + 1) c
theorem inside_l0 (v : Int) (P : Nat) (hP : (P : Int) < 2 ^ 62) (hv : v ≤ 12) (c : List Int) (hc : (c.length : Int) = v) : ∀ (d i fu : Nat), i + d = c.length → d < fu → cantinglaw02_inside.l0 fu v P c c.length i = some (insL v.toNat P i (c.drop i))
  | d, i, 0, h1, h2 => by omega
  | 0, i, fu + 1, h1, h2 => by
    simp only [cantinglaw02_inside.l0]
    rw [if_neg (by omega), List.drop_eq_nil_of_le (by omega)]
    rfl
  | d + 1, i, fu + 1, h1, h2 => by
    simp only [cantinglaw02_inside.l0]
    rw [if_pos (by omega), if_pos (by omega), if_pos (by omega), wrap_add1 (by omega) (by omega)]
    have ih := inside_l0 v P hP hv c hc d (i + 1) fu (by omega) (by omega)
    rw [Int.natCast_add] at ih
    have hb := bit_f (v := v) (P := P) (i := (i : Int)) (by omega) (by omega) (v - 1 - i).toNat (by omega) (by omega) (by omega) (by omega)
    have hr : rd c (i : Int) = c[i]'(by omega) := by simp [rd, show i < c.length by omega]
    rw [List.drop_eq_getElem_cons (by omega), hr, show ((i : Int) + 1) = (i : Int) + ((1 : Nat) : Int) from rfl, ih, hb]
    simp only [insL, Option.bind_some]
    have hbe : decide ((P : Int) / 2 ^ (v - 1 - (i : Int)).toNat % 2 = 1) = bitN P (v.toNat - 1 - i) := by
      have e1 : (v - 1 - (i : Int)).toNat = v.toNat - 1 - i := by omega
      rw [e1]
      have hq := bitN_eq P (v.toNat - 1 - i)
      have hcst := pow_cast (v.toNat - 1 - i)
      have : ((P : Int) / 2 ^ (v.toNat - 1 - i) % 2 = 1) ↔ (P / 2 ^ (v.toNat - 1 - i) % 2 = 1) := by
        rw [← hcst]
        omega
      rw [Bool.eq_iff_iff, decide_eq_true_iff, this, hq]
    rw [hbe]
    by_cases h : c[i]'(by omega) = 2
    · rw [if_pos h]
      simp [h]
    · rw [if_neg h]
      cases h3 : (c[i]'(by omega) == 1) <;> cases h4 : bitN P (v.toNat - 1 - i) <;> simp [h]
theorem inside_f (v : Int) (P : Nat) (hP : (P : Int) < 2 ^ 62) (hv : v ≤ 12) (c : List Int) (hc : (c.length : Int) = v) (fu : Nat) (hf : 13 < fu) : cantinglaw02_inside.f fu v P c = some (insL v.toNat P 0 c) := by
  unfold cantinglaw02_inside.f
  exact inside_l0 v P hP hv c hc c.length 0 fu (by omega) (by omega)
end Go.Proofs.Ytlplphgoldkoeaa.HTab
end
