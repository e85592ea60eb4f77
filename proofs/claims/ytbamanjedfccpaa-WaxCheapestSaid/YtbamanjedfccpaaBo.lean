/- Lemmas of the proof: part Bo. -/
import Derived.Test.YtbamanjedfccpaaBc
import Derived.Test.YtbamanjedfccpaaBn
import Derived.Test.YtbamanjedfccpaaBh
import Derived.Test.YtbamanjedfccpaaBi
import Derived.Test.YtbamanjedfccpaaBk
import Derived.Test.YtbamanjedfccpaaBl
section
set_option linter.unusedVariables false
set_option linter.unusedSimpArgs false
namespace Go.Proofs.Ytbamanjedfccpaa.X
open Go.RowKit Go.Proofs.YtbamanjedfccpaaW.PrintWords Go.Proofs.YtbamanjedfccpaaW.PrintLast Go.Proofs.YtbamanjedfccpaaW.PrintMore
attribute [local go_sem] max2_int min2_int max_two min_two max_three min_three max_four min_four   -- for this text's walks alone
set_option linter.unusedVariables false
set_option linter.unusedSimpArgs false
mutual
def cantinglaw07_between.j0 : Nat → List Bool → List Bool → List Bool → Bool → Option (Bool)
  | 0, _, _, _, _ => none
  | k + 1, x0, x1, x2, x20 => if x20 = true then (some false) else (cantinglaw07_between.l0 k x0 x2 x1 (x1.length : Int) 0)
def cantinglaw07_between.l0 : Nat → List Bool → List Bool → List Bool → Int → Int → Option (Bool)
  | 0, _, _, _, _, _ => none
  | k + 1, x0, x2, x21, x22, x23 => if x23 < x22 then (if 0 ≤ x23 then (if x23 < (x21.length : Int) then (if x23 < (x0.length : Int) then (if rdOf false x0 x23 = true then (if rdOf false x21 x23 = true then (if x23 < (x2.length : Int) then (if rdOf false x2 x23 = true then (cantinglaw07_between.l0 k x0 x2 x21 x22 (wrap64 (x23 + 1))) else (some false)) else (none)) else (some false)) else (if rdOf false x21 x23 = true then (if x23 < (x2.length : Int) then (if rdOf false x2 x23 = true then (cantinglaw07_between.l0 k x0 x2 x21 x22 (wrap64 (x23 + 1))) else (some false)) else (none)) else (cantinglaw07_between.l0 k x0 x2 x21 x22 (wrap64 (x23 + 1))))) else (none)) else (none)) else (none)) else (some true)
end
def cantinglaw07_between.f (k : Nat) (l0 : List Bool) (l1 : List Bool) (l2 : List Bool) : Option (Bool) := if (l0.length : Int) = (l1.length : Int) then (cantinglaw07_between.j0 k l0 l1 l2 ((l2.length : Int) != (l1.length : Int))) else (cantinglaw07_between.j0 k l0 l1 l2 true)
set_option maxHeartbeats 8000000 in
set_option maxRecDepth 100000 in
theorem cantinglaw07_between.calls (k : Nat) (A0 : Option Addr) (c0 : Nat) (l0 : List Bool) (A1 : Option Addr) (c1 : Nat) (l1 : List Bool) (A2 : Option Addr) (c2 : Nat) (l2 : List Bool) (r : Bool) (w : World) (hr0 : Kd.C Kd.bool w A0 l0.length l0) (hc0 : l0.length ≤ c0) (hr1 : Kd.C Kd.bool w A1 l1.length l1) (hc1 : l1.length ≤ c1) (hr2 : Kd.C Kd.bool w A2 l2.length l2) (hc2 : l2.length ≤ c2) (h : cantinglaw07_between.f k l0 l1 l2 = some r) :
    Calls Try.prog 36 #[.slice A0 l0.length c0, .slice A1 l1.length c1, .slice A2 l2.length c2] w fun e w' => e = .returned (.bool r) ∧ Drawn0 w w' := by
  have HR0 := Aside0.mk hr0
  have HC0 := Aside0.mk hc0
  clear hr0 hc0
  have HR1 := Aside0.mk hr1
  have HC1 := Aside0.mk hc1
  clear hr1 hc1
  have HR2 := Aside0.mk hr2
  have HC2 := Aside0.mk hc2
  clear hr2 hc2
  have H : (if (l0.length : Int) = (l1.length : Int) then (cantinglaw07_between.j0 k l0 l1 l2 ((l2.length : Int) != (l1.length : Int))) else (cantinglaw07_between.j0 k l0 l1 l2 true)) = some r := h
  clear h
  have HC4 := Aside0.mk H
  clear H
  go_enter Try.func36, Try.ntmps36
  go_upto_region 1 with (fail)
  go_cut [20] (fun v20 wc => ∃ (kq : Nat) (x20_3 : Bool), v20 = .bool x20_3 ∧ Aside0 (cantinglaw07_between.j0 kq l0 l1 l2 x20_3 = some r) ∧ Aside0 (kq ≤ k) ∧ Drawn0 w wc)
  case first =>
    have H := HC4.out
    clear HC4
    by_cases c5 : (l0.length : Int) = (l1.length : Int)
    · rw [if_pos c5] at H
      have c5b0 : ((l0.length : Int) == (l1.length : Int)) = true := beq_iff_eq.mpr c5
      have c5b1 : ((l0.length : Int) != (l1.length : Int)) = false := bne_eq_false_iff_eq.mpr c5
      have c5b2 : (l0.length == l1.length) = true := by first | simpa using c5 | (simp at c5 ⊢; omega)
      clear c5
      (first | rw [c5b0] | (simp only [i64_w, i32_w]; rw [c5b0]) | skip)
      have H' := Aside0.mk H
      clear H
      go_wp2
      go_meet
      case rel => exact ⟨_, (((l2.length : Int) != (l1.length : Int))), (by first | rfl | (simp; done) | (simp [*]; done)), H', ⟨by first | omega | exact Nat.le_refl _⟩, by repeat (first | exact Drawn0.refl _ | apply Drawn0.step)⟩
    · rw [if_neg c5] at H
      have c5b0 : ((l0.length : Int) == (l1.length : Int)) = false := beq_eq_false_iff_ne.mpr c5
      have c5b1 : ((l0.length : Int) != (l1.length : Int)) = true := bne_iff_ne.mpr c5
      have c5b2 : (l0.length == l1.length) = false := by first | simpa using c5 | (simp at c5 ⊢; omega)
      (first | rw [c5b0] | (simp only [i64_w, i32_w]; rw [c5b0]) | skip)
      have H' := Aside0.mk H
      clear H
      go_wp2
      go_meet
      case rel => exact ⟨_, (true), (by first | rfl | (simp; done) | (simp [*]; done)), H', ⟨by first | omega | exact Nat.le_refl _⟩, by repeat (first | exact Drawn0.refl _ | apply Drawn0.step)⟩
  case rest =>
    clear HC4
    try clear c1
    try clear c2
    try clear p2
    try clear c3
    try clear c5
    try clear c5b0
    try clear c5b1
    try clear c5b2
    obtain ⟨kq, x20_3, rfl, HA, HJ3, ⟨mc3, rfl⟩⟩ := hcut
    cases kq with
    | zero => exact absurd HA.out (by simp [cantinglaw07_between.j0])
    | succ kj3 =>
      have H := HA.out
      clear HA
      simp only [cantinglaw07_between.j0] at H
      by_cases c6 : x20_3 = true
      · subst c6
        have H1 : (some false) = some r := by rw [if_pos rfl] at H; exact H
        clear H
        have H := H1
        clear H1
        obtain rfl := Option.some.inj H
        go_wp2
        go_ret
        exact ⟨by first | rfl | (simp; done) | (simp [*]; done), by repeat (first | exact Drawn0.refl _ | apply Drawn0.step)⟩
      · replace c6 := Bool.eq_false_iff.mpr c6
        subst c6
        have H1 : (cantinglaw07_between.l0 kj3 l0 l2 l1 (l1.length : Int) 0) = some r := by rw [if_neg (show ¬ (false = true) by decide)] at H; exact H
        clear H
        have H := H1
        clear H1
        have H' := Aside0.mk H
        clear H
        go_wp2
        go_loopg [23] kj3 (fun kq v23 w' => ∃ (x23_2 : Int), v23 = .int .i64 x23_2 ∧ Aside0 (cantinglaw07_between.l0 kq l0 l2 l1 (l1.length : Int) x23_2 = some r) ∧ Aside0 (kq ≤ kj3) ∧ Drawn0 w w')
        case atStart => exact ⟨(0), (by first | rfl | (simp; done) | (simp [*]; done)), H', ⟨Nat.le_refl _⟩, by repeat (first | exact Drawn0.refl _ | apply Drawn0.step)⟩
        case round =>
          clear H'
          try clear c1
          try clear c2
          try clear p2
          try clear c3
          try clear c5
          try clear c5b0
          try clear c5b1
          try clear c5b2
          try clear c6
          try clear p2
          obtain ⟨x23_2, rfl, HA, HK2, ⟨m2, rfl⟩⟩ := hrel
          cases gk with
          | zero => exact absurd HA.out (by simp [cantinglaw07_between.l0])
          | succ k2 =>
            have H := HA.out
            clear HA
            simp only [cantinglaw07_between.l0] at H
            by_cases c7 : x23_2 < (l1.length : Int)
            · rw [if_pos c7] at H
              have c7b0 : decide (x23_2 < (l1.length : Int)) = true := decide_eq_true c7
              clear c7
              by_cases c8 : 0 ≤ x23_2
              · rw [if_pos c8] at H
                have c8b0 : decide (0 ≤ x23_2) = true := decide_eq_true c8
                clear c8
                by_cases c9 : x23_2 < (l1.length : Int)
                · rw [if_pos c9] at H
                  have c9b0 : decide (x23_2 < (l1.length : Int)) = true := decide_eq_true c9
                  clear c9
                  by_cases c10 : x23_2 < (l0.length : Int)
                  · rw [if_pos c10] at H
                    have c10b0 : decide (x23_2 < (l0.length : Int)) = true := decide_eq_true c10
                    clear c10
                    obtain ⟨bq11, hbq11⟩ : ∃ b_ : Bool, b_ = (rdOf false l0 x23_2) := ⟨_, rfl⟩
                    replace H : (if bq11 = true then (if rdOf false l1 x23_2 = true then (if x23_2 < (l2.length : Int) then (if rdOf false l2 x23_2 = true then (cantinglaw07_between.l0 k2 l0 l2 l1 (l1.length : Int) (wrap64 (x23_2 + 1))) else (some false)) else (none)) else (some false)) else (if rdOf false l1 x23_2 = true then (if x23_2 < (l2.length : Int) then (if rdOf false l2 x23_2 = true then (cantinglaw07_between.l0 k2 l0 l2 l1 (l1.length : Int) (wrap64 (x23_2 + 1))) else (some false)) else (none)) else (cantinglaw07_between.l0 k2 l0 l2 l1 (l1.length : Int) (wrap64 (x23_2 + 1))))) = some r := by rw [← hbq11] at H; exact H
                    have Nbq11 := Aside0.mk hbq11
                    clear hbq11
                    by_cases c12 : bq11 = true
                    · subst c12
                      have H1 : (if rdOf false l1 x23_2 = true then (if x23_2 < (l2.length : Int) then (if rdOf false l2 x23_2 = true then (cantinglaw07_between.l0 k2 l0 l2 l1 (l1.length : Int) (wrap64 (x23_2 + 1))) else (some false)) else (none)) else (some false)) = some r := by rw [if_pos rfl] at H; exact H
                      clear H
                      have H := H1
                      clear H1
                      obtain ⟨bq13, hbq13⟩ : ∃ b_ : Bool, b_ = (rdOf false l1 x23_2) := ⟨_, rfl⟩
                      replace H : (if bq13 = true then (if x23_2 < (l2.length : Int) then (if rdOf false l2 x23_2 = true then (cantinglaw07_between.l0 k2 l0 l2 l1 (l1.length : Int) (wrap64 (x23_2 + 1))) else (some false)) else (none)) else (some false)) = some r := by rw [← hbq13] at H; exact H
                      have Nbq13 := Aside0.mk hbq13
                      clear hbq13
                      by_cases c14 : bq13 = true
                      · subst c14
                        have H1 : (if x23_2 < (l2.length : Int) then (if rdOf false l2 x23_2 = true then (cantinglaw07_between.l0 k2 l0 l2 l1 (l1.length : Int) (wrap64 (x23_2 + 1))) else (some false)) else (none)) = some r := by rw [if_pos rfl] at H; exact H
                        clear H
                        have H := H1
                        clear H1
                        by_cases c15 : x23_2 < (l2.length : Int)
                        · rw [if_pos c15] at H
                          have c15b0 : decide (x23_2 < (l2.length : Int)) = true := decide_eq_true c15
                          clear c15
                          obtain ⟨bq16, hbq16⟩ : ∃ b_ : Bool, b_ = (rdOf false l2 x23_2) := ⟨_, rfl⟩
                          replace H : (if bq16 = true then (cantinglaw07_between.l0 k2 l0 l2 l1 (l1.length : Int) (wrap64 (x23_2 + 1))) else (some false)) = some r := by rw [← hbq16] at H; exact H
                          have Nbq16 := Aside0.mk hbq16
                          clear hbq16
                          by_cases c17 : bq16 = true
                          · subst c17
                            have H1 : (cantinglaw07_between.l0 k2 l0 l2 l1 (l1.length : Int) (wrap64 (x23_2 + 1))) = some r := by rw [if_pos rfl] at H; exact H
                            clear H
                            have H := H1
                            clear H1
                            have H' := Aside0.mk H
                            clear H
                            have p562 : 0 ≤ (x23_2 : Int) := of_decide_eq_true (by first | (with_reducible assumption) | assumption)
                            have q562 : x23_2 < (l1.length : Int) := of_decide_eq_true (by first | (with_reducible assumption) | assumption)
                            obtain ⟨ad562, e562, hx562_0⟩ := Kd.at_bool HR1.out x23_2 p562 q562
                            (try rw [← Nbq11.out] at hx562_0)
                            (try rw [← Nbq11.out] at hw562_0)
                            (try rw [← Nbq13.out] at hx562_0)
                            (try rw [← Nbq13.out] at hw562_0)
                            (try rw [← Nbq16.out] at hx562_0)
                            (try rw [← Nbq16.out] at hw562_0)
                            cases e562
                            replace p562 := eq_true p562
                            replace q562 := eq_true q562
                            have p563 : 0 ≤ (x23_2 : Int) := of_decide_eq_true (by first | (with_reducible assumption) | assumption)
                            have q563 : x23_2 < (l0.length : Int) := of_decide_eq_true (by first | (with_reducible assumption) | assumption)
                            obtain ⟨ad563, e563, hx563_0⟩ := Kd.at_bool HR0.out x23_2 p563 q563
                            (try rw [← Nbq11.out] at hx563_0)
                            (try rw [← Nbq11.out] at hw563_0)
                            (try rw [← Nbq13.out] at hx563_0)
                            (try rw [← Nbq13.out] at hw563_0)
                            (try rw [← Nbq16.out] at hx563_0)
                            (try rw [← Nbq16.out] at hw563_0)
                            cases e563
                            replace p563 := eq_true p563
                            replace q563 := eq_true q563
                            have p564 : 0 ≤ (x23_2 : Int) := of_decide_eq_true (by first | (with_reducible assumption) | assumption)
                            have q564 : x23_2 < (l2.length : Int) := of_decide_eq_true (by first | (with_reducible assumption) | assumption)
                            obtain ⟨ad564, e564, hx564_0⟩ := Kd.at_bool HR2.out x23_2 p564 q564
                            (try rw [← Nbq11.out] at hx564_0)
                            (try rw [← Nbq11.out] at hw564_0)
                            (try rw [← Nbq13.out] at hx564_0)
                            (try rw [← Nbq13.out] at hw564_0)
                            (try rw [← Nbq16.out] at hx564_0)
                            (try rw [← Nbq16.out] at hw564_0)
                            cases e564
                            replace p564 := eq_true p564
                            replace q564 := eq_true q564
                            go_wp2
                            go_roundg k2
                            case measure => have := HJ3.out; have := HK2.out; omega
                            case rel => exact ⟨(wrap64 (x23_2 + 1)), (by first | rfl | (simp; done) | (simp [*]; done)), H', ⟨by have := HJ3.out; have := HK2.out; omega⟩, by repeat (first | exact Drawn0.refl _ | apply Drawn0.step)⟩
                          · replace c17 := Bool.eq_false_iff.mpr c17
                            subst c17
                            have H1 : (some false) = some r := by rw [if_neg (show ¬ (false = true) by decide)] at H; exact H
                            clear H
                            have H := H1
                            clear H1
                            obtain rfl := Option.some.inj H
                            have p562 : 0 ≤ (x23_2 : Int) := of_decide_eq_true (by first | (with_reducible assumption) | assumption)
                            have q562 : x23_2 < (l1.length : Int) := of_decide_eq_true (by first | (with_reducible assumption) | assumption)
                            obtain ⟨ad562, e562, hx562_0⟩ := Kd.at_bool HR1.out x23_2 p562 q562
                            (try rw [← Nbq11.out] at hx562_0)
                            (try rw [← Nbq11.out] at hw562_0)
                            (try rw [← Nbq13.out] at hx562_0)
                            (try rw [← Nbq13.out] at hw562_0)
                            (try rw [← Nbq16.out] at hx562_0)
                            (try rw [← Nbq16.out] at hw562_0)
                            cases e562
                            replace p562 := eq_true p562
                            replace q562 := eq_true q562
                            have p563 : 0 ≤ (x23_2 : Int) := of_decide_eq_true (by first | (with_reducible assumption) | assumption)
                            have q563 : x23_2 < (l0.length : Int) := of_decide_eq_true (by first | (with_reducible assumption) | assumption)
                            obtain ⟨ad563, e563, hx563_0⟩ := Kd.at_bool HR0.out x23_2 p563 q563
                            (try rw [← Nbq11.out] at hx563_0)
                            (try rw [← Nbq11.out] at hw563_0)
                            (try rw [← Nbq13.out] at hx563_0)
                            (try rw [← Nbq13.out] at hw563_0)
                            (try rw [← Nbq16.out] at hx563_0)
                            (try rw [← Nbq16.out] at hw563_0)
                            cases e563
                            replace p563 := eq_true p563
                            replace q563 := eq_true q563
                            have p564 : 0 ≤ (x23_2 : Int) := of_decide_eq_true (by first | (with_reducible assumption) | assumption)
                            have q564 : x23_2 < (l2.length : Int) := of_decide_eq_true (by first | (with_reducible assumption) | assumption)
                            obtain ⟨ad564, e564, hx564_0⟩ := Kd.at_bool HR2.out x23_2 p564 q564
                            (try rw [← Nbq11.out] at hx564_0)
                            (try rw [← Nbq11.out] at hw564_0)
                            (try rw [← Nbq13.out] at hx564_0)
                            (try rw [← Nbq13.out] at hw564_0)
                            (try rw [← Nbq16.out] at hx564_0)
                            (try rw [← Nbq16.out] at hw564_0)
                            cases e564
                            replace p564 := eq_true p564
                            replace q564 := eq_true q564
                            go_wp2
                            go_ret
                            exact ⟨by first | rfl | (simp; done) | (simp [*]; done), by repeat (first | exact Drawn0.refl _ | apply Drawn0.step)⟩
                        · rw [if_neg c15] at H
                          exact absurd H (by simp)
                      · replace c14 := Bool.eq_false_iff.mpr c14
                        subst c14
                        have H1 : (some false) = some r := by rw [if_neg (show ¬ (false = true) by decide)] at H; exact H
                        clear H
                        have H := H1
                        clear H1
                        obtain rfl := Option.some.inj H
                        have p562 : 0 ≤ (x23_2 : Int) := of_decide_eq_true (by first | (with_reducible assumption) | assumption)
                        have q562 : x23_2 < (l1.length : Int) := of_decide_eq_true (by first | (with_reducible assumption) | assumption)
                        obtain ⟨ad562, e562, hx562_0⟩ := Kd.at_bool HR1.out x23_2 p562 q562
                        (try rw [← Nbq11.out] at hx562_0)
                        (try rw [← Nbq11.out] at hw562_0)
                        (try rw [← Nbq13.out] at hx562_0)
                        (try rw [← Nbq13.out] at hw562_0)
                        cases e562
                        replace p562 := eq_true p562
                        replace q562 := eq_true q562
                        have p563 : 0 ≤ (x23_2 : Int) := of_decide_eq_true (by first | (with_reducible assumption) | assumption)
                        have q563 : x23_2 < (l0.length : Int) := of_decide_eq_true (by first | (with_reducible assumption) | assumption)
                        obtain ⟨ad563, e563, hx563_0⟩ := Kd.at_bool HR0.out x23_2 p563 q563
                        (try rw [← Nbq11.out] at hx563_0)
                        (try rw [← Nbq11.out] at hw563_0)
                        (try rw [← Nbq13.out] at hx563_0)
                        (try rw [← Nbq13.out] at hw563_0)
                        cases e563
                        replace p563 := eq_true p563
                        replace q563 := eq_true q563
                        go_wp2
                        go_ret
                        exact ⟨by first | rfl | (simp; done) | (simp [*]; done), by repeat (first | exact Drawn0.refl _ | apply Drawn0.step)⟩
                    · replace c12 := Bool.eq_false_iff.mpr c12
                      subst c12
                      have H1 : (if rdOf false l1 x23_2 = true then (if x23_2 < (l2.length : Int) then (if rdOf false l2 x23_2 = true then (cantinglaw07_between.l0 k2 l0 l2 l1 (l1.length : Int) (wrap64 (x23_2 + 1))) else (some false)) else (none)) else (cantinglaw07_between.l0 k2 l0 l2 l1 (l1.length : Int) (wrap64 (x23_2 + 1)))) = some r := by rw [if_neg (show ¬ (false = true) by decide)] at H; exact H
                      clear H
                      have H := H1
                      clear H1
                      obtain ⟨bq18, hbq18⟩ : ∃ b_ : Bool, b_ = (rdOf false l1 x23_2) := ⟨_, rfl⟩
                      replace H : (if bq18 = true then (if x23_2 < (l2.length : Int) then (if rdOf false l2 x23_2 = true then (cantinglaw07_between.l0 k2 l0 l2 l1 (l1.length : Int) (wrap64 (x23_2 + 1))) else (some false)) else (none)) else (cantinglaw07_between.l0 k2 l0 l2 l1 (l1.length : Int) (wrap64 (x23_2 + 1)))) = some r := by rw [← hbq18] at H; exact H
                      have Nbq18 := Aside0.mk hbq18
                      clear hbq18
                      by_cases c19 : bq18 = true
                      · subst c19
                        have H1 : (if x23_2 < (l2.length : Int) then (if rdOf false l2 x23_2 = true then (cantinglaw07_between.l0 k2 l0 l2 l1 (l1.length : Int) (wrap64 (x23_2 + 1))) else (some false)) else (none)) = some r := by rw [if_pos rfl] at H; exact H
                        clear H
                        have H := H1
                        clear H1
                        by_cases c20 : x23_2 < (l2.length : Int)
                        · rw [if_pos c20] at H
                          have c20b0 : decide (x23_2 < (l2.length : Int)) = true := decide_eq_true c20
                          clear c20
                          obtain ⟨bq21, hbq21⟩ : ∃ b_ : Bool, b_ = (rdOf false l2 x23_2) := ⟨_, rfl⟩
                          replace H : (if bq21 = true then (cantinglaw07_between.l0 k2 l0 l2 l1 (l1.length : Int) (wrap64 (x23_2 + 1))) else (some false)) = some r := by rw [← hbq21] at H; exact H
                          have Nbq21 := Aside0.mk hbq21
                          clear hbq21
                          by_cases c22 : bq21 = true
                          · subst c22
                            have H1 : (cantinglaw07_between.l0 k2 l0 l2 l1 (l1.length : Int) (wrap64 (x23_2 + 1))) = some r := by rw [if_pos rfl] at H; exact H
                            clear H
                            have H := H1
                            clear H1
                            have H' := Aside0.mk H
                            clear H
                            have p562 : 0 ≤ (x23_2 : Int) := of_decide_eq_true (by first | (with_reducible assumption) | assumption)
                            have q562 : x23_2 < (l1.length : Int) := of_decide_eq_true (by first | (with_reducible assumption) | assumption)
                            obtain ⟨ad562, e562, hx562_0⟩ := Kd.at_bool HR1.out x23_2 p562 q562
                            (try rw [← Nbq11.out] at hx562_0)
                            (try rw [← Nbq11.out] at hw562_0)
                            (try rw [← Nbq18.out] at hx562_0)
                            (try rw [← Nbq18.out] at hw562_0)
                            (try rw [← Nbq21.out] at hx562_0)
                            (try rw [← Nbq21.out] at hw562_0)
                            cases e562
                            replace p562 := eq_true p562
                            replace q562 := eq_true q562
                            have p563 : 0 ≤ (x23_2 : Int) := of_decide_eq_true (by first | (with_reducible assumption) | assumption)
                            have q563 : x23_2 < (l0.length : Int) := of_decide_eq_true (by first | (with_reducible assumption) | assumption)
                            obtain ⟨ad563, e563, hx563_0⟩ := Kd.at_bool HR0.out x23_2 p563 q563
                            (try rw [← Nbq11.out] at hx563_0)
                            (try rw [← Nbq11.out] at hw563_0)
                            (try rw [← Nbq18.out] at hx563_0)
                            (try rw [← Nbq18.out] at hw563_0)
                            (try rw [← Nbq21.out] at hx563_0)
                            (try rw [← Nbq21.out] at hw563_0)
                            cases e563
                            replace p563 := eq_true p563
                            replace q563 := eq_true q563
                            have p565 : 0 ≤ (x23_2 : Int) := of_decide_eq_true (by first | (with_reducible assumption) | assumption)
                            have q565 : x23_2 < (l2.length : Int) := of_decide_eq_true (by first | (with_reducible assumption) | assumption)
                            obtain ⟨ad565, e565, hx565_0⟩ := Kd.at_bool HR2.out x23_2 p565 q565
                            (try rw [← Nbq11.out] at hx565_0)
                            (try rw [← Nbq11.out] at hw565_0)
                            (try rw [← Nbq18.out] at hx565_0)
                            (try rw [← Nbq18.out] at hw565_0)
                            (try rw [← Nbq21.out] at hx565_0)
                            (try rw [← Nbq21.out] at hw565_0)
                            cases e565
                            replace p565 := eq_true p565
                            replace q565 := eq_true q565
                            go_wp2
                            go_roundg k2
                            case measure => have := HJ3.out; have := HK2.out; omega
                            case rel => exact ⟨(wrap64 (x23_2 + 1)), (by first | rfl | (simp; done) | (simp [*]; done)), H', ⟨by have := HJ3.out; have := HK2.out; omega⟩, by repeat (first | exact Drawn0.refl _ | apply Drawn0.step)⟩
                          · replace c22 := Bool.eq_false_iff.mpr c22
                            subst c22
                            have H1 : (some false) = some r := by rw [if_neg (show ¬ (false = true) by decide)] at H; exact H
                            clear H
                            have H := H1
                            clear H1
                            obtain rfl := Option.some.inj H
                            have p562 : 0 ≤ (x23_2 : Int) := of_decide_eq_true (by first | (with_reducible assumption) | assumption)
                            have q562 : x23_2 < (l1.length : Int) := of_decide_eq_true (by first | (with_reducible assumption) | assumption)
                            obtain ⟨ad562, e562, hx562_0⟩ := Kd.at_bool HR1.out x23_2 p562 q562
                            (try rw [← Nbq11.out] at hx562_0)
                            (try rw [← Nbq11.out] at hw562_0)
                            (try rw [← Nbq18.out] at hx562_0)
                            (try rw [← Nbq18.out] at hw562_0)
                            (try rw [← Nbq21.out] at hx562_0)
                            (try rw [← Nbq21.out] at hw562_0)
                            cases e562
                            replace p562 := eq_true p562
                            replace q562 := eq_true q562
                            have p563 : 0 ≤ (x23_2 : Int) := of_decide_eq_true (by first | (with_reducible assumption) | assumption)
                            have q563 : x23_2 < (l0.length : Int) := of_decide_eq_true (by first | (with_reducible assumption) | assumption)
                            obtain ⟨ad563, e563, hx563_0⟩ := Kd.at_bool HR0.out x23_2 p563 q563
                            (try rw [← Nbq11.out] at hx563_0)
                            (try rw [← Nbq11.out] at hw563_0)
                            (try rw [← Nbq18.out] at hx563_0)
                            (try rw [← Nbq18.out] at hw563_0)
                            (try rw [← Nbq21.out] at hx563_0)
                            (try rw [← Nbq21.out] at hw563_0)
                            cases e563
                            replace p563 := eq_true p563
                            replace q563 := eq_true q563
                            have p565 : 0 ≤ (x23_2 : Int) := of_decide_eq_true (by first | (with_reducible assumption) | assumption)
                            have q565 : x23_2 < (l2.length : Int) := of_decide_eq_true (by first | (with_reducible assumption) | assumption)
                            obtain ⟨ad565, e565, hx565_0⟩ := Kd.at_bool HR2.out x23_2 p565 q565
                            (try rw [← Nbq11.out] at hx565_0)
                            (try rw [← Nbq11.out] at hw565_0)
                            (try rw [← Nbq18.out] at hx565_0)
                            (try rw [← Nbq18.out] at hw565_0)
                            (try rw [← Nbq21.out] at hx565_0)
                            (try rw [← Nbq21.out] at hw565_0)
                            cases e565
                            replace p565 := eq_true p565
                            replace q565 := eq_true q565
                            go_wp2
                            go_ret
                            exact ⟨by first | rfl | (simp; done) | (simp [*]; done), by repeat (first | exact Drawn0.refl _ | apply Drawn0.step)⟩
                        · rw [if_neg c20] at H
                          exact absurd H (by simp)
                      · replace c19 := Bool.eq_false_iff.mpr c19
                        subst c19
                        have H1 : (cantinglaw07_between.l0 k2 l0 l2 l1 (l1.length : Int) (wrap64 (x23_2 + 1))) = some r := by rw [if_neg (show ¬ (false = true) by decide)] at H; exact H
                        clear H
                        have H := H1
                        clear H1
                        have H' := Aside0.mk H
                        clear H
                        have p562 : 0 ≤ (x23_2 : Int) := of_decide_eq_true (by first | (with_reducible assumption) | assumption)
                        have q562 : x23_2 < (l1.length : Int) := of_decide_eq_true (by first | (with_reducible assumption) | assumption)
                        obtain ⟨ad562, e562, hx562_0⟩ := Kd.at_bool HR1.out x23_2 p562 q562
                        (try rw [← Nbq11.out] at hx562_0)
                        (try rw [← Nbq11.out] at hw562_0)
                        (try rw [← Nbq18.out] at hx562_0)
                        (try rw [← Nbq18.out] at hw562_0)
                        cases e562
                        replace p562 := eq_true p562
                        replace q562 := eq_true q562
                        have p563 : 0 ≤ (x23_2 : Int) := of_decide_eq_true (by first | (with_reducible assumption) | assumption)
                        have q563 : x23_2 < (l0.length : Int) := of_decide_eq_true (by first | (with_reducible assumption) | assumption)
                        obtain ⟨ad563, e563, hx563_0⟩ := Kd.at_bool HR0.out x23_2 p563 q563
                        (try rw [← Nbq11.out] at hx563_0)
                        (try rw [← Nbq11.out] at hw563_0)
                        (try rw [← Nbq18.out] at hx563_0)
                        (try rw [← Nbq18.out] at hw563_0)
                        cases e563
                        replace p563 := eq_true p563
                        replace q563 := eq_true q563
                        go_wp2
                        go_roundg k2
                        case measure => have := HJ3.out; have := HK2.out; omega
                        case rel => exact ⟨(wrap64 (x23_2 + 1)), (by first | rfl | (simp; done) | (simp [*]; done)), H', ⟨by have := HJ3.out; have := HK2.out; omega⟩, by repeat (first | exact Drawn0.refl _ | apply Drawn0.step)⟩
                  · rw [if_neg c10] at H
                    exact absurd H (by simp)
                · rw [if_neg c9] at H
                  exact absurd H (by simp)
              · rw [if_neg c8] at H
                exact absurd H (by simp)
            · rw [if_neg c7] at H
              have c7b0 : decide (x23_2 < (l1.length : Int)) = false := decide_eq_false c7
              clear c7
              obtain rfl := Option.some.inj H
              go_wp2
              go_ret
              exact ⟨by first | rfl | (simp; done) | (simp [*]; done), by repeat (first | exact Drawn0.refl _ | apply Drawn0.step)⟩
end Go.Proofs.Ytbamanjedfccpaa.X
end

section
set_option linter.unusedVariables false
set_option linter.unusedSimpArgs false
namespace Go.Proofs.Ytbamanjedfccpaa.X
open Go.RowKit Go.Proofs.YtbamanjedfccpaaW.PrintWords Go.Proofs.YtbamanjedfccpaaW.PrintLast Go.Proofs.YtbamanjedfccpaaW.PrintMore
attribute [local go_sem] max2_int min2_int max_two min_two max_three min_three max_four min_four   -- for this text's walks alone
set_option linter.unusedVariables false
set_option linter.unusedSimpArgs false
end Go.Proofs.Ytbamanjedfccpaa.X
end
