/- Lemmas of the proof: part Bp. -/
import Derived.Test.YtbamanjedfccpaaBc
import Derived.Test.YtbamanjedfccpaaBg
import Derived.Test.YtbamanjedfccpaaBn
section
set_option linter.unusedVariables false
set_option linter.unusedSimpArgs false
namespace Go.Proofs.Ytbamanjedfccpaa.X
open Go.RowKit Go.Proofs.YtbamanjedfccpaaW.PrintWords Go.Proofs.YtbamanjedfccpaaW.PrintLast Go.Proofs.YtbamanjedfccpaaW.PrintMore
attribute [local go_sem] max2_int min2_int max_two min_two max_three min_three max_four min_four   -- for this text's walks alone
set_option linter.unusedVariables false
set_option linter.unusedSimpArgs false
mutual
def cantingref07_way.l0 : Nat → List (List Int) → Int → List Int → Int → Int → Option (List Int)
  | 0, _, _, _, _, _ => none
  | k + 1, x0, x1, x5, x15, x16 => if x16 < x15 then (if 0 ≤ x16 then (if x16 < (x5.length : Int) then (cantingref07_way.l0 k x0 x1 (x5.set (x16 : Int).toNat (-1)) x15 (wrap64 (x16 + 1))) else (none)) else (none)) else (if 0 ≤ x1 then (if x1 < (x5.length : Int) then (cantingref07_way.l1 k x0 (x5.set (x1 : Int).toNat x1) (([x1] : List Int)) 0) else (none)) else (none))
def cantingref07_way.l1 : Nat → List (List Int) → List Int → List Int → Int → Option (List Int)
  | 0, _, _, _, _ => none
  | k + 1, x0, x5, x7, x8 => if x8 < (x7.length : Int) then (if 0 ≤ x8 then (if 0 ≤ (rd x7 x8) then (if (rd x7 x8) < (x0.length : Int) then (cantingref07_way.l2 k x0 x5 x7 x8 (rd_L4 x0 (rd x7 x8)) ((rd_L4 x0 (rd x7 x8)).length : Int) 0) else (none)) else (none)) else (none)) else (some x5)
def cantingref07_way.l2 : Nat → List (List Int) → List Int → List Int → Int → List Int → Int → Int → Option (List Int)
  | 0, _, _, _, _, _, _, _ => none
  | k + 1, x0, x5, x7, x8, x41, x42, x43 => if x43 < x42 then (if 0 ≤ x43 then (if x43 < (x41.length : Int) then (if (rd x41 x43) > 0 then (if x43 < (x5.length : Int) then (if (rd x5 x43) < 0 then (if 0 ≤ x8 then (if x8 < (x7.length : Int) then (if x7.length < 17592186044416 then (cantingref07_way.l2 k x0 (x5.set (x43 : Int).toNat (rd x7 x8)) (x7 ++ [x43]) x8 x41 x42 (wrap64 (x43 + 1))) else (none)) else (none)) else (none)) else (cantingref07_way.l2 k x0 x5 x7 x8 x41 x42 (wrap64 (x43 + 1)))) else (none)) else (cantingref07_way.l2 k x0 x5 x7 x8 x41 x42 (wrap64 (x43 + 1)))) else (none)) else (none)) else (cantingref07_way.l1 k x0 x5 x7 (wrap64 (x8 + 1)))
end
def cantingref07_way.f (k : Nat) (l0 : List (List Int)) (a1 : Int) : Option (List Int) := if 0 ≤ (l0.length : Int) then (if ((l0.length : Int) : Int).toNat ≤ 35184372088832 then ((some (List.replicate ((l0.length : Int) : Int).toNat 0 : List Int)).bind fun y229 => (cantingref07_way.l0 k l0 a1 y229 (y229.length : Int) 0)) else (none)) else (none)
set_option maxHeartbeats 8000000 in
set_option maxRecDepth 100000 in
theorem cantingref07_way.calls (k : Nat) (A0 : Option Addr) (c0 : Nat) (l0 : List (List Int)) (a1 : Int) (r : List Int) (w : World) (hr0 : Kd.C (Kd.slice 3 (Kd.int .i64)) w A0 l0.length l0) (hc0 : l0.length ≤ c0) (h : cantingref07_way.f k l0 a1 = some r) :
    Calls Try.prog 75 #[.slice A0 l0.length c0, .int .i64 a1] w fun e w' => ∃ v0_ : Value, e = .returned (v0_) ∧ Kd.R (Kd.int .i64) 3 w' w.heap.size (fun _ => True) v0_ r ∧ Below w.heap.size w w' := by
  have HR0 := Aside0.mk hr0
  have HC0 := Aside0.mk hc0
  clear hr0 hc0
  have HB := Aside0.mk (Below.refl w.heap.size w)
  have H : (if 0 ≤ (l0.length : Int) then (if ((l0.length : Int) : Int).toNat ≤ 35184372088832 then ((some (List.replicate ((l0.length : Int) : Int).toNat 0 : List Int)).bind fun y229 => (cantingref07_way.l0 k l0 a1 y229 (y229.length : Int) 0)) else (none)) else (none)) = some r := h
  clear h
  by_cases c3 : 0 ≤ (l0.length : Int)
  · rw [if_pos c3] at H
    have c3b0 := eq_true c3
    (try (have c3b0_0 := c3b0; rw [hl238_0] at c3b0_0))
    (try (have c3b0_1 := c3b0; rw [hl5_1] at c3b0_1))
    (try (have c3b0_2 := c3b0; rw [hl5_2] at c3b0_2))
    (try (have c3b0_3 := c3b0; rw [hl5_3] at c3b0_3))
    have c3b1 : decide (0 ≤ (l0.length : Int)) = true := decide_eq_true c3
    (try (have c3b1_0 := c3b1; rw [hl238_0] at c3b1_0))
    (try (have c3b1_1 := c3b1; rw [hl5_1] at c3b1_1))
    (try (have c3b1_2 := c3b1; rw [hl5_2] at c3b1_2))
    (try (have c3b1_3 := c3b1; rw [hl5_3] at c3b1_3))
    clear c3
    by_cases c4 : ((l0.length : Int) : Int).toNat ≤ 35184372088832
    · rw [if_pos c4] at H
      have c4b0 := eq_true c4
      (try (have c4b0_0 := c4b0; rw [hl238_0] at c4b0_0))
      (try (have c4b0_1 := c4b0; rw [hl5_1] at c4b0_1))
      (try (have c4b0_2 := c4b0; rw [hl5_2] at c4b0_2))
      (try (have c4b0_3 := c4b0; rw [hl5_3] at c4b0_3))
      have c4b1 : decide (((l0.length : Int) : Int).toNat ≤ 35184372088832) = true := decide_eq_true c4
      (try (have c4b1_0 := c4b1; rw [hl238_0] at c4b1_0))
      (try (have c4b1_1 := c4b1; rw [hl5_1] at c4b1_1))
      (try (have c4b1_2 := c4b1; rw [hl5_2] at c4b1_2))
      (try (have c4b1_3 := c4b1; rw [hl5_3] at c4b1_3))
      clear c4
      obtain ⟨y229, hy229⟩ : ∃ y_ : List Int, y_ = (List.replicate ((l0.length : Int) : Int).toNat 0) := ⟨_, rfl⟩
      replace H : (cantingref07_way.l0 k l0 a1 y229 (y229.length : Int) 0) = some r := by first | (rw [hy229]; with_reducible exact H) | (have H2_ := (Option.bind_some _ _).symm.trans H; rw [hy229]; with_reducible exact H2_) | (have H2_ := (Option.bind_some _ _).symm.trans H; with_reducible exact H2_) | with_reducible exact H | (rw [hy229]; exact H) | exact H
      have Ny229 := Aside0.mk hy229
      clear hy229
      have H' := Aside0.mk H
      clear H
      go_enter Try.func75, Try.ntmps75
      go_wp2_with (first | ((with_reducible refine gate_dst (N := 13) rfl ?_); refine Kd.R_make (Kd.int .i64) _ 3 rfl (N := 13) rfl 40 _ _ rfl (l0.length : Int) rfl rfl Try.underlying40 (.int .i64 0) 8 info3 rfl (by decide) (by omega) 0 (ok := fun _ => True) (okp := fun _ => True) rfl (fun _ hk => hk) trivial (of_decide_eq_true (by first | (with_reducible assumption) | assumption)) (Nat.le_trans (Nat.mul_le_mul_right _ (of_decide_eq_true (by first | (with_reducible assumption) | assumption) : (l0.length : Int).toNat ≤ 35184372088832)) (by omega)) (Below.refl _ _) (Nat.le_refl _) ?_; intro v230 w5 ho6 hb hg_ hnew_; clear hg_ hnew_; (first | rw [← Ny229.out] at ho6 | (simp only [Int.reduceToNat] at ho6; rw [← Ny229.out] at ho6)); have n0_ := Aside0.mk (Kd.R_lower ho6 (below_size (by repeat (first | (with_reducible first | exact HB.out | apply below_alloc | apply pw_below_drewN | apply below_drew1) | exact HB.out)))); have n1_ := Aside0.mk (below_step (by repeat (first | (with_reducible first | exact HB.out | apply below_alloc | apply pw_below_drewN | apply below_drew1) | exact HB.out)) hb); clear HB; have HO231 := n0_; have HB := n1_; clear n0_ n1_; clear hb ho6; obtain ⟨Ao7, co7, eo7⟩ := Kd.R_slice HO231.out; subst eo7))
      go_loopg [16] k (fun kq v16 w' => ∃ (x5_1 : List Int) (x16_1 : Int), v16 = .int .i64 x16_1 ∧ Aside0 (cantingref07_way.l0 kq l0 a1 x5_1 (y229.length : Int) x16_1 = some r) ∧ Aside0 (kq ≤ k) ∧ Aside0 (Kd.R (Kd.int .i64) 3 w' w.heap.size (fun _ => True) (.slice Ao7 y229.length co7) x5_1) ∧ Aside0 (Below w.heap.size w w'))
      case atStart => exact ⟨(y229), (0), (by first | rfl | (simp; done) | (simp [*]; done)), H', ⟨Nat.le_refl _⟩, ⟨by (with_reducible repeat (first | apply Kd.R_alloc | apply Kd.R_drewN | apply Kd.R_drew)); exact HO231.out⟩, ⟨by repeat (first | (with_reducible first | exact HB.out | apply below_alloc | apply pw_below_drewN | apply below_drew1) | exact HB.out)⟩⟩
      case round =>
        clear H'
        try clear p2
        try clear c3
        try clear c3b0
        try clear c3b1
        try clear c4
        try clear c4b0
        try clear c4b1
        try clear c7
        obtain ⟨x5_1, x16_1, rfl, HA, HK1, HO_5, HB⟩ := hrel
        have hl5_1 := (Kd.R_reads' HO_5.out).1
        rw [hl5_1] at HO_5
        (try simp only [hl5_1])
        cases gk with
        | zero => exact absurd HA.out (by simp [cantingref07_way.l0])
        | succ k1 =>
          have H := HA.out
          clear HA
          simp only [cantingref07_way.l0] at H
          by_cases c8 : x16_1 < (y229.length : Int)
          · rw [if_pos c8] at H
            have c8b0 : decide (x16_1 < (y229.length : Int)) = true := decide_eq_true c8
            (try (have c8b0_0 := c8b0; rw [hl238_0] at c8b0_0))
            (try (have c8b0_1 := c8b0; rw [hl5_1] at c8b0_1))
            (try (have c8b0_2 := c8b0; rw [hl5_2] at c8b0_2))
            (try (have c8b0_3 := c8b0; rw [hl5_3] at c8b0_3))
            clear c8
            by_cases c9 : 0 ≤ x16_1
            · rw [if_pos c9] at H
              have c9b0 : decide (0 ≤ x16_1) = true := decide_eq_true c9
              (try (have c9b0_0 := c9b0; rw [hl238_0] at c9b0_0))
              (try (have c9b0_1 := c9b0; rw [hl5_1] at c9b0_1))
              (try (have c9b0_2 := c9b0; rw [hl5_2] at c9b0_2))
              (try (have c9b0_3 := c9b0; rw [hl5_3] at c9b0_3))
              clear c9
              by_cases c10 : x16_1 < (x5_1.length : Int)
              · rw [if_pos c10] at H
                have c10b0 : decide (x16_1 < (x5_1.length : Int)) = true := decide_eq_true c10
                (try (have c10b0_0 := c10b0; rw [hl238_0] at c10b0_0))
                (try (have c10b0_1 := c10b0; rw [hl5_1] at c10b0_1))
                (try (have c10b0_2 := c10b0; rw [hl5_2] at c10b0_2))
                (try (have c10b0_3 := c10b0; rw [hl5_3] at c10b0_3))
                clear c10
                obtain ⟨y232, hy232⟩ : ∃ y_ : List Int, y_ = (x5_1.set (x16_1 : Int).toNat (-1)) := ⟨_, rfl⟩
                replace H : (cantingref07_way.l0 k1 l0 a1 y232 (y229.length : Int) (wrap64 (x16_1 + 1))) = some r := by first | (rw [hy232]; with_reducible exact H) | (have H2_ := (Option.bind_some _ _).symm.trans H; rw [hy232]; with_reducible exact H2_) | (have H2_ := (Option.bind_some _ _).symm.trans H; with_reducible exact H2_) | with_reducible exact H | (rw [hy232]; exact H) | exact H
                have Ny232 := Aside0.mk hy232
                clear hy232
                have H' := Aside0.mk H
                clear H
                have p11 : 0 ≤ (x16_1 : Int) := of_decide_eq_true (by first | (with_reducible assumption) | assumption)
                have q11 : (x16_1 : Int) < ((x5_1.length : Int) : Int) := of_decide_eq_true (by first | (with_reducible assumption) | assumption)
                obtain ⟨go11, co11, eo11, gb11, gl11, cl11, HG11⟩ := Kd.R_form HO_5.out (by omega)
                (first | cases eo11 | (injection eo11 with ea_ en_ ec_; (first | subst ea_ | (injection ea_ with ea_; subst ea_)); subst ec_; clear en_))
                have GB11 := Aside0.mk gb11
                have GG11 := Aside0.mk HG11
                clear gb11 gl11 HG11
                obtain ⟨hx11_0, hf11_0⟩ := Kd.R_celln 0 HO_5.out (x16_1 : Int) p11 q11
                replace p11 := eq_true p11
                replace q11 := eq_true q11
                have HP12 := Kd.R_putg HO_5.out (x16_1 : Int) (-1)
                go_wp2_with (first | ((with_reducible refine gate_store (t := 3) (p := 21) rfl ?_); refine store_event (t := 3) (p := 21) (v := ?vo_w13) (w1 := (wr.setCell ⟨go11, (x16_1 : Int).toNat, none⟩ (.int .i64 (-1)))) ?hg ?ho ?hn ?hr ?_; (case ho => rfl); (case hg => rfl); (case hn => rfl); (case hr => first | (go_simp; done) | (go_simp; rfl)); intro w13 hw; have hg : wr.grownBy w13 (some go11) := (by rw [hw]; exact HP12.2); have hp_ : Kd.R (Kd.int .i64) 3 w13 w.heap.size (fun _ => True) (.slice (some ⟨go11, 0, none⟩) x5_1.length co7) y232 := (by rw [hw, Ny232.out]; exact HP12.1); clear HP12; have n0_ := Aside0.mk (hp_); have n1_ := Aside0.mk ((by rw [hw]; exact below_set (HB.out) GB11.out : Below w.heap.size w w13)); clear HO_5; clear HB; have HO_5 := n0_; have HB := n1_; clear n0_ n1_; clear hg hw hp_))
                (try simp only [← hl5_1])
                go_roundg k1
                case measure => have := HK1.out; omega
                case rel => exact ⟨(y232), (wrap64 (x16_1 + 1)), (by first | rfl | (simp; done) | (simp [*]; done)), H', ⟨by have := HK1.out; omega⟩, ⟨by (try simp only [hl5_1]); (with_reducible repeat (first | apply Kd.R_alloc | apply Kd.R_drewN | apply Kd.R_drew)); exact HO_5.out⟩, ⟨by repeat (first | (with_reducible first | exact HB.out | apply below_alloc | apply pw_below_drewN | apply below_drew1) | exact HB.out)⟩⟩
              · rw [if_neg c10] at H
                exact absurd H (by simp)
            · rw [if_neg c9] at H
              exact absurd H (by simp)
          · rw [if_neg c8] at H
            have c8b0 : decide (x16_1 < (y229.length : Int)) = false := decide_eq_false c8
            (try (have c8b0_0 := c8b0; rw [hl238_0] at c8b0_0))
            (try (have c8b0_1 := c8b0; rw [hl5_1] at c8b0_1))
            (try (have c8b0_2 := c8b0; rw [hl5_2] at c8b0_2))
            (try (have c8b0_3 := c8b0; rw [hl5_3] at c8b0_3))
            clear c8
            by_cases c14 : 0 ≤ a1
            · rw [if_pos c14] at H
              have c14b0 : decide (0 ≤ a1) = true := decide_eq_true c14
              (try (have c14b0_0 := c14b0; rw [hl238_0] at c14b0_0))
              (try (have c14b0_1 := c14b0; rw [hl5_1] at c14b0_1))
              (try (have c14b0_2 := c14b0; rw [hl5_2] at c14b0_2))
              (try (have c14b0_3 := c14b0; rw [hl5_3] at c14b0_3))
              clear c14
              by_cases c15 : a1 < (x5_1.length : Int)
              · rw [if_pos c15] at H
                have c15b0 : decide (a1 < (x5_1.length : Int)) = true := decide_eq_true c15
                (try (have c15b0_0 := c15b0; rw [hl238_0] at c15b0_0))
                (try (have c15b0_1 := c15b0; rw [hl5_1] at c15b0_1))
                (try (have c15b0_2 := c15b0; rw [hl5_2] at c15b0_2))
                (try (have c15b0_3 := c15b0; rw [hl5_3] at c15b0_3))
                clear c15
                obtain ⟨y233, hy233⟩ : ∃ y_ : List Int, y_ = (x5_1.set (a1 : Int).toNat a1) := ⟨_, rfl⟩
                replace H : (cantingref07_way.l1 k1 l0 y233 (([a1] : List Int)) 0) = some r := by first | (rw [hy233]; with_reducible exact H) | (have H2_ := (Option.bind_some _ _).symm.trans H; rw [hy233]; with_reducible exact H2_) | (have H2_ := (Option.bind_some _ _).symm.trans H; with_reducible exact H2_) | with_reducible exact H | (rw [hy233]; exact H) | exact H
                have Ny233 := Aside0.mk hy233
                clear hy233
                obtain ⟨y234, hy234⟩ : ∃ y_ : List Int, y_ = (([a1] : List Int)) := ⟨_, rfl⟩
                replace H : (cantingref07_way.l1 k1 l0 y233 y234 0) = some r := by first | (rw [hy234]; with_reducible exact H) | (have H2_ := (Option.bind_some _ _).symm.trans H; rw [hy234]; with_reducible exact H2_) | (have H2_ := (Option.bind_some _ _).symm.trans H; with_reducible exact H2_) | with_reducible exact H | (rw [hy234]; exact H) | exact H
                have Ny234 := Aside0.mk hy234
                clear hy234
                have H' := Aside0.mk H
                clear H
                have p16 : 0 ≤ (a1 : Int) := of_decide_eq_true (by first | (with_reducible assumption) | assumption)
                have q16 : (a1 : Int) < ((x5_1.length : Int) : Int) := of_decide_eq_true (by first | (with_reducible assumption) | assumption)
                obtain ⟨go16, co16, eo16, gb16, gl16, cl16, HG16⟩ := Kd.R_form HO_5.out (by omega)
                (first | cases eo16 | (injection eo16 with ea_ en_ ec_; (first | subst ea_ | (injection ea_ with ea_; subst ea_)); subst ec_; clear en_))
                have GB16 := Aside0.mk gb16
                have GG16 := Aside0.mk HG16
                clear gb16 gl16 HG16
                obtain ⟨hx16_0, hf16_0⟩ := Kd.R_celln 0 HO_5.out (a1 : Int) p16 q16
                replace p16 := eq_true p16
                replace q16 := eq_true q16
                have HP17 := Kd.R_putg HO_5.out (a1 : Int) a1
                go_wp2_with (first | ((with_reducible refine gate_store (t := 3) (p := 26) rfl ?_); refine store_event (t := 3) (p := 26) (v := ?vo_w18) (w1 := (wr.setCell ⟨go16, (a1 : Int).toNat, none⟩ (.int .i64 a1))) ?hg ?ho ?hn ?hr ?_; (case ho => rfl); (case hg => rfl); (case hn => rfl); (case hr => first | (go_simp; done) | (go_simp; rfl)); intro w18 hw; have hg : wr.grownBy w18 (some go16) := (by rw [hw]; exact HP17.2); have hp_ : Kd.R (Kd.int .i64) 3 w18 w.heap.size (fun _ => True) (.slice (some ⟨go16, 0, none⟩) x5_1.length co7) y233 := (by rw [hw, Ny233.out]; exact HP17.1); clear HP17; have n0_ := Aside0.mk (hp_); have n1_ := Aside0.mk ((by rw [hw]; exact below_set (HB.out) GB16.out : Below w.heap.size w w18)); clear HO_5; clear HB; have HO_5 := n0_; have HB := n1_; clear n0_ n1_; clear hg hw hp_) | ((with_reducible refine gate_dst (N := 28) rfl ?_); refine Kd.R_lit (Kd.int .i64) _ 3 ?hg (N := 28) ?hd (xs := ([a1] : List Int)) (inner := [.int .i64 a1]) (ok := fun _ => True) (okp := fun _ => True) ?hr ?hp (fun _ hk => hk) trivial (Below.refl _ _) (Nat.le_refl _) (by simp) ?_; (case hd => rfl); (case hg => rfl); (case hr => first | (go_simp; done) | (go_simp; rfl)); (case hp => exact (Reps.one (show Kd.M (Kd.int .i64) _ _ _ a1 [.int .i64 a1] from rfl) (Reps.none _ _))); intro v235 w19 ho20 hb hg_ hnew_; clear hg_ hnew_; (first | rw [← Ny234.out] at ho20 | (simp only [Int.reduceToNat] at ho20; rw [← Ny234.out] at ho20)); have n0_ := Aside0.mk (Kd.R_elder' (by (with_reducible repeat (first | apply Kd.R_alloc | apply Kd.R_drewN | apply Kd.R_drew)); exact HO_5.out) (Kd.R_base ho20) hb); have n1_ := Aside0.mk (Kd.R_lower (Kd.R_new' ho20 (Kd.R_lt (by (with_reducible repeat (first | apply Kd.R_alloc | apply Kd.R_drewN | apply Kd.R_drew)); exact HO_5.out))) (below_size (by repeat (first | (with_reducible first | exact HB.out | apply below_alloc | apply pw_below_drewN | apply below_drew1) | exact HB.out)))); have n2_ := Aside0.mk (below_step (by repeat (first | (with_reducible first | exact HB.out | apply below_alloc | apply pw_below_drewN | apply below_drew1) | exact HB.out)) hb); clear HO_5; clear HB; have HO_5 := n0_; have HO236 := n1_; have HB := n2_; clear n0_ n1_ n2_; clear hb ho20))
                go_loopg [7, 8] k1 (fun kq v7 v8 w' => ∃ (x5_2 : List Int) (x7_2 : List Int) (x8_2 : Int), v8 = .int .i64 x8_2 ∧ Aside0 (cantingref07_way.l1 kq l0 x5_2 x7_2 x8_2 = some r) ∧ Aside0 (kq ≤ k1) ∧ Aside0 (Kd.R (Kd.int .i64) 3 w' w.heap.size (fun k_ => some k_ ≠ (v7 : Value).ownBlock) (.slice (some ⟨go16, 0, none⟩) x5_1.length co7) x5_2) ∧ Aside0 (Kd.R (Kd.int .i64) 3 w' w.heap.size (fun k_ => some k_ ≠ ((.slice (some ⟨go16, 0, none⟩) x5_1.length co7) : Value).ownBlock) v7 x7_2) ∧ Aside0 (Below w.heap.size w w'))
                case atStart => exact ⟨(y233), (y234), (0), (by first | rfl | (simp; done) | (simp [*]; done)), H', ⟨Nat.le_refl _⟩, ⟨by (try simp only [hl5_1]); (with_reducible repeat (first | apply Kd.R_alloc | apply Kd.R_drewN | apply Kd.R_drew)); exact Kd.R_mono HO_5.out (fun _ hk => hk.2)⟩, ⟨by (try simp only [hl5_1]); (with_reducible repeat (first | apply Kd.R_alloc | apply Kd.R_drewN | apply Kd.R_drew)); exact Kd.R_mono HO236.out (fun _ hk => hk.2)⟩, ⟨by repeat (first | (with_reducible first | exact HB.out | apply below_alloc | apply pw_below_drewN | apply below_drew1) | exact HB.out)⟩⟩
                case round =>
                  clear H'
                  try clear c1
                  try clear p1
                  try clear q1
                  try clear hx1
                  try clear p2
                  try clear c3
                  try clear c3b0
                  try clear c3b1
                  try clear c4
                  try clear c4b0
                  try clear c4b1
                  try clear p6
                  try clear c7
                  try clear c8
                  try clear c8b0
                  try clear c9
                  try clear c9b0
                  try clear c10
                  try clear c10b0
                  try clear p11
                  try clear q11
                  try clear hx11
                  try clear hf11
                  try clear c14
                  try clear c14b0
                  try clear c15
                  try clear c15b0
                  try clear p16
                  try clear q16
                  try clear hx16
                  try clear hf16
                  try clear hx11_0
                  try clear hx16_0
                  try clear p11
                  try clear p16
                  try clear p2
                  try clear q11
                  try clear q16
                  obtain ⟨x5_2, x7_2, x8_2, rfl, HA, HK2, HO_5, HO_7, HB⟩ := hrel
                  have hl5_2 := (Kd.R_reads' HO_5.out).1
                  rw [hl5_2] at HO_5
                  (try simp only [hl5_2])
                  (try simp only [hl5_2] at HO_7)
                  cases gk with
                  | zero => exact absurd HA.out (by simp [cantingref07_way.l1])
                  | succ k2 =>
                    have H := HA.out
                    clear HA
                    simp only [cantingref07_way.l1] at H
                    by_cases c21 : x8_2 < (x7_2.length : Int)
                    · rw [if_pos c21] at H
                      have c21b0 : decide (x8_2 < (x7_2.length : Int)) = true := decide_eq_true c21
                      (try (have c21b0_0 := c21b0; rw [hl238_0] at c21b0_0))
                      (try (have c21b0_1 := c21b0; rw [hl5_1] at c21b0_1))
                      (try (have c21b0_2 := c21b0; rw [hl5_2] at c21b0_2))
                      (try (have c21b0_3 := c21b0; rw [hl5_3] at c21b0_3))
                      clear c21
                      by_cases c22 : 0 ≤ x8_2
                      · rw [if_pos c22] at H
                        have c22b0 : decide (0 ≤ x8_2) = true := decide_eq_true c22
                        (try (have c22b0_0 := c22b0; rw [hl238_0] at c22b0_0))
                        (try (have c22b0_1 := c22b0; rw [hl5_1] at c22b0_1))
                        (try (have c22b0_2 := c22b0; rw [hl5_2] at c22b0_2))
                        (try (have c22b0_3 := c22b0; rw [hl5_3] at c22b0_3))
                        clear c22
                        by_cases c23 : 0 ≤ (rd x7_2 x8_2)
                        · rw [if_pos c23] at H
                          have c23b0 : decide (0 ≤ (rd x7_2 x8_2)) = true := decide_eq_true c23
                          (try (have c23b0_0 := c23b0; rw [hl238_0] at c23b0_0))
                          (try (have c23b0_1 := c23b0; rw [hl5_1] at c23b0_1))
                          (try (have c23b0_2 := c23b0; rw [hl5_2] at c23b0_2))
                          (try (have c23b0_3 := c23b0; rw [hl5_3] at c23b0_3))
                          clear c23
                          by_cases c24 : (rd x7_2 x8_2) < (l0.length : Int)
                          · rw [if_pos c24] at H
                            have c24b0 : decide ((rd x7_2 x8_2) < (l0.length : Int)) = true := decide_eq_true c24
                            (try (have c24b0_0 := c24b0; rw [hl238_0] at c24b0_0))
                            (try (have c24b0_1 := c24b0; rw [hl5_1] at c24b0_1))
                            (try (have c24b0_2 := c24b0; rw [hl5_2] at c24b0_2))
                            (try (have c24b0_3 := c24b0; rw [hl5_3] at c24b0_3))
                            clear c24
                            have H' := Aside0.mk H
                            clear H
                            obtain ⟨Ao25, co25, eo25⟩ := Kd.R_slice HO_7.out
                            subst eo25
                            have p237 : 0 ≤ (x8_2 : Int) := of_decide_eq_true (by first | (with_reducible assumption) | assumption)
                            have q237 : x8_2 < (x7_2.length : Int) := of_decide_eq_true (by first | (with_reducible assumption) | assumption)
                            obtain ⟨ad237, e237, hx237_0⟩ := Kd.at_int (Kd.R_reads' HO_7.out).2.2 x8_2 p237 q237
                            cases e237
                            replace p237 := eq_true p237
                            replace q237 := eq_true q237
                            have p238 : 0 ≤ ((rd x7_2 x8_2) : Int) := of_decide_eq_true (by first | (with_reducible assumption) | assumption)
                            have q238 : (rd x7_2 x8_2) < (l0.length : Int) := of_decide_eq_true (by first | (with_reducible assumption) | assumption)
                            obtain ⟨ad238, A238_0, c238_0, e238, hx238_0, hl238_0, hi238_0⟩ := at_L4 HR0.out (rd x7_2 x8_2) p238 q238
                            cases e238
                            replace hx238_0 := (HB.out.cell (World.block_lt_of_cell? w _ hx238_0)).trans hx238_0
                            have HR238_0 := Aside0.mk hi238_0
                            have HC238_0 := Aside0.mk hl238_0
                            clear hi238_0 hl238_0
                            replace p238 := eq_true p238
                            replace q238 := eq_true q238
                            go_wp2
                            go_loopg [7, 43] k2 (fun kq v7 v43 w' => ∃ (x5_3 : List Int) (x7_3 : List Int) (x43_3 : Int), v43 = .int .i64 x43_3 ∧ Aside0 (cantingref07_way.l2 kq l0 x5_3 x7_3 x8_2 (rd_L4 l0 (rd x7_2 x8_2)) ((rd_L4 l0 (rd x7_2 x8_2)).length : Int) x43_3 = some r) ∧ Aside0 (kq ≤ k2) ∧ Aside0 (Kd.R (Kd.int .i64) 3 w' w.heap.size (fun k_ => some k_ ≠ (v7 : Value).ownBlock) (.slice (some ⟨go16, 0, none⟩) x5_2.length co7) x5_3) ∧ Aside0 (Kd.R (Kd.int .i64) 3 w' w.heap.size (fun k_ => some k_ ≠ ((.slice (some ⟨go16, 0, none⟩) x5_2.length co7) : Value).ownBlock) v7 x7_3) ∧ Aside0 (Below w.heap.size w w'))
                            case atStart => exact ⟨(x5_2), (x7_2), (0), (by first | rfl | (simp; done) | (simp [*]; done)), H', ⟨Nat.le_refl _⟩, ⟨by (try simp only [hl5_1]); (try simp only [hl5_2]); (with_reducible repeat (first | apply Kd.R_alloc | apply Kd.R_drewN | apply Kd.R_drew)); exact HO_5.out⟩, ⟨by (try simp only [hl5_1]); (try simp only [hl5_2]); (with_reducible repeat (first | apply Kd.R_alloc | apply Kd.R_drewN | apply Kd.R_drew)); exact HO_7.out⟩, ⟨by repeat (first | (with_reducible first | exact HB.out | apply below_alloc | apply pw_below_drewN | apply below_drew1) | exact HB.out)⟩⟩
                            case round =>
                              clear H'
                              try clear c1
                              try clear p1
                              try clear q1
                              try clear hx1
                              try clear c2
                              try clear p2
                              try clear q2
                              try clear hx2
                              try clear c3
                              try clear c3b0
                              try clear c3b1
                              try clear c4
                              try clear c4b0
                              try clear c4b1
                              try clear p6
                              try clear c7
                              try clear c8
                              try clear c8b0
                              try clear c9
                              try clear c9b0
                              try clear c10
                              try clear c10b0
                              try clear p11
                              try clear q11
                              try clear hx11
                              try clear hf11
                              try clear c14
                              try clear c14b0
                              try clear c15
                              try clear c15b0
                              try clear p16
                              try clear q16
                              try clear hx16
                              try clear hf16
                              try clear c21
                              try clear c21b0
                              try clear c22
                              try clear c22b0
                              try clear c23
                              try clear c23b0
                              try clear p23
                              try clear q23
                              try clear hx23
                              try clear c24
                              try clear c24b0
                              try clear hx11_0
                              try clear hx16_0
                              try clear hx237_0
                              try clear hx238_0
                              try clear p1
                              try clear p11
                              try clear p16
                              try clear p2
                              try clear p237
                              try clear p238
                              try clear p6
                              try clear q1
                              try clear q11
                              try clear q16
                              try clear q237
                              try clear q238
                              obtain ⟨x5_3, x7_3, x43_3, rfl, HA, HK3, HO_5, HO_7, HB⟩ := hrel
                              have hl5_3 := (Kd.R_reads' HO_5.out).1
                              rw [hl5_3] at HO_5
                              (try simp only [hl5_3])
                              (try simp only [hl5_3] at HO_7)
                              cases gk with
                              | zero => exact absurd HA.out (by simp [cantingref07_way.l2])
                              | succ k3 =>
                                have H := HA.out
                                clear HA
                                simp only [cantingref07_way.l2] at H
                                by_cases c26 : x43_3 < ((rd_L4 l0 (rd x7_2 x8_2)).length : Int)
                                · rw [if_pos c26] at H
                                  have c26b0 : decide (x43_3 < ((rd_L4 l0 (rd x7_2 x8_2)).length : Int)) = true := decide_eq_true c26
                                  (try (have c26b0_0 := c26b0; rw [hl238_0] at c26b0_0))
                                  (try (have c26b0_1 := c26b0; rw [hl5_1] at c26b0_1))
                                  (try (have c26b0_2 := c26b0; rw [hl5_2] at c26b0_2))
                                  (try (have c26b0_3 := c26b0; rw [hl5_3] at c26b0_3))
                                  clear c26
                                  by_cases c27 : 0 ≤ x43_3
                                  · rw [if_pos c27] at H
                                    have c27b0 : decide (0 ≤ x43_3) = true := decide_eq_true c27
                                    (try (have c27b0_0 := c27b0; rw [hl238_0] at c27b0_0))
                                    (try (have c27b0_1 := c27b0; rw [hl5_1] at c27b0_1))
                                    (try (have c27b0_2 := c27b0; rw [hl5_2] at c27b0_2))
                                    (try (have c27b0_3 := c27b0; rw [hl5_3] at c27b0_3))
                                    clear c27
                                    by_cases c28 : x43_3 < ((rd_L4 l0 (rd x7_2 x8_2)).length : Int)
                                    · rw [if_pos c28] at H
                                      have c28b0 : decide (x43_3 < ((rd_L4 l0 (rd x7_2 x8_2)).length : Int)) = true := decide_eq_true c28
                                      (try (have c28b0_0 := c28b0; rw [hl238_0] at c28b0_0))
                                      (try (have c28b0_1 := c28b0; rw [hl5_1] at c28b0_1))
                                      (try (have c28b0_2 := c28b0; rw [hl5_2] at c28b0_2))
                                      (try (have c28b0_3 := c28b0; rw [hl5_3] at c28b0_3))
                                      clear c28
                                      by_cases c29 : (rd (rd_L4 l0 (rd x7_2 x8_2)) x43_3) > 0
                                      · rw [if_pos c29] at H
                                        have c29b0 : decide (0 < (rd (rd_L4 l0 (rd x7_2 x8_2)) x43_3)) = true := decide_eq_true c29
                                        (try (have c29b0_0 := c29b0; rw [hl238_0] at c29b0_0))
                                        (try (have c29b0_1 := c29b0; rw [hl5_1] at c29b0_1))
                                        (try (have c29b0_2 := c29b0; rw [hl5_2] at c29b0_2))
                                        (try (have c29b0_3 := c29b0; rw [hl5_3] at c29b0_3))
                                        clear c29
                                        by_cases c30 : x43_3 < (x5_3.length : Int)
                                        · rw [if_pos c30] at H
                                          have c30b0 : decide (x43_3 < (x5_3.length : Int)) = true := decide_eq_true c30
                                          (try (have c30b0_0 := c30b0; rw [hl238_0] at c30b0_0))
                                          (try (have c30b0_1 := c30b0; rw [hl5_1] at c30b0_1))
                                          (try (have c30b0_2 := c30b0; rw [hl5_2] at c30b0_2))
                                          (try (have c30b0_3 := c30b0; rw [hl5_3] at c30b0_3))
                                          clear c30
                                          by_cases c31 : (rd x5_3 x43_3) < 0
                                          · rw [if_pos c31] at H
                                            have c31b0 : decide ((rd x5_3 x43_3) < 0) = true := decide_eq_true c31
                                            (try (have c31b0_0 := c31b0; rw [hl238_0] at c31b0_0))
                                            (try (have c31b0_1 := c31b0; rw [hl5_1] at c31b0_1))
                                            (try (have c31b0_2 := c31b0; rw [hl5_2] at c31b0_2))
                                            (try (have c31b0_3 := c31b0; rw [hl5_3] at c31b0_3))
                                            clear c31
                                            by_cases c32 : 0 ≤ x8_2
                                            · rw [if_pos c32] at H
                                              have c32b0 : decide (0 ≤ x8_2) = true := decide_eq_true c32
                                              (try (have c32b0_0 := c32b0; rw [hl238_0] at c32b0_0))
                                              (try (have c32b0_1 := c32b0; rw [hl5_1] at c32b0_1))
                                              (try (have c32b0_2 := c32b0; rw [hl5_2] at c32b0_2))
                                              (try (have c32b0_3 := c32b0; rw [hl5_3] at c32b0_3))
                                              clear c32
                                              by_cases c33 : x8_2 < (x7_3.length : Int)
                                              · rw [if_pos c33] at H
                                                have c33b0 : decide (x8_2 < (x7_3.length : Int)) = true := decide_eq_true c33
                                                (try (have c33b0_0 := c33b0; rw [hl238_0] at c33b0_0))
                                                (try (have c33b0_1 := c33b0; rw [hl5_1] at c33b0_1))
                                                (try (have c33b0_2 := c33b0; rw [hl5_2] at c33b0_2))
                                                (try (have c33b0_3 := c33b0; rw [hl5_3] at c33b0_3))
                                                clear c33
                                                obtain ⟨y242, hy242⟩ : ∃ y_ : List Int, y_ = (x5_3.set (x43_3 : Int).toNat (rd x7_3 x8_2)) := ⟨_, rfl⟩
                                                replace H : (if x7_3.length < 17592186044416 then (cantingref07_way.l2 k3 l0 y242 (x7_3 ++ [x43_3]) x8_2 (rd_L4 l0 (rd x7_2 x8_2)) ((rd_L4 l0 (rd x7_2 x8_2)).length : Int) (wrap64 (x43_3 + 1))) else (none)) = some r := by first | (rw [hy242]; with_reducible exact H) | (have H2_ := (Option.bind_some _ _).symm.trans H; rw [hy242]; with_reducible exact H2_) | (have H2_ := (Option.bind_some _ _).symm.trans H; with_reducible exact H2_) | with_reducible exact H | (rw [hy242]; exact H) | exact H
                                                have Ny242 := Aside0.mk hy242
                                                clear hy242
                                                by_cases c35 : x7_3.length < 17592186044416
                                                · rw [if_pos c35] at H
                                                  have LMc35 := Aside0.mk c35
                                                  clear c35
                                                  obtain ⟨y243, hy243⟩ : ∃ y_ : List Int, y_ = (x7_3 ++ [x43_3]) := ⟨_, rfl⟩
                                                  replace H : (cantingref07_way.l2 k3 l0 y242 y243 x8_2 (rd_L4 l0 (rd x7_2 x8_2)) ((rd_L4 l0 (rd x7_2 x8_2)).length : Int) (wrap64 (x43_3 + 1))) = some r := by first | (rw [hy243]; with_reducible exact H) | (have H2_ := (Option.bind_some _ _).symm.trans H; rw [hy243]; with_reducible exact H2_) | (have H2_ := (Option.bind_some _ _).symm.trans H; with_reducible exact H2_) | with_reducible exact H | (rw [hy243]; exact H) | exact H
                                                  have Ny243 := Aside0.mk hy243
                                                  clear hy243
                                                  have H' := Aside0.mk H
                                                  clear H
                                                  have p239 : 0 ≤ (x43_3 : Int) := of_decide_eq_true (by first | (with_reducible assumption) | assumption)
                                                  have q239 : x43_3 < ((rd_L4 l0 (rd x7_2 x8_2)).length : Int) := of_decide_eq_true (by first | (with_reducible assumption) | assumption)
                                                  obtain ⟨ad239, e239, hx239_0⟩ := Kd.at_int HR238_0.out x43_3 p239 q239
                                                  cases e239
                                                  replace hx239_0 := (HB.out.cell (World.block_lt_of_cell? w _ hx239_0)).trans hx239_0
                                                  replace p239 := eq_true p239
                                                  replace q239 := eq_true q239
                                                  have p240 : 0 ≤ (x43_3 : Int) := of_decide_eq_true (by first | (with_reducible assumption) | assumption)
                                                  have q240 : x43_3 < (x5_3.length : Int) := of_decide_eq_true (by first | (with_reducible assumption) | assumption)
                                                  obtain ⟨ad240, e240, hx240_0⟩ := Kd.at_int (Kd.R_reads' HO_5.out).2.2 x43_3 p240 q240
                                                  obtain rfl : (⟨go16, 0, none⟩ : Addr) = ad240 := (by injection e240)
                                                  (first | simp only [add_plain] at hx240_0 | simp only [add_at] at hx240_0 | simp only [Addr.add, Nat.zero_add] at hx240_0 | skip)
                                                  replace p240 := eq_true p240
                                                  replace q240 := eq_true q240
                                                  obtain ⟨Ao36, co36, eo36⟩ := Kd.R_slice HO_7.out
                                                  subst eo36
                                                  have p241 : 0 ≤ (x8_2 : Int) := of_decide_eq_true (by first | (with_reducible assumption) | assumption)
                                                  have q241 : x8_2 < (x7_3.length : Int) := of_decide_eq_true (by first | (with_reducible assumption) | assumption)
                                                  obtain ⟨ad241, e241, hx241_0⟩ := Kd.at_int (Kd.R_reads' HO_7.out).2.2 x8_2 p241 q241
                                                  cases e241
                                                  replace p241 := eq_true p241
                                                  replace q241 := eq_true q241
                                                  have p34 : 0 ≤ (x43_3 : Int) := of_decide_eq_true (by first | (with_reducible assumption) | assumption)
                                                  have q34 : (x43_3 : Int) < ((x5_3.length : Int) : Int) := of_decide_eq_true (by first | (with_reducible assumption) | assumption)
                                                  obtain ⟨hx34_0, hf34_0⟩ := Kd.R_celln 0 HO_5.out (x43_3 : Int) p34 q34
                                                  replace p34 := eq_true p34
                                                  replace q34 := eq_true q34
                                                  have HP37 := Kd.R_putg HO_5.out (x43_3 : Int) (rd x7_3 x8_2)
                                                  go_wp2_with (first | ((with_reducible refine gate_store (t := 3) (p := 63) rfl ?_); refine store_event (t := 3) (p := 63) (v := ?vo_w38) (w1 := (wr.setCell ⟨go16, (x43_3 : Int).toNat, none⟩ (.int .i64 (rd x7_3 x8_2)))) ?hg ?ho ?hn ?hr ?_; (case ho => rfl); (case hg => rfl); (case hn => rfl); (case hr => first | (go_simp; done) | (go_simp; rfl)); intro w38 hw; have hg : wr.grownBy w38 (some go16) := (by rw [hw]; exact HP37.2); have hp_ : Kd.R (Kd.int .i64) 3 w38 w.heap.size (fun k_ => some k_ ≠ (.slice (some ad241) x7_3.length co36 : Value).ownBlock) (.slice (some ⟨go16, 0, none⟩) x5_3.length co7) y242 := (by rw [hw, Ny242.out]; exact HP37.1); clear HP37; have n0_ := Aside0.mk (hp_); have n1_ := Aside0.mk (Kd.R_after (v := (.slice (some ⟨go16, 0, none⟩) x5_3.length co7)) (v1 := (.slice (some ⟨go16, 0, none⟩) x5_3.length co7)) (ok := (fun _ => True)) (by (with_reducible repeat (first | apply Kd.R_alloc | apply Kd.R_drewN | apply Kd.R_drew)); exact Kd.R_mono HO_7.out (fun _ hk => ⟨trivial, hk⟩)) hg (.inl rfl)); have n2_ := Aside0.mk ((by rw [hw]; exact below_set (HB.out) GB16.out : Below w.heap.size w w38)); clear HO_5; clear HO_7; clear HB; have HO_5 := n0_; have HO_7 := n1_; have HB := n2_; clear n0_ n1_ n2_; clear hg hw hp_) | ((with_reducible refine gate_builtin (b := .append) (xs := #[.tmp 64, .tmp 66]) rfl ?_); at_builtin; refine Kd.R_append (Kd.int .i64) (w0 := w) w.heap.size rfl (.tmp 64) (.tmp 66) 40 3 (.int .i64 0) 8 rfl Try.underlying40 info3 rfl (by decide) (by omega) (.slice (some ad241) x7_3.length co36) x7_3 x43_3 [.int .i64 x43_3] (fun k_ => some k_ ≠ (.slice (some ⟨go16, 0, none⟩) x5_3.length co7 : Value).ownBlock) (fun _ => False) rfl rfl ?aP (fun _ hk => hk.elim) ?aF ?aO ?aB ?aS ?aL ?_; (case aP => exact rfl); (case aB => exact (by repeat (first | (with_reducible first | exact HB.out | apply below_alloc | apply pw_below_drewN | apply below_drew1) | exact HB.out))); (case aF => exact (fun k_ hk => Kd.fresh' (Kd.R_lt (by (with_reducible repeat (first | apply Kd.R_alloc | apply Kd.R_drewN | apply Kd.R_drew)); exact HO_5.out)) k_ hk)); (case aO => exact (by (with_reducible repeat (first | apply Kd.R_alloc | apply Kd.R_drewN | apply Kd.R_drew)); exact Kd.R_mono HO_7.out (fun _ hk => hk.2))); (case aS => exact (below_size (by repeat (first | (with_reducible first | exact HB.out | apply below_alloc | apply pw_below_drewN | apply below_drew1) | exact HB.out)))); (case aL => have := LMc35.out; omega); intro v244 w39 ho hb hg hat; rw [← Ny243.out] at ho; have n0_ := Aside0.mk (Kd.R_after (ok := (fun _ => True)) (by (with_reducible repeat (first | apply Kd.R_alloc | apply Kd.R_drewN | apply Kd.R_drew)); exact Kd.R_mono HO_5.out (fun _ hk => ⟨trivial, hk⟩)) hg hat); have n1_ := Aside0.mk (hb); have n2_ := Aside0.mk (ho); clear HO_5; clear HB; clear HO_7; have HO_5 := n0_; have HB := n1_; have HO245 := n2_; clear n0_ n1_ n2_; clear ho hb hg hat))
                                                  (try simp only [← hl5_3])
                                                  go_roundg k3
                                                  case measure => have := HK1.out; have := HK2.out; have := HK3.out; omega
                                                  case rel => exact ⟨(y242), (y243), (wrap64 (x43_3 + 1)), (by first | rfl | (simp; done) | (simp [*]; done)), H', ⟨by have := HK1.out; have := HK2.out; have := HK3.out; omega⟩, ⟨by (try simp only [hl5_1]); (try simp only [hl5_2]); (try simp only [hl5_3]); (with_reducible repeat (first | apply Kd.R_alloc | apply Kd.R_drewN | apply Kd.R_drew)); exact Kd.R_mono HO_5.out (fun _ hk => hk.2)⟩, ⟨by (try simp only [hl5_1]); (try simp only [hl5_2]); (try simp only [hl5_3]); (with_reducible repeat (first | apply Kd.R_alloc | apply Kd.R_drewN | apply Kd.R_drew)); exact HO245.out⟩, ⟨by repeat (first | (with_reducible first | exact HB.out | apply below_alloc | apply pw_below_drewN | apply below_drew1) | exact HB.out)⟩⟩
                                                · rw [if_neg c35] at H
                                                  exact absurd H (by simp)
                                              · rw [if_neg c33] at H
                                                exact absurd H (by simp)
                                            · rw [if_neg c32] at H
                                              exact absurd H (by simp)
                                          · rw [if_neg c31] at H
                                            have c31b0 : decide ((rd x5_3 x43_3) < 0) = false := decide_eq_false c31
                                            (try (have c31b0_0 := c31b0; rw [hl238_0] at c31b0_0))
                                            (try (have c31b0_1 := c31b0; rw [hl5_1] at c31b0_1))
                                            (try (have c31b0_2 := c31b0; rw [hl5_2] at c31b0_2))
                                            (try (have c31b0_3 := c31b0; rw [hl5_3] at c31b0_3))
                                            clear c31
                                            have H' := Aside0.mk H
                                            clear H
                                            have p239 : 0 ≤ (x43_3 : Int) := of_decide_eq_true (by first | (with_reducible assumption) | assumption)
                                            have q239 : x43_3 < ((rd_L4 l0 (rd x7_2 x8_2)).length : Int) := of_decide_eq_true (by first | (with_reducible assumption) | assumption)
                                            obtain ⟨ad239, e239, hx239_0⟩ := Kd.at_int HR238_0.out x43_3 p239 q239
                                            cases e239
                                            replace hx239_0 := (HB.out.cell (World.block_lt_of_cell? w _ hx239_0)).trans hx239_0
                                            replace p239 := eq_true p239
                                            replace q239 := eq_true q239
                                            have p240 : 0 ≤ (x43_3 : Int) := of_decide_eq_true (by first | (with_reducible assumption) | assumption)
                                            have q240 : x43_3 < (x5_3.length : Int) := of_decide_eq_true (by first | (with_reducible assumption) | assumption)
                                            obtain ⟨ad240, e240, hx240_0⟩ := Kd.at_int (Kd.R_reads' HO_5.out).2.2 x43_3 p240 q240
                                            obtain rfl : (⟨go16, 0, none⟩ : Addr) = ad240 := (by injection e240)
                                            (first | simp only [add_plain] at hx240_0 | simp only [add_at] at hx240_0 | simp only [Addr.add, Nat.zero_add] at hx240_0 | skip)
                                            replace p240 := eq_true p240
                                            replace q240 := eq_true q240
                                            go_wp2
                                            (try simp only [← hl5_3])
                                            go_roundg k3
                                            case measure => have := HK1.out; have := HK2.out; have := HK3.out; omega
                                            case rel => exact ⟨(x5_3), (x7_3), (wrap64 (x43_3 + 1)), (by first | rfl | (simp; done) | (simp [*]; done)), H', ⟨by have := HK1.out; have := HK2.out; have := HK3.out; omega⟩, ⟨by (try simp only [hl5_1]); (try simp only [hl5_2]); (try simp only [hl5_3]); (with_reducible repeat (first | apply Kd.R_alloc | apply Kd.R_drewN | apply Kd.R_drew)); exact HO_5.out⟩, ⟨by (try simp only [hl5_1]); (try simp only [hl5_2]); (try simp only [hl5_3]); (with_reducible repeat (first | apply Kd.R_alloc | apply Kd.R_drewN | apply Kd.R_drew)); exact HO_7.out⟩, ⟨by repeat (first | (with_reducible first | exact HB.out | apply below_alloc | apply pw_below_drewN | apply below_drew1) | exact HB.out)⟩⟩
                                        · rw [if_neg c30] at H
                                          exact absurd H (by simp)
                                      · rw [if_neg c29] at H
                                        have c29b0 : decide (0 < (rd (rd_L4 l0 (rd x7_2 x8_2)) x43_3)) = false := decide_eq_false c29
                                        (try (have c29b0_0 := c29b0; rw [hl238_0] at c29b0_0))
                                        (try (have c29b0_1 := c29b0; rw [hl5_1] at c29b0_1))
                                        (try (have c29b0_2 := c29b0; rw [hl5_2] at c29b0_2))
                                        (try (have c29b0_3 := c29b0; rw [hl5_3] at c29b0_3))
                                        clear c29
                                        have H' := Aside0.mk H
                                        clear H
                                        have p239 : 0 ≤ (x43_3 : Int) := of_decide_eq_true (by first | (with_reducible assumption) | assumption)
                                        have q239 : x43_3 < ((rd_L4 l0 (rd x7_2 x8_2)).length : Int) := of_decide_eq_true (by first | (with_reducible assumption) | assumption)
                                        obtain ⟨ad239, e239, hx239_0⟩ := Kd.at_int HR238_0.out x43_3 p239 q239
                                        cases e239
                                        replace hx239_0 := (HB.out.cell (World.block_lt_of_cell? w _ hx239_0)).trans hx239_0
                                        replace p239 := eq_true p239
                                        replace q239 := eq_true q239
                                        go_wp2
                                        (try simp only [← hl5_3])
                                        go_roundg k3
                                        case measure => have := HK1.out; have := HK2.out; have := HK3.out; omega
                                        case rel => exact ⟨(x5_3), (x7_3), (wrap64 (x43_3 + 1)), (by first | rfl | (simp; done) | (simp [*]; done)), H', ⟨by have := HK1.out; have := HK2.out; have := HK3.out; omega⟩, ⟨by (try simp only [hl5_1]); (try simp only [hl5_2]); (try simp only [hl5_3]); (with_reducible repeat (first | apply Kd.R_alloc | apply Kd.R_drewN | apply Kd.R_drew)); exact HO_5.out⟩, ⟨by (try simp only [hl5_1]); (try simp only [hl5_2]); (try simp only [hl5_3]); (with_reducible repeat (first | apply Kd.R_alloc | apply Kd.R_drewN | apply Kd.R_drew)); exact HO_7.out⟩, ⟨by repeat (first | (with_reducible first | exact HB.out | apply below_alloc | apply pw_below_drewN | apply below_drew1) | exact HB.out)⟩⟩
                                    · rw [if_neg c28] at H
                                      exact absurd H (by simp)
                                  · rw [if_neg c27] at H
                                    exact absurd H (by simp)
                                · rw [if_neg c26] at H
                                  have c26b0 : decide (x43_3 < ((rd_L4 l0 (rd x7_2 x8_2)).length : Int)) = false := decide_eq_false c26
                                  (try (have c26b0_0 := c26b0; rw [hl238_0] at c26b0_0))
                                  (try (have c26b0_1 := c26b0; rw [hl5_1] at c26b0_1))
                                  (try (have c26b0_2 := c26b0; rw [hl5_2] at c26b0_2))
                                  (try (have c26b0_3 := c26b0; rw [hl5_3] at c26b0_3))
                                  clear c26
                                  have H' := Aside0.mk H
                                  clear H
                                  go_wp2
                                  (try simp only [← hl5_2, ← hl5_3])
                                  go_roundg k3
                                  case measure => have := HK1.out; have := HK2.out; have := HK3.out; omega
                                  case rel => exact ⟨(x5_3), (x7_3), (wrap64 (x8_2 + 1)), (by first | rfl | (simp; done) | (simp [*]; done)), H', ⟨by have := HK1.out; have := HK2.out; have := HK3.out; omega⟩, ⟨by (try simp only [hl5_1]); (try simp only [hl5_2]); (try simp only [hl5_3]); (with_reducible repeat (first | apply Kd.R_alloc | apply Kd.R_drewN | apply Kd.R_drew)); exact HO_5.out⟩, ⟨by (try simp only [hl5_1]); (try simp only [hl5_2]); (try simp only [hl5_3]); (with_reducible repeat (first | apply Kd.R_alloc | apply Kd.R_drewN | apply Kd.R_drew)); exact HO_7.out⟩, ⟨by repeat (first | (with_reducible first | exact HB.out | apply below_alloc | apply pw_below_drewN | apply below_drew1) | exact HB.out)⟩⟩
                          · rw [if_neg c24] at H
                            exact absurd H (by simp)
                        · rw [if_neg c23] at H
                          exact absurd H (by simp)
                      · rw [if_neg c22] at H
                        exact absurd H (by simp)
                    · rw [if_neg c21] at H
                      have c21b0 : decide (x8_2 < (x7_2.length : Int)) = false := decide_eq_false c21
                      (try (have c21b0_0 := c21b0; rw [hl238_0] at c21b0_0))
                      (try (have c21b0_1 := c21b0; rw [hl5_1] at c21b0_1))
                      (try (have c21b0_2 := c21b0; rw [hl5_2] at c21b0_2))
                      (try (have c21b0_3 := c21b0; rw [hl5_3] at c21b0_3))
                      clear c21
                      obtain rfl := Option.some.inj H
                      obtain ⟨Ao40, co40, eo40⟩ := Kd.R_slice HO_7.out
                      subst eo40
                      go_wp2
                      go_ret
                      exact ⟨_, by first | rfl | (simp [errW_none, errW_some] <;> rfl) | (simp [*, errW_none, errW_some] <;> rfl), by (with_reducible repeat (first | apply Kd.R_alloc | apply Kd.R_drewN | apply Kd.R_drew)); exact Kd.R_mono HO_5.out (fun _ hk => trivial), by repeat (first | (with_reducible first | exact HB.out | apply below_alloc | apply pw_below_drewN | apply below_drew1) | exact HB.out)⟩
              · rw [if_neg c15] at H
                exact absurd H (by simp)
            · rw [if_neg c14] at H
              exact absurd H (by simp)
    · rw [if_neg c4] at H
      exact absurd H (by simp)
  · rw [if_neg c3] at H
    exact absurd H (by simp)
end Go.Proofs.Ytbamanjedfccpaa.X
end

section
set_option linter.unusedVariables false
set_option linter.unusedSimpArgs false
namespace Go.Proofs.Ytbamanjedfccpaa.HTab
open Go.RowKit Go.Proofs.YtbamanjedfccpaaW.PrintWords Go.Proofs.YtbamanjedfccpaaW.PrintLast Go.Proofs.YtbamanjedfccpaaW.PrintMore Go.Proofs.Ytbamanjedfccpaa.X
set_option linter.unusedVariables false
set_option linter.unusedSimpArgs false
def gr (g : List (List Int)) (i j : Int) : Int := rd (rd_L4 g i) j
def putG (g : List (List Int)) (i j x : Int) : List (List Int) := g.set i.toNat ((rd_L4 g i).set j.toNat x)
theorem rdL_set (g : List (List Int)) (i a : Int) (r : List Int) (i0 : 0 ≤ i) (i1 : i < g.length) (a0 : 0 ≤ a) : rd_L4 (g.set i.toNat r) a = if a = i then r else rd_L4 g a := by
  unfold rd_L4
  rw [List.getD_eq_getElem?_getD, List.getD_eq_getElem?_getD, List.getElem?_set]
  by_cases h : a = i
  · rw [if_pos h, if_pos (by omega), if_pos (by omega)]; rfl
  · rw [if_neg h, if_neg (by omega)]
structure GM (w : World) (b M A c N : Nat) (p q : Nat → Nat) (k : Nat) (G : List (List Int)) : Prop where
  len : G.length = N
  hc : N ≤ c
  bA : b ≤ A ∧ A < M
  kN : k ≤ N
  blk : ∃ cells, w.heap[A]? = some (.cells cells 40 (0, 0)) ∧ ∀ i, i < N → cells[i]? = some (if i < k then .slice (some ⟨p i, 0, none⟩) N (q i) else .slice none 0 0)
  row : ∀ i, i < k → KI.R 3 w b (fun x => x = p i) (.slice (some ⟨p i, 0, none⟩) N (q i)) (rd_L4 G (i : Nat))
  pM : ∀ i, i < k → b ≤ p i ∧ p i < M ∧ p i ≠ A
  inj : ∀ i j, i < k → j < k → p i = p j → i = j
section
variable {w w1 : World} {b M A c N : Nat} {p q : Nat → Nat} {k : Nat} {G : List (List Int)}
theorem GM.step (h : GM w b M A c N p q k G) (hm : ∀ x, x < M → x < w.heap.size → w1.heap[x]? = w.heap[x]?) : GM w1 b M A c N p q k G := by
  obtain ⟨cells, hb, hcl⟩ := h.blk
  exact ⟨h.len, h.hc, h.bA, h.kN, ⟨cells, (hm A h.bA.2 (blk_lt hb)).trans hb, hcl⟩, fun i hi => Kd.R_step (h.row i hi) (fun x hx hl => hm x (by rw [hx]; exact (h.pM i hi).2.1) hl), h.pM, h.inj⟩
theorem GM.below (h : GM w b M A c N p q k G) (hb : Below w.heap.size w w1) : GM w1 b M A c N p q k G := h.step (fun x _ hl => hb.block x hl)
theorem GM.far (h : GM w b M A c N p q k G) {g o : Nat} (hg : M ≤ g) (u : Value) : GM (w.setCell ⟨g, o, none⟩ u) b M A c N p q k G := h.step (fun x hx _ => Below.heap_setCell w ⟨g, o, none⟩ u x (fun e => by replace e : x = g := e; omega))
theorem GM.grown (h : GM w b M A c N p q k G) {r : Option Nat} (hg : w.grownBy w1 r) (hr : ∀ x, r = some x → M ≤ x) : GM w1 b M A c N p q k G := h.step (fun x hx hl => hg.block x hl (fun e => by have := hr x e.symm; omega))
theorem GM.up (h : GM w b M A c N p q k G) {M' : Nat} (hM : M ≤ M') : GM w b M' A c N p q k G :=
  ⟨h.len, h.hc, ⟨h.bA.1, by have := h.bA.2; omega⟩, h.kN, h.blk, h.row, fun i hi => by have := h.pM i hi; exact ⟨this.1, by omega, this.2.2⟩, h.inj⟩
theorem GM.lower (h : GM w b M A c N p q k G) {b' : Nat} (hb : b' ≤ b) : GM w b' M A c N p q k G :=
  ⟨h.len, h.hc, ⟨by have := h.bA.1; omega, h.bA.2⟩, h.kN, h.blk, fun i hi => Kd.R_lower (h.row i hi) hb, fun i hi => by have := h.pM i hi; exact ⟨by omega, this.2⟩, h.inj⟩
theorem GM.cell (h : GM w b M A c N p q k G) (i : Int) (i0 : 0 ≤ i) (i1 : i < k) : w.cell? ⟨A, i.toNat, none⟩ = some (.slice (some ⟨p i.toNat, 0, none⟩) N (q i.toNat)) := by
  obtain ⟨cells, hb, hcl⟩ := h.blk
  have := h.kN
  refine (blk_cell hb i.toNat).trans ?_
  rw [hcl i.toNat (by omega), if_pos (by omega)]
theorem GM.cell0 (h : GM w b M A c N p q k G) (i : Nat) (i0 : k ≤ i) (i1 : i < N) : w.cell? ⟨A, i, none⟩ = some (.slice none 0 0) := by
  obtain ⟨cells, hb, hcl⟩ := h.blk
  refine (blk_cell hb i).trans ?_
  rw [hcl i i1, if_neg (by omega)]
theorem GM.fz (h : GM w b M A c N p q k G) (i : Nat) : w.frozen? ⟨A, i, none⟩ = false := by
  obtain ⟨cells, hb, hcl⟩ := h.blk
  exact blk_frozen hb i
theorem rd_L4_nat (G : List (List Int)) (i : Int) (i0 : 0 ≤ i) : rd_L4 G (i.toNat : Nat) = rd_L4 G i := by rw [Int.toNat_of_nonneg i0]
theorem GM.at_ (h : GM w b M A c N p q k G) (i : Int) (i0 : 0 ≤ i) (i1 : i < k) (j : Int) (j0 : 0 ≤ j) (j1 : j < N) : w.cell? ⟨p i.toNat, j.toNat, none⟩ = some (.int .i64 (gr G i j)) ∧ w.frozen? ⟨p i.toNat, j.toNat, none⟩ = false := by
  have := R_at (h.row i.toNat (by omega)) j j0 j1
  rw [rd_L4_nat G i i0] at this
  exact this
theorem GM.rowlen (h : GM w b M A c N p q k G) (i : Int) (i0 : 0 ≤ i) (i1 : i < k) : (rd_L4 G i).length = N := by
  have := (Kd.R_reads' (h.row i.toNat (by omega))).1
  rw [rd_L4_nat G i i0] at this
  exact this.symm
theorem GM.put (h : GM w b M A c N p q k G) (i : Int) (i0 : 0 ≤ i) (i1 : i < k) (j x : Int) : GM (w.setCell ⟨p i.toNat, j.toNat, none⟩ (.int .i64 x)) b M A c N p q k (putG G i j x) := by
  obtain ⟨cells, hb, hcl⟩ := h.blk
  have hi : i.toNat < k := by omega
  have hkN := h.kN
  refine ⟨by unfold putG; rw [List.length_set]; exact h.len, h.hc, h.bA, h.kN, ⟨cells, blk_far hb (fun e => (h.pM _ hi).2.2 e.symm) _, hcl⟩, fun a ha => ?_, h.pM, h.inj⟩
  unfold putG
  rw [rdL_set G i (a : Nat) _ i0 (by rw [h.len]; omega) (by omega)]
  by_cases e : a = i.toNat
  · subst e
    rw [if_pos (by omega)]
    have hR := h.row i.toNat hi
    have hm := (Kd.R_reads' hR).1
    rw [rd_L4_nat G i i0] at hR hm
    revert hR
    generalize rd_L4 G i = r at hm ⊢
    subst hm
    intro hR
    exact (Kd.R_put hR j x).1
  · rw [if_neg (by omega)]
    exact Kd.R_far (p := ⟨p i.toNat, j.toNat, none⟩) (h.row a ha) (fun y hy e2 => e (h.inj a i.toNat ha hi (by rw [← hy]; exact e2))) _
theorem GM.lay (h : GM w b M A c N p q k G) (hk : k < N) {r cr : Nat} {row : List Int} (hR : KI.R 3 w b (fun x => x = r) (.slice (some ⟨r, 0, none⟩) N cr) row) (hr : b ≤ r ∧ r < M ∧ r ≠ A) (hne : ∀ i, i < k → p i ≠ r) :
    GM (w.setCell ⟨A, k, none⟩ (.slice (some ⟨r, 0, none⟩) N cr)) b M A c N (fun i => if i = k then r else p i) (fun i => if i = k then cr else q i) (k + 1) (G.set k row) := by
  obtain ⟨cells, hb, hcl⟩ := h.blk
  have hsz : k < cells.size := by
    have := hcl k hk
    rw [if_neg (by omega)] at this
    exact (Array.getElem?_eq_some_iff.1 this).1
  refine ⟨by rw [List.length_set]; exact h.len, h.hc, h.bA, hk, ⟨cells.setIfInBounds k (.slice (some ⟨r, 0, none⟩) N cr), blk_put hb k _ rfl, fun i hi => ?_⟩, fun a ha => ?_, fun i hi => ?_, fun i j hi hj e => ?_⟩
  · rw [Array.getElem?_setIfInBounds]
    by_cases e : k = i
    · rw [if_pos e, if_pos hsz, if_pos (show i < k + 1 by omega), if_pos e.symm, if_pos e.symm]
    · rw [if_neg e, hcl i hi]
      by_cases e2 : i < k
      · rw [if_pos e2, if_pos (by omega), if_neg (by omega), if_neg (by omega)]
      · rw [if_neg e2, if_neg (by omega)]
  · have e1 := rdL_set G (k : Nat) (a : Nat) row (by omega) (by rw [h.len]; omega) (by omega)
    rw [Int.toNat_natCast] at e1
    rw [e1]
    by_cases e : a = k
    · rw [if_pos e, if_pos e, if_pos (by omega)]
      subst e
      exact Kd.R_far (p := ⟨A, a, none⟩) hR (fun y hy e2 => hr.2.2 (by rw [← hy]; exact e2)) _
    · rw [if_neg e, if_neg e, if_neg (by omega)]
      exact Kd.R_far (p := ⟨A, k, none⟩) (h.row a (by omega)) (fun y hy e2 => (h.pM a (by omega)).2.2 (by rw [← hy]; exact e2)) _
  · by_cases e : i = k
    · rw [if_pos e]; exact hr
    · rw [if_neg e]; exact h.pM i (by omega)
  · by_cases e1 : i = k <;> by_cases e2 : j = k
    · omega
    · rw [if_pos e1, if_neg e2] at e
      exact absurd e.symm (hne j (by omega))
    · rw [if_neg e1, if_pos e2] at e
      exact absurd e (hne i (by omega))
    · rw [if_neg e1, if_neg e2] at e
      exact h.inj i j (by omega) (by omega) e
theorem GM.toC (h : GM w b M A c N p q N G) (hN : N ≤ 1000) : Kd.C DI w (some ⟨A, 0, none⟩) N G := by
  refine ⟨h.len, by omega, fun h0 => ⟨_, rfl, fun j x hj => ?_⟩⟩
  have hjl : j < N := by rw [← h.len]; exact (List.getElem?_eq_some_iff.1 hj).1
  have hx : rd_L4 G (j : Nat) = x := by unfold rd_L4; rw [Int.toNat_natCast, List.getD_eq_getElem?_getD, hj]; rfl
  have hR := h.row j hjl
  rw [hx] at hR
  obtain ⟨e1, e2, e3⟩ := Kd.R_reads' hR
  refine ⟨[.slice (some ⟨p j, 0, none⟩) N (q j)], rfl, ⟨_, _, by rw [← e1], by omega, e3⟩, fun i u hu => ?_⟩
  have hc := h.cell (j : Nat) (by omega) (by omega)
  rw [Int.toNat_natCast] at hc
  cases i with
  | zero =>
    injection hu with hu
    rw [← hu, add_plain, show j * DI.sz + 0 = j from (show j * 1 + 0 = j by omega)]
    exact hc
  | succ i => simp at hu
end
end Go.Proofs.Ytbamanjedfccpaa.HTab
end

section
set_option linter.unusedVariables false
set_option linter.unusedSimpArgs false
namespace Go.Proofs.Ytbamanjedfccpaa.HTab
open Go.RowKit Go.Proofs.YtbamanjedfccpaaW.PrintWords Go.Proofs.YtbamanjedfccpaaW.PrintLast Go.Proofs.YtbamanjedfccpaaW.PrintMore Go.Proofs.Ytbamanjedfccpaa.X
set_option linter.unusedVariables false
set_option linter.unusedSimpArgs false
theorem GM.made {w : World} {base A N c : Nat} {ok : Nat → Prop} (p q : Nat → Nat) (h : nilK.R 40 w base ok (.slice (some ⟨A, 0, none⟩) N c) (List.replicate N ())) : GM w base w.heap.size A c N p q 0 (List.replicate N []) := by
  have hown := Kd.own_of_R h
  rw [List.length_replicate] at hown
  rcases hown.2 with ⟨hv, _⟩ | ⟨g, cap, cur, hv, hb, hh, hnc, hcm, hcs, htake⟩
  · cases hv
  · injection hv with e1 e2 e3
    injection e1 with e1
    injection e1 with e1
    subst e1; subst e3
    refine ⟨List.length_replicate .., hnc, ⟨hb, blk_lt hh⟩, Nat.zero_le _, ⟨cur, hh, fun i hi => ?_⟩, fun i hi => by omega, fun i hi => by omega, fun i j hi => by omega⟩
    rw [if_neg (by omega)]
    have h2 : (cur.toList.take (N * 1))[i]? = some (.slice none 0 0) := by
      rw [htake]
      simp [encs, hi]
    rw [Nat.mul_one, List.getElem?_take, if_pos hi] at h2
    simpa using h2
def addA (G : List (List Int)) (a : S34) : List (List Int) := putG G a.f0 a.f1 (wrap64 (gr G a.f0 a.f1 + a.f2))
def zeroG (N : Nat) : List (List Int) := List.replicate N (List.replicate N 0)
def capG (N : Nat) (arcs : List S34) : List (List Int) := arcs.foldl addA (zeroG N)
theorem zeroG_eq {N : Nat} {G : List (List Int)} (hl : G.length = N) (h : ∀ i : Nat, i < N → rd_L4 G (i : Nat) = List.replicate N 0) : G = zeroG N := by
  refine List.ext_getElem (by unfold zeroG; rw [hl, List.length_replicate]) (fun i h1 h2 => ?_)
  have := h i (by omega)
  unfold rd_L4 at this
  rw [Int.toNat_natCast, List.getD_eq_getElem?_getD, List.getElem?_eq_getElem h1] at this
  exact this.trans (List.getElem_replicate _).symm
end Go.Proofs.Ytbamanjedfccpaa.HTab
end

section
set_option linter.unusedVariables false
set_option linter.unusedSimpArgs false
namespace Go.Proofs.Ytbamanjedfccpaa.HTab
open Go.RowKit Go.Proofs.YtbamanjedfccpaaW.PrintWords Go.Proofs.YtbamanjedfccpaaW.PrintLast Go.Proofs.YtbamanjedfccpaaW.PrintMore Go.Proofs.Ytbamanjedfccpaa.X
attribute [local go_sem] max2_int min2_int max_two min_two
set_option linter.unusedVariables false
set_option linter.unusedSimpArgs false
def minP (fr : List Int) (G : List (List Int)) (N : Nat) (s : Int) : Nat → Int → Int → Option Int
  | 0, _, _ => none
  | k + 1, j, most => if j = s then some most else if 0 ≤ j ∧ j < N ∧ 0 ≤ rd fr j ∧ rd fr j < N then minP fr G N s k (rd fr j) (mn most (gr G (rd fr j) j)) else none
def sendW (G : List (List Int)) (u v f : Int) : List (List Int) := putG (putG G u v (wrap64 (gr G u v - f))) v u (wrap64 (gr (putG G u v (wrap64 (gr G u v - f))) v u + f))
def augP (fr : List Int) (N : Nat) (s f : Int) : Nat → List (List Int) → Int → Option (List (List Int))
  | 0, _, _ => none
  | k + 1, G, j => if j = s then some G else if 0 ≤ j ∧ j < N ∧ 0 ≤ rd fr j ∧ rd fr j < N then augP fr N s f k (sendW G (rd fr j) j f) (rd fr j) else none
def grtP (K N : Nat) (s t : Int) : Nat → List (List Int) → Int → Option (Int × List (List Int))
  | 0, _, _ => none
  | k + 1, G, total => (cantingref07_way.f K G s).bind fun fr => if fr.length = N then (if rd fr t < 0 then some (total, G) else (minP fr G N s K t 1152921504606846976).bind fun m => (augP fr N s m K G t).bind fun G1 => grtP K N s t k G1 (wrap64 (total + m))) else none
def tb_rgreatest_14.T : Bool × List (List Nat × List Nat) := (true, [([], []), ([], []), ([0, 1], [0, 1]), ([2], [2]), ([], []), ([], []), ([4, 5], [4, 5]), ([6], [6]), ([3, 7], [3, 7]), ([8], [8]), ([], []), ([9, 10], [9, 10]), ([3, 7, 0, 1, 2, 3, 4, 5, 6, 7, 8, 9, 10, 11], [3, 7]), ([12, 11, 0, 1, 2, 3, 4, 5, 6, 7, 8, 9, 10, 11], [11, 12])])
def tb_rgreatest_14.B : List Nat := [0, 0, 3, 7, 0, 0, 48, 112, 255, 511, 0, 2047, 4095, 8191]
theorem tb_rgreatest_14.tab : rtab .any (opsOf Try.f54 14) = tb_rgreatest_14.T := by kernel_rfl
theorem tb_rgreatest_14.bits : waitsOk tb_rgreatest_14.T.2 tb_rgreatest_14.B = true := by kernel_rfl
theorem way_calls (K : Nat) (A : Option Addr) (c N : Nat) (G : List (List Int)) (s : Int) (fr : List Int) (w : World) (hl : G.length = N) (hC : Kd.C DI w A N G) (hc : N ≤ c) (h : cantingref07_way.f K G s = some fr) :
    Calls Try.prog 75 #[.slice A N c, .int .i64 s] w fun e w' => ∃ v : Value, e = .returned v ∧ KI.R 3 w' w.heap.size (fun _ => True) v fr ∧ Below w.heap.size w w' := by
  subst hl
  exact cantingref07_way.calls K A c G s fr w hC hc h
set_option maxRecDepth 100000 in
set_option maxHeartbeats 8000000 in
theorem rgreatest_calls {b A c N : Nat} {p q : Nat → Nat} (w : World) (G : List (List Int)) (s t : Int) (hN : N ≤ 1000) (h : GM w b w.heap.size A c N p q N G) (hs : 0 ≤ s ∧ s < N) (ht : 0 ≤ t ∧ t < N) (K k : Nat) (r : Int × List (List Int)) (hP : grtP K N s t k G 0 = some r) :
    Calls Try.prog 54 #[.slice (some ⟨A, 0, none⟩) N c, .int .i64 s, .int .i64 t] w fun e w' => e = .returned (.int .i64 r.1) ∧ GM w' b w.heap.size A c N p q N r.2 ∧ Below b w w' := by
  have H := Aside0.mk h
  have HP := Aside0.mk hP
  have hbs : b ≤ w.heap.size := by have := h.bA; omega
  have hcN := h.hc
  have t0 : (t < 0) = False := eq_false (by omega)
  have t1 : (t < (N : Int)) = True := eq_true ht.2
  clear h hP
  go_enter Try.func54, Try.ntmps54
  go_wp2
  go_loopg [7] k (fun kq v7 w' => ∃ (total : Int) (G1 : List (List Int)), v7 = .int .i64 total ∧ Aside0 (grtP K N s t kq G1 total = some r) ∧ Aside0 (kq ≤ k) ∧ Aside0 (GM w' b w.heap.size A c N p q N G1) ∧ Aside0 (Below b w w') ∧ Aside0 (w.heap.size ≤ w'.heap.size))
  case atStart => exact ⟨0, G, rfl, HP, ⟨Nat.le_refl _⟩, H, ⟨Below.refl _ _⟩, ⟨Nat.le_refl _⟩⟩
  case round =>
    clear HP H
    obtain ⟨total, G1, rfl, HP, HK, HG, HB, HZ⟩ := hrel
    cases gk with
    | zero => exact absurd HP.out (by simp [grtP])
    | succ k1 =>
    have hP := HP.out
    clear HP
    simp only [grtP] at hP
    obtain ⟨fr, hfr, hP⟩ := Option.bind_eq_some_iff.1 hP
    by_cases hl : fr.length = N
    case neg => rw [if_neg hl] at hP; cases hP
    rw [if_pos hl] at hP
    replace hP := Aside0.mk hP
    replace hfr := Aside0.mk hfr
    replace hl := Aside0.mk hl
    go_wp2_with fail
    refine (way_calls K (some ⟨A, 0, none⟩) c N G1 s fr wr HG.out.len (HG.out.toC hN) hcN hfr.out).mono ?_
    rintro e w2 ⟨v8, rfl, hR2, hb2⟩
    obtain ⟨gf, cf, rfl, hgf, hgl, _⟩ := Kd.R_form hR2 (by rw [hl.out]; omega)
    rw [hl.out] at hR2 ⊢
    have HB2 := Aside0.mk (below_then HB.out (by have := HZ.out; omega) hb2)
    have HG2 := Aside0.mk (HG.out.below hb2)
    have HZ2 : Aside0 (w.heap.size ≤ w2.heap.size) := ⟨by have := HZ.out; omega⟩
    have HF2 : Aside0 (KI.R 3 w2 w.heap.size (fun x => w.heap.size ≤ x) (.slice (some ⟨gf, 0, none⟩) N cf) fr) := ⟨Kd.R_mono (Kd.R_bound (Kd.R_lower hR2 HZ.out)) (fun x hx => hx.2.1)⟩
    clear hR2 hb2 hgf hgl HB HG HZ
    obtain ⟨kt, -⟩ := R_at HF2.out t ht.1 ht.2
    by_cases hlt : rd fr t < 0
    · have d0 : decide (rd fr t < 0) = true := decide_eq_true hlt
      have hP2 := hP.out
      rw [if_pos hlt] at hP2
      injection hP2 with hP2
      subst hP2
      clear hlt
      go_wp2
      go_ret
      exact ⟨rfl, HG2.out, HB2.out⟩
    have d0 : decide (rd fr t < 0) = false := decide_eq_false hlt
    have hP2 := hP.out
    rw [if_neg hlt] at hP2
    clear hlt hP
    obtain ⟨m, hm, hP2⟩ := Option.bind_eq_some_iff.1 hP2
    obtain ⟨G3, hG3, hP2⟩ := Option.bind_eq_some_iff.1 hP2
    have HM := Aside0.mk hm
    have HG3 := Aside0.mk hG3
    have HP3 := Aside0.mk hP2
    clear hm hG3 hP2
    go_wp2
    clear kt d0
    go_loopg [9, 10] K (fun kq v9 v10 w' => ∃ (most j : Int), v9 = .int .i64 most ∧ v10 = .int .i64 j ∧ Aside0 (minP fr G1 N s kq j most = some m) ∧ Aside0 (kq ≤ K) ∧ Aside0 (GM w' b w.heap.size A c N p q N G1) ∧ Aside0 (Below b w w') ∧ Aside0 (w.heap.size ≤ w'.heap.size) ∧ Aside0 (KI.R 3 w' w.heap.size (fun x => w.heap.size ≤ x) (.slice (some ⟨gf, 0, none⟩) N cf) fr))
    case atStart => exact ⟨1152921504606846976, t, rfl, rfl, HM, ⟨Nat.le_refl _⟩, HG2, HB2, HZ2, HF2⟩
    case round =>
      clear HM HG2 HB2 HZ2 HF2
      obtain ⟨most, j, rfl, rfl, HM, HKq, HG2, HB2, HZ2, HF2⟩ := hrel
      cases gk with
      | zero => exact absurd HM.out (by simp [minP])
      | succ k2 =>
      have hM := HM.out
      simp only [minP] at hM
      by_cases hj : j = s
      case neg =>
        rw [if_neg hj] at hM
        have d1 : (j != s) = true := bne_iff_ne.2 hj
        by_cases hr : 0 ≤ j ∧ j < N ∧ 0 ≤ rd fr j ∧ rd fr j < N
        case neg => rw [if_neg hr] at hM; cases hM
        rw [if_pos hr] at hM
        obtain ⟨r0, r1, r2, r3⟩ := hr
        obtain ⟨kj, -⟩ := R_at HF2.out j r0 r1
        have kr := HG2.out.cell (rd fr j) r2 r3
        obtain ⟨ke, -⟩ := HG2.out.at_ (rd fr j) r2 r3 j r0 r1
        obtain ⟨u, hu⟩ : ∃ u, u = rd fr j := ⟨_, rfl⟩
        rw [← hu] at kj kr ke hM r2 r3
        replace hu := Aside0.mk hu
        have j0 : (j < 0) = False := eq_false (by omega)
        have j1 : (j < (N : Int)) = True := eq_true r1
        have u0 : (u < 0) = False := eq_false (by omega)
        have u1 : (u < (N : Int)) = True := eq_true r3
        have HM2 := Aside0.mk hM
        clear hM HM hj
        go_wp2
        case inl h =>
          have e : mn most (gr G1 u j) = most ∨ mn most (gr G1 u j) = gr G1 u j := by unfold mn; split <;> simp
          clear kj kr ke
          go_roundg k2
          case measure => omega
          case rel => exact ⟨_, _, rfl, rfl, ⟨by have e := HM2.out; unfold mn at e; split at e <;> first | exact e | (exfalso; omega)⟩, ⟨by have := HKq.out; omega⟩, HG2, HB2, HZ2, HF2⟩
        case inr h =>
          clear kj kr ke
          go_roundg k2
          case measure => omega
          case rel => exact ⟨_, _, rfl, rfl, ⟨by have e := HM2.out; unfold mn at e; split at e <;> first | exact e | (exfalso; omega)⟩, ⟨by have := HKq.out; omega⟩, HG2, HB2, HZ2, HF2⟩
      case pos =>
      rw [if_pos hj] at hM
      injection hM with hM
      subst hM
      have d1 : (j != s) = false := by simpa using hj
      clear HM hj
      go_wp2
      go_loopg [11] K (fun kq v11 w' => ∃ (j : Int) (G4 : List (List Int)), v11 = .int .i64 j ∧ Aside0 (augP fr N s most kq G4 j = some G3) ∧ Aside0 (kq ≤ K) ∧ Aside0 (GM w' b w.heap.size A c N p q N G4) ∧ Aside0 (Below b w w') ∧ Aside0 (w.heap.size ≤ w'.heap.size) ∧ Aside0 (KI.R 3 w' w.heap.size (fun x => w.heap.size ≤ x) (.slice (some ⟨gf, 0, none⟩) N cf) fr))
      case atStart => exact ⟨t, G1, rfl, HG3, ⟨Nat.le_refl _⟩, HG2, HB2, HZ2, HF2⟩
      case round =>
        clear HG3 HG2 HB2 HZ2 HF2 d1
        obtain ⟨j, G4, rfl, HA, HKr, HG2, HB2, HZ2, HF2⟩ := hrel
        cases gk with
        | zero => exact absurd HA.out (by simp [augP])
        | succ k3 =>
        have hA := HA.out
        simp only [augP] at hA
        by_cases hj : j = s
        case neg =>
          rw [if_neg hj] at hA
          have d1 : (j != s) = true := bne_iff_ne.2 hj
          by_cases hr : 0 ≤ j ∧ j < N ∧ 0 ≤ rd fr j ∧ rd fr j < N
          case neg => rw [if_neg hr] at hA; cases hA
          rw [if_pos hr] at hA
          obtain ⟨r0, r1, r2, r3⟩ := hr
          obtain ⟨kj, -⟩ := R_at HF2.out j r0 r1
          obtain ⟨u, hu⟩ : ∃ u, u = rd fr j := ⟨_, rfl⟩
          rw [← hu] at kj hA r2 r3
          replace hu := Aside0.mk hu
          have kr := HG2.out.cell u r2 r3
          obtain ⟨ke, fe⟩ := HG2.out.at_ u r2 r3 j r0 r1
          obtain ⟨x1, hx1⟩ : ∃ x, x = wrap64 (gr G4 u j - most) := ⟨_, rfl⟩
          obtain ⟨G5, hG5⟩ : ∃ g, g = putG G4 u j x1 := ⟨_, rfl⟩
          have j0 : (j < 0) = False := eq_false (by omega)
          have j1 : (j < (N : Int)) = True := eq_true r1
          have u0 : (u < 0) = False := eq_false (by omega)
          have u1 : (u < (N : Int)) = True := eq_true r3
          have hpu := HG2.out.pM u.toNat (by omega)
          obtain ⟨W1, hW1⟩ : ∃ W, W = wr.setCell ⟨p u.toNat, j.toNat, none⟩ (.int .i64 x1) := ⟨_, rfl⟩
          have HG5 : Aside0 (GM W1 b w.heap.size A c N p q N G5) := ⟨by rw [hW1, hG5]; exact HG2.out.put u r2 r3 j x1⟩
          have HB5 : Aside0 (Below b w W1) := ⟨by rw [hW1]; exact HB2.out.setCell hpu.1 _⟩
          have HZ5 : Aside0 (w.heap.size ≤ W1.heap.size) := ⟨by rw [hW1]; simpa using HZ2.out⟩
          have HF5 : Aside0 (KI.R 3 W1 w.heap.size (fun x => w.heap.size ≤ x) (.slice (some ⟨gf, 0, none⟩) N cf) fr) := ⟨by rw [hW1]; exact Kd.R_far (p := ⟨p u.toNat, j.toNat, none⟩) HF2.out (fun y hy e => by replace e : y = p u.toNat := e; omega) _⟩
          have HA2 : Aside0 (augP fr N s most k3 (putG G5 j u (wrap64 (gr G5 j u + most))) u = some G3) := ⟨by rw [hG5, hx1]; exact hA⟩
          clear hG5 HG2 HB2 HZ2 HF2 hA HA hj hpu
          replace hx1 := Aside0.mk hx1
          replace hW1 := Aside0.mk hW1
          go_wp2
          rw [← hx1.out, ← hW1.out]
          clear hx1 hW1 kj kr ke fe
          have kr := HG5.out.cell j r0 r1
          obtain ⟨kj, -⟩ := R_at HF5.out j r0 r1
          rw [← hu.out] at kj
          obtain ⟨ke, fe⟩ := HG5.out.at_ j r0 r1 u r2 r3
          obtain ⟨x2, hx2⟩ : ∃ x, x = wrap64 (gr G5 j u + most) := ⟨_, rfl⟩
          obtain ⟨G6, hG6⟩ : ∃ g, g = putG G5 j u x2 := ⟨_, rfl⟩
          have hpj := HG5.out.pM j.toNat (by omega)
          obtain ⟨W2, hW2⟩ : ∃ W, W = (W1.setCell ⟨p j.toNat, u.toNat, none⟩ (.int .i64 x2)).drew := ⟨_, rfl⟩
          have HG7 : Aside0 (GM W2 b w.heap.size A c N p q N G6) := ⟨by rw [hW2, hG6]; exact (HG5.out.put j r0 r1 u x2).below (below_drew (Below.refl _ _))⟩
          have HB7 : Aside0 (Below b w W2) := ⟨by rw [hW2]; exact below_drew (HB5.out.setCell hpj.1 _)⟩
          have HZ7 : Aside0 (w.heap.size ≤ W2.heap.size) := ⟨by rw [hW2]; simpa using HZ5.out⟩
          have HF7 : Aside0 (KI.R 3 W2 w.heap.size (fun x => w.heap.size ≤ x) (.slice (some ⟨gf, 0, none⟩) N cf) fr) := ⟨by rw [hW2]; exact Kd.R_drew (Kd.R_far (p := ⟨p j.toNat, u.toNat, none⟩) HF5.out (fun y hy e => by replace e : y = p j.toNat := e; omega) _)⟩
          have HA3 : Aside0 (augP fr N s most k3 G6 u = some G3) := ⟨by rw [hG6, hx2]; exact HA2.out⟩
          clear hG6 HG5 HB5 HZ5 HF5 HA2 hpj
          replace hx2 := Aside0.mk hx2
          replace hW2 := Aside0.mk hW2
          refine start_ (n := 14) (S := fun w' => (w'.cell? ⟨A, j.toNat, none⟩ = some (.slice (some ⟨p j.toNat, 0, none⟩) N (q j.toNat))) ∧ (w'.cell? ⟨gf, j.toNat, none⟩ = some (.int .i64 u)) ∧ (w'.cell? ⟨p j.toNat, u.toNat, none⟩ = some (.int .i64 (gr G5 j u)))) (ds := [13]) #[false, false, false, false, false, false, false, false, false, false, false, false, false, false] (by kernel_rfl) rfl rfl ⟨kr, kj, ke⟩ (fun hHeld => ?_)
          refine with_tabW tb_rgreatest_14.tab tb_rgreatest_14.bits (fun HT_ HW_ => ?_)
          refine pure_ (i := 0) (N := some 62) (v := ?_) (a' := ?_) #[true, false, false, false, false, false, false, false, false, false, false, false, false, false] rfl rfl (any_of HT_.out (by kernel_rfl)) (fun _ _ _ h => h) (Or.inl ⟨by rfl, ?_⟩) ?_ ?_
          rotate_left
          · intro w'
            go_simp
            with_reducible rfl
          rotate_left
          · simp only [Act.put, List.setIfInBounds_toArray, List.set_cons_zero, List.set_cons_succ, i64_w, i32_w]
            rfl
          refine pure_ (i := 1) (N := some 63) (v := ?_) (a' := ?_) #[true, true, false, false, false, false, false, false, false, false, false, false, false, false] rfl rfl (any_of HT_.out (by kernel_rfl)) (fun _ _ _ h => h) (Or.inl ⟨by rfl, ?_⟩) ?_ ?_
          rotate_left
          · intro w'
            go_simp
            with_reducible rfl
          rotate_left
          · simp only [Act.put, List.setIfInBounds_toArray, List.set_cons_zero, List.set_cons_succ, i64_w, i32_w]
            rfl
          refine pure_ (i := 2) (N := some 64) (v := ?_) (a' := ?_) #[true, true, true, false, false, false, false, false, false, false, false, false, false, false] rfl rfl (any_of HT_.out (by kernel_rfl)) (fun _ _ _ h => h) (Or.inl ⟨by rfl, ?_⟩) ?_ ?_
          rotate_left
          · intro w'
            go_simp
            with_reducible rfl
          rotate_left
          · simp only [Act.put, List.setIfInBounds_toArray, List.set_cons_zero, List.set_cons_succ, i64_w, i32_w]
            rfl
          refine take_ (i := 3) (N := some 65) (v := ?_) (a' := ?_) #[true, true, true, true, false, false, false, false, false, false, false, false, false, false] rfl rfl (take_ofW HT_.out HW_.out (by kernel_rfl)) (fun _ _ _ h => h) (Or.inl ⟨by rfl, ?_⟩) hHeld ?_ ?_
          rotate_left
          · rintro w' ⟨s0, s1, s2⟩
            go_simp
            with_reducible rfl
          rotate_left
          · simp only [Act.put, List.setIfInBounds_toArray, List.set_cons_zero, List.set_cons_succ, i64_w, i32_w]
            rfl
          refine pure_ (i := 4) (N := some 66) (v := ?_) (a' := ?_) #[true, true, true, true, true, false, false, false, false, false, false, false, false, false] rfl rfl (any_of HT_.out (by kernel_rfl)) (fun _ _ _ h => h) (Or.inl ⟨by rfl, ?_⟩) ?_ ?_
          rotate_left
          · intro w'
            go_simp
            with_reducible rfl
          rotate_left
          · simp only [Act.put, List.setIfInBounds_toArray, List.set_cons_zero, List.set_cons_succ, i64_w, i32_w]
            rfl
          refine pure_ (i := 5) (N := some 67) (v := ?_) (a' := ?_) #[true, true, true, true, true, true, false, false, false, false, false, false, false, false] rfl rfl (any_of HT_.out (by kernel_rfl)) (fun _ _ _ h => h) (Or.inl ⟨by rfl, ?_⟩) ?_ ?_
          rotate_left
          · intro w'
            go_simp
            with_reducible rfl
          rotate_left
          · simp only [Act.put, List.setIfInBounds_toArray, List.set_cons_zero, List.set_cons_succ, i64_w, i32_w]
            rfl
          refine pure_ (i := 6) (N := some 68) (v := ?_) (a' := ?_) #[true, true, true, true, true, true, true, false, false, false, false, false, false, false] rfl rfl (any_of HT_.out (by kernel_rfl)) (fun _ _ _ h => h) (Or.inl ⟨by rfl, ?_⟩) ?_ ?_
          rotate_left
          · intro w'
            go_simp
            with_reducible rfl
          rotate_left
          · simp only [Act.put, List.setIfInBounds_toArray, List.set_cons_zero, List.set_cons_succ, i64_w, i32_w]
            rfl
          refine take_ (i := 7) (N := some 69) (v := ?_) (a' := ?_) #[true, true, true, true, true, true, true, true, false, false, false, false, false, false] rfl rfl (take_ofW HT_.out HW_.out (by kernel_rfl)) (fun _ _ _ h => h) (Or.inl ⟨by rfl, ?_⟩) hHeld ?_ ?_
          rotate_left
          · rintro w' ⟨s0, s1, s2⟩
            go_simp
            with_reducible rfl
          rotate_left
          · simp only [Act.put, List.setIfInBounds_toArray, List.set_cons_zero, List.set_cons_succ, i64_w, i32_w]
            rfl
          refine pure_ (i := 8) (N := some 70) (v := ?_) (a' := ?_) #[true, true, true, true, true, true, true, true, true, false, false, false, false, false] rfl rfl (any_of HT_.out (by kernel_rfl)) (fun _ _ _ h => h) (Or.inl ⟨by rfl, ?_⟩) ?_ ?_
          rotate_left
          · intro w'
            go_simp
            with_reducible rfl
          rotate_left
          · simp only [Act.put, List.setIfInBounds_toArray, List.set_cons_zero, List.set_cons_succ, i64_w, i32_w]
            rfl
          refine take_ (i := 9) (N := some 71) (v := ?_) (a' := ?_) #[true, true, true, true, true, true, true, true, true, true, false, false, false, false] rfl rfl (take_ofW HT_.out HW_.out (by kernel_rfl)) (fun _ _ _ h => h) (Or.inl ⟨by rfl, ?_⟩) hHeld ?_ ?_
          rotate_left
          · rintro w' ⟨s0, s1, s2⟩
            go_simp
            with_reducible rfl
          rotate_left
          · simp only [Act.put, List.setIfInBounds_toArray, List.set_cons_zero, List.set_cons_succ, i64_w, i32_w]
            rfl
          refine pure_ (i := 10) (N := some 72) (v := ?_) (a' := ?_) #[true, true, true, true, true, true, true, true, true, true, true, false, false, false] rfl rfl (any_of HT_.out (by kernel_rfl)) (fun _ _ _ h => h) (Or.inl ⟨by rfl, ?_⟩) ?_ ?_
          rotate_left
          · intro w'
            go_simp
            with_reducible rfl
          rotate_left
          · simp only [Act.put, List.setIfInBounds_toArray, List.set_cons_zero, List.set_cons_succ, i64_w, i32_w]
            rfl
          refine pure_ (i := 11) (N := some 73) (v := ?_) (a' := ?_) #[true, true, true, true, true, true, true, true, true, true, true, true, false, false] rfl rfl (any_of HT_.out (by kernel_rfl)) (fun _ _ _ h => h) (Or.inl ⟨by rfl, ?_⟩) ?_ ?_
          rotate_left
          · intro w'
            go_simp
            with_reducible rfl
          rotate_left
          · simp only [Act.put, List.setIfInBounds_toArray, List.set_cons_zero, List.set_cons_succ, i64_w, i32_w]
            rfl
          refine pure_ (i := 12) (N := some 74) (v := ?_) (a' := ?_) #[true, true, true, true, true, true, true, true, true, true, true, true, true, false] rfl rfl (any_of HT_.out (by kernel_rfl)) (fun _ _ _ h => h) (Or.inl ⟨by rfl, ?_⟩) ?_ ?_
          rotate_left
          · intro w'
            go_simp
            with_reducible rfl
          rotate_left
          · simp only [Act.put, List.setIfInBounds_toArray, List.set_cons_zero, List.set_cons_succ, i64_w, i32_w]
            rfl
          refine last_ (i := 13) (N := none) #[true, true, true, true, true, true, true, true, true, true, true, true, true, true] rfl rfl (one_of HT_.out (by kernel_rfl)) (by decide) (fun K hK => ?_)
          refine skip_ (w1 := ?_) (by rfl) rfl ?_ ?_
          rotate_left
          · go_simp
            rfl
          clear fe
          refine hK.out _ _ ?_
          clear hK K
          refine norm_ (a' := ?_) ?_ ?_
          rotate_left
          · rfl
          refine done_ (done_of HT_.out (by kernel_rfl)) ?_
          rw [← hx2.out, ← hW2.out]
          clear hx2 hW2 kj kr ke
          obtain ⟨kj, -⟩ := R_at HF7.out j r0 r1
          rw [← hu.out] at kj
          go_wp2
          go_roundg k3
          case measure => omega
          case rel => exact ⟨u, G6, rfl, HA3, ⟨by have := HKr.out; omega⟩, HG7, HB7, HZ7, HF7⟩
        case pos =>
        rw [if_pos hj] at hA
        injection hA with hA
        subst hA
        have d1 : (j != s) = false := by simpa using hj
        clear HA hj
        go_wp2
        go_roundg k1
        case measure => omega
        case rel => exact ⟨_, G4, rfl, HP3, ⟨by have := HK.out; omega⟩, HG2, HB2, HZ2⟩
end Go.Proofs.Ytbamanjedfccpaa.HTab
end
