/- Lemmas of the masks: part Bt. -/
import Derived.Test.YtlplphgoldkoeaaBg
import Derived.Test.YtlplphgoldkoeaaBc
import Derived.Laws.BitsLemmas
import Derived.Test.YtlplphgoldkoeaaBh
section
set_option linter.unusedVariables false
set_option linter.unusedSimpArgs false
namespace Go.Proofs.Ytlplphgoldkoeaa.HTab
open Go.RowKit Go.Proofs.YtlplphgoldkoeaaW.PrintWords Go.Proofs.YtlplphgoldkoeaaW.PrintLast Go.Proofs.YtlplphgoldkoeaaW.PrintMore Go.Proofs.Ytlplphgoldkoeaa.HMap Go.Proofs.Ytlplphgoldkoeaa.X
set_option linter.unusedVariables false
set_option linter.unusedSimpArgs false
def whP : Nat → Int → Int → Int → Int × Int
  | 0, _, x, y => (x, y)
  | i + 1, p, x, y => whP i p (wrap64 (wrap64 (2 * x) + Go.bits .and .i64 (p / 2 ^ (2 * i + 1)) 1)) (wrap64 (wrap64 (2 * y) + Go.bits .and .i64 (p / 2 ^ (2 * i)) 1))
def tb_where_4.T : Bool × List (List Nat × List Nat) := (true, [([], []), ([0], [0]), ([], []), ([], []), ([3], [3]), ([4], [4]), ([2, 5], [2, 5]), ([6], [6]), ([1, 7], [1, 7]), ([], []), ([9], [9]), ([], []), ([], []), ([12], [12]), ([11, 13], [11, 13]), ([14], [14]), ([10, 15], [10, 15]), ([8, 0, 1, 2, 3, 4, 5, 6, 7, 8], [0, 8]), ([16, 17, 0, 1, 2, 3, 4, 5, 6, 7, 8, 9, 10, 11, 12, 13, 14, 15, 16, 17], [9, 16])])
def tb_where_4.B : List Nat := [0, 1, 0, 0, 8, 24, 60, 124, 255, 0, 512, 0, 0, 4096, 14336, 30720, 65024, 511, 262143]
theorem tb_where_4.tab : rtab .any (opsOf Try.f86 4) = tb_where_4.T := by kernel_rfl
theorem tb_where_4.bits : waitsOk tb_where_4.T.2 tb_where_4.B = true := by kernel_rfl
set_option maxRecDepth 100000 in
set_option maxHeartbeats 4000000 in
theorem where_calls (k : Nat) (p : Int) (w : World) (hk : k ≤ 20) :
    Calls Try.prog 86 #[.int .i64 k, .int .i64 p] w fun e w' => e = .returned (.tuple #[.int .i64 (whP k p 0 0).1, .int .i64 (whP k p 0 0).2]) ∧ Drawn0 w w' := by
  have Hk := Aside0.mk hk
  clear hk
  go_enter Try.func86, Try.ntmps86
  go_wp2
  repeat (go_quiet (fail); try go_wp2)
  go_loopg [4, 5, 6] k (fun kq v4 v5 v6 w' => ∃ (x y : Int), v4 = .int .i64 x ∧ v5 = .int .i64 y ∧ v6 = .int .i64 ((kq : Int) - 1) ∧ Aside0 (whP kq p x y = whP k p 0 0) ∧ Aside0 (kq ≤ k) ∧ Drawn0 w w')
  case atStart => exact ⟨0, 0, by rfl, by rfl, by have := Hk.out; congr 1; show wrap64 ((k : Int) - 1) = _; unfold wrap64; omega, ⟨rfl⟩, ⟨Nat.le_refl _⟩, by repeat (first | exact Drawn0.refl _ | apply Drawn0.step)⟩
  case round =>
    obtain ⟨x, y, rfl, rfl, rfl, HA, HK1, ⟨m1, rfl⟩⟩ := hrel
    cases gk with
    | zero =>
      have h0 : decide ((0 : Int) ≤ ((0 : Nat) : Int) - 1) = false := by decide
      go_wp2
      go_ret2
      exact ⟨by rw [← HA.out]; rfl, ⟨m1, rfl⟩⟩
    | succ i =>
      have := Hk.out
      have := HK1.out
      have hi : ((i + 1 : Nat) : Int) - 1 = i := by omega
      rw [hi]
      have h0 : decide ((0 : Int) ≤ (i : Int)) = true := by simp
      have hq0 : wrap64 (2 * (i : Int) + 1) = 2 * (i : Int) + 1 := by unfold wrap64; omega
      have hq1 : wrap64 (wrap64 (2 * (i : Int)) + 1) = 2 * (i : Int) + 1 := by unfold wrap64; omega
      have hq2 : wrap64 (2 * (i : Int)) = 2 * (i : Int) := by unfold wrap64; omega
      have hp1 : (0 : Int) ≤ 2 * (i : Int) + 1 := by omega
      have hp2 : (0 : Int) ≤ 2 * (i : Int) := by omega
      have D1 := decide_eq_true hp1
      have D2 := decide_eq_true hp2
      have E1 := eq_true hp1
      have E2 := eq_true hp2
      clear hp1 hp2 hi
      go_wp2
      refine start_ (n := 19) (S := fun w' => True) (ds := [17, 18]) #[false, false, false, false, false, false, false, false, false, false, false, false, false, false, false, false, false, false, false] (by kernel_rfl) rfl rfl trivial (fun hHeld => ?_)
      refine with_tabW tb_where_4.tab tb_where_4.bits (fun HT_ HW_ => ?_)
      refine pure_ (i := 0) (N := some 13) (v := ?_) (a' := ?_) #[true, false, false, false, false, false, false, false, false, false, false, false, false, false, false, false, false, false, false] rfl rfl (any_of HT_.out (by kernel_rfl)) (fun _ _ _ h => h) (Or.inl ⟨by rfl, ?_⟩) ?_ ?_
      rotate_left
      · intro w'
        go_simp
        with_reducible rfl
      rotate_left
      · simp only [Act.put, List.setIfInBounds_toArray, List.set_cons_zero, List.set_cons_succ, i64_w, i32_w]
        rfl
      refine pure_ (i := 1) (N := some 14) (v := ?_) (a' := ?_) #[true, true, false, false, false, false, false, false, false, false, false, false, false, false, false, false, false, false, false] rfl rfl (any_of HT_.out (by kernel_rfl)) (fun _ _ _ h => h) (Or.inl ⟨by rfl, ?_⟩) ?_ ?_
      rotate_left
      · intro w'
        go_simp
        with_reducible rfl
      rotate_left
      · simp only [Act.put, List.setIfInBounds_toArray, List.set_cons_zero, List.set_cons_succ, i64_w, i32_w]
        rfl
      refine pure_ (i := 2) (N := some 15) (v := ?_) (a' := ?_) #[true, true, true, false, false, false, false, false, false, false, false, false, false, false, false, false, false, false, false] rfl rfl (any_of HT_.out (by kernel_rfl)) (fun _ _ _ h => h) (Or.inl ⟨by rfl, ?_⟩) ?_ ?_
      rotate_left
      · intro w'
        go_simp
        with_reducible rfl
      rotate_left
      · simp only [Act.put, List.setIfInBounds_toArray, List.set_cons_zero, List.set_cons_succ, i64_w, i32_w]
        rfl
      refine pure_ (i := 3) (N := some 16) (v := ?_) (a' := ?_) #[true, true, true, true, false, false, false, false, false, false, false, false, false, false, false, false, false, false, false] rfl rfl (any_of HT_.out (by kernel_rfl)) (fun _ _ _ h => h) (Or.inl ⟨by rfl, ?_⟩) ?_ ?_
      rotate_left
      · intro w'
        go_simp
        with_reducible rfl
      rotate_left
      · simp only [Act.put, List.setIfInBounds_toArray, List.set_cons_zero, List.set_cons_succ, i64_w, i32_w]
        rfl
      refine pure_ (i := 4) (N := some 17) (v := ?_) (a' := ?_) #[true, true, true, true, true, false, false, false, false, false, false, false, false, false, false, false, false, false, false] rfl rfl (any_of HT_.out (by kernel_rfl)) (fun _ _ _ h => h) (Or.inl ⟨by rfl, ?_⟩) ?_ ?_
      rotate_left
      · intro w'
        go_simp
        with_reducible rfl
      rotate_left
      · simp only [Act.put, List.setIfInBounds_toArray, List.set_cons_zero, List.set_cons_succ, i64_w, i32_w]
        rfl
      refine pure_ (i := 5) (N := some 18) (v := ?_) (a' := ?_) #[true, true, true, true, true, true, false, false, false, false, false, false, false, false, false, false, false, false, false] rfl rfl (any_of HT_.out (by kernel_rfl)) (fun _ _ _ h => h) (Or.inl ⟨by rfl, ?_⟩) ?_ ?_
      rotate_left
      · intro w'
        go_simp
        with_reducible rfl
      rotate_left
      · simp only [Act.put, List.setIfInBounds_toArray, List.set_cons_zero, List.set_cons_succ, i64_w, i32_w]
        rfl
      refine pure_ (i := 6) (N := some 19) (v := ?_) (a' := ?_) #[true, true, true, true, true, true, true, false, false, false, false, false, false, false, false, false, false, false, false] rfl rfl (any_of HT_.out (by kernel_rfl)) (fun _ _ _ h => h) (Or.inl ⟨by rfl, ?_⟩) ?_ ?_
      rotate_left
      · intro w'
        go_simp
        with_reducible rfl
      rotate_left
      · simp only [Act.put, List.setIfInBounds_toArray, List.set_cons_zero, List.set_cons_succ, i64_w, i32_w]
        rfl
      refine pure_ (i := 7) (N := some 20) (v := ?_) (a' := ?_) #[true, true, true, true, true, true, true, true, false, false, false, false, false, false, false, false, false, false, false] rfl rfl (any_of HT_.out (by kernel_rfl)) (fun _ _ _ h => h) (Or.inl ⟨by rfl, ?_⟩) ?_ ?_
      rotate_left
      · intro w'
        go_simp
        with_reducible rfl
      rotate_left
      · simp only [Act.put, List.setIfInBounds_toArray, List.set_cons_zero, List.set_cons_succ, i64_w, i32_w]
        rfl
      refine pure_ (i := 8) (N := some 21) (v := ?_) (a' := ?_) #[true, true, true, true, true, true, true, true, true, false, false, false, false, false, false, false, false, false, false] rfl rfl (any_of HT_.out (by kernel_rfl)) (fun _ _ _ h => h) (Or.inl ⟨by rfl, ?_⟩) ?_ ?_
      rotate_left
      · intro w'
        go_simp
        with_reducible rfl
      rotate_left
      · simp only [Act.put, List.setIfInBounds_toArray, List.set_cons_zero, List.set_cons_succ, i64_w, i32_w]
        rfl
      refine pure_ (i := 9) (N := some 22) (v := ?_) (a' := ?_) #[true, true, true, true, true, true, true, true, true, true, false, false, false, false, false, false, false, false, false] rfl rfl (any_of HT_.out (by kernel_rfl)) (fun _ _ _ h => h) (Or.inl ⟨by rfl, ?_⟩) ?_ ?_
      rotate_left
      · intro w'
        go_simp
        with_reducible rfl
      rotate_left
      · simp only [Act.put, List.setIfInBounds_toArray, List.set_cons_zero, List.set_cons_succ, i64_w, i32_w]
        rfl
      refine pure_ (i := 10) (N := some 23) (v := ?_) (a' := ?_) #[true, true, true, true, true, true, true, true, true, true, true, false, false, false, false, false, false, false, false] rfl rfl (any_of HT_.out (by kernel_rfl)) (fun _ _ _ h => h) (Or.inl ⟨by rfl, ?_⟩) ?_ ?_
      rotate_left
      · intro w'
        go_simp
        with_reducible rfl
      rotate_left
      · simp only [Act.put, List.setIfInBounds_toArray, List.set_cons_zero, List.set_cons_succ, i64_w, i32_w]
        rfl
      refine pure_ (i := 11) (N := some 24) (v := ?_) (a' := ?_) #[true, true, true, true, true, true, true, true, true, true, true, true, false, false, false, false, false, false, false] rfl rfl (any_of HT_.out (by kernel_rfl)) (fun _ _ _ h => h) (Or.inl ⟨by rfl, ?_⟩) ?_ ?_
      rotate_left
      · intro w'
        go_simp
        with_reducible rfl
      rotate_left
      · simp only [Act.put, List.setIfInBounds_toArray, List.set_cons_zero, List.set_cons_succ, i64_w, i32_w]
        rfl
      refine pure_ (i := 12) (N := some 25) (v := ?_) (a' := ?_) #[true, true, true, true, true, true, true, true, true, true, true, true, true, false, false, false, false, false, false] rfl rfl (any_of HT_.out (by kernel_rfl)) (fun _ _ _ h => h) (Or.inl ⟨by rfl, ?_⟩) ?_ ?_
      rotate_left
      · intro w'
        go_simp
        with_reducible rfl
      rotate_left
      · simp only [Act.put, List.setIfInBounds_toArray, List.set_cons_zero, List.set_cons_succ, i64_w, i32_w]
        rfl
      refine pure_ (i := 13) (N := some 26) (v := ?_) (a' := ?_) #[true, true, true, true, true, true, true, true, true, true, true, true, true, true, false, false, false, false, false] rfl rfl (any_of HT_.out (by kernel_rfl)) (fun _ _ _ h => h) (Or.inl ⟨by rfl, ?_⟩) ?_ ?_
      rotate_left
      · intro w'
        go_simp
        with_reducible rfl
      rotate_left
      · simp only [Act.put, List.setIfInBounds_toArray, List.set_cons_zero, List.set_cons_succ, i64_w, i32_w]
        rfl
      refine pure_ (i := 14) (N := some 27) (v := ?_) (a' := ?_) #[true, true, true, true, true, true, true, true, true, true, true, true, true, true, true, false, false, false, false] rfl rfl (any_of HT_.out (by kernel_rfl)) (fun _ _ _ h => h) (Or.inl ⟨by rfl, ?_⟩) ?_ ?_
      rotate_left
      · intro w'
        go_simp
        with_reducible rfl
      rotate_left
      · simp only [Act.put, List.setIfInBounds_toArray, List.set_cons_zero, List.set_cons_succ, i64_w, i32_w]
        rfl
      refine pure_ (i := 15) (N := some 28) (v := ?_) (a' := ?_) #[true, true, true, true, true, true, true, true, true, true, true, true, true, true, true, true, false, false, false] rfl rfl (any_of HT_.out (by kernel_rfl)) (fun _ _ _ h => h) (Or.inl ⟨by rfl, ?_⟩) ?_ ?_
      rotate_left
      · intro w'
        go_simp
        with_reducible rfl
      rotate_left
      · simp only [Act.put, List.setIfInBounds_toArray, List.set_cons_zero, List.set_cons_succ, i64_w, i32_w]
        rfl
      refine pure_ (i := 16) (N := some 29) (v := ?_) (a' := ?_) #[true, true, true, true, true, true, true, true, true, true, true, true, true, true, true, true, true, false, false] rfl rfl (any_of HT_.out (by kernel_rfl)) (fun _ _ _ h => h) (Or.inl ⟨by rfl, ?_⟩) ?_ ?_
      rotate_left
      · intro w'
        go_simp
        with_reducible rfl
      rotate_left
      · simp only [Act.put, List.setIfInBounds_toArray, List.set_cons_zero, List.set_cons_succ, i64_w, i32_w]
        rfl
      refine pure_ (i := 17) (N := some 4) (v := ?_) (a' := ?_) #[true, true, true, true, true, true, true, true, true, true, true, true, true, true, true, true, true, true, false] rfl rfl (any_of HT_.out (by kernel_rfl)) (fun _ _ _ h => h) (Or.inl ⟨by rfl, ?_⟩) ?_ ?_
      rotate_left
      · intro w'
        go_simp
        with_reducible rfl
      rotate_left
      · simp only [Act.put, List.setIfInBounds_toArray, List.set_cons_zero, List.set_cons_succ, i64_w, i32_w]
        rfl
      refine pure_ (i := 18) (N := some 5) (v := ?_) (a' := ?_) #[true, true, true, true, true, true, true, true, true, true, true, true, true, true, true, true, true, true, true] rfl rfl (any_of HT_.out (by kernel_rfl)) (fun _ _ _ h => h) (Or.inl ⟨by rfl, ?_⟩) ?_ ?_
      rotate_left
      · intro w'
        go_simp
        with_reducible rfl
      rotate_left
      · simp only [Act.put, List.setIfInBounds_toArray, List.set_cons_zero, List.set_cons_succ, i64_w, i32_w]
        rfl
      refine done_ (done_of HT_.out (by kernel_rfl)) ?_
      go_wp2
      repeat (go_quiet (fail); try go_wp2)
      go_roundg i
      case measure => have := HK1.out; omega
      case rel => exact ⟨_, _, by rfl, by rfl, by rfl, ⟨by rw [← HA.out, show (2 * (i : Int) + 1).toNat = 2 * i + 1 by omega, show (2 * (i : Int)).toNat = 2 * i by omega]; rfl⟩, ⟨by have := HK1.out; omega⟩, by repeat (first | exact Drawn0.refl _ | apply Drawn0.step | exact ⟨_, rfl⟩)⟩
end Go.Proofs.Ytlplphgoldkoeaa.HTab
end

section
set_option linter.unusedVariables false
set_option linter.unusedSimpArgs false
namespace Go.Proofs.Ytlplphgoldkoeaa.X
open Go.RowKit Go.Proofs.YtlplphgoldkoeaaW.PrintWords Go.Proofs.YtlplphgoldkoeaaW.PrintLast Go.Proofs.YtlplphgoldkoeaaW.PrintMore
attribute [local go_sem] max2_int min2_int max_two min_two max_three min_three max_four min_four   -- for this text's walks alone
set_option linter.unusedVariables false
set_option linter.unusedSimpArgs false
def mask_cell.l0 : Nat → Int → Int → Int → Int → Option (Int)
  | 0, _, _, _, _ => none
  | k + 1, x1, x2, x7, x8 => if x8 ≥ 0 then (if 0 ≤ x8 then (mask_cell.l0 k x1 x2 (wrap64 ((wrap64 ((wrap64 (4 * x7)) + (wrap64 (2 * (Go.bits .and .i64 (shr .i64 x1 x8) 1))))) + (Go.bits .and .i64 (shr .i64 x2 x8) 1))) (wrap64 (x8 - 1))) else (none)) else (some x7)
def mask_cell.f (k : Nat) (a0 : Int) (a1 : Int) (a2 : Int) : Option (Int) := mask_cell.l0 k a1 a2 0 (wrap64 (a0 - 1))
theorem mask_cell.mono_l : ∀ k, (∀ y0 y1 y2 y3, LeO (mask_cell.l0 k y0 y1 y2 y3) (mask_cell.l0 (k + 1) y0 y1 y2 y3))
  | 0 => fun _ _ _ _ r h => by simp [mask_cell.l0] at h
  | k + 1 => by
    have ih0 := mask_cell.mono_l k
    · intro y0 y1 y2 y3
      unfold mask_cell.l0
      repeat' first
      | (with_reducible exact ih0 _ _ _ _)
      | (with_reducible exact LeO.refl _)
      | (with_reducible exact LeO.none _)
      | (with_reducible refine LeO.ite ?_ ?_)
      | (with_reducible refine LeO.bind ?_ (fun _ => ?_))
      | exact ih0 _ _ _ _
      | exact LeO.none _
      | refine LeO.ite ?_ ?_
      | refine LeO.bind ?_ (fun _ => ?_)
theorem mask_cell.mono : ∀ a0 a1 a2 k, LeO (mask_cell.f k a0 a1 a2) (mask_cell.f (k + 1) a0 a1 a2) := by
  intro a0 a1 a2 k
  have ih0 := mask_cell.mono_l k
  unfold mask_cell.f
  repeat' first
      | (with_reducible exact ih0 _ _ _ _)
      | (with_reducible exact LeO.refl _)
      | (with_reducible exact LeO.none _)
      | (with_reducible refine LeO.ite ?_ ?_)
      | (with_reducible refine LeO.bind ?_ (fun _ => ?_))
      | exact ih0 _ _ _ _
      | exact LeO.none _
      | refine LeO.ite ?_ ?_
      | refine LeO.bind ?_ (fun _ => ?_)
set_option maxHeartbeats 8000000 in
set_option maxRecDepth 100000 in
theorem mask_cell.calls (k : Nat) (a0 : Int) (a1 : Int) (a2 : Int) (r : Int) (w : World) (h : mask_cell.f k a0 a1 a2 = some r) :
    Calls Try.prog 80 #[.int .i64 a0, .int .i64 a1, .int .i64 a2] w fun e w' => e = .returned (.int .i64 r) ∧ Drawn0 w w' := by
  have H : (mask_cell.l0 k a1 a2 0 (wrap64 (a0 - 1))) = some r := h
  clear h
  have H' := Aside0.mk H
  clear H
  go_enter Try.func80, Try.ntmps80
  go_wp2
  repeat (go_quiet (fail); try go_wp2)
  go_loopg [7, 8] k (fun kq v7 v8 w' => ∃ (x7_1 : Int) (x8_1 : Int), v7 = .int .i64 x7_1 ∧ v8 = .int .i64 x8_1 ∧ Aside0 (mask_cell.l0 kq a1 a2 x7_1 x8_1 = some r) ∧ Aside0 (kq ≤ k) ∧ Drawn0 w w')
  case atStart => exact ⟨(0), (wrap64 (a0 - 1)), (by first | rfl | (simp; done) | (simp [*]; done)), (by first | rfl | (simp; done) | (simp [*]; done)), H', ⟨Nat.le_refl _⟩, by repeat (first | exact Drawn0.refl _ | apply Drawn0.step)⟩
  case round =>
    clear H'
    try clear p2
    obtain ⟨x7_1, x8_1, rfl, rfl, HA, HK1, ⟨m1, rfl⟩⟩ := hrel
    cases gk with
    | zero => exact absurd HA.out (by simp [mask_cell.l0])
    | succ k1 =>
      have H := HA.out
      clear HA
      simp only [mask_cell.l0] at H
      by_cases c4 : x8_1 ≥ 0
      · rw [if_pos c4] at H
        have c4b0 : decide (0 ≤ x8_1) = true := decide_eq_true c4
        clear c4
        by_cases c5 : 0 ≤ x8_1
        · rw [if_pos c5] at H
          have c5b0 := eq_true c5
          have c5b1 : decide (0 ≤ x8_1) = true := decide_eq_true c5
          clear c5
          obtain ⟨ji6, hji6⟩ : ∃ j_ : Int, (shr .i64 a1 x8_1) = j_ := ⟨_, rfl⟩
          replace H : (mask_cell.l0 k1 a1 a2 (wrap64 ((wrap64 ((wrap64 (4 * x7_1)) + (wrap64 (2 * (Go.bits .and .i64 (ji6) 1))))) + (Go.bits .and .i64 (shr .i64 a2 x8_1) 1))) (wrap64 (x8_1 - 1))) = some r := by first | (rw [hji6] at H; exact H) | (simp only [hji6] at H ⊢; exact H)
          have hji6_ : (a1 / 2 ^ min x8_1.toNat 64) = ji6 := hji6
          have hji6z : x8_1 ≤ 64 → (a1 / 2 ^ x8_1.toNat) = ji6 := shr_small hji6
          have c7b0 := eq_true (of_decide_eq_true (by first | (with_reducible assumption) | assumption) : 0 ≤ x8_1)
          obtain ⟨ji8, hji8⟩ : ∃ j_ : Int, (shr .i64 a2 x8_1) = j_ := ⟨_, rfl⟩
          replace H : (mask_cell.l0 k1 a1 a2 (wrap64 ((wrap64 ((wrap64 (4 * x7_1)) + (wrap64 (2 * (Go.bits .and .i64 (ji6) 1))))) + (Go.bits .and .i64 (ji8) 1))) (wrap64 (x8_1 - 1))) = some r := by first | (rw [hji8] at H; exact H) | (simp only [hji8] at H ⊢; exact H)
          have hji8_ : (a2 / 2 ^ min x8_1.toNat 64) = ji8 := hji8
          have hji8z : x8_1 ≤ 64 → (a2 / 2 ^ x8_1.toNat) = ji8 := shr_small hji8
          have H' := Aside0.mk H
          clear H
          go_wp2
          repeat (go_quiet (fail); try go_wp2)
          go_roundg k1
          case measure => have := HK1.out; omega
          case rel => exact ⟨(wrap64 ((wrap64 ((wrap64 (4 * x7_1)) + (wrap64 (2 * (Go.bits .and .i64 (ji6) 1))))) + (Go.bits .and .i64 (ji8) 1))), (wrap64 (x8_1 - 1)), (by first | rfl | (simp; done) | (simp only [← hji6, ← hji8] <;> (first | rfl | simp)) | (simp [*]; done)), (by first | rfl | (simp; done) | (simp [*]; done)), H', ⟨by have := HK1.out; omega⟩, by repeat (first | exact Drawn0.refl _ | apply Drawn0.step)⟩
        · rw [if_neg c5] at H
          exact absurd H (by simp)
      · rw [if_neg c4] at H
        have c4b0 : decide (0 ≤ x8_1) = false := decide_eq_false c4
        clear c4
        obtain rfl := Option.some.inj H
        go_wp2
        repeat (go_quiet (fail); try go_wp2)
        go_ret
        exact ⟨by first | rfl | (simp; done) | (simp [*]; done), by repeat (first | exact Drawn0.refl _ | apply Drawn0.step)⟩
end Go.Proofs.Ytlplphgoldkoeaa.X
end

section
set_option linter.unusedVariables false
set_option linter.unusedSimpArgs false
namespace Go.Proofs.Ytlplphgoldkoeaa.X
open Go.RowKit Go.Proofs.YtlplphgoldkoeaaW.PrintWords Go.Proofs.YtlplphgoldkoeaaW.PrintLast Go.Proofs.YtlplphgoldkoeaaW.PrintMore
attribute [local go_sem] max2_int min2_int max_two min_two max_three min_three max_four min_four   -- for this text's walks alone
set_option linter.unusedVariables false
set_option linter.unusedSimpArgs false
def mask_Cell.f (k : Nat) (a0 : Int) (a1 : Int) (a2 : Int) : Option (Int × Int) := if a0 < 0 then (some (0, 2)) else (if a0 > 6 then (some (0, 2)) else (if (mn a1 a2) < 0 then (some (0, 2)) else (if 0 ≤ a0 then (if (mx a1 a2) ≥ (shl .i64 1 a0) then (some (0, 2)) else ((mask_cell.f k a0 a1 a2).bind fun t101 => (some (t101, 0)))) else (none))))
theorem mask_Cell.mono : ∀ a0 a1 a2 k, LeO (mask_Cell.f k a0 a1 a2) (mask_Cell.f (k + 1) a0 a1 a2) := by
  intro a0 a1 a2 k
  unfold mask_Cell.f
  repeat' first
      | (with_reducible exact mask_cell.mono _ _ _ _)
      | (with_reducible exact LeO.refl _)
      | (with_reducible exact LeO.none _)
      | (with_reducible refine LeO.ite ?_ ?_)
      | (with_reducible refine LeO.bind ?_ (fun _ => ?_))
      | exact mask_cell.mono _ _ _ _
      | exact LeO.none _
      | refine LeO.ite ?_ ?_
      | refine LeO.bind ?_ (fun _ => ?_)
set_option maxHeartbeats 8000000 in
set_option maxRecDepth 100000 in
theorem mask_Cell.calls (k : Nat) (a0 : Int) (a1 : Int) (a2 : Int) (r1 : Int) (r2 : Int) (w : World) (h : mask_Cell.f k a0 a1 a2 = some (r1, r2)) :
    Calls Try.prog 19 #[.int .i64 a0, .int .i64 a1, .int .i64 a2] w fun e w' => e = .returned (.tuple #[.int .i64 r1, .int .i64 r2]) ∧ Below w.heap.size w w' := by
  have HB := Aside0.mk (Below.refl w.heap.size w)
  have H : (if a0 < 0 then (some (0, 2)) else (if a0 > 6 then (some (0, 2)) else (if (mn a1 a2) < 0 then (some (0, 2)) else (if 0 ≤ a0 then (if (mx a1 a2) ≥ (shl .i64 1 a0) then (some (0, 2)) else ((mask_cell.f k a0 a1 a2).bind fun t101 => (some (t101, 0)))) else (none))))) = some (r1, r2) := h
  clear h
  by_cases c4 : a0 < 0
  · rw [if_pos c4] at H
    have c4b0 : decide (a0 < 0) = true := decide_eq_true c4
    clear c4
    simp only [Option.some.injEq, Prod.mk.injEq] at H
    obtain ⟨rfl, rfl⟩ := H
    go_enter Try.func19, Try.ntmps19
    go_wp2
    go_ret2
    exact ⟨by first | rfl | (simp [errW_none, errW_some] <;> rfl) | (simp [*, errW_none, errW_some] <;> rfl), by repeat (first | (with_reducible first | exact HB.out | apply below_alloc | apply pw_below_drewN | apply below_drew1) | exact HB.out)⟩
  · rw [if_neg c4] at H
    have c4b0 : decide (a0 < 0) = false := decide_eq_false c4
    clear c4
    by_cases c5 : a0 > 6
    · rw [if_pos c5] at H
      have c5b0 : decide (6 < a0) = true := decide_eq_true c5
      clear c5
      simp only [Option.some.injEq, Prod.mk.injEq] at H
      obtain ⟨rfl, rfl⟩ := H
      go_enter Try.func19, Try.ntmps19
      go_wp2
      go_ret2
      exact ⟨by first | rfl | (simp [errW_none, errW_some] <;> rfl) | (simp [*, errW_none, errW_some] <;> rfl), by repeat (first | (with_reducible first | exact HB.out | apply below_alloc | apply pw_below_drewN | apply below_drew1) | exact HB.out)⟩
    · rw [if_neg c5] at H
      have c5b0 : decide (6 < a0) = false := decide_eq_false c5
      clear c5
      obtain ⟨ji6, hji6⟩ : ∃ j_ : Int, (mn a1 a2) = j_ := ⟨_, rfl⟩
      replace H : (if (ji6) < 0 then (some (0, 2)) else (if 0 ≤ a0 then (if (mx a1 a2) ≥ (shl .i64 1 a0) then (some (0, 2)) else ((mask_cell.f k a0 a1 a2).bind fun t101 => (some (t101, 0)))) else (none))) = some (r1, r2) := by first | (rw [hji6] at H; exact H) | (simp only [hji6] at H ⊢; exact H)
      have hji6_ : (if a2 < a1 then a2 else a1) = ji6 := hji6
      by_cases c7 : (ji6) < 0
      · rw [if_pos c7] at H
        have c7b0 : decide ((ji6) < 0) = true := decide_eq_true c7
        clear c7
        simp only [Option.some.injEq, Prod.mk.injEq] at H
        obtain ⟨rfl, rfl⟩ := H
        go_enter Try.func19, Try.ntmps19
        go_wp2
        go_ret2
        exact ⟨by first | rfl | (simp [errW_none, errW_some] <;> rfl) | (simp only [← hji6]; first | rfl | (simp [errW_none, errW_some] <;> rfl)) | (simp [*, errW_none, errW_some] <;> rfl), by repeat (first | (with_reducible first | exact HB.out | apply below_alloc | apply pw_below_drewN | apply below_drew1) | exact HB.out)⟩
      · rw [if_neg c7] at H
        have c7b0 : decide ((ji6) < 0) = false := decide_eq_false c7
        clear c7
        obtain ⟨ji8, hji8⟩ : ∃ j_ : Int, (mx a1 a2) = j_ := ⟨_, rfl⟩
        replace H : (if 0 ≤ a0 then (if (ji8) ≥ (shl .i64 1 a0) then (some (0, 2)) else ((mask_cell.f k a0 a1 a2).bind fun t101 => (some (t101, 0)))) else (none)) = some (r1, r2) := by first | (rw [hji8] at H; exact H) | (simp only [hji8] at H ⊢; exact H)
        have hji8_ : (if a1 < a2 then a2 else a1) = ji8 := hji8
        by_cases c9 : 0 ≤ a0
        · rw [if_pos c9] at H
          have c9b0 := eq_true c9
          have c9b1 : decide (0 ≤ a0) = true := decide_eq_true c9
          clear c9
          obtain ⟨ji10, hji10⟩ : ∃ j_ : Int, (shl .i64 1 a0) = j_ := ⟨_, rfl⟩
          replace H : (if (ji8) ≥ (ji10) then (some (0, 2)) else ((mask_cell.f k a0 a1 a2).bind fun t101 => (some (t101, 0)))) = some (r1, r2) := by first | (rw [hji10] at H; exact H) | (simp only [hji10] at H ⊢; exact H)
          have hji10_ : (IntKind.i64.wrap (1 * 2 ^ min a0.toNat 64)) = ji10 := hji10
          have hji10z : a0 ≤ 64 → (IntKind.i64.wrap (1 * 2 ^ a0.toNat)) = ji10 := shl_small hji10
          have hji10u : (IntKind.i64.wrap (2 ^ min a0.toNat 64)) = ji10 := by have h_ := hji10_; rw [Int.one_mul] at h_; exact h_
          have hji10v : a0 ≤ 64 → (IntKind.i64.wrap (2 ^ a0.toNat)) = ji10 := fun hle_ => by have h_ := hji10z hle_; rw [Int.one_mul] at h_; exact h_
          have hji10y : (wrap64 (1 * 2 ^ min a0.toNat 64)) = ji10 := (i64_w _).symm.trans hji10_
          have hji10x : a0 ≤ 64 → (wrap64 (1 * 2 ^ a0.toNat)) = ji10 := fun h_ => (i64_w _).symm.trans (hji10z h_)
          by_cases c11 : (ji8) ≥ (ji10)
          · rw [if_pos c11] at H
            have c11b0 : decide ((ji10) ≤ (ji8)) = true := decide_eq_true c11
            clear c11
            simp only [Option.some.injEq, Prod.mk.injEq] at H
            obtain ⟨rfl, rfl⟩ := H
            go_enter Try.func19, Try.ntmps19
            go_wp2
            go_ret2
            exact ⟨by first | rfl | (simp [errW_none, errW_some] <;> rfl) | (simp only [← hji6, ← hji8, ← hji10]; first | rfl | (simp [errW_none, errW_some] <;> rfl)) | (simp [*, errW_none, errW_some] <;> rfl), by repeat (first | (with_reducible first | exact HB.out | apply below_alloc | apply pw_below_drewN | apply below_drew1) | exact HB.out)⟩
          · rw [if_neg c11] at H
            have c11b0 : decide ((ji10) ≤ (ji8)) = false := decide_eq_false c11
            clear c11
            replace H := Option.bind_eq_some_iff.mp H
            obtain ⟨t101, A120, H⟩ := H
            replace H : (some (t101, 0)) = some (r1, r2) := H
            have A12 := Aside0.mk A120
            clear A120
            simp only [Option.some.injEq, Prod.mk.injEq] at H
            obtain ⟨rfl, rfl⟩ := H
            go_enter Try.func19, Try.ntmps19
            go_wp2_with (first | ((with_reducible refine gate_callee (f := 80) rfl ?_); refine goesL_ (some 31) rfl rfl Try.func80 (by kernel_rfl) rfl #[.int .i64 a0, .int .i64 a1, .int .i64 a2] rfl (by (try simp only [List.map_toArray, List.map_cons, List.map_nil]); first | done | rfl | (simp only [List.length_drop, List.length_take]; rfl)) ?_; (with_reducible refine (mask_cell.calls k a0 a1 a2 t101 _ A12.out).mono ?_); rintro e w' ⟨rfl, ⟨nd, rfl⟩⟩; refine ⟨_, rfl, ?_⟩))
            go_ret2
            exact ⟨by first | rfl | (simp [errW_none, errW_some] <;> rfl) | (simp only [← hji6, ← hji8, ← hji10]; first | rfl | (simp [errW_none, errW_some] <;> rfl)) | (simp [*, errW_none, errW_some] <;> rfl), by repeat (first | (with_reducible first | exact HB.out | apply below_alloc | apply pw_below_drewN | apply below_drew1) | exact HB.out)⟩
        · rw [if_neg c9] at H
          exact absurd H (by simp)
end Go.Proofs.Ytlplphgoldkoeaa.X
end

section
set_option linter.unusedVariables false
set_option linter.unusedSimpArgs false
namespace Go.Proofs.Ytlplphgoldkoeaa.X
open Go.RowKit Go.Proofs.YtlplphgoldkoeaaW.PrintWords Go.Proofs.YtlplphgoldkoeaaW.PrintLast Go.Proofs.YtlplphgoldkoeaaW.PrintMore
attribute [local go_sem] max2_int min2_int max_two min_two max_three min_three max_four min_four   -- for this text's walks alone
set_option linter.unusedVariables false
set_option linter.unusedSimpArgs false
def cantingref02_Side.f (a0 : Int) : Option (Bool) := if a0 ≥ 0 then (some (decide (a0 ≤ 6))) else (some false)
set_option maxHeartbeats 8000000 in
set_option maxRecDepth 100000 in
theorem cantingref02_Side.calls (a0 : Int) (r : Bool) (w : World) (h : cantingref02_Side.f a0 = some r) :
    Calls Try.prog 81 #[.int .i64 a0] w fun e w' => e = .returned (.bool r) ∧ Drawn0 w w' := by
  have H : (if a0 ≥ 0 then (some (decide (a0 ≤ 6))) else (some false)) = some r := h
  clear h
  by_cases c2 : a0 ≥ 0
  · rw [if_pos c2] at H
    have c2b0 : decide (0 ≤ a0) = true := decide_eq_true c2
    clear c2
    obtain rfl := Option.some.inj H
    go_enter Try.func81, Try.ntmps81
    go_wp2
    go_ret
    exact ⟨by first | rfl | (simp; done) | (simp [*]; done), by repeat (first | exact Drawn0.refl _ | apply Drawn0.step)⟩
  · rw [if_neg c2] at H
    have c2b0 : decide (0 ≤ a0) = false := decide_eq_false c2
    clear c2
    obtain rfl := Option.some.inj H
    go_enter Try.func81, Try.ntmps81
    go_wp2
    go_ret
    exact ⟨by first | rfl | (simp; done) | (simp [*]; done), by repeat (first | exact Drawn0.refl _ | apply Drawn0.step)⟩
end Go.Proofs.Ytlplphgoldkoeaa.X
end

section
set_option linter.unusedVariables false
set_option linter.unusedSimpArgs false
namespace Go.Proofs.Ytlplphgoldkoeaa.X
open Go.RowKit Go.Proofs.YtlplphgoldkoeaaW.PrintWords Go.Proofs.YtlplphgoldkoeaaW.PrintLast Go.Proofs.YtlplphgoldkoeaaW.PrintMore
attribute [local go_sem] max2_int min2_int max_two min_two max_three min_three max_four min_four   -- for this text's walks alone
set_option linter.unusedVariables false
set_option linter.unusedSimpArgs false
def cantingref02_on.f (a0 : Int) (a1 : Int) : Option (Bool) := if a1 ≥ 0 then (if 0 ≤ a0 then (some (decide (a1 < (shl .i64 1 a0)))) else (none)) else (some false)
set_option maxHeartbeats 8000000 in
set_option maxRecDepth 100000 in
theorem cantingref02_on.calls (a0 : Int) (a1 : Int) (r : Bool) (w : World) (h : cantingref02_on.f a0 a1 = some r) :
    Calls Try.prog 82 #[.int .i64 a0, .int .i64 a1] w fun e w' => e = .returned (.bool r) ∧ Drawn0 w w' := by
  have H : (if a1 ≥ 0 then (if 0 ≤ a0 then (some (decide (a1 < (shl .i64 1 a0)))) else (none)) else (some false)) = some r := h
  clear h
  by_cases c3 : a1 ≥ 0
  · rw [if_pos c3] at H
    have c3b0 : decide (0 ≤ a1) = true := decide_eq_true c3
    clear c3
    by_cases c4 : 0 ≤ a0
    · rw [if_pos c4] at H
      have c4b0 := eq_true c4
      have c4b1 : decide (0 ≤ a0) = true := decide_eq_true c4
      clear c4
      obtain ⟨ji5, hji5⟩ : ∃ j_ : Int, (shl .i64 1 a0) = j_ := ⟨_, rfl⟩
      replace H : (some (decide (a1 < (ji5)))) = some r := by first | (rw [hji5] at H; exact H) | (simp only [hji5] at H ⊢; exact H)
      have hji5_ : (IntKind.i64.wrap (1 * 2 ^ min a0.toNat 64)) = ji5 := hji5
      have hji5z : a0 ≤ 64 → (IntKind.i64.wrap (1 * 2 ^ a0.toNat)) = ji5 := shl_small hji5
      have hji5u : (IntKind.i64.wrap (2 ^ min a0.toNat 64)) = ji5 := by have h_ := hji5_; rw [Int.one_mul] at h_; exact h_
      have hji5v : a0 ≤ 64 → (IntKind.i64.wrap (2 ^ a0.toNat)) = ji5 := fun hle_ => by have h_ := hji5z hle_; rw [Int.one_mul] at h_; exact h_
      have hji5y : (wrap64 (1 * 2 ^ min a0.toNat 64)) = ji5 := (i64_w _).symm.trans hji5_
      have hji5x : a0 ≤ 64 → (wrap64 (1 * 2 ^ a0.toNat)) = ji5 := fun h_ => (i64_w _).symm.trans (hji5z h_)
      obtain rfl := Option.some.inj H
      go_enter Try.func82, Try.ntmps82
      go_wp2
      go_ret
      exact ⟨by first | rfl | (simp; done) | (simp only [← hji5] <;> (first | rfl | simp)) | (simp [*]; done), by repeat (first | exact Drawn0.refl _ | apply Drawn0.step)⟩
    · rw [if_neg c4] at H
      exact absurd H (by simp)
  · rw [if_neg c3] at H
    have c3b0 : decide (0 ≤ a1) = false := decide_eq_false c3
    clear c3
    obtain rfl := Option.some.inj H
    go_enter Try.func82, Try.ntmps82
    go_wp2
    go_ret
    exact ⟨by first | rfl | (simp; done) | (simp [*]; done), by repeat (first | exact Drawn0.refl _ | apply Drawn0.step)⟩
end Go.Proofs.Ytlplphgoldkoeaa.X
end

section
set_option linter.unusedVariables false
set_option linter.unusedSimpArgs false
namespace Go.Proofs.Ytlplphgoldkoeaa.X
open Go.RowKit Go.Proofs.YtlplphgoldkoeaaW.PrintWords Go.Proofs.YtlplphgoldkoeaaW.PrintLast Go.Proofs.YtlplphgoldkoeaaW.PrintMore
attribute [local go_sem] max2_int min2_int max_two min_two max_three min_three max_four min_four   -- for this text's walks alone
set_option linter.unusedVariables false
set_option linter.unusedSimpArgs false
def cantingref02_with.f (a0 : Int) (a1 : Int) (a2 : Int) (a3 : Bool) : Option (Int) := if 0 ≤ (wrap64 ((wrap64 (a0 - 1)) - a2)) then (if a3 = true then (some (Go.bits .or .i64 (Go.bits .andNot .i64 a1 (shl .i64 1 (wrap64 ((wrap64 (a0 - 1)) - a2)))) (shl .i64 1 (wrap64 ((wrap64 (a0 - 1)) - a2))))) else (some (Go.bits .andNot .i64 a1 (shl .i64 1 (wrap64 ((wrap64 (a0 - 1)) - a2)))))) else (none)
set_option maxHeartbeats 8000000 in
set_option maxRecDepth 100000 in
theorem cantingref02_with.calls (a0 : Int) (a1 : Int) (a2 : Int) (a3 : Bool) (r : Int) (w : World) (h : cantingref02_with.f a0 a1 a2 a3 = some r) :
    Calls Try.prog 106 #[.int .i64 a0, .int .i64 a1, .int .i64 a2, .bool a3] w fun e w' => e = .returned (.int .i64 r) ∧ Drawn0 w w' := by
  have H : (if 0 ≤ (wrap64 ((wrap64 (a0 - 1)) - a2)) then (if a3 = true then (some (Go.bits .or .i64 (Go.bits .andNot .i64 a1 (shl .i64 1 (wrap64 ((wrap64 (a0 - 1)) - a2)))) (shl .i64 1 (wrap64 ((wrap64 (a0 - 1)) - a2))))) else (some (Go.bits .andNot .i64 a1 (shl .i64 1 (wrap64 ((wrap64 (a0 - 1)) - a2)))))) else (none)) = some r := h
  clear h
  obtain ⟨ji5, hji5⟩ : ∃ j_ : Int, (wrap64 ((wrap64 (a0 - 1)) - a2)) = j_ := ⟨_, rfl⟩
  replace H : (if 0 ≤ (ji5) then (if a3 = true then (some (Go.bits .or .i64 (Go.bits .andNot .i64 a1 (shl .i64 1 (ji5))) (shl .i64 1 (ji5)))) else (some (Go.bits .andNot .i64 a1 (shl .i64 1 (ji5))))) else (none)) = some r := by first | (rw [hji5] at H; exact H) | (simp only [hji5] at H ⊢; exact H)
  have hji5w : (IntKind.i64.wrap ((wrap64 (a0 - 1)) - a2)) = ji5 := (i64_w _).trans hji5
  by_cases c6 : 0 ≤ (ji5)
  · rw [if_pos c6] at H
    have c6b0 := eq_true c6
    have c6b1 : decide (0 ≤ (ji5)) = true := decide_eq_true c6
    clear c6
    obtain ⟨ji7, hji7⟩ : ∃ j_ : Int, (shl .i64 1 (ji5)) = j_ := ⟨_, rfl⟩
    replace H : (if a3 = true then (some (Go.bits .or .i64 (Go.bits .andNot .i64 a1 (ji7)) (ji7))) else (some (Go.bits .andNot .i64 a1 (ji7)))) = some r := by first | (rw [hji7] at H; exact H) | (simp only [hji7] at H ⊢; exact H)
    have hji7_ : (IntKind.i64.wrap (1 * 2 ^ min (ji5).toNat 64)) = ji7 := hji7
    have hji7z : (ji5) ≤ 64 → (IntKind.i64.wrap (1 * 2 ^ (ji5).toNat)) = ji7 := shl_small hji7
    have hji7u : (IntKind.i64.wrap (2 ^ min (ji5).toNat 64)) = ji7 := by have h_ := hji7_; rw [Int.one_mul] at h_; exact h_
    have hji7v : (ji5) ≤ 64 → (IntKind.i64.wrap (2 ^ (ji5).toNat)) = ji7 := fun hle_ => by have h_ := hji7z hle_; rw [Int.one_mul] at h_; exact h_
    have hji7y : (wrap64 (1 * 2 ^ min (ji5).toNat 64)) = ji7 := (i64_w _).symm.trans hji7_
    have hji7x : (ji5) ≤ 64 → (wrap64 (1 * 2 ^ (ji5).toNat)) = ji7 := fun h_ => (i64_w _).symm.trans (hji7z h_)
    by_cases c8 : a3 = true
    · subst c8
      have H1 : (some (Go.bits .or .i64 (Go.bits .andNot .i64 a1 (ji7)) (ji7))) = some r := by rw [if_pos rfl] at H; exact H
      clear H
      have H := H1
      clear H1
      have c9b0 := eq_true (of_decide_eq_true (by first | (with_reducible assumption) | assumption) : 0 ≤ (ji5))
      obtain rfl := Option.some.inj H
      go_enter Try.func106, Try.ntmps106
      go_wp2
      go_ret
      exact ⟨by first | rfl | (simp; done) | (simp only [← hji5, ← hji7] <;> (first | rfl | simp)) | (simp [*]; done), by repeat (first | exact Drawn0.refl _ | apply Drawn0.step)⟩
    · replace c8 := Bool.eq_false_iff.mpr c8
      subst c8
      have H1 : (some (Go.bits .andNot .i64 a1 (ji7))) = some r := by rw [if_neg (show ¬ (false = true) by decide)] at H; exact H
      clear H
      have H := H1
      clear H1
      obtain rfl := Option.some.inj H
      go_enter Try.func106, Try.ntmps106
      go_wp2
      go_ret
      exact ⟨by first | rfl | (simp; done) | (simp only [← hji5, ← hji7] <;> (first | rfl | simp)) | (simp [*]; done), by repeat (first | exact Drawn0.refl _ | apply Drawn0.step)⟩
  · rw [if_neg c6] at H
    exact absurd H (by simp)
end Go.Proofs.Ytlplphgoldkoeaa.X
end

section
set_option linter.unusedVariables false
set_option linter.unusedSimpArgs false
namespace Go.Proofs.Ytlplphgoldkoeaa.X
open Go.RowKit Go.Proofs.YtlplphgoldkoeaaW.PrintWords Go.Proofs.YtlplphgoldkoeaaW.PrintLast Go.Proofs.YtlplphgoldkoeaaW.PrintMore
attribute [local go_sem] max2_int min2_int max_two min_two max_three min_three max_four min_four   -- for this text's walks alone
set_option linter.unusedVariables false
set_option linter.unusedSimpArgs false
def cantingref02_Point.l0 : Nat → Int → Int → Int → Int → Int → Int → Option (Int)
  | 0, _, _, _, _, _, _ => none
  | k + 1, x0, x1, x2, x7, x9, x10 => if x10 < x9 then (if 0 ≤ (wrap64 ((wrap64 (x0 - 1)) - x10)) then ((cantingref02_with.f (wrap64 (2 * x0)) x7 (wrap64 (2 * x10)) ((Go.bits .and .i64 (shr .i64 x1 (wrap64 ((wrap64 (x0 - 1)) - x10))) 1) == 1)).bind fun t102 => ((cantingref02_with.f (wrap64 (2 * x0)) t102 (wrap64 ((wrap64 (2 * x10)) + 1)) ((Go.bits .and .i64 (shr .i64 x2 (wrap64 ((wrap64 (x0 - 1)) - x10))) 1) == 1)).bind fun t103 => (cantingref02_Point.l0 k x0 x1 x2 t103 x9 (wrap64 (x10 + 1))))) else (none)) else (some x7)
def cantingref02_Point.f (k : Nat) (a0 : Int) (a1 : Int) (a2 : Int) : Option (Int) := cantingref02_Point.l0 k a0 a1 a2 0 a0 0
theorem cantingref02_Point.mono_l : ∀ k, (∀ y0 y1 y2 y3 y4 y5, LeO (cantingref02_Point.l0 k y0 y1 y2 y3 y4 y5) (cantingref02_Point.l0 (k + 1) y0 y1 y2 y3 y4 y5))
  | 0 => fun _ _ _ _ _ _ r h => by simp [cantingref02_Point.l0] at h
  | k + 1 => by
    have ih0 := cantingref02_Point.mono_l k
    · intro y0 y1 y2 y3 y4 y5
      unfold cantingref02_Point.l0
      repeat' first
      | (with_reducible exact ih0 _ _ _ _ _ _)
      | (with_reducible exact LeO.refl _)
      | (with_reducible exact LeO.none _)
      | (with_reducible refine LeO.ite ?_ ?_)
      | (with_reducible refine LeO.bind ?_ (fun _ => ?_))
      | exact ih0 _ _ _ _ _ _
      | exact LeO.none _
      | refine LeO.ite ?_ ?_
      | refine LeO.bind ?_ (fun _ => ?_)
theorem cantingref02_Point.mono : ∀ a0 a1 a2 k, LeO (cantingref02_Point.f k a0 a1 a2) (cantingref02_Point.f (k + 1) a0 a1 a2) := by
  intro a0 a1 a2 k
  have ih0 := cantingref02_Point.mono_l k
  unfold cantingref02_Point.f
  repeat' first
      | (with_reducible exact ih0 _ _ _ _ _ _)
      | (with_reducible exact LeO.refl _)
      | (with_reducible exact LeO.none _)
      | (with_reducible refine LeO.ite ?_ ?_)
      | (with_reducible refine LeO.bind ?_ (fun _ => ?_))
      | exact ih0 _ _ _ _ _ _
      | exact LeO.none _
      | refine LeO.ite ?_ ?_
      | refine LeO.bind ?_ (fun _ => ?_)
set_option maxHeartbeats 8000000 in
set_option maxRecDepth 100000 in
theorem cantingref02_Point.calls (k : Nat) (a0 : Int) (a1 : Int) (a2 : Int) (r : Int) (w : World) (h : cantingref02_Point.f k a0 a1 a2 = some r) :
    Calls Try.prog 83 #[.int .i64 a0, .int .i64 a1, .int .i64 a2] w fun e w' => e = .returned (.int .i64 r) ∧ Drawn0 w w' := by
  have H : (cantingref02_Point.l0 k a0 a1 a2 0 a0 0) = some r := h
  clear h
  have H' := Aside0.mk H
  clear H
  go_enter Try.func83, Try.ntmps83
  go_wp2
  go_loopg [7, 10] k (fun kq v7 v10 w' => ∃ (x7_1 : Int) (x10_1 : Int), v7 = .int .i64 x7_1 ∧ v10 = .int .i64 x10_1 ∧ Aside0 (cantingref02_Point.l0 kq a0 a1 a2 x7_1 a0 x10_1 = some r) ∧ Aside0 (kq ≤ k) ∧ Drawn0 w w')
  case atStart => exact ⟨(0), (0), (by first | rfl | (simp; done) | (simp [*]; done)), (by first | rfl | (simp; done) | (simp [*]; done)), H', ⟨Nat.le_refl _⟩, by repeat (first | exact Drawn0.refl _ | apply Drawn0.step)⟩
  case round =>
    clear H'
    try clear p2
    obtain ⟨x7_1, x10_1, rfl, rfl, HA, HK1, ⟨m1, rfl⟩⟩ := hrel
    cases gk with
    | zero => exact absurd HA.out (by simp [cantingref02_Point.l0])
    | succ k1 =>
      have H := HA.out
      clear HA
      simp only [cantingref02_Point.l0] at H
      by_cases c4 : x10_1 < a0
      · rw [if_pos c4] at H
        have c4b0 : decide (x10_1 < a0) = true := decide_eq_true c4
        clear c4
        obtain ⟨ji5, hji5⟩ : ∃ j_ : Int, (wrap64 ((wrap64 (a0 - 1)) - x10_1)) = j_ := ⟨_, rfl⟩
        replace H : (if 0 ≤ (ji5) then ((cantingref02_with.f (wrap64 (2 * a0)) x7_1 (wrap64 (2 * x10_1)) ((Go.bits .and .i64 (shr .i64 a1 (ji5)) 1) == 1)).bind fun t102 => ((cantingref02_with.f (wrap64 (2 * a0)) t102 (wrap64 ((wrap64 (2 * x10_1)) + 1)) ((Go.bits .and .i64 (shr .i64 a2 (ji5)) 1) == 1)).bind fun t103 => (cantingref02_Point.l0 k1 a0 a1 a2 t103 a0 (wrap64 (x10_1 + 1))))) else (none)) = some r := by first | (rw [hji5] at H; exact H) | (simp only [hji5] at H ⊢; exact H)
        have hji5w : (IntKind.i64.wrap ((wrap64 (a0 - 1)) - x10_1)) = ji5 := (i64_w _).trans hji5
        by_cases c6 : 0 ≤ (ji5)
        · rw [if_pos c6] at H
          have c6b0 := eq_true c6
          have c6b1 : decide (0 ≤ (ji5)) = true := decide_eq_true c6
          clear c6
          obtain ⟨ji7, hji7⟩ : ∃ j_ : Int, (shr .i64 a1 (ji5)) = j_ := ⟨_, rfl⟩
          replace H : ((cantingref02_with.f (wrap64 (2 * a0)) x7_1 (wrap64 (2 * x10_1)) ((Go.bits .and .i64 (ji7) 1) == 1)).bind fun t102 => ((cantingref02_with.f (wrap64 (2 * a0)) t102 (wrap64 ((wrap64 (2 * x10_1)) + 1)) ((Go.bits .and .i64 (shr .i64 a2 (ji5)) 1) == 1)).bind fun t103 => (cantingref02_Point.l0 k1 a0 a1 a2 t103 a0 (wrap64 (x10_1 + 1))))) = some r := by first | (rw [hji7] at H; exact H) | (simp only [hji7] at H ⊢; exact H)
          have hji7_ : (a1 / 2 ^ min (ji5).toNat 64) = ji7 := hji7
          have hji7z : (ji5) ≤ 64 → (a1 / 2 ^ (ji5).toNat) = ji7 := shr_small hji7
          replace H := Option.bind_eq_some_iff.mp H
          obtain ⟨t102, A80, H⟩ := H
          replace H : ((cantingref02_with.f (wrap64 (2 * a0)) t102 (wrap64 ((wrap64 (2 * x10_1)) + 1)) ((Go.bits .and .i64 (shr .i64 a2 (ji5)) 1) == 1)).bind fun t103 => (cantingref02_Point.l0 k1 a0 a1 a2 t103 a0 (wrap64 (x10_1 + 1)))) = some r := H
          have A8 := Aside0.mk A80
          clear A80
          have c9b0 := eq_true (of_decide_eq_true (by first | (with_reducible assumption) | assumption) : 0 ≤ (ji5))
          obtain ⟨ji10, hji10⟩ : ∃ j_ : Int, (shr .i64 a2 (ji5)) = j_ := ⟨_, rfl⟩
          replace H : ((cantingref02_with.f (wrap64 (2 * a0)) t102 (wrap64 ((wrap64 (2 * x10_1)) + 1)) ((Go.bits .and .i64 (ji10) 1) == 1)).bind fun t103 => (cantingref02_Point.l0 k1 a0 a1 a2 t103 a0 (wrap64 (x10_1 + 1)))) = some r := by first | (rw [hji10] at H; exact H) | (simp only [hji10] at H ⊢; exact H)
          (try rw [hji10] at A8)
          have hji10_ : (a2 / 2 ^ min (ji5).toNat 64) = ji10 := hji10
          have hji10z : (ji5) ≤ 64 → (a2 / 2 ^ (ji5).toNat) = ji10 := shr_small hji10
          replace H := Option.bind_eq_some_iff.mp H
          obtain ⟨t103, A110, H⟩ := H
          replace H : (cantingref02_Point.l0 k1 a0 a1 a2 t103 a0 (wrap64 (x10_1 + 1))) = some r := H
          have A11 := Aside0.mk A110
          clear A110
          have H' := Aside0.mk H
          clear H
          go_wp2_with (first | ((with_reducible refine gate_callee (f := 106) rfl ?_); refine goesL_ (some 26) rfl rfl Try.func106 (by kernel_rfl) rfl #[.int .i64 (wrap64 (2 * a0)), .int .i64 x7_1, .int .i64 (wrap64 (2 * x10_1)), .bool ((Go.bits .and .i64 (ji7) 1) == 1)] rfl (by (try simp only [List.map_toArray, List.map_cons, List.map_nil]); first | done | (simp only [hji7]; rfl) | rfl | (simp only [List.length_drop, List.length_take]; rfl)) ?_; (with_reducible refine (cantingref02_with.calls (wrap64 (2 * a0)) x7_1 (wrap64 (2 * x10_1)) ((Go.bits .and .i64 (ji7) 1) == 1) t102 _ A8.out).mono ?_); rintro e w' ⟨rfl, ⟨nd, rfl⟩⟩; refine ⟨_, rfl, ?_⟩) | ((with_reducible refine gate_callee (f := 106) rfl ?_); refine goesL_ (some 41) rfl rfl Try.func106 (by kernel_rfl) rfl #[.int .i64 (wrap64 (2 * a0)), .int .i64 t102, .int .i64 (wrap64 ((wrap64 (2 * x10_1)) + 1)), .bool ((Go.bits .and .i64 (ji10) 1) == 1)] rfl (by (try simp only [List.map_toArray, List.map_cons, List.map_nil]); first | done | (simp only [hji10]; rfl) | rfl | (simp only [List.length_drop, List.length_take]; rfl)) ?_; (with_reducible refine (cantingref02_with.calls (wrap64 (2 * a0)) t102 (wrap64 ((wrap64 (2 * x10_1)) + 1)) ((Go.bits .and .i64 (ji10) 1) == 1) t103 _ A11.out).mono ?_); rintro e w' ⟨rfl, ⟨nd, rfl⟩⟩; refine ⟨_, rfl, ?_⟩))
          go_roundg k1
          case measure => have := HK1.out; omega
          case rel => exact ⟨(t103), (wrap64 (x10_1 + 1)), (by first | rfl | (simp; done) | (simp [*]; done)), (by first | rfl | (simp; done) | (simp [*]; done)), H', ⟨by have := HK1.out; omega⟩, by repeat (first | exact Drawn0.refl _ | apply Drawn0.step)⟩
        · rw [if_neg c6] at H
          exact absurd H (by simp)
      · rw [if_neg c4] at H
        have c4b0 : decide (x10_1 < a0) = false := decide_eq_false c4
        clear c4
        obtain rfl := Option.some.inj H
        go_wp2
        go_ret
        exact ⟨by first | rfl | (simp; done) | (simp [*]; done), by repeat (first | exact Drawn0.refl _ | apply Drawn0.step)⟩
end Go.Proofs.Ytlplphgoldkoeaa.X
end

section
set_option linter.unusedVariables false
set_option linter.unusedSimpArgs false
namespace Go.Proofs.Ytlplphgoldkoeaa.X
open Go.RowKit Go.Proofs.YtlplphgoldkoeaaW.PrintWords Go.Proofs.YtlplphgoldkoeaaW.PrintLast Go.Proofs.YtlplphgoldkoeaaW.PrintMore
attribute [local go_sem] max2_int min2_int max_two min_two max_three min_three max_four min_four   -- for this text's walks alone
set_option linter.unusedVariables false
set_option linter.unusedSimpArgs false
def cantingref02_Cell.f (k : Nat) (a0 : Int) (a1 : Int) (a2 : Int) : Option (Int × Int) := (cantingref02_Side.f a0).bind fun t104 => (if t104 = true then ((cantingref02_on.f a0 a1).bind fun t105 => (if t105 = true then ((cantingref02_on.f a0 a2).bind fun t106 => (if t106 = true then ((cantingref02_Point.f k a0 a1 a2).bind fun t107 => (some (t107, 0))) else (some (0, 2)))) else (some (0, 2)))) else (some (0, 2)))
theorem cantingref02_Cell.mono : ∀ a0 a1 a2 k, LeO (cantingref02_Cell.f k a0 a1 a2) (cantingref02_Cell.f (k + 1) a0 a1 a2) := by
  intro a0 a1 a2 k
  unfold cantingref02_Cell.f
  repeat' first
      | (with_reducible exact cantingref02_Point.mono _ _ _ _)
      | (with_reducible exact LeO.refl _)
      | (with_reducible exact LeO.none _)
      | (with_reducible refine LeO.ite ?_ ?_)
      | (with_reducible refine LeO.bind ?_ (fun _ => ?_))
      | exact cantingref02_Point.mono _ _ _ _
      | exact LeO.none _
      | refine LeO.ite ?_ ?_
      | refine LeO.bind ?_ (fun _ => ?_)
set_option maxHeartbeats 8000000 in
set_option maxRecDepth 100000 in
theorem cantingref02_Cell.calls (k : Nat) (a0 : Int) (a1 : Int) (a2 : Int) (r1 : Int) (r2 : Int) (w : World) (h : cantingref02_Cell.f k a0 a1 a2 = some (r1, r2)) :
    Calls Try.prog 20 #[.int .i64 a0, .int .i64 a1, .int .i64 a2] w fun e w' => e = .returned (.tuple #[.int .i64 r1, .int .i64 r2]) ∧ Drawn0 w w' := by
  have H : ((cantingref02_Side.f a0).bind fun t104 => (if t104 = true then ((cantingref02_on.f a0 a1).bind fun t105 => (if t105 = true then ((cantingref02_on.f a0 a2).bind fun t106 => (if t106 = true then ((cantingref02_Point.f k a0 a1 a2).bind fun t107 => (some (t107, 0))) else (some (0, 2)))) else (some (0, 2)))) else (some (0, 2)))) = some (r1, r2) := h
  clear h
  replace H := Option.bind_eq_some_iff.mp H
  obtain ⟨t104, A40, H⟩ := H
  replace H : (if t104 = true then ((cantingref02_on.f a0 a1).bind fun t105 => (if t105 = true then ((cantingref02_on.f a0 a2).bind fun t106 => (if t106 = true then ((cantingref02_Point.f k a0 a1 a2).bind fun t107 => (some (t107, 0))) else (some (0, 2)))) else (some (0, 2)))) else (some (0, 2))) = some (r1, r2) := H
  have A4 := Aside0.mk A40
  clear A40
  by_cases c5 : t104 = true
  · subst c5
    have H1 : ((cantingref02_on.f a0 a1).bind fun t105 => (if t105 = true then ((cantingref02_on.f a0 a2).bind fun t106 => (if t106 = true then ((cantingref02_Point.f k a0 a1 a2).bind fun t107 => (some (t107, 0))) else (some (0, 2)))) else (some (0, 2)))) = some (r1, r2) := by rw [if_pos rfl] at H; exact H
    clear H
    have H := H1
    clear H1
    replace H := Option.bind_eq_some_iff.mp H
    obtain ⟨t105, A60, H⟩ := H
    replace H : (if t105 = true then ((cantingref02_on.f a0 a2).bind fun t106 => (if t106 = true then ((cantingref02_Point.f k a0 a1 a2).bind fun t107 => (some (t107, 0))) else (some (0, 2)))) else (some (0, 2))) = some (r1, r2) := H
    have A6 := Aside0.mk A60
    clear A60
    by_cases c7 : t105 = true
    · subst c7
      have H1 : ((cantingref02_on.f a0 a2).bind fun t106 => (if t106 = true then ((cantingref02_Point.f k a0 a1 a2).bind fun t107 => (some (t107, 0))) else (some (0, 2)))) = some (r1, r2) := by rw [if_pos rfl] at H; exact H
      clear H
      have H := H1
      clear H1
      replace H := Option.bind_eq_some_iff.mp H
      obtain ⟨t106, A80, H⟩ := H
      replace H : (if t106 = true then ((cantingref02_Point.f k a0 a1 a2).bind fun t107 => (some (t107, 0))) else (some (0, 2))) = some (r1, r2) := H
      have A8 := Aside0.mk A80
      clear A80
      by_cases c9 : t106 = true
      · subst c9
        have H1 : ((cantingref02_Point.f k a0 a1 a2).bind fun t107 => (some (t107, 0))) = some (r1, r2) := by rw [if_pos rfl] at H; exact H
        clear H
        have H := H1
        clear H1
        replace H := Option.bind_eq_some_iff.mp H
        obtain ⟨t107, A100, H⟩ := H
        replace H : (some (t107, 0)) = some (r1, r2) := H
        have A10 := Aside0.mk A100
        clear A100
        simp only [Option.some.injEq, Prod.mk.injEq] at H
        obtain ⟨rfl, rfl⟩ := H
        go_enter Try.func20, Try.ntmps20
        go_wp2_with (first | ((with_reducible refine gate_callee (f := 81) rfl ?_); refine goesL_ (some 9) rfl rfl Try.func81 (by kernel_rfl) rfl #[.int .i64 a0] rfl (by (try simp only [List.map_toArray, List.map_cons, List.map_nil]); first | done | rfl | (simp only [List.length_drop, List.length_take]; rfl)) ?_; (with_reducible refine (cantingref02_Side.calls a0 true _ A4.out).mono ?_); rintro e w' ⟨rfl, ⟨nd, rfl⟩⟩; refine ⟨_, rfl, ?_⟩) | (go_at_call 82; (with_reducible refine (cantingref02_on.calls a0 a1 true _ A6.out).mono ?_); rintro e w' ⟨rfl, ⟨nd, rfl⟩⟩) | (go_at_call 82; (with_reducible refine (cantingref02_on.calls a0 a2 true _ A8.out).mono ?_); rintro e w' ⟨rfl, ⟨nd, rfl⟩⟩) | ((with_reducible refine gate_callee (f := 83) rfl ?_); refine goesL_ (some 26) rfl rfl Try.func83 (by kernel_rfl) rfl #[.int .i64 a0, .int .i64 a1, .int .i64 a2] rfl (by (try simp only [List.map_toArray, List.map_cons, List.map_nil]); first | done | rfl | (simp only [List.length_drop, List.length_take]; rfl)) ?_; (with_reducible refine (cantingref02_Point.calls k a0 a1 a2 t107 _ A10.out).mono ?_); rintro e w' ⟨rfl, ⟨nd, rfl⟩⟩; refine ⟨_, rfl, ?_⟩))
        go_ret2
        exact ⟨by first | rfl | (simp; done) | (simp [*]; done), by repeat (first | exact Drawn0.refl _ | apply Drawn0.step)⟩
      · replace c9 := Bool.eq_false_iff.mpr c9
        subst c9
        have H1 : (some (0, 2)) = some (r1, r2) := by rw [if_neg (show ¬ (false = true) by decide)] at H; exact H
        clear H
        have H := H1
        clear H1
        simp only [Option.some.injEq, Prod.mk.injEq] at H
        obtain ⟨rfl, rfl⟩ := H
        go_enter Try.func20, Try.ntmps20
        go_wp2_with (first | ((with_reducible refine gate_callee (f := 81) rfl ?_); refine goesL_ (some 9) rfl rfl Try.func81 (by kernel_rfl) rfl #[.int .i64 a0] rfl (by (try simp only [List.map_toArray, List.map_cons, List.map_nil]); first | done | rfl | (simp only [List.length_drop, List.length_take]; rfl)) ?_; (with_reducible refine (cantingref02_Side.calls a0 true _ A4.out).mono ?_); rintro e w' ⟨rfl, ⟨nd, rfl⟩⟩; refine ⟨_, rfl, ?_⟩) | (go_at_call 82; (with_reducible refine (cantingref02_on.calls a0 a1 true _ A6.out).mono ?_); rintro e w' ⟨rfl, ⟨nd, rfl⟩⟩) | (go_at_call 82; (with_reducible refine (cantingref02_on.calls a0 a2 false _ A8.out).mono ?_); rintro e w' ⟨rfl, ⟨nd, rfl⟩⟩))
        go_ret2
        exact ⟨by first | rfl | (simp; done) | (simp [*]; done), by repeat (first | exact Drawn0.refl _ | apply Drawn0.step)⟩
    · replace c7 := Bool.eq_false_iff.mpr c7
      subst c7
      have H1 : (some (0, 2)) = some (r1, r2) := by rw [if_neg (show ¬ (false = true) by decide)] at H; exact H
      clear H
      have H := H1
      clear H1
      simp only [Option.some.injEq, Prod.mk.injEq] at H
      obtain ⟨rfl, rfl⟩ := H
      go_enter Try.func20, Try.ntmps20
      go_wp2_with (first | ((with_reducible refine gate_callee (f := 81) rfl ?_); refine goesL_ (some 9) rfl rfl Try.func81 (by kernel_rfl) rfl #[.int .i64 a0] rfl (by (try simp only [List.map_toArray, List.map_cons, List.map_nil]); first | done | rfl | (simp only [List.length_drop, List.length_take]; rfl)) ?_; (with_reducible refine (cantingref02_Side.calls a0 true _ A4.out).mono ?_); rintro e w' ⟨rfl, ⟨nd, rfl⟩⟩; refine ⟨_, rfl, ?_⟩) | (go_at_call 82; (with_reducible refine (cantingref02_on.calls a0 a1 false _ A6.out).mono ?_); rintro e w' ⟨rfl, ⟨nd, rfl⟩⟩))
      go_ret2
      exact ⟨by first | rfl | (simp; done) | (simp [*]; done), by repeat (first | exact Drawn0.refl _ | apply Drawn0.step)⟩
  · replace c5 := Bool.eq_false_iff.mpr c5
    subst c5
    have H1 : (some (0, 2)) = some (r1, r2) := by rw [if_neg (show ¬ (false = true) by decide)] at H; exact H
    clear H
    have H := H1
    clear H1
    simp only [Option.some.injEq, Prod.mk.injEq] at H
    obtain ⟨rfl, rfl⟩ := H
    go_enter Try.func20, Try.ntmps20
    go_wp2_with (first | ((with_reducible refine gate_callee (f := 81) rfl ?_); refine goesL_ (some 9) rfl rfl Try.func81 (by kernel_rfl) rfl #[.int .i64 a0] rfl (by (try simp only [List.map_toArray, List.map_cons, List.map_nil]); first | done | rfl | (simp only [List.length_drop, List.length_take]; rfl)) ?_; (with_reducible refine (cantingref02_Side.calls a0 false _ A4.out).mono ?_); rintro e w' ⟨rfl, ⟨nd, rfl⟩⟩; refine ⟨_, rfl, ?_⟩))
    go_ret2
    exact ⟨by first | rfl | (simp; done) | (simp [*]; done), by repeat (first | exact Drawn0.refl _ | apply Drawn0.step)⟩
end Go.Proofs.Ytlplphgoldkoeaa.X
end

section
set_option linter.unusedVariables false
set_option linter.unusedSimpArgs false
namespace Go.Proofs.Ytlplphgoldkoeaa.HTab
open Go.RowKit Go.Proofs.YtlplphgoldkoeaaW.PrintWords Go.Proofs.YtlplphgoldkoeaaW.PrintLast Go.Proofs.YtlplphgoldkoeaaW.PrintMore Go.Proofs.Ytlplphgoldkoeaa.HMap Go.Proofs.Ytlplphgoldkoeaa.X
set_option linter.unusedVariables false
set_option linter.unusedSimpArgs false
def chkW (j : Nat) : Bool := (List.range (2 ^ (11 - j))).all fun a => decide (Go.bits .andNot .i64 ((a : Int) * 2 ^ (j + 1)) (2 ^ j) = (a : Int) * 2 ^ (j + 1)) && decide (Go.bits .or .i64 ((a : Int) * 2 ^ (j + 1)) (2 ^ j) = (a : Int) * 2 ^ (j + 1) + 2 ^ j)
theorem pow4_pos (k : Nat) : (0 : Int) < 4 ^ k := Int.pow_pos (by decide)
theorem pow42 (i : Nat) : (2 : Int) ^ (2 * i) = 4 ^ i := by rw [Int.pow_mul]; rfl
def cP : Nat → Int → Int → Int → Int
  | 0, _, _, p => p
  | i + 1, x, y, p => cP i x y (4 * p + 2 * (x / 2 ^ i % 2) + y / 2 ^ i % 2)
def whQ : Nat → Int → Int → Int → Int × Int
  | 0, _, x, y => (x, y)
  | i + 1, p, x, y => whQ i p (2 * x + p / 2 ^ (2 * i + 1) % 2) (2 * y + p / 2 ^ (2 * i) % 2)
theorem grow2 {x P : Int} (hP : 0 < P) (c : Int) (hc : c ≤ 1) (h : (x + 1) * (P * 2) ≤ 1000000) : (2 * x + c + 1) * P ≤ 1000000 := by
  have h1 : (2 * x + c + 1) * P ≤ (2 * x + 2) * P := Int.mul_le_mul_of_nonneg_right (by omega) (by omega)
  have h2 : (x + 1) * (P * 2) = (2 * x + 2) * P := by rw [Int.mul_comm P 2, ← Int.mul_assoc, show (x + 1) * 2 = 2 * x + 2 by omega]
  omega
theorem grow4 {x P : Int} (hP : 0 < P) (c : Int) (hc : c ≤ 3) (h : (x + 1) * (P * 4) ≤ 1000000) : (4 * x + c + 1) * P ≤ 1000000 := by
  have h1 : (4 * x + c + 1) * P ≤ (4 * x + 4) * P := Int.mul_le_mul_of_nonneg_right (by omega) (by omega)
  have h2 : (x + 1) * (P * 4) = (4 * x + 4) * P := by rw [Int.mul_comm P 4, ← Int.mul_assoc, show (x + 1) * 4 = 4 * x + 4 by omega]
  omega
theorem small {x P : Int} (hx : 0 ≤ x) (hP : 0 < P) (h : (x + 1) * P ≤ 1000000) : x < 1000000 := by
  have : (x + 1) * 1 ≤ (x + 1) * P := Int.mul_le_mul_of_nonneg_left (by omega) (by omega)
  omega
theorem whP_eq (p : Int) (p0 : 0 ≤ p) (p1 : p < 2 ^ 63) : ∀ (i : Nat) (x y : Int), 0 ≤ x → 0 ≤ y → (x + 1) * 2 ^ i ≤ 1000000 → (y + 1) * 2 ^ i ≤ 1000000 → whP i p x y = whQ i p x y
  | 0, _, _, _, _, _, _ => rfl
  | i + 1, x, y, hx, hy, bx, bY => by
    have sx := small hx (pow_pos (i + 1)) bx
    have sy := small hy (pow_pos (i + 1)) bY
    have d1 := div_lt p0 p1 (2 * i + 1)
    have d0 := div_lt p0 p1 (2 * i)
    simp only [whP, whQ]
    rw [and_one d1.1 d1.2, and_one d0.1 d0.2]
    rw [Int.pow_succ] at bx bY
    have m1 := Int.emod_two_eq (p / 2 ^ (2 * i + 1))
    have m0 := Int.emod_two_eq (p / 2 ^ (2 * i))
    have e1 : wrap64 (wrap64 (2 * x) + p / 2 ^ (2 * i + 1) % 2) = 2 * x + p / 2 ^ (2 * i + 1) % 2 := by unfold wrap64; omega
    have e0 : wrap64 (wrap64 (2 * y) + p / 2 ^ (2 * i) % 2) = 2 * y + p / 2 ^ (2 * i) % 2 := by unfold wrap64; omega
    rw [e1, e0]
    exact whP_eq p p0 p1 i _ _ (by omega) (by omega) (grow2 (pow_pos i) _ (by omega) bx) (grow2 (pow_pos i) _ (by omega) bY)
theorem cP_div (x y : Int) : ∀ (i : Nat) (p : Int), cP i x y p / 4 ^ i = p
  | 0, p => by simp [cP]
  | i + 1, p => by
    simp only [cP]
    rw [Int.pow_succ, ← Int.ediv_ediv_of_nonneg (by have := pow4_pos i; omega), cP_div x y i]
    have m1 := Int.emod_two_eq (x / 2 ^ i)
    have m0 := Int.emod_two_eq (y / 2 ^ i)
    omega
theorem emod2 (x P : Int) (hP : 0 < P) : x % (P * 2) = P * (x / P % 2) + x % P := by
  rw [Int.emod_def x (P * 2), Int.emod_def (x / P) 2, Int.emod_def x P, ← Int.ediv_ediv_of_nonneg (by omega), Int.mul_sub, Int.mul_assoc]
  omega
theorem emod4 (x P : Int) (hP : 0 < P) : x % (P * 4) = P * (2 * (x / P / 2 % 2) + x / P % 2) + x % P := by
  rw [show P * 4 = P * 2 * 2 by omega, emod2 x (P * 2) (by omega), emod2 x P hP, ← Int.ediv_ediv_of_nonneg (by omega), Int.mul_add, Int.mul_assoc]
  omega
theorem two_mul_add (X b P : Int) : (2 * X + b) * P = X * (P * 2) + P * b := by
  rw [Int.add_mul, Int.mul_comm b P, Int.mul_comm P 2, ← Int.mul_assoc X 2 P, Int.mul_comm X 2]
theorem whQ_cP (x y : Int) : ∀ (i : Nat) (p X Y : Int), whQ i (cP i x y p) X Y = (X * 2 ^ i + x % 2 ^ i, Y * 2 ^ i + y % 2 ^ i)
  | 0, p, X, Y => by simp [whQ, cP, Int.emod_one]
  | i + 1, p, X, Y => by
    have hd := cP_div x y i (4 * p + 2 * (x / 2 ^ i % 2) + y / 2 ^ i % 2)
    simp only [whQ, cP]
    rw [whQ_cP x y i, pow42, hd, Int.pow_succ, ← Int.ediv_ediv_of_nonneg (by have := pow_pos (2 * i); omega), pow42, hd]
    have m1 := Int.emod_two_eq (x / 2 ^ i)
    have m0 := Int.emod_two_eq (y / 2 ^ i)
    have hb1 : (4 * p + 2 * (x / 2 ^ i % 2) + y / 2 ^ i % 2) / 2 % 2 = x / 2 ^ i % 2 := by omega
    have hb0 : (4 * p + 2 * (x / 2 ^ i % 2) + y / 2 ^ i % 2) % 2 = y / 2 ^ i % 2 := by omega
    rw [hb1, hb0, Int.pow_succ 2 i, emod2 x _ (pow_pos i), emod2 y _ (pow_pos i), two_mul_add, two_mul_add]
    congr 1 <;> omega
theorem whQ_div (q : Int) : ∀ (i : Nat) (X Y : Int), (whQ i q X Y).1 / 2 ^ i = X ∧ (whQ i q X Y).2 / 2 ^ i = Y
  | 0, X, Y => by simp [whQ]
  | i + 1, X, Y => by
    have h := whQ_div q i (2 * X + q / 2 ^ (2 * i + 1) % 2) (2 * Y + q / 2 ^ (2 * i) % 2)
    simp only [whQ]
    have m1 := Int.emod_two_eq (q / 2 ^ (2 * i + 1))
    have m0 := Int.emod_two_eq (q / 2 ^ (2 * i))
    rw [Int.pow_succ 2 i, ← Int.ediv_ediv_of_nonneg (Int.le_of_lt (pow_pos i)), ← Int.ediv_ediv_of_nonneg (Int.le_of_lt (pow_pos i)), h.1, h.2]
    omega
theorem cP_whQ (q : Int) : ∀ (i : Nat) (X Y p : Int), cP i (whQ i q X Y).1 (whQ i q X Y).2 p = p * 4 ^ i + q % 4 ^ i
  | 0, X, Y, p => by simp [whQ, cP, Int.emod_one]
  | i + 1, X, Y, p => by
    have hd := whQ_div q i (2 * X + q / 2 ^ (2 * i + 1) % 2) (2 * Y + q / 2 ^ (2 * i) % 2)
    simp only [whQ, cP]
    rw [hd.1, hd.2, cP_whQ q i]
    have hp := pow4_pos i
    have m1 := Int.emod_two_eq (q / 2 ^ (2 * i + 1))
    have m0 := Int.emod_two_eq (q / 2 ^ (2 * i))
    have e1 : (2 * X + q / 2 ^ (2 * i + 1) % 2) % 2 = q / 2 ^ (2 * i + 1) % 2 := by omega
    have e0 : (2 * Y + q / 2 ^ (2 * i) % 2) % 2 = q / 2 ^ (2 * i) % 2 := by omega
    rw [e1, e0, Int.pow_succ 4 i, emod4 q _ hp, Int.pow_succ 2 (2 * i), ← Int.ediv_ediv_of_nonneg (by have := pow_pos (2 * i); omega), pow42]
    generalize (4 : Int) ^ i = P at *
    generalize q / P / 2 % 2 = b
    generalize q / P % 2 = c
    rw [Int.add_assoc, Int.add_mul, Int.mul_comm (2 * b + c) P, Int.mul_comm P 4, ← Int.mul_assoc p 4 P, Int.mul_comm p 4]
    omega
theorem cP_le (x y : Int) : ∀ (i : Nat) (p : Int), 0 ≤ p → 0 ≤ cP i x y p ∧ cP i x y p < (p + 1) * 4 ^ i
  | 0, p, h => by simp only [cP, Int.pow_zero]; omega
  | i + 1, p, h => by
    have m1 := Int.emod_two_eq (x / 2 ^ i)
    have m0 := Int.emod_two_eq (y / 2 ^ i)
    have := cP_le x y i (4 * p + 2 * (x / 2 ^ i % 2) + y / 2 ^ i % 2) (by omega)
    simp only [cP]
    refine ⟨this.1, ?_⟩
    have h1 : (4 * p + 2 * (x / 2 ^ i % 2) + y / 2 ^ i % 2 + 1) * 4 ^ i ≤ (4 * p + 4) * 4 ^ i := Int.mul_le_mul_of_nonneg_right (by omega) (by have := pow4_pos i; omega)
    have h2 : (p + 1) * 4 ^ (i + 1) = (4 * p + 4) * 4 ^ i := by rw [Int.pow_succ, Int.mul_comm (4 ^ i) 4, ← Int.mul_assoc, show (p + 1) * 4 = 4 * p + 4 by omega]
    omega
theorem mask_cell_l0 (x y : Int) (x0 : 0 ≤ x) (x1 : x < 2 ^ 63) (y0 : 0 ≤ y) (y1 : y < 2 ^ 63) : ∀ (i fuel : Nat) (p : Int), i ≤ 60 → i < fuel → 0 ≤ p → (p + 1) * 4 ^ i ≤ 1000000 → mask_cell.l0 fuel x y p ((i : Int) - 1) = some (cP i x y p)
  | 0, fuel, p, hi, hf, hp, hb => by
    obtain ⟨fuel, rfl⟩ : ∃ m, fuel = m + 1 := ⟨fuel - 1, by omega⟩
    simp only [mask_cell.l0]
    rw [if_neg (by omega)]
    rfl
  | i + 1, fuel, p, hi, hf, hp, hb => by
    obtain ⟨fuel, rfl⟩ : ∃ m, fuel = m + 1 := ⟨fuel - 1, by omega⟩
    have sp := small hp (pow4_pos (i + 1)) hb
    have hi1 : ((i + 1 : Nat) : Int) - 1 = i := by omega
    have dx := div_lt x0 x1 i
    have dy := div_lt y0 y1 i
    have sh : ∀ z : Int, shr .i64 z (i : Int) = z / 2 ^ i := fun z => by unfold shr; rw [Int.toNat_natCast, Nat.min_eq_left (show i ≤ IntKind.i64.bits from (by omega : i ≤ 64))]
    have m1 := Int.emod_two_eq (x / 2 ^ i)
    have m0 := Int.emod_two_eq (y / 2 ^ i)
    simp only [mask_cell.l0]
    rw [hi1, if_pos (by omega), if_pos (by omega), sh, sh, and_one dx.1 dx.2, and_one dy.1 dy.2]
    have e1 : wrap64 (wrap64 (wrap64 (4 * p) + wrap64 (2 * (x / 2 ^ i % 2))) + y / 2 ^ i % 2) = 4 * p + 2 * (x / 2 ^ i % 2) + y / 2 ^ i % 2 := by unfold wrap64; omega
    have e2 : wrap64 ((i : Int) - 1) = (i : Int) - 1 := by unfold wrap64; omega
    rw [e1, e2, Int.add_assoc]
    rw [Int.pow_succ] at hb
    have := mask_cell_l0 x y x0 x1 y0 y1 i fuel (4 * p + (2 * (x / 2 ^ i % 2) + y / 2 ^ i % 2)) (by omega) (by omega) (by omega) (grow4 (pow4_pos i) _ (by omega) hb)
    rw [this]
    simp only [cP]
    rw [Int.add_assoc]
theorem chkW0 : chkW 0 = true := by kernel_rfl
theorem chkW1 : chkW 1 = true := by kernel_rfl
theorem chkW2 : chkW 2 = true := by kernel_rfl
theorem chkW3 : chkW 3 = true := by kernel_rfl
theorem chkW4 : chkW 4 = true := by kernel_rfl
theorem chkW5 : chkW 5 = true := by kernel_rfl
theorem chkW6 : chkW 6 = true := by kernel_rfl
theorem chkW7 : chkW 7 = true := by kernel_rfl
theorem chkW8 : chkW 8 = true := by kernel_rfl
theorem chkW9 : chkW 9 = true := by kernel_rfl
theorem chkW10 : chkW 10 = true := by kernel_rfl
theorem chkW11 : chkW 11 = true := by kernel_rfl
theorem chkW_all (j : Nat) (h : j ≤ 11) : chkW j = true := by
  have : j = 0 ∨ j = 1 ∨ j = 2 ∨ j = 3 ∨ j = 4 ∨ j = 5 ∨ j = 6 ∨ j = 7 ∨ j = 8 ∨ j = 9 ∨ j = 10 ∨ j = 11 := by omega
  rcases this with h | h | h | h | h | h | h | h | h | h | h | h <;> subst h
  · exact chkW0
  · exact chkW1
  · exact chkW2
  · exact chkW3
  · exact chkW4
  · exact chkW5
  · exact chkW6
  · exact chkW7
  · exact chkW8
  · exact chkW9
  · exact chkW10
  · exact chkW11
theorem with_f (j : Nat) (hj : j ≤ 11) (a n i : Int) (b : Bool) (ha : 0 ≤ a) (hb : a * 2 ^ (j + 1) < 4096) (hn : n ≤ 100) (hi : 0 ≤ i) (hni : n - 1 - i = j) :
    cantingref02_with.f n (a * 2 ^ (j + 1)) i b = some (a * 2 ^ (j + 1) + if b then 2 ^ j else 0) := by
  have hW := chkW_all j hj
  unfold chkW at hW
  rw [List.all_eq_true] at hW
  have hlt : a.toNat < 2 ^ (11 - j) := by
    apply Classical.byContradiction
    intro hge
    have h1 : (2 : Int) ^ (11 - j) ≤ a := by have := pow_cast (11 - j); omega
    have h2 : (2 : Int) ^ (11 - j) * 2 ^ (j + 1) ≤ a * 2 ^ (j + 1) := Int.mul_le_mul_of_nonneg_right h1 (Int.le_of_lt (pow_pos _))
    rw [← Int.pow_add, show 11 - j + (j + 1) = 12 by omega] at h2
    have h3 : (2 : Int) ^ 12 = 4096 := by decide
    omega
  have h := hW a.toNat (by rw [List.mem_range]; exact hlt)
  rw [Int.toNat_of_nonneg ha] at h
  simp only [Bool.and_eq_true, decide_eq_true_eq] at h
  have e1 : wrap64 (wrap64 (n - 1) - i) = j := by unfold wrap64; omega
  have e2 : shl .i64 1 (j : Int) = 2 ^ j := by
    unfold shl
    rw [Int.toNat_natCast, Nat.min_eq_left (show j ≤ IntKind.i64.bits from (by omega : j ≤ 64)), Int.one_mul]
    refine wraps_i64 _ (Int.le_of_lt (pow_pos j)) ?_
    have h1 := Nat.pow_le_pow_right (n := 2) (by omega) hj
    have h2 := pow_cast j
    have h3 : 2 ^ 11 = 2048 := by decide
    have h4 : (2 : Int) ^ 63 = 9223372036854775808 := by decide
    omega
  unfold cantingref02_with.f
  rw [e1, if_pos (by omega), e2, h.1]
  cases b
  · simp
  · simp [h.2]
theorem beq_one {z : Int} (h : z = 0 ∨ z = 1) (P : Int) : (if (z == 1) = true then P else 0) = z * P := by
  rcases h with rfl | rfl <;> simp
theorem point_l0 (k : Nat) (hk : k ≤ 6) (x y : Int) (x0 : 0 ≤ x) (x1 : x < 2 ^ 63) (y0 : 0 ≤ y) (y1 : y < 2 ^ 63) : ∀ (r fuel : Nat) (p : Int), r ≤ k → r < fuel → 0 ≤ p → (p + 1) * 4 ^ r ≤ 4096 →
    cantingref02_Point.l0 fuel k x y (p * 4 ^ r) k ((k : Int) - r) = some (cP r x y p)
  | 0, fuel, p, hr, hf, hp, hb => by
    obtain ⟨fuel, rfl⟩ : ∃ m, fuel = m + 1 := ⟨fuel - 1, by omega⟩
    simp only [cantingref02_Point.l0]
    rw [if_neg (by omega)]
    simp [cP]
  | r + 1, fuel, p, hr, hf, hp, hb => by
    obtain ⟨fuel, rfl⟩ : ∃ m, fuel = m + 1 := ⟨fuel - 1, by omega⟩
    have dx := div_lt x0 x1 r
    have dy := div_lt y0 y1 r
    have sh : ∀ z : Int, shr .i64 z (r : Int) = z / 2 ^ r := fun z => by unfold shr; rw [Int.toNat_natCast, Nat.min_eq_left (show r ≤ IntKind.i64.bits from (by omega : r ≤ 64))]
    have m1 := Int.emod_two_eq (x / 2 ^ r)
    have m0 := Int.emod_two_eq (y / 2 ^ r)
    have e1 : wrap64 (wrap64 ((k : Int) - 1) - ((k : Int) - ((r + 1 : Nat) : Int))) = r := by unfold wrap64; omega
    have e2 : wrap64 (2 * (k : Int)) = 2 * k := by unfold wrap64; omega
    have e3 : wrap64 (2 * ((k : Int) - ((r + 1 : Nat) : Int))) = 2 * ((k : Int) - ((r + 1 : Nat) : Int)) := by unfold wrap64; omega
    have e4 : wrap64 (2 * ((k : Int) - ((r + 1 : Nat) : Int)) + 1) = 2 * ((k : Int) - ((r + 1 : Nat) : Int)) + 1 := by unfold wrap64; omega
    have e5 : wrap64 ((k : Int) - ((r + 1 : Nat) : Int) + 1) = (k : Int) - r := by unfold wrap64; omega
    have P0 := pow4_pos r
    have q4 : (4 : Int) ^ (r + 1) = 2 ^ (2 * r + 1 + 1) := by rw [← pow42]; rfl
    have hP2 : (2 : Int) ^ (2 * r + 1) = 4 ^ r * 2 := by rw [Int.pow_succ, pow42]
    have hP3 : (2 : Int) ^ (2 * r + 1 + 1) = 4 ^ r * 4 := by rw [Int.pow_succ, hP2]; omega
    have b1 : (p + 1) * (4 ^ r * 4) = (4 * p + 4) * 4 ^ r := by rw [Int.mul_comm (4 ^ r) 4, ← Int.mul_assoc, show (p + 1) * 4 = 4 * p + 4 by omega]
    have b2 : p * (4 ^ r * 4) = (4 * p) * 4 ^ r := by rw [Int.mul_comm (4 ^ r) 4, ← Int.mul_assoc, Int.mul_comm p 4]
    have b3 : (4 * p) * 4 ^ r ≤ (4 * p + 3) * 4 ^ r := Int.mul_le_mul_of_nonneg_right (by omega) (by omega)
    have b4 : (4 * p + 3) * 4 ^ r < (4 * p + 4) * 4 ^ r := Int.mul_lt_mul_of_pos_right (by omega) P0
    rw [q4, hP3] at hb
    simp only [cantingref02_Point.l0]
    rw [if_pos (by omega), e1, if_pos (by omega), e2, e3, e4, e5, sh, sh, and_one dx.1 dx.2, and_one dy.1 dy.2, q4]
    rw [with_f (2 * r + 1) (by omega) p _ _ _ hp (by rw [hP3]; omega) (by omega) (by omega) (by omega), beq_one m1]
    simp only [Option.bind_some]
    have t1 : p * 2 ^ (2 * r + 1 + 1) + x / 2 ^ r % 2 * 2 ^ (2 * r + 1) = (2 * p + x / 2 ^ r % 2) * 2 ^ (2 * r + 1) := by
      rw [Int.add_mul, Int.pow_succ 2 (2 * r + 1), Int.mul_comm (2 ^ (2 * r + 1)) 2, ← Int.mul_assoc, Int.mul_comm p 2]
    have b5 : (2 * p + x / 2 ^ r % 2) * (4 ^ r * 2) = (4 * p + 2 * (x / 2 ^ r % 2)) * 4 ^ r := by rw [Int.mul_comm (4 ^ r) 2, ← Int.mul_assoc, show (2 * p + x / 2 ^ r % 2) * 2 = 4 * p + 2 * (x / 2 ^ r % 2) by omega]
    have b6 : (4 * p + 2 * (x / 2 ^ r % 2)) * 4 ^ r ≤ (4 * p + 3) * 4 ^ r := Int.mul_le_mul_of_nonneg_right (by omega) (by omega)
    rw [t1, with_f (2 * r) (by omega) (2 * p + x / 2 ^ r % 2) _ _ _ (by omega) (by rw [hP2]; omega) (by omega) (by omega) (by omega), beq_one m0]
    simp only [Option.bind_some]
    have t2 : (2 * p + x / 2 ^ r % 2) * 2 ^ (2 * r + 1) + y / 2 ^ r % 2 * 2 ^ (2 * r) = (4 * p + 2 * (x / 2 ^ r % 2) + y / 2 ^ r % 2) * 4 ^ r := by
      rw [hP2, b5, pow42, ← Int.add_mul]
    rw [t2]
    have b7 : (4 * p + 2 * (x / 2 ^ r % 2) + y / 2 ^ r % 2 + 1) * 4 ^ r ≤ (4 * p + 4) * 4 ^ r := Int.mul_le_mul_of_nonneg_right (by omega) (by omega)
    rw [point_l0 k hk x y x0 x1 y0 y1 r fuel (4 * p + 2 * (x / 2 ^ r % 2) + y / 2 ^ r % 2) (by omega) (by omega) (by omega) (by omega)]
    rfl
theorem p4_le (k : Nat) (h : k ≤ 6) : (4 : Int) ^ k ≤ 4096 := by
  have h1 := Nat.pow_le_pow_right (n := 4) (by omega) h
  have h2 : ((4 ^ k : Nat) : Int) = (4 : Int) ^ k := Int.natCast_pow 4 k
  have h3 : 4 ^ 6 = 4096 := rfl
  omega
theorem p2_le (k : Nat) (h : k ≤ 6) : (2 : Int) ^ k ≤ 64 := by
  have h1 := Nat.pow_le_pow_right (n := 2) (by omega) h
  have h2 := pow_cast k
  have h3 : 2 ^ 6 = 64 := rfl
  omega
theorem point_ok (k : Nat) (h : k ≤ 6) (x y : Int) (x0 : 0 ≤ x) (x1 : x < 2 ^ k) (y0 : 0 ≤ y) (y1 : y < 2 ^ k) :
    ∃ p : Int, mask_cell.f 20 k x y = some p ∧ cantingref02_Point.f 20 k x y = some p ∧ 0 ≤ p ∧ p < 4 ^ k ∧ whP k p 0 0 = (x, y) := by
  have h2 := p2_le k h
  have h4 := p4_le k h
  have h63 : (2 : Int) ^ 63 = 9223372036854775808 := by decide
  have hc := cP_le x y k 0 (by omega)
  have ew : wrap64 ((k : Int) - 1) = (k : Int) - 1 := by unfold wrap64; omega
  refine ⟨cP k x y 0, ?_, ?_, hc.1, by omega, ?_⟩
  · unfold mask_cell.f
    rw [ew]
    exact mask_cell_l0 x y x0 (by omega) y0 (by omega) k 20 0 (by omega) (by omega) (by omega) (by omega)
  · unfold cantingref02_Point.f
    have := point_l0 k h x y x0 (by omega) y0 (by omega) k 20 0 (by omega) (by omega) (by omega) (by omega)
    rw [Int.zero_mul, Int.sub_self] at this
    exact this
  · rw [whP_eq _ hc.1 (by omega) k 0 0 (by omega) (by omega) (by omega) (by omega), whQ_cP, Int.emod_eq_of_lt x0 x1, Int.emod_eq_of_lt y0 y1]
    simp
theorem where_ok (k : Nat) (h : k ≤ 6) (q : Int) (q0 : 0 ≤ q) (q1 : q < 4 ^ k) :
    0 ≤ (whP k q 0 0).1 ∧ (whP k q 0 0).1 < 2 ^ k ∧ 0 ≤ (whP k q 0 0).2 ∧ (whP k q 0 0).2 < 2 ^ k ∧ mask_cell.f 20 k (whP k q 0 0).1 (whP k q 0 0).2 = some q := by
  have h2 := p2_le k h
  have h4 := p4_le k h
  have h63 : (2 : Int) ^ 63 = 9223372036854775808 := by decide
  have hp := pow_pos k
  have ew : wrap64 ((k : Int) - 1) = (k : Int) - 1 := by unfold wrap64; omega
  rw [whP_eq _ q0 (by omega) k 0 0 (by omega) (by omega) (by omega) (by omega)]
  have hd := whQ_div q k 0 0
  have hc := cP_whQ q k 0 0 0
  have d1 : 0 ≤ (whQ k q 0 0).1 ∧ (whQ k q 0 0).1 < 2 ^ k := by
    have e := Int.emod_add_mul_ediv (whQ k q 0 0).1 (2 ^ k)
    rw [hd.1, Int.mul_zero, Int.add_zero] at e
    rw [← e]
    exact ⟨Int.emod_nonneg _ (by omega), Int.emod_lt_of_pos _ hp⟩
  have d2 : 0 ≤ (whQ k q 0 0).2 ∧ (whQ k q 0 0).2 < 2 ^ k := by
    have e := Int.emod_add_mul_ediv (whQ k q 0 0).2 (2 ^ k)
    rw [hd.2, Int.mul_zero, Int.add_zero] at e
    rw [← e]
    exact ⟨Int.emod_nonneg _ (by omega), Int.emod_lt_of_pos _ hp⟩
  refine ⟨d1.1, d1.2, d2.1, d2.2, ?_⟩
  unfold mask_cell.f
  rw [ew, mask_cell_l0 _ _ d1.1 (by omega) d2.1 (by omega) k 20 0 (by omega) (by omega) (by omega) (by omega), hc, Int.zero_mul, Int.zero_add, Int.emod_eq_of_lt q0 q1]
end Go.Proofs.Ytlplphgoldkoeaa.HTab
end
