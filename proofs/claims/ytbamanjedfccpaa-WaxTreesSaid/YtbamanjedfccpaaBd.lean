/- Lemmas of the proof: part Bd. -/
import Derived.Test.YtbamanjedfccpaaBc
section
set_option linter.unusedVariables false
set_option linter.unusedSimpArgs false
namespace Go.Proofs.Ytbamanjedfccpaa.HTab
open Go.RowKit Go.Proofs.YtbamanjedfccpaaW.PrintWords Go.Proofs.YtbamanjedfccpaaW.PrintLast Go.Proofs.YtbamanjedfccpaaW.PrintMore Go.Proofs.Ytbamanjedfccpaa.X
attribute [local go_sem] max2_int min2_int max_two min_two
set_option linter.unusedVariables false
set_option linter.unusedSimpArgs false
def encA (a : S35) : Value := .agg #[.int .i64 a.f0, .int .i64 a.f1, .int .i64 a.f2]
def badA (n : Int) (a : S35) : Bool := a.f0 == a.f1 || (decide (a.f0 < 0) || decide (a.f1 < 0)) || (decide (n ≤ a.f0) || decide (n ≤ a.f1)) || decide (a.f2 < 0) || decide (1000000 < a.f2)
def vdB (n : Int) (l : List S35) : Bool := decide (2 ≤ n) && decide (n ≤ 40) && decide (l.length ≤ 160) && !(l.any (badA n))
def Says (b : Bool) (w : World) (e : Ending) (w' : World) : Prop := e = .returned (.bool b) ∧ Below w.heap.size w w'
set_option maxRecDepth 100000 in
set_option maxHeartbeats 4000000 in
theorem valid1_calls (n : Int) (g : Nat) (v1 : Value) (a : S35) (w : World) (hb : w.heap[g]? = some (.cells #[.int .i64 n, v1] 30 (0, 0))) (B : Bool) (hB : badA n a = B) :
    Calls Try.prog 74 #[encA a, .pointer (some ⟨g, 0, none⟩)] w (Says B w) := by
  obtain ⟨x, y, z⟩ := a
  have c0 := (blk_cell hb 0).trans rfl
  have c0' : ∀ o : Obj, (w.alloc o).cell? ⟨g, 0, none⟩ = some (.int .i64 n) := fun o => pw_cell_below (below_alloc (Below.refl _ _) o) c0
  clear c0 hb
  unfold badA at hB
  unfold encA
  dsimp only at hB ⊢
  by_cases h0 : x = y
  · subst h0
    have e0 : (x == x) = true := by simp
    have hBt : B = true := by rw [← hB]; simp
    subst hBt
    clear hB
    go_enter Try.func74, Try.ntmps74
    go_wp2
    go_ret
    exact ⟨rfl, below_alloc (Below.refl _ _) _⟩
  have e0 : (x == y) = false := by simpa using h0
  have e0' : (x = y) = False := eq_false h0
  rw [e0, Bool.false_or] at hB
  rcases Int.lt_or_gt_of_ne h0 with hxy | hxy
  · have o1 : (x < y) = True := eq_true (by omega)
    have o2 : (y < x) = False := eq_false (by omega)
    have o3 : decide (x < y) = true := decide_eq_true (by omega)
    have o4 : decide (y < x) = false := decide_eq_false (by omega)
    clear hxy
    by_cases t1 : x < 0
    · have dt1_0 : decide (x < 0) = true := decide_eq_true (by omega)
      have pt1_0 : (x < 0) = True := eq_true (by omega)
      have hBt : B = true := by rw [← hB]; simp [t1]
      subst hBt
      clear hB h0
      go_enter Try.func74, Try.ntmps74
      go_wp2
      go_ret
      exact ⟨rfl, below_alloc (Below.refl _ _) _⟩
    have dt1_0 : decide (x < 0) = false := decide_eq_false (by omega)
    have pt1_0 : (x < 0) = False := eq_false (by omega)
    by_cases t2 : n ≤ y
    · have dt2_0 : decide (n ≤ y) = true := decide_eq_true (by omega)
      have pt2_0 : (n ≤ y) = True := eq_true (by omega)
      have dt2_1 : decide (y ≥ n) = true := decide_eq_true (by omega)
      have pt2_1 : (y ≥ n) = True := eq_true (by omega)
      have hBt : B = true := by rw [← hB]; simp [t2]
      subst hBt
      clear hB h0
      go_enter Try.func74, Try.ntmps74
      go_wp2
      go_ret
      exact ⟨rfl, below_alloc (Below.refl _ _) _⟩
    have dt2_0 : decide (n ≤ y) = false := decide_eq_false (by omega)
    have pt2_0 : (n ≤ y) = False := eq_false (by omega)
    have dt2_1 : decide (y ≥ n) = false := decide_eq_false (by omega)
    have pt2_1 : (y ≥ n) = False := eq_false (by omega)
    by_cases t3 : z < 0
    · have dt3_0 : decide (z < 0) = true := decide_eq_true (by omega)
      have pt3_0 : (z < 0) = True := eq_true (by omega)
      have hBt : B = true := by rw [← hB]; simp [t3]
      subst hBt
      clear hB h0
      go_enter Try.func74, Try.ntmps74
      go_wp2
      go_ret
      exact ⟨rfl, below_alloc (Below.refl _ _) _⟩
    have dt3_0 : decide (z < 0) = false := decide_eq_false (by omega)
    have pt3_0 : (z < 0) = False := eq_false (by omega)
    by_cases t4 : 1000000 < z
    · have dt4_0 : decide (1000000 < z) = true := decide_eq_true (by omega)
      have pt4_0 : (1000000 < z) = True := eq_true (by omega)
      have dt4_1 : decide (z > 1000000) = true := decide_eq_true (by omega)
      have pt4_1 : (z > 1000000) = True := eq_true (by omega)
      have hBt : B = true := by rw [← hB]; simp [t4]
      subst hBt
      clear hB h0
      go_enter Try.func74, Try.ntmps74
      go_wp2
      go_ret
      exact ⟨rfl, below_alloc (Below.refl _ _) _⟩
    have dt4_0 : decide (1000000 < z) = false := decide_eq_false (by omega)
    have pt4_0 : (1000000 < z) = False := eq_false (by omega)
    have dt4_1 : decide (z > 1000000) = false := decide_eq_false (by omega)
    have pt4_1 : (z > 1000000) = False := eq_false (by omega)
    have u1 : ¬ (y < 0) := by have := of_eq_false o2; omega
    have u2 : ¬ (n ≤ x) := by have := of_eq_false o2; omega
    have hBt : B = false := by rw [← hB]; simp [t1, t2, t3, t4, u1, u2]
    clear u1 u2
    subst hBt
    clear hB h0
    go_enter Try.func74, Try.ntmps74
    go_wp2
    go_ret
    exact ⟨rfl, below_alloc (Below.refl _ _) _⟩
  · have o1 : (x < y) = False := eq_false (by omega)
    have o2 : (y < x) = True := eq_true (by omega)
    have o3 : decide (x < y) = false := decide_eq_false (by omega)
    have o4 : decide (y < x) = true := decide_eq_true (by omega)
    clear hxy
    by_cases t1 : y < 0
    · have dt1_0 : decide (y < 0) = true := decide_eq_true (by omega)
      have pt1_0 : (y < 0) = True := eq_true (by omega)
      have hBt : B = true := by rw [← hB]; simp [t1]
      subst hBt
      clear hB h0
      go_enter Try.func74, Try.ntmps74
      go_wp2
      go_ret
      exact ⟨rfl, below_alloc (Below.refl _ _) _⟩
    have dt1_0 : decide (y < 0) = false := decide_eq_false (by omega)
    have pt1_0 : (y < 0) = False := eq_false (by omega)
    by_cases t2 : n ≤ x
    · have dt2_0 : decide (n ≤ x) = true := decide_eq_true (by omega)
      have pt2_0 : (n ≤ x) = True := eq_true (by omega)
      have dt2_1 : decide (x ≥ n) = true := decide_eq_true (by omega)
      have pt2_1 : (x ≥ n) = True := eq_true (by omega)
      have hBt : B = true := by rw [← hB]; simp [t2]
      subst hBt
      clear hB h0
      go_enter Try.func74, Try.ntmps74
      go_wp2
      go_ret
      exact ⟨rfl, below_alloc (Below.refl _ _) _⟩
    have dt2_0 : decide (n ≤ x) = false := decide_eq_false (by omega)
    have pt2_0 : (n ≤ x) = False := eq_false (by omega)
    have dt2_1 : decide (x ≥ n) = false := decide_eq_false (by omega)
    have pt2_1 : (x ≥ n) = False := eq_false (by omega)
    by_cases t3 : z < 0
    · have dt3_0 : decide (z < 0) = true := decide_eq_true (by omega)
      have pt3_0 : (z < 0) = True := eq_true (by omega)
      have hBt : B = true := by rw [← hB]; simp [t3]
      subst hBt
      clear hB h0
      go_enter Try.func74, Try.ntmps74
      go_wp2
      go_ret
      exact ⟨rfl, below_alloc (Below.refl _ _) _⟩
    have dt3_0 : decide (z < 0) = false := decide_eq_false (by omega)
    have pt3_0 : (z < 0) = False := eq_false (by omega)
    by_cases t4 : 1000000 < z
    · have dt4_0 : decide (1000000 < z) = true := decide_eq_true (by omega)
      have pt4_0 : (1000000 < z) = True := eq_true (by omega)
      have dt4_1 : decide (z > 1000000) = true := decide_eq_true (by omega)
      have pt4_1 : (z > 1000000) = True := eq_true (by omega)
      have hBt : B = true := by rw [← hB]; simp [t4]
      subst hBt
      clear hB h0
      go_enter Try.func74, Try.ntmps74
      go_wp2
      go_ret
      exact ⟨rfl, below_alloc (Below.refl _ _) _⟩
    have dt4_0 : decide (1000000 < z) = false := decide_eq_false (by omega)
    have pt4_0 : (1000000 < z) = False := eq_false (by omega)
    have dt4_1 : decide (z > 1000000) = false := decide_eq_false (by omega)
    have pt4_1 : (z > 1000000) = False := eq_false (by omega)
    have u1 : ¬ (x < 0) := by have := of_eq_false o1; omega
    have u2 : ¬ (n ≤ y) := by have := of_eq_false o1; omega
    have hBt : B = false := by rw [← hB]; simp [t1, t2, t3, t4, u1, u2]
    clear u1 u2
    subst hBt
    clear hB h0
    go_enter Try.func74, Try.ntmps74
    go_wp2
    go_ret
    exact ⟨rfl, below_alloc (Below.refl _ _) _⟩
def Idx (b : Bool) (w : World) (e : Ending) (w' : World) : Prop := ∃ r : Int, e = .returned (.int .i64 r) ∧ decide (0 ≤ r) = b ∧ Below w.heap.size w w'
theorem any_take_succ (p : S35 → Bool) (l : List S35) (i : Nat) (h : i < l.length) : (l.take (i + 1)).any p = ((l.take i).any p || p l[i]) := by
  rw [List.take_succ_eq_append_getElem h, List.any_append]; simp
set_option maxRecDepth 100000 in
set_option maxHeartbeats 4000000 in
theorem indexA_calls (n : Int) (g : Nat) (v1 : Value) (A : Option Addr) (c : Nat) (l : List S35) (w : World) (hb : w.heap[g]? = some (.cells #[.int .i64 n, v1] 30 (0, 0))) (hC : Kd.C k35 w A l.length l) (hc : l.length ≤ c) :
    Calls Try.prog 83 #[.slice A l.length c, .func (.func 74) #[] #[.pointer (some ⟨g, 0, none⟩)]] w (Idx (l.any (badA n)) w) := by
  have HC := Aside0.mk hC
  have HB := Aside0.mk (Below.refl w.heap.size w)
  have Hb := Aside0.mk hb
  have hmax := Kd.C_max hC
  clear hC hb
  go_enter Try.func83, Try.ntmps83
  go_wp2
  go_loopg [8] (l.length) (fun kq v8 w' => ∃ i : Nat, i + kq = l.length ∧ v8 = .int .i64 i ∧ Aside0 ((l.take i).any (badA n) = false) ∧ Aside0 (Below w.heap.size w w'))
  case atStart => exact ⟨0, by omega, rfl, ⟨rfl⟩, HB⟩
  case round =>
    clear HB
    obtain ⟨i, hi, rfl, HT, HW⟩ := hrel
    by_cases hlt : i < l.length
    · have hdec : decide (i < l.length) = true := decide_eq_true hlt
      have i0 : ((i : Int) < 0) = False := eq_false (by omega)
      have i1 : ((i : Int) < (l.length : Int)) = True := eq_true (by omega)
      obtain ⟨ad, rfl, x0, x1, x2⟩ := at_T35 (Kd.C_below HC.out HW.out) (i : Int) (by omega) (by omega)
      simp only [Int.toNat_natCast] at x0 x1 x2
      have hrd : Aside0 (rd_T35 l (i : Int) = l[i]) := ⟨by simp [rd_T35, hlt]⟩
      obtain ⟨b, hbb⟩ : ∃ b, badA n (rd_T35 l (i : Int)) = b := ⟨_, rfl⟩
      have HBB := Aside0.mk hbb
      have hb1 := Aside0.mk (blk_below Hb.out HW.out)
      clear hbb
      go_wp2_with fail
      refine (valid1_calls n g v1 (rd_T35 l (i : Int)) wr hb1.out b HBB.out).mono ?_
      rintro e w2 ⟨rfl, hb2⟩
      have HW2 := Aside0.mk (below_then HW.out HW.out.size hb2)
      clear hb2
      cases b with
      | true =>
        go_wp2
        go_ret
        refine ⟨(i : Int), rfl, ?_, HW2.out⟩
        rw [decide_eq_true (by omega)]
        symm
        rw [List.any_eq_true]
        exact ⟨l[i], List.getElem_mem _, by rw [← hrd.out]; exact HBB.out⟩
      | false =>
        have HT2 : Aside0 ((l.take (i + 1)).any (badA n) = false) := ⟨by rw [any_take_succ _ _ _ hlt, HT.out, ← hrd.out, HBB.out]; rfl⟩
        go_wp2
        go_roundg (l.length - (i + 1))
        case measure => omega
        case rel => exact ⟨i + 1, by omega, by go_num, HT2, HW2⟩
    · have hdec : decide (i < l.length) = false := decide_eq_false hlt
      go_wp2
      go_ret
      refine ⟨-1, rfl, ?_, HW.out⟩
      have := HT.out
      rw [List.take_of_length_le (by omega)] at this
      rw [this]
      rfl
set_option maxRecDepth 100000 in
set_option maxHeartbeats 4000000 in
theorem contA_calls (n : Int) (g : Nat) (v1 : Value) (A : Option Addr) (c : Nat) (l : List S35) (w : World) (hb : w.heap[g]? = some (.cells #[.int .i64 n, v1] 30 (0, 0))) (hC : Kd.C k35 w A l.length l) (hc : l.length ≤ c) :
    Calls Try.prog 73 #[.slice A l.length c, .func (.func 74) #[] #[.pointer (some ⟨g, 0, none⟩)]] w (Says (l.any (badA n)) w) := by
  have HC := Aside0.mk hC
  have Hb := Aside0.mk hb
  clear hC hb
  go_enter Try.func73, Try.ntmps73
  go_wp2_with fail
  refine (indexA_calls n g v1 A c l w Hb.out HC.out hc).mono ?_
  rintro e w2 ⟨r, rfl, hr, hb2⟩
  have HB2 := Aside0.mk hb2
  have HR := Aside0.mk hr
  clear hb2 hr
  by_cases h0 : 0 ≤ r
  · have d0 : decide (0 ≤ r) = true := decide_eq_true h0
    have d1 : decide (r ≥ 0) = true := decide_eq_true h0
    go_wp2
    go_ret
    refine ⟨?_, HB2.out⟩
    rw [← HR.out, d0]; rfl
  · have d0 : decide (0 ≤ r) = false := decide_eq_false h0
    have d1 : decide (r ≥ 0) = false := decide_eq_false h0
    go_wp2
    go_ret
    refine ⟨?_, HB2.out⟩
    rw [← HR.out, d0]; rfl
set_option maxRecDepth 100000 in
set_option maxHeartbeats 4000000 in
theorem valid_calls (n : Int) (A : Option Addr) (c : Nat) (l : List S35) (w : World) (hC : Kd.C k35 w A l.length l) (hc : l.length ≤ c) (B : Bool) (hB : vdB n l = B) :
    Calls Try.prog 51 #[.agg #[.int .i64 n, .slice A l.length c]] w (Says B w) := by
  have HC := Aside0.mk hC
  have hmax := Kd.C_max hC
  clear hC
  unfold vdB at hB
  by_cases h0 : 2 ≤ n
  · have d0 : decide (2 ≤ n) = true := decide_eq_true h0
    have d0' : decide (n ≥ 2) = true := decide_eq_true h0
    by_cases h1 : n ≤ 40
    · have d1 : decide (n ≤ 40) = true := decide_eq_true h1
      by_cases h2 : l.length ≤ 160
      · have d2 : decide (l.length ≤ 160) = true := decide_eq_true h2
        have d2' : decide ((l.length : Int) ≤ 160) = true := decide_eq_true (by omega)
        rw [d0, d1, d2, Bool.true_and, Bool.true_and, Bool.true_and] at hB
        have HBB := Aside0.mk hB
        clear hB
        obtain ⟨W0, hW0⟩ : ∃ W, W = w.alloc (.cells #[.int .i64 n, .slice A l.length c] 30) := ⟨_, rfl⟩
        have HB0 := Aside0.mk (show Below w.heap.size w W0 by rw [hW0]; exact below_alloc (Below.refl _ _) _)
        have hbx : W0.heap[w.heap.size]? = some (.cells #[.int .i64 n, .slice A l.length c] 30 (0, 0)) := by rw [hW0]; exact blk_new _ _
        have Hbx := Aside0.mk hbx
        go_enter Try.func51, Try.ntmps51
        go_wp2_with fail
        rw [← hW0]
        refine (contA_calls n w.heap.size _ A c l W0 Hbx.out (Kd.C_below HC.out HB0.out) hc).mono ?_
        rintro e w2 ⟨rfl, hb2⟩
        have HB2 := Aside0.mk (below_then HB0.out HB0.out.size hb2)
        clear hb2 hbx
        obtain ⟨q, hq⟩ : ∃ q, q = l.any (badA n) := ⟨_, rfl⟩
        have HBB2 : Aside0 ((!q) = B) := ⟨by rw [hq]; exact HBB.out⟩
        rw [← hq]
        clear hq
        go_wp2
        go_ret
        exact ⟨by rw [← HBB2.out]; rfl, HB2.out⟩
      · have d2 : decide (l.length ≤ 160) = false := decide_eq_false h2
        have d2' : decide ((l.length : Int) ≤ 160) = false := decide_eq_false (by omega)
        rw [d0, d1, d2] at hB
        have hBf : B = false := by rw [← hB]; rfl
        subst hBf
        clear hB
        go_enter Try.func51, Try.ntmps51
        go_wp2
        go_ret
        exact ⟨rfl, below_alloc (Below.refl _ _) _⟩
    · have d1 : decide (n ≤ 40) = false := decide_eq_false h1
      rw [d0, d1] at hB
      have hBf : B = false := by rw [← hB]; rfl
      subst hBf
      clear hB
      go_enter Try.func51, Try.ntmps51
      go_wp2
      go_ret
      exact ⟨rfl, below_alloc (Below.refl _ _) _⟩
  · have d0 : decide (2 ≤ n) = false := decide_eq_false h0
    have d0' : decide (n ≥ 2) = false := decide_eq_false h0
    rw [d0] at hB
    have hBf : B = false := by rw [← hB]; rfl
    subst hBf
    clear hB
    go_enter Try.func51, Try.ntmps51
    go_wp2
    go_ret
    exact ⟨rfl, below_alloc (Below.refl _ _) _⟩
end Go.Proofs.Ytbamanjedfccpaa.HTab
namespace Go.Proofs.Ytbamanjedfccpaa.X
open Go.RowKit Go.Proofs.YtbamanjedfccpaaW.PrintWords Go.Proofs.YtbamanjedfccpaaW.PrintLast Go.Proofs.YtbamanjedfccpaaW.PrintMore Go.Proofs.Ytbamanjedfccpaa.HTab
def wax_Net_valid.f (n : Int) (l : List S35) : Option Bool := some (vdB n l)
theorem wax_Net_valid.calls (a0_0 : Int) (A0_1 : Option Addr) (c0_1 : Nat) (l0_1 : List (S35)) (r : Bool) (w : World) (hr0_1 : Kd.C k35 w A0_1 l0_1.length l0_1) (hc0_1 : l0_1.length ≤ c0_1) (h : wax_Net_valid.f a0_0 l0_1 = some r) :
    Calls Try.prog 51 #[.agg #[.int .i64 a0_0, .slice A0_1 l0_1.length c0_1]] w fun e w' => e = .returned (.bool r) ∧ Below w.heap.size w w' := by
  unfold wax_Net_valid.f at h
  injection h with h
  exact valid_calls a0_0 A0_1 c0_1 l0_1 w hr0_1 hc0_1 r h
end Go.Proofs.Ytbamanjedfccpaa.X
end
