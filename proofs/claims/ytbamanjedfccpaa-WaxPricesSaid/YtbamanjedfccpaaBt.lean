/- Lemmas of the proof: part Bt. -/
import Derived.Test.YtbamanjedfccpaaBd
import Derived.Test.YtbamanjedfccpaaBc
import Derived.Deep.DeepMust
import Derived.Lib.SliceRun
section
set_option linter.unusedVariables false
set_option linter.unusedSimpArgs false
namespace Go.Proofs.Ytbamanjedfccpaa.HTab
open Go.RowKit Go.Proofs.YtbamanjedfccpaaW.PrintWords Go.Proofs.YtbamanjedfccpaaW.PrintLast Go.Proofs.YtbamanjedfccpaaW.PrintMore Go.Proofs.Ytbamanjedfccpaa.X
attribute [local go_sem] max2_int min2_int max_two min_two
set_option linter.unusedVariables false
set_option linter.unusedSimpArgs false
def badI (x : Int) : Bool := decide (x < 0) || decide (1000 < x)
def okL (l : List Int) (n : Int) : Bool := decide ((l.length : Int) = n) && !l.any badI
def cvB (W H : Int) (l2 l3 l4 l5 : List Int) : Bool := (decide (1 ≤ W ∧ W ≤ 6) && decide (1 ≤ H ∧ H ≤ 6)) && (okL l2 (W * H) && (okL l3 (W * H) && (okL l4 (W * H - H) && okL l5 (W * H - W))))
theorem any_take_succI (p : Int → Bool) (l : List Int) (i : Nat) (h : i < l.length) : (l.take (i + 1)).any p = ((l.take i).any p || p l[i]) := by
  rw [List.take_succ_eq_append_getElem h, List.any_append]; simp
set_option maxRecDepth 100000 in
set_option maxHeartbeats 4000000 in
theorem cvalid1_calls (x : Int) (w : World) : Calls Try.prog 77 #[.int .i64 x] w (Says (badI x) w) := by
  by_cases h0 : x < 0
  · have e0 : decide (x < 0) = true := decide_eq_true h0
    have e1 : badI x = true := by unfold badI; rw [e0]; rfl
    rw [e1]
    clear e1
    go_enter Try.func77, Try.ntmps77
    go_wp2
    go_ret
    exact ⟨rfl, Below.refl _ _⟩
  · have e0 : decide (x < 0) = false := decide_eq_false h0
    by_cases h1 : 1000 < x
    · have e2 : decide (1000 < x) = true := decide_eq_true h1
      have e2' : decide (x > 1000) = true := decide_eq_true h1
      have e1 : badI x = true := by unfold badI; rw [e0, e2]; rfl
      rw [e1]
      clear e1
      go_enter Try.func77, Try.ntmps77
      go_wp2
      go_ret
      exact ⟨rfl, Below.refl _ _⟩
    · have e2 : decide (1000 < x) = false := decide_eq_false h1
      have e2' : decide (x > 1000) = false := decide_eq_false h1
      have e1 : badI x = false := by unfold badI; rw [e0, e2]; rfl
      rw [e1]
      clear e1
      go_enter Try.func77, Try.ntmps77
      go_wp2
      go_ret
      exact ⟨rfl, Below.refl _ _⟩
set_option maxRecDepth 100000 in
set_option maxHeartbeats 4000000 in
theorem indexI_calls (A : Option Addr) (c : Nat) (l : List Int) (w : World) (hC : Kd.C (Kd.int .i64) w A l.length l) (hc : l.length ≤ c) :
    Calls Try.prog 84 #[.slice A l.length c, .func (.func 77) #[] #[]] w (Idx (l.any badI) w) := by
  have HC := Aside0.mk hC
  have HB := Aside0.mk (Below.refl w.heap.size w)
  have hmax := Kd.C_max hC
  clear hC
  go_enter Try.func84, Try.ntmps84
  go_wp2
  go_loopg [8] (l.length) (fun kq v8 w' => ∃ i : Nat, i + kq = l.length ∧ v8 = .int .i64 i ∧ Aside0 ((l.take i).any badI = false) ∧ Aside0 (Below w.heap.size w w'))
  case atStart => exact ⟨0, by omega, rfl, ⟨rfl⟩, HB⟩
  case round =>
    clear HB
    obtain ⟨i, hi, rfl, HT, HW⟩ := hrel
    by_cases hlt : i < l.length
    · have hdec : decide (i < l.length) = true := decide_eq_true hlt
      have i0 : ((i : Int) < 0) = False := eq_false (by omega)
      have i1 : ((i : Int) < (l.length : Int)) = True := eq_true (by omega)
      obtain ⟨ad, rfl, x0⟩ := Kd.at_int (Kd.C_below HC.out HW.out) (i : Int) (by omega) (by omega)
      simp only [Int.toNat_natCast] at x0
      have hrd : rd l (i : Int) = l[i] := by simp [rd, hlt]
      rw [hrd] at x0
      obtain ⟨x, hx⟩ : ∃ x, x = l[i] := ⟨_, rfl⟩
      rw [← hx] at x0
      obtain ⟨b, hbb⟩ : ∃ b, badI x = b := ⟨_, rfl⟩
      have HX := Aside0.mk hx
      have HBB := Aside0.mk hbb
      clear hbb hrd hx
      go_wp2_with fail
      refine (cvalid1_calls x wr).mono ?_
      rintro e w2 ⟨rfl, hb2⟩
      have HW2 := Aside0.mk (below_then HW.out HW.out.size hb2)
      clear hb2 x0
      rw [HBB.out]
      cases b with
      | true =>
        go_wp2
        go_ret
        refine ⟨(i : Int), rfl, ?_, HW2.out⟩
        rw [decide_eq_true (by omega)]
        symm
        rw [List.any_eq_true]
        exact ⟨l[i], List.getElem_mem _, by rw [← HX.out]; exact HBB.out⟩
      | false =>
        have HT2 : Aside0 ((l.take (i + 1)).any badI = false) := ⟨by rw [any_take_succI _ _ _ hlt, HT.out, ← HX.out, HBB.out]; rfl⟩
        go_wp2
        go_roundg (l.length - (i + 1))
        case measure => omega
        case rel => exact ⟨i + 1, by omega, by go_num, HT2, HW2⟩
    · have hdec : decide (i < l.length) = false := decide_eq_false hlt
      go_wp2
      go_ret
      refine ⟨-1, rfl, ?_, HW.out⟩
      have := HT.out
      rw [List.take_of_length_le (by omega)] at this
      rw [this]
      rfl
set_option maxRecDepth 100000 in
set_option maxHeartbeats 4000000 in
theorem contI_calls (A : Option Addr) (c : Nat) (l : List Int) (w : World) (hC : Kd.C (Kd.int .i64) w A l.length l) (hc : l.length ≤ c) :
    Calls Try.prog 76 #[.slice A l.length c, .func (.func 77) #[] #[]] w (Says (l.any badI) w) := by
  have HC := Aside0.mk hC
  clear hC
  go_enter Try.func76, Try.ntmps76
  go_wp2_with fail
  refine (indexI_calls A c l w HC.out hc).mono ?_
  rintro e w2 ⟨r, rfl, hr, hb2⟩
  have HB2 := Aside0.mk hb2
  have HR := Aside0.mk hr
  clear hb2 hr
  obtain ⟨q, hq⟩ : ∃ q, q = decide (0 ≤ r) := ⟨_, rfl⟩
  have hq2 : decide (r ≥ 0) = q := by rw [hq]
  have HQ : Aside0 (l.any badI = q) := ⟨by rw [hq]; exact HR.out.symm⟩
  replace hq := hq.symm
  go_wp2
  go_ret
  refine ⟨?_, HB2.out⟩
  rw [HQ.out]
  rfl
set_option maxRecDepth 100000 in
set_option maxHeartbeats 8000000 in
theorem cvalid_calls (W H : Int) (A2 : Option Addr) (c2 : Nat) (l2 : List Int) (A3 : Option Addr) (c3 : Nat) (l3 : List Int) (A4 : Option Addr) (c4 : Nat) (l4 : List Int) (A5 : Option Addr) (c5 : Nat) (l5 : List Int) (w : World) (h2 : Kd.C (Kd.int .i64) w A2 l2.length l2) (hc2 : l2.length ≤ c2) (h3 : Kd.C (Kd.int .i64) w A3 l3.length l3) (hc3 : l3.length ≤ c3) (h4 : Kd.C (Kd.int .i64) w A4 l4.length l4) (hc4 : l4.length ≤ c4) (h5 : Kd.C (Kd.int .i64) w A5 l5.length l5) (hc5 : l5.length ≤ c5) :
    Calls Try.prog 59 #[.agg #[.int .i64 W, .int .i64 H, .slice A2 l2.length c2, .slice A3 l3.length c3, .slice A4 l4.length c4, .slice A5 l5.length c5]] w (Says (cvB W H l2 l3 l4 l5) w) := by
  have H2 := Aside0.mk h2
  have H3 := Aside0.mk h3
  have H4 := Aside0.mk h4
  have H5 := Aside0.mk h5
  obtain ⟨W0, hW0⟩ : ∃ W_, W_ = w.alloc (.cells #[.int .i64 W, .int .i64 H, .slice A2 l2.length c2, .slice A3 l3.length c3, .slice A4 l4.length c4, .slice A5 l5.length c5] 63) := ⟨_, rfl⟩
  have HB0 := Aside0.mk (show Below w.heap.size w W0 by rw [hW0]; exact below_alloc (Below.refl _ _) _)
  have hbx : W0.heap[w.heap.size]? = some (.cells #[.int .i64 W, .int .i64 H, .slice A2 l2.length c2, .slice A3 l3.length c3, .slice A4 l4.length c4, .slice A5 l5.length c5] 63 (0, 0)) := by rw [hW0]; exact blk_new _ _
  have HBX := Aside0.mk hbx
  have j0 : (w.alloc (.cells #[.int .i64 W, .int .i64 H, .slice A2 l2.length c2, .slice A3 l3.length c3, .slice A4 l4.length c4, .slice A5 l5.length c5] 63)).cell? ⟨w.heap.size, 0, none⟩ = some (.int .i64 W) := (blk_cell (blk_new _ _) 0).trans rfl
  have j1 : (w.alloc (.cells #[.int .i64 W, .int .i64 H, .slice A2 l2.length c2, .slice A3 l3.length c3, .slice A4 l4.length c4, .slice A5 l5.length c5] 63)).cell? ⟨w.heap.size, 1, none⟩ = some (.int .i64 H) := (blk_cell (blk_new _ _) 1).trans rfl
  have j2 : (w.alloc (.cells #[.int .i64 W, .int .i64 H, .slice A2 l2.length c2, .slice A3 l3.length c3, .slice A4 l4.length c4, .slice A5 l5.length c5] 63)).cell? ⟨w.heap.size, 2, none⟩ = some (.slice A2 l2.length c2) := (blk_cell (blk_new _ _) 2).trans rfl
  have j3 : (w.alloc (.cells #[.int .i64 W, .int .i64 H, .slice A2 l2.length c2, .slice A3 l3.length c3, .slice A4 l4.length c4, .slice A5 l5.length c5] 63)).cell? ⟨w.heap.size, 3, none⟩ = some (.slice A3 l3.length c3) := (blk_cell (blk_new _ _) 3).trans rfl
  have j4 : (w.alloc (.cells #[.int .i64 W, .int .i64 H, .slice A2 l2.length c2, .slice A3 l3.length c3, .slice A4 l4.length c4, .slice A5 l5.length c5] 63)).cell? ⟨w.heap.size, 4, none⟩ = some (.slice A4 l4.length c4) := (blk_cell (blk_new _ _) 4).trans rfl
  have j5 : (w.alloc (.cells #[.int .i64 W, .int .i64 H, .slice A2 l2.length c2, .slice A3 l3.length c3, .slice A4 l4.length c4, .slice A5 l5.length c5] 63)).cell? ⟨w.heap.size, 5, none⟩ = some (.slice A5 l5.length c5) := (blk_cell (blk_new _ _) 5).trans rfl
  clear h2 h3 h4 h5 hbx
  obtain ⟨B, hB⟩ : ∃ B, B = cvB W H l2 l3 l4 l5 := ⟨_, rfl⟩
  rw [← hB]
  obtain ⟨m, hm⟩ : ∃ m, (if H < W then H else W) = m := ⟨_, rfl⟩
  obtain ⟨M, hM⟩ : ∃ M, (if W < H then H else W) = M := ⟨_, rfl⟩
  have hmM : (1 ≤ W ∧ W ≤ 6) ∧ (1 ≤ H ∧ H ≤ 6) ↔ 1 ≤ m ∧ M ≤ 6 := by rw [← hm, ← hM]; split <;> split <;> omega
  by_cases q1 : m < 1
  · have dm : decide (m < 1) = true := decide_eq_true q1
    have hBf : B = false := by
      rw [hB]
      unfold cvB
      rw [← Bool.decide_and, decide_eq_false (show ¬ ((1 ≤ W ∧ W ≤ 6) ∧ (1 ≤ H ∧ H ≤ 6)) by rw [hmM]; omega)]
      rfl
    subst hBf
    clear hB q1 hmM
    go_enter Try.func59, Try.ntmps59
    go_wp2
    go_ret
    exact ⟨rfl, by rw [← hW0]; exact HB0.out⟩
  have dm : decide (m < 1) = false := decide_eq_false q1
  by_cases q2 : 6 < M
  · have dM : decide (6 < M) = true := decide_eq_true q2
    have dM2 : decide (M > 6) = true := decide_eq_true q2
    have hBf : B = false := by
      rw [hB]
      unfold cvB
      rw [← Bool.decide_and, decide_eq_false (show ¬ ((1 ≤ W ∧ W ≤ 6) ∧ (1 ≤ H ∧ H ≤ 6)) by rw [hmM]; omega)]
      rfl
    subst hBf
    clear hB q1 q2 hmM
    go_enter Try.func59, Try.ntmps59
    go_wp2
    go_ret
    exact ⟨rfl, by rw [← hW0]; exact HB0.out⟩
  have dM : decide (6 < M) = false := decide_eq_false q2
  have dM2 : decide (M > 6) = false := decide_eq_false q2
  have hWH : (1 ≤ W ∧ W ≤ 6) ∧ (1 ≤ H ∧ H ≤ 6) := hmM.2 (by omega)
  have hB2 : B = (okL l2 (W * H) && (okL l3 (W * H) && (okL l4 (W * H - H) && okL l5 (W * H - W)))) := by
    rw [hB]
    unfold cvB
    rw [decide_eq_true hWH.1, decide_eq_true hWH.2]
    rfl
  have HB2 := Aside0.mk hB2
  have hWH2 := Aside0.mk hWH
  clear q1 q2 hB hmM hWH hB2
  have hnW : wrap64 (W * H) = W * H := by
    have hw := hWH2.out
    have : W * H ≤ 36 ∧ 0 ≤ W * H := by
      have h1 : W = 1 ∨ W = 2 ∨ W = 3 ∨ W = 4 ∨ W = 5 ∨ W = 6 := by omega
      rcases h1 with h1 | h1 | h1 | h1 | h1 | h1 <;> rw [h1] <;> omega
    exact wrap_id (by omega) (by omega)
  have hn36 : 0 ≤ W * H ∧ W * H ≤ 36 := by
    have hw := hWH2.out
    have h1 : W = 1 ∨ W = 2 ∨ W = 3 ∨ W = 4 ∨ W = 5 ∨ W = 6 := by omega
    rcases h1 with h1 | h1 | h1 | h1 | h1 | h1 <;> rw [h1] <;> omega
  obtain ⟨n, hn⟩ : ∃ n, W * H = n := ⟨_, rfl⟩
  rw [hn] at hnW hn36
  have HB3 : Aside0 (B = (okL l2 n && (okL l3 n && (okL l4 (n - H) && okL l5 (n - W))))) := ⟨by rw [← hn]; exact HB2.out⟩
  have hnW2 : wrap64 (W * H) = n := by rw [hn]; exact hnW
  have m4 : wrap64 (n - H) = n - H := wrap_id (by have := hWH2.out; clear hnW hnW2; omega) (by have := hWH2.out; clear hnW hnW2; omega)
  have m5 : wrap64 (n - W) = n - W := wrap_id (by have := hWH2.out; clear hnW hnW2 m4; omega) (by have := hWH2.out; clear hnW hnW2 m4; omega)
  obtain ⟨n4, hn4⟩ : ∃ x, n - H = x := ⟨_, rfl⟩
  obtain ⟨n5, hn5⟩ : ∃ x, n - W = x := ⟨_, rfl⟩
  rw [hn4, hn5] at HB3
  replace m4 := m4.trans hn4
  replace m5 := m5.trans hn5
  have hu := Try.underlying115
  have hx0 : ∀ w, (Instr.index 115 (.agg #[.int .i64 n, .int .i64 n, .int .i64 n4, .int .i64 n5]) (.int .i64 0)).run Try.prog w = .ok (.int .i64 n) w := fun w => by simp [Instr.index, run_underlying hu, asIntOf, go_sem]
  have hx1 : ∀ w, (Instr.index 115 (.agg #[.int .i64 n, .int .i64 n, .int .i64 n4, .int .i64 n5]) (.int .i64 1)).run Try.prog w = .ok (.int .i64 n) w := fun w => by simp [Instr.index, run_underlying hu, asIntOf, go_sem]
  have hx2 : ∀ w, (Instr.index 115 (.agg #[.int .i64 n, .int .i64 n, .int .i64 n4, .int .i64 n5]) (.int .i64 2)).run Try.prog w = .ok (.int .i64 n4) w := fun w => by simp [Instr.index, run_underlying hu, asIntOf, go_sem]
  have hx3 : ∀ w, (Instr.index 115 (.agg #[.int .i64 n, .int .i64 n, .int .i64 n4, .int .i64 n5]) (.int .i64 3)).run Try.prog w = .ok (.int .i64 n5) w := fun w => by simp [Instr.index, run_underlying hu, asIntOf, go_sem]
  clear HB2 hn hnW hn36 hn4 hn5
  go_enter Try.func59, Try.ntmps59
  go_wp2
  rw [← hW0]
  obtain ⟨g1, hg1⟩ : ∃ g, g = w.heap.size + 1 := ⟨_, rfl⟩
  have hs0 : W0.heap.size = w.heap.size + 1 := by rw [hW0]; simp
  obtain ⟨W1, hW1⟩ : ∃ W_, W_ = W0.alloc (.cells #[.slice A2 l2.length c2, .slice A3 l3.length c3, .slice A4 l4.length c4, .slice A5 l5.length c5] 40) := ⟨_, rfl⟩
  have HB1 := Aside0.mk (show Below w.heap.size w W1 by rw [hW1]; exact below_alloc HB0.out _)
  have HBX1 : Aside0 (W1.heap[w.heap.size]? = some (.cells #[.int .i64 W, .int .i64 H, .slice A2 l2.length c2, .slice A3 l3.length c3, .slice A4 l4.length c4, .slice A5 l5.length c5] 63 (0, 0))) := ⟨by rw [hW1]; exact blk_alloc HBX.out _⟩
  have HBL1 : Aside0 (W1.heap[g1]? = some (.cells #[.slice A2 l2.length c2, .slice A3 l3.length c3, .slice A4 l4.length c4, .slice A5 l5.length c5] 40 (0, 0))) := ⟨by rw [hW1, hg1, ← hs0]; exact blk_new _ _⟩
  rw [← hW1, ← hg1, hnW2]
  clear hnW2 j0 j1 j2 j3 j4 j5 hW1 hg1 hs0 hW0 HBX HB0 hm hM dm dM dM2
  go_loopg [35] (4) (fun kq v35 w' => ∃ (i : Nat), i + kq = 4 ∧ v35 = .int .i64 i ∧ Aside0 (B = (if i = 0 then (okL l2 n && (okL l3 n && (okL l4 n4 && okL l5 n5))) else if i = 1 then (okL l3 n && (okL l4 n4 && okL l5 n5)) else if i = 2 then (okL l4 n4 && okL l5 n5) else if i = 3 then okL l5 n5 else true)) ∧ Aside0 (Below w.heap.size w w') ∧ Aside0 (w'.heap[w.heap.size]? = some (.cells #[.int .i64 W, .int .i64 H, .slice A2 l2.length c2, .slice A3 l3.length c3, .slice A4 l4.length c4, .slice A5 l5.length c5] 63 (0, 0))) ∧ Aside0 (w'.heap[g1]? = some (.cells #[.slice A2 l2.length c2, .slice A3 l3.length c3, .slice A4 l4.length c4, .slice A5 l5.length c5] 40 (0, 0))))
  case atStart => exact ⟨0, by omega, rfl, HB3, HB1, HBX1, HBL1⟩
  case round =>
    clear HB3 HB1 HBX1 HBL1
    obtain ⟨i, hi, rfl, HT, HW, HX, HL⟩ := hrel
    have k0 := (blk_cell HX.out 0).trans rfl
    have k1 := (blk_cell HX.out 1).trans rfl
    by_cases hlt : i < 4
    case neg =>
      obtain rfl : i = 4 := by omega
      have hBt : B = true := HT.out
      subst hBt
      clear hlt
      go_wp2
      go_ret
      exact ⟨rfl, HW.out⟩
    rcases (show i = 0 ∨ i = 1 ∨ i = 2 ∨ i = 3 by omega) with rfl | rfl | rfl | rfl
    · have HT2 : Aside0 (B = (okL l2 n && (okL l3 n && (okL l4 n4 && okL l5 n5)))) := ⟨HT.out⟩
      have kl := (blk_cell HL.out 0).trans rfl
      by_cases e : ((l2.length : Nat) : Int) = n
      case neg =>
        have d0 : (((l2.length : Nat) : Int) != n) = true := bne_iff_ne.2 e
        have hBf : B = false := by rw [HT2.out]; unfold okL; rw [decide_eq_false e]; rfl
        subst hBf
        clear e hlt
        go_wp2
        go_ret
        exact ⟨rfl, HW.out⟩
      have d0 : (((l2.length : Nat) : Int) != n) = false := by rw [e]; simp
      have HE := Aside0.mk e
      clear e hlt
      go_wp2_with fail
      refine (contI_calls A2 c2 l2 wr (Kd.C_below H2.out HW.out) hc2).mono ?_
      rintro e w2 ⟨rfl, hb2⟩
      have HW2 := Aside0.mk (below_then HW.out HW.out.size hb2)
      have HX2 := Aside0.mk (blk_below HX.out hb2)
      have HL2 := Aside0.mk (blk_below HL.out hb2)
      clear hb2 k0 k1 kl d0
      obtain ⟨q, hq⟩ : ∃ q, q = l2.any badI := ⟨_, rfl⟩
      have HT3 : Aside0 (B = (!q && (okL l3 n && (okL l4 n4 && okL l5 n5)))) := ⟨by rw [HT2.out, hq]; unfold okL; rw [decide_eq_true HE.out, Bool.true_and]⟩
      rw [← hq]
      clear hq HT HT2
      cases q with
      | true =>
        have hBf : B = false := by rw [HT3.out]; rfl
        subst hBf
        clear HT3
        go_wp2
        go_ret
        exact ⟨rfl, HW2.out⟩
      | false =>
        have HT4 : Aside0 (B = (okL l3 n && (okL l4 n4 && okL l5 n5))) := ⟨HT3.out⟩
        clear HT3
        go_wp2
        go_roundg (3)
        case measure => omega
        case rel => exact ⟨1, by omega, by go_num, ⟨by rw [HT4.out]; rfl⟩, HW2, HX2, HL2⟩
    · have HT2 : Aside0 (B = (okL l3 n && (okL l4 n4 && okL l5 n5))) := ⟨HT.out⟩
      have kl := (blk_cell HL.out 1).trans rfl
      by_cases e : ((l3.length : Nat) : Int) = n
      case neg =>
        have d0 : (((l3.length : Nat) : Int) != n) = true := bne_iff_ne.2 e
        have hBf : B = false := by rw [HT2.out]; unfold okL; rw [decide_eq_false e]; rfl
        subst hBf
        clear e hlt
        go_wp2
        go_ret
        exact ⟨rfl, HW.out⟩
      have d0 : (((l3.length : Nat) : Int) != n) = false := by rw [e]; simp
      have HE := Aside0.mk e
      clear e hlt
      go_wp2_with fail
      refine (contI_calls A3 c3 l3 wr (Kd.C_below H3.out HW.out) hc3).mono ?_
      rintro e w2 ⟨rfl, hb2⟩
      have HW2 := Aside0.mk (below_then HW.out HW.out.size hb2)
      have HX2 := Aside0.mk (blk_below HX.out hb2)
      have HL2 := Aside0.mk (blk_below HL.out hb2)
      clear hb2 k0 k1 kl d0
      obtain ⟨q, hq⟩ : ∃ q, q = l3.any badI := ⟨_, rfl⟩
      have HT3 : Aside0 (B = (!q && (okL l4 n4 && okL l5 n5))) := ⟨by rw [HT2.out, hq]; unfold okL; rw [decide_eq_true HE.out, Bool.true_and]⟩
      rw [← hq]
      clear hq HT HT2
      cases q with
      | true =>
        have hBf : B = false := by rw [HT3.out]; rfl
        subst hBf
        clear HT3
        go_wp2
        go_ret
        exact ⟨rfl, HW2.out⟩
      | false =>
        have HT4 : Aside0 (B = (okL l4 n4 && okL l5 n5)) := ⟨HT3.out⟩
        clear HT3
        go_wp2
        go_roundg (2)
        case measure => omega
        case rel => exact ⟨2, by omega, by go_num, ⟨by rw [HT4.out]; rfl⟩, HW2, HX2, HL2⟩
    · have HT2 : Aside0 (B = (okL l4 n4 && okL l5 n5)) := ⟨HT.out⟩
      have kl := (blk_cell HL.out 2).trans rfl
      by_cases e : ((l4.length : Nat) : Int) = n4
      case neg =>
        have d0 : (((l4.length : Nat) : Int) != n4) = true := bne_iff_ne.2 e
        have hBf : B = false := by rw [HT2.out]; unfold okL; rw [decide_eq_false e]; rfl
        subst hBf
        clear e hlt
        go_wp2
        go_ret
        exact ⟨rfl, HW.out⟩
      have d0 : (((l4.length : Nat) : Int) != n4) = false := by rw [e]; simp
      have HE := Aside0.mk e
      clear e hlt
      go_wp2_with fail
      refine (contI_calls A4 c4 l4 wr (Kd.C_below H4.out HW.out) hc4).mono ?_
      rintro e w2 ⟨rfl, hb2⟩
      have HW2 := Aside0.mk (below_then HW.out HW.out.size hb2)
      have HX2 := Aside0.mk (blk_below HX.out hb2)
      have HL2 := Aside0.mk (blk_below HL.out hb2)
      clear hb2 k0 k1 kl d0
      obtain ⟨q, hq⟩ : ∃ q, q = l4.any badI := ⟨_, rfl⟩
      have HT3 : Aside0 (B = (!q && okL l5 n5)) := ⟨by rw [HT2.out, hq]; unfold okL; rw [decide_eq_true HE.out, Bool.true_and]⟩
      rw [← hq]
      clear hq HT HT2
      cases q with
      | true =>
        have hBf : B = false := by rw [HT3.out]; rfl
        subst hBf
        clear HT3
        go_wp2
        go_ret
        exact ⟨rfl, HW2.out⟩
      | false =>
        have HT4 : Aside0 (B = okL l5 n5) := ⟨HT3.out⟩
        clear HT3
        go_wp2
        go_roundg (1)
        case measure => omega
        case rel => exact ⟨3, by omega, by go_num, ⟨by rw [HT4.out]; rfl⟩, HW2, HX2, HL2⟩
    · have HT2 : Aside0 (B = (okL l5 n5 && true)) := ⟨by rw [HT.out, Bool.and_true]; rfl⟩
      have kl := (blk_cell HL.out 3).trans rfl
      by_cases e : ((l5.length : Nat) : Int) = n5
      case neg =>
        have d0 : (((l5.length : Nat) : Int) != n5) = true := bne_iff_ne.2 e
        have hBf : B = false := by rw [HT2.out]; unfold okL; rw [decide_eq_false e]; rfl
        subst hBf
        clear e hlt
        go_wp2
        go_ret
        exact ⟨rfl, HW.out⟩
      have d0 : (((l5.length : Nat) : Int) != n5) = false := by rw [e]; simp
      have HE := Aside0.mk e
      clear e hlt
      go_wp2_with fail
      refine (contI_calls A5 c5 l5 wr (Kd.C_below H5.out HW.out) hc5).mono ?_
      rintro e w2 ⟨rfl, hb2⟩
      have HW2 := Aside0.mk (below_then HW.out HW.out.size hb2)
      have HX2 := Aside0.mk (blk_below HX.out hb2)
      have HL2 := Aside0.mk (blk_below HL.out hb2)
      clear hb2 k0 k1 kl d0
      obtain ⟨q, hq⟩ : ∃ q, q = l5.any badI := ⟨_, rfl⟩
      have HT3 : Aside0 (B = (!q && true)) := ⟨by rw [HT2.out, hq]; unfold okL; rw [decide_eq_true HE.out, Bool.true_and]⟩
      rw [← hq]
      clear hq HT HT2
      cases q with
      | true =>
        have hBf : B = false := by rw [HT3.out]; rfl
        subst hBf
        clear HT3
        go_wp2
        go_ret
        exact ⟨rfl, HW2.out⟩
      | false =>
        have HT4 : Aside0 (B = true) := ⟨HT3.out⟩
        clear HT3
        go_wp2
        go_roundg (0)
        case measure => omega
        case rel => exact ⟨4, by omega, by go_num, ⟨by rw [HT4.out]; rfl⟩, HW2, HX2, HL2⟩
end Go.Proofs.Ytbamanjedfccpaa.HTab
namespace Go.Proofs.Ytbamanjedfccpaa.X
open Go.RowKit Go.Proofs.YtbamanjedfccpaaW.PrintWords Go.Proofs.YtbamanjedfccpaaW.PrintLast Go.Proofs.YtbamanjedfccpaaW.PrintMore Go.Proofs.Ytbamanjedfccpaa.HTab
def wax_Cloth_valid.f (a0_0 a0_1 : Int) (l0_2 l0_3 l0_4 l0_5 : List Int) : Option Bool := some (cvB a0_0 a0_1 l0_2 l0_3 l0_4 l0_5)
theorem wax_Cloth_valid.calls (a0_0 : Int) (a0_1 : Int) (A0_2 : Option Addr) (c0_2 : Nat) (l0_2 : List Int) (A0_3 : Option Addr) (c0_3 : Nat) (l0_3 : List Int) (A0_4 : Option Addr) (c0_4 : Nat) (l0_4 : List Int) (A0_5 : Option Addr) (c0_5 : Nat) (l0_5 : List Int) (r : Bool) (w : World) (hr0_2 : Kd.C (Kd.int .i64) w A0_2 l0_2.length l0_2) (hc0_2 : l0_2.length ≤ c0_2) (hr0_3 : Kd.C (Kd.int .i64) w A0_3 l0_3.length l0_3) (hc0_3 : l0_3.length ≤ c0_3) (hr0_4 : Kd.C (Kd.int .i64) w A0_4 l0_4.length l0_4) (hc0_4 : l0_4.length ≤ c0_4) (hr0_5 : Kd.C (Kd.int .i64) w A0_5 l0_5.length l0_5) (hc0_5 : l0_5.length ≤ c0_5) (h : wax_Cloth_valid.f a0_0 a0_1 l0_2 l0_3 l0_4 l0_5 = some r) :
    Calls Try.prog 59 #[.agg #[.int .i64 a0_0, .int .i64 a0_1, .slice A0_2 l0_2.length c0_2, .slice A0_3 l0_3.length c0_3, .slice A0_4 l0_4.length c0_4, .slice A0_5 l0_5.length c0_5]] w fun e w' => e = .returned (.bool r) ∧ Below w.heap.size w w' := by
  unfold wax_Cloth_valid.f at h
  injection h with h
  subst h
  exact cvalid_calls a0_0 a0_1 A0_2 c0_2 l0_2 A0_3 c0_3 l0_3 A0_4 c0_4 l0_4 A0_5 c0_5 l0_5 w hr0_2 hc0_2 hr0_3 hc0_3 hr0_4 hc0_4 hr0_5 hc0_5
end Go.Proofs.Ytbamanjedfccpaa.X
end

section
set_option linter.unusedVariables false
set_option linter.unusedSimpArgs false
namespace Go.Proofs.Ytbamanjedfccpaa.X
open Go.RowKit Go.Proofs.YtbamanjedfccpaaW.PrintWords Go.Proofs.YtbamanjedfccpaaW.PrintLast Go.Proofs.YtbamanjedfccpaaW.PrintMore
attribute [local go_sem] max2_int min2_int max_two min_two max_three min_three max_four min_four   -- for this text's walks alone
set_option linter.unusedVariables false
set_option linter.unusedSimpArgs false
mutual
def wax_Cloth_pairs.l0 : Nat → List (S100) → List Int → Int → Int → Int → Int → List Int → List Int → List Int → List Int → Option ((List (S100)))
  | 0, _, _, _, _, _, _, _, _, _, _ => none
  | k + 1, x3, x10, x11, x12, x438000, x438001, x438002, x438003, x438004, x438005 => if x12 < x11 then (if 0 ≤ x12 then (if x12 < (x10.length : Int) then (if (wrap64 (x438000 - 1)) = 0 then (none) else (if x3.length < 5864062014805 then (wax_Cloth_pairs.l0 k (x3 ++ [(⟨wrap64 ((wrap64 ((wrap64 (Int.tdiv x12 (wrap64 (x438000 - 1)))) * x438000)) + (Int.tmod x12 (wrap64 (x438000 - 1)))), wrap64 ((wrap64 ((wrap64 ((wrap64 (Int.tdiv x12 (wrap64 (x438000 - 1)))) * x438000)) + (Int.tmod x12 (wrap64 (x438000 - 1))))) + 1), rd x10 x12⟩ : S100)]) x10 x11 (wrap64 (x12 + 1)) x438000 x438001 x438002 x438003 x438004 x438005) else (none))) else (none)) else (none)) else (wax_Cloth_pairs.l1 k x3 x438005 (x438005.length : Int) 0 x438000 x438001 x438002 x438003 x438004 x438005)
def wax_Cloth_pairs.l1 : Nat → List (S100) → List Int → Int → Int → Int → Int → List Int → List Int → List Int → List Int → Option ((List (S100)))
  | 0, _, _, _, _, _, _, _, _, _, _ => none
  | k + 1, x3, x41, x42, x43, x438000, x438001, x438002, x438003, x438004, x438005 => if x43 < x42 then (if 0 ≤ x43 then (if x43 < (x41.length : Int) then (if x3.length < 5864062014805 then (wax_Cloth_pairs.l1 k (x3 ++ [(⟨x43, wrap64 (x43 + x438000), rd x41 x43⟩ : S100)]) x41 x42 (wrap64 (x43 + 1)) x438000 x438001 x438002 x438003 x438004 x438005) else (none)) else (none)) else (none)) else (some x3)
end
def wax_Cloth_pairs.f (k : Nat) (a0_0 : Int) (a0_1 : Int) (l0_2 : List Int) (l0_3 : List Int) (l0_4 : List Int) (l0_5 : List Int) : Option ((List (S100))) := wax_Cloth_pairs.l0 k ([] : List (S100)) l0_4 (l0_4.length : Int) 0 a0_0 a0_1 l0_2 l0_3 l0_4 l0_5
set_option maxHeartbeats 8000000 in
set_option maxRecDepth 100000 in
theorem wax_Cloth_pairs.calls (k : Nat) (a0_0 : Int) (a0_1 : Int) (A0_2 : Option Addr) (c0_2 : Nat) (l0_2 : List Int) (A0_3 : Option Addr) (c0_3 : Nat) (l0_3 : List Int) (A0_4 : Option Addr) (c0_4 : Nat) (l0_4 : List Int) (A0_5 : Option Addr) (c0_5 : Nat) (l0_5 : List Int) (r : List (S100)) (w : World) (hr0_2 : Kd.C (Kd.int .i64) w A0_2 l0_2.length l0_2) (hc0_2 : l0_2.length ≤ c0_2) (hr0_3 : Kd.C (Kd.int .i64) w A0_3 l0_3.length l0_3) (hc0_3 : l0_3.length ≤ c0_3) (hr0_4 : Kd.C (Kd.int .i64) w A0_4 l0_4.length l0_4) (hc0_4 : l0_4.length ≤ c0_4) (hr0_5 : Kd.C (Kd.int .i64) w A0_5 l0_5.length l0_5) (hc0_5 : l0_5.length ≤ c0_5) (h : wax_Cloth_pairs.f k a0_0 a0_1 l0_2 l0_3 l0_4 l0_5 = some r) :
    Calls Try.prog 60 #[.agg #[.int .i64 a0_0, .int .i64 a0_1, .slice A0_2 l0_2.length c0_2, .slice A0_3 l0_3.length c0_3, .slice A0_4 l0_4.length c0_4, .slice A0_5 l0_5.length c0_5]] w fun e w' => ∃ v0_ : Value, e = .returned (v0_) ∧ Kd.R k100 100 w' w.heap.size (fun _ => True) v0_ r ∧ Below w.heap.size w w' := by
  have hu63 := Try.underlying63
  have hu100 := Try.underlying100
  have HR0_2 := Aside0.mk hr0_2
  have HC0_2 := Aside0.mk hc0_2
  clear hr0_2 hc0_2
  have HR0_3 := Aside0.mk hr0_3
  have HC0_3 := Aside0.mk hc0_3
  clear hr0_3 hc0_3
  have HR0_4 := Aside0.mk hr0_4
  have HC0_4 := Aside0.mk hc0_4
  clear hr0_4 hc0_4
  have HR0_5 := Aside0.mk hr0_5
  have HC0_5 := Aside0.mk hc0_5
  clear hr0_5 hc0_5
  have HB := Aside0.mk (Below.refl w.heap.size w)
  have H : (wax_Cloth_pairs.l0 k ([] : List (S100)) l0_4 (l0_4.length : Int) 0 a0_0 a0_1 l0_2 l0_3 l0_4 l0_5) = some r := h
  clear h
  have H' := Aside0.mk H
  clear H
  go_enter Try.func60, Try.ntmps60
  go_wp2_with (first | ((with_reducible refine gate_dst (N := 1) rfl ?_); refine box_event ?hg (N := 1) ?hd (cs := #[.int .i64 a0_0, .int .i64 a0_1, .slice A0_2 l0_2.length c0_2, .slice A0_3 l0_3.length c0_3, .slice A0_4 l0_4.length c0_4, .slice A0_5 l0_5.length c0_5]) (t := 63) ?hr ?_; (case hd => rfl); (case hg => rfl); (case hr => first | (go_simp; done) | (go_simp; rfl)); intro gb437 hg w2 hbox hb; have n0_ := Aside0.mk (below_step (by repeat (first | (with_reducible first | exact HB.out | apply below_alloc | apply pw_below_drewN | apply below_drew1) | exact HB.out)) hb); have n1_ := Aside0.mk (hbox); have n2_ := Aside0.mk ((by rw [hg]; exact (below_size (by repeat (first | (with_reducible first | exact HB.out | apply below_alloc | apply pw_below_drewN | apply below_drew1) | exact HB.out))) : w.heap.size ≤ gb437)); have n3_ := Aside0.mk ((by rw [hg]; exact (below_size (by repeat (first | (with_reducible first | exact HB.out | apply below_alloc | apply pw_below_drewN | apply below_drew1) | exact HB.out))) : w.heap.size ≤ gb437)); clear HB; have HB := n0_; have BK437 := n1_; have GW437 := n2_; have GE437 := n3_; clear n0_ n1_ n2_ n3_; clear hb hbox hg; have hcz3_0 : w2.cell? ⟨gb437, 0, none⟩ = some (.int .i64 a0_0) := (blk_cell BK437.out 0).trans rfl; have hcz3_1 : w2.cell? ⟨gb437, 1, none⟩ = some (.int .i64 a0_1) := (blk_cell BK437.out 1).trans rfl; have hcz3_2 : w2.cell? ⟨gb437, 2, none⟩ = some (.slice A0_2 l0_2.length c0_2) := (blk_cell BK437.out 2).trans rfl; have hcz3_3 : w2.cell? ⟨gb437, 3, none⟩ = some (.slice A0_3 l0_3.length c0_3) := (blk_cell BK437.out 3).trans rfl; have hcz3_4 : w2.cell? ⟨gb437, 4, none⟩ = some (.slice A0_4 l0_4.length c0_4) := (blk_cell BK437.out 4).trans rfl; have hcz3_5 : w2.cell? ⟨gb437, 5, none⟩ = some (.slice A0_5 l0_5.length c0_5) := (blk_cell BK437.out 5).trans rfl; have hfz3_0 := blk_frozen BK437.out 0; have hfz3_1 := blk_frozen BK437.out 1; have hfz3_2 := blk_frozen BK437.out 2; have hfz3_3 := blk_frozen BK437.out 3; have hfz3_4 := blk_frozen BK437.out 4; have hfz3_5 := blk_frozen BK437.out 5))
  repeat (go_quiet (first | ((with_reducible refine gate_dst (N := 1) rfl ?_); refine box_event ?hg (N := 1) ?hd (cs := #[.int .i64 a0_0, .int .i64 a0_1, .slice A0_2 l0_2.length c0_2, .slice A0_3 l0_3.length c0_3, .slice A0_4 l0_4.length c0_4, .slice A0_5 l0_5.length c0_5]) (t := 63) ?hr ?_; (case hd => rfl); (case hg => rfl); (case hr => first | (go_simp; done) | (go_simp; rfl)); intro gb437 hg w2 hbox hb; have n0_ := Aside0.mk (below_step (by repeat (first | (with_reducible first | exact HB.out | apply below_alloc | apply pw_below_drewN | apply below_drew1) | exact HB.out)) hb); have n1_ := Aside0.mk (hbox); have n2_ := Aside0.mk ((by rw [hg]; exact (below_size (by repeat (first | (with_reducible first | exact HB.out | apply below_alloc | apply pw_below_drewN | apply below_drew1) | exact HB.out))) : w.heap.size ≤ gb437)); have n3_ := Aside0.mk ((by rw [hg]; exact (below_size (by repeat (first | (with_reducible first | exact HB.out | apply below_alloc | apply pw_below_drewN | apply below_drew1) | exact HB.out))) : w.heap.size ≤ gb437)); clear HB; have HB := n0_; have BK437 := n1_; have GW437 := n2_; have GE437 := n3_; clear n0_ n1_ n2_ n3_; clear hb hbox hg; have hcz3_0 : w2.cell? ⟨gb437, 0, none⟩ = some (.int .i64 a0_0) := (blk_cell BK437.out 0).trans rfl; have hcz3_1 : w2.cell? ⟨gb437, 1, none⟩ = some (.int .i64 a0_1) := (blk_cell BK437.out 1).trans rfl; have hcz3_2 : w2.cell? ⟨gb437, 2, none⟩ = some (.slice A0_2 l0_2.length c0_2) := (blk_cell BK437.out 2).trans rfl; have hcz3_3 : w2.cell? ⟨gb437, 3, none⟩ = some (.slice A0_3 l0_3.length c0_3) := (blk_cell BK437.out 3).trans rfl; have hcz3_4 : w2.cell? ⟨gb437, 4, none⟩ = some (.slice A0_4 l0_4.length c0_4) := (blk_cell BK437.out 4).trans rfl; have hcz3_5 : w2.cell? ⟨gb437, 5, none⟩ = some (.slice A0_5 l0_5.length c0_5) := (blk_cell BK437.out 5).trans rfl; have hfz3_0 := blk_frozen BK437.out 0; have hfz3_1 := blk_frozen BK437.out 1; have hfz3_2 := blk_frozen BK437.out 2; have hfz3_3 := blk_frozen BK437.out 3; have hfz3_4 := blk_frozen BK437.out 4; have hfz3_5 := blk_frozen BK437.out 5)); try go_wp2_with (first | ((with_reducible refine gate_dst (N := 1) rfl ?_); refine box_event ?hg (N := 1) ?hd (cs := #[.int .i64 a0_0, .int .i64 a0_1, .slice A0_2 l0_2.length c0_2, .slice A0_3 l0_3.length c0_3, .slice A0_4 l0_4.length c0_4, .slice A0_5 l0_5.length c0_5]) (t := 63) ?hr ?_; (case hd => rfl); (case hg => rfl); (case hr => first | (go_simp; done) | (go_simp; rfl)); intro gb437 hg w2 hbox hb; have n0_ := Aside0.mk (below_step (by repeat (first | (with_reducible first | exact HB.out | apply below_alloc | apply pw_below_drewN | apply below_drew1) | exact HB.out)) hb); have n1_ := Aside0.mk (hbox); have n2_ := Aside0.mk ((by rw [hg]; exact (below_size (by repeat (first | (with_reducible first | exact HB.out | apply below_alloc | apply pw_below_drewN | apply below_drew1) | exact HB.out))) : w.heap.size ≤ gb437)); have n3_ := Aside0.mk ((by rw [hg]; exact (below_size (by repeat (first | (with_reducible first | exact HB.out | apply below_alloc | apply pw_below_drewN | apply below_drew1) | exact HB.out))) : w.heap.size ≤ gb437)); clear HB; have HB := n0_; have BK437 := n1_; have GW437 := n2_; have GE437 := n3_; clear n0_ n1_ n2_ n3_; clear hb hbox hg; have hcz3_0 : w2.cell? ⟨gb437, 0, none⟩ = some (.int .i64 a0_0) := (blk_cell BK437.out 0).trans rfl; have hcz3_1 : w2.cell? ⟨gb437, 1, none⟩ = some (.int .i64 a0_1) := (blk_cell BK437.out 1).trans rfl; have hcz3_2 : w2.cell? ⟨gb437, 2, none⟩ = some (.slice A0_2 l0_2.length c0_2) := (blk_cell BK437.out 2).trans rfl; have hcz3_3 : w2.cell? ⟨gb437, 3, none⟩ = some (.slice A0_3 l0_3.length c0_3) := (blk_cell BK437.out 3).trans rfl; have hcz3_4 : w2.cell? ⟨gb437, 4, none⟩ = some (.slice A0_4 l0_4.length c0_4) := (blk_cell BK437.out 4).trans rfl; have hcz3_5 : w2.cell? ⟨gb437, 5, none⟩ = some (.slice A0_5 l0_5.length c0_5) := (blk_cell BK437.out 5).trans rfl; have hfz3_0 := blk_frozen BK437.out 0; have hfz3_1 := blk_frozen BK437.out 1; have hfz3_2 := blk_frozen BK437.out 2; have hfz3_3 := blk_frozen BK437.out 3; have hfz3_4 := blk_frozen BK437.out 4; have hfz3_5 := blk_frozen BK437.out 5)))
  go_loopg [3, 12] k (fun kq v3 v12 w' => ∃ (x3_1 : List (S100)) (x12_1 : Int), v12 = .int .i64 x12_1 ∧ Aside0 (wax_Cloth_pairs.l0 kq x3_1 l0_4 (l0_4.length : Int) x12_1 a0_0 a0_1 l0_2 l0_3 l0_4 l0_5 = some r) ∧ Aside0 (kq ≤ k) ∧ Aside0 (Kd.R k100 100 w' w.heap.size (fun _ => True) v3 x3_1) ∧ Aside0 (w'.heap[gb437]? = some (.cells #[.int .i64 a0_0, .int .i64 a0_1, (.slice A0_2 l0_2.length c0_2), (.slice A0_3 l0_3.length c0_3), (.slice A0_4 l0_4.length c0_4), (.slice A0_5 l0_5.length c0_5)] 63 (0, 0))) ∧ Aside0 (Below w.heap.size w w'))
  case atStart => exact ⟨(([] : List (S100))), (0), (by first | rfl | (simp; done) | (simp [*]; done)), H', ⟨Nat.le_refl _⟩, ⟨by first | exact Kd.R_nil _ _ _ _ _ | exact Kd.N_nil _ _ _ _ _ | exact Kd.V_nil _ _ _ _ _ | exact Kd.Q_nil _ _ _ _ _ | exact Kd.S_nil _ _ _ _ _⟩, ⟨by (with_reducible repeat (first | refine blk_drewN ?_ _ | refine blk_drew ?_ | refine blk_alloc ?_ _)); exact BK437.out⟩, ⟨by repeat (first | (with_reducible first | exact HB.out | apply below_alloc | apply pw_below_drewN | apply below_drew1 | refine below_set ?_ GE437.out) | exact HB.out)⟩⟩
  case round =>
    clear H'
    try clear p2
    try clear hcz3_0
    try clear hcz3_1
    try clear hcz3_2
    try clear hcz3_3
    try clear hcz3_4
    try clear hcz3_5
    try clear hfz3_0
    try clear hfz3_1
    try clear hfz3_2
    try clear hfz3_3
    try clear hfz3_4
    try clear hfz3_5
    obtain ⟨x3_1, x12_1, rfl, HA, HK1, HO_3, BK437, HB⟩ := hrel
    cases gk with
    | zero => exact absurd HA.out (by simp [wax_Cloth_pairs.l0])
    | succ k1 =>
      have H := HA.out
      clear HA
      simp only [wax_Cloth_pairs.l0] at H
      by_cases c4 : x12_1 < (l0_4.length : Int)
      · rw [if_pos c4] at H
        have c4b0 : decide (x12_1 < (l0_4.length : Int)) = true := decide_eq_true c4
        clear c4
        by_cases c5 : 0 ≤ x12_1
        · rw [if_pos c5] at H
          have c5b0 : decide (0 ≤ x12_1) = true := decide_eq_true c5
          clear c5
          by_cases c6 : x12_1 < (l0_4.length : Int)
          · rw [if_pos c6] at H
            have c6b0 : decide (x12_1 < (l0_4.length : Int)) = true := decide_eq_true c6
            clear c6
            by_cases c7 : (wrap64 (a0_0 - 1)) = 0
            · rw [if_pos c7] at H
              exact absurd H (by simp)
            · rw [if_neg c7] at H
              have c7b0 : ((wrap64 (a0_0 - 1)) == 0) = false := beq_eq_false_iff_ne.mpr c7
              have c7b1 : ((wrap64 (a0_0 - 1)) != 0) = true := bne_iff_ne.mpr c7
              by_cases c8 : x3_1.length < 5864062014805
              · rw [if_pos c8] at H
                have LMc8 := Aside0.mk c8
                clear c8
                obtain ⟨y439, hy439⟩ : ∃ y_ : List (S100), y_ = (x3_1 ++ [(⟨wrap64 ((wrap64 ((wrap64 (Int.tdiv x12_1 (wrap64 (a0_0 - 1)))) * a0_0)) + (Int.tmod x12_1 (wrap64 (a0_0 - 1)))), wrap64 ((wrap64 ((wrap64 ((wrap64 (Int.tdiv x12_1 (wrap64 (a0_0 - 1)))) * a0_0)) + (Int.tmod x12_1 (wrap64 (a0_0 - 1))))) + 1), rd l0_4 x12_1⟩ : S100)]) := ⟨_, rfl⟩
                replace H : (wax_Cloth_pairs.l0 k1 y439 l0_4 (l0_4.length : Int) (wrap64 (x12_1 + 1)) a0_0 a0_1 l0_2 l0_3 l0_4 l0_5) = some r := by first | (rw [hy439]; with_reducible exact H) | (have H2_ := (Option.bind_some _ _).symm.trans H; rw [hy439]; with_reducible exact H2_) | (have H2_ := (Option.bind_some _ _).symm.trans H; with_reducible exact H2_) | with_reducible exact H | (rw [hy439]; exact H) | exact H
                have Ny439 := Aside0.mk hy439
                clear hy439
                have H' := Aside0.mk H
                clear H
                have p438 : 0 ≤ (x12_1 : Int) := of_decide_eq_true (by first | (with_reducible assumption) | assumption)
                have q438 : x12_1 < (l0_4.length : Int) := of_decide_eq_true (by first | (with_reducible assumption) | assumption)
                obtain ⟨ad438, e438, hx438_0⟩ := Kd.at_int HR0_4.out x12_1 p438 q438
                cases e438
                replace hx438_0 := (HB.out.cell (World.block_lt_of_cell? w _ hx438_0)).trans hx438_0
                replace p438 := eq_true p438
                replace q438 := eq_true q438
                have hcz9_0 : wr.cell? ⟨gb437, 0, none⟩ = some (.int .i64 a0_0) := (blk_cell BK437.out 0).trans rfl
                have hcz9_1 : wr.cell? ⟨gb437, 1, none⟩ = some (.int .i64 a0_1) := (blk_cell BK437.out 1).trans rfl
                have hcz9_2 : wr.cell? ⟨gb437, 2, none⟩ = some (.slice A0_2 l0_2.length c0_2) := (blk_cell BK437.out 2).trans rfl
                have hcz9_3 : wr.cell? ⟨gb437, 3, none⟩ = some (.slice A0_3 l0_3.length c0_3) := (blk_cell BK437.out 3).trans rfl
                have hcz9_4 : wr.cell? ⟨gb437, 4, none⟩ = some (.slice (some ad438) l0_4.length c0_4) := (blk_cell BK437.out 4).trans rfl
                have hcz9_5 : wr.cell? ⟨gb437, 5, none⟩ = some (.slice A0_5 l0_5.length c0_5) := (blk_cell BK437.out 5).trans rfl
                have hfz9_0 := blk_frozen BK437.out 0
                have hfz9_1 := blk_frozen BK437.out 1
                have hfz9_2 := blk_frozen BK437.out 2
                have hfz9_3 := blk_frozen BK437.out 3
                have hfz9_4 := blk_frozen BK437.out 4
                have hfz9_5 := blk_frozen BK437.out 5
                go_wp2_with (first | ((with_reducible refine gate_builtin (b := .append) (xs := #[.tmp 31, .tmp 37]) rfl ?_); at_builtin; refine Kd.R_append k100 (w0 := w) w.heap.size rfl (.tmp 31) (.tmp 37) 97 100 (.agg #[(.int .i64 0), (.int .i64 0), (.int .i64 0)]) 24 rfl Try.underlying97 info100 rfl (by decide) (by omega) u3 x3_1 (⟨wrap64 ((wrap64 ((wrap64 (Int.tdiv x12_1 (wrap64 (a0_0 - 1)))) * a0_0)) + (Int.tmod x12_1 (wrap64 (a0_0 - 1)))), wrap64 ((wrap64 ((wrap64 ((wrap64 (Int.tdiv x12_1 (wrap64 (a0_0 - 1)))) * a0_0)) + (Int.tmod x12_1 (wrap64 (a0_0 - 1))))) + 1), rd l0_4 x12_1⟩ : S100) [.int .i64 (wrap64 ((wrap64 ((wrap64 (Int.tdiv x12_1 (wrap64 (a0_0 - 1)))) * a0_0)) + (Int.tmod x12_1 (wrap64 (a0_0 - 1))))), .int .i64 (wrap64 ((wrap64 ((wrap64 ((wrap64 (Int.tdiv x12_1 (wrap64 (a0_0 - 1)))) * a0_0)) + (Int.tmod x12_1 (wrap64 (a0_0 - 1))))) + 1)), .int .i64 (rd l0_4 x12_1)] (fun _ => True) (fun _ => False) rfl rfl ?aP (fun _ hk => hk.elim) ?aF ?aO ?aB ?aS ?aL ?_; (case aP => exact k100_mkM _ _ _ (⟨wrap64 ((wrap64 ((wrap64 (Int.tdiv x12_1 (wrap64 (a0_0 - 1)))) * a0_0)) + (Int.tmod x12_1 (wrap64 (a0_0 - 1)))), wrap64 ((wrap64 ((wrap64 ((wrap64 (Int.tdiv x12_1 (wrap64 (a0_0 - 1)))) * a0_0)) + (Int.tmod x12_1 (wrap64 (a0_0 - 1))))) + 1), rd l0_4 x12_1⟩ : S100)); (case aB => exact (by repeat (first | (with_reducible first | exact HB.out | apply below_alloc | apply pw_below_drewN | apply below_drew1 | refine below_set ?_ GE437.out) | exact HB.out))); (case aF => exact (fun _ _ => trivial)); (case aO => exact (by (with_reducible repeat (first | apply Kd.R_alloc | apply Kd.R_drewN | apply Kd.R_drew)); exact HO_3.out)); (case aS => exact (below_size (by repeat (first | (with_reducible first | exact HB.out | apply below_alloc | apply pw_below_drewN | apply below_drew1 | refine below_set ?_ GE437.out) | exact HB.out)))); (case aL => have := LMc8.out; omega); intro v440 w10 ho hb hg hat; rw [← Ny439.out] at ho; have n0_ := Aside0.mk (blk_grown (g := gb437) (o := .cells #[.int .i64 a0_0, .int .i64 a0_1, .slice A0_2 l0_2.length c0_2, .slice A0_3 l0_3.length c0_3, .slice (some ad438) l0_4.length c0_4, .slice A0_5 l0_5.length c0_5] 63 (0, 0)) (by (with_reducible repeat (first | refine blk_drewN ?_ _ | refine blk_drew ?_ | refine blk_alloc ?_ _)); exact BK437.out) hg (Kd.R_ne HO_3.out BK437.out (by decide))); have n1_ := Aside0.mk (hb); have n2_ := Aside0.mk (ho); clear BK437; clear HB; clear HO_3; have BK437 := n0_; have HB := n1_; have HO441 := n2_; clear n0_ n1_ n2_; clear ho hb hg hat))
                repeat (go_quiet (first | ((with_reducible refine gate_builtin (b := .append) (xs := #[.tmp 31, .tmp 37]) rfl ?_); at_builtin; refine Kd.R_append k100 (w0 := w) w.heap.size rfl (.tmp 31) (.tmp 37) 97 100 (.agg #[(.int .i64 0), (.int .i64 0), (.int .i64 0)]) 24 rfl Try.underlying97 info100 rfl (by decide) (by omega) u3 x3_1 (⟨wrap64 ((wrap64 ((wrap64 (Int.tdiv x12_1 (wrap64 (a0_0 - 1)))) * a0_0)) + (Int.tmod x12_1 (wrap64 (a0_0 - 1)))), wrap64 ((wrap64 ((wrap64 ((wrap64 (Int.tdiv x12_1 (wrap64 (a0_0 - 1)))) * a0_0)) + (Int.tmod x12_1 (wrap64 (a0_0 - 1))))) + 1), rd l0_4 x12_1⟩ : S100) [.int .i64 (wrap64 ((wrap64 ((wrap64 (Int.tdiv x12_1 (wrap64 (a0_0 - 1)))) * a0_0)) + (Int.tmod x12_1 (wrap64 (a0_0 - 1))))), .int .i64 (wrap64 ((wrap64 ((wrap64 ((wrap64 (Int.tdiv x12_1 (wrap64 (a0_0 - 1)))) * a0_0)) + (Int.tmod x12_1 (wrap64 (a0_0 - 1))))) + 1)), .int .i64 (rd l0_4 x12_1)] (fun _ => True) (fun _ => False) rfl rfl ?aP (fun _ hk => hk.elim) ?aF ?aO ?aB ?aS ?aL ?_; (case aP => exact k100_mkM _ _ _ (⟨wrap64 ((wrap64 ((wrap64 (Int.tdiv x12_1 (wrap64 (a0_0 - 1)))) * a0_0)) + (Int.tmod x12_1 (wrap64 (a0_0 - 1)))), wrap64 ((wrap64 ((wrap64 ((wrap64 (Int.tdiv x12_1 (wrap64 (a0_0 - 1)))) * a0_0)) + (Int.tmod x12_1 (wrap64 (a0_0 - 1))))) + 1), rd l0_4 x12_1⟩ : S100)); (case aB => exact (by repeat (first | (with_reducible first | exact HB.out | apply below_alloc | apply pw_below_drewN | apply below_drew1 | refine below_set ?_ GE437.out) | exact HB.out))); (case aF => exact (fun _ _ => trivial)); (case aO => exact (by (with_reducible repeat (first | apply Kd.R_alloc | apply Kd.R_drewN | apply Kd.R_drew)); exact HO_3.out)); (case aS => exact (below_size (by repeat (first | (with_reducible first | exact HB.out | apply below_alloc | apply pw_below_drewN | apply below_drew1 | refine below_set ?_ GE437.out) | exact HB.out)))); (case aL => have := LMc8.out; omega); intro v440 w10 ho hb hg hat; rw [← Ny439.out] at ho; have n0_ := Aside0.mk (blk_grown (g := gb437) (o := .cells #[.int .i64 a0_0, .int .i64 a0_1, .slice A0_2 l0_2.length c0_2, .slice A0_3 l0_3.length c0_3, .slice (some ad438) l0_4.length c0_4, .slice A0_5 l0_5.length c0_5] 63 (0, 0)) (by (with_reducible repeat (first | refine blk_drewN ?_ _ | refine blk_drew ?_ | refine blk_alloc ?_ _)); exact BK437.out) hg (Kd.R_ne HO_3.out BK437.out (by decide))); have n1_ := Aside0.mk (hb); have n2_ := Aside0.mk (ho); clear BK437; clear HB; clear HO_3; have BK437 := n0_; have HB := n1_; have HO441 := n2_; clear n0_ n1_ n2_; clear ho hb hg hat)); try go_wp2_with (first | ((with_reducible refine gate_builtin (b := .append) (xs := #[.tmp 31, .tmp 37]) rfl ?_); at_builtin; refine Kd.R_append k100 (w0 := w) w.heap.size rfl (.tmp 31) (.tmp 37) 97 100 (.agg #[(.int .i64 0), (.int .i64 0), (.int .i64 0)]) 24 rfl Try.underlying97 info100 rfl (by decide) (by omega) u3 x3_1 (⟨wrap64 ((wrap64 ((wrap64 (Int.tdiv x12_1 (wrap64 (a0_0 - 1)))) * a0_0)) + (Int.tmod x12_1 (wrap64 (a0_0 - 1)))), wrap64 ((wrap64 ((wrap64 ((wrap64 (Int.tdiv x12_1 (wrap64 (a0_0 - 1)))) * a0_0)) + (Int.tmod x12_1 (wrap64 (a0_0 - 1))))) + 1), rd l0_4 x12_1⟩ : S100) [.int .i64 (wrap64 ((wrap64 ((wrap64 (Int.tdiv x12_1 (wrap64 (a0_0 - 1)))) * a0_0)) + (Int.tmod x12_1 (wrap64 (a0_0 - 1))))), .int .i64 (wrap64 ((wrap64 ((wrap64 ((wrap64 (Int.tdiv x12_1 (wrap64 (a0_0 - 1)))) * a0_0)) + (Int.tmod x12_1 (wrap64 (a0_0 - 1))))) + 1)), .int .i64 (rd l0_4 x12_1)] (fun _ => True) (fun _ => False) rfl rfl ?aP (fun _ hk => hk.elim) ?aF ?aO ?aB ?aS ?aL ?_; (case aP => exact k100_mkM _ _ _ (⟨wrap64 ((wrap64 ((wrap64 (Int.tdiv x12_1 (wrap64 (a0_0 - 1)))) * a0_0)) + (Int.tmod x12_1 (wrap64 (a0_0 - 1)))), wrap64 ((wrap64 ((wrap64 ((wrap64 (Int.tdiv x12_1 (wrap64 (a0_0 - 1)))) * a0_0)) + (Int.tmod x12_1 (wrap64 (a0_0 - 1))))) + 1), rd l0_4 x12_1⟩ : S100)); (case aB => exact (by repeat (first | (with_reducible first | exact HB.out | apply below_alloc | apply pw_below_drewN | apply below_drew1 | refine below_set ?_ GE437.out) | exact HB.out))); (case aF => exact (fun _ _ => trivial)); (case aO => exact (by (with_reducible repeat (first | apply Kd.R_alloc | apply Kd.R_drewN | apply Kd.R_drew)); exact HO_3.out)); (case aS => exact (below_size (by repeat (first | (with_reducible first | exact HB.out | apply below_alloc | apply pw_below_drewN | apply below_drew1 | refine below_set ?_ GE437.out) | exact HB.out)))); (case aL => have := LMc8.out; omega); intro v440 w10 ho hb hg hat; rw [← Ny439.out] at ho; have n0_ := Aside0.mk (blk_grown (g := gb437) (o := .cells #[.int .i64 a0_0, .int .i64 a0_1, .slice A0_2 l0_2.length c0_2, .slice A0_3 l0_3.length c0_3, .slice (some ad438) l0_4.length c0_4, .slice A0_5 l0_5.length c0_5] 63 (0, 0)) (by (with_reducible repeat (first | refine blk_drewN ?_ _ | refine blk_drew ?_ | refine blk_alloc ?_ _)); exact BK437.out) hg (Kd.R_ne HO_3.out BK437.out (by decide))); have n1_ := Aside0.mk (hb); have n2_ := Aside0.mk (ho); clear BK437; clear HB; clear HO_3; have BK437 := n0_; have HB := n1_; have HO441 := n2_; clear n0_ n1_ n2_; clear ho hb hg hat)))
                go_roundg k1
                case measure => have := HK1.out; omega
                case rel => exact ⟨(y439), (wrap64 (x12_1 + 1)), (by first | rfl | (simp; done) | (simp [*]; done)), H', ⟨by have := HK1.out; omega⟩, ⟨by (with_reducible repeat (first | apply Kd.R_alloc | apply Kd.R_drewN | apply Kd.R_drew)); exact HO441.out⟩, ⟨by (with_reducible repeat (first | refine blk_drewN ?_ _ | refine blk_drew ?_ | refine blk_alloc ?_ _)); exact BK437.out⟩, ⟨by repeat (first | (with_reducible first | exact HB.out | apply below_alloc | apply pw_below_drewN | apply below_drew1 | refine below_set ?_ GE437.out) | exact HB.out)⟩⟩
              · rw [if_neg c8] at H
                exact absurd H (by simp)
          · rw [if_neg c6] at H
            exact absurd H (by simp)
        · rw [if_neg c5] at H
          exact absurd H (by simp)
      · rw [if_neg c4] at H
        have c4b0 : decide (x12_1 < (l0_4.length : Int)) = false := decide_eq_false c4
        clear c4
        have H' := Aside0.mk H
        clear H
        have hcz11_0 : wr.cell? ⟨gb437, 0, none⟩ = some (.int .i64 a0_0) := (blk_cell BK437.out 0).trans rfl
        have hcz11_1 : wr.cell? ⟨gb437, 1, none⟩ = some (.int .i64 a0_1) := (blk_cell BK437.out 1).trans rfl
        have hcz11_2 : wr.cell? ⟨gb437, 2, none⟩ = some (.slice A0_2 l0_2.length c0_2) := (blk_cell BK437.out 2).trans rfl
        have hcz11_3 : wr.cell? ⟨gb437, 3, none⟩ = some (.slice A0_3 l0_3.length c0_3) := (blk_cell BK437.out 3).trans rfl
        have hcz11_4 : wr.cell? ⟨gb437, 4, none⟩ = some (.slice A0_4 l0_4.length c0_4) := (blk_cell BK437.out 4).trans rfl
        have hcz11_5 : wr.cell? ⟨gb437, 5, none⟩ = some (.slice A0_5 l0_5.length c0_5) := (blk_cell BK437.out 5).trans rfl
        have hfz11_0 := blk_frozen BK437.out 0
        have hfz11_1 := blk_frozen BK437.out 1
        have hfz11_2 := blk_frozen BK437.out 2
        have hfz11_3 := blk_frozen BK437.out 3
        have hfz11_4 := blk_frozen BK437.out 4
        have hfz11_5 := blk_frozen BK437.out 5
        go_wp2
        repeat (go_quiet (fail); try go_wp2)
        go_loopg [3, 43] k1 (fun kq v3 v43 w' => ∃ (x3_2 : List (S100)) (x43_2 : Int), v43 = .int .i64 x43_2 ∧ Aside0 (wax_Cloth_pairs.l1 kq x3_2 l0_5 (l0_5.length : Int) x43_2 a0_0 a0_1 l0_2 l0_3 l0_4 l0_5 = some r) ∧ Aside0 (kq ≤ k1) ∧ Aside0 (Kd.R k100 100 w' w.heap.size (fun _ => True) v3 x3_2) ∧ Aside0 (w'.heap[gb437]? = some (.cells #[.int .i64 a0_0, .int .i64 a0_1, (.slice A0_2 l0_2.length c0_2), (.slice A0_3 l0_3.length c0_3), (.slice A0_4 l0_4.length c0_4), (.slice A0_5 l0_5.length c0_5)] 63 (0, 0))) ∧ Aside0 (Below w.heap.size w w'))
        case atStart => exact ⟨(x3_1), (0), (by first | rfl | (simp; done) | (simp [*]; done)), H', ⟨Nat.le_refl _⟩, ⟨by (with_reducible repeat (first | apply Kd.R_alloc | apply Kd.R_drewN | apply Kd.R_drew)); exact HO_3.out⟩, ⟨by (with_reducible repeat (first | refine blk_drewN ?_ _ | refine blk_drew ?_ | refine blk_alloc ?_ _)); exact BK437.out⟩, ⟨by repeat (first | (with_reducible first | exact HB.out | apply below_alloc | apply pw_below_drewN | apply below_drew1 | refine below_set ?_ GE437.out) | exact HB.out)⟩⟩
        case round =>
          clear H'
          try clear p2
          try clear c4
          try clear c4b0
          try clear p4
          try clear q4
          try clear hx4
          try clear c5
          try clear c5b0
          try clear c6
          try clear c6b0
          try clear p6
          try clear c7
          try clear c7b0
          try clear c7b1
          try clear c8
          try clear hcz11_0
          try clear hcz11_1
          try clear hcz11_2
          try clear hcz11_3
          try clear hcz11_4
          try clear hcz11_5
          try clear hcz3_0
          try clear hcz3_1
          try clear hcz3_2
          try clear hcz3_3
          try clear hcz3_4
          try clear hcz3_5
          try clear hcz9_0
          try clear hcz9_1
          try clear hcz9_2
          try clear hcz9_3
          try clear hcz9_4
          try clear hcz9_5
          try clear hfz11_0
          try clear hfz11_1
          try clear hfz11_2
          try clear hfz11_3
          try clear hfz11_4
          try clear hfz11_5
          try clear hfz3_0
          try clear hfz3_1
          try clear hfz3_2
          try clear hfz3_3
          try clear hfz3_4
          try clear hfz3_5
          try clear hfz9_0
          try clear hfz9_1
          try clear hfz9_2
          try clear hfz9_3
          try clear hfz9_4
          try clear hfz9_5
          try clear hx438_0
          try clear p2
          try clear p438
          try clear q438
          obtain ⟨x3_2, x43_2, rfl, HA, HK2, HO_3, BK437, HB⟩ := hrel
          cases gk with
          | zero => exact absurd HA.out (by simp [wax_Cloth_pairs.l1])
          | succ k2 =>
            have H := HA.out
            clear HA
            simp only [wax_Cloth_pairs.l1] at H
            by_cases c12 : x43_2 < (l0_5.length : Int)
            · rw [if_pos c12] at H
              have c12b0 : decide (x43_2 < (l0_5.length : Int)) = true := decide_eq_true c12
              clear c12
              by_cases c13 : 0 ≤ x43_2
              · rw [if_pos c13] at H
                have c13b0 : decide (0 ≤ x43_2) = true := decide_eq_true c13
                clear c13
                by_cases c14 : x43_2 < (l0_5.length : Int)
                · rw [if_pos c14] at H
                  have c14b0 : decide (x43_2 < (l0_5.length : Int)) = true := decide_eq_true c14
                  clear c14
                  by_cases c15 : x3_2.length < 5864062014805
                  · rw [if_pos c15] at H
                    have LMc15 := Aside0.mk c15
                    clear c15
                    obtain ⟨y443, hy443⟩ : ∃ y_ : List (S100), y_ = (x3_2 ++ [(⟨x43_2, wrap64 (x43_2 + a0_0), rd l0_5 x43_2⟩ : S100)]) := ⟨_, rfl⟩
                    replace H : (wax_Cloth_pairs.l1 k2 y443 l0_5 (l0_5.length : Int) (wrap64 (x43_2 + 1)) a0_0 a0_1 l0_2 l0_3 l0_4 l0_5) = some r := by first | (rw [hy443]; with_reducible exact H) | (have H2_ := (Option.bind_some _ _).symm.trans H; rw [hy443]; with_reducible exact H2_) | (have H2_ := (Option.bind_some _ _).symm.trans H; with_reducible exact H2_) | with_reducible exact H | (rw [hy443]; exact H) | exact H
                    have Ny443 := Aside0.mk hy443
                    clear hy443
                    have H' := Aside0.mk H
                    clear H
                    have p442 : 0 ≤ (x43_2 : Int) := of_decide_eq_true (by first | (with_reducible assumption) | assumption)
                    have q442 : x43_2 < (l0_5.length : Int) := of_decide_eq_true (by first | (with_reducible assumption) | assumption)
                    obtain ⟨ad442, e442, hx442_0⟩ := Kd.at_int HR0_5.out x43_2 p442 q442
                    cases e442
                    replace hx442_0 := (HB.out.cell (World.block_lt_of_cell? w _ hx442_0)).trans hx442_0
                    replace p442 := eq_true p442
                    replace q442 := eq_true q442
                    have hcz16_0 : wr.cell? ⟨gb437, 0, none⟩ = some (.int .i64 a0_0) := (blk_cell BK437.out 0).trans rfl
                    have hcz16_1 : wr.cell? ⟨gb437, 1, none⟩ = some (.int .i64 a0_1) := (blk_cell BK437.out 1).trans rfl
                    have hcz16_2 : wr.cell? ⟨gb437, 2, none⟩ = some (.slice A0_2 l0_2.length c0_2) := (blk_cell BK437.out 2).trans rfl
                    have hcz16_3 : wr.cell? ⟨gb437, 3, none⟩ = some (.slice A0_3 l0_3.length c0_3) := (blk_cell BK437.out 3).trans rfl
                    have hcz16_4 : wr.cell? ⟨gb437, 4, none⟩ = some (.slice A0_4 l0_4.length c0_4) := (blk_cell BK437.out 4).trans rfl
                    have hcz16_5 : wr.cell? ⟨gb437, 5, none⟩ = some (.slice (some ad442) l0_5.length c0_5) := (blk_cell BK437.out 5).trans rfl
                    have hfz16_0 := blk_frozen BK437.out 0
                    have hfz16_1 := blk_frozen BK437.out 1
                    have hfz16_2 := blk_frozen BK437.out 2
                    have hfz16_3 := blk_frozen BK437.out 3
                    have hfz16_4 := blk_frozen BK437.out 4
                    have hfz16_5 := blk_frozen BK437.out 5
                    go_wp2_with (first | ((with_reducible refine gate_builtin (b := .append) (xs := #[.tmp 48, .tmp 56]) rfl ?_); at_builtin; refine Kd.R_append k100 (w0 := w) w.heap.size rfl (.tmp 48) (.tmp 56) 97 100 (.agg #[(.int .i64 0), (.int .i64 0), (.int .i64 0)]) 24 rfl Try.underlying97 info100 rfl (by decide) (by omega) u3 x3_2 (⟨x43_2, wrap64 (x43_2 + a0_0), rd l0_5 x43_2⟩ : S100) [.int .i64 x43_2, .int .i64 (wrap64 (x43_2 + a0_0)), .int .i64 (rd l0_5 x43_2)] (fun _ => True) (fun _ => False) rfl rfl ?aP (fun _ hk => hk.elim) ?aF ?aO ?aB ?aS ?aL ?_; (case aP => exact k100_mkM _ _ _ (⟨x43_2, wrap64 (x43_2 + a0_0), rd l0_5 x43_2⟩ : S100)); (case aB => exact (by repeat (first | (with_reducible first | exact HB.out | apply below_alloc | apply pw_below_drewN | apply below_drew1 | refine below_set ?_ GE437.out) | exact HB.out))); (case aF => exact (fun _ _ => trivial)); (case aO => exact (by (with_reducible repeat (first | apply Kd.R_alloc | apply Kd.R_drewN | apply Kd.R_drew)); exact HO_3.out)); (case aS => exact (below_size (by repeat (first | (with_reducible first | exact HB.out | apply below_alloc | apply pw_below_drewN | apply below_drew1 | refine below_set ?_ GE437.out) | exact HB.out)))); (case aL => have := LMc15.out; omega); intro v444 w17 ho hb hg hat; rw [← Ny443.out] at ho; have n0_ := Aside0.mk (blk_grown (g := gb437) (o := .cells #[.int .i64 a0_0, .int .i64 a0_1, .slice A0_2 l0_2.length c0_2, .slice A0_3 l0_3.length c0_3, .slice A0_4 l0_4.length c0_4, .slice (some ad442) l0_5.length c0_5] 63 (0, 0)) (by (with_reducible repeat (first | refine blk_drewN ?_ _ | refine blk_drew ?_ | refine blk_alloc ?_ _)); exact BK437.out) hg (Kd.R_ne HO_3.out BK437.out (by decide))); have n1_ := Aside0.mk (hb); have n2_ := Aside0.mk (ho); clear BK437; clear HB; clear HO_3; have BK437 := n0_; have HB := n1_; have HO445 := n2_; clear n0_ n1_ n2_; clear ho hb hg hat))
                    repeat (go_quiet (first | ((with_reducible refine gate_builtin (b := .append) (xs := #[.tmp 48, .tmp 56]) rfl ?_); at_builtin; refine Kd.R_append k100 (w0 := w) w.heap.size rfl (.tmp 48) (.tmp 56) 97 100 (.agg #[(.int .i64 0), (.int .i64 0), (.int .i64 0)]) 24 rfl Try.underlying97 info100 rfl (by decide) (by omega) u3 x3_2 (⟨x43_2, wrap64 (x43_2 + a0_0), rd l0_5 x43_2⟩ : S100) [.int .i64 x43_2, .int .i64 (wrap64 (x43_2 + a0_0)), .int .i64 (rd l0_5 x43_2)] (fun _ => True) (fun _ => False) rfl rfl ?aP (fun _ hk => hk.elim) ?aF ?aO ?aB ?aS ?aL ?_; (case aP => exact k100_mkM _ _ _ (⟨x43_2, wrap64 (x43_2 + a0_0), rd l0_5 x43_2⟩ : S100)); (case aB => exact (by repeat (first | (with_reducible first | exact HB.out | apply below_alloc | apply pw_below_drewN | apply below_drew1 | refine below_set ?_ GE437.out) | exact HB.out))); (case aF => exact (fun _ _ => trivial)); (case aO => exact (by (with_reducible repeat (first | apply Kd.R_alloc | apply Kd.R_drewN | apply Kd.R_drew)); exact HO_3.out)); (case aS => exact (below_size (by repeat (first | (with_reducible first | exact HB.out | apply below_alloc | apply pw_below_drewN | apply below_drew1 | refine below_set ?_ GE437.out) | exact HB.out)))); (case aL => have := LMc15.out; omega); intro v444 w17 ho hb hg hat; rw [← Ny443.out] at ho; have n0_ := Aside0.mk (blk_grown (g := gb437) (o := .cells #[.int .i64 a0_0, .int .i64 a0_1, .slice A0_2 l0_2.length c0_2, .slice A0_3 l0_3.length c0_3, .slice A0_4 l0_4.length c0_4, .slice (some ad442) l0_5.length c0_5] 63 (0, 0)) (by (with_reducible repeat (first | refine blk_drewN ?_ _ | refine blk_drew ?_ | refine blk_alloc ?_ _)); exact BK437.out) hg (Kd.R_ne HO_3.out BK437.out (by decide))); have n1_ := Aside0.mk (hb); have n2_ := Aside0.mk (ho); clear BK437; clear HB; clear HO_3; have BK437 := n0_; have HB := n1_; have HO445 := n2_; clear n0_ n1_ n2_; clear ho hb hg hat)); try go_wp2_with (first | ((with_reducible refine gate_builtin (b := .append) (xs := #[.tmp 48, .tmp 56]) rfl ?_); at_builtin; refine Kd.R_append k100 (w0 := w) w.heap.size rfl (.tmp 48) (.tmp 56) 97 100 (.agg #[(.int .i64 0), (.int .i64 0), (.int .i64 0)]) 24 rfl Try.underlying97 info100 rfl (by decide) (by omega) u3 x3_2 (⟨x43_2, wrap64 (x43_2 + a0_0), rd l0_5 x43_2⟩ : S100) [.int .i64 x43_2, .int .i64 (wrap64 (x43_2 + a0_0)), .int .i64 (rd l0_5 x43_2)] (fun _ => True) (fun _ => False) rfl rfl ?aP (fun _ hk => hk.elim) ?aF ?aO ?aB ?aS ?aL ?_; (case aP => exact k100_mkM _ _ _ (⟨x43_2, wrap64 (x43_2 + a0_0), rd l0_5 x43_2⟩ : S100)); (case aB => exact (by repeat (first | (with_reducible first | exact HB.out | apply below_alloc | apply pw_below_drewN | apply below_drew1 | refine below_set ?_ GE437.out) | exact HB.out))); (case aF => exact (fun _ _ => trivial)); (case aO => exact (by (with_reducible repeat (first | apply Kd.R_alloc | apply Kd.R_drewN | apply Kd.R_drew)); exact HO_3.out)); (case aS => exact (below_size (by repeat (first | (with_reducible first | exact HB.out | apply below_alloc | apply pw_below_drewN | apply below_drew1 | refine below_set ?_ GE437.out) | exact HB.out)))); (case aL => have := LMc15.out; omega); intro v444 w17 ho hb hg hat; rw [← Ny443.out] at ho; have n0_ := Aside0.mk (blk_grown (g := gb437) (o := .cells #[.int .i64 a0_0, .int .i64 a0_1, .slice A0_2 l0_2.length c0_2, .slice A0_3 l0_3.length c0_3, .slice A0_4 l0_4.length c0_4, .slice (some ad442) l0_5.length c0_5] 63 (0, 0)) (by (with_reducible repeat (first | refine blk_drewN ?_ _ | refine blk_drew ?_ | refine blk_alloc ?_ _)); exact BK437.out) hg (Kd.R_ne HO_3.out BK437.out (by decide))); have n1_ := Aside0.mk (hb); have n2_ := Aside0.mk (ho); clear BK437; clear HB; clear HO_3; have BK437 := n0_; have HB := n1_; have HO445 := n2_; clear n0_ n1_ n2_; clear ho hb hg hat)))
                    go_roundg k2
                    case measure => have := HK1.out; have := HK2.out; omega
                    case rel => exact ⟨(y443), (wrap64 (x43_2 + 1)), (by first | rfl | (simp; done) | (simp [*]; done)), H', ⟨by have := HK1.out; have := HK2.out; omega⟩, ⟨by (with_reducible repeat (first | apply Kd.R_alloc | apply Kd.R_drewN | apply Kd.R_drew)); exact HO445.out⟩, ⟨by (with_reducible repeat (first | refine blk_drewN ?_ _ | refine blk_drew ?_ | refine blk_alloc ?_ _)); exact BK437.out⟩, ⟨by repeat (first | (with_reducible first | exact HB.out | apply below_alloc | apply pw_below_drewN | apply below_drew1 | refine below_set ?_ GE437.out) | exact HB.out)⟩⟩
                  · rw [if_neg c15] at H
                    exact absurd H (by simp)
                · rw [if_neg c14] at H
                  exact absurd H (by simp)
              · rw [if_neg c13] at H
                exact absurd H (by simp)
            · rw [if_neg c12] at H
              have c12b0 : decide (x43_2 < (l0_5.length : Int)) = false := decide_eq_false c12
              clear c12
              obtain rfl := Option.some.inj H
              go_wp2
              repeat (go_quiet (fail); try go_wp2)
              go_ret
              exact ⟨_, by first | rfl | (simp [errW_none, errW_some] <;> rfl) | (simp [*, errW_none, errW_some] <;> rfl), by (with_reducible repeat (first | apply Kd.R_alloc | apply Kd.R_drewN | apply Kd.R_drew)); exact HO_3.out, by repeat (first | (with_reducible first | exact HB.out | apply below_alloc | apply pw_below_drewN | apply below_drew1 | refine below_set ?_ GE437.out) | exact HB.out)⟩
end Go.Proofs.Ytbamanjedfccpaa.X
end

section
set_option linter.unusedVariables false
set_option linter.unusedSimpArgs false
namespace Go.Proofs.Ytbamanjedfccpaa.X
open Go.RowKit Go.Proofs.YtbamanjedfccpaaW.PrintWords Go.Proofs.YtbamanjedfccpaaW.PrintLast Go.Proofs.YtbamanjedfccpaaW.PrintMore
attribute [local go_sem] max2_int min2_int max_two min_two max_three min_three max_four min_four   -- for this text's walks alone
set_option linter.unusedVariables false
set_option linter.unusedSimpArgs false
end Go.Proofs.Ytbamanjedfccpaa.X
end

section
set_option linter.unusedVariables false
set_option linter.unusedSimpArgs false
namespace Go.Proofs.Ytbamanjedfccpaa.HTab
open Go.RowKit Go.Proofs.YtbamanjedfccpaaW.PrintWords Go.Proofs.YtbamanjedfccpaaW.PrintLast Go.Proofs.YtbamanjedfccpaaW.PrintMore Go.Proofs.Ytbamanjedfccpaa.X
set_option linter.unusedVariables false
set_option linter.unusedSimpArgs false
set_option maxRecDepth 100000 in
set_option maxHeartbeats 4000000 in
theorem cloneI_calls (A : Option Addr) (c : Nat) (l : List Int) (w : World) (hC : Kd.C (Kd.int .i64) w A l.length l) (hc : l.length ≤ c) (hl : l.length ≤ 10000000000000) :
    Calls Try.prog 78 #[.slice A l.length c] w fun e w' => ∃ v, e = .returned v ∧ Kd.R (Kd.int .i64) 3 w' w.heap.size (fun _ => True) v l ∧ Below w.heap.size w w' := by
  have HC := Aside0.mk hC
  have HL := Aside0.mk hl
  rcases A with _ | ad
  · have h0 : l = [] := by
      rcases Nat.eq_zero_or_pos l.length with h0 | h0
      · exact List.eq_nil_of_length_eq_zero h0
      · obtain ⟨ad, h, _⟩ := hC.2.2 h0
        cases h
    subst h0
    clear hC HC hl HL
    have hnil := fun w => Lib.run_eql_slice_nil (P := Try.prog) w 40 3 none 0 c 0 0 Try.underlying40
    go_enter Try.func78, Try.ntmps78
    go_wp2
    go_ret
    exact ⟨_, rfl, Kd.R_nil _ _ _ _ _, Below.refl _ _⟩
  · clear hC hl
    have hnil := fun w => Lib.run_eql_slice_nil (P := Try.prog) w 40 3 (some ad) l.length c 0 0 Try.underlying40
    go_enter Try.func78, Try.ntmps78
    go_wp2_with (first | ((with_reducible refine gate_dst (N := 5) rfl ?_); refine Kd.R_lit (Kd.int .i64) w.heap.size 3 ?hg (N := 5) ?hd (xs := ([] : List Int)) (inner := []) (ok := fun _ => True) (okp := fun _ => True) ?hr ?hp (fun _ hk => hk) trivial (Below.refl _ _) (Nat.le_refl _) (by simp) ?_; (case hd => rfl); (case hg => rfl); (case hr => first | (go_simp; done) | (go_simp; rfl)); (case hp => exact (Reps.none _ _)); intro v5 w5 ho5 hb5 hg5 hn5; have HO5 := Aside0.mk ho5; have HB5 := Aside0.mk hb5; clear ho5 hb5 hg5 hn5) | (at_builtin; refine Kd.R_append_rows (Kd.int .i64) (w0 := w) w.heap.size rfl (.tmp 5) (.tmp 6) 40 3 (.int .i64 0) 8 rfl Try.underlying40 info3 rfl (by decide) (by decide) v5 [] l _ _ _ (fun _ => True) (fun _ => False) rfl rfl HO5.out (Kd.C_below HC.out HB5.out) (fun _ _ h => h) (fun _ h => h.elim) (fun _ _ => trivial) HB5.out HB5.out.size (by have := HL.out; simp; omega) ?_; intro v7 w7 ho7 hb7 hg7 ha7; have HO7 := Aside0.mk ho7; have HB7 := Aside0.mk hb7; clear ho7 hb7 hg7 ha7) | fail)
    go_ret
    exact ⟨_, rfl, HO7.out, HB7.out⟩
end Go.Proofs.Ytbamanjedfccpaa.HTab
namespace Go.Proofs.Ytbamanjedfccpaa.X
open Go.RowKit Go.Proofs.YtbamanjedfccpaaW.PrintWords Go.Proofs.YtbamanjedfccpaaW.PrintLast Go.Proofs.YtbamanjedfccpaaW.PrintMore Go.Proofs.Ytbamanjedfccpaa.HTab
def slices_Clone_int_int.f (l : List Int) : Option (List Int) := if l.length ≤ 10000000000000 then some l else none
theorem slices_Clone_int_int.calls (A0 : Option Addr) (c0 : Nat) (l0 : List Int) (r : List Int) (w : World) (hr0 : Kd.C (Kd.int .i64) w A0 l0.length l0) (hc0 : l0.length ≤ c0) (h : slices_Clone_int_int.f l0 = some r) :
    Calls Try.prog 78 #[.slice A0 l0.length c0] w fun e w' => ∃ v0_ : Value, e = .returned (v0_) ∧ Kd.R (Kd.int .i64) 3 w' w.heap.size (fun _ => True) v0_ r ∧ Below w.heap.size w w' := by
  unfold slices_Clone_int_int.f at h
  by_cases hl : l0.length ≤ 10000000000000
  · rw [if_pos hl] at h
    injection h with h
    subst h
    exact cloneI_calls A0 c0 l0 w hr0 hc0 hl
  · rw [if_neg hl] at h; cases h
end Go.Proofs.Ytbamanjedfccpaa.X
end

section
set_option linter.unusedVariables false
set_option linter.unusedSimpArgs false
namespace Go.Proofs.Ytbamanjedfccpaa.X
open Go.RowKit Go.Proofs.YtbamanjedfccpaaW.PrintWords Go.Proofs.YtbamanjedfccpaaW.PrintLast Go.Proofs.YtbamanjedfccpaaW.PrintMore
attribute [local go_sem] max2_int min2_int max_two min_two max_three min_three max_four min_four   -- for this text's walks alone
set_option linter.unusedVariables false
set_option linter.unusedSimpArgs false
def cantinglaw07_few.f (l0 : List Int) : Option (List Int) := if 0 ≤ (mn (l0.length : Int) 50) then (if (mn (l0.length : Int) 50) ≤ (l0.length : Int) then ((slices_Clone_int_int.f (l0.take ((mn (l0.length : Int) 50) : Int).toNat)).bind fun t459 => (some t459)) else (none)) else (none)
set_option maxHeartbeats 8000000 in
set_option maxRecDepth 100000 in
theorem cantinglaw07_few.calls (A0 : Option Addr) (c0 : Nat) (l0 : List Int) (r : List Int) (w : World) (hr0 : Kd.C (Kd.int .i64) w A0 l0.length l0) (hc0 : l0.length ≤ c0) (h : cantinglaw07_few.f l0 = some r) :
    Calls Try.prog 61 #[.slice A0 l0.length c0] w fun e w' => ∃ v0_ : Value, e = .returned (v0_) ∧ Kd.R (Kd.int .i64) 3 w' w.heap.size (fun _ => True) v0_ r ∧ Below w.heap.size w w' := by
  have HR0 := Aside0.mk hr0
  have HC0 := Aside0.mk hc0
  clear hr0 hc0
  have HB := Aside0.mk (Below.refl w.heap.size w)
  have H : (if 0 ≤ (mn (l0.length : Int) 50) then (if (mn (l0.length : Int) 50) ≤ (l0.length : Int) then ((slices_Clone_int_int.f (l0.take ((mn (l0.length : Int) 50) : Int).toNat)).bind fun t459 => (some t459)) else (none)) else (none)) = some r := h
  clear h
  obtain ⟨ji2, hji2⟩ : ∃ j_ : Int, (mn (l0.length : Int) 50) = j_ := ⟨_, rfl⟩
  replace H : (if 0 ≤ (ji2) then (if (ji2) ≤ (l0.length : Int) then ((slices_Clone_int_int.f (l0.take ((ji2) : Int).toNat)).bind fun t459 => (some t459)) else (none)) else (none)) = some r := by first | (rw [hji2] at H; exact H) | (simp only [hji2] at H ⊢; exact H)
  (try (have hji2h : ji2 ≤ 50 := by (rw [← hji2]; unfold mn; (repeat' split) <;> omega)))
  (try (have hji2g : ji2 ≤ 64 := by omega))
  (try (have hji2l : 0 ≤ ji2 := by (rw [← hji2]; unfold mn; (repeat' split) <;> omega)))
  (try (have hji2m : 0 ≤ ji2 := by omega))
  have hji2_ : (if 50 < (l0.length : Int) then 50 else (l0.length : Int)) = ji2 := hji2
  by_cases c3 : 0 ≤ (ji2)
  · rw [if_pos c3] at H
    have c3b0 := eq_true c3
    have c3b1 : decide (0 ≤ (ji2)) = true := decide_eq_true c3
    clear c3
    by_cases c4 : (ji2) ≤ (l0.length : Int)
    · rw [if_pos c4] at H
      have c4b0 := eq_true c4
      have c4b1 : decide ((ji2) ≤ (l0.length : Int)) = true := decide_eq_true c4
      clear c4
      replace H := Option.bind_eq_some_iff.mp H
      obtain ⟨t459, A50, H⟩ := H
      replace H : (some t459) = some r := H
      have A5 := Aside0.mk A50
      clear A50
      obtain rfl := Option.some.inj H
      obtain ⟨i06, hi06, _, hsz6, _⟩ := info_parts info3
      obtain ⟨hcut6, hA6, hC6⟩ := print_take_of (P := Try.prog) (Value.int .i64) 0 40 3 .i64 Try.underlying40 hi06 hsz6 A0 c0 l0 (ji2) (of_decide_eq_true (by first | (with_reducible assumption) | assumption)) (of_decide_eq_true (by first | (with_reducible assumption) | assumption)) HC0.out
      have HR458 := Aside0.mk (Kd.C_of_reads (h1 := fun _ => rfl) (hA6 _ (Kd.reads_of_C HR0.out)))
      have HC458 := Aside0.mk hC6
      clear hA6 hC6 hi06 hsz6
      go_enter Try.func61, Try.ntmps61
      go_wp2_with (first | ((with_reducible refine gate_callee (f := 78) rfl ?_); refine goesL_ (some 8) rfl rfl Try.func78 (by kernel_rfl) rfl #[.slice A0 (l0.take ((ji2) : Int).toNat).length c0] rfl (by (try simp only [List.map_toArray, List.map_cons, List.map_nil]); first | done | (rw [show (l0.take ((ji2) : Int).toNat).length = (ji2).toNat from (by rw [List.length_take]; have h_ : ((ji2) : Int) ≤ (l0.length : Int) := of_decide_eq_true (by first | (with_reducible assumption) | assumption); omega)] <;> rfl) | (simp only [hji2]; rfl) | rfl | (simp only [List.length_drop, List.length_take]; rfl)) ?_; (with_reducible refine (slices_Clone_int_int.calls _ _ (l0.take ((ji2) : Int).toNat) t459 _ ?side1 ?side2 A5.out).mono ?_); (case side1 => repeat (first | exact HR458.out | (with_reducible refine Kd.C_alloc ?_ _) | (with_reducible refine Kd.C_drewN ?_ _) | (with_reducible refine Kd.C_drew ?_))); (case side2 => exact HC458.out); rintro e w7 ⟨v460, rfl, ho0, hb⟩; refine ⟨_, rfl, ?_⟩; have n0_ := Aside0.mk (Kd.R_lower ho0 (below_size (by repeat (first | (with_reducible first | exact HB.out | apply below_alloc | apply pw_below_drewN | apply below_drew1) | exact HB.out)))); have n1_ := Aside0.mk (below_step (by repeat (first | (with_reducible first | exact HB.out | apply below_alloc | apply pw_below_drewN | apply below_drew1) | exact HB.out)) hb); clear HB; have HO461 := n0_; have HB := n1_; clear n0_ n1_; (try clear hb); (try clear hb2); (try clear hk); (try clear hi); (try clear ho0)))
      go_ret
      exact ⟨_, by first | rfl | (simp [errW_none, errW_some] <;> rfl) | (simp only [← hji2]; first | rfl | (simp [errW_none, errW_some] <;> rfl)) | (simp [*, errW_none, errW_some] <;> rfl), by (with_reducible repeat (first | apply Kd.R_alloc | apply Kd.R_drewN | apply Kd.R_drew)); exact HO461.out, by repeat (first | (with_reducible first | exact HB.out | apply below_alloc | apply pw_below_drewN | apply below_drew1) | exact HB.out)⟩
    · rw [if_neg c4] at H
      exact absurd H (by simp)
  · rw [if_neg c3] at H
    exact absurd H (by simp)
end Go.Proofs.Ytbamanjedfccpaa.X
end

section
set_option linter.unusedVariables false
set_option linter.unusedSimpArgs false
namespace Go.Proofs.Ytbamanjedfccpaa.X
open Go.RowKit Go.Proofs.YtbamanjedfccpaaW.PrintWords Go.Proofs.YtbamanjedfccpaaW.PrintLast Go.Proofs.YtbamanjedfccpaaW.PrintMore
attribute [local go_sem] max2_int min2_int max_two min_two max_three min_three max_four min_four   -- for this text's walks alone
set_option linter.unusedVariables false
set_option linter.unusedSimpArgs false
def cantinglaw07_cloth.f (a0_0 : Int) (a0_1 : Int) (l0_2 : List Int) (l0_3 : List Int) (l0_4 : List Int) (l0_5 : List Int) : Option (Int × Int × List Int × List Int × List Int × List Int) := (cantinglaw07_few.f l0_2).bind fun t464 => ((cantinglaw07_few.f l0_3).bind fun t467 => ((cantinglaw07_few.f l0_4).bind fun t470 => ((cantinglaw07_few.f l0_5).bind fun t473 => (some (a0_0, a0_1, t464, t467, t470, t473)))))
def cantinglaw07_cloth.T1 : Bool × List (List Nat × List Nat) := (true, [([], []), ([0], [0]), ([], []), ([2], [2]), ([], []), ([4], [4]), ([5], [5]), ([], []), ([7], [7]), ([8, 6], [8]), ([], []), ([10], [10]), ([11, 9], [11]), ([], []), ([13], [13]), ([14, 12], [14]), ([1, 3, 6, 9, 12, 15], [1, 3, 6, 9, 12, 15]), ([16, 15, 0, 1, 2, 3, 4, 5, 6, 7, 8, 9, 10, 11, 12, 13, 14, 15, 16], [16])])
def cantinglaw07_cloth.B1 : List Nat := [0, 1, 0, 4, 0, 16, 48, 0, 128, 496, 0, 1024, 4080, 0, 8192, 32752, 65535, 131071]
theorem cantinglaw07_cloth.tab1 : rtab .any (opsOf Try.f32 1) = cantinglaw07_cloth.T1 := by kernel_rfl
theorem cantinglaw07_cloth.bits1 : waitsOk cantinglaw07_cloth.T1.2 cantinglaw07_cloth.B1 = true := by kernel_rfl
set_option maxHeartbeats 8000000 in
set_option maxRecDepth 100000 in
theorem cantinglaw07_cloth.calls (a0_0 : Int) (a0_1 : Int) (A0_2 : Option Addr) (c0_2 : Nat) (l0_2 : List Int) (A0_3 : Option Addr) (c0_3 : Nat) (l0_3 : List Int) (A0_4 : Option Addr) (c0_4 : Nat) (l0_4 : List Int) (A0_5 : Option Addr) (c0_5 : Nat) (l0_5 : List Int) (r1 : Int) (r2 : Int) (r3 : List Int) (r4 : List Int) (r5 : List Int) (r6 : List Int) (w : World) (hr0_2 : Kd.C (Kd.int .i64) w A0_2 l0_2.length l0_2) (hc0_2 : l0_2.length ≤ c0_2) (hr0_3 : Kd.C (Kd.int .i64) w A0_3 l0_3.length l0_3) (hc0_3 : l0_3.length ≤ c0_3) (hr0_4 : Kd.C (Kd.int .i64) w A0_4 l0_4.length l0_4) (hc0_4 : l0_4.length ≤ c0_4) (hr0_5 : Kd.C (Kd.int .i64) w A0_5 l0_5.length l0_5) (hc0_5 : l0_5.length ≤ c0_5) (h : cantinglaw07_cloth.f a0_0 a0_1 l0_2 l0_3 l0_4 l0_5 = some (r1, r2, r3, r4, r5, r6)) :
    Calls Try.prog 32 #[.agg #[.int .i64 a0_0, .int .i64 a0_1, .slice A0_2 l0_2.length c0_2, .slice A0_3 l0_3.length c0_3, .slice A0_4 l0_4.length c0_4, .slice A0_5 l0_5.length c0_5]] w fun e w' => ∃ v2_ v3_ v4_ v5_ : Value, e = .returned (.agg #[.int .i64 r1, .int .i64 r2, v2_, v3_, v4_, v5_]) ∧ Kd.R (Kd.int .i64) 3 w' w.heap.size (fun k_ => some k_ ≠ (v3_ : Value).ownBlock ∧ some k_ ≠ (v4_ : Value).ownBlock ∧ some k_ ≠ (v5_ : Value).ownBlock) v2_ r3 ∧ Kd.R (Kd.int .i64) 3 w' w.heap.size (fun k_ => some k_ ≠ (v2_ : Value).ownBlock ∧ some k_ ≠ (v4_ : Value).ownBlock ∧ some k_ ≠ (v5_ : Value).ownBlock) v3_ r4 ∧ Kd.R (Kd.int .i64) 3 w' w.heap.size (fun k_ => some k_ ≠ (v2_ : Value).ownBlock ∧ some k_ ≠ (v3_ : Value).ownBlock ∧ some k_ ≠ (v5_ : Value).ownBlock) v4_ r5 ∧ Kd.R (Kd.int .i64) 3 w' w.heap.size (fun k_ => some k_ ≠ (v2_ : Value).ownBlock ∧ some k_ ≠ (v3_ : Value).ownBlock ∧ some k_ ≠ (v4_ : Value).ownBlock) v5_ r6 ∧ Below w.heap.size w w' := by
  have hu61 := Try.underlying61
  have hu63 := Try.underlying63
  have HR0_2 := Aside0.mk hr0_2
  have HC0_2 := Aside0.mk hc0_2
  clear hr0_2 hc0_2
  have HR0_3 := Aside0.mk hr0_3
  have HC0_3 := Aside0.mk hc0_3
  clear hr0_3 hc0_3
  have HR0_4 := Aside0.mk hr0_4
  have HC0_4 := Aside0.mk hc0_4
  clear hr0_4 hc0_4
  have HR0_5 := Aside0.mk hr0_5
  have HC0_5 := Aside0.mk hc0_5
  clear hr0_5 hc0_5
  have HB := Aside0.mk (Below.refl w.heap.size w)
  have H : ((cantinglaw07_few.f l0_2).bind fun t464 => ((cantinglaw07_few.f l0_3).bind fun t467 => ((cantinglaw07_few.f l0_4).bind fun t470 => ((cantinglaw07_few.f l0_5).bind fun t473 => (some (a0_0, a0_1, t464, t467, t470, t473)))))) = some (r1, r2, r3, r4, r5, r6) := h
  clear h
  replace H := Option.bind_eq_some_iff.mp H
  obtain ⟨t464, A20, H⟩ := H
  replace H : ((cantinglaw07_few.f l0_3).bind fun t467 => ((cantinglaw07_few.f l0_4).bind fun t470 => ((cantinglaw07_few.f l0_5).bind fun t473 => (some (a0_0, a0_1, t464, t467, t470, t473))))) = some (r1, r2, r3, r4, r5, r6) := H
  have A2 := Aside0.mk A20
  clear A20
  replace H := Option.bind_eq_some_iff.mp H
  obtain ⟨t467, A30, H⟩ := H
  replace H : ((cantinglaw07_few.f l0_4).bind fun t470 => ((cantinglaw07_few.f l0_5).bind fun t473 => (some (a0_0, a0_1, t464, t467, t470, t473)))) = some (r1, r2, r3, r4, r5, r6) := H
  have A3 := Aside0.mk A30
  clear A30
  replace H := Option.bind_eq_some_iff.mp H
  obtain ⟨t470, A40, H⟩ := H
  replace H : ((cantinglaw07_few.f l0_5).bind fun t473 => (some (a0_0, a0_1, t464, t467, t470, t473))) = some (r1, r2, r3, r4, r5, r6) := H
  have A4 := Aside0.mk A40
  clear A40
  replace H := Option.bind_eq_some_iff.mp H
  obtain ⟨t473, A50, H⟩ := H
  replace H : (some (a0_0, a0_1, t464, t467, t470, t473)) = some (r1, r2, r3, r4, r5, r6) := H
  have A5 := Aside0.mk A50
  clear A50
  simp only [Option.some.injEq, Prod.mk.injEq] at H
  obtain ⟨rfl, rfl, rfl, rfl, rfl, rfl⟩ := H
  go_enter Try.func32, Try.ntmps32
  try go_wp2_with (first | ((with_reducible refine gate_dst (N := 1) rfl ?_); refine box_event ?hg (N := 1) ?hd (cs := #[.int .i64 a0_0, .int .i64 a0_1, .slice A0_2 l0_2.length c0_2, .slice A0_3 l0_3.length c0_3, .slice A0_4 l0_4.length c0_4, .slice A0_5 l0_5.length c0_5]) (t := 61) ?hr ?_; (case hd => rfl); (case hg => rfl); (case hr => first | (go_simp; done) | (go_simp; rfl)); intro gb462 hg w6 hbox hb; have n0_ := Aside0.mk (below_step (by repeat (first | (with_reducible first | exact HB.out | apply below_alloc | apply pw_below_drewN | apply below_drew1) | exact HB.out)) hb); have n1_ := Aside0.mk (hbox); have n2_ := Aside0.mk ((by rw [hg]; exact (below_size (by repeat (first | (with_reducible first | exact HB.out | apply below_alloc | apply pw_below_drewN | apply below_drew1) | exact HB.out))) : w.heap.size ≤ gb462)); have n3_ := Aside0.mk ((by rw [hg]; exact (below_size (by repeat (first | (with_reducible first | exact HB.out | apply below_alloc | apply pw_below_drewN | apply below_drew1) | exact HB.out))) : w.heap.size ≤ gb462)); clear HB; have HB := n0_; have BK462 := n1_; have GW462 := n2_; have GE462 := n3_; clear n0_ n1_ n2_ n3_; clear hb hbox hg) | ((with_reducible refine gate_dst (N := 2) rfl ?_); refine box_event ?hg (N := 2) ?hd (cs := #[.int .i64 0, .int .i64 0, .slice none 0 0, .slice none 0 0, .slice none 0 0, .slice none 0 0]) (t := 63) ?hr ?_; (case hd => rfl); (case hg => rfl); (case hr => first | (go_simp; done) | (go_simp; rfl)); intro gb463 hg w7 hbox hb; have n0_ := Aside0.mk (blk_below (g := gb462) (o := .cells #[.int .i64 a0_0, .int .i64 a0_1, .slice A0_2 l0_2.length c0_2, .slice A0_3 l0_3.length c0_3, .slice A0_4 l0_4.length c0_4, .slice A0_5 l0_5.length c0_5] 61 (0, 0)) (by (with_reducible repeat (first | refine blk_drewN ?_ _ | refine blk_drew ?_ | refine blk_alloc ?_ _)); exact BK462.out) hb); have n1_ := Aside0.mk (below_step (by repeat (first | (with_reducible first | exact HB.out | apply below_alloc | apply pw_below_drewN | apply below_drew1 | refine below_set ?_ GE462.out) | exact HB.out)) hb); have n2_ := Aside0.mk (hbox); have n3_ := Aside0.mk ((by rw [hg]; exact (below_size (by repeat (first | (with_reducible first | exact HB.out | apply below_alloc | apply pw_below_drewN | apply below_drew1 | refine below_set ?_ GE462.out) | exact HB.out))) : w.heap.size ≤ gb463)); have n4_ := Aside0.mk ((by rw [hg]; exact (below_size (by repeat (first | (with_reducible first | exact HB.out | apply below_alloc | apply pw_below_drewN | apply below_drew1 | refine below_set ?_ GE462.out) | exact HB.out))) : w.heap.size ≤ gb463)); have n5_ := Aside0.mk ((by rw [hg]; exact Nat.ne_of_lt (blk_lt (g := gb462) (o := .cells #[.int .i64 a0_0, .int .i64 a0_1, .slice A0_2 l0_2.length c0_2, .slice A0_3 l0_3.length c0_3, .slice A0_4 l0_4.length c0_4, .slice A0_5 l0_5.length c0_5] 61 (0, 0)) (by (with_reducible repeat (first | refine blk_drewN ?_ _ | refine blk_drew ?_ | refine blk_alloc ?_ _)); exact BK462.out)) : gb462 ≠ gb463)); have n6_ := Aside0.mk ((by rw [hg]; exact Nat.ne_of_gt (blk_lt (g := gb462) (o := .cells #[.int .i64 a0_0, .int .i64 a0_1, .slice A0_2 l0_2.length c0_2, .slice A0_3 l0_3.length c0_3, .slice A0_4 l0_4.length c0_4, .slice A0_5 l0_5.length c0_5] 61 (0, 0)) (by (with_reducible repeat (first | refine blk_drewN ?_ _ | refine blk_drew ?_ | refine blk_alloc ?_ _)); exact BK462.out)) : gb463 ≠ gb462)); clear BK462; clear HB; have BK462 := n0_; have HB := n1_; have BK463 := n2_; have GW463 := n3_; have GE463 := n4_; have NB462_463 := n5_; have NB463_462 := n6_; clear n0_ n1_ n2_ n3_ n4_ n5_ n6_; clear hb hbox hg))
  have n0_ := Aside0.mk (blk_drew BK462.out)
  have n1_ := Aside0.mk (blk_drew BK463.out)
  have n2_ := Aside0.mk (below_drew1 HB.out)
  clear BK462
  clear BK463
  clear HB
  have BK462 := n0_
  have BK463 := n1_
  have HB := n2_
  clear n0_ n1_ n2_
  refine start_ (n := 18) (S := fun w' => w'.cell? ⟨gb462, 0, none⟩ = some (.int .i64 a0_0) ∧ w'.cell? ⟨gb462, 1, none⟩ = some (.int .i64 a0_1) ∧ w'.cell? ⟨gb462, 2, none⟩ = some (.slice A0_2 l0_2.length c0_2) ∧ w'.cell? ⟨gb462, 3, none⟩ = some (.slice A0_3 l0_3.length c0_3) ∧ w'.cell? ⟨gb462, 4, none⟩ = some (.slice A0_4 l0_4.length c0_4) ∧ w'.cell? ⟨gb462, 5, none⟩ = some (.slice A0_5 l0_5.length c0_5)) (ds := []) #[false, false, false, false, false, false, false, false, false, false, false, false, false, false, false, false, false, false] (by kernel_rfl) rfl rfl ⟨(blk_cell BK462.out 0).trans rfl, (blk_cell BK462.out 1).trans rfl, (blk_cell BK462.out 2).trans rfl, (blk_cell BK462.out 3).trans rfl, (blk_cell BK462.out 4).trans rfl, (blk_cell BK462.out 5).trans rfl⟩ (fun hHeld => ?_); refine with_tabW cantinglaw07_cloth.tab1 cantinglaw07_cloth.bits1 (fun HT_ HW_ => ?_)
  generalize w7.drew = w8 at BK462 BK463 HB hHeld ⊢
  refine pure_ (i := 0) (N := some 3) (v := ?_) (a' := ?_) #[true, false, false, false, false, false, false, false, false, false, false, false, false, false, false, false, false, false] rfl rfl (any_of HT_.out (by kernel_rfl)) (fun _ _ _ h => h) (Or.inl ⟨by rfl, ?_⟩) ?_ ?_
  rotate_left
  · intro w'
    go_simp
    with_reducible rfl
  rotate_left
  · simp only [Act.put, List.setIfInBounds_toArray, List.set_cons_zero, List.set_cons_succ, i64_w, i32_w]
    rfl
  refine pure_ (i := 2) (N := some 5) (v := ?_) (a' := ?_) #[true, false, true, false, false, false, false, false, false, false, false, false, false, false, false, false, false, false] rfl rfl (any_of HT_.out (by kernel_rfl)) (fun _ _ _ h => h) (Or.inl ⟨by rfl, ?_⟩) ?_ ?_
  rotate_left
  · intro w'
    go_simp
    with_reducible rfl
  rotate_left
  · simp only [Act.put, List.setIfInBounds_toArray, List.set_cons_zero, List.set_cons_succ, i64_w, i32_w]
    rfl
  refine pure_ (i := 4) (N := some 7) (v := ?_) (a' := ?_) #[true, false, true, false, true, false, false, false, false, false, false, false, false, false, false, false, false, false] rfl rfl (any_of HT_.out (by kernel_rfl)) (fun _ _ _ h => h) (Or.inl ⟨by rfl, ?_⟩) ?_ ?_
  rotate_left
  · intro w'
    go_simp
    with_reducible rfl
  rotate_left
  · simp only [Act.put, List.setIfInBounds_toArray, List.set_cons_zero, List.set_cons_succ, i64_w, i32_w]
    rfl
  refine pure_ (i := 7) (N := some 10) (v := ?_) (a' := ?_) #[true, false, true, false, true, false, false, true, false, false, false, false, false, false, false, false, false, false] rfl rfl (any_of HT_.out (by kernel_rfl)) (fun _ _ _ h => h) (Or.inl ⟨by rfl, ?_⟩) ?_ ?_
  rotate_left
  · intro w'
    go_simp
    with_reducible rfl
  rotate_left
  · simp only [Act.put, List.setIfInBounds_toArray, List.set_cons_zero, List.set_cons_succ, i64_w, i32_w]
    rfl
  refine pure_ (i := 10) (N := some 13) (v := ?_) (a' := ?_) #[true, false, true, false, true, false, false, true, false, false, true, false, false, false, false, false, false, false] rfl rfl (any_of HT_.out (by kernel_rfl)) (fun _ _ _ h => h) (Or.inl ⟨by rfl, ?_⟩) ?_ ?_
  rotate_left
  · intro w'
    go_simp
    with_reducible rfl
  rotate_left
  · simp only [Act.put, List.setIfInBounds_toArray, List.set_cons_zero, List.set_cons_succ, i64_w, i32_w]
    rfl
  refine pure_ (i := 13) (N := some 16) (v := ?_) (a' := ?_) #[true, false, true, false, true, false, false, true, false, false, true, false, false, true, false, false, false, false] rfl rfl (any_of HT_.out (by kernel_rfl)) (fun _ _ _ h => h) (Or.inl ⟨by rfl, ?_⟩) ?_ ?_
  rotate_left
  · intro w'
    go_simp
    with_reducible rfl
  rotate_left
  · simp only [Act.put, List.setIfInBounds_toArray, List.set_cons_zero, List.set_cons_succ, i64_w, i32_w]
    rfl
  refine take_ (i := 1) (N := some 4) (v := ?_) (a' := ?_) #[true, true, true, false, true, false, false, true, false, false, true, false, false, true, false, false, false, false] rfl rfl (take_ofW HT_.out HW_.out (by kernel_rfl)) (fun _ _ _ h => h) (Or.inl ⟨by rfl, ?_⟩) hHeld ?_ ?_
  rotate_left
  · rintro w' ⟨s0, s1, s2, s3, s4, s5⟩
    go_simp
    with_reducible rfl
  rotate_left
  · simp only [Act.put, List.setIfInBounds_toArray, List.set_cons_zero, List.set_cons_succ, i64_w, i32_w]
    rfl
  refine take_ (i := 3) (N := some 6) (v := ?_) (a' := ?_) #[true, true, true, true, true, false, false, true, false, false, true, false, false, true, false, false, false, false] rfl rfl (take_ofW HT_.out HW_.out (by kernel_rfl)) (fun _ _ _ h => h) (Or.inl ⟨by rfl, ?_⟩) hHeld ?_ ?_
  rotate_left
  · rintro w' ⟨s0, s1, s2, s3, s4, s5⟩
    go_simp
    with_reducible rfl
  rotate_left
  · simp only [Act.put, List.setIfInBounds_toArray, List.set_cons_zero, List.set_cons_succ, i64_w, i32_w]
    rfl
  refine take_ (i := 5) (N := some 8) (v := ?_) (a' := ?_) #[true, true, true, true, true, true, false, true, false, false, true, false, false, true, false, false, false, false] rfl rfl (take_ofW HT_.out HW_.out (by kernel_rfl)) (fun _ _ _ h => h) (Or.inl ⟨by rfl, ?_⟩) hHeld ?_ ?_
  rotate_left
  · rintro w' ⟨s0, s1, s2, s3, s4, s5⟩
    go_simp
    with_reducible rfl
  rotate_left
  · simp only [Act.put, List.setIfInBounds_toArray, List.set_cons_zero, List.set_cons_succ, i64_w, i32_w]
    rfl
  refine take_ (i := 8) (N := some 11) (v := ?_) (a' := ?_) #[true, true, true, true, true, true, false, true, true, false, true, false, false, true, false, false, false, false] rfl rfl (take_ofW HT_.out HW_.out (by kernel_rfl)) (fun _ _ _ h => h) (Or.inl ⟨by rfl, ?_⟩) hHeld ?_ ?_
  rotate_left
  · rintro w' ⟨s0, s1, s2, s3, s4, s5⟩
    go_simp
    with_reducible rfl
  rotate_left
  · simp only [Act.put, List.setIfInBounds_toArray, List.set_cons_zero, List.set_cons_succ, i64_w, i32_w]
    rfl
  refine take_ (i := 11) (N := some 14) (v := ?_) (a' := ?_) #[true, true, true, true, true, true, false, true, true, false, true, true, false, true, false, false, false, false] rfl rfl (take_ofW HT_.out HW_.out (by kernel_rfl)) (fun _ _ _ h => h) (Or.inl ⟨by rfl, ?_⟩) hHeld ?_ ?_
  rotate_left
  · rintro w' ⟨s0, s1, s2, s3, s4, s5⟩
    go_simp
    with_reducible rfl
  rotate_left
  · simp only [Act.put, List.setIfInBounds_toArray, List.set_cons_zero, List.set_cons_succ, i64_w, i32_w]
    rfl
  refine take_ (i := 14) (N := some 17) (v := ?_) (a' := ?_) #[true, true, true, true, true, true, false, true, true, false, true, true, false, true, true, false, false, false] rfl rfl (take_ofW HT_.out HW_.out (by kernel_rfl)) (fun _ _ _ h => h) (Or.inl ⟨by rfl, ?_⟩) hHeld ?_ ?_
  rotate_left
  · rintro w' ⟨s0, s1, s2, s3, s4, s5⟩
    go_simp
    with_reducible rfl
  rotate_left
  · simp only [Act.put, List.setIfInBounds_toArray, List.set_cons_zero, List.set_cons_succ, i64_w, i32_w]
    rfl
  refine one_ (i := 6) (N := some 9) #[true, true, true, true, true, true, true, true, true, false, true, true, false, true, true, false, false, false] rfl rfl (one_of HT_.out (by kernel_rfl)) (by decide) (fun K hK => ?_)
  refine goes_ Try.func61 (by kernel_rfl) rfl #[.slice A0_2 l0_2.length c0_2] (by rfl) rfl rfl (by (try simp only [List.map_toArray, List.map_cons, List.map_nil]); first | done | rfl | (simp only [List.length_drop, List.length_take]; rfl)) ?_
  with_reducible refine (cantinglaw07_few.calls _ _ l0_2 t464 _ ?side1 ?side2 A2.out).mono ?_
  (case side1 => repeat (first | exact (Kd.C_below HR0_2.out HB.out) | (with_reducible refine Kd.C_alloc ?_ _) | (with_reducible refine Kd.C_drewN ?_ _) | (with_reducible refine Kd.C_drew ?_)))
  (case side2 => exact HC0_2.out)
  rintro e w9 ⟨v465, rfl, ho0, hb⟩
  refine ⟨_, rfl, ?_⟩
  have n0_ := Aside0.mk (Kd.R_lower ho0 (below_size (by repeat (first | (with_reducible first | exact HB.out | apply below_alloc | apply pw_below_drewN | apply below_drew1 | refine below_set ?_ GE462.out | refine below_set ?_ GE463.out) | exact HB.out))))
  have n1_ := Aside0.mk (blk_below (g := gb462) (o := .cells #[.int .i64 a0_0, .int .i64 a0_1, .slice A0_2 l0_2.length c0_2, .slice A0_3 l0_3.length c0_3, .slice A0_4 l0_4.length c0_4, .slice A0_5 l0_5.length c0_5] 61 (0, 0)) (by (with_reducible repeat (first | refine blk_drewN ?_ _ | refine blk_drew ?_ | refine blk_alloc ?_ _)); exact BK462.out) hb)
  have n2_ := Aside0.mk (blk_below (g := gb463) (o := .cells #[.int .i64 0, .int .i64 0, .slice none 0 0, .slice none 0 0, .slice none 0 0, .slice none 0 0] 63 (0, 0)) (by (with_reducible repeat (first | refine blk_drewN ?_ _ | refine blk_drew ?_ | refine blk_alloc ?_ _)); exact BK463.out) hb)
  have n3_ := Aside0.mk (below_step (by repeat (first | (with_reducible first | exact HB.out | apply below_alloc | apply pw_below_drewN | apply below_drew1 | refine below_set ?_ GE462.out | refine below_set ?_ GE463.out) | exact HB.out)) hb)
  clear BK462
  clear BK463
  clear HB
  have HO466 := n0_
  have BK462 := n1_
  have BK463 := n2_
  have HB := n3_
  clear n0_ n1_ n2_ n3_
  (try clear hb)
  (try clear hb2)
  (try clear hk)
  (try clear hi)
  (try clear ho0)
  refine hK.out _ _ ⟨(blk_cell BK462.out 0).trans rfl, (blk_cell BK462.out 1).trans rfl, (blk_cell BK462.out 2).trans rfl, (blk_cell BK462.out 3).trans rfl, (blk_cell BK462.out 4).trans rfl, (blk_cell BK462.out 5).trans rfl⟩ (fun hHeld => ?_)
  clear hK K
  refine norm_ (a' := ?_) ?_ ?_
  rotate_left
  · show Act.put _ (some 9) _ = _
    simp only [Act.put, List.setIfInBounds_toArray, List.set_cons_zero, List.set_cons_succ, i64_w, i32_w]
    rfl
  refine one_ (i := 9) (N := some 12) #[true, true, true, true, true, true, true, true, true, true, true, true, false, true, true, false, false, false] rfl rfl (one_of HT_.out (by kernel_rfl)) (by decide) (fun K hK => ?_)
  refine goes_ Try.func61 (by kernel_rfl) rfl #[.slice A0_3 l0_3.length c0_3] (by rfl) rfl rfl (by (try simp only [List.map_toArray, List.map_cons, List.map_nil]); first | done | rfl | (simp only [List.length_drop, List.length_take]; rfl)) ?_
  with_reducible refine (cantinglaw07_few.calls _ _ l0_3 t467 _ ?side1 ?side2 A3.out).mono ?_
  (case side1 => repeat (first | exact (Kd.C_below HR0_3.out HB.out) | (with_reducible refine Kd.C_alloc ?_ _) | (with_reducible refine Kd.C_drewN ?_ _) | (with_reducible refine Kd.C_drew ?_)))
  (case side2 => exact HC0_3.out)
  rintro e w10 ⟨v468, rfl, ho0, hb⟩
  refine ⟨_, rfl, ?_⟩
  have n0_ := Aside0.mk (Kd.R_elder' (by (with_reducible repeat (first | apply Kd.R_alloc | apply Kd.R_drewN | apply Kd.R_drew)); exact HO466.out) (Kd.R_base ho0) hb)
  have n1_ := Aside0.mk (Kd.R_lower (Kd.R_new' ho0 (Kd.R_lt (by (with_reducible repeat (first | apply Kd.R_alloc | apply Kd.R_drewN | apply Kd.R_drew)); exact HO466.out))) (below_size (by repeat (first | (with_reducible first | exact HB.out | apply below_alloc | apply pw_below_drewN | apply below_drew1 | refine below_set ?_ GE462.out | refine below_set ?_ GE463.out) | exact HB.out))))
  have n2_ := Aside0.mk (blk_below (g := gb462) (o := .cells #[.int .i64 a0_0, .int .i64 a0_1, .slice A0_2 l0_2.length c0_2, .slice A0_3 l0_3.length c0_3, .slice A0_4 l0_4.length c0_4, .slice A0_5 l0_5.length c0_5] 61 (0, 0)) (by (with_reducible repeat (first | refine blk_drewN ?_ _ | refine blk_drew ?_ | refine blk_alloc ?_ _)); exact BK462.out) hb)
  have n3_ := Aside0.mk (blk_below (g := gb463) (o := .cells #[.int .i64 0, .int .i64 0, .slice none 0 0, .slice none 0 0, .slice none 0 0, .slice none 0 0] 63 (0, 0)) (by (with_reducible repeat (first | refine blk_drewN ?_ _ | refine blk_drew ?_ | refine blk_alloc ?_ _)); exact BK463.out) hb)
  have n4_ := Aside0.mk (below_step (by repeat (first | (with_reducible first | exact HB.out | apply below_alloc | apply pw_below_drewN | apply below_drew1 | refine below_set ?_ GE462.out | refine below_set ?_ GE463.out) | exact HB.out)) hb)
  clear HO466
  clear BK462
  clear BK463
  clear HB
  have HO466 := n0_
  have HO469 := n1_
  have BK462 := n2_
  have BK463 := n3_
  have HB := n4_
  clear n0_ n1_ n2_ n3_ n4_
  (try clear hb)
  (try clear hb2)
  (try clear hk)
  (try clear hi)
  (try clear ho0)
  refine hK.out _ _ ⟨(blk_cell BK462.out 0).trans rfl, (blk_cell BK462.out 1).trans rfl, (blk_cell BK462.out 2).trans rfl, (blk_cell BK462.out 3).trans rfl, (blk_cell BK462.out 4).trans rfl, (blk_cell BK462.out 5).trans rfl⟩ (fun hHeld => ?_)
  clear hK K
  refine norm_ (a' := ?_) ?_ ?_
  rotate_left
  · show Act.put _ (some 12) _ = _
    simp only [Act.put, List.setIfInBounds_toArray, List.set_cons_zero, List.set_cons_succ, i64_w, i32_w]
    rfl
  refine one_ (i := 12) (N := some 15) #[true, true, true, true, true, true, true, true, true, true, true, true, true, true, true, false, false, false] rfl rfl (one_of HT_.out (by kernel_rfl)) (by decide) (fun K hK => ?_)
  refine goes_ Try.func61 (by kernel_rfl) rfl #[.slice A0_4 l0_4.length c0_4] (by rfl) rfl rfl (by (try simp only [List.map_toArray, List.map_cons, List.map_nil]); first | done | rfl | (simp only [List.length_drop, List.length_take]; rfl)) ?_
  with_reducible refine (cantinglaw07_few.calls _ _ l0_4 t470 _ ?side1 ?side2 A4.out).mono ?_
  (case side1 => repeat (first | exact (Kd.C_below HR0_4.out HB.out) | (with_reducible refine Kd.C_alloc ?_ _) | (with_reducible refine Kd.C_drewN ?_ _) | (with_reducible refine Kd.C_drew ?_)))
  (case side2 => exact HC0_4.out)
  rintro e w11 ⟨v471, rfl, ho0, hb⟩
  refine ⟨_, rfl, ?_⟩
  have n0_ := Aside0.mk (Kd.R_elder' (by (with_reducible repeat (first | apply Kd.R_alloc | apply Kd.R_drewN | apply Kd.R_drew)); exact HO466.out) (Kd.R_base ho0) hb)
  have n1_ := Aside0.mk (Kd.R_elder' (by (with_reducible repeat (first | apply Kd.R_alloc | apply Kd.R_drewN | apply Kd.R_drew)); exact HO469.out) (Kd.R_base ho0) hb)
  have n2_ := Aside0.mk (Kd.R_lower (Kd.R_new' (Kd.R_new' ho0 (Kd.R_lt (by (with_reducible repeat (first | apply Kd.R_alloc | apply Kd.R_drewN | apply Kd.R_drew)); exact HO466.out))) (Kd.R_lt (by (with_reducible repeat (first | apply Kd.R_alloc | apply Kd.R_drewN | apply Kd.R_drew)); exact HO469.out))) (below_size (by repeat (first | (with_reducible first | exact HB.out | apply below_alloc | apply pw_below_drewN | apply below_drew1 | refine below_set ?_ GE462.out | refine below_set ?_ GE463.out) | exact HB.out))))
  have n3_ := Aside0.mk (blk_below (g := gb462) (o := .cells #[.int .i64 a0_0, .int .i64 a0_1, .slice A0_2 l0_2.length c0_2, .slice A0_3 l0_3.length c0_3, .slice A0_4 l0_4.length c0_4, .slice A0_5 l0_5.length c0_5] 61 (0, 0)) (by (with_reducible repeat (first | refine blk_drewN ?_ _ | refine blk_drew ?_ | refine blk_alloc ?_ _)); exact BK462.out) hb)
  have n4_ := Aside0.mk (blk_below (g := gb463) (o := .cells #[.int .i64 0, .int .i64 0, .slice none 0 0, .slice none 0 0, .slice none 0 0, .slice none 0 0] 63 (0, 0)) (by (with_reducible repeat (first | refine blk_drewN ?_ _ | refine blk_drew ?_ | refine blk_alloc ?_ _)); exact BK463.out) hb)
  have n5_ := Aside0.mk (below_step (by repeat (first | (with_reducible first | exact HB.out | apply below_alloc | apply pw_below_drewN | apply below_drew1 | refine below_set ?_ GE462.out | refine below_set ?_ GE463.out) | exact HB.out)) hb)
  clear HO466
  clear HO469
  clear BK462
  clear BK463
  clear HB
  have HO466 := n0_
  have HO469 := n1_
  have HO472 := n2_
  have BK462 := n3_
  have BK463 := n4_
  have HB := n5_
  clear n0_ n1_ n2_ n3_ n4_ n5_
  (try clear hb)
  (try clear hb2)
  (try clear hk)
  (try clear hi)
  (try clear ho0)
  refine hK.out _ _ ⟨(blk_cell BK462.out 0).trans rfl, (blk_cell BK462.out 1).trans rfl, (blk_cell BK462.out 2).trans rfl, (blk_cell BK462.out 3).trans rfl, (blk_cell BK462.out 4).trans rfl, (blk_cell BK462.out 5).trans rfl⟩ (fun hHeld => ?_)
  clear hK K
  refine norm_ (a' := ?_) ?_ ?_
  rotate_left
  · show Act.put _ (some 15) _ = _
    simp only [Act.put, List.setIfInBounds_toArray, List.set_cons_zero, List.set_cons_succ, i64_w, i32_w]
    rfl
  refine one_ (i := 15) (N := some 18) #[true, true, true, true, true, true, true, true, true, true, true, true, true, true, true, true, false, false] rfl rfl (one_of HT_.out (by kernel_rfl)) (by decide) (fun K hK => ?_)
  refine goes_ Try.func61 (by kernel_rfl) rfl #[.slice A0_5 l0_5.length c0_5] (by rfl) rfl rfl (by (try simp only [List.map_toArray, List.map_cons, List.map_nil]); first | done | rfl | (simp only [List.length_drop, List.length_take]; rfl)) ?_
  with_reducible refine (cantinglaw07_few.calls _ _ l0_5 t473 _ ?side1 ?side2 A5.out).mono ?_
  (case side1 => repeat (first | exact (Kd.C_below HR0_5.out HB.out) | (with_reducible refine Kd.C_alloc ?_ _) | (with_reducible refine Kd.C_drewN ?_ _) | (with_reducible refine Kd.C_drew ?_)))
  (case side2 => exact HC0_5.out)
  rintro e w12 ⟨v474, rfl, ho0, hb⟩
  refine ⟨_, rfl, ?_⟩
  have n0_ := Aside0.mk (Kd.R_elder' (by (with_reducible repeat (first | apply Kd.R_alloc | apply Kd.R_drewN | apply Kd.R_drew)); exact HO466.out) (Kd.R_base ho0) hb)
  have n1_ := Aside0.mk (Kd.R_elder' (by (with_reducible repeat (first | apply Kd.R_alloc | apply Kd.R_drewN | apply Kd.R_drew)); exact HO469.out) (Kd.R_base ho0) hb)
  have n2_ := Aside0.mk (Kd.R_elder' (by (with_reducible repeat (first | apply Kd.R_alloc | apply Kd.R_drewN | apply Kd.R_drew)); exact HO472.out) (Kd.R_base ho0) hb)
  have n3_ := Aside0.mk (Kd.R_lower (Kd.R_new' (Kd.R_new' (Kd.R_new' ho0 (Kd.R_lt (by (with_reducible repeat (first | apply Kd.R_alloc | apply Kd.R_drewN | apply Kd.R_drew)); exact HO466.out))) (Kd.R_lt (by (with_reducible repeat (first | apply Kd.R_alloc | apply Kd.R_drewN | apply Kd.R_drew)); exact HO469.out))) (Kd.R_lt (by (with_reducible repeat (first | apply Kd.R_alloc | apply Kd.R_drewN | apply Kd.R_drew)); exact HO472.out))) (below_size (by repeat (first | (with_reducible first | exact HB.out | apply below_alloc | apply pw_below_drewN | apply below_drew1 | refine below_set ?_ GE462.out | refine below_set ?_ GE463.out) | exact HB.out))))
  have n4_ := Aside0.mk (blk_below (g := gb462) (o := .cells #[.int .i64 a0_0, .int .i64 a0_1, .slice A0_2 l0_2.length c0_2, .slice A0_3 l0_3.length c0_3, .slice A0_4 l0_4.length c0_4, .slice A0_5 l0_5.length c0_5] 61 (0, 0)) (by (with_reducible repeat (first | refine blk_drewN ?_ _ | refine blk_drew ?_ | refine blk_alloc ?_ _)); exact BK462.out) hb)
  have n5_ := Aside0.mk (blk_below (g := gb463) (o := .cells #[.int .i64 0, .int .i64 0, .slice none 0 0, .slice none 0 0, .slice none 0 0, .slice none 0 0] 63 (0, 0)) (by (with_reducible repeat (first | refine blk_drewN ?_ _ | refine blk_drew ?_ | refine blk_alloc ?_ _)); exact BK463.out) hb)
  have n6_ := Aside0.mk (below_step (by repeat (first | (with_reducible first | exact HB.out | apply below_alloc | apply pw_below_drewN | apply below_drew1 | refine below_set ?_ GE462.out | refine below_set ?_ GE463.out) | exact HB.out)) hb)
  clear HO466
  clear HO469
  clear HO472
  clear BK462
  clear BK463
  clear HB
  have HO466 := n0_
  have HO469 := n1_
  have HO472 := n2_
  have HO475 := n3_
  have BK462 := n4_
  have BK463 := n5_
  have HB := n6_
  clear n0_ n1_ n2_ n3_ n4_ n5_ n6_
  (try clear hb)
  (try clear hb2)
  (try clear hk)
  (try clear hi)
  (try clear ho0)
  obtain ⟨Ao13, co13, eo13⟩ := Kd.R_slice HO475.out
  (first | subst eo13 | (injection eo13 with f1_ f2_ f3_; have f4_ := f1_.symm; have f5_ := f3_.symm; clear f1_ f2_ f3_; subst f4_; subst f5_))
  obtain ⟨Ao14, co14, eo14⟩ := Kd.R_slice HO472.out
  (first | subst eo14 | (injection eo14 with f1_ f2_ f3_; have f4_ := f1_.symm; have f5_ := f3_.symm; clear f1_ f2_ f3_; subst f4_; subst f5_))
  obtain ⟨Ao15, co15, eo15⟩ := Kd.R_slice HO469.out
  (first | subst eo15 | (injection eo15 with f1_ f2_ f3_; have f4_ := f1_.symm; have f5_ := f3_.symm; clear f1_ f2_ f3_; subst f4_; subst f5_))
  obtain ⟨Ao16, co16, eo16⟩ := Kd.R_slice HO466.out
  (first | subst eo16 | (injection eo16 with f1_ f2_ f3_; have f4_ := f1_.symm; have f5_ := f3_.symm; clear f1_ f2_ f3_; subst f4_; subst f5_))
  refine hK.out _ _ ⟨(blk_cell BK462.out 0).trans rfl, (blk_cell BK462.out 1).trans rfl, (blk_cell BK462.out 2).trans rfl, (blk_cell BK462.out 3).trans rfl, (blk_cell BK462.out 4).trans rfl, (blk_cell BK462.out 5).trans rfl⟩ (fun hHeld => ?_)
  clear hK K
  refine norm_ (a' := ?_) ?_ ?_
  rotate_left
  · show Act.put _ (some 18) _ = _
    simp only [Act.put, List.setIfInBounds_toArray, List.set_cons_zero, List.set_cons_succ, i64_w, i32_w]
    rfl
  refine pure_ (i := 16) (N := some 19) (v := ?_) (a' := ?_) #[true, true, true, true, true, true, true, true, true, true, true, true, true, true, true, true, true, false] rfl rfl (any_of HT_.out (by kernel_rfl)) (fun _ _ _ h => h) (Or.inl ⟨by rfl, ?_⟩) ?_ ?_
  rotate_left
  · intro w'
    go_simp
    with_reducible rfl
  rotate_left
  · simp only [Act.put, List.setIfInBounds_toArray, List.set_cons_zero, List.set_cons_succ, i64_w, i32_w]
    rfl
  refine one_ (i := 17) (N := none) #[true, true, true, true, true, true, true, true, true, true, true, true, true, true, true, true, true, true] rfl rfl (one_of HT_.out (by kernel_rfl)) (by decide) (fun K hK => ?_)
  have hs17 : w12.cell? ⟨gb463, 0, none⟩ = some (.int .i64 0) := (blk_cell BK463.out 0).trans rfl
  have hfs17 := blk_frozen BK463.out 0
  have hns17_0 := NB462_463.out
  have hms17_0 := NB463_462.out
  have hs18 : w12.cell? ⟨gb463, 1, none⟩ = some (.int .i64 0) := (blk_cell BK463.out 1).trans rfl
  have hfs18 := blk_frozen BK463.out 1
  have hns18_0 := NB462_463.out
  have hms18_0 := NB463_462.out
  have hs19 : w12.cell? ⟨gb463, 2, none⟩ = some (.slice none 0 0) := (blk_cell BK463.out 2).trans rfl
  have hfs19 := blk_frozen BK463.out 2
  have hns19_0 := NB462_463.out
  have hms19_0 := NB463_462.out
  have hs20 : w12.cell? ⟨gb463, 3, none⟩ = some (.slice none 0 0) := (blk_cell BK463.out 3).trans rfl
  have hfs20 := blk_frozen BK463.out 3
  have hns20_0 := NB462_463.out
  have hms20_0 := NB463_462.out
  have hs21 : w12.cell? ⟨gb463, 4, none⟩ = some (.slice none 0 0) := (blk_cell BK463.out 4).trans rfl
  have hfs21 := blk_frozen BK463.out 4
  have hns21_0 := NB462_463.out
  have hms21_0 := NB463_462.out
  have hs22 : w12.cell? ⟨gb463, 5, none⟩ = some (.slice none 0 0) := (blk_cell BK463.out 5).trans rfl
  have hfs22 := blk_frozen BK463.out 5
  have hns22_0 := NB462_463.out
  have hms22_0 := NB463_462.out
  refine skip_ (w1 := ?_) (by rfl) rfl ?_ ?_
  rotate_left
  · go_simp
    rfl
  refine hK.out _ _ ⟨((cell_far (p := ⟨gb463, _, none⟩) NB462_463.out _).trans (((cell_far (p := ⟨gb463, _, none⟩) NB462_463.out _).trans (((cell_far (p := ⟨gb463, _, none⟩) NB462_463.out _).trans (((cell_far (p := ⟨gb463, _, none⟩) NB462_463.out _).trans (((cell_far (p := ⟨gb463, _, none⟩) NB462_463.out _).trans (((cell_far (p := ⟨gb463, _, none⟩) NB462_463.out _).trans (hHeld.1)))))))))))), ((cell_far (p := ⟨gb463, _, none⟩) NB462_463.out _).trans (((cell_far (p := ⟨gb463, _, none⟩) NB462_463.out _).trans (((cell_far (p := ⟨gb463, _, none⟩) NB462_463.out _).trans (((cell_far (p := ⟨gb463, _, none⟩) NB462_463.out _).trans (((cell_far (p := ⟨gb463, _, none⟩) NB462_463.out _).trans (((cell_far (p := ⟨gb463, _, none⟩) NB462_463.out _).trans (hHeld.2.1)))))))))))), ((cell_far (p := ⟨gb463, _, none⟩) NB462_463.out _).trans (((cell_far (p := ⟨gb463, _, none⟩) NB462_463.out _).trans (((cell_far (p := ⟨gb463, _, none⟩) NB462_463.out _).trans (((cell_far (p := ⟨gb463, _, none⟩) NB462_463.out _).trans (((cell_far (p := ⟨gb463, _, none⟩) NB462_463.out _).trans (((cell_far (p := ⟨gb463, _, none⟩) NB462_463.out _).trans (hHeld.2.2.1)))))))))))), ((cell_far (p := ⟨gb463, _, none⟩) NB462_463.out _).trans (((cell_far (p := ⟨gb463, _, none⟩) NB462_463.out _).trans (((cell_far (p := ⟨gb463, _, none⟩) NB462_463.out _).trans (((cell_far (p := ⟨gb463, _, none⟩) NB462_463.out _).trans (((cell_far (p := ⟨gb463, _, none⟩) NB462_463.out _).trans (((cell_far (p := ⟨gb463, _, none⟩) NB462_463.out _).trans (hHeld.2.2.2.1)))))))))))), ((cell_far (p := ⟨gb463, _, none⟩) NB462_463.out _).trans (((cell_far (p := ⟨gb463, _, none⟩) NB462_463.out _).trans (((cell_far (p := ⟨gb463, _, none⟩) NB462_463.out _).trans (((cell_far (p := ⟨gb463, _, none⟩) NB462_463.out _).trans (((cell_far (p := ⟨gb463, _, none⟩) NB462_463.out _).trans (((cell_far (p := ⟨gb463, _, none⟩) NB462_463.out _).trans (hHeld.2.2.2.2.1)))))))))))), ((cell_far (p := ⟨gb463, _, none⟩) NB462_463.out _).trans (((cell_far (p := ⟨gb463, _, none⟩) NB462_463.out _).trans (((cell_far (p := ⟨gb463, _, none⟩) NB462_463.out _).trans (((cell_far (p := ⟨gb463, _, none⟩) NB462_463.out _).trans (((cell_far (p := ⟨gb463, _, none⟩) NB462_463.out _).trans (((cell_far (p := ⟨gb463, _, none⟩) NB462_463.out _).trans (hHeld.2.2.2.2.2))))))))))))⟩ (fun hHeld => ?_)
  clear hK K
  refine done_ (done_of HT_.out (by kernel_rfl)) ?_
  try go_wp2
  refine bodyPost_ret (results_cell_row rfl _ _ gb463 63 #[.int .i64 a0_0, .int .i64 a0_1, .slice Ao16 t464.length co16, .slice Ao15 t467.length co15, .slice Ao14 t470.length co14, .slice Ao13 t473.length co13] (0, 0) _ rfl (by (with_reducible repeat (first | refine blk_drewN ?_ _ | refine blk_drew ?_ | refine blk_alloc ?_ _)); refine blk_put (cs := #[.int .i64 a0_0, .int .i64 a0_1, .slice Ao16 t464.length co16, .slice Ao15 t467.length co15, .slice Ao14 t470.length co14, .slice none 0 0]) ?_ 5 _ rfl; (with_reducible repeat (first | refine blk_drewN ?_ _ | refine blk_drew ?_ | refine blk_alloc ?_ _)); refine blk_put (cs := #[.int .i64 a0_0, .int .i64 a0_1, .slice Ao16 t464.length co16, .slice Ao15 t467.length co15, .slice none 0 0, .slice none 0 0]) ?_ 4 _ rfl; (with_reducible repeat (first | refine blk_drewN ?_ _ | refine blk_drew ?_ | refine blk_alloc ?_ _)); refine blk_put (cs := #[.int .i64 a0_0, .int .i64 a0_1, .slice Ao16 t464.length co16, .slice none 0 0, .slice none 0 0, .slice none 0 0]) ?_ 3 _ rfl; (with_reducible repeat (first | refine blk_drewN ?_ _ | refine blk_drew ?_ | refine blk_alloc ?_ _)); refine blk_put (cs := #[.int .i64 a0_0, .int .i64 a0_1, .slice none 0 0, .slice none 0 0, .slice none 0 0, .slice none 0 0]) ?_ 2 _ rfl; (with_reducible repeat (first | refine blk_drewN ?_ _ | refine blk_drew ?_ | refine blk_alloc ?_ _)); refine blk_put (cs := #[.int .i64 a0_0, .int .i64 0, .slice none 0 0, .slice none 0 0, .slice none 0 0, .slice none 0 0]) ?_ 1 _ rfl; (with_reducible repeat (first | refine blk_drewN ?_ _ | refine blk_drew ?_ | refine blk_alloc ?_ _)); refine blk_put (cs := #[.int .i64 0, .int .i64 0, .slice none 0 0, .slice none 0 0, .slice none 0 0, .slice none 0 0]) ?_ 0 _ rfl; (with_reducible repeat (first | refine blk_drewN ?_ _ | refine blk_drew ?_ | refine blk_alloc ?_ _)); exact BK463.out) Try.underlying63 rfl (by kernel_rfl)) rfl ?_
  exact ⟨_, _, _, _, by first | rfl | (simp [errW_none, errW_some] <;> rfl) | (simp [*, errW_none, errW_some] <;> rfl), by (with_reducible repeat (first | apply Kd.R_alloc | apply Kd.R_drewN | apply Kd.R_drew)); exact Kd.R_mono (Kd.R_far (p := ⟨gb463, 5, none⟩) (Kd.R_far (p := ⟨gb463, 4, none⟩) (Kd.R_far (p := ⟨gb463, 3, none⟩) (Kd.R_far (p := ⟨gb463, 2, none⟩) (Kd.R_far (p := ⟨gb463, 1, none⟩) (Kd.R_far (p := ⟨gb463, 0, none⟩) (Kd.R_types HO466.out BK463.out (by decide)) (fun _ hk => hk.2) (.int .i64 a0_0)) (fun _ hk => hk.2) (.int .i64 a0_1)) (fun _ hk => hk.2) (.slice Ao16 t464.length co16)) (fun _ hk => hk.2) (.slice Ao15 t467.length co15)) (fun _ hk => hk.2) (.slice Ao14 t470.length co14)) (fun _ hk => hk.2) (.slice Ao13 t473.length co13)) (fun _ hk => ⟨hk.1.1.1.2, ⟨hk.1.1.2, hk.1.2⟩⟩), by (with_reducible repeat (first | apply Kd.R_alloc | apply Kd.R_drewN | apply Kd.R_drew)); exact Kd.R_mono (Kd.R_far (p := ⟨gb463, 5, none⟩) (Kd.R_far (p := ⟨gb463, 4, none⟩) (Kd.R_far (p := ⟨gb463, 3, none⟩) (Kd.R_far (p := ⟨gb463, 2, none⟩) (Kd.R_far (p := ⟨gb463, 1, none⟩) (Kd.R_far (p := ⟨gb463, 0, none⟩) (Kd.R_types HO469.out BK463.out (by decide)) (fun _ hk => hk.2) (.int .i64 a0_0)) (fun _ hk => hk.2) (.int .i64 a0_1)) (fun _ hk => hk.2) (.slice Ao16 t464.length co16)) (fun _ hk => hk.2) (.slice Ao15 t467.length co15)) (fun _ hk => hk.2) (.slice Ao14 t470.length co14)) (fun _ hk => hk.2) (.slice Ao13 t473.length co13)) (fun _ hk => ⟨hk.1.1.1.2, ⟨hk.1.1.2, hk.1.2⟩⟩), by (with_reducible repeat (first | apply Kd.R_alloc | apply Kd.R_drewN | apply Kd.R_drew)); exact Kd.R_mono (Kd.R_far (p := ⟨gb463, 5, none⟩) (Kd.R_far (p := ⟨gb463, 4, none⟩) (Kd.R_far (p := ⟨gb463, 3, none⟩) (Kd.R_far (p := ⟨gb463, 2, none⟩) (Kd.R_far (p := ⟨gb463, 1, none⟩) (Kd.R_far (p := ⟨gb463, 0, none⟩) (Kd.R_types HO472.out BK463.out (by decide)) (fun _ hk => hk.2) (.int .i64 a0_0)) (fun _ hk => hk.2) (.int .i64 a0_1)) (fun _ hk => hk.2) (.slice Ao16 t464.length co16)) (fun _ hk => hk.2) (.slice Ao15 t467.length co15)) (fun _ hk => hk.2) (.slice Ao14 t470.length co14)) (fun _ hk => hk.2) (.slice Ao13 t473.length co13)) (fun _ hk => ⟨hk.1.1.1.2, ⟨hk.1.1.2, hk.1.2⟩⟩), by (with_reducible repeat (first | apply Kd.R_alloc | apply Kd.R_drewN | apply Kd.R_drew)); exact Kd.R_mono (Kd.R_far (p := ⟨gb463, 5, none⟩) (Kd.R_far (p := ⟨gb463, 4, none⟩) (Kd.R_far (p := ⟨gb463, 3, none⟩) (Kd.R_far (p := ⟨gb463, 2, none⟩) (Kd.R_far (p := ⟨gb463, 1, none⟩) (Kd.R_far (p := ⟨gb463, 0, none⟩) (Kd.R_types HO475.out BK463.out (by decide)) (fun _ hk => hk.2) (.int .i64 a0_0)) (fun _ hk => hk.2) (.int .i64 a0_1)) (fun _ hk => hk.2) (.slice Ao16 t464.length co16)) (fun _ hk => hk.2) (.slice Ao15 t467.length co15)) (fun _ hk => hk.2) (.slice Ao14 t470.length co14)) (fun _ hk => hk.2) (.slice Ao13 t473.length co13)) (fun _ hk => ⟨hk.1.1.1.2, ⟨hk.1.1.2, hk.1.2⟩⟩), by repeat (first | (with_reducible first | exact HB.out | apply below_alloc | apply pw_below_drewN | apply below_drew1 | refine below_set ?_ GE462.out | refine below_set ?_ GE463.out) | exact HB.out)⟩
end Go.Proofs.Ytbamanjedfccpaa.X
end
