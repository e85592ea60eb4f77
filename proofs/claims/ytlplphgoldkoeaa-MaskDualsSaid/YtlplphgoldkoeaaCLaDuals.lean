/- The law MaskDuals holds of the program, for every input that its statement lets in. -/
import Derived.Test.YtlplphgoldkoeaaBn
import Derived.ChangeArms
import Derived.Test.YtlplphgoldkoeaaBc
import Derived.Test.YtlplphgoldkoeaaBzf
import Derived.Test.YtlplphgoldkoeaaBi
import Derived.Test.YtlplphgoldkoeaaBj
import Derived.Deep.DeepMust
import Derived.Test.YtlplphgoldkoeaaRows
import Derived.WalkKit
import Derived.ProofKit
import Derived.OpenShut
import Derived.ShutString
import Derived.ChangeOld
import Derived.Below
import Derived.SizedLaws
import Derived.Test.YtlplphgoldkoeaaBb
section
set_option linter.unusedVariables false
set_option linter.unusedSimpArgs false
namespace Go.Proofs.Ytlplphgoldkoeaa.HTab
open Go.ChangeShapes Go.WideShapes Go.ChangeAt Go.RowKit Go.Deep Go.Joins Go.Proofs.YtlplphgoldkoeaaW.PrintWords Go.Proofs.Ytlplphgoldkoeaa.X
set_option linter.unusedVariables false
set_option maxRecDepth 100000 in
theorem open_row1 {β : Type} (enc1 : β → Value) (h1 : ∀ x, (enc1 x).oneCell' = true) (dec : Option Value → β) (hdec : ∀ b, dec (some (enc1 b)) = b) (Q : β → Prop) {H : Type} {enc : TypeId × Value → H} {W : World} {r : Reach} {b0 base : Nat} {sp : Nat → Bool} {held : Bool} {v : Value} {d : DataW H} {ps : List MemPlace} {ts : List TypeId} {ds : List (DataW H)} {j : Nat} {t e : TypeId} {B : Nat}
    (hu : Try.prog.underlying t = some (.slice e)) (hone : Try.prog.cellsOf e = 1) (hB : Try.prog.bytesOf e = B) (hel : ∀ n cs x, DataW.trod enc Try.prog W base sp held n e cs = some x → ∃ b, cs = [enc1 b] ∧ Q b)
    (hval : Value.okWide Try.prog W r b0 t v) (hd : DataW.Trod enc Try.prog W base sp held t v d ps)
    (hsz : (DataW.weightsEach Try.prog ts ds).all (· ≤ reachBytes) = true) (htj : ts[j]? = some t) (hdj : ds[j]? = some d) :
    ∃ (A : Option Addr) (c : Nat) (l : List β), v = .slice A l.length c ∧ Kd.C (Kd.scalar enc1 h1) W A l.length l ∧ l.length ≤ c ∧ l.length * B ≤ 140737488351232 ∧ ∀ b ∈ l, Q b := by
  obtain ⟨a0, len0, cap0, rfl⟩ := okWide_slice hu hval
  obtain ⟨fuel, hf⟩ := hd
  rcases open_slice hu hf with ⟨hc, hx⟩ | ⟨a, len, cap, m, n, D, Pl, hcs, hb, hl, hm, hmm, hx, hi⟩
  · simp [Value.cells] at hc
    obtain ⟨rfl, rfl, rfl⟩ := hc
    exact ⟨none, 0, [], rfl, Kd.C_nil _ _, Nat.le_refl _, by simp, by simp⟩
  · simp [Value.cells] at hcs
    obtain ⟨rfl, rfl, rfl⟩ := hcs
    obtain ⟨l, hll⟩ : ∃ l : List β, l = (List.range len0).map fun i => dec (W.cell? (a.add i)) := ⟨_, rfl⟩
    have hlen : l.length = len0 := by rw [hll]; simp
    have hlm : len0 ≤ m := by rw [hmm]; split <;> omega
    have hcell : ∀ i, i < len0 → ∃ b, W.cell? (a.add i) = some (enc1 b) ∧ Q b := fun i hil => by
      obtain ⟨cs', h2, h3⟩ := hi i (by omega)
      rw [hone, Nat.mul_one] at h2
      obtain ⟨b, rfl, hq⟩ := hel _ _ _ h3
      obtain ⟨_, hcl, hat⟩ := World.cells?_some h2
      have := hat 0 (by omega)
      refine ⟨b, ?_, hq⟩
      have h4 : (a.add i).add 0 = a.add i := by unfold Addr.add; split <;> simp_all
      rw [h4] at this
      simpa using this
    have hsize : len0 * B ≤ reachBytes := by
      have hd2 : d = .slice ((List.range len0).map D) ((List.range (m - len0)).map fun j => D (len0 + j)) := by
        have := congrArg (·.1) hx
        simpa using this
      rw [hd2] at hdj
      have := sized_slice hsz htj hdj hu
      rw [hB] at this
      refine Nat.le_trans (Nat.mul_le_mul_right _ ?_) this
      simp
    have hr : reachBytes = 140737488351232 := rfl
    refine ⟨some a, cap0, l, by rw [hlen], ?_, by omega, by rw [hlen]; omega, fun b hb => ?_⟩
    · unfold maxLen at hm
      refine ⟨rfl, by omega, fun hp => ⟨a, rfl, fun i p hp2 => ?_⟩⟩
      have hil : i < len0 := by
        have := (List.getElem?_eq_some_iff.1 hp2).1
        omega
      obtain ⟨b, hc1, _⟩ := hcell i hil
      have hpe : p = b := by
        rw [hll, List.getElem?_map, List.getElem?_range hil] at hp2
        have : dec (W.cell? (a.add i)) = p := by simpa using hp2
        rw [← this, hc1, hdec]
      subst hpe
      refine ⟨[enc1 p], rfl, rfl, fun q u hq => ?_⟩
      match q, hq with
      | 0, hq =>
        simp only [List.getElem?_cons_zero, Option.some.injEq] at hq
        rw [← hq, show (Kd.scalar enc1 h1).sz = 1 from rfl, Nat.mul_one, Nat.add_zero]
        exact hc1
      | q + 1, hq => simp at hq
    · rw [hll] at hb
      obtain ⟨i, hi1, rfl⟩ := List.mem_map.1 hb
      obtain ⟨b, hc1, hq⟩ := hcell i (List.mem_range.1 hi1)
      rw [hc1, hdec]
      exact hq
section
variable {H : Type} {enc : TypeId × Value → H} {W : World} {r : Reach} {b0 base : Nat} {sp : Nat → Bool} {held : Bool} {v : Value} {d : DataW H} {ps : List MemPlace} {ts : List TypeId} {ds : List (DataW H)} {j : Nat}
set_option maxRecDepth 100000 in
theorem open_ints_ (hval : Value.okWide Try.prog W r b0 82 v) (hd : DataW.Trod enc Try.prog W base sp held 82 v d ps) (hsz : (DataW.weightsEach Try.prog ts ds).all (· ≤ reachBytes) = true) (htj : ts[j]? = some 82) (hdj : ds[j]? = some d) :
    ∃ (A : Option Addr) (c : Nat) (l : List Int), v = .slice A l.length c ∧ Kd.C (Kd.int .i64) W A l.length l ∧ l.length ≤ c ∧ l.length * 8 ≤ 140737488351232 ∧ ∀ n ∈ l, (Lit.int .i64 n).wf = true :=
  open_row1 (Value.int .i64) (fun _ => rfl) intAt (fun _ => rfl) (fun n => (Lit.int .i64 n).wf = true) Try.underlying82 (by kernel_rfl) (B := 8) (by kernel_rfl) (fun n cs x h => by
    obtain ⟨b, e, _, w⟩ := DataW.trod_int Try.underlying3 h
    exact ⟨b, e, w⟩) hval hd hsz htj hdj
end
end Go.Proofs.Ytlplphgoldkoeaa.HTab
end

section
set_option linter.unusedVariables false
set_option linter.unusedSimpArgs false
namespace Go.Proofs.Ytlplphgoldkoeaa.X
open Go.RowKit Go.Proofs.YtlplphgoldkoeaaW.PrintWords Go.Proofs.YtlplphgoldkoeaaW.PrintLast Go.Proofs.YtlplphgoldkoeaaW.PrintMore
attribute [local go_sem] max2_int min2_int max_two min_two max_three min_three max_four min_four   -- for this text's walks alone
set_option linter.unusedVariables false
set_option linter.unusedSimpArgs false
def slices_Reverse_int_int.l0 : Nat → List Int → Int → Int → Option (List Int)
  | 0, _, _, _ => none
  | k + 1, x0, x2, x3 => if x2 < x3 then (if 0 ≤ x3 then (if x3 < (x0.length : Int) then (if 0 ≤ x2 then (if x2 < (x0.length : Int) then (slices_Reverse_int_int.l0 k ((x0.set (x2 : Int).toNat (rd x0 x3)).set (x3 : Int).toNat (rd x0 x2)) (wrap64 (x2 + 1)) (wrap64 (x3 - 1))) else (none)) else (none)) else (none)) else (none)) else (some x0)
def slices_Reverse_int_int.f (k : Nat) (l0 : List Int) : Option (List Int) := slices_Reverse_int_int.l0 k l0 0 (wrap64 ((l0.length : Int) - 1))
theorem slices_Reverse_int_int.mono_l : ∀ k, (∀ y0 y1 y2, LeO (slices_Reverse_int_int.l0 k y0 y1 y2) (slices_Reverse_int_int.l0 (k + 1) y0 y1 y2))
  | 0 => fun _ _ _ r h => by simp [slices_Reverse_int_int.l0] at h
  | k + 1 => by
    have ih0 := slices_Reverse_int_int.mono_l k
    · intro y0 y1 y2
      unfold slices_Reverse_int_int.l0
      repeat' first
      | (with_reducible exact ih0 _ _ _)
      | (with_reducible exact LeO.refl _)
      | (with_reducible exact LeO.none _)
      | (with_reducible refine LeO.ite ?_ ?_)
      | (with_reducible refine LeO.bind ?_ (fun _ => ?_))
      | exact ih0 _ _ _
      | exact LeO.none _
      | refine LeO.ite ?_ ?_
      | refine LeO.bind ?_ (fun _ => ?_)
theorem slices_Reverse_int_int.mono : ∀ a0 k, LeO (slices_Reverse_int_int.f k a0) (slices_Reverse_int_int.f (k + 1) a0) := by
  intro a0 k
  have ih0 := slices_Reverse_int_int.mono_l k
  unfold slices_Reverse_int_int.f
  repeat' first
      | (with_reducible exact ih0 _ _ _)
      | (with_reducible exact LeO.refl _)
      | (with_reducible exact LeO.none _)
      | (with_reducible refine LeO.ite ?_ ?_)
      | (with_reducible refine LeO.bind ?_ (fun _ => ?_))
      | exact ih0 _ _ _
      | exact LeO.none _
      | refine LeO.ite ?_ ?_
      | refine LeO.bind ?_ (fun _ => ?_)
def slices_Reverse_int_int.T3 : Bool × List (List Nat × List Nat) := (true, [([], []), ([], []), ([], []), ([], []), ([], []), ([], []), ([4, 5], [4, 5]), ([6], [6]), ([], []), ([], []), ([8, 9], [8, 9]), ([10], [10]), ([0, 1, 0, 1, 4, 5, 6, 7, 11], [0, 1]), ([12, 7, 0, 1, 4, 5, 6, 7, 11], [7, 12]), ([2, 3, 0, 1, 2, 3, 4, 5, 6, 7, 8, 9, 10, 11, 12, 13], [2, 3]), ([14, 11, 13, 0, 1, 2, 3, 4, 5, 6, 7, 8, 9, 10, 11, 12, 13], [11, 14])])
def slices_Reverse_int_int.B3 : List Nat := [0, 0, 0, 0, 0, 0, 48, 112, 0, 0, 768, 1792, 4083, 8179, 16383, 32767]
theorem slices_Reverse_int_int.tab3 : rtab .any (opsOf Try.f77 3) = slices_Reverse_int_int.T3 := by kernel_rfl
theorem slices_Reverse_int_int.bits3 : waitsOk slices_Reverse_int_int.T3.2 slices_Reverse_int_int.B3 = true := by kernel_rfl
set_option maxHeartbeats 8000000 in
set_option maxRecDepth 100000 in
theorem slices_Reverse_int_int.calls (k : Nat) (P0_ : Nat → Prop) (u9000_ : Value) (l0 : List Int) (r : List Int) (w0 w : World) (hB : Below w0.heap.size w0 w) (ho0 : Kd.R (Kd.int .i64) 3 w w0.heap.size P0_ u9000_ l0) (h : slices_Reverse_int_int.f k l0 = some r) :
    Calls Try.prog 77 #[u9000_] w fun e w' => e = .returned (.tuple #[]) ∧ Kd.R (Kd.int .i64) 3 w' w0.heap.size (fun k_ => (P0_ k_ ∨ w.heap.size ≤ k_)) u9000_ r ∧ Below w0.heap.size w0 w' ∧ Kept w w' (fun k_ => P0_ k_) := by
  have HO0 := Aside0.mk (show Kd.R (Kd.int .i64) 3 w w0.heap.size (fun k_ => (P0_ k_ ∨ w.heap.size ≤ k_)) u9000_ l0 from Kd.R_mono ho0 (fun k_ hk => (.inl hk)))
  have HK := Aside0.mk (Kept.refl w (fun k_ => P0_ k_))
  have HW0 := Aside0.mk hB.size
  have HB := Aside0.mk hB
  clear hB
  have H : (slices_Reverse_int_int.l0 k l0 0 (wrap64 ((l0.length : Int) - 1))) = some r := h
  clear h
  have H' := Aside0.mk H
  clear H
  obtain ⟨Ao2, co2, eo2⟩ := Kd.R_slice HO0.out
  subst eo2
  go_enter Try.func77, Try.ntmps77
  go_wp2
  go_loopg [2, 3] k (fun kq v2 v3 w' => ∃ (x0_1 : List Int) (x2_1 : Int) (x3_1 : Int), v2 = .int .i64 x2_1 ∧ v3 = .int .i64 x3_1 ∧ Aside0 (slices_Reverse_int_int.l0 kq x0_1 x2_1 x3_1 = some r) ∧ Aside0 (kq ≤ k) ∧ Aside0 (Kd.R (Kd.int .i64) 3 w' w0.heap.size (fun k_ => (P0_ k_ ∨ w.heap.size ≤ k_)) (.slice Ao2 l0.length co2) x0_1) ∧ Aside0 (Kept w w' (fun k_ => P0_ k_)) ∧ Aside0 (Below w0.heap.size w0 w'))
  case atStart => exact ⟨(l0), (0), (wrap64 ((l0.length : Int) - 1)), (by first | rfl | (simp; done) | (simp [*]; done)), (by first | rfl | (simp; done) | (simp [*]; done)), H', ⟨Nat.le_refl _⟩, ⟨by (with_reducible repeat (first | apply Kd.R_alloc | apply Kd.R_drewN | apply Kd.R_drew)); exact HO0.out⟩, ⟨by repeat (first | (with_reducible first | exact HK.out | apply Kept.alloc | apply Kept.drewN | apply Kept.drew) | exact HK.out)⟩, ⟨by repeat (first | (with_reducible first | exact HB.out | apply below_alloc | apply pw_below_drewN | apply below_drew1) | exact HB.out)⟩⟩
  case round =>
    clear H'
    try clear p2
    obtain ⟨x0_1, x2_1, x3_1, rfl, rfl, HA, HK1, HO_0, HK, HB⟩ := hrel
    have hl0_1 := (Kd.R_reads' HO_0.out).1
    rw [hl0_1] at HO_0
    (try simp only [hl0_1])
    cases gk with
    | zero => exact absurd HA.out (by simp [slices_Reverse_int_int.l0])
    | succ k1 =>
      have H := HA.out
      clear HA
      simp only [slices_Reverse_int_int.l0] at H
      by_cases c3 : x2_1 < x3_1
      · rw [if_pos c3] at H
        have c3b0 : decide (x2_1 < x3_1) = true := decide_eq_true c3
        (try (have c3b0_0 := c3b0; rw [hl0_1] at c3b0_0))
        clear c3
        by_cases c4 : 0 ≤ x3_1
        · rw [if_pos c4] at H
          have c4b0 : decide (0 ≤ x3_1) = true := decide_eq_true c4
          (try (have c4b0_0 := c4b0; rw [hl0_1] at c4b0_0))
          clear c4
          by_cases c5 : x3_1 < (x0_1.length : Int)
          · rw [if_pos c5] at H
            have c5b0 : decide (x3_1 < (x0_1.length : Int)) = true := decide_eq_true c5
            (try (have c5b0_0 := c5b0; rw [hl0_1] at c5b0_0))
            clear c5
            by_cases c6 : 0 ≤ x2_1
            · rw [if_pos c6] at H
              have c6b0 : decide (0 ≤ x2_1) = true := decide_eq_true c6
              (try (have c6b0_0 := c6b0; rw [hl0_1] at c6b0_0))
              clear c6
              by_cases c7 : x2_1 < (x0_1.length : Int)
              · rw [if_pos c7] at H
                have c7b0 : decide (x2_1 < (x0_1.length : Int)) = true := decide_eq_true c7
                (try (have c7b0_0 := c7b0; rw [hl0_1] at c7b0_0))
                clear c7
                obtain ⟨y1277, hy1277⟩ : ∃ y_ : List Int, y_ = (x0_1.set (x2_1 : Int).toNat (rd x0_1 x3_1)) := ⟨_, rfl⟩
                replace H : (slices_Reverse_int_int.l0 k1 (y1277.set (x3_1 : Int).toNat (rd x0_1 x2_1)) (wrap64 (x2_1 + 1)) (wrap64 (x3_1 - 1))) = some r := by first | (rw [hy1277]; with_reducible exact H) | (have H2_ := (Option.bind_some _ _).symm.trans H; rw [hy1277]; with_reducible exact H2_) | (have H2_ := (Option.bind_some _ _).symm.trans H; with_reducible exact H2_) | with_reducible exact H | (rw [hy1277]; exact H) | exact H
                have Ny1277 := Aside0.mk hy1277
                clear hy1277
                obtain ⟨y1278, hy1278⟩ : ∃ y_ : List Int, y_ = (y1277.set (x3_1 : Int).toNat (rd x0_1 x2_1)) := ⟨_, rfl⟩
                replace H : (slices_Reverse_int_int.l0 k1 y1278 (wrap64 (x2_1 + 1)) (wrap64 (x3_1 - 1))) = some r := by first | (rw [hy1278]; with_reducible exact H) | (have H2_ := (Option.bind_some _ _).symm.trans H; rw [hy1278]; with_reducible exact H2_) | (have H2_ := (Option.bind_some _ _).symm.trans H; with_reducible exact H2_) | with_reducible exact H | (rw [hy1278]; exact H) | exact H
                have Ny1278 := Aside0.mk hy1278
                clear hy1278
                have H' := Aside0.mk H
                clear H
                try go_wp2
                have n0_ := Aside0.mk (Kd.R_drew HO_0.out)
                have n1_ := Aside0.mk (Kept.drew HK.out)
                have n2_ := Aside0.mk (below_drew1 HB.out)
                clear HO_0
                clear HK
                clear HB
                have HO_0 := n0_
                have HK := n1_
                have HB := n2_
                clear n0_ n1_ n2_
                have p1275 : 0 ≤ (x3_1 : Int) := of_decide_eq_true (by first | (with_reducible assumption) | assumption)
                have q1275 : x3_1 < (x0_1.length : Int) := of_decide_eq_true (by first | (with_reducible assumption) | assumption)
                obtain ⟨ad1275, e1275, hx1275_0⟩ := Kd.at_int (Kd.R_reads' HO_0.out).2.2 x3_1 p1275 q1275
                cases e1275
                replace p1275 := eq_true p1275
                replace q1275 := eq_true q1275
                have p1276 : 0 ≤ (x2_1 : Int) := of_decide_eq_true (by first | (with_reducible assumption) | assumption)
                have q1276 : x2_1 < (x0_1.length : Int) := of_decide_eq_true (by first | (with_reducible assumption) | assumption)
                obtain ⟨ad1276, e1276, hx1276_0⟩ := Kd.at_int (Kd.R_reads' HO_0.out).2.2 x2_1 p1276 q1276
                obtain rfl : ad1275 = ad1276 := (by injection e1276)
                replace p1276 := eq_true p1276
                replace q1276 := eq_true q1276
                have p8 : 0 ≤ (x2_1 : Int) := of_decide_eq_true (by first | (with_reducible assumption) | assumption)
                have q8 : (x2_1 : Int) < ((x0_1.length : Int) : Int) := of_decide_eq_true (by first | (with_reducible assumption) | assumption)
                obtain ⟨go8, co8, eo8, gb8, gl8, cl8, HG8⟩ := Kd.R_form HO_0.out (by omega)
                (first | cases eo8 | (injection eo8 with ea_ en_ ec_; (first | subst ea_ | (injection ea_ with ea_; subst ea_)); subst ec_; clear en_))
                have GB8 := Aside0.mk gb8
                have GG8 := Aside0.mk HG8
                clear gb8 gl8 HG8
                have HMgo8 := Aside0.mk (show (P0_ go8 ∨ w.heap.size ≤ go8) from (HO_0.out.1 _ rfl))
                (first | simp only [add_plain] at hx1275_0 | skip)
                (first | simp only [add_plain] at hx1276_0 | skip)
                obtain ⟨hx8_0, hf8_0⟩ := Kd.R_celln 0 HO_0.out (x2_1 : Int) p8 q8
                replace p8 := eq_true p8
                replace q8 := eq_true q8
                have HP11 := Kd.R_putn HO_0.out (x2_1 : Int) (rd x0_1 x3_1)
                rw [← Ny1277.out] at HP11
                have HQ11 := Aside0.mk HP11
                clear HP11
                have p9 : 0 ≤ (x3_1 : Int) := of_decide_eq_true (by first | (with_reducible assumption) | assumption)
                have q9 : (x3_1 : Int) < ((x0_1.length : Int) : Int) := of_decide_eq_true (by first | (with_reducible assumption) | assumption)
                obtain ⟨hx9_0, hf9_0⟩ := Kd.R_celln 0 HQ11.out (x3_1 : Int) p9 q9
                replace p9 := eq_true p9
                replace q9 := eq_true q9
                have HP12 := Kd.R_putn HQ11.out (x3_1 : Int) (rd x0_1 x2_1)
                rw [← Ny1278.out] at HP12
                have HQ12 := Aside0.mk HP12
                clear HP12
                refine start_ (n := 16) (S := fun w' => w'.cell? ⟨go8, (x3_1).toNat, none⟩ = some (.int .i64 (rd x0_1 x3_1)) ∧ w'.cell? ⟨go8, (x2_1).toNat, none⟩ = some (.int .i64 (rd x0_1 x2_1))) (ds := [13, 15]) #[false, false, false, false, false, false, false, false, false, false, false, false, false, false, false, false] (by kernel_rfl) rfl rfl ⟨hx1275_0, hx1276_0⟩ (fun hHeld => ?_); refine with_tabW slices_Reverse_int_int.tab3 slices_Reverse_int_int.bits3 (fun HT_ HW_ => ?_)
                generalize wr.drew = w10 at HO_0 HK HB GG8 HQ11 HQ12 hf8_0 hf9_0 hx1275_0 hx1276_0 hx8_0 hx9_0 hHeld ⊢
                refine pure_ (i := 0) (N := some 14) (v := ?_) (a' := ?_) #[true, false, false, false, false, false, false, false, false, false, false, false, false, false, false, false] rfl rfl (any_of HT_.out (by kernel_rfl)) (fun _ _ _ h => h) (Or.inl ⟨by rfl, ?_⟩) ?_ ?_
                rotate_left
                · intro w'
                  go_simp
                  with_reducible rfl
                rotate_left
                · simp only [Act.put, List.setIfInBounds_toArray, List.set_cons_zero, List.set_cons_succ, i64_w, i32_w]
                  rfl
                refine pure_ (i := 1) (N := some 15) (v := ?_) (a' := ?_) #[true, true, false, false, false, false, false, false, false, false, false, false, false, false, false, false] rfl rfl (any_of HT_.out (by kernel_rfl)) (fun _ _ _ h => h) (Or.inl ⟨by rfl, ?_⟩) ?_ ?_
                rotate_left
                · intro w'
                  go_simp
                  with_reducible rfl
                rotate_left
                · simp only [Act.put, List.setIfInBounds_toArray, List.set_cons_zero, List.set_cons_succ, i64_w, i32_w]
                  rfl
                refine pure_ (i := 2) (N := some 16) (v := ?_) (a' := ?_) #[true, true, true, false, false, false, false, false, false, false, false, false, false, false, false, false] rfl rfl (any_of HT_.out (by kernel_rfl)) (fun _ _ _ h => h) (Or.inl ⟨by rfl, ?_⟩) ?_ ?_
                rotate_left
                · intro w'
                  go_simp
                  with_reducible rfl
                rotate_left
                · simp only [Act.put, List.setIfInBounds_toArray, List.set_cons_zero, List.set_cons_succ, i64_w, i32_w]
                  rfl
                refine pure_ (i := 3) (N := some 17) (v := ?_) (a' := ?_) #[true, true, true, true, false, false, false, false, false, false, false, false, false, false, false, false] rfl rfl (any_of HT_.out (by kernel_rfl)) (fun _ _ _ h => h) (Or.inl ⟨by rfl, ?_⟩) ?_ ?_
                rotate_left
                · intro w'
                  go_simp
                  with_reducible rfl
                rotate_left
                · simp only [Act.put, List.setIfInBounds_toArray, List.set_cons_zero, List.set_cons_succ, i64_w, i32_w]
                  rfl
                refine pure_ (i := 4) (N := some 18) (v := ?_) (a' := ?_) #[true, true, true, true, true, false, false, false, false, false, false, false, false, false, false, false] rfl rfl (any_of HT_.out (by kernel_rfl)) (fun _ _ _ h => h) (Or.inl ⟨by rfl, ?_⟩) ?_ ?_
                rotate_left
                · intro w'
                  go_simp
                  with_reducible rfl
                rotate_left
                · simp only [Act.put, List.setIfInBounds_toArray, List.set_cons_zero, List.set_cons_succ, i64_w, i32_w]
                  rfl
                refine pure_ (i := 5) (N := some 19) (v := ?_) (a' := ?_) #[true, true, true, true, true, true, false, false, false, false, false, false, false, false, false, false] rfl rfl (any_of HT_.out (by kernel_rfl)) (fun _ _ _ h => h) (Or.inl ⟨by rfl, ?_⟩) ?_ ?_
                rotate_left
                · intro w'
                  go_simp
                  with_reducible rfl
                rotate_left
                · simp only [Act.put, List.setIfInBounds_toArray, List.set_cons_zero, List.set_cons_succ, i64_w, i32_w]
                  rfl
                refine pure_ (i := 6) (N := some 20) (v := ?_) (a' := ?_) #[true, true, true, true, true, true, true, false, false, false, false, false, false, false, false, false] rfl rfl (any_of HT_.out (by kernel_rfl)) (fun _ _ _ h => h) (Or.inl ⟨by rfl, ?_⟩) ?_ ?_
                rotate_left
                · intro w'
                  go_simp
                  with_reducible rfl
                rotate_left
                · simp only [Act.put, List.setIfInBounds_toArray, List.set_cons_zero, List.set_cons_succ, i64_w, i32_w]
                  rfl
                refine pure_ (i := 8) (N := some 22) (v := ?_) (a' := ?_) #[true, true, true, true, true, true, true, false, true, false, false, false, false, false, false, false] rfl rfl (any_of HT_.out (by kernel_rfl)) (fun _ _ _ h => h) (Or.inl ⟨by rfl, ?_⟩) ?_ ?_
                rotate_left
                · intro w'
                  go_simp
                  with_reducible rfl
                rotate_left
                · simp only [Act.put, List.setIfInBounds_toArray, List.set_cons_zero, List.set_cons_succ, i64_w, i32_w]
                  rfl
                refine pure_ (i := 9) (N := some 23) (v := ?_) (a' := ?_) #[true, true, true, true, true, true, true, false, true, true, false, false, false, false, false, false] rfl rfl (any_of HT_.out (by kernel_rfl)) (fun _ _ _ h => h) (Or.inl ⟨by rfl, ?_⟩) ?_ ?_
                rotate_left
                · intro w'
                  go_simp
                  with_reducible rfl
                rotate_left
                · simp only [Act.put, List.setIfInBounds_toArray, List.set_cons_zero, List.set_cons_succ, i64_w, i32_w]
                  rfl
                refine pure_ (i := 10) (N := some 24) (v := ?_) (a' := ?_) #[true, true, true, true, true, true, true, false, true, true, true, false, false, false, false, false] rfl rfl (any_of HT_.out (by kernel_rfl)) (fun _ _ _ h => h) (Or.inl ⟨by rfl, ?_⟩) ?_ ?_
                rotate_left
                · intro w'
                  go_simp
                  with_reducible rfl
                rotate_left
                · simp only [Act.put, List.setIfInBounds_toArray, List.set_cons_zero, List.set_cons_succ, i64_w, i32_w]
                  rfl
                refine take_ (i := 7) (N := some 21) (v := ?_) (a' := ?_) #[true, true, true, true, true, true, true, true, true, true, true, false, false, false, false, false] rfl rfl (take_ofW HT_.out HW_.out (by kernel_rfl)) (fun _ _ _ h => h) (Or.inl ⟨by rfl, ?_⟩) hHeld ?_ ?_
                rotate_left
                · rintro w' ⟨s0, s1⟩
                  go_simp
                  with_reducible rfl
                rotate_left
                · simp only [Act.put, List.setIfInBounds_toArray, List.set_cons_zero, List.set_cons_succ, i64_w, i32_w]
                  rfl
                refine take_ (i := 11) (N := some 25) (v := ?_) (a' := ?_) #[true, true, true, true, true, true, true, true, true, true, true, true, false, false, false, false] rfl rfl (take_ofW HT_.out HW_.out (by kernel_rfl)) (fun _ _ _ h => h) (Or.inl ⟨by rfl, ?_⟩) hHeld ?_ ?_
                rotate_left
                · rintro w' ⟨s0, s1⟩
                  go_simp
                  with_reducible rfl
                rotate_left
                · simp only [Act.put, List.setIfInBounds_toArray, List.set_cons_zero, List.set_cons_succ, i64_w, i32_w]
                  rfl
                refine pure_ (i := 12) (N := some 26) (v := ?_) (a' := ?_) #[true, true, true, true, true, true, true, true, true, true, true, true, true, false, false, false] rfl rfl (any_of HT_.out (by kernel_rfl)) (fun _ _ _ h => h) (Or.inl ⟨by rfl, ?_⟩) ?_ ?_
                rotate_left
                · intro w'
                  go_simp
                  with_reducible rfl
                rotate_left
                · simp only [Act.put, List.setIfInBounds_toArray, List.set_cons_zero, List.set_cons_succ, i64_w, i32_w]
                  rfl
                refine last_ (i := 13) (N := none) #[true, true, true, true, true, true, true, true, true, true, true, true, true, true, false, false] rfl rfl (one_of HT_.out (by kernel_rfl)) (by decide) (fun K hK => ?_)
                refine skip_ (w1 := ?_) (by rfl) rfl ?_ ?_
                rotate_left
                · go_simp
                  rfl
                refine hK.out _ _ ?_
                clear hK K
                refine pure_ (i := 14) (N := some 27) (v := ?_) (a' := ?_) #[true, true, true, true, true, true, true, true, true, true, true, true, true, true, true, false] rfl rfl (any_of HT_.out (by kernel_rfl)) (fun _ _ _ h => h) (Or.inl ⟨by rfl, ?_⟩) ?_ ?_
                rotate_left
                · intro w'
                  go_simp
                  with_reducible rfl
                rotate_left
                · simp only [Act.put, List.setIfInBounds_toArray, List.set_cons_zero, List.set_cons_succ, i64_w, i32_w]
                  rfl
                refine last_ (i := 15) (N := none) #[true, true, true, true, true, true, true, true, true, true, true, true, true, true, true, true] rfl rfl (one_of HT_.out (by kernel_rfl)) (by decide) (fun K hK => ?_)
                refine skip_ (w1 := ?_) (by rfl) rfl ?_ ?_
                rotate_left
                · go_simp
                  rfl
                refine hK.out _ _ ?_
                clear hK K
                refine done_ (done_of HT_.out (by kernel_rfl)) ?_
                try go_wp2
                (try simp only [← hl0_1])
                go_roundg k1
                case measure => have := HK1.out; omega
                case rel => exact ⟨(y1278), (wrap64 (x2_1 + 1)), (wrap64 (x3_1 - 1)), (by first | rfl | (simp; done) | (simp [*]; done)), (by first | rfl | (simp; done) | (simp [*]; done)), H', ⟨by have := HK1.out; omega⟩, ⟨by (try simp only [hl0_1]); (with_reducible repeat (first | apply Kd.R_alloc | apply Kd.R_drewN | apply Kd.R_drew)); exact HQ12.out⟩, ⟨by repeat (first | (with_reducible first | exact HK.out | apply Kept.alloc | apply Kept.drewN | apply Kept.drew | refine Kept.setCell ?_ HMgo8.out _ | refine Kept.setCell ?_ HMgo8.out _) | exact HK.out)⟩, ⟨by repeat (first | (with_reducible first | exact HB.out | apply below_alloc | apply pw_below_drewN | apply below_drew1 | refine below_set ?_ GB8.out | refine below_set ?_ GB8.out) | exact HB.out)⟩⟩
              · rw [if_neg c7] at H
                exact absurd H (by simp)
            · rw [if_neg c6] at H
              exact absurd H (by simp)
          · rw [if_neg c5] at H
            exact absurd H (by simp)
        · rw [if_neg c4] at H
          exact absurd H (by simp)
      · rw [if_neg c3] at H
        have c3b0 : decide (x2_1 < x3_1) = false := decide_eq_false c3
        (try (have c3b0_0 := c3b0; rw [hl0_1] at c3b0_0))
        clear c3
        obtain rfl := Option.some.inj H
        go_wp2
        first | go_end0 | ((try simp only [Exit.inBlock, Exit.then]); refine bodyPost_ret (results_none rfl _ _ _) rfl ?_)
        exact ⟨by first | rfl | (simp [errW_none, errW_some] <;> rfl) | (simp [*, errW_none, errW_some] <;> rfl), (by first | exact (by (with_reducible repeat (first | apply Kd.R_alloc | apply Kd.R_drewN | apply Kd.R_drew)); exact HO_0.out) | (simp only [hl0_1]; exact (by (with_reducible repeat (first | apply Kd.R_alloc | apply Kd.R_drewN | apply Kd.R_drew)); exact HO_0.out))), by repeat (first | (with_reducible first | exact HB.out | apply below_alloc | apply pw_below_drewN | apply below_drew1) | exact HB.out), by repeat (first | (with_reducible first | exact HK.out | apply Kept.alloc | apply Kept.drewN | apply Kept.drew) | exact HK.out)⟩
end Go.Proofs.Ytlplphgoldkoeaa.X
end

section
set_option linter.unusedVariables false
set_option linter.unusedSimpArgs false
namespace Go.Proofs.Ytlplphgoldkoeaa.HTab
open Go.RowKit Go.Proofs.YtlplphgoldkoeaaW.PrintWords Go.Proofs.YtlplphgoldkoeaaW.PrintLast Go.Proofs.YtlplphgoldkoeaaW.PrintMore Go.Proofs.Ytlplphgoldkoeaa.HMap Go.Proofs.Ytlplphgoldkoeaa.X
set_option linter.unusedVariables false
set_option linter.unusedSimpArgs false
theorem alloc_size (w : World) (o : Obj) : (w.alloc o).heap.size = w.heap.size + 1 := by simp
structure DS (w W : World) (v r : Int) (A : Option Addr) (c : Nat) (l : List S106) (gx : Nat) (u0 s0 : Int) (Ax : Option Addr) (cx : Nat) (x0 : List S107) (gy : Nat) (u3 s3 : Int) (Ay : Option Addr) (cy : Nat) (y0 : List S107) : Prop where
  bel : Below w.heap.size w W
  kf : W.heap[w.heap.size]? = some (.cells #[.int .i64 v, .slice A l.length c, .int .i64 r] 33 (0, 0))
  kx : W.heap[gx]? = some (.cells #[.int .i64 u0, .slice Ax x0.length cx, .int .i64 s0] 28 (0, 0))
  ky : W.heap[gy]? = some (.cells #[.int .i64 u3, .slice Ay y0.length cy, .int .i64 s3] 28 (0, 0))
  rx : Kd.R k107 107 W w.heap.size (fun _ => True) (.slice Ax x0.length cx) x0
  ry : Kd.R k107 107 W w.heap.size (fun _ => True) (.slice Ay y0.length cy) y0
section
variable {w W W' : World} {v r : Int} {A : Option Addr} {c : Nat} {l : List S106} {gx : Nat} {u0 s0 : Int} {Ax : Option Addr} {cx : Nat} {x0 : List S107} {gy : Nat} {u3 s3 : Int} {Ay : Option Addr} {cy : Nat} {y0 : List S107}
theorem DS.below (h : DS w W v r A c l gx u0 s0 Ax cx x0 gy u3 s3 Ay cy y0) (hb : Below W.heap.size W W') : DS w W' v r A c l gx u0 s0 Ax cx x0 gy u3 s3 Ay cy y0 :=
  ⟨below_then h.bel h.bel.size hb, blk_below h.kf hb, blk_below h.kx hb, blk_below h.ky hb, Kd.R_below h.rx hb, Kd.R_below h.ry hb⟩
theorem DS.drew (h : DS w W v r A c l gx u0 s0 Ax cx x0 gy u3 s3 Ay cy y0) : DS w W.drew v r A c l gx u0 s0 Ax cx x0 gy u3 s3 Ay cy y0 := h.below (below_drew (Below.refl _ _))
theorem DS.alloc (h : DS w W v r A c l gx u0 s0 Ax cx x0 gy u3 s3 Ay cy y0) (o : Obj) : DS w (W.alloc o) v r A c l gx u0 s0 Ax cx x0 gy u3 s3 Ay cy y0 := h.below (below_alloc (Below.refl _ _) o)
theorem DS.sz (h : DS w W v r A c l gx u0 s0 Ax cx x0 gy u3 s3 Ay cy y0) : ∃ g, g = W.heap.size := ⟨_, rfl⟩
theorem DS.wd (h : DS w W v r A c l gx u0 s0 Ax cx x0 gy u3 s3 Ay cy y0) : ∃ g, g = W := ⟨_, rfl⟩
theorem DS.blkNew (h : DS w W v r A c l gx u0 s0 Ax cx x0 gy u3 s3 Ay cy y0) (o : Obj) : (W.alloc o).heap[W.heap.size]? = some o := blk_new W o
theorem DS.set (h : DS w W v r A c l gx u0 s0 Ax cx x0 gy u3 s3 Ay cy y0) {gb : Nat} {cs : Array Value} (kb : W.heap[gb]? = some (.cells cs 28 (0, 0))) (hg : w.heap.size < gb ∧ gx < gb ∧ gy < gb) (i : Nat) (z : Value) : DS w (W.setCell ⟨gb, i, none⟩ z) v r A c l gx u0 s0 Ax cx x0 gy u3 s3 Ay cy y0 :=
  ⟨below_set h.bel (Nat.le_of_lt hg.1), (Below.heap_setCell _ ⟨gb, i, none⟩ z _ (Nat.ne_of_lt hg.1)).trans h.kf, (Below.heap_setCell _ ⟨gb, i, none⟩ z _ (Nat.ne_of_lt hg.2.1)).trans h.kx, (Below.heap_setCell _ ⟨gb, i, none⟩ z _ (Nat.ne_of_lt hg.2.2)).trans h.ky, Kd.R_set h.rx kb (by decide) i z, Kd.R_set h.ry kb (by decide) i z⟩
end
def tb_MaskDuals_11.T : Bool × List (List Nat × List Nat) := (true, [([], []), ([0], [0]), ([1], [1]), ([2], [2]), ([3, 2], [2, 3]), ([2, 4], [2, 4]), ([5, 2], [5]), ([6], [6]), ([7, 6], [6, 7]), ([6, 8], [6, 8]), ([9, 6], [9]), ([10], [10]), ([11, 10], [10, 11]), ([10, 12], [10, 12]), ([13, 10], [13]), ([14], [14]), ([15, 14], [14, 15]), ([14, 16], [14, 16]), ([17, 14], [17]), ([18], [18]), ([19, 18, 18], [18, 19]), ([18], [18]), ([21, 20, 18], [18, 21]), ([20, 22, 22, 18], [18, 20, 22]), ([18, 23], [18, 23]), ([24, 23], [24]), ([25], [25]), ([26, 25, 25], [25, 26]), ([25], [25]), ([27, 28, 27, 25], [25, 27, 28]), ([25, 29], [25, 29]), ([30, 29], [30]), ([31], [31]), ([32, 31, 31], [31, 32]), ([31], [31]), ([34, 33, 31], [31, 34]), ([33, 35, 35, 31], [31, 33, 35]), ([31, 36], [31, 36]), ([37, 36], [37]), ([38, 38], [38]), ([38, 39], [38, 39]), ([40, 39, 0, 1, 2, 3, 4, 5, 6, 7, 8, 9, 10, 11, 12, 13, 14, 15, 16, 17, 18, 19, 20, 21, 22, 23, 24, 25, 26, 27, 28, 29, 30, 31, 32, 33, 34, 35, 36, 37, 38, 39, 40], [40])])
def tb_MaskDuals_11.B : List Nat := [0, 1, 3, 7, 15, 31, 63, 127, 255, 511, 1023, 2047, 4095, 8191, 16383, 32767, 65535, 131071, 262143, 524287, 1048575, 524287, 4194303, 8388607, 16777215, 33554431, 67108863, 134217727, 67108863, 536870911, 1073741823, 2147483647, 4294967295, 8589934591, 4294967295, 34359738367, 68719476735, 137438953471, 274877906943, 549755813887, 1099511627775, 2199023255551]
theorem tb_MaskDuals_11.tab : rtab .any (opsOf Try.f15 11) = tb_MaskDuals_11.T := by kernel_rfl
theorem tb_MaskDuals_11.bits : waitsOk tb_MaskDuals_11.T.2 tb_MaskDuals_11.B = true := by kernel_rfl
def tb_MaskDuals_7.T : Bool × List (List Nat × List Nat) := (true, [([], []), ([0], [0]), ([], []), ([1, 2, 1], [1, 2]), ([3], [3]), ([4], [4]), ([4], [4]), ([], []), ([7, 5, 3, 0, 1, 2, 3, 4, 5, 7], [5, 7]), ([6, 8, 0, 1, 2, 3, 4, 5, 6, 7, 8], [6])])
def tb_MaskDuals_7.B : List Nat := [0, 1, 0, 7, 15, 31, 31, 0, 191, 511]
theorem tb_MaskDuals_7.tab : rtab .any (opsOf Try.f15 7) = tb_MaskDuals_7.T := by kernel_rfl
theorem tb_MaskDuals_7.bits : waitsOk tb_MaskDuals_7.T.2 tb_MaskDuals_7.B = true := by kernel_rfl
set_option maxRecDepth 100000 in
set_option maxHeartbeats 16000000 in
theorem duals_calls (fu : Nat) (v r : Int) (A : Option Addr) (c : Nat) (l : List S106) (As : Option Addr) (cs : Nat) (s : List Int) (w : World) (hC : Kd.C k106 w A l.length l) (hc : l.length ≤ c) (hS : Kd.C (Kd.int .i64) w As s.length s) (hcs : s.length ≤ cs)
    (o1 x0 n0 q0 y0 b0 z0 : List S107) (u0 u1 u2 u3 u4 u5 s0 s1 s2 s3 s4 s5 : Int)
    (hO : cantinglaw02_of.f fu v l r = some (v, o1, r)) (hX : mask_Exists.f v o1 r s = some (u0, x0, s0, 0)) (hN : mask_Not.f v o1 r = some (u1, n0, s1, 0)) (hA : mask_Forall.f u1 n0 s1 s = some (u2, q0, s2, 0)) (hY : mask_Not.f u2 q0 s2 = some (u3, y0, s3, 0)) (hB : mask_And.f v o1 r u0 x0 s0 = some (u4, b0, s4, 0)) (sr : List Int) (hRV : slices_Reverse_int_int.f fu s = some sr) (hZ : mask_Exists.f v o1 r sr = some (u5, z0, s5, 0)) (hsl : s.length ≤ 10000000000000)
    (xr yr br zr : List S106) (hx : cantinglaw02_own.f fu u0 x0 s0 = some (u0, xr, s0)) (hy : cantinglaw02_own.f fu u3 y0 s3 = some (u3, yr, s3)) (hb : cantinglaw02_own.f fu u4 b0 s4 = some (u4, br, s4)) (hz : cantinglaw02_own.f fu u5 z0 s5 = some (u5, zr, s5)) (hS1 : cantingref02_Same.f fu u0 xr s0 u3 yr s3 = some true) (hS2 : cantingref02_Same.f fu u4 br s4 v l r = some true) (hS3 : cantingref02_Same.f fu u0 xr s0 u5 zr s5 = some true) (hAW : cantinglaw02_awake.f fu = some true) :
    Calls Try.prog 15 #[.agg #[.int .i64 v, .slice A l.length c, .int .i64 r], .slice As s.length cs] w fun e w' => e = .returned (.bool true) ∧ Below w.heap.size w w' := by
  have HC := Aside0.mk hC
  have HS := Aside0.mk hS
  have HO := Aside0.mk hO
  have HX := Aside0.mk hX
  have HN := Aside0.mk hN
  have HA := Aside0.mk hA
  have HY := Aside0.mk hY
  have HB := Aside0.mk hB
  have HRV := Aside0.mk hRV
  have HZ := Aside0.mk hZ
  have HW := Aside0.mk (And.intro hx (And.intro hy (And.intro hb hz)))
  have HSS := Aside0.mk (And.intro hS1 (And.intro hS2 (And.intro hS3 hAW)))
  have hu1 := Try.underlying28
  have hu2 := Try.underlying33
  clear hC hS hO hX hN hA hY hB hRV hZ hx hy hb hz hS1 hS2 hS3 hAW
  go_enter Try.func15, Try.ntmps15
  obtain ⟨W0, hW0⟩ : ∃ W, W = w.alloc (.cells #[.int .i64 v, .slice A l.length c, .int .i64 r] 33) := ⟨_, rfl⟩
  have HB0 := Aside0.mk (show Below w.heap.size w W0 by rw [hW0]; exact below_alloc (Below.refl _ _) _)
  have Kf0 : Aside0 (W0.heap[w.heap.size]? = some (.cells #[.int .i64 v, .slice A l.length c, .int .i64 r] 33 (0, 0))) := ⟨by rw [hW0]; exact blk_new _ _⟩
  have HS0 : Aside0 (w.heap.size + 1 ≤ W0.heap.size) := ⟨by rw [hW0]; simp⟩
  go_wp2_with fail
  rw [← hW0]
  clear hW0
  refine (cantinglaw02_of.calls fu v A c l r v o1 r _ (Kd.C_below HC.out HB0.out) hc HO.out).mono ?_
  rintro e w1 ⟨vo1_, rfl, hRo1, hb1⟩
  obtain ⟨Ao1, co1, rfl, hco1, _⟩ := Kd.R_reads hRo1
  have HS1 : Aside0 (w.heap.size + 1 ≤ w1.heap.size) := ⟨Nat.le_trans (show w.heap.size + 1 ≤ (W0).heap.size by have := HS0.out; first | exact this | (simp only [setCell_size, alloc_size]; omega)) hb1.size⟩
  have HB2 := Aside0.mk (below_then HB0.out (HB0.out).size hb1)
  have Kf2 := Aside0.mk (blk_below Kf0.out hb1)
  have Ro11 := Aside0.mk (Kd.R_lower hRo1 (HB0.out).size)
  clear hb1 hRo1
  go_wp2_with fail
  refine (mask_Exists.calls v Ao1 co1 o1 r As cs s u0 x0 s0 0 _ (Kd.R_reads' Ro11.out).2.2 (Kd.R_reads' Ro11.out).2.1 (Kd.C_below HS.out HB2.out) hcs HX.out).mono ?_
  rintro e w3 ⟨vx0_, rfl, hRx0, hb3⟩
  obtain ⟨Ax0, cx0, rfl, hcx0, _⟩ := Kd.R_reads hRx0
  have HS3 : Aside0 (w.heap.size + 1 ≤ w3.heap.size) := ⟨Nat.le_trans (show w.heap.size + 1 ≤ (w1).heap.size by have := HS1.out; first | exact this | (simp only [setCell_size, alloc_size]; omega)) hb3.size⟩
  have HB4 := Aside0.mk (below_then HB2.out (HB2.out).size hb3)
  have Kf4 := Aside0.mk (blk_below Kf2.out hb3)
  have Ro14 := Aside0.mk (Kd.R_below Ro11.out hb3)
  have Rx03 := Aside0.mk (Kd.R_lower hRx0 (HB2.out).size)
  clear hb3 hRx0
  have gx5 : w.heap.size + 1 ≤ w3.heap.size := by exact HS3.out
  have yf0_6 := (blk_cell (blk_alloc Kf4.out (.cells #[.int .i64 u0, .slice Ax0 x0.length cx0, .int .i64 s0] 28)) 0).trans rfl
  have yf1_6 := (blk_cell (blk_alloc Kf4.out (.cells #[.int .i64 u0, .slice Ax0 x0.length cx0, .int .i64 s0] 28)) 1).trans rfl
  have yf2_6 := (blk_cell (blk_alloc Kf4.out (.cells #[.int .i64 u0, .slice Ax0 x0.length cx0, .int .i64 s0] 28)) 2).trans rfl
  go_wp2_with fail
  obtain ⟨W7, hW7⟩ : ∃ W, W = (w3.alloc (.cells #[.int .i64 u0, .slice Ax0 x0.length cx0, .int .i64 s0] 28)) := ⟨_, rfl⟩
  have HB8 := Aside0.mk (show Below w.heap.size w W7 by rw [hW7]; exact (below_alloc HB4.out (.cells #[.int .i64 u0, .slice Ax0 x0.length cx0, .int .i64 s0] 28)))
  have HS8 : Aside0 (w.heap.size + 1 ≤ W7.heap.size) := ⟨by rw [hW7]; have := HS3.out; first | exact this | (simp only [setCell_size, alloc_size]; omega)⟩
  have Kf8 := Aside0.mk (show W7.heap[w.heap.size]? = some (.cells #[.int .i64 v, .slice A l.length c, .int .i64 r] 33 (0, 0)) by rw [hW7]; exact (blk_alloc Kf4.out (.cells #[.int .i64 u0, .slice Ax0 x0.length cx0, .int .i64 s0] 28)))
  have Kx8 := Aside0.mk (show W7.heap[w3.heap.size]? = some (.cells #[.int .i64 u0, .slice Ax0 x0.length cx0, .int .i64 s0] 28 (0, 0)) by rw [hW7]; exact (blk_new w3 (.cells #[.int .i64 u0, .slice Ax0 x0.length cx0, .int .i64 s0] 28)))
  have Rx08 := Aside0.mk (show k107.R 107 W7 w.heap.size (fun _ => True) (.slice Ax0 x0.length cx0) x0 by rw [hW7]; exact (Kd.R_alloc Rx03.out (.cells #[.int .i64 u0, .slice Ax0 x0.length cx0, .int .i64 s0] 28)))
  rw [← hW7]
  clear hW7
  refine (cantinglaw02_of.calls fu v A c l r v o1 r _ (Kd.C_below HC.out HB8.out) hc HO.out).mono ?_
  rintro e w9 ⟨vo2_, rfl, hRo2, hb9⟩
  obtain ⟨Ao2, co2, rfl, hco2, _⟩ := Kd.R_reads hRo2
  have HS9 : Aside0 (w.heap.size + 1 ≤ w9.heap.size) := ⟨Nat.le_trans (show w.heap.size + 1 ≤ (W7).heap.size by have := HS8.out; first | exact this | (simp only [setCell_size, alloc_size]; omega)) hb9.size⟩
  have HB10 := Aside0.mk (below_then HB8.out (HB8.out).size hb9)
  have Kf10 := Aside0.mk (blk_below Kf8.out hb9)
  have Kx10 := Aside0.mk (blk_below Kx8.out hb9)
  have Rx010 := Aside0.mk (Kd.R_below Rx08.out hb9)
  have Ro29 := Aside0.mk (Kd.R_lower hRo2 (HB8.out).size)
  clear hb9 hRo2
  clear yf0_6 yf1_6 yf2_6
  go_wp2_with fail
  refine (mask_Not.calls v Ao2 co2 o1 r u1 n0 s1 0 _ (Kd.R_reads' Ro29.out).2.2 (Kd.R_reads' Ro29.out).2.1 HN.out).mono ?_
  rintro e w11 ⟨vn0_, rfl, hRn0, hb11⟩
  obtain ⟨An0, cn0, rfl, hcn0, _⟩ := Kd.R_reads hRn0
  have HS11 : Aside0 (w.heap.size + 1 ≤ w11.heap.size) := ⟨Nat.le_trans (show w.heap.size + 1 ≤ (w9).heap.size by have := HS9.out; first | exact this | (simp only [setCell_size, alloc_size]; omega)) hb11.size⟩
  have HB12 := Aside0.mk (below_then HB10.out (HB10.out).size hb11)
  have Kf12 := Aside0.mk (blk_below Kf10.out hb11)
  have Kx12 := Aside0.mk (blk_below Kx10.out hb11)
  have Rx012 := Aside0.mk (Kd.R_below Rx010.out hb11)
  have Ro212 := Aside0.mk (Kd.R_below Ro29.out hb11)
  have Rn011 := Aside0.mk (Kd.R_lower hRn0 (HB10.out).size)
  clear hb11 hRn0
  have gn13 : w.heap.size + 1 ≤ w11.heap.size := by exact HS11.out
  have yn0_14 := (blk_cell (blk_new w11 (.cells #[.int .i64 u1, .slice An0 n0.length cn0, .int .i64 s1] 28)) 0).trans rfl
  have yn1_14 := (blk_cell (blk_new w11 (.cells #[.int .i64 u1, .slice An0 n0.length cn0, .int .i64 s1] 28)) 1).trans rfl
  have yn2_14 := (blk_cell (blk_new w11 (.cells #[.int .i64 u1, .slice An0 n0.length cn0, .int .i64 s1] 28)) 2).trans rfl
  go_wp2_with fail
  obtain ⟨W15, hW15⟩ : ∃ W, W = (w11.alloc (.cells #[.int .i64 u1, .slice An0 n0.length cn0, .int .i64 s1] 28)) := ⟨_, rfl⟩
  have HB16 := Aside0.mk (show Below w.heap.size w W15 by rw [hW15]; exact (below_alloc HB12.out (.cells #[.int .i64 u1, .slice An0 n0.length cn0, .int .i64 s1] 28)))
  have HS16 : Aside0 (w.heap.size + 1 ≤ W15.heap.size) := ⟨by rw [hW15]; have := HS11.out; first | exact this | (simp only [setCell_size, alloc_size]; omega)⟩
  have Kf16 := Aside0.mk (show W15.heap[w.heap.size]? = some (.cells #[.int .i64 v, .slice A l.length c, .int .i64 r] 33 (0, 0)) by rw [hW15]; exact (blk_alloc Kf12.out (.cells #[.int .i64 u1, .slice An0 n0.length cn0, .int .i64 s1] 28)))
  have Kx16 := Aside0.mk (show W15.heap[w3.heap.size]? = some (.cells #[.int .i64 u0, .slice Ax0 x0.length cx0, .int .i64 s0] 28 (0, 0)) by rw [hW15]; exact (blk_alloc Kx12.out (.cells #[.int .i64 u1, .slice An0 n0.length cn0, .int .i64 s1] 28)))
  have Kn16 := Aside0.mk (show W15.heap[w11.heap.size]? = some (.cells #[.int .i64 u1, .slice An0 n0.length cn0, .int .i64 s1] 28 (0, 0)) by rw [hW15]; exact (blk_new w11 (.cells #[.int .i64 u1, .slice An0 n0.length cn0, .int .i64 s1] 28)))
  have Rx016 := Aside0.mk (show k107.R 107 W15 w.heap.size (fun _ => True) (.slice Ax0 x0.length cx0) x0 by rw [hW15]; exact (Kd.R_alloc Rx012.out (.cells #[.int .i64 u1, .slice An0 n0.length cn0, .int .i64 s1] 28)))
  have Rn016 := Aside0.mk (show k107.R 107 W15 w.heap.size (fun _ => True) (.slice An0 n0.length cn0) n0 by rw [hW15]; exact (Kd.R_alloc Rn011.out (.cells #[.int .i64 u1, .slice An0 n0.length cn0, .int .i64 s1] 28)))
  rw [← hW15]
  clear hW15
  refine (mask_Forall.calls u1 An0 cn0 n0 s1 As cs s u2 q0 s2 0 _ (Kd.R_reads' Rn016.out).2.2 (Kd.R_reads' Rn016.out).2.1 (Kd.C_below HS.out HB16.out) hcs HA.out).mono ?_
  rintro e w17 ⟨vq0_, rfl, hRq0, hb17⟩
  obtain ⟨Aq0, cq0, rfl, hcq0, _⟩ := Kd.R_reads hRq0
  have HS17 : Aside0 (w.heap.size + 1 ≤ w17.heap.size) := ⟨Nat.le_trans (show w.heap.size + 1 ≤ (W15).heap.size by have := HS16.out; first | exact this | (simp only [setCell_size, alloc_size]; omega)) hb17.size⟩
  have HB18 := Aside0.mk (below_then HB16.out (HB16.out).size hb17)
  have Kf18 := Aside0.mk (blk_below Kf16.out hb17)
  have Kx18 := Aside0.mk (blk_below Kx16.out hb17)
  have Kn18 := Aside0.mk (blk_below Kn16.out hb17)
  have Rx018 := Aside0.mk (Kd.R_below Rx016.out hb17)
  have Rn018 := Aside0.mk (Kd.R_below Rn016.out hb17)
  have Rq017 := Aside0.mk (Kd.R_lower hRq0 (HB16.out).size)
  clear hb17 hRq0
  clear yn0_14 yn1_14 yn2_14
  have gq19 : w.heap.size + 1 ≤ w17.heap.size := by exact HS17.out
  have yq0_20 := (blk_cell (blk_new w17 (.cells #[.int .i64 u2, .slice Aq0 q0.length cq0, .int .i64 s2] 28)) 0).trans rfl
  have yq1_20 := (blk_cell (blk_new w17 (.cells #[.int .i64 u2, .slice Aq0 q0.length cq0, .int .i64 s2] 28)) 1).trans rfl
  have yq2_20 := (blk_cell (blk_new w17 (.cells #[.int .i64 u2, .slice Aq0 q0.length cq0, .int .i64 s2] 28)) 2).trans rfl
  go_wp2_with fail
  obtain ⟨W21, hW21⟩ : ∃ W, W = (w17.alloc (.cells #[.int .i64 u2, .slice Aq0 q0.length cq0, .int .i64 s2] 28)) := ⟨_, rfl⟩
  have HB22 := Aside0.mk (show Below w.heap.size w W21 by rw [hW21]; exact (below_alloc HB18.out (.cells #[.int .i64 u2, .slice Aq0 q0.length cq0, .int .i64 s2] 28)))
  have HS22 : Aside0 (w.heap.size + 1 ≤ W21.heap.size) := ⟨by rw [hW21]; have := HS17.out; first | exact this | (simp only [setCell_size, alloc_size]; omega)⟩
  have Kf22 := Aside0.mk (show W21.heap[w.heap.size]? = some (.cells #[.int .i64 v, .slice A l.length c, .int .i64 r] 33 (0, 0)) by rw [hW21]; exact (blk_alloc Kf18.out (.cells #[.int .i64 u2, .slice Aq0 q0.length cq0, .int .i64 s2] 28)))
  have Kx22 := Aside0.mk (show W21.heap[w3.heap.size]? = some (.cells #[.int .i64 u0, .slice Ax0 x0.length cx0, .int .i64 s0] 28 (0, 0)) by rw [hW21]; exact (blk_alloc Kx18.out (.cells #[.int .i64 u2, .slice Aq0 q0.length cq0, .int .i64 s2] 28)))
  have Kn22 := Aside0.mk (show W21.heap[w11.heap.size]? = some (.cells #[.int .i64 u1, .slice An0 n0.length cn0, .int .i64 s1] 28 (0, 0)) by rw [hW21]; exact (blk_alloc Kn18.out (.cells #[.int .i64 u2, .slice Aq0 q0.length cq0, .int .i64 s2] 28)))
  have Kq22 := Aside0.mk (show W21.heap[w17.heap.size]? = some (.cells #[.int .i64 u2, .slice Aq0 q0.length cq0, .int .i64 s2] 28 (0, 0)) by rw [hW21]; exact (blk_new w17 (.cells #[.int .i64 u2, .slice Aq0 q0.length cq0, .int .i64 s2] 28)))
  have Rx022 := Aside0.mk (show k107.R 107 W21 w.heap.size (fun _ => True) (.slice Ax0 x0.length cx0) x0 by rw [hW21]; exact (Kd.R_alloc Rx018.out (.cells #[.int .i64 u2, .slice Aq0 q0.length cq0, .int .i64 s2] 28)))
  have Rn022 := Aside0.mk (show k107.R 107 W21 w.heap.size (fun _ => True) (.slice An0 n0.length cn0) n0 by rw [hW21]; exact (Kd.R_alloc Rn018.out (.cells #[.int .i64 u2, .slice Aq0 q0.length cq0, .int .i64 s2] 28)))
  have Rq022 := Aside0.mk (show k107.R 107 W21 w.heap.size (fun _ => True) (.slice Aq0 q0.length cq0) q0 by rw [hW21]; exact (Kd.R_alloc Rq017.out (.cells #[.int .i64 u2, .slice Aq0 q0.length cq0, .int .i64 s2] 28)))
  rw [← hW21]
  clear hW21
  refine (mask_Not.calls u2 Aq0 cq0 q0 s2 u3 y0 s3 0 _ (Kd.R_reads' Rq022.out).2.2 (Kd.R_reads' Rq022.out).2.1 HY.out).mono ?_
  rintro e w23 ⟨vy0_, rfl, hRy0, hb23⟩
  obtain ⟨Ay0, cy0, rfl, hcy0, _⟩ := Kd.R_reads hRy0
  have HS23 : Aside0 (w.heap.size + 1 ≤ w23.heap.size) := ⟨Nat.le_trans (show w.heap.size + 1 ≤ (W21).heap.size by have := HS22.out; first | exact this | (simp only [setCell_size, alloc_size]; omega)) hb23.size⟩
  have HB24 := Aside0.mk (below_then HB22.out (HB22.out).size hb23)
  have Kf24 := Aside0.mk (blk_below Kf22.out hb23)
  have Kx24 := Aside0.mk (blk_below Kx22.out hb23)
  have Kn24 := Aside0.mk (blk_below Kn22.out hb23)
  have Kq24 := Aside0.mk (blk_below Kq22.out hb23)
  have Rx024 := Aside0.mk (Kd.R_below Rx022.out hb23)
  have Rn024 := Aside0.mk (Kd.R_below Rn022.out hb23)
  have Rq024 := Aside0.mk (Kd.R_below Rq022.out hb23)
  have Ry023 := Aside0.mk (Kd.R_lower hRy0 (HB22.out).size)
  clear hb23 hRy0
  clear yq0_20 yq1_20 yq2_20
  have gy25 : w.heap.size + 1 ≤ w23.heap.size := by exact HS23.out
  go_wp2
  obtain ⟨W26, hW26⟩ : ∃ W, W = (w23.alloc (.cells #[.int .i64 u3, .slice Ay0 y0.length cy0, .int .i64 s3] 28)) := ⟨_, rfl⟩
  have HB27 := Aside0.mk (show Below w.heap.size w W26 by rw [hW26]; exact (below_alloc HB24.out (.cells #[.int .i64 u3, .slice Ay0 y0.length cy0, .int .i64 s3] 28)))
  have HS27 : Aside0 (w.heap.size + 1 ≤ W26.heap.size) := ⟨by rw [hW26]; have := HS23.out; first | exact this | (simp only [setCell_size, alloc_size]; omega)⟩
  have Kf27 := Aside0.mk (show W26.heap[w.heap.size]? = some (.cells #[.int .i64 v, .slice A l.length c, .int .i64 r] 33 (0, 0)) by rw [hW26]; exact (blk_alloc Kf24.out (.cells #[.int .i64 u3, .slice Ay0 y0.length cy0, .int .i64 s3] 28)))
  have Kx27 := Aside0.mk (show W26.heap[w3.heap.size]? = some (.cells #[.int .i64 u0, .slice Ax0 x0.length cx0, .int .i64 s0] 28 (0, 0)) by rw [hW26]; exact (blk_alloc Kx24.out (.cells #[.int .i64 u3, .slice Ay0 y0.length cy0, .int .i64 s3] 28)))
  have Ky27 := Aside0.mk (show W26.heap[w23.heap.size]? = some (.cells #[.int .i64 u3, .slice Ay0 y0.length cy0, .int .i64 s3] 28 (0, 0)) by rw [hW26]; exact (blk_new w23 (.cells #[.int .i64 u3, .slice Ay0 y0.length cy0, .int .i64 s3] 28)))
  have Rx027 := Aside0.mk (show k107.R 107 W26 w.heap.size (fun _ => True) (.slice Ax0 x0.length cx0) x0 by rw [hW26]; exact (Kd.R_alloc Rx024.out (.cells #[.int .i64 u3, .slice Ay0 y0.length cy0, .int .i64 s3] 28)))
  have Ry027 := Aside0.mk (show k107.R 107 W26 w.heap.size (fun _ => True) (.slice Ay0 y0.length cy0) y0 by rw [hW26]; exact (Kd.R_alloc Ry023.out (.cells #[.int .i64 u3, .slice Ay0 y0.length cy0, .int .i64 s3] 28)))
  rw [← hW26]
  clear hW26
  have D := Aside0.mk ((show DS w W26 v r A c l w3.heap.size u0 s0 Ax0 cx0 x0 w23.heap.size u3 s3 Ay0 cy0 y0 from ⟨HB27.out, Kf27.out, Kx27.out, Ky27.out, Rx027.out, Ry027.out⟩).drew)
  have e0 := (blk_cell D.out.kf 0).trans rfl
  have e1 := (blk_cell D.out.kf 1).trans rfl
  have e2 := (blk_cell D.out.kf 2).trans rfl
  have e3 := (blk_cell D.out.kx 0).trans rfl
  have e4 := (blk_cell D.out.kx 1).trans rfl
  have e5 := (blk_cell D.out.kx 2).trans rfl
  refine start_ (n := 10) (S := fun w' => (w'.cell? ⟨w.heap.size, 0, none⟩ = some (.int .i64 v)) ∧ (w'.cell? ⟨w.heap.size, 1, none⟩ = some (.slice A l.length c)) ∧ (w'.cell? ⟨w.heap.size, 2, none⟩ = some (.int .i64 r)) ∧ (w'.cell? ⟨w3.heap.size, 0, none⟩ = some (.int .i64 u0)) ∧ (w'.cell? ⟨w3.heap.size, 1, none⟩ = some (.slice Ax0 x0.length cx0)) ∧ (w'.cell? ⟨w3.heap.size, 2, none⟩ = some (.int .i64 s0))) (ds := [8]) #[false, false, false, false, false, false, false, false, false, false] (by kernel_rfl) rfl rfl ⟨e0, e1, e2, e3, e4, e5⟩ (fun hHeld => ?_)
  refine with_tabW tb_MaskDuals_7.tab tb_MaskDuals_7.bits (fun HT_ HW_ => ?_)
  refine take_ (i := 0) (N := some 50) (v := ?_) (a' := ?_) #[true, false, false, false, false, false, false, false, false, false] rfl rfl (take_ofW HT_.out HW_.out (by kernel_rfl)) (fun _ _ _ h => h) (Or.inl ⟨by rfl, ?_⟩) hHeld ?_ ?_
  rotate_left
  · rintro w' ⟨s0, s1, s2, s3, s4, s5⟩
    go_simp
    with_reducible rfl
  rotate_left
  · simp only [Act.put, List.setIfInBounds_toArray, List.set_cons_zero, List.set_cons_succ, i64_w, i32_w]
    rfl
  refine take_ (i := 2) (N := some 52) (v := ?_) (a' := ?_) #[true, false, true, false, false, false, false, false, false, false] rfl rfl (take_ofW HT_.out HW_.out (by kernel_rfl)) (fun _ _ _ h => h) (Or.inl ⟨by rfl, ?_⟩) hHeld ?_ ?_
  rotate_left
  · rintro w' ⟨s0, s1, s2, s3, s4, s5⟩
    go_simp
    with_reducible rfl
  rotate_left
  · simp only [Act.put, List.setIfInBounds_toArray, List.set_cons_zero, List.set_cons_succ, i64_w, i32_w]
    rfl
  refine two_ (i := 1) (j := 7) (Ni := some 51) (Nj := some 13) #[true, true, true, false, false, false, false, false, false, false] #[true, false, true, false, false, false, false, true, false, false] rfl rfl rfl rfl (two_of HT_.out (by kernel_rfl)) (by decide) (by decide) (fun K hK => ?_) (fun K hK => ?_)
  · refine goes_ Try.func30 (by kernel_rfl) rfl #[.agg #[.int .i64 v, .slice A l.length c, .int .i64 r]] (by rfl) rfl rfl (by simp only [List.map_toArray, List.map_cons, List.map_nil]; rfl) ?_
    refine (cantinglaw02_of.calls fu v A c l r v o1 r _ (Kd.C_below HC.out D.out.bel) hc HO.out).mono ?_
    rintro e wo ⟨vo, rfl, hRo, hBo⟩
    obtain ⟨Ao3, co3, rfl, hco3, _⟩ := Kd.R_reads hRo
    refine ⟨_, rfl, ?_⟩
    have RO := Aside0.mk (Kd.R_lower hRo D.out.bel.size)
    try (replace KB := Aside0.mk (blk_below KB.out hBo))
    replace D := Aside0.mk (D.out.below hBo)
    clear hRo hBo
    refine hK.out _ _ ⟨(blk_cell D.out.kf 0).trans rfl, (blk_cell D.out.kf 1).trans rfl, (blk_cell D.out.kf 2).trans rfl, (blk_cell D.out.kx 0).trans rfl, (blk_cell D.out.kx 1).trans rfl, (blk_cell D.out.kx 2).trans rfl⟩ (fun hHeld => ?_)
    clear hK K
    refine norm_ (a' := ?_) ?_ ?_
    rotate_left
    · show Act.put _ (some 51) _ = _
      (try simp only [Act.put, List.setIfInBounds_toArray, List.set_cons_zero, List.set_cons_succ, i64_w, i32_w])
      rfl
    refine two_ (i := 3) (j := 7) (Ni := some 53) (Nj := some 13) #[true, true, true, true, false, false, false, false, false, false] #[true, true, true, false, false, false, false, true, false, false] rfl rfl rfl rfl (two_of HT_.out (by kernel_rfl)) (by decide) (by decide) (fun K hK => ?_) (fun K hK => ?_)
    · refine goes_ Try.func45 (by kernel_rfl) rfl #[.agg #[.int .i64 v, .slice Ao3 o1.length co3, .int .i64 r], .agg #[.int .i64 u0, .slice Ax0 x0.length cx0, .int .i64 s0]] (by rfl) rfl rfl (by simp only [List.map_toArray, List.map_cons, List.map_nil]; rfl) ?_
      refine (mask_And.calls v Ao3 co3 o1 r u0 Ax0 cx0 x0 s0 u4 b0 s4 0 _ (Kd.R_reads' RO.out).2.2 (Kd.R_reads' RO.out).2.1 (Kd.R_reads' D.out.rx).2.2 (Kd.R_reads' D.out.rx).2.1 HB.out).mono ?_
      rintro e wo ⟨vo, rfl, hRo, hBo⟩
      obtain ⟨Ab, cb, rfl, hcb, _⟩ := Kd.R_reads hRo
      refine ⟨.tuple #[.agg #[.int .i64 u4, .slice Ab b0.length cb, .int .i64 s4], .int .i64 0], rfl, ?_⟩
      have RB := Aside0.mk (Kd.R_lower hRo D.out.bel.size)
      try (replace KB := Aside0.mk (blk_below KB.out hBo))
      replace D := Aside0.mk (D.out.below hBo)
      clear hRo hBo RO
      refine hK.out _ _ ⟨(blk_cell D.out.kf 0).trans rfl, (blk_cell D.out.kf 1).trans rfl, (blk_cell D.out.kf 2).trans rfl, (blk_cell D.out.kx 0).trans rfl, (blk_cell D.out.kx 1).trans rfl, (blk_cell D.out.kx 2).trans rfl⟩ (fun hHeld => ?_)
      clear hK K
      refine norm_ (a' := ?_) ?_ ?_
      rotate_left
      · show Act.put _ (some 53) _ = _
        (try simp only [Act.put, List.setIfInBounds_toArray, List.set_cons_zero, List.set_cons_succ, i64_w, i32_w])
        rfl
      refine pure_ (i := 4) (N := some 49) (v := ?_) (a' := ?_) #[true, true, true, true, true, false, false, false, false, false] rfl rfl (any_of HT_.out (by kernel_rfl)) (fun _ _ _ h => h) (Or.inl ⟨by rfl, ?_⟩) ?_ ?_
      rotate_left
      · intro w'
        go_simp
        with_reducible rfl
      rotate_left
      · simp only [Act.put, List.setIfInBounds_toArray, List.set_cons_zero, List.set_cons_succ, i64_w, i32_w]
        rfl
      refine pure_ (i := 5) (N := some 54) (v := ?_) (a' := ?_) #[true, true, true, true, true, true, false, false, false, false] rfl rfl (any_of HT_.out (by kernel_rfl)) (fun _ _ _ h => h) (Or.inl ⟨by rfl, ?_⟩) ?_ ?_
      rotate_left
      · intro w'
        go_simp
        with_reducible rfl
      rotate_left
      · simp only [Act.put, List.setIfInBounds_toArray, List.set_cons_zero, List.set_cons_succ, i64_w, i32_w]
        rfl
      refine pure_ (i := 6) (N := some 55) (v := ?_) (a' := ?_) #[true, true, true, true, true, true, true, false, false, false] rfl rfl (any_of HT_.out (by kernel_rfl)) (fun _ _ _ h => h) (Or.inl ⟨by rfl, ?_⟩) ?_ ?_
      rotate_left
      · intro w'
        go_simp
        with_reducible rfl
      rotate_left
      · simp only [Act.put, List.setIfInBounds_toArray, List.set_cons_zero, List.set_cons_succ, i64_w, i32_w]
        rfl
      refine one_ (i := 7) (N := some 13) #[true, true, true, true, true, true, true, true, false, false] rfl rfl (one_of HT_.out (by kernel_rfl)) (by decide) (fun K hK => ?_)
      refine value_ (w1 := ?_) (v := ?_) (by rfl) rfl ?_ ?_
      rotate_left 2
      · go_simp
        constructor
        · rfl
        · rfl
      obtain ⟨gb, hgb⟩ := D.out.sz
      have KB := Aside0.mk (D.out.blkNew (.cells #[.int .i64 0, .slice none 0 0, .int .i64 0] 28))
      have GB := Aside0.mk (show w.heap.size < gb ∧ w3.heap.size < gb ∧ w23.heap.size < gb from by rw [hgb]; exact ⟨blk_lt D.out.kf, blk_lt D.out.kx, blk_lt D.out.ky⟩)
      replace D := Aside0.mk (D.out.alloc (.cells #[.int .i64 0, .slice none 0 0, .int .i64 0] 28))
      try (replace RO := Aside0.mk (Kd.R_alloc RO.out (.cells #[.int .i64 0, .slice none 0 0, .int .i64 0] 28)))
      try (replace RB := Aside0.mk (Kd.R_alloc RB.out (.cells #[.int .i64 0, .slice none 0 0, .int .i64 0] 28)))
      rw [← hgb] at KB
      first | rw [← hgb] | (replace hgb : gb = W26.heap.size := hgb; rw [← hgb])
      clear hgb
      refine hK.out _ _ ⟨(blk_cell D.out.kf 0).trans rfl, (blk_cell D.out.kf 1).trans rfl, (blk_cell D.out.kf 2).trans rfl, (blk_cell D.out.kx 0).trans rfl, (blk_cell D.out.kx 1).trans rfl, (blk_cell D.out.kx 2).trans rfl⟩ (fun hHeld => ?_)
      clear hK K
      refine norm_ (a' := ?_) ?_ ?_
      rotate_left
      · show Act.put _ (some 13) _ = _
        (try simp only [Act.put, List.setIfInBounds_toArray, List.set_cons_zero, List.set_cons_succ, i64_w, i32_w])
        rfl
      refine last_ (i := 8) (N := none) #[true, true, true, true, true, true, true, true, true, false] rfl rfl (one_of HT_.out (by kernel_rfl)) (by decide) (fun K hK => ?_)
      have q0 := (blk_cell KB.out 0).trans rfl
      have q1 := (blk_cell KB.out 1).trans rfl
      have q2 := (blk_cell KB.out 2).trans rfl
      have f0 := blk_frozen KB.out 0
      have f1 := blk_frozen KB.out 1
      have f2 := blk_frozen KB.out 2
      refine skip_ (w1 := ?_) (by rfl) rfl ?_ ?_
      rotate_left
      · go_simp
        rfl
      have KB2 := Aside0.mk (blk_put (cs := #[.int .i64 u4, .slice Ab b0.length cb, .int .i64 0]) (blk_put (cs := #[.int .i64 u4, .slice none 0 0, .int .i64 0]) (blk_put (cs := #[.int .i64 0, .slice none 0 0, .int .i64 0]) KB.out 0 (.int .i64 u4) rfl) 1 (.slice Ab b0.length cb) rfl) 2 (.int .i64 s4) rfl)
      replace D := Aside0.mk (((D.out.set KB.out GB.out 0 (.int .i64 u4)).set (blk_put (cs := #[.int .i64 0, .slice none 0 0, .int .i64 0]) KB.out 0 (.int .i64 u4) rfl) GB.out 1 (.slice Ab b0.length cb)).set (blk_put (cs := #[.int .i64 u4, .slice none 0 0, .int .i64 0]) (blk_put (cs := #[.int .i64 0, .slice none 0 0, .int .i64 0]) KB.out 0 (.int .i64 u4) rfl) 1 (.slice Ab b0.length cb) rfl) GB.out 2 (.int .i64 s4))
      replace RB := Aside0.mk (Kd.R_set (Kd.R_set (Kd.R_set RB.out KB.out (by decide) 0 (.int .i64 u4)) (blk_put (cs := #[.int .i64 0, .slice none 0 0, .int .i64 0]) KB.out 0 (.int .i64 u4) rfl) (by decide) 1 (.slice Ab b0.length cb)) (blk_put (cs := #[.int .i64 u4, .slice none 0 0, .int .i64 0]) (blk_put (cs := #[.int .i64 0, .slice none 0 0, .int .i64 0]) KB.out 0 (.int .i64 u4) rfl) 1 (.slice Ab b0.length cb) rfl) (by decide) 2 (.int .i64 s4))
      clear q0 q1 q2 f0 f1 f2 KB
      refine hK.out _ _ ?_
      clear hK K
      refine norm_ (a' := ?_) ?_ ?_
      rotate_left
      · rfl
      refine pure_ (i := 9) (N := some 14) (v := ?_) (a' := ?_) #[true, true, true, true, true, true, true, true, true, true] rfl rfl (any_of HT_.out (by kernel_rfl)) (fun _ _ _ h => h) (Or.inl ⟨by rfl, ?_⟩) ?_ ?_
      rotate_left
      · intro w'
        go_simp
        with_reducible rfl
      rotate_left
      · simp only [Act.put, List.setIfInBounds_toArray, List.set_cons_zero, List.set_cons_succ, i64_w, i32_w]
        rfl
      refine done_ (done_of HT_.out (by kernel_rfl)) ?_
      obtain ⟨Wt, hWt⟩ := D.out.wd
      rw [← hWt] at D KB2 RB
      rw [← hWt]
      clear hWt e0 e1 e2 e3 e4 e5
      go_wp2_with fail
      refine (cloneI_calls As cs s Wt (Kd.C_below HS.out D.out.bel) hcs hsl).mono ?_
      rintro e wk ⟨vk, rfl, hRk, hBk⟩
      go_wp2_with fail
      refine (slices_Reverse_int_int.calls fu (fun _ => True) vk s sr Wt wk hBk hRk HRV.out).mono ?_
      rintro e wv ⟨rfl, hRv, hBv, _⟩
      obtain ⟨Ak, ck, rfl, hck, hCk⟩ := Kd.R_reads hRv
      have CK := Aside0.mk hCk
      replace KB2 := Aside0.mk (blk_below KB2.out hBv)
      replace RB := Aside0.mk (Kd.R_below RB.out hBv)
      replace D := Aside0.mk (D.out.below hBv)
      clear hRk hBk hRv hBv hCk
      have e0 := (blk_cell D.out.kf 0).trans rfl
      have e1 := (blk_cell D.out.kf 1).trans rfl
      have e2 := (blk_cell D.out.kf 2).trans rfl
      go_wp2_with fail
      refine (cantinglaw02_of.calls fu v A c l r v o1 r _ (Kd.C_below HC.out D.out.bel) hc HO.out).mono ?_
      rintro e wq ⟨vq, rfl, hRq, hBq⟩
      obtain ⟨Aq, cq, rfl, hcq, _⟩ := Kd.R_reads hRq
      have RQ := Aside0.mk hRq
      replace CK := Aside0.mk (Kd.C_below CK.out hBq)
      replace KB2 := Aside0.mk (blk_below KB2.out hBq)
      replace RB := Aside0.mk (Kd.R_below RB.out hBq)
      replace D := Aside0.mk (D.out.below hBq)
      clear hRq hBq e0 e1 e2
      go_wp2_with fail
      refine (mask_Exists.calls v Aq cq o1 r Ak ck sr u5 z0 s5 0 _ (Kd.R_reads' RQ.out).2.2 (Kd.R_reads' RQ.out).2.1 CK.out hck HZ.out).mono ?_
      rintro e wz ⟨vz, rfl, hRz, hBz⟩
      obtain ⟨Az, cz, rfl, hcz, _⟩ := Kd.R_reads hRz
      have RZ := Aside0.mk (Kd.R_alloc (Kd.R_lower hRz D.out.bel.size) (.cells #[.int .i64 u5, .slice Az z0.length cz, .int .i64 s5] 28))
      replace KB2 := Aside0.mk (blk_alloc (blk_below KB2.out hBz) (.cells #[.int .i64 u5, .slice Az z0.length cz, .int .i64 s5] 28))
      replace RB := Aside0.mk (Kd.R_alloc (Kd.R_below RB.out hBz) (.cells #[.int .i64 u5, .slice Az z0.length cz, .int .i64 s5] 28))
      replace D := Aside0.mk ((D.out.below hBz).alloc (.cells #[.int .i64 u5, .slice Az z0.length cz, .int .i64 s5] 28))
      have KZ := Aside0.mk (blk_new wz (.cells #[.int .i64 u5, .slice Az z0.length cz, .int .i64 s5] 28))
      clear hRz hBz CK RQ
      go_wp2
      obtain ⟨Wz, hWz⟩ := D.out.wd
      rw [← hWz] at D KB2 KZ RB RZ
      rw [← hWz]
      clear hWz
      replace D := Aside0.mk D.out.drew
      replace KB2 := Aside0.mk (blk_drew KB2.out)
      replace KZ := Aside0.mk (blk_drew KZ.out)
      replace RB := Aside0.mk (Kd.R_drew RB.out)
      replace RZ := Aside0.mk (Kd.R_drew RZ.out)
      have g0_ := (blk_cell D.out.kf 0).trans rfl
      have g1_ := (blk_cell D.out.kf 1).trans rfl
      have g2_ := (blk_cell D.out.kf 2).trans rfl
      have g3_ := (blk_cell D.out.kx 0).trans rfl
      have g4_ := (blk_cell D.out.kx 1).trans rfl
      have g5_ := (blk_cell D.out.kx 2).trans rfl
      have g6_ := (blk_cell D.out.ky 0).trans rfl
      have g7_ := (blk_cell D.out.ky 1).trans rfl
      have g8_ := (blk_cell D.out.ky 2).trans rfl
      have g9_ := (blk_cell KB2.out 0).trans rfl
      have g10_ := (blk_cell KB2.out 1).trans rfl
      have g11_ := (blk_cell KB2.out 2).trans rfl
      have g12_ := (blk_cell KZ.out 0).trans rfl
      have g13_ := (blk_cell KZ.out 1).trans rfl
      have g14_ := (blk_cell KZ.out 2).trans rfl
      refine start_ (n := 42) (S := fun w' => (w'.cell? ⟨w.heap.size, 0, none⟩ = some (.int .i64 v)) ∧ (w'.cell? ⟨w.heap.size, 1, none⟩ = some (.slice A l.length c)) ∧ (w'.cell? ⟨w.heap.size, 2, none⟩ = some (.int .i64 r)) ∧ (w'.cell? ⟨w3.heap.size, 0, none⟩ = some (.int .i64 u0)) ∧ (w'.cell? ⟨w3.heap.size, 1, none⟩ = some (.slice Ax0 x0.length cx0)) ∧ (w'.cell? ⟨w3.heap.size, 2, none⟩ = some (.int .i64 s0)) ∧ (w'.cell? ⟨w23.heap.size, 0, none⟩ = some (.int .i64 u3)) ∧ (w'.cell? ⟨w23.heap.size, 1, none⟩ = some (.slice Ay0 y0.length cy0)) ∧ (w'.cell? ⟨w23.heap.size, 2, none⟩ = some (.int .i64 s3)) ∧ (w'.cell? ⟨gb, 0, none⟩ = some (.int .i64 u4)) ∧ (w'.cell? ⟨gb, 1, none⟩ = some (.slice Ab b0.length cb)) ∧ (w'.cell? ⟨gb, 2, none⟩ = some (.int .i64 s4)) ∧ (w'.cell? ⟨wz.heap.size, 0, none⟩ = some (.int .i64 u5)) ∧ (w'.cell? ⟨wz.heap.size, 1, none⟩ = some (.slice Az z0.length cz)) ∧ (w'.cell? ⟨wz.heap.size, 2, none⟩ = some (.int .i64 s5))) (ds := [39]) #[false, false, false, false, false, false, false, false, false, false, false, false, false, false, false, false, false, false, false, false, false, false, false, false, false, false, false, false, false, false, false, false, false, false, false, false, false, false, false, false, false, false] (by kernel_rfl) rfl rfl ⟨g0_, g1_, g2_, g3_, g4_, g5_, g6_, g7_, g8_, g9_, g10_, g11_, g12_, g13_, g14_⟩ (fun hHeld => ?_)
      refine with_tabW tb_MaskDuals_11.tab tb_MaskDuals_11.bits (fun HT_ HW_ => ?_)
      refine pure_ (i := 0) (N := some 67) (v := ?_) (a' := ?_) #[true, false, false, false, false, false, false, false, false, false, false, false, false, false, false, false, false, false, false, false, false, false, false, false, false, false, false, false, false, false, false, false, false, false, false, false, false, false, false, false, false, false] rfl rfl (any_of HT_.out (by kernel_rfl)) (fun _ _ _ h => h) (Or.inl ⟨by rfl, ?_⟩) ?_ ?_
      rotate_left
      · intro w'
        go_simp
        with_reducible rfl
      rotate_left
      · simp only [Act.put, List.setIfInBounds_toArray, List.set_cons_zero, List.set_cons_succ, i64_w, i32_w]
        rfl
      refine pure_ (i := 1) (N := some 68) (v := ?_) (a' := ?_) #[true, true, false, false, false, false, false, false, false, false, false, false, false, false, false, false, false, false, false, false, false, false, false, false, false, false, false, false, false, false, false, false, false, false, false, false, false, false, false, false, false, false] rfl rfl (any_of HT_.out (by kernel_rfl)) (fun _ _ _ h => h) (Or.inl ⟨by rfl, ?_⟩) ?_ ?_
      rotate_left
      · intro w'
        go_simp
        with_reducible rfl
      rotate_left
      · simp only [Act.put, List.setIfInBounds_toArray, List.set_cons_zero, List.set_cons_succ, i64_w, i32_w]
        rfl
      refine pure_ (i := 2) (N := some 69) (v := ?_) (a' := ?_) #[true, true, true, false, false, false, false, false, false, false, false, false, false, false, false, false, false, false, false, false, false, false, false, false, false, false, false, false, false, false, false, false, false, false, false, false, false, false, false, false, false, false] rfl rfl (any_of HT_.out (by kernel_rfl)) (fun _ _ _ h => h) (Or.inl ⟨by rfl, ?_⟩) ?_ ?_
      rotate_left
      · intro w'
        go_simp
        with_reducible rfl
      rotate_left
      · simp only [Act.put, List.setIfInBounds_toArray, List.set_cons_zero, List.set_cons_succ, i64_w, i32_w]
        rfl
      refine pure_ (i := 3) (N := some 70) (v := ?_) (a' := ?_) #[true, true, true, true, false, false, false, false, false, false, false, false, false, false, false, false, false, false, false, false, false, false, false, false, false, false, false, false, false, false, false, false, false, false, false, false, false, false, false, false, false, false] rfl rfl (any_of HT_.out (by kernel_rfl)) (fun _ _ _ h => h) (Or.inl ⟨by rfl, ?_⟩) ?_ ?_
      rotate_left
      · intro w'
        go_simp
        with_reducible rfl
      rotate_left
      · simp only [Act.put, List.setIfInBounds_toArray, List.set_cons_zero, List.set_cons_succ, i64_w, i32_w]
        rfl
      refine pure_ (i := 4) (N := some 71) (v := ?_) (a' := ?_) #[true, true, true, true, true, false, false, false, false, false, false, false, false, false, false, false, false, false, false, false, false, false, false, false, false, false, false, false, false, false, false, false, false, false, false, false, false, false, false, false, false, false] rfl rfl (any_of HT_.out (by kernel_rfl)) (fun _ _ _ h => h) (Or.inl ⟨by rfl, ?_⟩) ?_ ?_
      rotate_left
      · intro w'
        go_simp
        with_reducible rfl
      rotate_left
      · simp only [Act.put, List.setIfInBounds_toArray, List.set_cons_zero, List.set_cons_succ, i64_w, i32_w]
        rfl
      refine pure_ (i := 5) (N := some 72) (v := ?_) (a' := ?_) #[true, true, true, true, true, true, false, false, false, false, false, false, false, false, false, false, false, false, false, false, false, false, false, false, false, false, false, false, false, false, false, false, false, false, false, false, false, false, false, false, false, false] rfl rfl (any_of HT_.out (by kernel_rfl)) (fun _ _ _ h => h) (Or.inl ⟨by rfl, ?_⟩) ?_ ?_
      rotate_left
      · intro w'
        go_simp
        with_reducible rfl
      rotate_left
      · simp only [Act.put, List.setIfInBounds_toArray, List.set_cons_zero, List.set_cons_succ, i64_w, i32_w]
        rfl
      refine pure_ (i := 6) (N := some 73) (v := ?_) (a' := ?_) #[true, true, true, true, true, true, true, false, false, false, false, false, false, false, false, false, false, false, false, false, false, false, false, false, false, false, false, false, false, false, false, false, false, false, false, false, false, false, false, false, false, false] rfl rfl (any_of HT_.out (by kernel_rfl)) (fun _ _ _ h => h) (Or.inl ⟨by rfl, ?_⟩) ?_ ?_
      rotate_left
      · intro w'
        go_simp
        with_reducible rfl
      rotate_left
      · simp only [Act.put, List.setIfInBounds_toArray, List.set_cons_zero, List.set_cons_succ, i64_w, i32_w]
        rfl
      refine pure_ (i := 7) (N := some 74) (v := ?_) (a' := ?_) #[true, true, true, true, true, true, true, true, false, false, false, false, false, false, false, false, false, false, false, false, false, false, false, false, false, false, false, false, false, false, false, false, false, false, false, false, false, false, false, false, false, false] rfl rfl (any_of HT_.out (by kernel_rfl)) (fun _ _ _ h => h) (Or.inl ⟨by rfl, ?_⟩) ?_ ?_
      rotate_left
      · intro w'
        go_simp
        with_reducible rfl
      rotate_left
      · simp only [Act.put, List.setIfInBounds_toArray, List.set_cons_zero, List.set_cons_succ, i64_w, i32_w]
        rfl
      refine pure_ (i := 8) (N := some 75) (v := ?_) (a' := ?_) #[true, true, true, true, true, true, true, true, true, false, false, false, false, false, false, false, false, false, false, false, false, false, false, false, false, false, false, false, false, false, false, false, false, false, false, false, false, false, false, false, false, false] rfl rfl (any_of HT_.out (by kernel_rfl)) (fun _ _ _ h => h) (Or.inl ⟨by rfl, ?_⟩) ?_ ?_
      rotate_left
      · intro w'
        go_simp
        with_reducible rfl
      rotate_left
      · simp only [Act.put, List.setIfInBounds_toArray, List.set_cons_zero, List.set_cons_succ, i64_w, i32_w]
        rfl
      refine pure_ (i := 9) (N := some 76) (v := ?_) (a' := ?_) #[true, true, true, true, true, true, true, true, true, true, false, false, false, false, false, false, false, false, false, false, false, false, false, false, false, false, false, false, false, false, false, false, false, false, false, false, false, false, false, false, false, false] rfl rfl (any_of HT_.out (by kernel_rfl)) (fun _ _ _ h => h) (Or.inl ⟨by rfl, ?_⟩) ?_ ?_
      rotate_left
      · intro w'
        go_simp
        with_reducible rfl
      rotate_left
      · simp only [Act.put, List.setIfInBounds_toArray, List.set_cons_zero, List.set_cons_succ, i64_w, i32_w]
        rfl
      refine pure_ (i := 10) (N := some 77) (v := ?_) (a' := ?_) #[true, true, true, true, true, true, true, true, true, true, true, false, false, false, false, false, false, false, false, false, false, false, false, false, false, false, false, false, false, false, false, false, false, false, false, false, false, false, false, false, false, false] rfl rfl (any_of HT_.out (by kernel_rfl)) (fun _ _ _ h => h) (Or.inl ⟨by rfl, ?_⟩) ?_ ?_
      rotate_left
      · intro w'
        go_simp
        with_reducible rfl
      rotate_left
      · simp only [Act.put, List.setIfInBounds_toArray, List.set_cons_zero, List.set_cons_succ, i64_w, i32_w]
        rfl
      refine pure_ (i := 11) (N := some 78) (v := ?_) (a' := ?_) #[true, true, true, true, true, true, true, true, true, true, true, true, false, false, false, false, false, false, false, false, false, false, false, false, false, false, false, false, false, false, false, false, false, false, false, false, false, false, false, false, false, false] rfl rfl (any_of HT_.out (by kernel_rfl)) (fun _ _ _ h => h) (Or.inl ⟨by rfl, ?_⟩) ?_ ?_
      rotate_left
      · intro w'
        go_simp
        with_reducible rfl
      rotate_left
      · simp only [Act.put, List.setIfInBounds_toArray, List.set_cons_zero, List.set_cons_succ, i64_w, i32_w]
        rfl
      refine pure_ (i := 12) (N := some 79) (v := ?_) (a' := ?_) #[true, true, true, true, true, true, true, true, true, true, true, true, true, false, false, false, false, false, false, false, false, false, false, false, false, false, false, false, false, false, false, false, false, false, false, false, false, false, false, false, false, false] rfl rfl (any_of HT_.out (by kernel_rfl)) (fun _ _ _ h => h) (Or.inl ⟨by rfl, ?_⟩) ?_ ?_
      rotate_left
      · intro w'
        go_simp
        with_reducible rfl
      rotate_left
      · simp only [Act.put, List.setIfInBounds_toArray, List.set_cons_zero, List.set_cons_succ, i64_w, i32_w]
        rfl
      refine pure_ (i := 13) (N := some 80) (v := ?_) (a' := ?_) #[true, true, true, true, true, true, true, true, true, true, true, true, true, true, false, false, false, false, false, false, false, false, false, false, false, false, false, false, false, false, false, false, false, false, false, false, false, false, false, false, false, false] rfl rfl (any_of HT_.out (by kernel_rfl)) (fun _ _ _ h => h) (Or.inl ⟨by rfl, ?_⟩) ?_ ?_
      rotate_left
      · intro w'
        go_simp
        with_reducible rfl
      rotate_left
      · simp only [Act.put, List.setIfInBounds_toArray, List.set_cons_zero, List.set_cons_succ, i64_w, i32_w]
        rfl
      refine pure_ (i := 14) (N := some 81) (v := ?_) (a' := ?_) #[true, true, true, true, true, true, true, true, true, true, true, true, true, true, true, false, false, false, false, false, false, false, false, false, false, false, false, false, false, false, false, false, false, false, false, false, false, false, false, false, false, false] rfl rfl (any_of HT_.out (by kernel_rfl)) (fun _ _ _ h => h) (Or.inl ⟨by rfl, ?_⟩) ?_ ?_
      rotate_left
      · intro w'
        go_simp
        with_reducible rfl
      rotate_left
      · simp only [Act.put, List.setIfInBounds_toArray, List.set_cons_zero, List.set_cons_succ, i64_w, i32_w]
        rfl
      refine pure_ (i := 15) (N := some 82) (v := ?_) (a' := ?_) #[true, true, true, true, true, true, true, true, true, true, true, true, true, true, true, true, false, false, false, false, false, false, false, false, false, false, false, false, false, false, false, false, false, false, false, false, false, false, false, false, false, false] rfl rfl (any_of HT_.out (by kernel_rfl)) (fun _ _ _ h => h) (Or.inl ⟨by rfl, ?_⟩) ?_ ?_
      rotate_left
      · intro w'
        go_simp
        with_reducible rfl
      rotate_left
      · simp only [Act.put, List.setIfInBounds_toArray, List.set_cons_zero, List.set_cons_succ, i64_w, i32_w]
        rfl
      refine pure_ (i := 16) (N := some 83) (v := ?_) (a' := ?_) #[true, true, true, true, true, true, true, true, true, true, true, true, true, true, true, true, true, false, false, false, false, false, false, false, false, false, false, false, false, false, false, false, false, false, false, false, false, false, false, false, false, false] rfl rfl (any_of HT_.out (by kernel_rfl)) (fun _ _ _ h => h) (Or.inl ⟨by rfl, ?_⟩) ?_ ?_
      rotate_left
      · intro w'
        go_simp
        with_reducible rfl
      rotate_left
      · simp only [Act.put, List.setIfInBounds_toArray, List.set_cons_zero, List.set_cons_succ, i64_w, i32_w]
        rfl
      refine pure_ (i := 17) (N := some 84) (v := ?_) (a' := ?_) #[true, true, true, true, true, true, true, true, true, true, true, true, true, true, true, true, true, true, false, false, false, false, false, false, false, false, false, false, false, false, false, false, false, false, false, false, false, false, false, false, false, false] rfl rfl (any_of HT_.out (by kernel_rfl)) (fun _ _ _ h => h) (Or.inl ⟨by rfl, ?_⟩) ?_ ?_
      rotate_left
      · intro w'
        go_simp
        with_reducible rfl
      rotate_left
      · simp only [Act.put, List.setIfInBounds_toArray, List.set_cons_zero, List.set_cons_succ, i64_w, i32_w]
        rfl
      refine pure_ (i := 18) (N := some 85) (v := ?_) (a' := ?_) #[true, true, true, true, true, true, true, true, true, true, true, true, true, true, true, true, true, true, true, false, false, false, false, false, false, false, false, false, false, false, false, false, false, false, false, false, false, false, false, false, false, false] rfl rfl (any_of HT_.out (by kernel_rfl)) (fun _ _ _ h => h) (Or.inl ⟨by rfl, ?_⟩) ?_ ?_
      rotate_left
      · intro w'
        go_simp
        with_reducible rfl
      rotate_left
      · simp only [Act.put, List.setIfInBounds_toArray, List.set_cons_zero, List.set_cons_succ, i64_w, i32_w]
        rfl
      refine take_ (i := 19) (N := some 86) (v := ?_) (a' := ?_) #[true, true, true, true, true, true, true, true, true, true, true, true, true, true, true, true, true, true, true, true, false, false, false, false, false, false, false, false, false, false, false, false, false, false, false, false, false, false, false, false, false, false] rfl rfl (take_ofW HT_.out HW_.out (by kernel_rfl)) (fun _ _ _ h => h) (Or.inl ⟨by rfl, ?_⟩) hHeld ?_ ?_
      rotate_left
      · rintro w' ⟨s0, s1, s2, s3, s4, s5, s6, s7, s8, s9, s10, s11, s12, s13, s14⟩
        go_simp
        with_reducible rfl
      rotate_left
      · simp only [Act.put, List.setIfInBounds_toArray, List.set_cons_zero, List.set_cons_succ, i64_w, i32_w]
        rfl
      refine take_ (i := 21) (N := some 88) (v := ?_) (a' := ?_) #[true, true, true, true, true, true, true, true, true, true, true, true, true, true, true, true, true, true, true, true, false, true, false, false, false, false, false, false, false, false, false, false, false, false, false, false, false, false, false, false, false, false] rfl rfl (take_ofW HT_.out HW_.out (by kernel_rfl)) (fun _ _ _ h => h) (Or.inl ⟨by rfl, ?_⟩) hHeld ?_ ?_
      rotate_left
      · rintro w' ⟨s0, s1, s2, s3, s4, s5, s6, s7, s8, s9, s10, s11, s12, s13, s14⟩
        go_simp
        with_reducible rfl
      rotate_left
      · simp only [Act.put, List.setIfInBounds_toArray, List.set_cons_zero, List.set_cons_succ, i64_w, i32_w]
        rfl
      refine one_ (i := 20) (N := some 87) #[true, true, true, true, true, true, true, true, true, true, true, true, true, true, true, true, true, true, true, true, true, true, false, false, false, false, false, false, false, false, false, false, false, false, false, false, false, false, false, false, false, false] rfl rfl (one_of HT_.out (by kernel_rfl)) (by decide) (fun K hK => ?_)
      refine goes_ Try.func37 (by kernel_rfl) rfl #[.agg #[.int .i64 u0, .slice Ax0 x0.length cx0, .int .i64 s0]] (by rfl) rfl rfl (by simp only [List.map_toArray, List.map_cons, List.map_nil]; rfl) ?_
      refine (cantinglaw02_own.calls fu u0 Ax0 cx0 x0 s0 u0 xr s0 _ (Kd.R_reads' D.out.rx).2.2 (Kd.R_reads' D.out.rx).2.1 HW.out.1).mono ?_
      rintro e wo ⟨vo, rfl, hRo, hBo⟩
      obtain ⟨ARX, cRX, rfl, _, _⟩ := Kd.R_reads hRo
      refine ⟨_, rfl, ?_⟩
      have RX := Aside0.mk (Kd.R_lower hRo D.out.bel.size)
      replace KB2 := Aside0.mk (blk_below KB2.out hBo)
      replace KZ := Aside0.mk (blk_below KZ.out hBo)
      replace RB := Aside0.mk (Kd.R_below RB.out hBo)
      replace RZ := Aside0.mk (Kd.R_below RZ.out hBo)
      replace D := Aside0.mk (D.out.below hBo)
      clear hRo hBo
      refine hK.out _ _ ⟨(blk_cell D.out.kf 0).trans rfl, (blk_cell D.out.kf 1).trans rfl, (blk_cell D.out.kf 2).trans rfl, (blk_cell D.out.kx 0).trans rfl, (blk_cell D.out.kx 1).trans rfl, (blk_cell D.out.kx 2).trans rfl, (blk_cell D.out.ky 0).trans rfl, (blk_cell D.out.ky 1).trans rfl, (blk_cell D.out.ky 2).trans rfl, (blk_cell KB2.out 0).trans rfl, (blk_cell KB2.out 1).trans rfl, (blk_cell KB2.out 2).trans rfl, (blk_cell KZ.out 0).trans rfl, (blk_cell KZ.out 1).trans rfl, (blk_cell KZ.out 2).trans rfl⟩ (fun hHeld => ?_)
      clear hK K
      refine norm_ (a' := ?_) ?_ ?_
      rotate_left
      · show Act.put _ (some 87) _ = _
        (try simp only [Act.put, List.setIfInBounds_toArray, List.set_cons_zero, List.set_cons_succ, i64_w, i32_w])
        rfl
      refine one_ (i := 22) (N := some 89) #[true, true, true, true, true, true, true, true, true, true, true, true, true, true, true, true, true, true, true, true, true, true, true, false, false, false, false, false, false, false, false, false, false, false, false, false, false, false, false, false, false, false] rfl rfl (one_of HT_.out (by kernel_rfl)) (by decide) (fun K hK => ?_)
      refine goes_ Try.func37 (by kernel_rfl) rfl #[.agg #[.int .i64 u3, .slice Ay0 y0.length cy0, .int .i64 s3]] (by rfl) rfl rfl (by simp only [List.map_toArray, List.map_cons, List.map_nil]; rfl) ?_
      refine (cantinglaw02_own.calls fu u3 Ay0 cy0 y0 s3 u3 yr s3 _ (Kd.R_reads' D.out.ry).2.2 (Kd.R_reads' D.out.ry).2.1 HW.out.2.1).mono ?_
      rintro e wo ⟨vo, rfl, hRo, hBo⟩
      obtain ⟨ARY, cRY, rfl, _, _⟩ := Kd.R_reads hRo
      refine ⟨_, rfl, ?_⟩
      have RY := Aside0.mk (Kd.R_lower hRo D.out.bel.size)
      replace RX := Aside0.mk (Kd.R_below RX.out hBo)
      replace KB2 := Aside0.mk (blk_below KB2.out hBo)
      replace KZ := Aside0.mk (blk_below KZ.out hBo)
      replace RB := Aside0.mk (Kd.R_below RB.out hBo)
      replace RZ := Aside0.mk (Kd.R_below RZ.out hBo)
      replace D := Aside0.mk (D.out.below hBo)
      clear hRo hBo
      refine hK.out _ _ ⟨(blk_cell D.out.kf 0).trans rfl, (blk_cell D.out.kf 1).trans rfl, (blk_cell D.out.kf 2).trans rfl, (blk_cell D.out.kx 0).trans rfl, (blk_cell D.out.kx 1).trans rfl, (blk_cell D.out.kx 2).trans rfl, (blk_cell D.out.ky 0).trans rfl, (blk_cell D.out.ky 1).trans rfl, (blk_cell D.out.ky 2).trans rfl, (blk_cell KB2.out 0).trans rfl, (blk_cell KB2.out 1).trans rfl, (blk_cell KB2.out 2).trans rfl, (blk_cell KZ.out 0).trans rfl, (blk_cell KZ.out 1).trans rfl, (blk_cell KZ.out 2).trans rfl⟩ (fun hHeld => ?_)
      clear hK K
      refine norm_ (a' := ?_) ?_ ?_
      rotate_left
      · show Act.put _ (some 89) _ = _
        (try simp only [Act.put, List.setIfInBounds_toArray, List.set_cons_zero, List.set_cons_succ, i64_w, i32_w])
        rfl
      refine one_ (i := 23) (N := some 90) #[true, true, true, true, true, true, true, true, true, true, true, true, true, true, true, true, true, true, true, true, true, true, true, true, false, false, false, false, false, false, false, false, false, false, false, false, false, false, false, false, false, false] rfl rfl (one_of HT_.out (by kernel_rfl)) (by decide) (fun K hK => ?_)
      refine goes_ Try.func36 (by kernel_rfl) rfl #[.agg #[.int .i64 u0, .slice ARX xr.length cRX, .int .i64 s0], .agg #[.int .i64 u3, .slice ARY yr.length cRY, .int .i64 s3]] (by rfl) rfl rfl (by simp only [List.map_toArray, List.map_cons, List.map_nil]; rfl) ?_
      refine (cantingref02_Same.calls fu u0 ARX cRX xr s0 u3 ARY cRY yr s3 true _ (Kd.R_reads' RX.out).2.2 (Kd.R_reads' RX.out).2.1 (Kd.R_reads' RY.out).2.2 (Kd.R_reads' RY.out).2.1 HSS.out.1).mono ?_
      rintro e wo ⟨rfl, hBo⟩
      refine ⟨_, rfl, ?_⟩
      clear RX
      clear RY
      replace KB2 := Aside0.mk (blk_below KB2.out hBo)
      replace KZ := Aside0.mk (blk_below KZ.out hBo)
      replace RB := Aside0.mk (Kd.R_below RB.out hBo)
      replace RZ := Aside0.mk (Kd.R_below RZ.out hBo)
      replace D := Aside0.mk (D.out.below hBo)
      clear hBo
      refine hK.out _ _ ⟨(blk_cell D.out.kf 0).trans rfl, (blk_cell D.out.kf 1).trans rfl, (blk_cell D.out.kf 2).trans rfl, (blk_cell D.out.kx 0).trans rfl, (blk_cell D.out.kx 1).trans rfl, (blk_cell D.out.kx 2).trans rfl, (blk_cell D.out.ky 0).trans rfl, (blk_cell D.out.ky 1).trans rfl, (blk_cell D.out.ky 2).trans rfl, (blk_cell KB2.out 0).trans rfl, (blk_cell KB2.out 1).trans rfl, (blk_cell KB2.out 2).trans rfl, (blk_cell KZ.out 0).trans rfl, (blk_cell KZ.out 1).trans rfl, (blk_cell KZ.out 2).trans rfl⟩ (fun hHeld => ?_)
      clear hK K
      refine norm_ (a' := ?_) ?_ ?_
      rotate_left
      · show Act.put _ (some 90) _ = _
        (try simp only [Act.put, List.setIfInBounds_toArray, List.set_cons_zero, List.set_cons_succ, i64_w, i32_w])
        rfl
      refine pure_ (i := 24) (N := some 91) (v := ?_) (a' := ?_) #[true, true, true, true, true, true, true, true, true, true, true, true, true, true, true, true, true, true, true, true, true, true, true, true, true, false, false, false, false, false, false, false, false, false, false, false, false, false, false, false, false, false] rfl rfl (any_of HT_.out (by kernel_rfl)) (fun _ _ _ h => h) (Or.inl ⟨by rfl, ?_⟩) ?_ ?_
      rotate_left
      · intro w'
        go_simp
        with_reducible rfl
      rotate_left
      · simp only [Act.put, List.setIfInBounds_toArray, List.set_cons_zero, List.set_cons_succ, i64_w, i32_w]
        rfl
      refine pure_ (i := 25) (N := some 92) (v := ?_) (a' := ?_) #[true, true, true, true, true, true, true, true, true, true, true, true, true, true, true, true, true, true, true, true, true, true, true, true, true, true, false, false, false, false, false, false, false, false, false, false, false, false, false, false, false, false] rfl rfl (any_of HT_.out (by kernel_rfl)) (fun _ _ _ h => h) (Or.inl ⟨by rfl, ?_⟩) ?_ ?_
      rotate_left
      · intro w'
        go_simp
        with_reducible rfl
      rotate_left
      · simp only [Act.put, List.setIfInBounds_toArray, List.set_cons_zero, List.set_cons_succ, i64_w, i32_w]
        rfl
      refine take_ (i := 26) (N := some 93) (v := ?_) (a' := ?_) #[true, true, true, true, true, true, true, true, true, true, true, true, true, true, true, true, true, true, true, true, true, true, true, true, true, true, true, false, false, false, false, false, false, false, false, false, false, false, false, false, false, false] rfl rfl (take_ofW HT_.out HW_.out (by kernel_rfl)) (fun _ _ _ h => h) (Or.inl ⟨by rfl, ?_⟩) hHeld ?_ ?_
      rotate_left
      · rintro w' ⟨s0, s1, s2, s3, s4, s5, s6, s7, s8, s9, s10, s11, s12, s13, s14⟩
        go_simp
        with_reducible rfl
      rotate_left
      · simp only [Act.put, List.setIfInBounds_toArray, List.set_cons_zero, List.set_cons_succ, i64_w, i32_w]
        rfl
      refine take_ (i := 28) (N := some 95) (v := ?_) (a' := ?_) #[true, true, true, true, true, true, true, true, true, true, true, true, true, true, true, true, true, true, true, true, true, true, true, true, true, true, true, false, true, false, false, false, false, false, false, false, false, false, false, false, false, false] rfl rfl (take_ofW HT_.out HW_.out (by kernel_rfl)) (fun _ _ _ h => h) (Or.inl ⟨by rfl, ?_⟩) hHeld ?_ ?_
      rotate_left
      · rintro w' ⟨s0, s1, s2, s3, s4, s5, s6, s7, s8, s9, s10, s11, s12, s13, s14⟩
        go_simp
        with_reducible rfl
      rotate_left
      · simp only [Act.put, List.setIfInBounds_toArray, List.set_cons_zero, List.set_cons_succ, i64_w, i32_w]
        rfl
      refine one_ (i := 27) (N := some 94) #[true, true, true, true, true, true, true, true, true, true, true, true, true, true, true, true, true, true, true, true, true, true, true, true, true, true, true, true, true, false, false, false, false, false, false, false, false, false, false, false, false, false] rfl rfl (one_of HT_.out (by kernel_rfl)) (by decide) (fun K hK => ?_)
      refine goes_ Try.func37 (by kernel_rfl) rfl #[.agg #[.int .i64 u4, .slice Ab b0.length cb, .int .i64 s4]] (by rfl) rfl rfl (by simp only [List.map_toArray, List.map_cons, List.map_nil]; rfl) ?_
      refine (cantinglaw02_own.calls fu u4 Ab cb b0 s4 u4 br s4 _ (Kd.R_reads' RB.out).2.2 (Kd.R_reads' RB.out).2.1 HW.out.2.2.1).mono ?_
      rintro e wo ⟨vo, rfl, hRo, hBo⟩
      obtain ⟨ARBR, cRBR, rfl, _, _⟩ := Kd.R_reads hRo
      refine ⟨_, rfl, ?_⟩
      have RBR := Aside0.mk (Kd.R_lower hRo D.out.bel.size)
      replace KB2 := Aside0.mk (blk_below KB2.out hBo)
      replace KZ := Aside0.mk (blk_below KZ.out hBo)
      replace RB := Aside0.mk (Kd.R_below RB.out hBo)
      replace RZ := Aside0.mk (Kd.R_below RZ.out hBo)
      replace D := Aside0.mk (D.out.below hBo)
      clear hRo hBo
      refine hK.out _ _ ⟨(blk_cell D.out.kf 0).trans rfl, (blk_cell D.out.kf 1).trans rfl, (blk_cell D.out.kf 2).trans rfl, (blk_cell D.out.kx 0).trans rfl, (blk_cell D.out.kx 1).trans rfl, (blk_cell D.out.kx 2).trans rfl, (blk_cell D.out.ky 0).trans rfl, (blk_cell D.out.ky 1).trans rfl, (blk_cell D.out.ky 2).trans rfl, (blk_cell KB2.out 0).trans rfl, (blk_cell KB2.out 1).trans rfl, (blk_cell KB2.out 2).trans rfl, (blk_cell KZ.out 0).trans rfl, (blk_cell KZ.out 1).trans rfl, (blk_cell KZ.out 2).trans rfl⟩ (fun hHeld => ?_)
      clear hK K
      refine norm_ (a' := ?_) ?_ ?_
      rotate_left
      · show Act.put _ (some 94) _ = _
        (try simp only [Act.put, List.setIfInBounds_toArray, List.set_cons_zero, List.set_cons_succ, i64_w, i32_w])
        rfl
      refine one_ (i := 29) (N := some 96) #[true, true, true, true, true, true, true, true, true, true, true, true, true, true, true, true, true, true, true, true, true, true, true, true, true, true, true, true, true, true, false, false, false, false, false, false, false, false, false, false, false, false] rfl rfl (one_of HT_.out (by kernel_rfl)) (by decide) (fun K hK => ?_)
      refine goes_ Try.func36 (by kernel_rfl) rfl #[.agg #[.int .i64 u4, .slice ARBR br.length cRBR, .int .i64 s4], .agg #[.int .i64 v, .slice A l.length c, .int .i64 r]] (by rfl) rfl rfl (by simp only [List.map_toArray, List.map_cons, List.map_nil]; rfl) ?_
      refine (cantingref02_Same.calls fu u4 ARBR cRBR br s4 v A c l r true _ (Kd.R_reads' RBR.out).2.2 (Kd.R_reads' RBR.out).2.1 (Kd.C_below HC.out D.out.bel) hc HSS.out.2.1).mono ?_
      rintro e wo ⟨rfl, hBo⟩
      refine ⟨_, rfl, ?_⟩
      clear RBR
      replace KB2 := Aside0.mk (blk_below KB2.out hBo)
      replace KZ := Aside0.mk (blk_below KZ.out hBo)
      replace RB := Aside0.mk (Kd.R_below RB.out hBo)
      replace RZ := Aside0.mk (Kd.R_below RZ.out hBo)
      replace D := Aside0.mk (D.out.below hBo)
      clear hBo
      refine hK.out _ _ ⟨(blk_cell D.out.kf 0).trans rfl, (blk_cell D.out.kf 1).trans rfl, (blk_cell D.out.kf 2).trans rfl, (blk_cell D.out.kx 0).trans rfl, (blk_cell D.out.kx 1).trans rfl, (blk_cell D.out.kx 2).trans rfl, (blk_cell D.out.ky 0).trans rfl, (blk_cell D.out.ky 1).trans rfl, (blk_cell D.out.ky 2).trans rfl, (blk_cell KB2.out 0).trans rfl, (blk_cell KB2.out 1).trans rfl, (blk_cell KB2.out 2).trans rfl, (blk_cell KZ.out 0).trans rfl, (blk_cell KZ.out 1).trans rfl, (blk_cell KZ.out 2).trans rfl⟩ (fun hHeld => ?_)
      clear hK K
      refine norm_ (a' := ?_) ?_ ?_
      rotate_left
      · show Act.put _ (some 96) _ = _
        (try simp only [Act.put, List.setIfInBounds_toArray, List.set_cons_zero, List.set_cons_succ, i64_w, i32_w])
        rfl
      refine pure_ (i := 30) (N := some 97) (v := ?_) (a' := ?_) #[true, true, true, true, true, true, true, true, true, true, true, true, true, true, true, true, true, true, true, true, true, true, true, true, true, true, true, true, true, true, true, false, false, false, false, false, false, false, false, false, false, false] rfl rfl (any_of HT_.out (by kernel_rfl)) (fun _ _ _ h => h) (Or.inl ⟨by rfl, ?_⟩) ?_ ?_
      rotate_left
      · intro w'
        go_simp
        with_reducible rfl
      rotate_left
      · simp only [Act.put, List.setIfInBounds_toArray, List.set_cons_zero, List.set_cons_succ, i64_w, i32_w]
        rfl
      refine pure_ (i := 31) (N := some 98) (v := ?_) (a' := ?_) #[true, true, true, true, true, true, true, true, true, true, true, true, true, true, true, true, true, true, true, true, true, true, true, true, true, true, true, true, true, true, true, true, false, false, false, false, false, false, false, false, false, false] rfl rfl (any_of HT_.out (by kernel_rfl)) (fun _ _ _ h => h) (Or.inl ⟨by rfl, ?_⟩) ?_ ?_
      rotate_left
      · intro w'
        go_simp
        with_reducible rfl
      rotate_left
      · simp only [Act.put, List.setIfInBounds_toArray, List.set_cons_zero, List.set_cons_succ, i64_w, i32_w]
        rfl
      refine take_ (i := 32) (N := some 99) (v := ?_) (a' := ?_) #[true, true, true, true, true, true, true, true, true, true, true, true, true, true, true, true, true, true, true, true, true, true, true, true, true, true, true, true, true, true, true, true, true, false, false, false, false, false, false, false, false, false] rfl rfl (take_ofW HT_.out HW_.out (by kernel_rfl)) (fun _ _ _ h => h) (Or.inl ⟨by rfl, ?_⟩) hHeld ?_ ?_
      rotate_left
      · rintro w' ⟨s0, s1, s2, s3, s4, s5, s6, s7, s8, s9, s10, s11, s12, s13, s14⟩
        go_simp
        with_reducible rfl
      rotate_left
      · simp only [Act.put, List.setIfInBounds_toArray, List.set_cons_zero, List.set_cons_succ, i64_w, i32_w]
        rfl
      refine take_ (i := 34) (N := some 101) (v := ?_) (a' := ?_) #[true, true, true, true, true, true, true, true, true, true, true, true, true, true, true, true, true, true, true, true, true, true, true, true, true, true, true, true, true, true, true, true, true, false, true, false, false, false, false, false, false, false] rfl rfl (take_ofW HT_.out HW_.out (by kernel_rfl)) (fun _ _ _ h => h) (Or.inl ⟨by rfl, ?_⟩) hHeld ?_ ?_
      rotate_left
      · rintro w' ⟨s0, s1, s2, s3, s4, s5, s6, s7, s8, s9, s10, s11, s12, s13, s14⟩
        go_simp
        with_reducible rfl
      rotate_left
      · simp only [Act.put, List.setIfInBounds_toArray, List.set_cons_zero, List.set_cons_succ, i64_w, i32_w]
        rfl
      refine one_ (i := 33) (N := some 100) #[true, true, true, true, true, true, true, true, true, true, true, true, true, true, true, true, true, true, true, true, true, true, true, true, true, true, true, true, true, true, true, true, true, true, true, false, false, false, false, false, false, false] rfl rfl (one_of HT_.out (by kernel_rfl)) (by decide) (fun K hK => ?_)
      refine goes_ Try.func37 (by kernel_rfl) rfl #[.agg #[.int .i64 u0, .slice Ax0 x0.length cx0, .int .i64 s0]] (by rfl) rfl rfl (by simp only [List.map_toArray, List.map_cons, List.map_nil]; rfl) ?_
      refine (cantinglaw02_own.calls fu u0 Ax0 cx0 x0 s0 u0 xr s0 _ (Kd.R_reads' D.out.rx).2.2 (Kd.R_reads' D.out.rx).2.1 HW.out.1).mono ?_
      rintro e wo ⟨vo, rfl, hRo, hBo⟩
      obtain ⟨ARX3, cRX3, rfl, _, _⟩ := Kd.R_reads hRo
      refine ⟨_, rfl, ?_⟩
      have RX3 := Aside0.mk (Kd.R_lower hRo D.out.bel.size)
      replace KB2 := Aside0.mk (blk_below KB2.out hBo)
      replace KZ := Aside0.mk (blk_below KZ.out hBo)
      replace RB := Aside0.mk (Kd.R_below RB.out hBo)
      replace RZ := Aside0.mk (Kd.R_below RZ.out hBo)
      replace D := Aside0.mk (D.out.below hBo)
      clear hRo hBo
      refine hK.out _ _ ⟨(blk_cell D.out.kf 0).trans rfl, (blk_cell D.out.kf 1).trans rfl, (blk_cell D.out.kf 2).trans rfl, (blk_cell D.out.kx 0).trans rfl, (blk_cell D.out.kx 1).trans rfl, (blk_cell D.out.kx 2).trans rfl, (blk_cell D.out.ky 0).trans rfl, (blk_cell D.out.ky 1).trans rfl, (blk_cell D.out.ky 2).trans rfl, (blk_cell KB2.out 0).trans rfl, (blk_cell KB2.out 1).trans rfl, (blk_cell KB2.out 2).trans rfl, (blk_cell KZ.out 0).trans rfl, (blk_cell KZ.out 1).trans rfl, (blk_cell KZ.out 2).trans rfl⟩ (fun hHeld => ?_)
      clear hK K
      refine norm_ (a' := ?_) ?_ ?_
      rotate_left
      · show Act.put _ (some 100) _ = _
        (try simp only [Act.put, List.setIfInBounds_toArray, List.set_cons_zero, List.set_cons_succ, i64_w, i32_w])
        rfl
      refine one_ (i := 35) (N := some 102) #[true, true, true, true, true, true, true, true, true, true, true, true, true, true, true, true, true, true, true, true, true, true, true, true, true, true, true, true, true, true, true, true, true, true, true, true, false, false, false, false, false, false] rfl rfl (one_of HT_.out (by kernel_rfl)) (by decide) (fun K hK => ?_)
      refine goes_ Try.func37 (by kernel_rfl) rfl #[.agg #[.int .i64 u5, .slice Az z0.length cz, .int .i64 s5]] (by rfl) rfl rfl (by simp only [List.map_toArray, List.map_cons, List.map_nil]; rfl) ?_
      refine (cantinglaw02_own.calls fu u5 Az cz z0 s5 u5 zr s5 _ (Kd.R_reads' RZ.out).2.2 (Kd.R_reads' RZ.out).2.1 HW.out.2.2.2).mono ?_
      rintro e wo ⟨vo, rfl, hRo, hBo⟩
      obtain ⟨ARZR, cRZR, rfl, _, _⟩ := Kd.R_reads hRo
      refine ⟨_, rfl, ?_⟩
      have RZR := Aside0.mk (Kd.R_lower hRo D.out.bel.size)
      replace RX3 := Aside0.mk (Kd.R_below RX3.out hBo)
      replace KB2 := Aside0.mk (blk_below KB2.out hBo)
      replace KZ := Aside0.mk (blk_below KZ.out hBo)
      replace RB := Aside0.mk (Kd.R_below RB.out hBo)
      replace RZ := Aside0.mk (Kd.R_below RZ.out hBo)
      replace D := Aside0.mk (D.out.below hBo)
      clear hRo hBo
      refine hK.out _ _ ⟨(blk_cell D.out.kf 0).trans rfl, (blk_cell D.out.kf 1).trans rfl, (blk_cell D.out.kf 2).trans rfl, (blk_cell D.out.kx 0).trans rfl, (blk_cell D.out.kx 1).trans rfl, (blk_cell D.out.kx 2).trans rfl, (blk_cell D.out.ky 0).trans rfl, (blk_cell D.out.ky 1).trans rfl, (blk_cell D.out.ky 2).trans rfl, (blk_cell KB2.out 0).trans rfl, (blk_cell KB2.out 1).trans rfl, (blk_cell KB2.out 2).trans rfl, (blk_cell KZ.out 0).trans rfl, (blk_cell KZ.out 1).trans rfl, (blk_cell KZ.out 2).trans rfl⟩ (fun hHeld => ?_)
      clear hK K
      refine norm_ (a' := ?_) ?_ ?_
      rotate_left
      · show Act.put _ (some 102) _ = _
        (try simp only [Act.put, List.setIfInBounds_toArray, List.set_cons_zero, List.set_cons_succ, i64_w, i32_w])
        rfl
      refine one_ (i := 36) (N := some 103) #[true, true, true, true, true, true, true, true, true, true, true, true, true, true, true, true, true, true, true, true, true, true, true, true, true, true, true, true, true, true, true, true, true, true, true, true, true, false, false, false, false, false] rfl rfl (one_of HT_.out (by kernel_rfl)) (by decide) (fun K hK => ?_)
      refine goes_ Try.func36 (by kernel_rfl) rfl #[.agg #[.int .i64 u0, .slice ARX3 xr.length cRX3, .int .i64 s0], .agg #[.int .i64 u5, .slice ARZR zr.length cRZR, .int .i64 s5]] (by rfl) rfl rfl (by simp only [List.map_toArray, List.map_cons, List.map_nil]; rfl) ?_
      refine (cantingref02_Same.calls fu u0 ARX3 cRX3 xr s0 u5 ARZR cRZR zr s5 true _ (Kd.R_reads' RX3.out).2.2 (Kd.R_reads' RX3.out).2.1 (Kd.R_reads' RZR.out).2.2 (Kd.R_reads' RZR.out).2.1 HSS.out.2.2.1).mono ?_
      rintro e wo ⟨rfl, hBo⟩
      refine ⟨_, rfl, ?_⟩
      clear RX3
      clear RZR
      replace KB2 := Aside0.mk (blk_below KB2.out hBo)
      replace KZ := Aside0.mk (blk_below KZ.out hBo)
      replace RB := Aside0.mk (Kd.R_below RB.out hBo)
      replace RZ := Aside0.mk (Kd.R_below RZ.out hBo)
      replace D := Aside0.mk (D.out.below hBo)
      clear hBo
      refine hK.out _ _ ⟨(blk_cell D.out.kf 0).trans rfl, (blk_cell D.out.kf 1).trans rfl, (blk_cell D.out.kf 2).trans rfl, (blk_cell D.out.kx 0).trans rfl, (blk_cell D.out.kx 1).trans rfl, (blk_cell D.out.kx 2).trans rfl, (blk_cell D.out.ky 0).trans rfl, (blk_cell D.out.ky 1).trans rfl, (blk_cell D.out.ky 2).trans rfl, (blk_cell KB2.out 0).trans rfl, (blk_cell KB2.out 1).trans rfl, (blk_cell KB2.out 2).trans rfl, (blk_cell KZ.out 0).trans rfl, (blk_cell KZ.out 1).trans rfl, (blk_cell KZ.out 2).trans rfl⟩ (fun hHeld => ?_)
      clear hK K
      refine norm_ (a' := ?_) ?_ ?_
      rotate_left
      · show Act.put _ (some 103) _ = _
        (try simp only [Act.put, List.setIfInBounds_toArray, List.set_cons_zero, List.set_cons_succ, i64_w, i32_w])
        rfl
      refine pure_ (i := 37) (N := some 104) (v := ?_) (a' := ?_) #[true, true, true, true, true, true, true, true, true, true, true, true, true, true, true, true, true, true, true, true, true, true, true, true, true, true, true, true, true, true, true, true, true, true, true, true, true, true, false, false, false, false] rfl rfl (any_of HT_.out (by kernel_rfl)) (fun _ _ _ h => h) (Or.inl ⟨by rfl, ?_⟩) ?_ ?_
      rotate_left
      · intro w'
        go_simp
        with_reducible rfl
      rotate_left
      · simp only [Act.put, List.setIfInBounds_toArray, List.set_cons_zero, List.set_cons_succ, i64_w, i32_w]
        rfl
      refine pure_ (i := 38) (N := some 105) (v := ?_) (a' := ?_) #[true, true, true, true, true, true, true, true, true, true, true, true, true, true, true, true, true, true, true, true, true, true, true, true, true, true, true, true, true, true, true, true, true, true, true, true, true, true, true, false, false, false] rfl rfl (any_of HT_.out (by kernel_rfl)) (fun _ _ _ h => h) (Or.inl ⟨by rfl, ?_⟩) ?_ ?_
      rotate_left
      · intro w'
        go_simp
        with_reducible rfl
      rotate_left
      · simp only [Act.put, List.setIfInBounds_toArray, List.set_cons_zero, List.set_cons_succ, i64_w, i32_w]
        rfl
      refine last_ (i := 39) (N := some 106) #[true, true, true, true, true, true, true, true, true, true, true, true, true, true, true, true, true, true, true, true, true, true, true, true, true, true, true, true, true, true, true, true, true, true, true, true, true, true, true, true, false, false] rfl rfl (one_of HT_.out (by kernel_rfl)) (by decide) (fun K hK => ?_)
      refine goes_ Try.func24 (by kernel_rfl) rfl #[] (by rfl) rfl rfl (by simp only [List.map_toArray, List.map_nil]) ?_
      refine (cantinglaw02_awake.calls fu true _ HSS.out.2.2.2).mono ?_
      rintro e wo ⟨rfl, hBo⟩
      refine ⟨_, rfl, ?_⟩
      replace D := Aside0.mk (D.out.below hBo)
      clear hBo
      refine hK.out _ _ ?_
      clear hK K
      refine norm_ (a' := ?_) ?_ ?_
      rotate_left
      · show Act.put _ (some 106) _ = _
        (try simp only [Act.put, List.setIfInBounds_toArray, List.set_cons_zero, List.set_cons_succ, i64_w, i32_w])
        rfl
      refine pure_ (i := 40) (N := some 107) (v := ?_) (a' := ?_) #[true, true, true, true, true, true, true, true, true, true, true, true, true, true, true, true, true, true, true, true, true, true, true, true, true, true, true, true, true, true, true, true, true, true, true, true, true, true, true, true, true, false] rfl rfl (any_of HT_.out (by kernel_rfl)) (fun _ _ _ h => h) (Or.inl ⟨by rfl, ?_⟩) ?_ ?_
      rotate_left
      · intro w'
        go_simp
        with_reducible rfl
      rotate_left
      · simp only [Act.put, List.setIfInBounds_toArray, List.set_cons_zero, List.set_cons_succ, i64_w, i32_w]
        rfl
      refine pure_ (i := 41) (N := some 4) (v := ?_) (a' := ?_) #[true, true, true, true, true, true, true, true, true, true, true, true, true, true, true, true, true, true, true, true, true, true, true, true, true, true, true, true, true, true, true, true, true, true, true, true, true, true, true, true, true, true] rfl rfl (any_of HT_.out (by kernel_rfl)) (fun _ _ _ h => h) (Or.inl ⟨by rfl, ?_⟩) ?_ ?_
      rotate_left
      · intro w'
        go_simp
        with_reducible rfl
      rotate_left
      · simp only [Act.put, List.setIfInBounds_toArray, List.set_cons_zero, List.set_cons_succ, i64_w, i32_w]
        rfl
      refine done_ (done_of HT_.out (by kernel_rfl)) ?_
      go_wp2
      go_ret
      exact ⟨by rfl, D.out.bel⟩
    · refine value_ (w1 := ?_) (v := ?_) (by rfl) rfl ?_ ?_
      rotate_left 2
      · go_simp
        constructor
        · rfl
        · rfl
      obtain ⟨gb, hgb⟩ := D.out.sz
      have KB := Aside0.mk (D.out.blkNew (.cells #[.int .i64 0, .slice none 0 0, .int .i64 0] 28))
      have GB := Aside0.mk (show w.heap.size < gb ∧ w3.heap.size < gb ∧ w23.heap.size < gb from by rw [hgb]; exact ⟨blk_lt D.out.kf, blk_lt D.out.kx, blk_lt D.out.ky⟩)
      replace D := Aside0.mk (D.out.alloc (.cells #[.int .i64 0, .slice none 0 0, .int .i64 0] 28))
      try (replace RO := Aside0.mk (Kd.R_alloc RO.out (.cells #[.int .i64 0, .slice none 0 0, .int .i64 0] 28)))
      try (replace RB := Aside0.mk (Kd.R_alloc RB.out (.cells #[.int .i64 0, .slice none 0 0, .int .i64 0] 28)))
      rw [← hgb] at KB
      first | rw [← hgb] | (replace hgb : gb = W26.heap.size := hgb; rw [← hgb])
      clear hgb
      refine hK.out _ _ ⟨(blk_cell D.out.kf 0).trans rfl, (blk_cell D.out.kf 1).trans rfl, (blk_cell D.out.kf 2).trans rfl, (blk_cell D.out.kx 0).trans rfl, (blk_cell D.out.kx 1).trans rfl, (blk_cell D.out.kx 2).trans rfl⟩ (fun hHeld => ?_)
      clear hK K
      refine norm_ (a' := ?_) ?_ ?_
      rotate_left
      · show Act.put _ (some 13) _ = _
        (try simp only [Act.put, List.setIfInBounds_toArray, List.set_cons_zero, List.set_cons_succ, i64_w, i32_w])
        rfl
      refine one_ (i := 3) (N := some 53) #[true, true, true, true, false, false, false, true, false, false] rfl rfl (one_of HT_.out (by kernel_rfl)) (by decide) (fun K hK => ?_)
      refine goes_ Try.func45 (by kernel_rfl) rfl #[.agg #[.int .i64 v, .slice Ao3 o1.length co3, .int .i64 r], .agg #[.int .i64 u0, .slice Ax0 x0.length cx0, .int .i64 s0]] (by rfl) rfl rfl (by simp only [List.map_toArray, List.map_cons, List.map_nil]; rfl) ?_
      refine (mask_And.calls v Ao3 co3 o1 r u0 Ax0 cx0 x0 s0 u4 b0 s4 0 _ (Kd.R_reads' RO.out).2.2 (Kd.R_reads' RO.out).2.1 (Kd.R_reads' D.out.rx).2.2 (Kd.R_reads' D.out.rx).2.1 HB.out).mono ?_
      rintro e wo ⟨vo, rfl, hRo, hBo⟩
      obtain ⟨Ab, cb, rfl, hcb, _⟩ := Kd.R_reads hRo
      refine ⟨.tuple #[.agg #[.int .i64 u4, .slice Ab b0.length cb, .int .i64 s4], .int .i64 0], rfl, ?_⟩
      have RB := Aside0.mk (Kd.R_lower hRo D.out.bel.size)
      try (replace KB := Aside0.mk (blk_below KB.out hBo))
      replace D := Aside0.mk (D.out.below hBo)
      clear hRo hBo RO
      refine hK.out _ _ ⟨(blk_cell D.out.kf 0).trans rfl, (blk_cell D.out.kf 1).trans rfl, (blk_cell D.out.kf 2).trans rfl, (blk_cell D.out.kx 0).trans rfl, (blk_cell D.out.kx 1).trans rfl, (blk_cell D.out.kx 2).trans rfl⟩ (fun hHeld => ?_)
      clear hK K
      refine norm_ (a' := ?_) ?_ ?_
      rotate_left
      · show Act.put _ (some 53) _ = _
        (try simp only [Act.put, List.setIfInBounds_toArray, List.set_cons_zero, List.set_cons_succ, i64_w, i32_w])
        rfl
      refine pure_ (i := 4) (N := some 49) (v := ?_) (a' := ?_) #[true, true, true, true, true, false, false, true, false, false] rfl rfl (any_of HT_.out (by kernel_rfl)) (fun _ _ _ h => h) (Or.inl ⟨by rfl, ?_⟩) ?_ ?_
      rotate_left
      · intro w'
        go_simp
        with_reducible rfl
      rotate_left
      · simp only [Act.put, List.setIfInBounds_toArray, List.set_cons_zero, List.set_cons_succ, i64_w, i32_w]
        rfl
      refine pure_ (i := 5) (N := some 54) (v := ?_) (a' := ?_) #[true, true, true, true, true, true, false, true, false, false] rfl rfl (any_of HT_.out (by kernel_rfl)) (fun _ _ _ h => h) (Or.inl ⟨by rfl, ?_⟩) ?_ ?_
      rotate_left
      · intro w'
        go_simp
        with_reducible rfl
      rotate_left
      · simp only [Act.put, List.setIfInBounds_toArray, List.set_cons_zero, List.set_cons_succ, i64_w, i32_w]
        rfl
      refine pure_ (i := 6) (N := some 55) (v := ?_) (a' := ?_) #[true, true, true, true, true, true, true, true, false, false] rfl rfl (any_of HT_.out (by kernel_rfl)) (fun _ _ _ h => h) (Or.inl ⟨by rfl, ?_⟩) ?_ ?_
      rotate_left
      · intro w'
        go_simp
        with_reducible rfl
      rotate_left
      · simp only [Act.put, List.setIfInBounds_toArray, List.set_cons_zero, List.set_cons_succ, i64_w, i32_w]
        rfl
      refine last_ (i := 8) (N := none) #[true, true, true, true, true, true, true, true, true, false] rfl rfl (one_of HT_.out (by kernel_rfl)) (by decide) (fun K hK => ?_)
      have q0 := (blk_cell KB.out 0).trans rfl
      have q1 := (blk_cell KB.out 1).trans rfl
      have q2 := (blk_cell KB.out 2).trans rfl
      have f0 := blk_frozen KB.out 0
      have f1 := blk_frozen KB.out 1
      have f2 := blk_frozen KB.out 2
      refine skip_ (w1 := ?_) (by rfl) rfl ?_ ?_
      rotate_left
      · go_simp
        rfl
      have KB2 := Aside0.mk (blk_put (cs := #[.int .i64 u4, .slice Ab b0.length cb, .int .i64 0]) (blk_put (cs := #[.int .i64 u4, .slice none 0 0, .int .i64 0]) (blk_put (cs := #[.int .i64 0, .slice none 0 0, .int .i64 0]) KB.out 0 (.int .i64 u4) rfl) 1 (.slice Ab b0.length cb) rfl) 2 (.int .i64 s4) rfl)
      replace D := Aside0.mk (((D.out.set KB.out GB.out 0 (.int .i64 u4)).set (blk_put (cs := #[.int .i64 0, .slice none 0 0, .int .i64 0]) KB.out 0 (.int .i64 u4) rfl) GB.out 1 (.slice Ab b0.length cb)).set (blk_put (cs := #[.int .i64 u4, .slice none 0 0, .int .i64 0]) (blk_put (cs := #[.int .i64 0, .slice none 0 0, .int .i64 0]) KB.out 0 (.int .i64 u4) rfl) 1 (.slice Ab b0.length cb) rfl) GB.out 2 (.int .i64 s4))
      replace RB := Aside0.mk (Kd.R_set (Kd.R_set (Kd.R_set RB.out KB.out (by decide) 0 (.int .i64 u4)) (blk_put (cs := #[.int .i64 0, .slice none 0 0, .int .i64 0]) KB.out 0 (.int .i64 u4) rfl) (by decide) 1 (.slice Ab b0.length cb)) (blk_put (cs := #[.int .i64 u4, .slice none 0 0, .int .i64 0]) (blk_put (cs := #[.int .i64 0, .slice none 0 0, .int .i64 0]) KB.out 0 (.int .i64 u4) rfl) 1 (.slice Ab b0.length cb) rfl) (by decide) 2 (.int .i64 s4))
      clear q0 q1 q2 f0 f1 f2 KB
      refine hK.out _ _ ?_
      clear hK K
      refine norm_ (a' := ?_) ?_ ?_
      rotate_left
      · rfl
      refine pure_ (i := 9) (N := some 14) (v := ?_) (a' := ?_) #[true, true, true, true, true, true, true, true, true, true] rfl rfl (any_of HT_.out (by kernel_rfl)) (fun _ _ _ h => h) (Or.inl ⟨by rfl, ?_⟩) ?_ ?_
      rotate_left
      · intro w'
        go_simp
        with_reducible rfl
      rotate_left
      · simp only [Act.put, List.setIfInBounds_toArray, List.set_cons_zero, List.set_cons_succ, i64_w, i32_w]
        rfl
      refine done_ (done_of HT_.out (by kernel_rfl)) ?_
      obtain ⟨Wt, hWt⟩ := D.out.wd
      rw [← hWt] at D KB2 RB
      rw [← hWt]
      clear hWt e0 e1 e2 e3 e4 e5
      go_wp2_with fail
      refine (cloneI_calls As cs s Wt (Kd.C_below HS.out D.out.bel) hcs hsl).mono ?_
      rintro e wk ⟨vk, rfl, hRk, hBk⟩
      go_wp2_with fail
      refine (slices_Reverse_int_int.calls fu (fun _ => True) vk s sr Wt wk hBk hRk HRV.out).mono ?_
      rintro e wv ⟨rfl, hRv, hBv, _⟩
      obtain ⟨Ak, ck, rfl, hck, hCk⟩ := Kd.R_reads hRv
      have CK := Aside0.mk hCk
      replace KB2 := Aside0.mk (blk_below KB2.out hBv)
      replace RB := Aside0.mk (Kd.R_below RB.out hBv)
      replace D := Aside0.mk (D.out.below hBv)
      clear hRk hBk hRv hBv hCk
      have e0 := (blk_cell D.out.kf 0).trans rfl
      have e1 := (blk_cell D.out.kf 1).trans rfl
      have e2 := (blk_cell D.out.kf 2).trans rfl
      go_wp2_with fail
      refine (cantinglaw02_of.calls fu v A c l r v o1 r _ (Kd.C_below HC.out D.out.bel) hc HO.out).mono ?_
      rintro e wq ⟨vq, rfl, hRq, hBq⟩
      obtain ⟨Aq, cq, rfl, hcq, _⟩ := Kd.R_reads hRq
      have RQ := Aside0.mk hRq
      replace CK := Aside0.mk (Kd.C_below CK.out hBq)
      replace KB2 := Aside0.mk (blk_below KB2.out hBq)
      replace RB := Aside0.mk (Kd.R_below RB.out hBq)
      replace D := Aside0.mk (D.out.below hBq)
      clear hRq hBq e0 e1 e2
      go_wp2_with fail
      refine (mask_Exists.calls v Aq cq o1 r Ak ck sr u5 z0 s5 0 _ (Kd.R_reads' RQ.out).2.2 (Kd.R_reads' RQ.out).2.1 CK.out hck HZ.out).mono ?_
      rintro e wz ⟨vz, rfl, hRz, hBz⟩
      obtain ⟨Az, cz, rfl, hcz, _⟩ := Kd.R_reads hRz
      have RZ := Aside0.mk (Kd.R_alloc (Kd.R_lower hRz D.out.bel.size) (.cells #[.int .i64 u5, .slice Az z0.length cz, .int .i64 s5] 28))
      replace KB2 := Aside0.mk (blk_alloc (blk_below KB2.out hBz) (.cells #[.int .i64 u5, .slice Az z0.length cz, .int .i64 s5] 28))
      replace RB := Aside0.mk (Kd.R_alloc (Kd.R_below RB.out hBz) (.cells #[.int .i64 u5, .slice Az z0.length cz, .int .i64 s5] 28))
      replace D := Aside0.mk ((D.out.below hBz).alloc (.cells #[.int .i64 u5, .slice Az z0.length cz, .int .i64 s5] 28))
      have KZ := Aside0.mk (blk_new wz (.cells #[.int .i64 u5, .slice Az z0.length cz, .int .i64 s5] 28))
      clear hRz hBz CK RQ
      go_wp2
      obtain ⟨Wz, hWz⟩ := D.out.wd
      rw [← hWz] at D KB2 KZ RB RZ
      rw [← hWz]
      clear hWz
      replace D := Aside0.mk D.out.drew
      replace KB2 := Aside0.mk (blk_drew KB2.out)
      replace KZ := Aside0.mk (blk_drew KZ.out)
      replace RB := Aside0.mk (Kd.R_drew RB.out)
      replace RZ := Aside0.mk (Kd.R_drew RZ.out)
      have g0_ := (blk_cell D.out.kf 0).trans rfl
      have g1_ := (blk_cell D.out.kf 1).trans rfl
      have g2_ := (blk_cell D.out.kf 2).trans rfl
      have g3_ := (blk_cell D.out.kx 0).trans rfl
      have g4_ := (blk_cell D.out.kx 1).trans rfl
      have g5_ := (blk_cell D.out.kx 2).trans rfl
      have g6_ := (blk_cell D.out.ky 0).trans rfl
      have g7_ := (blk_cell D.out.ky 1).trans rfl
      have g8_ := (blk_cell D.out.ky 2).trans rfl
      have g9_ := (blk_cell KB2.out 0).trans rfl
      have g10_ := (blk_cell KB2.out 1).trans rfl
      have g11_ := (blk_cell KB2.out 2).trans rfl
      have g12_ := (blk_cell KZ.out 0).trans rfl
      have g13_ := (blk_cell KZ.out 1).trans rfl
      have g14_ := (blk_cell KZ.out 2).trans rfl
      refine start_ (n := 42) (S := fun w' => (w'.cell? ⟨w.heap.size, 0, none⟩ = some (.int .i64 v)) ∧ (w'.cell? ⟨w.heap.size, 1, none⟩ = some (.slice A l.length c)) ∧ (w'.cell? ⟨w.heap.size, 2, none⟩ = some (.int .i64 r)) ∧ (w'.cell? ⟨w3.heap.size, 0, none⟩ = some (.int .i64 u0)) ∧ (w'.cell? ⟨w3.heap.size, 1, none⟩ = some (.slice Ax0 x0.length cx0)) ∧ (w'.cell? ⟨w3.heap.size, 2, none⟩ = some (.int .i64 s0)) ∧ (w'.cell? ⟨w23.heap.size, 0, none⟩ = some (.int .i64 u3)) ∧ (w'.cell? ⟨w23.heap.size, 1, none⟩ = some (.slice Ay0 y0.length cy0)) ∧ (w'.cell? ⟨w23.heap.size, 2, none⟩ = some (.int .i64 s3)) ∧ (w'.cell? ⟨gb, 0, none⟩ = some (.int .i64 u4)) ∧ (w'.cell? ⟨gb, 1, none⟩ = some (.slice Ab b0.length cb)) ∧ (w'.cell? ⟨gb, 2, none⟩ = some (.int .i64 s4)) ∧ (w'.cell? ⟨wz.heap.size, 0, none⟩ = some (.int .i64 u5)) ∧ (w'.cell? ⟨wz.heap.size, 1, none⟩ = some (.slice Az z0.length cz)) ∧ (w'.cell? ⟨wz.heap.size, 2, none⟩ = some (.int .i64 s5))) (ds := [39]) #[false, false, false, false, false, false, false, false, false, false, false, false, false, false, false, false, false, false, false, false, false, false, false, false, false, false, false, false, false, false, false, false, false, false, false, false, false, false, false, false, false, false] (by kernel_rfl) rfl rfl ⟨g0_, g1_, g2_, g3_, g4_, g5_, g6_, g7_, g8_, g9_, g10_, g11_, g12_, g13_, g14_⟩ (fun hHeld => ?_)
      refine with_tabW tb_MaskDuals_11.tab tb_MaskDuals_11.bits (fun HT_ HW_ => ?_)
      refine pure_ (i := 0) (N := some 67) (v := ?_) (a' := ?_) #[true, false, false, false, false, false, false, false, false, false, false, false, false, false, false, false, false, false, false, false, false, false, false, false, false, false, false, false, false, false, false, false, false, false, false, false, false, false, false, false, false, false] rfl rfl (any_of HT_.out (by kernel_rfl)) (fun _ _ _ h => h) (Or.inl ⟨by rfl, ?_⟩) ?_ ?_
      rotate_left
      · intro w'
        go_simp
        with_reducible rfl
      rotate_left
      · simp only [Act.put, List.setIfInBounds_toArray, List.set_cons_zero, List.set_cons_succ, i64_w, i32_w]
        rfl
      refine pure_ (i := 1) (N := some 68) (v := ?_) (a' := ?_) #[true, true, false, false, false, false, false, false, false, false, false, false, false, false, false, false, false, false, false, false, false, false, false, false, false, false, false, false, false, false, false, false, false, false, false, false, false, false, false, false, false, false] rfl rfl (any_of HT_.out (by kernel_rfl)) (fun _ _ _ h => h) (Or.inl ⟨by rfl, ?_⟩) ?_ ?_
      rotate_left
      · intro w'
        go_simp
        with_reducible rfl
      rotate_left
      · simp only [Act.put, List.setIfInBounds_toArray, List.set_cons_zero, List.set_cons_succ, i64_w, i32_w]
        rfl
      refine pure_ (i := 2) (N := some 69) (v := ?_) (a' := ?_) #[true, true, true, false, false, false, false, false, false, false, false, false, false, false, false, false, false, false, false, false, false, false, false, false, false, false, false, false, false, false, false, false, false, false, false, false, false, false, false, false, false, false] rfl rfl (any_of HT_.out (by kernel_rfl)) (fun _ _ _ h => h) (Or.inl ⟨by rfl, ?_⟩) ?_ ?_
      rotate_left
      · intro w'
        go_simp
        with_reducible rfl
      rotate_left
      · simp only [Act.put, List.setIfInBounds_toArray, List.set_cons_zero, List.set_cons_succ, i64_w, i32_w]
        rfl
      refine pure_ (i := 3) (N := some 70) (v := ?_) (a' := ?_) #[true, true, true, true, false, false, false, false, false, false, false, false, false, false, false, false, false, false, false, false, false, false, false, false, false, false, false, false, false, false, false, false, false, false, false, false, false, false, false, false, false, false] rfl rfl (any_of HT_.out (by kernel_rfl)) (fun _ _ _ h => h) (Or.inl ⟨by rfl, ?_⟩) ?_ ?_
      rotate_left
      · intro w'
        go_simp
        with_reducible rfl
      rotate_left
      · simp only [Act.put, List.setIfInBounds_toArray, List.set_cons_zero, List.set_cons_succ, i64_w, i32_w]
        rfl
      refine pure_ (i := 4) (N := some 71) (v := ?_) (a' := ?_) #[true, true, true, true, true, false, false, false, false, false, false, false, false, false, false, false, false, false, false, false, false, false, false, false, false, false, false, false, false, false, false, false, false, false, false, false, false, false, false, false, false, false] rfl rfl (any_of HT_.out (by kernel_rfl)) (fun _ _ _ h => h) (Or.inl ⟨by rfl, ?_⟩) ?_ ?_
      rotate_left
      · intro w'
        go_simp
        with_reducible rfl
      rotate_left
      · simp only [Act.put, List.setIfInBounds_toArray, List.set_cons_zero, List.set_cons_succ, i64_w, i32_w]
        rfl
      refine pure_ (i := 5) (N := some 72) (v := ?_) (a' := ?_) #[true, true, true, true, true, true, false, false, false, false, false, false, false, false, false, false, false, false, false, false, false, false, false, false, false, false, false, false, false, false, false, false, false, false, false, false, false, false, false, false, false, false] rfl rfl (any_of HT_.out (by kernel_rfl)) (fun _ _ _ h => h) (Or.inl ⟨by rfl, ?_⟩) ?_ ?_
      rotate_left
      · intro w'
        go_simp
        with_reducible rfl
      rotate_left
      · simp only [Act.put, List.setIfInBounds_toArray, List.set_cons_zero, List.set_cons_succ, i64_w, i32_w]
        rfl
      refine pure_ (i := 6) (N := some 73) (v := ?_) (a' := ?_) #[true, true, true, true, true, true, true, false, false, false, false, false, false, false, false, false, false, false, false, false, false, false, false, false, false, false, false, false, false, false, false, false, false, false, false, false, false, false, false, false, false, false] rfl rfl (any_of HT_.out (by kernel_rfl)) (fun _ _ _ h => h) (Or.inl ⟨by rfl, ?_⟩) ?_ ?_
      rotate_left
      · intro w'
        go_simp
        with_reducible rfl
      rotate_left
      · simp only [Act.put, List.setIfInBounds_toArray, List.set_cons_zero, List.set_cons_succ, i64_w, i32_w]
        rfl
      refine pure_ (i := 7) (N := some 74) (v := ?_) (a' := ?_) #[true, true, true, true, true, true, true, true, false, false, false, false, false, false, false, false, false, false, false, false, false, false, false, false, false, false, false, false, false, false, false, false, false, false, false, false, false, false, false, false, false, false] rfl rfl (any_of HT_.out (by kernel_rfl)) (fun _ _ _ h => h) (Or.inl ⟨by rfl, ?_⟩) ?_ ?_
      rotate_left
      · intro w'
        go_simp
        with_reducible rfl
      rotate_left
      · simp only [Act.put, List.setIfInBounds_toArray, List.set_cons_zero, List.set_cons_succ, i64_w, i32_w]
        rfl
      refine pure_ (i := 8) (N := some 75) (v := ?_) (a' := ?_) #[true, true, true, true, true, true, true, true, true, false, false, false, false, false, false, false, false, false, false, false, false, false, false, false, false, false, false, false, false, false, false, false, false, false, false, false, false, false, false, false, false, false] rfl rfl (any_of HT_.out (by kernel_rfl)) (fun _ _ _ h => h) (Or.inl ⟨by rfl, ?_⟩) ?_ ?_
      rotate_left
      · intro w'
        go_simp
        with_reducible rfl
      rotate_left
      · simp only [Act.put, List.setIfInBounds_toArray, List.set_cons_zero, List.set_cons_succ, i64_w, i32_w]
        rfl
      refine pure_ (i := 9) (N := some 76) (v := ?_) (a' := ?_) #[true, true, true, true, true, true, true, true, true, true, false, false, false, false, false, false, false, false, false, false, false, false, false, false, false, false, false, false, false, false, false, false, false, false, false, false, false, false, false, false, false, false] rfl rfl (any_of HT_.out (by kernel_rfl)) (fun _ _ _ h => h) (Or.inl ⟨by rfl, ?_⟩) ?_ ?_
      rotate_left
      · intro w'
        go_simp
        with_reducible rfl
      rotate_left
      · simp only [Act.put, List.setIfInBounds_toArray, List.set_cons_zero, List.set_cons_succ, i64_w, i32_w]
        rfl
      refine pure_ (i := 10) (N := some 77) (v := ?_) (a' := ?_) #[true, true, true, true, true, true, true, true, true, true, true, false, false, false, false, false, false, false, false, false, false, false, false, false, false, false, false, false, false, false, false, false, false, false, false, false, false, false, false, false, false, false] rfl rfl (any_of HT_.out (by kernel_rfl)) (fun _ _ _ h => h) (Or.inl ⟨by rfl, ?_⟩) ?_ ?_
      rotate_left
      · intro w'
        go_simp
        with_reducible rfl
      rotate_left
      · simp only [Act.put, List.setIfInBounds_toArray, List.set_cons_zero, List.set_cons_succ, i64_w, i32_w]
        rfl
      refine pure_ (i := 11) (N := some 78) (v := ?_) (a' := ?_) #[true, true, true, true, true, true, true, true, true, true, true, true, false, false, false, false, false, false, false, false, false, false, false, false, false, false, false, false, false, false, false, false, false, false, false, false, false, false, false, false, false, false] rfl rfl (any_of HT_.out (by kernel_rfl)) (fun _ _ _ h => h) (Or.inl ⟨by rfl, ?_⟩) ?_ ?_
      rotate_left
      · intro w'
        go_simp
        with_reducible rfl
      rotate_left
      · simp only [Act.put, List.setIfInBounds_toArray, List.set_cons_zero, List.set_cons_succ, i64_w, i32_w]
        rfl
      refine pure_ (i := 12) (N := some 79) (v := ?_) (a' := ?_) #[true, true, true, true, true, true, true, true, true, true, true, true, true, false, false, false, false, false, false, false, false, false, false, false, false, false, false, false, false, false, false, false, false, false, false, false, false, false, false, false, false, false] rfl rfl (any_of HT_.out (by kernel_rfl)) (fun _ _ _ h => h) (Or.inl ⟨by rfl, ?_⟩) ?_ ?_
      rotate_left
      · intro w'
        go_simp
        with_reducible rfl
      rotate_left
      · simp only [Act.put, List.setIfInBounds_toArray, List.set_cons_zero, List.set_cons_succ, i64_w, i32_w]
        rfl
      refine pure_ (i := 13) (N := some 80) (v := ?_) (a' := ?_) #[true, true, true, true, true, true, true, true, true, true, true, true, true, true, false, false, false, false, false, false, false, false, false, false, false, false, false, false, false, false, false, false, false, false, false, false, false, false, false, false, false, false] rfl rfl (any_of HT_.out (by kernel_rfl)) (fun _ _ _ h => h) (Or.inl ⟨by rfl, ?_⟩) ?_ ?_
      rotate_left
      · intro w'
        go_simp
        with_reducible rfl
      rotate_left
      · simp only [Act.put, List.setIfInBounds_toArray, List.set_cons_zero, List.set_cons_succ, i64_w, i32_w]
        rfl
      refine pure_ (i := 14) (N := some 81) (v := ?_) (a' := ?_) #[true, true, true, true, true, true, true, true, true, true, true, true, true, true, true, false, false, false, false, false, false, false, false, false, false, false, false, false, false, false, false, false, false, false, false, false, false, false, false, false, false, false] rfl rfl (any_of HT_.out (by kernel_rfl)) (fun _ _ _ h => h) (Or.inl ⟨by rfl, ?_⟩) ?_ ?_
      rotate_left
      · intro w'
        go_simp
        with_reducible rfl
      rotate_left
      · simp only [Act.put, List.setIfInBounds_toArray, List.set_cons_zero, List.set_cons_succ, i64_w, i32_w]
        rfl
      refine pure_ (i := 15) (N := some 82) (v := ?_) (a' := ?_) #[true, true, true, true, true, true, true, true, true, true, true, true, true, true, true, true, false, false, false, false, false, false, false, false, false, false, false, false, false, false, false, false, false, false, false, false, false, false, false, false, false, false] rfl rfl (any_of HT_.out (by kernel_rfl)) (fun _ _ _ h => h) (Or.inl ⟨by rfl, ?_⟩) ?_ ?_
      rotate_left
      · intro w'
        go_simp
        with_reducible rfl
      rotate_left
      · simp only [Act.put, List.setIfInBounds_toArray, List.set_cons_zero, List.set_cons_succ, i64_w, i32_w]
        rfl
      refine pure_ (i := 16) (N := some 83) (v := ?_) (a' := ?_) #[true, true, true, true, true, true, true, true, true, true, true, true, true, true, true, true, true, false, false, false, false, false, false, false, false, false, false, false, false, false, false, false, false, false, false, false, false, false, false, false, false, false] rfl rfl (any_of HT_.out (by kernel_rfl)) (fun _ _ _ h => h) (Or.inl ⟨by rfl, ?_⟩) ?_ ?_
      rotate_left
      · intro w'
        go_simp
        with_reducible rfl
      rotate_left
      · simp only [Act.put, List.setIfInBounds_toArray, List.set_cons_zero, List.set_cons_succ, i64_w, i32_w]
        rfl
      refine pure_ (i := 17) (N := some 84) (v := ?_) (a' := ?_) #[true, true, true, true, true, true, true, true, true, true, true, true, true, true, true, true, true, true, false, false, false, false, false, false, false, false, false, false, false, false, false, false, false, false, false, false, false, false, false, false, false, false] rfl rfl (any_of HT_.out (by kernel_rfl)) (fun _ _ _ h => h) (Or.inl ⟨by rfl, ?_⟩) ?_ ?_
      rotate_left
      · intro w'
        go_simp
        with_reducible rfl
      rotate_left
      · simp only [Act.put, List.setIfInBounds_toArray, List.set_cons_zero, List.set_cons_succ, i64_w, i32_w]
        rfl
      refine pure_ (i := 18) (N := some 85) (v := ?_) (a' := ?_) #[true, true, true, true, true, true, true, true, true, true, true, true, true, true, true, true, true, true, true, false, false, false, false, false, false, false, false, false, false, false, false, false, false, false, false, false, false, false, false, false, false, false] rfl rfl (any_of HT_.out (by kernel_rfl)) (fun _ _ _ h => h) (Or.inl ⟨by rfl, ?_⟩) ?_ ?_
      rotate_left
      · intro w'
        go_simp
        with_reducible rfl
      rotate_left
      · simp only [Act.put, List.setIfInBounds_toArray, List.set_cons_zero, List.set_cons_succ, i64_w, i32_w]
        rfl
      refine take_ (i := 19) (N := some 86) (v := ?_) (a' := ?_) #[true, true, true, true, true, true, true, true, true, true, true, true, true, true, true, true, true, true, true, true, false, false, false, false, false, false, false, false, false, false, false, false, false, false, false, false, false, false, false, false, false, false] rfl rfl (take_ofW HT_.out HW_.out (by kernel_rfl)) (fun _ _ _ h => h) (Or.inl ⟨by rfl, ?_⟩) hHeld ?_ ?_
      rotate_left
      · rintro w' ⟨s0, s1, s2, s3, s4, s5, s6, s7, s8, s9, s10, s11, s12, s13, s14⟩
        go_simp
        with_reducible rfl
      rotate_left
      · simp only [Act.put, List.setIfInBounds_toArray, List.set_cons_zero, List.set_cons_succ, i64_w, i32_w]
        rfl
      refine take_ (i := 21) (N := some 88) (v := ?_) (a' := ?_) #[true, true, true, true, true, true, true, true, true, true, true, true, true, true, true, true, true, true, true, true, false, true, false, false, false, false, false, false, false, false, false, false, false, false, false, false, false, false, false, false, false, false] rfl rfl (take_ofW HT_.out HW_.out (by kernel_rfl)) (fun _ _ _ h => h) (Or.inl ⟨by rfl, ?_⟩) hHeld ?_ ?_
      rotate_left
      · rintro w' ⟨s0, s1, s2, s3, s4, s5, s6, s7, s8, s9, s10, s11, s12, s13, s14⟩
        go_simp
        with_reducible rfl
      rotate_left
      · simp only [Act.put, List.setIfInBounds_toArray, List.set_cons_zero, List.set_cons_succ, i64_w, i32_w]
        rfl
      refine one_ (i := 20) (N := some 87) #[true, true, true, true, true, true, true, true, true, true, true, true, true, true, true, true, true, true, true, true, true, true, false, false, false, false, false, false, false, false, false, false, false, false, false, false, false, false, false, false, false, false] rfl rfl (one_of HT_.out (by kernel_rfl)) (by decide) (fun K hK => ?_)
      refine goes_ Try.func37 (by kernel_rfl) rfl #[.agg #[.int .i64 u0, .slice Ax0 x0.length cx0, .int .i64 s0]] (by rfl) rfl rfl (by simp only [List.map_toArray, List.map_cons, List.map_nil]; rfl) ?_
      refine (cantinglaw02_own.calls fu u0 Ax0 cx0 x0 s0 u0 xr s0 _ (Kd.R_reads' D.out.rx).2.2 (Kd.R_reads' D.out.rx).2.1 HW.out.1).mono ?_
      rintro e wo ⟨vo, rfl, hRo, hBo⟩
      obtain ⟨ARX, cRX, rfl, _, _⟩ := Kd.R_reads hRo
      refine ⟨_, rfl, ?_⟩
      have RX := Aside0.mk (Kd.R_lower hRo D.out.bel.size)
      replace KB2 := Aside0.mk (blk_below KB2.out hBo)
      replace KZ := Aside0.mk (blk_below KZ.out hBo)
      replace RB := Aside0.mk (Kd.R_below RB.out hBo)
      replace RZ := Aside0.mk (Kd.R_below RZ.out hBo)
      replace D := Aside0.mk (D.out.below hBo)
      clear hRo hBo
      refine hK.out _ _ ⟨(blk_cell D.out.kf 0).trans rfl, (blk_cell D.out.kf 1).trans rfl, (blk_cell D.out.kf 2).trans rfl, (blk_cell D.out.kx 0).trans rfl, (blk_cell D.out.kx 1).trans rfl, (blk_cell D.out.kx 2).trans rfl, (blk_cell D.out.ky 0).trans rfl, (blk_cell D.out.ky 1).trans rfl, (blk_cell D.out.ky 2).trans rfl, (blk_cell KB2.out 0).trans rfl, (blk_cell KB2.out 1).trans rfl, (blk_cell KB2.out 2).trans rfl, (blk_cell KZ.out 0).trans rfl, (blk_cell KZ.out 1).trans rfl, (blk_cell KZ.out 2).trans rfl⟩ (fun hHeld => ?_)
      clear hK K
      refine norm_ (a' := ?_) ?_ ?_
      rotate_left
      · show Act.put _ (some 87) _ = _
        (try simp only [Act.put, List.setIfInBounds_toArray, List.set_cons_zero, List.set_cons_succ, i64_w, i32_w])
        rfl
      refine one_ (i := 22) (N := some 89) #[true, true, true, true, true, true, true, true, true, true, true, true, true, true, true, true, true, true, true, true, true, true, true, false, false, false, false, false, false, false, false, false, false, false, false, false, false, false, false, false, false, false] rfl rfl (one_of HT_.out (by kernel_rfl)) (by decide) (fun K hK => ?_)
      refine goes_ Try.func37 (by kernel_rfl) rfl #[.agg #[.int .i64 u3, .slice Ay0 y0.length cy0, .int .i64 s3]] (by rfl) rfl rfl (by simp only [List.map_toArray, List.map_cons, List.map_nil]; rfl) ?_
      refine (cantinglaw02_own.calls fu u3 Ay0 cy0 y0 s3 u3 yr s3 _ (Kd.R_reads' D.out.ry).2.2 (Kd.R_reads' D.out.ry).2.1 HW.out.2.1).mono ?_
      rintro e wo ⟨vo, rfl, hRo, hBo⟩
      obtain ⟨ARY, cRY, rfl, _, _⟩ := Kd.R_reads hRo
      refine ⟨_, rfl, ?_⟩
      have RY := Aside0.mk (Kd.R_lower hRo D.out.bel.size)
      replace RX := Aside0.mk (Kd.R_below RX.out hBo)
      replace KB2 := Aside0.mk (blk_below KB2.out hBo)
      replace KZ := Aside0.mk (blk_below KZ.out hBo)
      replace RB := Aside0.mk (Kd.R_below RB.out hBo)
      replace RZ := Aside0.mk (Kd.R_below RZ.out hBo)
      replace D := Aside0.mk (D.out.below hBo)
      clear hRo hBo
      refine hK.out _ _ ⟨(blk_cell D.out.kf 0).trans rfl, (blk_cell D.out.kf 1).trans rfl, (blk_cell D.out.kf 2).trans rfl, (blk_cell D.out.kx 0).trans rfl, (blk_cell D.out.kx 1).trans rfl, (blk_cell D.out.kx 2).trans rfl, (blk_cell D.out.ky 0).trans rfl, (blk_cell D.out.ky 1).trans rfl, (blk_cell D.out.ky 2).trans rfl, (blk_cell KB2.out 0).trans rfl, (blk_cell KB2.out 1).trans rfl, (blk_cell KB2.out 2).trans rfl, (blk_cell KZ.out 0).trans rfl, (blk_cell KZ.out 1).trans rfl, (blk_cell KZ.out 2).trans rfl⟩ (fun hHeld => ?_)
      clear hK K
      refine norm_ (a' := ?_) ?_ ?_
      rotate_left
      · show Act.put _ (some 89) _ = _
        (try simp only [Act.put, List.setIfInBounds_toArray, List.set_cons_zero, List.set_cons_succ, i64_w, i32_w])
        rfl
      refine one_ (i := 23) (N := some 90) #[true, true, true, true, true, true, true, true, true, true, true, true, true, true, true, true, true, true, true, true, true, true, true, true, false, false, false, false, false, false, false, false, false, false, false, false, false, false, false, false, false, false] rfl rfl (one_of HT_.out (by kernel_rfl)) (by decide) (fun K hK => ?_)
      refine goes_ Try.func36 (by kernel_rfl) rfl #[.agg #[.int .i64 u0, .slice ARX xr.length cRX, .int .i64 s0], .agg #[.int .i64 u3, .slice ARY yr.length cRY, .int .i64 s3]] (by rfl) rfl rfl (by simp only [List.map_toArray, List.map_cons, List.map_nil]; rfl) ?_
      refine (cantingref02_Same.calls fu u0 ARX cRX xr s0 u3 ARY cRY yr s3 true _ (Kd.R_reads' RX.out).2.2 (Kd.R_reads' RX.out).2.1 (Kd.R_reads' RY.out).2.2 (Kd.R_reads' RY.out).2.1 HSS.out.1).mono ?_
      rintro e wo ⟨rfl, hBo⟩
      refine ⟨_, rfl, ?_⟩
      clear RX
      clear RY
      replace KB2 := Aside0.mk (blk_below KB2.out hBo)
      replace KZ := Aside0.mk (blk_below KZ.out hBo)
      replace RB := Aside0.mk (Kd.R_below RB.out hBo)
      replace RZ := Aside0.mk (Kd.R_below RZ.out hBo)
      replace D := Aside0.mk (D.out.below hBo)
      clear hBo
      refine hK.out _ _ ⟨(blk_cell D.out.kf 0).trans rfl, (blk_cell D.out.kf 1).trans rfl, (blk_cell D.out.kf 2).trans rfl, (blk_cell D.out.kx 0).trans rfl, (blk_cell D.out.kx 1).trans rfl, (blk_cell D.out.kx 2).trans rfl, (blk_cell D.out.ky 0).trans rfl, (blk_cell D.out.ky 1).trans rfl, (blk_cell D.out.ky 2).trans rfl, (blk_cell KB2.out 0).trans rfl, (blk_cell KB2.out 1).trans rfl, (blk_cell KB2.out 2).trans rfl, (blk_cell KZ.out 0).trans rfl, (blk_cell KZ.out 1).trans rfl, (blk_cell KZ.out 2).trans rfl⟩ (fun hHeld => ?_)
      clear hK K
      refine norm_ (a' := ?_) ?_ ?_
      rotate_left
      · show Act.put _ (some 90) _ = _
        (try simp only [Act.put, List.setIfInBounds_toArray, List.set_cons_zero, List.set_cons_succ, i64_w, i32_w])
        rfl
      refine pure_ (i := 24) (N := some 91) (v := ?_) (a' := ?_) #[true, true, true, true, true, true, true, true, true, true, true, true, true, true, true, true, true, true, true, true, true, true, true, true, true, false, false, false, false, false, false, false, false, false, false, false, false, false, false, false, false, false] rfl rfl (any_of HT_.out (by kernel_rfl)) (fun _ _ _ h => h) (Or.inl ⟨by rfl, ?_⟩) ?_ ?_
      rotate_left
      · intro w'
        go_simp
        with_reducible rfl
      rotate_left
      · simp only [Act.put, List.setIfInBounds_toArray, List.set_cons_zero, List.set_cons_succ, i64_w, i32_w]
        rfl
      refine pure_ (i := 25) (N := some 92) (v := ?_) (a' := ?_) #[true, true, true, true, true, true, true, true, true, true, true, true, true, true, true, true, true, true, true, true, true, true, true, true, true, true, false, false, false, false, false, false, false, false, false, false, false, false, false, false, false, false] rfl rfl (any_of HT_.out (by kernel_rfl)) (fun _ _ _ h => h) (Or.inl ⟨by rfl, ?_⟩) ?_ ?_
      rotate_left
      · intro w'
        go_simp
        with_reducible rfl
      rotate_left
      · simp only [Act.put, List.setIfInBounds_toArray, List.set_cons_zero, List.set_cons_succ, i64_w, i32_w]
        rfl
      refine take_ (i := 26) (N := some 93) (v := ?_) (a' := ?_) #[true, true, true, true, true, true, true, true, true, true, true, true, true, true, true, true, true, true, true, true, true, true, true, true, true, true, true, false, false, false, false, false, false, false, false, false, false, false, false, false, false, false] rfl rfl (take_ofW HT_.out HW_.out (by kernel_rfl)) (fun _ _ _ h => h) (Or.inl ⟨by rfl, ?_⟩) hHeld ?_ ?_
      rotate_left
      · rintro w' ⟨s0, s1, s2, s3, s4, s5, s6, s7, s8, s9, s10, s11, s12, s13, s14⟩
        go_simp
        with_reducible rfl
      rotate_left
      · simp only [Act.put, List.setIfInBounds_toArray, List.set_cons_zero, List.set_cons_succ, i64_w, i32_w]
        rfl
      refine take_ (i := 28) (N := some 95) (v := ?_) (a' := ?_) #[true, true, true, true, true, true, true, true, true, true, true, true, true, true, true, true, true, true, true, true, true, true, true, true, true, true, true, false, true, false, false, false, false, false, false, false, false, false, false, false, false, false] rfl rfl (take_ofW HT_.out HW_.out (by kernel_rfl)) (fun _ _ _ h => h) (Or.inl ⟨by rfl, ?_⟩) hHeld ?_ ?_
      rotate_left
      · rintro w' ⟨s0, s1, s2, s3, s4, s5, s6, s7, s8, s9, s10, s11, s12, s13, s14⟩
        go_simp
        with_reducible rfl
      rotate_left
      · simp only [Act.put, List.setIfInBounds_toArray, List.set_cons_zero, List.set_cons_succ, i64_w, i32_w]
        rfl
      refine one_ (i := 27) (N := some 94) #[true, true, true, true, true, true, true, true, true, true, true, true, true, true, true, true, true, true, true, true, true, true, true, true, true, true, true, true, true, false, false, false, false, false, false, false, false, false, false, false, false, false] rfl rfl (one_of HT_.out (by kernel_rfl)) (by decide) (fun K hK => ?_)
      refine goes_ Try.func37 (by kernel_rfl) rfl #[.agg #[.int .i64 u4, .slice Ab b0.length cb, .int .i64 s4]] (by rfl) rfl rfl (by simp only [List.map_toArray, List.map_cons, List.map_nil]; rfl) ?_
      refine (cantinglaw02_own.calls fu u4 Ab cb b0 s4 u4 br s4 _ (Kd.R_reads' RB.out).2.2 (Kd.R_reads' RB.out).2.1 HW.out.2.2.1).mono ?_
      rintro e wo ⟨vo, rfl, hRo, hBo⟩
      obtain ⟨ARBR, cRBR, rfl, _, _⟩ := Kd.R_reads hRo
      refine ⟨_, rfl, ?_⟩
      have RBR := Aside0.mk (Kd.R_lower hRo D.out.bel.size)
      replace KB2 := Aside0.mk (blk_below KB2.out hBo)
      replace KZ := Aside0.mk (blk_below KZ.out hBo)
      replace RB := Aside0.mk (Kd.R_below RB.out hBo)
      replace RZ := Aside0.mk (Kd.R_below RZ.out hBo)
      replace D := Aside0.mk (D.out.below hBo)
      clear hRo hBo
      refine hK.out _ _ ⟨(blk_cell D.out.kf 0).trans rfl, (blk_cell D.out.kf 1).trans rfl, (blk_cell D.out.kf 2).trans rfl, (blk_cell D.out.kx 0).trans rfl, (blk_cell D.out.kx 1).trans rfl, (blk_cell D.out.kx 2).trans rfl, (blk_cell D.out.ky 0).trans rfl, (blk_cell D.out.ky 1).trans rfl, (blk_cell D.out.ky 2).trans rfl, (blk_cell KB2.out 0).trans rfl, (blk_cell KB2.out 1).trans rfl, (blk_cell KB2.out 2).trans rfl, (blk_cell KZ.out 0).trans rfl, (blk_cell KZ.out 1).trans rfl, (blk_cell KZ.out 2).trans rfl⟩ (fun hHeld => ?_)
      clear hK K
      refine norm_ (a' := ?_) ?_ ?_
      rotate_left
      · show Act.put _ (some 94) _ = _
        (try simp only [Act.put, List.setIfInBounds_toArray, List.set_cons_zero, List.set_cons_succ, i64_w, i32_w])
        rfl
      refine one_ (i := 29) (N := some 96) #[true, true, true, true, true, true, true, true, true, true, true, true, true, true, true, true, true, true, true, true, true, true, true, true, true, true, true, true, true, true, false, false, false, false, false, false, false, false, false, false, false, false] rfl rfl (one_of HT_.out (by kernel_rfl)) (by decide) (fun K hK => ?_)
      refine goes_ Try.func36 (by kernel_rfl) rfl #[.agg #[.int .i64 u4, .slice ARBR br.length cRBR, .int .i64 s4], .agg #[.int .i64 v, .slice A l.length c, .int .i64 r]] (by rfl) rfl rfl (by simp only [List.map_toArray, List.map_cons, List.map_nil]; rfl) ?_
      refine (cantingref02_Same.calls fu u4 ARBR cRBR br s4 v A c l r true _ (Kd.R_reads' RBR.out).2.2 (Kd.R_reads' RBR.out).2.1 (Kd.C_below HC.out D.out.bel) hc HSS.out.2.1).mono ?_
      rintro e wo ⟨rfl, hBo⟩
      refine ⟨_, rfl, ?_⟩
      clear RBR
      replace KB2 := Aside0.mk (blk_below KB2.out hBo)
      replace KZ := Aside0.mk (blk_below KZ.out hBo)
      replace RB := Aside0.mk (Kd.R_below RB.out hBo)
      replace RZ := Aside0.mk (Kd.R_below RZ.out hBo)
      replace D := Aside0.mk (D.out.below hBo)
      clear hBo
      refine hK.out _ _ ⟨(blk_cell D.out.kf 0).trans rfl, (blk_cell D.out.kf 1).trans rfl, (blk_cell D.out.kf 2).trans rfl, (blk_cell D.out.kx 0).trans rfl, (blk_cell D.out.kx 1).trans rfl, (blk_cell D.out.kx 2).trans rfl, (blk_cell D.out.ky 0).trans rfl, (blk_cell D.out.ky 1).trans rfl, (blk_cell D.out.ky 2).trans rfl, (blk_cell KB2.out 0).trans rfl, (blk_cell KB2.out 1).trans rfl, (blk_cell KB2.out 2).trans rfl, (blk_cell KZ.out 0).trans rfl, (blk_cell KZ.out 1).trans rfl, (blk_cell KZ.out 2).trans rfl⟩ (fun hHeld => ?_)
      clear hK K
      refine norm_ (a' := ?_) ?_ ?_
      rotate_left
      · show Act.put _ (some 96) _ = _
        (try simp only [Act.put, List.setIfInBounds_toArray, List.set_cons_zero, List.set_cons_succ, i64_w, i32_w])
        rfl
      refine pure_ (i := 30) (N := some 97) (v := ?_) (a' := ?_) #[true, true, true, true, true, true, true, true, true, true, true, true, true, true, true, true, true, true, true, true, true, true, true, true, true, true, true, true, true, true, true, false, false, false, false, false, false, false, false, false, false, false] rfl rfl (any_of HT_.out (by kernel_rfl)) (fun _ _ _ h => h) (Or.inl ⟨by rfl, ?_⟩) ?_ ?_
      rotate_left
      · intro w'
        go_simp
        with_reducible rfl
      rotate_left
      · simp only [Act.put, List.setIfInBounds_toArray, List.set_cons_zero, List.set_cons_succ, i64_w, i32_w]
        rfl
      refine pure_ (i := 31) (N := some 98) (v := ?_) (a' := ?_) #[true, true, true, true, true, true, true, true, true, true, true, true, true, true, true, true, true, true, true, true, true, true, true, true, true, true, true, true, true, true, true, true, false, false, false, false, false, false, false, false, false, false] rfl rfl (any_of HT_.out (by kernel_rfl)) (fun _ _ _ h => h) (Or.inl ⟨by rfl, ?_⟩) ?_ ?_
      rotate_left
      · intro w'
        go_simp
        with_reducible rfl
      rotate_left
      · simp only [Act.put, List.setIfInBounds_toArray, List.set_cons_zero, List.set_cons_succ, i64_w, i32_w]
        rfl
      refine take_ (i := 32) (N := some 99) (v := ?_) (a' := ?_) #[true, true, true, true, true, true, true, true, true, true, true, true, true, true, true, true, true, true, true, true, true, true, true, true, true, true, true, true, true, true, true, true, true, false, false, false, false, false, false, false, false, false] rfl rfl (take_ofW HT_.out HW_.out (by kernel_rfl)) (fun _ _ _ h => h) (Or.inl ⟨by rfl, ?_⟩) hHeld ?_ ?_
      rotate_left
      · rintro w' ⟨s0, s1, s2, s3, s4, s5, s6, s7, s8, s9, s10, s11, s12, s13, s14⟩
        go_simp
        with_reducible rfl
      rotate_left
      · simp only [Act.put, List.setIfInBounds_toArray, List.set_cons_zero, List.set_cons_succ, i64_w, i32_w]
        rfl
      refine take_ (i := 34) (N := some 101) (v := ?_) (a' := ?_) #[true, true, true, true, true, true, true, true, true, true, true, true, true, true, true, true, true, true, true, true, true, true, true, true, true, true, true, true, true, true, true, true, true, false, true, false, false, false, false, false, false, false] rfl rfl (take_ofW HT_.out HW_.out (by kernel_rfl)) (fun _ _ _ h => h) (Or.inl ⟨by rfl, ?_⟩) hHeld ?_ ?_
      rotate_left
      · rintro w' ⟨s0, s1, s2, s3, s4, s5, s6, s7, s8, s9, s10, s11, s12, s13, s14⟩
        go_simp
        with_reducible rfl
      rotate_left
      · simp only [Act.put, List.setIfInBounds_toArray, List.set_cons_zero, List.set_cons_succ, i64_w, i32_w]
        rfl
      refine one_ (i := 33) (N := some 100) #[true, true, true, true, true, true, true, true, true, true, true, true, true, true, true, true, true, true, true, true, true, true, true, true, true, true, true, true, true, true, true, true, true, true, true, false, false, false, false, false, false, false] rfl rfl (one_of HT_.out (by kernel_rfl)) (by decide) (fun K hK => ?_)
      refine goes_ Try.func37 (by kernel_rfl) rfl #[.agg #[.int .i64 u0, .slice Ax0 x0.length cx0, .int .i64 s0]] (by rfl) rfl rfl (by simp only [List.map_toArray, List.map_cons, List.map_nil]; rfl) ?_
      refine (cantinglaw02_own.calls fu u0 Ax0 cx0 x0 s0 u0 xr s0 _ (Kd.R_reads' D.out.rx).2.2 (Kd.R_reads' D.out.rx).2.1 HW.out.1).mono ?_
      rintro e wo ⟨vo, rfl, hRo, hBo⟩
      obtain ⟨ARX3, cRX3, rfl, _, _⟩ := Kd.R_reads hRo
      refine ⟨_, rfl, ?_⟩
      have RX3 := Aside0.mk (Kd.R_lower hRo D.out.bel.size)
      replace KB2 := Aside0.mk (blk_below KB2.out hBo)
      replace KZ := Aside0.mk (blk_below KZ.out hBo)
      replace RB := Aside0.mk (Kd.R_below RB.out hBo)
      replace RZ := Aside0.mk (Kd.R_below RZ.out hBo)
      replace D := Aside0.mk (D.out.below hBo)
      clear hRo hBo
      refine hK.out _ _ ⟨(blk_cell D.out.kf 0).trans rfl, (blk_cell D.out.kf 1).trans rfl, (blk_cell D.out.kf 2).trans rfl, (blk_cell D.out.kx 0).trans rfl, (blk_cell D.out.kx 1).trans rfl, (blk_cell D.out.kx 2).trans rfl, (blk_cell D.out.ky 0).trans rfl, (blk_cell D.out.ky 1).trans rfl, (blk_cell D.out.ky 2).trans rfl, (blk_cell KB2.out 0).trans rfl, (blk_cell KB2.out 1).trans rfl, (blk_cell KB2.out 2).trans rfl, (blk_cell KZ.out 0).trans rfl, (blk_cell KZ.out 1).trans rfl, (blk_cell KZ.out 2).trans rfl⟩ (fun hHeld => ?_)
      clear hK K
      refine norm_ (a' := ?_) ?_ ?_
      rotate_left
      · show Act.put _ (some 100) _ = _
        (try simp only [Act.put, List.setIfInBounds_toArray, List.set_cons_zero, List.set_cons_succ, i64_w, i32_w])
        rfl
      refine one_ (i := 35) (N := some 102) #[true, true, true, true, true, true, true, true, true, true, true, true, true, true, true, true, true, true, true, true, true, true, true, true, true, true, true, true, true, true, true, true, true, true, true, true, false, false, false, false, false, false] rfl rfl (one_of HT_.out (by kernel_rfl)) (by decide) (fun K hK => ?_)
      refine goes_ Try.func37 (by kernel_rfl) rfl #[.agg #[.int .i64 u5, .slice Az z0.length cz, .int .i64 s5]] (by rfl) rfl rfl (by simp only [List.map_toArray, List.map_cons, List.map_nil]; rfl) ?_
      refine (cantinglaw02_own.calls fu u5 Az cz z0 s5 u5 zr s5 _ (Kd.R_reads' RZ.out).2.2 (Kd.R_reads' RZ.out).2.1 HW.out.2.2.2).mono ?_
      rintro e wo ⟨vo, rfl, hRo, hBo⟩
      obtain ⟨ARZR, cRZR, rfl, _, _⟩ := Kd.R_reads hRo
      refine ⟨_, rfl, ?_⟩
      have RZR := Aside0.mk (Kd.R_lower hRo D.out.bel.size)
      replace RX3 := Aside0.mk (Kd.R_below RX3.out hBo)
      replace KB2 := Aside0.mk (blk_below KB2.out hBo)
      replace KZ := Aside0.mk (blk_below KZ.out hBo)
      replace RB := Aside0.mk (Kd.R_below RB.out hBo)
      replace RZ := Aside0.mk (Kd.R_below RZ.out hBo)
      replace D := Aside0.mk (D.out.below hBo)
      clear hRo hBo
      refine hK.out _ _ ⟨(blk_cell D.out.kf 0).trans rfl, (blk_cell D.out.kf 1).trans rfl, (blk_cell D.out.kf 2).trans rfl, (blk_cell D.out.kx 0).trans rfl, (blk_cell D.out.kx 1).trans rfl, (blk_cell D.out.kx 2).trans rfl, (blk_cell D.out.ky 0).trans rfl, (blk_cell D.out.ky 1).trans rfl, (blk_cell D.out.ky 2).trans rfl, (blk_cell KB2.out 0).trans rfl, (blk_cell KB2.out 1).trans rfl, (blk_cell KB2.out 2).trans rfl, (blk_cell KZ.out 0).trans rfl, (blk_cell KZ.out 1).trans rfl, (blk_cell KZ.out 2).trans rfl⟩ (fun hHeld => ?_)
      clear hK K
      refine norm_ (a' := ?_) ?_ ?_
      rotate_left
      · show Act.put _ (some 102) _ = _
        (try simp only [Act.put, List.setIfInBounds_toArray, List.set_cons_zero, List.set_cons_succ, i64_w, i32_w])
        rfl
      refine one_ (i := 36) (N := some 103) #[true, true, true, true, true, true, true, true, true, true, true, true, true, true, true, true, true, true, true, true, true, true, true, true, true, true, true, true, true, true, true, true, true, true, true, true, true, false, false, false, false, false] rfl rfl (one_of HT_.out (by kernel_rfl)) (by decide) (fun K hK => ?_)
      refine goes_ Try.func36 (by kernel_rfl) rfl #[.agg #[.int .i64 u0, .slice ARX3 xr.length cRX3, .int .i64 s0], .agg #[.int .i64 u5, .slice ARZR zr.length cRZR, .int .i64 s5]] (by rfl) rfl rfl (by simp only [List.map_toArray, List.map_cons, List.map_nil]; rfl) ?_
      refine (cantingref02_Same.calls fu u0 ARX3 cRX3 xr s0 u5 ARZR cRZR zr s5 true _ (Kd.R_reads' RX3.out).2.2 (Kd.R_reads' RX3.out).2.1 (Kd.R_reads' RZR.out).2.2 (Kd.R_reads' RZR.out).2.1 HSS.out.2.2.1).mono ?_
      rintro e wo ⟨rfl, hBo⟩
      refine ⟨_, rfl, ?_⟩
      clear RX3
      clear RZR
      replace KB2 := Aside0.mk (blk_below KB2.out hBo)
      replace KZ := Aside0.mk (blk_below KZ.out hBo)
      replace RB := Aside0.mk (Kd.R_below RB.out hBo)
      replace RZ := Aside0.mk (Kd.R_below RZ.out hBo)
      replace D := Aside0.mk (D.out.below hBo)
      clear hBo
      refine hK.out _ _ ⟨(blk_cell D.out.kf 0).trans rfl, (blk_cell D.out.kf 1).trans rfl, (blk_cell D.out.kf 2).trans rfl, (blk_cell D.out.kx 0).trans rfl, (blk_cell D.out.kx 1).trans rfl, (blk_cell D.out.kx 2).trans rfl, (blk_cell D.out.ky 0).trans rfl, (blk_cell D.out.ky 1).trans rfl, (blk_cell D.out.ky 2).trans rfl, (blk_cell KB2.out 0).trans rfl, (blk_cell KB2.out 1).trans rfl, (blk_cell KB2.out 2).trans rfl, (blk_cell KZ.out 0).trans rfl, (blk_cell KZ.out 1).trans rfl, (blk_cell KZ.out 2).trans rfl⟩ (fun hHeld => ?_)
      clear hK K
      refine norm_ (a' := ?_) ?_ ?_
      rotate_left
      · show Act.put _ (some 103) _ = _
        (try simp only [Act.put, List.setIfInBounds_toArray, List.set_cons_zero, List.set_cons_succ, i64_w, i32_w])
        rfl
      refine pure_ (i := 37) (N := some 104) (v := ?_) (a' := ?_) #[true, true, true, true, true, true, true, true, true, true, true, true, true, true, true, true, true, true, true, true, true, true, true, true, true, true, true, true, true, true, true, true, true, true, true, true, true, true, false, false, false, false] rfl rfl (any_of HT_.out (by kernel_rfl)) (fun _ _ _ h => h) (Or.inl ⟨by rfl, ?_⟩) ?_ ?_
      rotate_left
      · intro w'
        go_simp
        with_reducible rfl
      rotate_left
      · simp only [Act.put, List.setIfInBounds_toArray, List.set_cons_zero, List.set_cons_succ, i64_w, i32_w]
        rfl
      refine pure_ (i := 38) (N := some 105) (v := ?_) (a' := ?_) #[true, true, true, true, true, true, true, true, true, true, true, true, true, true, true, true, true, true, true, true, true, true, true, true, true, true, true, true, true, true, true, true, true, true, true, true, true, true, true, false, false, false] rfl rfl (any_of HT_.out (by kernel_rfl)) (fun _ _ _ h => h) (Or.inl ⟨by rfl, ?_⟩) ?_ ?_
      rotate_left
      · intro w'
        go_simp
        with_reducible rfl
      rotate_left
      · simp only [Act.put, List.setIfInBounds_toArray, List.set_cons_zero, List.set_cons_succ, i64_w, i32_w]
        rfl
      refine last_ (i := 39) (N := some 106) #[true, true, true, true, true, true, true, true, true, true, true, true, true, true, true, true, true, true, true, true, true, true, true, true, true, true, true, true, true, true, true, true, true, true, true, true, true, true, true, true, false, false] rfl rfl (one_of HT_.out (by kernel_rfl)) (by decide) (fun K hK => ?_)
      refine goes_ Try.func24 (by kernel_rfl) rfl #[] (by rfl) rfl rfl (by simp only [List.map_toArray, List.map_nil]) ?_
      refine (cantinglaw02_awake.calls fu true _ HSS.out.2.2.2).mono ?_
      rintro e wo ⟨rfl, hBo⟩
      refine ⟨_, rfl, ?_⟩
      replace D := Aside0.mk (D.out.below hBo)
      clear hBo
      refine hK.out _ _ ?_
      clear hK K
      refine norm_ (a' := ?_) ?_ ?_
      rotate_left
      · show Act.put _ (some 106) _ = _
        (try simp only [Act.put, List.setIfInBounds_toArray, List.set_cons_zero, List.set_cons_succ, i64_w, i32_w])
        rfl
      refine pure_ (i := 40) (N := some 107) (v := ?_) (a' := ?_) #[true, true, true, true, true, true, true, true, true, true, true, true, true, true, true, true, true, true, true, true, true, true, true, true, true, true, true, true, true, true, true, true, true, true, true, true, true, true, true, true, true, false] rfl rfl (any_of HT_.out (by kernel_rfl)) (fun _ _ _ h => h) (Or.inl ⟨by rfl, ?_⟩) ?_ ?_
      rotate_left
      · intro w'
        go_simp
        with_reducible rfl
      rotate_left
      · simp only [Act.put, List.setIfInBounds_toArray, List.set_cons_zero, List.set_cons_succ, i64_w, i32_w]
        rfl
      refine pure_ (i := 41) (N := some 4) (v := ?_) (a' := ?_) #[true, true, true, true, true, true, true, true, true, true, true, true, true, true, true, true, true, true, true, true, true, true, true, true, true, true, true, true, true, true, true, true, true, true, true, true, true, true, true, true, true, true] rfl rfl (any_of HT_.out (by kernel_rfl)) (fun _ _ _ h => h) (Or.inl ⟨by rfl, ?_⟩) ?_ ?_
      rotate_left
      · intro w'
        go_simp
        with_reducible rfl
      rotate_left
      · simp only [Act.put, List.setIfInBounds_toArray, List.set_cons_zero, List.set_cons_succ, i64_w, i32_w]
        rfl
      refine done_ (done_of HT_.out (by kernel_rfl)) ?_
      go_wp2
      go_ret
      exact ⟨by rfl, D.out.bel⟩
  · refine value_ (w1 := ?_) (v := ?_) (by rfl) rfl ?_ ?_
    rotate_left 2
    · go_simp
      constructor
      · rfl
      · rfl
    obtain ⟨gb, hgb⟩ := D.out.sz
    have KB := Aside0.mk (D.out.blkNew (.cells #[.int .i64 0, .slice none 0 0, .int .i64 0] 28))
    have GB := Aside0.mk (show w.heap.size < gb ∧ w3.heap.size < gb ∧ w23.heap.size < gb from by rw [hgb]; exact ⟨blk_lt D.out.kf, blk_lt D.out.kx, blk_lt D.out.ky⟩)
    replace D := Aside0.mk (D.out.alloc (.cells #[.int .i64 0, .slice none 0 0, .int .i64 0] 28))
    try (replace RO := Aside0.mk (Kd.R_alloc RO.out (.cells #[.int .i64 0, .slice none 0 0, .int .i64 0] 28)))
    try (replace RB := Aside0.mk (Kd.R_alloc RB.out (.cells #[.int .i64 0, .slice none 0 0, .int .i64 0] 28)))
    rw [← hgb] at KB
    first | rw [← hgb] | (replace hgb : gb = W26.heap.size := hgb; rw [← hgb])
    clear hgb
    refine hK.out _ _ ⟨(blk_cell D.out.kf 0).trans rfl, (blk_cell D.out.kf 1).trans rfl, (blk_cell D.out.kf 2).trans rfl, (blk_cell D.out.kx 0).trans rfl, (blk_cell D.out.kx 1).trans rfl, (blk_cell D.out.kx 2).trans rfl⟩ (fun hHeld => ?_)
    clear hK K
    refine norm_ (a' := ?_) ?_ ?_
    rotate_left
    · show Act.put _ (some 13) _ = _
      (try simp only [Act.put, List.setIfInBounds_toArray, List.set_cons_zero, List.set_cons_succ, i64_w, i32_w])
      rfl
    refine one_ (i := 1) (N := some 51) #[true, true, true, false, false, false, false, true, false, false] rfl rfl (one_of HT_.out (by kernel_rfl)) (by decide) (fun K hK => ?_)
    refine goes_ Try.func30 (by kernel_rfl) rfl #[.agg #[.int .i64 v, .slice A l.length c, .int .i64 r]] (by rfl) rfl rfl (by simp only [List.map_toArray, List.map_cons, List.map_nil]; rfl) ?_
    refine (cantinglaw02_of.calls fu v A c l r v o1 r _ (Kd.C_below HC.out D.out.bel) hc HO.out).mono ?_
    rintro e wo ⟨vo, rfl, hRo, hBo⟩
    obtain ⟨Ao3, co3, rfl, hco3, _⟩ := Kd.R_reads hRo
    refine ⟨_, rfl, ?_⟩
    have RO := Aside0.mk (Kd.R_lower hRo D.out.bel.size)
    try (replace KB := Aside0.mk (blk_below KB.out hBo))
    replace D := Aside0.mk (D.out.below hBo)
    clear hRo hBo
    refine hK.out _ _ ⟨(blk_cell D.out.kf 0).trans rfl, (blk_cell D.out.kf 1).trans rfl, (blk_cell D.out.kf 2).trans rfl, (blk_cell D.out.kx 0).trans rfl, (blk_cell D.out.kx 1).trans rfl, (blk_cell D.out.kx 2).trans rfl⟩ (fun hHeld => ?_)
    clear hK K
    refine norm_ (a' := ?_) ?_ ?_
    rotate_left
    · show Act.put _ (some 51) _ = _
      (try simp only [Act.put, List.setIfInBounds_toArray, List.set_cons_zero, List.set_cons_succ, i64_w, i32_w])
      rfl
    refine one_ (i := 3) (N := some 53) #[true, true, true, true, false, false, false, true, false, false] rfl rfl (one_of HT_.out (by kernel_rfl)) (by decide) (fun K hK => ?_)
    refine goes_ Try.func45 (by kernel_rfl) rfl #[.agg #[.int .i64 v, .slice Ao3 o1.length co3, .int .i64 r], .agg #[.int .i64 u0, .slice Ax0 x0.length cx0, .int .i64 s0]] (by rfl) rfl rfl (by simp only [List.map_toArray, List.map_cons, List.map_nil]; rfl) ?_
    refine (mask_And.calls v Ao3 co3 o1 r u0 Ax0 cx0 x0 s0 u4 b0 s4 0 _ (Kd.R_reads' RO.out).2.2 (Kd.R_reads' RO.out).2.1 (Kd.R_reads' D.out.rx).2.2 (Kd.R_reads' D.out.rx).2.1 HB.out).mono ?_
    rintro e wo ⟨vo, rfl, hRo, hBo⟩
    obtain ⟨Ab, cb, rfl, hcb, _⟩ := Kd.R_reads hRo
    refine ⟨.tuple #[.agg #[.int .i64 u4, .slice Ab b0.length cb, .int .i64 s4], .int .i64 0], rfl, ?_⟩
    have RB := Aside0.mk (Kd.R_lower hRo D.out.bel.size)
    try (replace KB := Aside0.mk (blk_below KB.out hBo))
    replace D := Aside0.mk (D.out.below hBo)
    clear hRo hBo RO
    refine hK.out _ _ ⟨(blk_cell D.out.kf 0).trans rfl, (blk_cell D.out.kf 1).trans rfl, (blk_cell D.out.kf 2).trans rfl, (blk_cell D.out.kx 0).trans rfl, (blk_cell D.out.kx 1).trans rfl, (blk_cell D.out.kx 2).trans rfl⟩ (fun hHeld => ?_)
    clear hK K
    refine norm_ (a' := ?_) ?_ ?_
    rotate_left
    · show Act.put _ (some 53) _ = _
      (try simp only [Act.put, List.setIfInBounds_toArray, List.set_cons_zero, List.set_cons_succ, i64_w, i32_w])
      rfl
    refine pure_ (i := 4) (N := some 49) (v := ?_) (a' := ?_) #[true, true, true, true, true, false, false, true, false, false] rfl rfl (any_of HT_.out (by kernel_rfl)) (fun _ _ _ h => h) (Or.inl ⟨by rfl, ?_⟩) ?_ ?_
    rotate_left
    · intro w'
      go_simp
      with_reducible rfl
    rotate_left
    · simp only [Act.put, List.setIfInBounds_toArray, List.set_cons_zero, List.set_cons_succ, i64_w, i32_w]
      rfl
    refine pure_ (i := 5) (N := some 54) (v := ?_) (a' := ?_) #[true, true, true, true, true, true, false, true, false, false] rfl rfl (any_of HT_.out (by kernel_rfl)) (fun _ _ _ h => h) (Or.inl ⟨by rfl, ?_⟩) ?_ ?_
    rotate_left
    · intro w'
      go_simp
      with_reducible rfl
    rotate_left
    · simp only [Act.put, List.setIfInBounds_toArray, List.set_cons_zero, List.set_cons_succ, i64_w, i32_w]
      rfl
    refine pure_ (i := 6) (N := some 55) (v := ?_) (a' := ?_) #[true, true, true, true, true, true, true, true, false, false] rfl rfl (any_of HT_.out (by kernel_rfl)) (fun _ _ _ h => h) (Or.inl ⟨by rfl, ?_⟩) ?_ ?_
    rotate_left
    · intro w'
      go_simp
      with_reducible rfl
    rotate_left
    · simp only [Act.put, List.setIfInBounds_toArray, List.set_cons_zero, List.set_cons_succ, i64_w, i32_w]
      rfl
    refine last_ (i := 8) (N := none) #[true, true, true, true, true, true, true, true, true, false] rfl rfl (one_of HT_.out (by kernel_rfl)) (by decide) (fun K hK => ?_)
    have q0 := (blk_cell KB.out 0).trans rfl
    have q1 := (blk_cell KB.out 1).trans rfl
    have q2 := (blk_cell KB.out 2).trans rfl
    have f0 := blk_frozen KB.out 0
    have f1 := blk_frozen KB.out 1
    have f2 := blk_frozen KB.out 2
    refine skip_ (w1 := ?_) (by rfl) rfl ?_ ?_
    rotate_left
    · go_simp
      rfl
    have KB2 := Aside0.mk (blk_put (cs := #[.int .i64 u4, .slice Ab b0.length cb, .int .i64 0]) (blk_put (cs := #[.int .i64 u4, .slice none 0 0, .int .i64 0]) (blk_put (cs := #[.int .i64 0, .slice none 0 0, .int .i64 0]) KB.out 0 (.int .i64 u4) rfl) 1 (.slice Ab b0.length cb) rfl) 2 (.int .i64 s4) rfl)
    replace D := Aside0.mk (((D.out.set KB.out GB.out 0 (.int .i64 u4)).set (blk_put (cs := #[.int .i64 0, .slice none 0 0, .int .i64 0]) KB.out 0 (.int .i64 u4) rfl) GB.out 1 (.slice Ab b0.length cb)).set (blk_put (cs := #[.int .i64 u4, .slice none 0 0, .int .i64 0]) (blk_put (cs := #[.int .i64 0, .slice none 0 0, .int .i64 0]) KB.out 0 (.int .i64 u4) rfl) 1 (.slice Ab b0.length cb) rfl) GB.out 2 (.int .i64 s4))
    replace RB := Aside0.mk (Kd.R_set (Kd.R_set (Kd.R_set RB.out KB.out (by decide) 0 (.int .i64 u4)) (blk_put (cs := #[.int .i64 0, .slice none 0 0, .int .i64 0]) KB.out 0 (.int .i64 u4) rfl) (by decide) 1 (.slice Ab b0.length cb)) (blk_put (cs := #[.int .i64 u4, .slice none 0 0, .int .i64 0]) (blk_put (cs := #[.int .i64 0, .slice none 0 0, .int .i64 0]) KB.out 0 (.int .i64 u4) rfl) 1 (.slice Ab b0.length cb) rfl) (by decide) 2 (.int .i64 s4))
    clear q0 q1 q2 f0 f1 f2 KB
    refine hK.out _ _ ?_
    clear hK K
    refine norm_ (a' := ?_) ?_ ?_
    rotate_left
    · rfl
    refine pure_ (i := 9) (N := some 14) (v := ?_) (a' := ?_) #[true, true, true, true, true, true, true, true, true, true] rfl rfl (any_of HT_.out (by kernel_rfl)) (fun _ _ _ h => h) (Or.inl ⟨by rfl, ?_⟩) ?_ ?_
    rotate_left
    · intro w'
      go_simp
      with_reducible rfl
    rotate_left
    · simp only [Act.put, List.setIfInBounds_toArray, List.set_cons_zero, List.set_cons_succ, i64_w, i32_w]
      rfl
    refine done_ (done_of HT_.out (by kernel_rfl)) ?_
    obtain ⟨Wt, hWt⟩ := D.out.wd
    rw [← hWt] at D KB2 RB
    rw [← hWt]
    clear hWt e0 e1 e2 e3 e4 e5
    go_wp2_with fail
    refine (cloneI_calls As cs s Wt (Kd.C_below HS.out D.out.bel) hcs hsl).mono ?_
    rintro e wk ⟨vk, rfl, hRk, hBk⟩
    go_wp2_with fail
    refine (slices_Reverse_int_int.calls fu (fun _ => True) vk s sr Wt wk hBk hRk HRV.out).mono ?_
    rintro e wv ⟨rfl, hRv, hBv, _⟩
    obtain ⟨Ak, ck, rfl, hck, hCk⟩ := Kd.R_reads hRv
    have CK := Aside0.mk hCk
    replace KB2 := Aside0.mk (blk_below KB2.out hBv)
    replace RB := Aside0.mk (Kd.R_below RB.out hBv)
    replace D := Aside0.mk (D.out.below hBv)
    clear hRk hBk hRv hBv hCk
    have e0 := (blk_cell D.out.kf 0).trans rfl
    have e1 := (blk_cell D.out.kf 1).trans rfl
    have e2 := (blk_cell D.out.kf 2).trans rfl
    go_wp2_with fail
    refine (cantinglaw02_of.calls fu v A c l r v o1 r _ (Kd.C_below HC.out D.out.bel) hc HO.out).mono ?_
    rintro e wq ⟨vq, rfl, hRq, hBq⟩
    obtain ⟨Aq, cq, rfl, hcq, _⟩ := Kd.R_reads hRq
    have RQ := Aside0.mk hRq
    replace CK := Aside0.mk (Kd.C_below CK.out hBq)
    replace KB2 := Aside0.mk (blk_below KB2.out hBq)
    replace RB := Aside0.mk (Kd.R_below RB.out hBq)
    replace D := Aside0.mk (D.out.below hBq)
    clear hRq hBq e0 e1 e2
    go_wp2_with fail
    refine (mask_Exists.calls v Aq cq o1 r Ak ck sr u5 z0 s5 0 _ (Kd.R_reads' RQ.out).2.2 (Kd.R_reads' RQ.out).2.1 CK.out hck HZ.out).mono ?_
    rintro e wz ⟨vz, rfl, hRz, hBz⟩
    obtain ⟨Az, cz, rfl, hcz, _⟩ := Kd.R_reads hRz
    have RZ := Aside0.mk (Kd.R_alloc (Kd.R_lower hRz D.out.bel.size) (.cells #[.int .i64 u5, .slice Az z0.length cz, .int .i64 s5] 28))
    replace KB2 := Aside0.mk (blk_alloc (blk_below KB2.out hBz) (.cells #[.int .i64 u5, .slice Az z0.length cz, .int .i64 s5] 28))
    replace RB := Aside0.mk (Kd.R_alloc (Kd.R_below RB.out hBz) (.cells #[.int .i64 u5, .slice Az z0.length cz, .int .i64 s5] 28))
    replace D := Aside0.mk ((D.out.below hBz).alloc (.cells #[.int .i64 u5, .slice Az z0.length cz, .int .i64 s5] 28))
    have KZ := Aside0.mk (blk_new wz (.cells #[.int .i64 u5, .slice Az z0.length cz, .int .i64 s5] 28))
    clear hRz hBz CK RQ
    go_wp2
    obtain ⟨Wz, hWz⟩ := D.out.wd
    rw [← hWz] at D KB2 KZ RB RZ
    rw [← hWz]
    clear hWz
    replace D := Aside0.mk D.out.drew
    replace KB2 := Aside0.mk (blk_drew KB2.out)
    replace KZ := Aside0.mk (blk_drew KZ.out)
    replace RB := Aside0.mk (Kd.R_drew RB.out)
    replace RZ := Aside0.mk (Kd.R_drew RZ.out)
    have g0_ := (blk_cell D.out.kf 0).trans rfl
    have g1_ := (blk_cell D.out.kf 1).trans rfl
    have g2_ := (blk_cell D.out.kf 2).trans rfl
    have g3_ := (blk_cell D.out.kx 0).trans rfl
    have g4_ := (blk_cell D.out.kx 1).trans rfl
    have g5_ := (blk_cell D.out.kx 2).trans rfl
    have g6_ := (blk_cell D.out.ky 0).trans rfl
    have g7_ := (blk_cell D.out.ky 1).trans rfl
    have g8_ := (blk_cell D.out.ky 2).trans rfl
    have g9_ := (blk_cell KB2.out 0).trans rfl
    have g10_ := (blk_cell KB2.out 1).trans rfl
    have g11_ := (blk_cell KB2.out 2).trans rfl
    have g12_ := (blk_cell KZ.out 0).trans rfl
    have g13_ := (blk_cell KZ.out 1).trans rfl
    have g14_ := (blk_cell KZ.out 2).trans rfl
    refine start_ (n := 42) (S := fun w' => (w'.cell? ⟨w.heap.size, 0, none⟩ = some (.int .i64 v)) ∧ (w'.cell? ⟨w.heap.size, 1, none⟩ = some (.slice A l.length c)) ∧ (w'.cell? ⟨w.heap.size, 2, none⟩ = some (.int .i64 r)) ∧ (w'.cell? ⟨w3.heap.size, 0, none⟩ = some (.int .i64 u0)) ∧ (w'.cell? ⟨w3.heap.size, 1, none⟩ = some (.slice Ax0 x0.length cx0)) ∧ (w'.cell? ⟨w3.heap.size, 2, none⟩ = some (.int .i64 s0)) ∧ (w'.cell? ⟨w23.heap.size, 0, none⟩ = some (.int .i64 u3)) ∧ (w'.cell? ⟨w23.heap.size, 1, none⟩ = some (.slice Ay0 y0.length cy0)) ∧ (w'.cell? ⟨w23.heap.size, 2, none⟩ = some (.int .i64 s3)) ∧ (w'.cell? ⟨gb, 0, none⟩ = some (.int .i64 u4)) ∧ (w'.cell? ⟨gb, 1, none⟩ = some (.slice Ab b0.length cb)) ∧ (w'.cell? ⟨gb, 2, none⟩ = some (.int .i64 s4)) ∧ (w'.cell? ⟨wz.heap.size, 0, none⟩ = some (.int .i64 u5)) ∧ (w'.cell? ⟨wz.heap.size, 1, none⟩ = some (.slice Az z0.length cz)) ∧ (w'.cell? ⟨wz.heap.size, 2, none⟩ = some (.int .i64 s5))) (ds := [39]) #[false, false, false, false, false, false, false, false, false, false, false, false, false, false, false, false, false, false, false, false, false, false, false, false, false, false, false, false, false, false, false, false, false, false, false, false, false, false, false, false, false, false] (by kernel_rfl) rfl rfl ⟨g0_, g1_, g2_, g3_, g4_, g5_, g6_, g7_, g8_, g9_, g10_, g11_, g12_, g13_, g14_⟩ (fun hHeld => ?_)
    refine with_tabW tb_MaskDuals_11.tab tb_MaskDuals_11.bits (fun HT_ HW_ => ?_)
    refine pure_ (i := 0) (N := some 67) (v := ?_) (a' := ?_) #[true, false, false, false, false, false, false, false, false, false, false, false, false, false, false, false, false, false, false, false, false, false, false, false, false, false, false, false, false, false, false, false, false, false, false, false, false, false, false, false, false, false] rfl rfl (any_of HT_.out (by kernel_rfl)) (fun _ _ _ h => h) (Or.inl ⟨by rfl, ?_⟩) ?_ ?_
    rotate_left
    · intro w'
      go_simp
      with_reducible rfl
    rotate_left
    · simp only [Act.put, List.setIfInBounds_toArray, List.set_cons_zero, List.set_cons_succ, i64_w, i32_w]
      rfl
    refine pure_ (i := 1) (N := some 68) (v := ?_) (a' := ?_) #[true, true, false, false, false, false, false, false, false, false, false, false, false, false, false, false, false, false, false, false, false, false, false, false, false, false, false, false, false, false, false, false, false, false, false, false, false, false, false, false, false, false] rfl rfl (any_of HT_.out (by kernel_rfl)) (fun _ _ _ h => h) (Or.inl ⟨by rfl, ?_⟩) ?_ ?_
    rotate_left
    · intro w'
      go_simp
      with_reducible rfl
    rotate_left
    · simp only [Act.put, List.setIfInBounds_toArray, List.set_cons_zero, List.set_cons_succ, i64_w, i32_w]
      rfl
    refine pure_ (i := 2) (N := some 69) (v := ?_) (a' := ?_) #[true, true, true, false, false, false, false, false, false, false, false, false, false, false, false, false, false, false, false, false, false, false, false, false, false, false, false, false, false, false, false, false, false, false, false, false, false, false, false, false, false, false] rfl rfl (any_of HT_.out (by kernel_rfl)) (fun _ _ _ h => h) (Or.inl ⟨by rfl, ?_⟩) ?_ ?_
    rotate_left
    · intro w'
      go_simp
      with_reducible rfl
    rotate_left
    · simp only [Act.put, List.setIfInBounds_toArray, List.set_cons_zero, List.set_cons_succ, i64_w, i32_w]
      rfl
    refine pure_ (i := 3) (N := some 70) (v := ?_) (a' := ?_) #[true, true, true, true, false, false, false, false, false, false, false, false, false, false, false, false, false, false, false, false, false, false, false, false, false, false, false, false, false, false, false, false, false, false, false, false, false, false, false, false, false, false] rfl rfl (any_of HT_.out (by kernel_rfl)) (fun _ _ _ h => h) (Or.inl ⟨by rfl, ?_⟩) ?_ ?_
    rotate_left
    · intro w'
      go_simp
      with_reducible rfl
    rotate_left
    · simp only [Act.put, List.setIfInBounds_toArray, List.set_cons_zero, List.set_cons_succ, i64_w, i32_w]
      rfl
    refine pure_ (i := 4) (N := some 71) (v := ?_) (a' := ?_) #[true, true, true, true, true, false, false, false, false, false, false, false, false, false, false, false, false, false, false, false, false, false, false, false, false, false, false, false, false, false, false, false, false, false, false, false, false, false, false, false, false, false] rfl rfl (any_of HT_.out (by kernel_rfl)) (fun _ _ _ h => h) (Or.inl ⟨by rfl, ?_⟩) ?_ ?_
    rotate_left
    · intro w'
      go_simp
      with_reducible rfl
    rotate_left
    · simp only [Act.put, List.setIfInBounds_toArray, List.set_cons_zero, List.set_cons_succ, i64_w, i32_w]
      rfl
    refine pure_ (i := 5) (N := some 72) (v := ?_) (a' := ?_) #[true, true, true, true, true, true, false, false, false, false, false, false, false, false, false, false, false, false, false, false, false, false, false, false, false, false, false, false, false, false, false, false, false, false, false, false, false, false, false, false, false, false] rfl rfl (any_of HT_.out (by kernel_rfl)) (fun _ _ _ h => h) (Or.inl ⟨by rfl, ?_⟩) ?_ ?_
    rotate_left
    · intro w'
      go_simp
      with_reducible rfl
    rotate_left
    · simp only [Act.put, List.setIfInBounds_toArray, List.set_cons_zero, List.set_cons_succ, i64_w, i32_w]
      rfl
    refine pure_ (i := 6) (N := some 73) (v := ?_) (a' := ?_) #[true, true, true, true, true, true, true, false, false, false, false, false, false, false, false, false, false, false, false, false, false, false, false, false, false, false, false, false, false, false, false, false, false, false, false, false, false, false, false, false, false, false] rfl rfl (any_of HT_.out (by kernel_rfl)) (fun _ _ _ h => h) (Or.inl ⟨by rfl, ?_⟩) ?_ ?_
    rotate_left
    · intro w'
      go_simp
      with_reducible rfl
    rotate_left
    · simp only [Act.put, List.setIfInBounds_toArray, List.set_cons_zero, List.set_cons_succ, i64_w, i32_w]
      rfl
    refine pure_ (i := 7) (N := some 74) (v := ?_) (a' := ?_) #[true, true, true, true, true, true, true, true, false, false, false, false, false, false, false, false, false, false, false, false, false, false, false, false, false, false, false, false, false, false, false, false, false, false, false, false, false, false, false, false, false, false] rfl rfl (any_of HT_.out (by kernel_rfl)) (fun _ _ _ h => h) (Or.inl ⟨by rfl, ?_⟩) ?_ ?_
    rotate_left
    · intro w'
      go_simp
      with_reducible rfl
    rotate_left
    · simp only [Act.put, List.setIfInBounds_toArray, List.set_cons_zero, List.set_cons_succ, i64_w, i32_w]
      rfl
    refine pure_ (i := 8) (N := some 75) (v := ?_) (a' := ?_) #[true, true, true, true, true, true, true, true, true, false, false, false, false, false, false, false, false, false, false, false, false, false, false, false, false, false, false, false, false, false, false, false, false, false, false, false, false, false, false, false, false, false] rfl rfl (any_of HT_.out (by kernel_rfl)) (fun _ _ _ h => h) (Or.inl ⟨by rfl, ?_⟩) ?_ ?_
    rotate_left
    · intro w'
      go_simp
      with_reducible rfl
    rotate_left
    · simp only [Act.put, List.setIfInBounds_toArray, List.set_cons_zero, List.set_cons_succ, i64_w, i32_w]
      rfl
    refine pure_ (i := 9) (N := some 76) (v := ?_) (a' := ?_) #[true, true, true, true, true, true, true, true, true, true, false, false, false, false, false, false, false, false, false, false, false, false, false, false, false, false, false, false, false, false, false, false, false, false, false, false, false, false, false, false, false, false] rfl rfl (any_of HT_.out (by kernel_rfl)) (fun _ _ _ h => h) (Or.inl ⟨by rfl, ?_⟩) ?_ ?_
    rotate_left
    · intro w'
      go_simp
      with_reducible rfl
    rotate_left
    · simp only [Act.put, List.setIfInBounds_toArray, List.set_cons_zero, List.set_cons_succ, i64_w, i32_w]
      rfl
    refine pure_ (i := 10) (N := some 77) (v := ?_) (a' := ?_) #[true, true, true, true, true, true, true, true, true, true, true, false, false, false, false, false, false, false, false, false, false, false, false, false, false, false, false, false, false, false, false, false, false, false, false, false, false, false, false, false, false, false] rfl rfl (any_of HT_.out (by kernel_rfl)) (fun _ _ _ h => h) (Or.inl ⟨by rfl, ?_⟩) ?_ ?_
    rotate_left
    · intro w'
      go_simp
      with_reducible rfl
    rotate_left
    · simp only [Act.put, List.setIfInBounds_toArray, List.set_cons_zero, List.set_cons_succ, i64_w, i32_w]
      rfl
    refine pure_ (i := 11) (N := some 78) (v := ?_) (a' := ?_) #[true, true, true, true, true, true, true, true, true, true, true, true, false, false, false, false, false, false, false, false, false, false, false, false, false, false, false, false, false, false, false, false, false, false, false, false, false, false, false, false, false, false] rfl rfl (any_of HT_.out (by kernel_rfl)) (fun _ _ _ h => h) (Or.inl ⟨by rfl, ?_⟩) ?_ ?_
    rotate_left
    · intro w'
      go_simp
      with_reducible rfl
    rotate_left
    · simp only [Act.put, List.setIfInBounds_toArray, List.set_cons_zero, List.set_cons_succ, i64_w, i32_w]
      rfl
    refine pure_ (i := 12) (N := some 79) (v := ?_) (a' := ?_) #[true, true, true, true, true, true, true, true, true, true, true, true, true, false, false, false, false, false, false, false, false, false, false, false, false, false, false, false, false, false, false, false, false, false, false, false, false, false, false, false, false, false] rfl rfl (any_of HT_.out (by kernel_rfl)) (fun _ _ _ h => h) (Or.inl ⟨by rfl, ?_⟩) ?_ ?_
    rotate_left
    · intro w'
      go_simp
      with_reducible rfl
    rotate_left
    · simp only [Act.put, List.setIfInBounds_toArray, List.set_cons_zero, List.set_cons_succ, i64_w, i32_w]
      rfl
    refine pure_ (i := 13) (N := some 80) (v := ?_) (a' := ?_) #[true, true, true, true, true, true, true, true, true, true, true, true, true, true, false, false, false, false, false, false, false, false, false, false, false, false, false, false, false, false, false, false, false, false, false, false, false, false, false, false, false, false] rfl rfl (any_of HT_.out (by kernel_rfl)) (fun _ _ _ h => h) (Or.inl ⟨by rfl, ?_⟩) ?_ ?_
    rotate_left
    · intro w'
      go_simp
      with_reducible rfl
    rotate_left
    · simp only [Act.put, List.setIfInBounds_toArray, List.set_cons_zero, List.set_cons_succ, i64_w, i32_w]
      rfl
    refine pure_ (i := 14) (N := some 81) (v := ?_) (a' := ?_) #[true, true, true, true, true, true, true, true, true, true, true, true, true, true, true, false, false, false, false, false, false, false, false, false, false, false, false, false, false, false, false, false, false, false, false, false, false, false, false, false, false, false] rfl rfl (any_of HT_.out (by kernel_rfl)) (fun _ _ _ h => h) (Or.inl ⟨by rfl, ?_⟩) ?_ ?_
    rotate_left
    · intro w'
      go_simp
      with_reducible rfl
    rotate_left
    · simp only [Act.put, List.setIfInBounds_toArray, List.set_cons_zero, List.set_cons_succ, i64_w, i32_w]
      rfl
    refine pure_ (i := 15) (N := some 82) (v := ?_) (a' := ?_) #[true, true, true, true, true, true, true, true, true, true, true, true, true, true, true, true, false, false, false, false, false, false, false, false, false, false, false, false, false, false, false, false, false, false, false, false, false, false, false, false, false, false] rfl rfl (any_of HT_.out (by kernel_rfl)) (fun _ _ _ h => h) (Or.inl ⟨by rfl, ?_⟩) ?_ ?_
    rotate_left
    · intro w'
      go_simp
      with_reducible rfl
    rotate_left
    · simp only [Act.put, List.setIfInBounds_toArray, List.set_cons_zero, List.set_cons_succ, i64_w, i32_w]
      rfl
    refine pure_ (i := 16) (N := some 83) (v := ?_) (a' := ?_) #[true, true, true, true, true, true, true, true, true, true, true, true, true, true, true, true, true, false, false, false, false, false, false, false, false, false, false, false, false, false, false, false, false, false, false, false, false, false, false, false, false, false] rfl rfl (any_of HT_.out (by kernel_rfl)) (fun _ _ _ h => h) (Or.inl ⟨by rfl, ?_⟩) ?_ ?_
    rotate_left
    · intro w'
      go_simp
      with_reducible rfl
    rotate_left
    · simp only [Act.put, List.setIfInBounds_toArray, List.set_cons_zero, List.set_cons_succ, i64_w, i32_w]
      rfl
    refine pure_ (i := 17) (N := some 84) (v := ?_) (a' := ?_) #[true, true, true, true, true, true, true, true, true, true, true, true, true, true, true, true, true, true, false, false, false, false, false, false, false, false, false, false, false, false, false, false, false, false, false, false, false, false, false, false, false, false] rfl rfl (any_of HT_.out (by kernel_rfl)) (fun _ _ _ h => h) (Or.inl ⟨by rfl, ?_⟩) ?_ ?_
    rotate_left
    · intro w'
      go_simp
      with_reducible rfl
    rotate_left
    · simp only [Act.put, List.setIfInBounds_toArray, List.set_cons_zero, List.set_cons_succ, i64_w, i32_w]
      rfl
    refine pure_ (i := 18) (N := some 85) (v := ?_) (a' := ?_) #[true, true, true, true, true, true, true, true, true, true, true, true, true, true, true, true, true, true, true, false, false, false, false, false, false, false, false, false, false, false, false, false, false, false, false, false, false, false, false, false, false, false] rfl rfl (any_of HT_.out (by kernel_rfl)) (fun _ _ _ h => h) (Or.inl ⟨by rfl, ?_⟩) ?_ ?_
    rotate_left
    · intro w'
      go_simp
      with_reducible rfl
    rotate_left
    · simp only [Act.put, List.setIfInBounds_toArray, List.set_cons_zero, List.set_cons_succ, i64_w, i32_w]
      rfl
    refine take_ (i := 19) (N := some 86) (v := ?_) (a' := ?_) #[true, true, true, true, true, true, true, true, true, true, true, true, true, true, true, true, true, true, true, true, false, false, false, false, false, false, false, false, false, false, false, false, false, false, false, false, false, false, false, false, false, false] rfl rfl (take_ofW HT_.out HW_.out (by kernel_rfl)) (fun _ _ _ h => h) (Or.inl ⟨by rfl, ?_⟩) hHeld ?_ ?_
    rotate_left
    · rintro w' ⟨s0, s1, s2, s3, s4, s5, s6, s7, s8, s9, s10, s11, s12, s13, s14⟩
      go_simp
      with_reducible rfl
    rotate_left
    · simp only [Act.put, List.setIfInBounds_toArray, List.set_cons_zero, List.set_cons_succ, i64_w, i32_w]
      rfl
    refine take_ (i := 21) (N := some 88) (v := ?_) (a' := ?_) #[true, true, true, true, true, true, true, true, true, true, true, true, true, true, true, true, true, true, true, true, false, true, false, false, false, false, false, false, false, false, false, false, false, false, false, false, false, false, false, false, false, false] rfl rfl (take_ofW HT_.out HW_.out (by kernel_rfl)) (fun _ _ _ h => h) (Or.inl ⟨by rfl, ?_⟩) hHeld ?_ ?_
    rotate_left
    · rintro w' ⟨s0, s1, s2, s3, s4, s5, s6, s7, s8, s9, s10, s11, s12, s13, s14⟩
      go_simp
      with_reducible rfl
    rotate_left
    · simp only [Act.put, List.setIfInBounds_toArray, List.set_cons_zero, List.set_cons_succ, i64_w, i32_w]
      rfl
    refine one_ (i := 20) (N := some 87) #[true, true, true, true, true, true, true, true, true, true, true, true, true, true, true, true, true, true, true, true, true, true, false, false, false, false, false, false, false, false, false, false, false, false, false, false, false, false, false, false, false, false] rfl rfl (one_of HT_.out (by kernel_rfl)) (by decide) (fun K hK => ?_)
    refine goes_ Try.func37 (by kernel_rfl) rfl #[.agg #[.int .i64 u0, .slice Ax0 x0.length cx0, .int .i64 s0]] (by rfl) rfl rfl (by simp only [List.map_toArray, List.map_cons, List.map_nil]; rfl) ?_
    refine (cantinglaw02_own.calls fu u0 Ax0 cx0 x0 s0 u0 xr s0 _ (Kd.R_reads' D.out.rx).2.2 (Kd.R_reads' D.out.rx).2.1 HW.out.1).mono ?_
    rintro e wo ⟨vo, rfl, hRo, hBo⟩
    obtain ⟨ARX, cRX, rfl, _, _⟩ := Kd.R_reads hRo
    refine ⟨_, rfl, ?_⟩
    have RX := Aside0.mk (Kd.R_lower hRo D.out.bel.size)
    replace KB2 := Aside0.mk (blk_below KB2.out hBo)
    replace KZ := Aside0.mk (blk_below KZ.out hBo)
    replace RB := Aside0.mk (Kd.R_below RB.out hBo)
    replace RZ := Aside0.mk (Kd.R_below RZ.out hBo)
    replace D := Aside0.mk (D.out.below hBo)
    clear hRo hBo
    refine hK.out _ _ ⟨(blk_cell D.out.kf 0).trans rfl, (blk_cell D.out.kf 1).trans rfl, (blk_cell D.out.kf 2).trans rfl, (blk_cell D.out.kx 0).trans rfl, (blk_cell D.out.kx 1).trans rfl, (blk_cell D.out.kx 2).trans rfl, (blk_cell D.out.ky 0).trans rfl, (blk_cell D.out.ky 1).trans rfl, (blk_cell D.out.ky 2).trans rfl, (blk_cell KB2.out 0).trans rfl, (blk_cell KB2.out 1).trans rfl, (blk_cell KB2.out 2).trans rfl, (blk_cell KZ.out 0).trans rfl, (blk_cell KZ.out 1).trans rfl, (blk_cell KZ.out 2).trans rfl⟩ (fun hHeld => ?_)
    clear hK K
    refine norm_ (a' := ?_) ?_ ?_
    rotate_left
    · show Act.put _ (some 87) _ = _
      (try simp only [Act.put, List.setIfInBounds_toArray, List.set_cons_zero, List.set_cons_succ, i64_w, i32_w])
      rfl
    refine one_ (i := 22) (N := some 89) #[true, true, true, true, true, true, true, true, true, true, true, true, true, true, true, true, true, true, true, true, true, true, true, false, false, false, false, false, false, false, false, false, false, false, false, false, false, false, false, false, false, false] rfl rfl (one_of HT_.out (by kernel_rfl)) (by decide) (fun K hK => ?_)
    refine goes_ Try.func37 (by kernel_rfl) rfl #[.agg #[.int .i64 u3, .slice Ay0 y0.length cy0, .int .i64 s3]] (by rfl) rfl rfl (by simp only [List.map_toArray, List.map_cons, List.map_nil]; rfl) ?_
    refine (cantinglaw02_own.calls fu u3 Ay0 cy0 y0 s3 u3 yr s3 _ (Kd.R_reads' D.out.ry).2.2 (Kd.R_reads' D.out.ry).2.1 HW.out.2.1).mono ?_
    rintro e wo ⟨vo, rfl, hRo, hBo⟩
    obtain ⟨ARY, cRY, rfl, _, _⟩ := Kd.R_reads hRo
    refine ⟨_, rfl, ?_⟩
    have RY := Aside0.mk (Kd.R_lower hRo D.out.bel.size)
    replace RX := Aside0.mk (Kd.R_below RX.out hBo)
    replace KB2 := Aside0.mk (blk_below KB2.out hBo)
    replace KZ := Aside0.mk (blk_below KZ.out hBo)
    replace RB := Aside0.mk (Kd.R_below RB.out hBo)
    replace RZ := Aside0.mk (Kd.R_below RZ.out hBo)
    replace D := Aside0.mk (D.out.below hBo)
    clear hRo hBo
    refine hK.out _ _ ⟨(blk_cell D.out.kf 0).trans rfl, (blk_cell D.out.kf 1).trans rfl, (blk_cell D.out.kf 2).trans rfl, (blk_cell D.out.kx 0).trans rfl, (blk_cell D.out.kx 1).trans rfl, (blk_cell D.out.kx 2).trans rfl, (blk_cell D.out.ky 0).trans rfl, (blk_cell D.out.ky 1).trans rfl, (blk_cell D.out.ky 2).trans rfl, (blk_cell KB2.out 0).trans rfl, (blk_cell KB2.out 1).trans rfl, (blk_cell KB2.out 2).trans rfl, (blk_cell KZ.out 0).trans rfl, (blk_cell KZ.out 1).trans rfl, (blk_cell KZ.out 2).trans rfl⟩ (fun hHeld => ?_)
    clear hK K
    refine norm_ (a' := ?_) ?_ ?_
    rotate_left
    · show Act.put _ (some 89) _ = _
      (try simp only [Act.put, List.setIfInBounds_toArray, List.set_cons_zero, List.set_cons_succ, i64_w, i32_w])
      rfl
    refine one_ (i := 23) (N := some 90) #[true, true, true, true, true, true, true, true, true, true, true, true, true, true, true, true, true, true, true, true, true, true, true, true, false, false, false, false, false, false, false, false, false, false, false, false, false, false, false, false, false, false] rfl rfl (one_of HT_.out (by kernel_rfl)) (by decide) (fun K hK => ?_)
    refine goes_ Try.func36 (by kernel_rfl) rfl #[.agg #[.int .i64 u0, .slice ARX xr.length cRX, .int .i64 s0], .agg #[.int .i64 u3, .slice ARY yr.length cRY, .int .i64 s3]] (by rfl) rfl rfl (by simp only [List.map_toArray, List.map_cons, List.map_nil]; rfl) ?_
    refine (cantingref02_Same.calls fu u0 ARX cRX xr s0 u3 ARY cRY yr s3 true _ (Kd.R_reads' RX.out).2.2 (Kd.R_reads' RX.out).2.1 (Kd.R_reads' RY.out).2.2 (Kd.R_reads' RY.out).2.1 HSS.out.1).mono ?_
    rintro e wo ⟨rfl, hBo⟩
    refine ⟨_, rfl, ?_⟩
    clear RX
    clear RY
    replace KB2 := Aside0.mk (blk_below KB2.out hBo)
    replace KZ := Aside0.mk (blk_below KZ.out hBo)
    replace RB := Aside0.mk (Kd.R_below RB.out hBo)
    replace RZ := Aside0.mk (Kd.R_below RZ.out hBo)
    replace D := Aside0.mk (D.out.below hBo)
    clear hBo
    refine hK.out _ _ ⟨(blk_cell D.out.kf 0).trans rfl, (blk_cell D.out.kf 1).trans rfl, (blk_cell D.out.kf 2).trans rfl, (blk_cell D.out.kx 0).trans rfl, (blk_cell D.out.kx 1).trans rfl, (blk_cell D.out.kx 2).trans rfl, (blk_cell D.out.ky 0).trans rfl, (blk_cell D.out.ky 1).trans rfl, (blk_cell D.out.ky 2).trans rfl, (blk_cell KB2.out 0).trans rfl, (blk_cell KB2.out 1).trans rfl, (blk_cell KB2.out 2).trans rfl, (blk_cell KZ.out 0).trans rfl, (blk_cell KZ.out 1).trans rfl, (blk_cell KZ.out 2).trans rfl⟩ (fun hHeld => ?_)
    clear hK K
    refine norm_ (a' := ?_) ?_ ?_
    rotate_left
    · show Act.put _ (some 90) _ = _
      (try simp only [Act.put, List.setIfInBounds_toArray, List.set_cons_zero, List.set_cons_succ, i64_w, i32_w])
      rfl
    refine pure_ (i := 24) (N := some 91) (v := ?_) (a' := ?_) #[true, true, true, true, true, true, true, true, true, true, true, true, true, true, true, true, true, true, true, true, true, true, true, true, true, false, false, false, false, false, false, false, false, false, false, false, false, false, false, false, false, false] rfl rfl (any_of HT_.out (by kernel_rfl)) (fun _ _ _ h => h) (Or.inl ⟨by rfl, ?_⟩) ?_ ?_
    rotate_left
    · intro w'
      go_simp
      with_reducible rfl
    rotate_left
    · simp only [Act.put, List.setIfInBounds_toArray, List.set_cons_zero, List.set_cons_succ, i64_w, i32_w]
      rfl
    refine pure_ (i := 25) (N := some 92) (v := ?_) (a' := ?_) #[true, true, true, true, true, true, true, true, true, true, true, true, true, true, true, true, true, true, true, true, true, true, true, true, true, true, false, false, false, false, false, false, false, false, false, false, false, false, false, false, false, false] rfl rfl (any_of HT_.out (by kernel_rfl)) (fun _ _ _ h => h) (Or.inl ⟨by rfl, ?_⟩) ?_ ?_
    rotate_left
    · intro w'
      go_simp
      with_reducible rfl
    rotate_left
    · simp only [Act.put, List.setIfInBounds_toArray, List.set_cons_zero, List.set_cons_succ, i64_w, i32_w]
      rfl
    refine take_ (i := 26) (N := some 93) (v := ?_) (a' := ?_) #[true, true, true, true, true, true, true, true, true, true, true, true, true, true, true, true, true, true, true, true, true, true, true, true, true, true, true, false, false, false, false, false, false, false, false, false, false, false, false, false, false, false] rfl rfl (take_ofW HT_.out HW_.out (by kernel_rfl)) (fun _ _ _ h => h) (Or.inl ⟨by rfl, ?_⟩) hHeld ?_ ?_
    rotate_left
    · rintro w' ⟨s0, s1, s2, s3, s4, s5, s6, s7, s8, s9, s10, s11, s12, s13, s14⟩
      go_simp
      with_reducible rfl
    rotate_left
    · simp only [Act.put, List.setIfInBounds_toArray, List.set_cons_zero, List.set_cons_succ, i64_w, i32_w]
      rfl
    refine take_ (i := 28) (N := some 95) (v := ?_) (a' := ?_) #[true, true, true, true, true, true, true, true, true, true, true, true, true, true, true, true, true, true, true, true, true, true, true, true, true, true, true, false, true, false, false, false, false, false, false, false, false, false, false, false, false, false] rfl rfl (take_ofW HT_.out HW_.out (by kernel_rfl)) (fun _ _ _ h => h) (Or.inl ⟨by rfl, ?_⟩) hHeld ?_ ?_
    rotate_left
    · rintro w' ⟨s0, s1, s2, s3, s4, s5, s6, s7, s8, s9, s10, s11, s12, s13, s14⟩
      go_simp
      with_reducible rfl
    rotate_left
    · simp only [Act.put, List.setIfInBounds_toArray, List.set_cons_zero, List.set_cons_succ, i64_w, i32_w]
      rfl
    refine one_ (i := 27) (N := some 94) #[true, true, true, true, true, true, true, true, true, true, true, true, true, true, true, true, true, true, true, true, true, true, true, true, true, true, true, true, true, false, false, false, false, false, false, false, false, false, false, false, false, false] rfl rfl (one_of HT_.out (by kernel_rfl)) (by decide) (fun K hK => ?_)
    refine goes_ Try.func37 (by kernel_rfl) rfl #[.agg #[.int .i64 u4, .slice Ab b0.length cb, .int .i64 s4]] (by rfl) rfl rfl (by simp only [List.map_toArray, List.map_cons, List.map_nil]; rfl) ?_
    refine (cantinglaw02_own.calls fu u4 Ab cb b0 s4 u4 br s4 _ (Kd.R_reads' RB.out).2.2 (Kd.R_reads' RB.out).2.1 HW.out.2.2.1).mono ?_
    rintro e wo ⟨vo, rfl, hRo, hBo⟩
    obtain ⟨ARBR, cRBR, rfl, _, _⟩ := Kd.R_reads hRo
    refine ⟨_, rfl, ?_⟩
    have RBR := Aside0.mk (Kd.R_lower hRo D.out.bel.size)
    replace KB2 := Aside0.mk (blk_below KB2.out hBo)
    replace KZ := Aside0.mk (blk_below KZ.out hBo)
    replace RB := Aside0.mk (Kd.R_below RB.out hBo)
    replace RZ := Aside0.mk (Kd.R_below RZ.out hBo)
    replace D := Aside0.mk (D.out.below hBo)
    clear hRo hBo
    refine hK.out _ _ ⟨(blk_cell D.out.kf 0).trans rfl, (blk_cell D.out.kf 1).trans rfl, (blk_cell D.out.kf 2).trans rfl, (blk_cell D.out.kx 0).trans rfl, (blk_cell D.out.kx 1).trans rfl, (blk_cell D.out.kx 2).trans rfl, (blk_cell D.out.ky 0).trans rfl, (blk_cell D.out.ky 1).trans rfl, (blk_cell D.out.ky 2).trans rfl, (blk_cell KB2.out 0).trans rfl, (blk_cell KB2.out 1).trans rfl, (blk_cell KB2.out 2).trans rfl, (blk_cell KZ.out 0).trans rfl, (blk_cell KZ.out 1).trans rfl, (blk_cell KZ.out 2).trans rfl⟩ (fun hHeld => ?_)
    clear hK K
    refine norm_ (a' := ?_) ?_ ?_
    rotate_left
    · show Act.put _ (some 94) _ = _
      (try simp only [Act.put, List.setIfInBounds_toArray, List.set_cons_zero, List.set_cons_succ, i64_w, i32_w])
      rfl
    refine one_ (i := 29) (N := some 96) #[true, true, true, true, true, true, true, true, true, true, true, true, true, true, true, true, true, true, true, true, true, true, true, true, true, true, true, true, true, true, false, false, false, false, false, false, false, false, false, false, false, false] rfl rfl (one_of HT_.out (by kernel_rfl)) (by decide) (fun K hK => ?_)
    refine goes_ Try.func36 (by kernel_rfl) rfl #[.agg #[.int .i64 u4, .slice ARBR br.length cRBR, .int .i64 s4], .agg #[.int .i64 v, .slice A l.length c, .int .i64 r]] (by rfl) rfl rfl (by simp only [List.map_toArray, List.map_cons, List.map_nil]; rfl) ?_
    refine (cantingref02_Same.calls fu u4 ARBR cRBR br s4 v A c l r true _ (Kd.R_reads' RBR.out).2.2 (Kd.R_reads' RBR.out).2.1 (Kd.C_below HC.out D.out.bel) hc HSS.out.2.1).mono ?_
    rintro e wo ⟨rfl, hBo⟩
    refine ⟨_, rfl, ?_⟩
    clear RBR
    replace KB2 := Aside0.mk (blk_below KB2.out hBo)
    replace KZ := Aside0.mk (blk_below KZ.out hBo)
    replace RB := Aside0.mk (Kd.R_below RB.out hBo)
    replace RZ := Aside0.mk (Kd.R_below RZ.out hBo)
    replace D := Aside0.mk (D.out.below hBo)
    clear hBo
    refine hK.out _ _ ⟨(blk_cell D.out.kf 0).trans rfl, (blk_cell D.out.kf 1).trans rfl, (blk_cell D.out.kf 2).trans rfl, (blk_cell D.out.kx 0).trans rfl, (blk_cell D.out.kx 1).trans rfl, (blk_cell D.out.kx 2).trans rfl, (blk_cell D.out.ky 0).trans rfl, (blk_cell D.out.ky 1).trans rfl, (blk_cell D.out.ky 2).trans rfl, (blk_cell KB2.out 0).trans rfl, (blk_cell KB2.out 1).trans rfl, (blk_cell KB2.out 2).trans rfl, (blk_cell KZ.out 0).trans rfl, (blk_cell KZ.out 1).trans rfl, (blk_cell KZ.out 2).trans rfl⟩ (fun hHeld => ?_)
    clear hK K
    refine norm_ (a' := ?_) ?_ ?_
    rotate_left
    · show Act.put _ (some 96) _ = _
      (try simp only [Act.put, List.setIfInBounds_toArray, List.set_cons_zero, List.set_cons_succ, i64_w, i32_w])
      rfl
    refine pure_ (i := 30) (N := some 97) (v := ?_) (a' := ?_) #[true, true, true, true, true, true, true, true, true, true, true, true, true, true, true, true, true, true, true, true, true, true, true, true, true, true, true, true, true, true, true, false, false, false, false, false, false, false, false, false, false, false] rfl rfl (any_of HT_.out (by kernel_rfl)) (fun _ _ _ h => h) (Or.inl ⟨by rfl, ?_⟩) ?_ ?_
    rotate_left
    · intro w'
      go_simp
      with_reducible rfl
    rotate_left
    · simp only [Act.put, List.setIfInBounds_toArray, List.set_cons_zero, List.set_cons_succ, i64_w, i32_w]
      rfl
    refine pure_ (i := 31) (N := some 98) (v := ?_) (a' := ?_) #[true, true, true, true, true, true, true, true, true, true, true, true, true, true, true, true, true, true, true, true, true, true, true, true, true, true, true, true, true, true, true, true, false, false, false, false, false, false, false, false, false, false] rfl rfl (any_of HT_.out (by kernel_rfl)) (fun _ _ _ h => h) (Or.inl ⟨by rfl, ?_⟩) ?_ ?_
    rotate_left
    · intro w'
      go_simp
      with_reducible rfl
    rotate_left
    · simp only [Act.put, List.setIfInBounds_toArray, List.set_cons_zero, List.set_cons_succ, i64_w, i32_w]
      rfl
    refine take_ (i := 32) (N := some 99) (v := ?_) (a' := ?_) #[true, true, true, true, true, true, true, true, true, true, true, true, true, true, true, true, true, true, true, true, true, true, true, true, true, true, true, true, true, true, true, true, true, false, false, false, false, false, false, false, false, false] rfl rfl (take_ofW HT_.out HW_.out (by kernel_rfl)) (fun _ _ _ h => h) (Or.inl ⟨by rfl, ?_⟩) hHeld ?_ ?_
    rotate_left
    · rintro w' ⟨s0, s1, s2, s3, s4, s5, s6, s7, s8, s9, s10, s11, s12, s13, s14⟩
      go_simp
      with_reducible rfl
    rotate_left
    · simp only [Act.put, List.setIfInBounds_toArray, List.set_cons_zero, List.set_cons_succ, i64_w, i32_w]
      rfl
    refine take_ (i := 34) (N := some 101) (v := ?_) (a' := ?_) #[true, true, true, true, true, true, true, true, true, true, true, true, true, true, true, true, true, true, true, true, true, true, true, true, true, true, true, true, true, true, true, true, true, false, true, false, false, false, false, false, false, false] rfl rfl (take_ofW HT_.out HW_.out (by kernel_rfl)) (fun _ _ _ h => h) (Or.inl ⟨by rfl, ?_⟩) hHeld ?_ ?_
    rotate_left
    · rintro w' ⟨s0, s1, s2, s3, s4, s5, s6, s7, s8, s9, s10, s11, s12, s13, s14⟩
      go_simp
      with_reducible rfl
    rotate_left
    · simp only [Act.put, List.setIfInBounds_toArray, List.set_cons_zero, List.set_cons_succ, i64_w, i32_w]
      rfl
    refine one_ (i := 33) (N := some 100) #[true, true, true, true, true, true, true, true, true, true, true, true, true, true, true, true, true, true, true, true, true, true, true, true, true, true, true, true, true, true, true, true, true, true, true, false, false, false, false, false, false, false] rfl rfl (one_of HT_.out (by kernel_rfl)) (by decide) (fun K hK => ?_)
    refine goes_ Try.func37 (by kernel_rfl) rfl #[.agg #[.int .i64 u0, .slice Ax0 x0.length cx0, .int .i64 s0]] (by rfl) rfl rfl (by simp only [List.map_toArray, List.map_cons, List.map_nil]; rfl) ?_
    refine (cantinglaw02_own.calls fu u0 Ax0 cx0 x0 s0 u0 xr s0 _ (Kd.R_reads' D.out.rx).2.2 (Kd.R_reads' D.out.rx).2.1 HW.out.1).mono ?_
    rintro e wo ⟨vo, rfl, hRo, hBo⟩
    obtain ⟨ARX3, cRX3, rfl, _, _⟩ := Kd.R_reads hRo
    refine ⟨_, rfl, ?_⟩
    have RX3 := Aside0.mk (Kd.R_lower hRo D.out.bel.size)
    replace KB2 := Aside0.mk (blk_below KB2.out hBo)
    replace KZ := Aside0.mk (blk_below KZ.out hBo)
    replace RB := Aside0.mk (Kd.R_below RB.out hBo)
    replace RZ := Aside0.mk (Kd.R_below RZ.out hBo)
    replace D := Aside0.mk (D.out.below hBo)
    clear hRo hBo
    refine hK.out _ _ ⟨(blk_cell D.out.kf 0).trans rfl, (blk_cell D.out.kf 1).trans rfl, (blk_cell D.out.kf 2).trans rfl, (blk_cell D.out.kx 0).trans rfl, (blk_cell D.out.kx 1).trans rfl, (blk_cell D.out.kx 2).trans rfl, (blk_cell D.out.ky 0).trans rfl, (blk_cell D.out.ky 1).trans rfl, (blk_cell D.out.ky 2).trans rfl, (blk_cell KB2.out 0).trans rfl, (blk_cell KB2.out 1).trans rfl, (blk_cell KB2.out 2).trans rfl, (blk_cell KZ.out 0).trans rfl, (blk_cell KZ.out 1).trans rfl, (blk_cell KZ.out 2).trans rfl⟩ (fun hHeld => ?_)
    clear hK K
    refine norm_ (a' := ?_) ?_ ?_
    rotate_left
    · show Act.put _ (some 100) _ = _
      (try simp only [Act.put, List.setIfInBounds_toArray, List.set_cons_zero, List.set_cons_succ, i64_w, i32_w])
      rfl
    refine one_ (i := 35) (N := some 102) #[true, true, true, true, true, true, true, true, true, true, true, true, true, true, true, true, true, true, true, true, true, true, true, true, true, true, true, true, true, true, true, true, true, true, true, true, false, false, false, false, false, false] rfl rfl (one_of HT_.out (by kernel_rfl)) (by decide) (fun K hK => ?_)
    refine goes_ Try.func37 (by kernel_rfl) rfl #[.agg #[.int .i64 u5, .slice Az z0.length cz, .int .i64 s5]] (by rfl) rfl rfl (by simp only [List.map_toArray, List.map_cons, List.map_nil]; rfl) ?_
    refine (cantinglaw02_own.calls fu u5 Az cz z0 s5 u5 zr s5 _ (Kd.R_reads' RZ.out).2.2 (Kd.R_reads' RZ.out).2.1 HW.out.2.2.2).mono ?_
    rintro e wo ⟨vo, rfl, hRo, hBo⟩
    obtain ⟨ARZR, cRZR, rfl, _, _⟩ := Kd.R_reads hRo
    refine ⟨_, rfl, ?_⟩
    have RZR := Aside0.mk (Kd.R_lower hRo D.out.bel.size)
    replace RX3 := Aside0.mk (Kd.R_below RX3.out hBo)
    replace KB2 := Aside0.mk (blk_below KB2.out hBo)
    replace KZ := Aside0.mk (blk_below KZ.out hBo)
    replace RB := Aside0.mk (Kd.R_below RB.out hBo)
    replace RZ := Aside0.mk (Kd.R_below RZ.out hBo)
    replace D := Aside0.mk (D.out.below hBo)
    clear hRo hBo
    refine hK.out _ _ ⟨(blk_cell D.out.kf 0).trans rfl, (blk_cell D.out.kf 1).trans rfl, (blk_cell D.out.kf 2).trans rfl, (blk_cell D.out.kx 0).trans rfl, (blk_cell D.out.kx 1).trans rfl, (blk_cell D.out.kx 2).trans rfl, (blk_cell D.out.ky 0).trans rfl, (blk_cell D.out.ky 1).trans rfl, (blk_cell D.out.ky 2).trans rfl, (blk_cell KB2.out 0).trans rfl, (blk_cell KB2.out 1).trans rfl, (blk_cell KB2.out 2).trans rfl, (blk_cell KZ.out 0).trans rfl, (blk_cell KZ.out 1).trans rfl, (blk_cell KZ.out 2).trans rfl⟩ (fun hHeld => ?_)
    clear hK K
    refine norm_ (a' := ?_) ?_ ?_
    rotate_left
    · show Act.put _ (some 102) _ = _
      (try simp only [Act.put, List.setIfInBounds_toArray, List.set_cons_zero, List.set_cons_succ, i64_w, i32_w])
      rfl
    refine one_ (i := 36) (N := some 103) #[true, true, true, true, true, true, true, true, true, true, true, true, true, true, true, true, true, true, true, true, true, true, true, true, true, true, true, true, true, true, true, true, true, true, true, true, true, false, false, false, false, false] rfl rfl (one_of HT_.out (by kernel_rfl)) (by decide) (fun K hK => ?_)
    refine goes_ Try.func36 (by kernel_rfl) rfl #[.agg #[.int .i64 u0, .slice ARX3 xr.length cRX3, .int .i64 s0], .agg #[.int .i64 u5, .slice ARZR zr.length cRZR, .int .i64 s5]] (by rfl) rfl rfl (by simp only [List.map_toArray, List.map_cons, List.map_nil]; rfl) ?_
    refine (cantingref02_Same.calls fu u0 ARX3 cRX3 xr s0 u5 ARZR cRZR zr s5 true _ (Kd.R_reads' RX3.out).2.2 (Kd.R_reads' RX3.out).2.1 (Kd.R_reads' RZR.out).2.2 (Kd.R_reads' RZR.out).2.1 HSS.out.2.2.1).mono ?_
    rintro e wo ⟨rfl, hBo⟩
    refine ⟨_, rfl, ?_⟩
    clear RX3
    clear RZR
    replace KB2 := Aside0.mk (blk_below KB2.out hBo)
    replace KZ := Aside0.mk (blk_below KZ.out hBo)
    replace RB := Aside0.mk (Kd.R_below RB.out hBo)
    replace RZ := Aside0.mk (Kd.R_below RZ.out hBo)
    replace D := Aside0.mk (D.out.below hBo)
    clear hBo
    refine hK.out _ _ ⟨(blk_cell D.out.kf 0).trans rfl, (blk_cell D.out.kf 1).trans rfl, (blk_cell D.out.kf 2).trans rfl, (blk_cell D.out.kx 0).trans rfl, (blk_cell D.out.kx 1).trans rfl, (blk_cell D.out.kx 2).trans rfl, (blk_cell D.out.ky 0).trans rfl, (blk_cell D.out.ky 1).trans rfl, (blk_cell D.out.ky 2).trans rfl, (blk_cell KB2.out 0).trans rfl, (blk_cell KB2.out 1).trans rfl, (blk_cell KB2.out 2).trans rfl, (blk_cell KZ.out 0).trans rfl, (blk_cell KZ.out 1).trans rfl, (blk_cell KZ.out 2).trans rfl⟩ (fun hHeld => ?_)
    clear hK K
    refine norm_ (a' := ?_) ?_ ?_
    rotate_left
    · show Act.put _ (some 103) _ = _
      (try simp only [Act.put, List.setIfInBounds_toArray, List.set_cons_zero, List.set_cons_succ, i64_w, i32_w])
      rfl
    refine pure_ (i := 37) (N := some 104) (v := ?_) (a' := ?_) #[true, true, true, true, true, true, true, true, true, true, true, true, true, true, true, true, true, true, true, true, true, true, true, true, true, true, true, true, true, true, true, true, true, true, true, true, true, true, false, false, false, false] rfl rfl (any_of HT_.out (by kernel_rfl)) (fun _ _ _ h => h) (Or.inl ⟨by rfl, ?_⟩) ?_ ?_
    rotate_left
    · intro w'
      go_simp
      with_reducible rfl
    rotate_left
    · simp only [Act.put, List.setIfInBounds_toArray, List.set_cons_zero, List.set_cons_succ, i64_w, i32_w]
      rfl
    refine pure_ (i := 38) (N := some 105) (v := ?_) (a' := ?_) #[true, true, true, true, true, true, true, true, true, true, true, true, true, true, true, true, true, true, true, true, true, true, true, true, true, true, true, true, true, true, true, true, true, true, true, true, true, true, true, false, false, false] rfl rfl (any_of HT_.out (by kernel_rfl)) (fun _ _ _ h => h) (Or.inl ⟨by rfl, ?_⟩) ?_ ?_
    rotate_left
    · intro w'
      go_simp
      with_reducible rfl
    rotate_left
    · simp only [Act.put, List.setIfInBounds_toArray, List.set_cons_zero, List.set_cons_succ, i64_w, i32_w]
      rfl
    refine last_ (i := 39) (N := some 106) #[true, true, true, true, true, true, true, true, true, true, true, true, true, true, true, true, true, true, true, true, true, true, true, true, true, true, true, true, true, true, true, true, true, true, true, true, true, true, true, true, false, false] rfl rfl (one_of HT_.out (by kernel_rfl)) (by decide) (fun K hK => ?_)
    refine goes_ Try.func24 (by kernel_rfl) rfl #[] (by rfl) rfl rfl (by simp only [List.map_toArray, List.map_nil]) ?_
    refine (cantinglaw02_awake.calls fu true _ HSS.out.2.2.2).mono ?_
    rintro e wo ⟨rfl, hBo⟩
    refine ⟨_, rfl, ?_⟩
    replace D := Aside0.mk (D.out.below hBo)
    clear hBo
    refine hK.out _ _ ?_
    clear hK K
    refine norm_ (a' := ?_) ?_ ?_
    rotate_left
    · show Act.put _ (some 106) _ = _
      (try simp only [Act.put, List.setIfInBounds_toArray, List.set_cons_zero, List.set_cons_succ, i64_w, i32_w])
      rfl
    refine pure_ (i := 40) (N := some 107) (v := ?_) (a' := ?_) #[true, true, true, true, true, true, true, true, true, true, true, true, true, true, true, true, true, true, true, true, true, true, true, true, true, true, true, true, true, true, true, true, true, true, true, true, true, true, true, true, true, false] rfl rfl (any_of HT_.out (by kernel_rfl)) (fun _ _ _ h => h) (Or.inl ⟨by rfl, ?_⟩) ?_ ?_
    rotate_left
    · intro w'
      go_simp
      with_reducible rfl
    rotate_left
    · simp only [Act.put, List.setIfInBounds_toArray, List.set_cons_zero, List.set_cons_succ, i64_w, i32_w]
      rfl
    refine pure_ (i := 41) (N := some 4) (v := ?_) (a' := ?_) #[true, true, true, true, true, true, true, true, true, true, true, true, true, true, true, true, true, true, true, true, true, true, true, true, true, true, true, true, true, true, true, true, true, true, true, true, true, true, true, true, true, true] rfl rfl (any_of HT_.out (by kernel_rfl)) (fun _ _ _ h => h) (Or.inl ⟨by rfl, ?_⟩) ?_ ?_
    rotate_left
    · intro w'
      go_simp
      with_reducible rfl
    rotate_left
    · simp only [Act.put, List.setIfInBounds_toArray, List.set_cons_zero, List.set_cons_succ, i64_w, i32_w]
      rfl
    refine done_ (done_of HT_.out (by kernel_rfl)) ?_
    go_wp2
    go_ret
    exact ⟨by rfl, D.out.bel⟩
set_option maxRecDepth 100000 in
set_option maxHeartbeats 8000000 in
theorem duals_err (fu : Nat) (v r : Int) (A : Option Addr) (c : Nat) (l : List S106) (As : Option Addr) (cs : Nat) (s : List Int) (w : World) (hC : Kd.C k106 w A l.length l) (hc : l.length ≤ c) (hS : Kd.C (Kd.int .i64) w As s.length s) (hcs : s.length ≤ cs)
    (o1 : List S107) (hO : cantinglaw02_of.f fu v l r = some (v, o1, r)) (hX : mask_Exists.f v o1 r s = some (0, [], 0, 2)) (hAW : cantinglaw02_awake.f fu = some true) :
    Calls Try.prog 15 #[.agg #[.int .i64 v, .slice A l.length c, .int .i64 r], .slice As s.length cs] w fun e w' => e = .returned (.bool true) ∧ Below w.heap.size w w' := by
  have HC := Aside0.mk hC
  have HS := Aside0.mk hS
  have HO := Aside0.mk hO
  have HX := Aside0.mk hX
  have HAW := Aside0.mk hAW
  have hu1 := Try.underlying28
  have hu2 := Try.underlying33
  clear hC hS hO hX hAW
  go_enter Try.func15, Try.ntmps15
  obtain ⟨W0, hW0⟩ : ∃ W, W = w.alloc (.cells #[.int .i64 v, .slice A l.length c, .int .i64 r] 33) := ⟨_, rfl⟩
  have HB0 := Aside0.mk (show Below w.heap.size w W0 by rw [hW0]; exact below_alloc (Below.refl _ _) _)
  go_wp2_with fail
  rw [← hW0]
  clear hW0
  refine (cantinglaw02_of.calls fu v A c l r v o1 r _ (Kd.C_below HC.out HB0.out) hc HO.out).mono ?_
  rintro e w1 ⟨v1, rfl, hR1, hB1⟩
  obtain ⟨A1, c1, rfl, hc1, hC1⟩ := Kd.R_reads hR1
  have B1 := Aside0.mk (below_then HB0.out HB0.out.size hB1)
  have C1 := Aside0.mk hC1
  clear hR1 hB1 hC1
  go_wp2_with fail
  refine (mask_Exists.calls v A1 c1 o1 r As cs s 0 [] 0 2 _ C1.out hc1 (Kd.C_below HS.out B1.out) hcs HX.out).mono ?_
  rintro e w2 ⟨v2, rfl, hR2, hB2⟩
  obtain ⟨A2, c2, rfl, hc2, hC2⟩ := Kd.R_reads hR2
  have B2 := Aside0.mk (below_then B1.out B1.out.size hB2)
  clear hR2 hB2 hC2
  go_wp2_with fail
  refine (cantinglaw02_awake.calls fu true _ HAW.out).mono ?_
  rintro e w3 ⟨rfl, hB3⟩
  have B3 := Aside0.mk (below_then (below_alloc B2.out (.cells #[.int .i64 0, .slice A2 (([] : List S107).length) c2, .int .i64 0] 28)) (below_alloc B2.out _).size hB3)
  clear hB3
  go_wp2
  go_ret
  exact ⟨by rfl, B3.out⟩
end Go.Proofs.Ytlplphgoldkoeaa.HTab
end

section
set_option linter.unusedVariables false
set_option linter.unusedSimpArgs false
namespace Go.Proofs.Ytlplphgoldkoeaa.HTab
open Go.RowKit Go.Proofs.YtlplphgoldkoeaaW.PrintWords Go.Proofs.YtlplphgoldkoeaaW.PrintLast Go.Proofs.YtlplphgoldkoeaaW.PrintMore Go.Proofs.Ytlplphgoldkoeaa.HMap Go.Proofs.Ytlplphgoldkoeaa.X
set_option linter.unusedVariables false
set_option linter.unusedSimpArgs false
theorem rev_l0 (s : List Int) (hs : s.length < 140737488355000) : ∀ (d i fu : Nat) (a : List Int), s.length ≤ 2 * i + d → i ≤ s.length → d < fu → a.length = s.length →
    (∀ j : Nat, j < s.length → a.getD j 0 = if j < i ∨ s.length ≤ j + i then s.reverse.getD j 0 else s.getD j 0) → slices_Reverse_int_int.l0 fu a i ((s.length : Int) - 1 - i) = some s.reverse
  | d, i, 0, a, h1, h0, h2, h3, h4 => by omega
  | d, i, fu + 1, a, h1, h0, h2, h3, h4 => by
    simp only [slices_Reverse_int_int.l0]
    by_cases hlt : (i : Int) < (s.length : Int) - 1 - i
    · obtain ⟨d, rfl⟩ : ∃ e, d = e + 1 := ⟨d - 1, by omega⟩
      have w1 : wrap64 ((i : Int) + 1) = ((i + 1 : Nat) : Int) := by unfold wrap64; omega
      have w2 : wrap64 ((s.length : Int) - 1 - i - 1) = (s.length : Int) - 1 - ((i + 1 : Nat) : Int) := by unfold wrap64; omega
      have t2 : ((s.length : Int) - 1 - i).toNat = s.length - 1 - i := by omega
      rw [if_pos hlt, if_pos (by omega), if_pos (by omega), if_pos (by omega), if_pos (by omega), w1, w2, Int.toNat_natCast, t2]
      have r1 : rd a ((s.length : Int) - 1 - i) = a.getD (s.length - 1 - i) 0 := by unfold rd; rw [t2]
      have r2 : rd a (i : Int) = a.getD i 0 := by unfold rd; rw [Int.toNat_natCast]
      rw [r1, r2]
      refine rev_l0 s hs d (i + 1) fu _ (by omega) (by omega) (by omega) (by simp [h3]) (fun j hj => ?_)
      have hrev : ∀ j, j < s.length → s.reverse.getD j 0 = s.getD (s.length - 1 - j) 0 := fun j hj => by
        rw [List.getD_eq_getElem?_getD, List.getElem?_reverse hj, List.getD_eq_getElem?_getD]
      have gs : ∀ (x : List Int) (p q : Nat) (z : Int), p < x.length → (x.set p z).getD q 0 = if p = q then z else x.getD q 0 := fun x p q z hp => by
        rw [List.getD_eq_getElem?_getD, List.getElem?_set, List.getD_eq_getElem?_getD]
        by_cases hpq : p = q
        · subst hpq; simp [hp]
        · simp [hpq]
      rw [gs _ _ _ _ (by simp [h3]; omega), gs _ _ _ _ (by omega)]
      by_cases e1 : s.length - 1 - i = j
      · rw [if_pos e1, if_pos (by omega), hrev j hj, h4 i (by omega), if_neg (by omega)]
        congr 1
        omega
      · rw [if_neg e1]
        by_cases e2 : i = j
        · rw [if_pos e2, if_pos (by omega), hrev j hj, h4 _ (by omega), if_neg (by omega)]
          congr 1
          omega
        · rw [if_neg e2, h4 j hj]
          by_cases e3 : j < i ∨ s.length ≤ j + i
          · rw [if_pos e3, if_pos (by omega)]
          · rw [if_neg e3, if_neg (by omega)]
    · rw [if_neg hlt]
      congr 1
      apply List.ext_getElem (by simp [h3])
      intro j k1 k2
      have := h4 j (by omega)
      rw [List.getD_eq_getElem?_getD, List.getElem?_eq_getElem k1, List.getD_eq_getElem?_getD, List.getElem?_eq_getElem k2] at this
      simp only [Option.getD_some] at this
      rw [this]
      split
      · rfl
      · rw [List.getElem_reverse, List.getD_eq_getElem?_getD, List.getElem?_eq_getElem (by omega)]
        simp only [Option.getD_some]
        congr 1
        omega
theorem reverse_f (s : List Int) (hs : s.length < 140737488355000) (fu : Nat) (hf : s.length < fu) : slices_Reverse_int_int.f fu s = some s.reverse := by
  unfold slices_Reverse_int_int.f
  have w : wrap64 ((s.length : Int) - 1) = (s.length : Int) - 1 - ((0 : Nat) : Int) := by unfold wrap64; omega
  rw [w]
  exact rev_l0 s hs s.length 0 fu s (by omega) (by omega) hf rfl (fun j hj => by rw [if_neg (by omega)])
theorem duals_facts {v r : Int} {l : List S106} (h : VM v (l.map ofR) r) {s : List Int} (hs : setM v s [] = true) (hl : s.length < 140737488355000) :
    ∃ x0 n0 q0 y0 b0 z0 s0 s1 s2 s3 s4 s5, mask_Exists.f v (l.map ofR) r s = some (v, x0, s0, 0) ∧ mask_Not.f v (l.map ofR) r = some (v, n0, s1, 0) ∧ mask_Forall.f v n0 s1 s = some (v, q0, s2, 0) ∧ mask_Not.f v q0 s2 = some (v, y0, s3, 0) ∧ mask_And.f v (l.map ofR) r v x0 s0 = some (v, b0, s4, 0) ∧ mask_Exists.f v (l.map ofR) r s.reverse = some (v, z0, s5, 0) ∧
      x0.length ≤ 4095 ∧ y0 = x0 ∧ s3 = s0 ∧ b0 = l.map ofR ∧ s4 = r ∧ z0 = x0 ∧ s5 = s0 := by
  have v0 := h.v0
  have hr := ((setM_iff v s []).1 hs).1
  have hvn : v = (v.toNat : Int) := by omega
  obtain ⟨x0, s0, x1, x2, x3, x4⟩ := foldG_ok opt_or h hs hl
  obtain ⟨n0, s1, n1, n2, n3, n4⟩ := not_f h
  obtain ⟨q0, s2, q1, q2, q3, q4⟩ := foldG_ok opt_and n2 hs hl
  obtain ⟨y0, s3, y1, y2, y3, y4⟩ := not_f q2
  obtain ⟨b0, s4, b1, b2, b3, b4⟩ := and_f h x2
  obtain ⟨z0, s5, z1, z2, z3, z4⟩ := foldG_ok opt_or h (setM_rev v s hs) (by simpa using hl)
  have tl := tab_length v (l.map ofR) r
  have ey := VM.same y2 x2 (by
    rw [y3, q3, n3, exl_not v v.toNat hvn s _ tl hr, x3, List.map_map]
    simp [Function.comp_def])
  have ez := VM.same z2 x2 (by rw [z3, x3, exl_rev v v.toNat hvn s _ tl hr])
  have eb := VM.same b2 h (by
    rw [b3]
    refine list_ext (by rw [iteL_length _ _ _ (by rw [tab_length, tab_length]) rfl]) (fun P hP => ?_)
    rw [iteL_length _ _ _ (by rw [tab_length, tab_length]) rfl] at hP
    rw [iteL_get _ _ _ _ hP (by rw [tab_length, tab_length]) rfl]
    cases hb : (tab v (l.map ofR) r).getD P false
    · simp
    · simp only [if_true]
      rw [x3]
      exact exl_ge v s _ P hP hb)
  exact ⟨x0, n0, q0, y0, b0, z0, s0, s1, s2, s3, s4, s5, x1, n1, q1, y1, b1, z1, x4, ey.1, ey.2, eb.1, eb.2, ez.1, ez.2⟩
end Go.Proofs.Ytlplphgoldkoeaa.HTab
end

section
set_option linter.unusedVariables false
set_option linter.unusedSimpArgs false
namespace Go.Proofs.Ytlplphgoldkoeaa.HTab
open Go.RowKit Go.Proofs.YtlplphgoldkoeaaW.PrintWords Go.Proofs.YtlplphgoldkoeaaW.PrintLast Go.Proofs.YtlplphgoldkoeaaW.PrintMore Go.Proofs.Ytlplphgoldkoeaa.HMap Go.Proofs.Ytlplphgoldkoeaa.X
set_option linter.unusedVariables false
theorem nodup_len : ∀ (A B : List Int), A.Nodup → (∀ a ∈ A, a ∈ B) → A.length ≤ B.length
  | [], B, _, _ => Nat.zero_le _
  | a :: A, B, hn, hs => by
    rw [List.nodup_cons] at hn
    have hb := hs a List.mem_cons_self
    have := nodup_len A (B.erase a) hn.2 (fun x hx => (List.mem_erase_of_ne (show x ≠ a from fun e => hn.1 (e ▸ hx))).2 (hs x (List.mem_cons_of_mem _ hx)))
    rw [List.length_erase_of_mem hb] at this
    have hp := List.length_pos_of_mem hb
    simp only [List.length_cons]
    omega
theorem setM_short {v : Int} {s : List Int} (h : setM v s [] = true) (hv : v ≤ 12) : s.length ≤ 12 := by
  have q := (setM_iff v s []).1 h
  have := nodup_len s ((List.range 12).map fun (i : Nat) => (i : Int)) q.2.1 (fun a ha => by
    have := q.1 a ha
    rw [List.mem_map]
    exact ⟨a.toNat, by rw [List.mem_range]; omega, by omega⟩)
  simpa using this
theorem duals_any (v r : Int) (A : Option Addr) (c : Nat) (l : List S106) (As : Option Addr) (cs : Nat) (s : List Int) (w : World) (hC : Kd.C k106 w A l.length l) (hc : l.length ≤ c) (hS : Kd.C (Kd.int .i64) w As s.length s) (hcs : s.length ≤ cs) (hl : l.length < 10000000000000) (hsl : s.length < 140737488355000) :
    Calls Try.prog 15 #[.agg #[.int .i64 v, .slice A l.length c, .int .i64 r], .slice As s.length cs] w fun e w' => e = .returned (.bool true) ∧ Below w.heap.size w w' := by
  by_cases h : VM v (l.map ofR) r ∧ setM v s [] = true
  · obtain ⟨hV, hM⟩ := h
    have hs12 := setM_short hM hV.v12
    have hlen := hV.ofL.2
    have hO := of_f l v r hl 20000 (by omega)
    rw [hV.ofL.1] at hO
    obtain ⟨x0, n0, q0, y0, b0, z0, s0, s1, s2, s3, s4, s5, a1, a2, a3, a4, a5, a6, k0, e1, e2, e3, e4, e5, e6⟩ := duals_facts hV hM (by omega)
    rw [e1, e2] at a4
    rw [e3, e4] at a5
    rw [e5, e6] at a6
    have ox := own_f x0 (by omega) v s0 20000 (by omega)
    have ob := own_f (l.map ofR) (by simp; omega) v r 20000 (by simp; omega)
    rw [toR_ofR] at ob
    have sx := same_f (x0.map toR) (by simp; omega) v s0 20000 (by simp; omega)
    exact duals_calls 20000 v r A c l As cs s w hC hc hS hcs (l.map ofR) x0 n0 q0 x0 (l.map ofR) x0 v v v v v v s0 s1 s2 s0 r s0 hO a1 a2 a3 a4 a5 s.reverse (reverse_f s (by omega) 20000 (by omega)) a6 (by omega)
      (x0.map toR) (x0.map toR) l (x0.map toR) ox ox ob ox sx (same_f l (by omega) v r 20000 (by omega)) sx (awake_f 20000 (by omega))
  · have hO := of_f l v r hl 20000 (by omega)
    exact duals_err 20000 v r A c l As cs s w hC hc hS hcs (ofL l) hO (foldG_err (by have := ofL_len l; omega) hsl (fun q => h ⟨ofL_vm.1 q.1, q.2⟩)) (awake_f 20000 (by omega))
end Go.Proofs.Ytlplphgoldkoeaa.HTab
end

section
set_option linter.unusedVariables false
set_option linter.unusedSimpArgs false
namespace Go.Proofs.Ytlplphgoldkoeaa.maskDuals
open Go.ChangeShapes Go.WideShapes Go.ChangeAt Go.RowKit Go.Proofs.YtlplphgoldkoeaaW.PrintWords Go.Proofs.Ytlplphgoldkoeaa.HTab Go.Proofs.Ytlplphgoldkoeaa.X
open Go.ChangeMaps (open_string shut_string)
set_option linter.unusedVariables false
theorem own : ownKnob Try.prog.godebug = none := by kernel_rfl
theorem laidOut : laidOutB Try.prog = true := by kernel_rfl
set_option maxRecDepth 100000 in
theorem lifted (os : Os) (started : os.Started) (H : Type) (enc : TypeId × Value → H) :
    ReturnsInHanded {} Try.checked os 15 .any (Rows.maskDualsSpec.pre6 enc Try.prog Try.f15 Rows.maskDualsRow.domain false) (Rows.maskDualsSpec.post enc Try.prog Try.f15 false true false false) := by
  refine returnsInHanded_of_change_sized (C := Try.checked) own started (by kernel_rfl) Try.func15
    (ChangeSpec.witness6 (enc := enc) (C := Try.checked) false ⟨#[], #[.agg #[.int .i64 0, .slice none 0 0, .int .i64 0], .slice none 0 0], []⟩ 8 (by kernel_rfl) (by kernel_rfl) (by kernel_rfl) (by kernel_rfl)) ?_
  intro W base args ds gs before hval0 hW hcnd hsz0 _
  have hsz : (DataW.weightsEach Try.prog (Try.f15.params.toList ++ Rows.maskDualsSpec.plain.varTypes Try.prog) (ds ++ gs)).all (· ≤ reachBytes) = true := hsz0
  have hval : ∀ (j : Nat) t v, Try.f15.params[j]? = some t → args[j]? = some v → Value.okWide Try.prog W .any base t v := hval0
  have hW' := hW
  obtain ⟨p, q, hA0, hV, rfl, hfz, hnd⟩ := hW
  have hA : DataW.TrodAll enc Try.prog W 0 (fun _ => true) true Try.f15.params.toList args.toList ds p := hA0
  rw [Try.params15] at hA hval hsz
  obtain ⟨v0, vs0, d0, ds0, p0, q0, hargs, rfl, rfl, h0, r0⟩ := trodAll_cons hA
  obtain ⟨v1, vs1, d1, ds1, p1, q1, rfl, rfl, rfl, h1, r1⟩ := trodAll_cons r0
  obtain ⟨rfl, rfl, rfl⟩ := trodAll_nil r1
  obtain rfl : args = #[v0, v1] := by cases args; simp_all
  obtain ⟨rfl, rfl⟩ := trodVars_none hV
  have k0 := h0
  have lt0 : ∀ x ∈ p0, x.block < W.heap.size := by obtain ⟨m, hm⟩ := k0; exact DataW.trod_lt m _ _ _ hm
  obtain ⟨n0, A0, c0, l0, r0_, rfl, C0, L0, B0, wn0, wr0⟩ := open_mask (hval 0 33 v0 rfl rfl) h0 hsz (j := 0) rfl rfl
  have k1 := h1
  have lt1 : ∀ x ∈ p1, x.block < W.heap.size := by obtain ⟨m, hm⟩ := k1; exact DataW.trod_lt m _ _ _ hm
  obtain ⟨A1, c1, l1, rfl, C1, L1, B1, w1⟩ := open_ints_ (hval 1 82 v1 rfl rfl) h1 hsz (j := 1) rfl rfl
  clear hA0 hval0 hsz0 hsz
  refine (((duals_any n0 r0_ A0 c0 l0 A1 c1 l1 W C0 L0 C1 L1 B0 (by omega)))).mono fun e W' ⟨he, bel⟩ => ?_
  subst he
  exact ⟨_, rfl, _, _, _, [], _, [], hW', trodAll_mk1 (shut_bool Try.underlying4 _), (trodAll_cons_mk (Below.trod laidOut (by kernel_rfl) (of_decide_eq_true (by kernel_rfl)) k0 bel lt0) (trodAll_cons_mk (Below.trod laidOut (by kernel_rfl) (of_decide_eq_true (by kernel_rfl)) k1 bel lt1) trodAll_mk0)), rfl, bel.frame _, fun h => by cases h⟩
theorem over : Rows.maskDualsRow.holds Try.pinned (OpenSpec.ofChange Rows.maskDualsSpec) :=
  OpenClaim.holds_of_wide 15 Try.f15 rfl rfl rfl rfl rfl rfl rfl ⟨rfl, rfl, rfl, rfl, rfl⟩ rfl rfl rfl rfl rfl (by kernel_rfl) Try.func15 (by kernel_rfl)
    (of_decide_eq_true (by kernel_rfl)) (by unfold Func.isWrapper; first | (rw [if_pos (by decide +kernel)]; kernel_rfl) | (rw [if_neg (by decide +kernel)]; exact ⟨rfl, rfl⟩))
    (fun os started H enc _ => lifted os started H enc)
theorem proved : Rows.MaskDualsSaid := over
end Go.Proofs.Ytlplphgoldkoeaa.maskDuals
namespace Go.Proofs.Ytlplphgoldkoeaa
theorem maskDuals_holds : Rows.MaskDualsSaid := maskDuals.proved
end Go.Proofs.Ytlplphgoldkoeaa
#print axioms Go.Proofs.Ytlplphgoldkoeaa.maskDuals_holds
end
