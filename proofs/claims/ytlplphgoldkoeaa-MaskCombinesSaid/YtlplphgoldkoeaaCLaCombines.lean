/- The law MaskCombines holds of the program, for every input that its statement lets in. -/
import Derived.Test.YtlplphgoldkoeaaBr
import Derived.Deep.DeepMust
import Derived.Test.YtlplphgoldkoeaaRows
import Derived.Test.YtlplphgoldkoeaaBn
import Derived.WalkKit
import Derived.ProofKit
import Derived.OpenShut
import Derived.ShutString
import Derived.ChangeOld
import Derived.Below
import Derived.SizedLaws
import Derived.Test.YtlplphgoldkoeaaBb
section
set_option linter.unusedVariables false
set_option linter.unusedSimpArgs false
namespace Go.Proofs.Ytlplphgoldkoeaa.HTab
open Go.RowKit Go.Proofs.YtlplphgoldkoeaaW.PrintWords Go.Proofs.YtlplphgoldkoeaaW.PrintLast Go.Proofs.YtlplphgoldkoeaaW.PrintMore Go.Proofs.Ytlplphgoldkoeaa.HMap Go.Proofs.Ytlplphgoldkoeaa.X
set_option linter.unusedVariables false
set_option linter.unusedSimpArgs false
theorem alloc_size (w : World) (o : Obj) : (w.alloc o).heap.size = w.heap.size + 1 := by simp
def tb_MaskCombines_5.T : Bool × List (List Nat × List Nat) := (true, [([], []), ([0], [0]), ([], []), ([2, 1], [2]), ([1, 3, 3], [1, 3]), ([4], [4]), ([5], [5]), ([5], [5]), ([6, 4, 0, 1, 2, 3, 4, 5, 6], [6]), ([7, 8, 0, 1, 2, 3, 4, 5, 6, 7, 8], [7])])
def tb_MaskCombines_5.B : List Nat := [0, 1, 0, 7, 15, 31, 63, 63, 127, 511]
theorem tb_MaskCombines_5.tab : rtab .any (opsOf Try.f7 5) = tb_MaskCombines_5.T := by kernel_rfl
theorem tb_MaskCombines_5.bits : waitsOk tb_MaskCombines_5.T.2 tb_MaskCombines_5.B = true := by kernel_rfl
def tb_MaskCombines_9.T : Bool × List (List Nat × List Nat) := (true, [([], []), ([0], [0]), ([], []), ([2, 1], [2]), ([1, 3, 3], [1, 3]), ([4], [4]), ([5], [5]), ([5], [5]), ([6, 4, 0, 1, 2, 3, 4, 5, 6], [6]), ([7, 8, 0, 1, 2, 3, 4, 5, 6, 7, 8], [7])])
def tb_MaskCombines_9.B : List Nat := [0, 1, 0, 7, 15, 31, 63, 63, 127, 511]
theorem tb_MaskCombines_9.tab : rtab .any (opsOf Try.f7 9) = tb_MaskCombines_9.T := by kernel_rfl
theorem tb_MaskCombines_9.bits : waitsOk tb_MaskCombines_9.T.2 tb_MaskCombines_9.B = true := by kernel_rfl
def tb_MaskCombines_13.T : Bool × List (List Nat × List Nat) := (true, [([], []), ([0], [0]), ([], []), ([2, 1], [2]), ([1, 3, 3], [1, 3]), ([4], [4]), ([5], [5]), ([5], [5]), ([6, 4, 0, 1, 2, 3, 4, 5, 6], [6]), ([7, 8, 0, 1, 2, 3, 4, 5, 6, 7, 8], [7])])
def tb_MaskCombines_13.B : List Nat := [0, 1, 0, 7, 15, 31, 63, 63, 127, 511]
theorem tb_MaskCombines_13.tab : rtab .any (opsOf Try.f7 13) = tb_MaskCombines_13.T := by kernel_rfl
theorem tb_MaskCombines_13.bits : waitsOk tb_MaskCombines_13.T.2 tb_MaskCombines_13.B = true := by kernel_rfl
def tb_MaskCombines_17.T : Bool × List (List Nat × List Nat) := (true, [([], []), ([0], [0]), ([], []), ([2, 1], [2]), ([], []), ([4, 3], [4]), ([1, 3, 5, 5], [1, 3, 5]), ([6], [6]), ([7], [7]), ([7], [7]), ([8, 6, 0, 1, 2, 3, 4, 5, 6, 7, 8], [8]), ([9, 10, 0, 1, 2, 3, 4, 5, 6, 7, 8, 9, 10], [9])])
def tb_MaskCombines_17.B : List Nat := [0, 1, 0, 7, 0, 31, 63, 127, 255, 255, 511, 2047]
theorem tb_MaskCombines_17.tab : rtab .any (opsOf Try.f7 17) = tb_MaskCombines_17.T := by kernel_rfl
theorem tb_MaskCombines_17.bits : waitsOk tb_MaskCombines_17.T.2 tb_MaskCombines_17.B = true := by kernel_rfl
set_option maxRecDepth 100000 in
set_option maxHeartbeats 16000000 in
theorem combines_calls (fu : Nat) (v1 v2 v3 r1 r2 r3 : Int) (A1 A2 A3 : Option Addr) (c1 c2 c3 : Nat) (k1 k2 k3 : List S106) (w : World) (hCf : Kd.C k106 w A1 k1.length k1) (hCg : Kd.C k106 w A2 k2.length k2) (hCh : Kd.C k106 w A3 k3.length k3) (hcf : k1.length ≤ c1) (hcg : k2.length ≤ c2) (hch : k3.length ≤ c3)
    (o1 ov2 ov3 : List S107) (a0 a1 a2 a3 a4 : List S107) (b0 b1 b2 b3 b4 : List S106) (u0 u1 u2 u3 u4 s0 s1 s2 s3 s4 e0 e1 e2 e3 e4 : Int)
    (ho1 : cantinglaw02_of.f fu v1 k1 r1 = some (v1, o1, r1)) (ho2 : cantinglaw02_of.f fu v2 k2 r2 = some (v2, ov2, r2)) (ho3 : cantinglaw02_of.f fu v3 k3 r3 = some (v3, ov3, r3))
    (hN : mask_Not.f v1 o1 r1 = some (u0, a0, s0, e0) ∧ cantingref02_Not.f fu v1 k1 r1 = some (u0, b0, s0, e0) ∧ cantinglaw02_is.f fu u0 a0 s0 e0 u0 b0 s0 e0 = some true) (hAW : cantinglaw02_awake.f fu = some true)
    (hA : mask_And.f v1 o1 r1 v2 ov2 r2 = some (u1, a1, s1, e1) ∧ cantingref02_And.f fu v1 k1 r1 v2 k2 r2 = some (u1, b1, s1, e1) ∧ cantinglaw02_is.f fu u1 a1 s1 e1 u1 b1 s1 e1 = some true)
    (hOR : mask_Or.f v1 o1 r1 v2 ov2 r2 = some (u2, a2, s2, e2) ∧ cantingref02_Or.f fu v1 k1 r1 v2 k2 r2 = some (u2, b2, s2, e2) ∧ cantinglaw02_is.f fu u2 a2 s2 e2 u2 b2 s2 e2 = some true)
    (hX : mask_Xor.f v1 o1 r1 v2 ov2 r2 = some (u3, a3, s3, e3) ∧ cantingref02_Xor.f fu v1 k1 r1 v2 k2 r2 = some (u3, b3, s3, e3) ∧ cantinglaw02_is.f fu u3 a3 s3 e3 u3 b3 s3 e3 = some true)
    (hI : mask_Ite.f v1 o1 r1 v2 ov2 r2 v3 ov3 r3 = some (u4, a4, s4, e4) ∧ cantingref02_Ite.f fu v1 k1 r1 v2 k2 r2 v3 k3 r3 = some (u4, b4, s4, e4) ∧ cantinglaw02_is.f fu u4 a4 s4 e4 u4 b4 s4 e4 = some true) :
    Calls Try.prog 7 #[.agg #[.int .i64 v1, .slice A1 k1.length c1, .int .i64 r1], .agg #[.int .i64 v2, .slice A2 k2.length c2, .int .i64 r2], .agg #[.int .i64 v3, .slice A3 k3.length c3, .int .i64 r3]] w fun e w' => e = .returned (.bool true) ∧ Below w.heap.size w w' := by
  have HCf := Aside0.mk hCf
  have HCg := Aside0.mk hCg
  have HCh := Aside0.mk hCh
  have HO1 := Aside0.mk ho1
  have HO2 := Aside0.mk ho2
  have HO3 := Aside0.mk ho3
  have HN := Aside0.mk hN
  have HAW := Aside0.mk hAW
  have HA := Aside0.mk hA
  have HOR := Aside0.mk hOR
  have HX := Aside0.mk hX
  have HI := Aside0.mk hI
  have hu1 := Try.underlying28
  have hu2 := Try.underlying33
  clear hCf hCg hCh ho1 ho2 ho3 hN hAW hA hOR hX hI
  go_enter Try.func7, Try.ntmps7
  obtain ⟨W0, hW0⟩ : ∃ W, W = (((w.alloc (.cells #[.int .i64 v1, .slice A1 k1.length c1, .int .i64 r1] 33)).alloc (.cells #[.int .i64 v2, .slice A2 k2.length c2, .int .i64 r2] 33)).alloc (.cells #[.int .i64 v3, .slice A3 k3.length c3, .int .i64 r3] 33)) := ⟨_, rfl⟩
  have hs0 : W0.heap.size = w.heap.size + 3 := by rw [hW0]; simp
  have HB0 := Aside0.mk (show Below w.heap.size w W0 by rw [hW0]; exact (below_alloc (below_alloc (below_alloc (Below.refl w.heap.size w) (.cells #[.int .i64 v1, .slice A1 k1.length c1, .int .i64 r1] 33)) (.cells #[.int .i64 v2, .slice A2 k2.length c2, .int .i64 r2] 33)) (.cells #[.int .i64 v3, .slice A3 k3.length c3, .int .i64 r3] 33)))
  have Kf0 : Aside0 (W0.heap[w.heap.size]? = some (.cells #[.int .i64 v1, .slice A1 k1.length c1, .int .i64 r1] 33 (0, 0))) := ⟨by rw [hW0]; exact blk_alloc (blk_alloc (blk_new _ _) _) _⟩
  have Kg0 : Aside0 (W0.heap[w.heap.size + 1]? = some (.cells #[.int .i64 v2, .slice A2 k2.length c2, .int .i64 r2] 33 (0, 0))) := ⟨by rw [hW0]; refine blk_alloc ?_ _; simpa using blk_new (w.alloc (.cells #[.int .i64 v1, .slice A1 k1.length c1, .int .i64 r1] 33)) (.cells #[.int .i64 v2, .slice A2 k2.length c2, .int .i64 r2] 33)⟩
  have Kh0 : Aside0 (W0.heap[w.heap.size + 2]? = some (.cells #[.int .i64 v3, .slice A3 k3.length c3, .int .i64 r3] 33 (0, 0))) := ⟨by rw [hW0]; simpa using blk_new ((w.alloc (.cells #[.int .i64 v1, .slice A1 k1.length c1, .int .i64 r1] 33)).alloc (.cells #[.int .i64 v2, .slice A2 k2.length c2, .int .i64 r2] 33)) (.cells #[.int .i64 v3, .slice A3 k3.length c3, .int .i64 r3] 33)⟩
  have y0 : ((((w.alloc (.cells #[.int .i64 v1, .slice A1 k1.length c1, .int .i64 r1] 33)).alloc (.cells #[.int .i64 v2, .slice A2 k2.length c2, .int .i64 r2] 33)).alloc (.cells #[.int .i64 v3, .slice A3 k3.length c3, .int .i64 r3] 33))).cell? ⟨w.heap.size, 0, none⟩ = some (.int .i64 v1) := by rw [← hW0]; exact (blk_cell Kf0.out 0).trans rfl
  have y1 : ((((w.alloc (.cells #[.int .i64 v1, .slice A1 k1.length c1, .int .i64 r1] 33)).alloc (.cells #[.int .i64 v2, .slice A2 k2.length c2, .int .i64 r2] 33)).alloc (.cells #[.int .i64 v3, .slice A3 k3.length c3, .int .i64 r3] 33))).cell? ⟨w.heap.size, 1, none⟩ = some (.slice A1 k1.length c1) := by rw [← hW0]; exact (blk_cell Kf0.out 1).trans rfl
  have y2 : ((((w.alloc (.cells #[.int .i64 v1, .slice A1 k1.length c1, .int .i64 r1] 33)).alloc (.cells #[.int .i64 v2, .slice A2 k2.length c2, .int .i64 r2] 33)).alloc (.cells #[.int .i64 v3, .slice A3 k3.length c3, .int .i64 r3] 33))).cell? ⟨w.heap.size, 2, none⟩ = some (.int .i64 r1) := by rw [← hW0]; exact (blk_cell Kf0.out 2).trans rfl
  have HS0 : Aside0 (w.heap.size + 3 ≤ W0.heap.size) := ⟨by omega⟩
  clear hs0
  go_wp2_with fail
  rw [← hW0]
  clear hW0 y0 y1 y2
  refine (cantinglaw02_of.calls fu v1 A1 c1 k1 r1 v1 o1 r1 _ (Kd.C_below HCf.out HB0.out) hcf HO1.out).mono ?_
  rintro e w1 ⟨vo1_, rfl, hRo1, hb1⟩
  obtain ⟨Ao1, co1, rfl, hco1, _⟩ := Kd.R_reads hRo1
  have HS1 : Aside0 (w.heap.size + 3 ≤ w1.heap.size) := ⟨Nat.le_trans (show w.heap.size + 3 ≤ (W0).heap.size by have := HS0.out; first | exact this | (simp only [setCell_size, alloc_size]; omega)) hb1.size⟩
  have HB2 := Aside0.mk (below_then HB0.out (HB0.out).size hb1)
  have Kf2 := Aside0.mk (blk_below Kf0.out hb1)
  have Kg2 := Aside0.mk (blk_below Kg0.out hb1)
  have Kh2 := Aside0.mk (blk_below Kh0.out hb1)
  have Ro11 := Aside0.mk (Kd.R_lower hRo1 (HB0.out).size)
  clear hb1 hRo1
  go_wp2_with fail
  refine (mask_Not.calls v1 Ao1 co1 o1 r1 u0 a0 s0 e0 _ (Kd.R_reads' Ro11.out).2.2 (Kd.R_reads' Ro11.out).2.1 HN.out.1).mono ?_
  rintro e w3 ⟨va0_, rfl, hRa0, hb3⟩
  obtain ⟨Aa0, ca0, rfl, hca0, _⟩ := Kd.R_reads hRa0
  have HS3 : Aside0 (w.heap.size + 3 ≤ w3.heap.size) := ⟨Nat.le_trans (show w.heap.size + 3 ≤ (w1).heap.size by have := HS1.out; first | exact this | (simp only [setCell_size, alloc_size]; omega)) hb3.size⟩
  have HB4 := Aside0.mk (below_then HB2.out (HB2.out).size hb3)
  have Kf4 := Aside0.mk (blk_below Kf2.out hb3)
  have Kg4 := Aside0.mk (blk_below Kg2.out hb3)
  have Kh4 := Aside0.mk (blk_below Kh2.out hb3)
  have Ro14 := Aside0.mk (Kd.R_below Ro11.out hb3)
  have Ra03 := Aside0.mk (Kd.R_lower hRa0 (HB2.out).size)
  clear hb3 hRa0
  have ga5 : w.heap.size + 3 ≤ w3.heap.size := by exact HS3.out
  have yf0_6 := (blk_cell (blk_alloc Kf4.out (.cells #[.int .i64 u0, .slice Aa0 a0.length ca0, .int .i64 s0] 28)) 0).trans rfl
  have yf1_6 := (blk_cell (blk_alloc Kf4.out (.cells #[.int .i64 u0, .slice Aa0 a0.length ca0, .int .i64 s0] 28)) 1).trans rfl
  have yf2_6 := (blk_cell (blk_alloc Kf4.out (.cells #[.int .i64 u0, .slice Aa0 a0.length ca0, .int .i64 s0] 28)) 2).trans rfl
  go_wp2_with fail
  refine (cantingref02_Not.calls fu v1 A1 c1 k1 r1 u0 b0 s0 e0 _ (Kd.C_below HCf.out (below_alloc HB4.out (.cells #[.int .i64 u0, .slice Aa0 a0.length ca0, .int .i64 s0] 28))) hcf HN.out.2.1).mono ?_
  rintro e w7 ⟨vb0_, rfl, hRb0, hb7⟩
  obtain ⟨Ab0, cb0, rfl, hcb0, _⟩ := Kd.R_reads hRb0
  have HS7 : Aside0 (w.heap.size + 3 ≤ w7.heap.size) := ⟨Nat.le_trans (show w.heap.size + 3 ≤ ((w3.alloc (.cells #[.int .i64 u0, .slice Aa0 a0.length ca0, .int .i64 s0] 28))).heap.size by have := HS3.out; first | exact this | (simp only [setCell_size, alloc_size]; omega)) hb7.size⟩
  have HB8 := Aside0.mk (below_then (below_alloc HB4.out (.cells #[.int .i64 u0, .slice Aa0 a0.length ca0, .int .i64 s0] 28)) ((below_alloc HB4.out (.cells #[.int .i64 u0, .slice Aa0 a0.length ca0, .int .i64 s0] 28))).size hb7)
  have Kf8 := Aside0.mk (blk_below (blk_alloc Kf4.out (.cells #[.int .i64 u0, .slice Aa0 a0.length ca0, .int .i64 s0] 28)) hb7)
  have Kg8 := Aside0.mk (blk_below (blk_alloc Kg4.out (.cells #[.int .i64 u0, .slice Aa0 a0.length ca0, .int .i64 s0] 28)) hb7)
  have Kh8 := Aside0.mk (blk_below (blk_alloc Kh4.out (.cells #[.int .i64 u0, .slice Aa0 a0.length ca0, .int .i64 s0] 28)) hb7)
  have Ka8 := Aside0.mk (blk_below (blk_new w3 (.cells #[.int .i64 u0, .slice Aa0 a0.length ca0, .int .i64 s0] 28)) hb7)
  have Ra08 := Aside0.mk (Kd.R_below (Kd.R_alloc Ra03.out (.cells #[.int .i64 u0, .slice Aa0 a0.length ca0, .int .i64 s0] 28)) hb7)
  have Rb07 := Aside0.mk (Kd.R_lower hRb0 ((below_alloc HB4.out (.cells #[.int .i64 u0, .slice Aa0 a0.length ca0, .int .i64 s0] 28))).size)
  clear hb7 hRb0
  clear yf0_6 yf1_6 yf2_6
  have gb9 : w.heap.size + 3 ≤ w7.heap.size := by exact HS7.out
  have ya0_10 := (blk_cell (blk_alloc Ka8.out (.cells #[.int .i64 u0, .slice Ab0 b0.length cb0, .int .i64 s0] 33)) 0).trans rfl
  have ya1_10 := (blk_cell (blk_alloc Ka8.out (.cells #[.int .i64 u0, .slice Ab0 b0.length cb0, .int .i64 s0] 33)) 1).trans rfl
  have ya2_10 := (blk_cell (blk_alloc Ka8.out (.cells #[.int .i64 u0, .slice Ab0 b0.length cb0, .int .i64 s0] 33)) 2).trans rfl
  have yb0_10 := (blk_cell (blk_new w7 (.cells #[.int .i64 u0, .slice Ab0 b0.length cb0, .int .i64 s0] 33)) 0).trans rfl
  have yb1_10 := (blk_cell (blk_new w7 (.cells #[.int .i64 u0, .slice Ab0 b0.length cb0, .int .i64 s0] 33)) 1).trans rfl
  have yb2_10 := (blk_cell (blk_new w7 (.cells #[.int .i64 u0, .slice Ab0 b0.length cb0, .int .i64 s0] 33)) 2).trans rfl
  go_wp2_with fail
  refine (cantinglaw02_is.calls fu u0 Aa0 ca0 a0 s0 e0 u0 Ab0 cb0 b0 s0 e0 true _ (Kd.R_reads' (Kd.R_alloc Ra08.out (.cells #[.int .i64 u0, .slice Ab0 b0.length cb0, .int .i64 s0] 33))).2.2 (Kd.R_reads' (Kd.R_alloc Ra08.out (.cells #[.int .i64 u0, .slice Ab0 b0.length cb0, .int .i64 s0] 33))).2.1 (Kd.R_reads' (Kd.R_alloc Rb07.out (.cells #[.int .i64 u0, .slice Ab0 b0.length cb0, .int .i64 s0] 33))).2.2 (Kd.R_reads' (Kd.R_alloc Rb07.out (.cells #[.int .i64 u0, .slice Ab0 b0.length cb0, .int .i64 s0] 33))).2.1 HN.out.2.2).mono ?_
  rintro e w11 ⟨rfl, hb11⟩
  have HS11 : Aside0 (w.heap.size + 3 ≤ w11.heap.size) := ⟨Nat.le_trans (show w.heap.size + 3 ≤ ((w7.alloc (.cells #[.int .i64 u0, .slice Ab0 b0.length cb0, .int .i64 s0] 33))).heap.size by have := HS7.out; first | exact this | (simp only [setCell_size, alloc_size]; omega)) hb11.size⟩
  have HB12 := Aside0.mk (below_then (below_alloc HB8.out (.cells #[.int .i64 u0, .slice Ab0 b0.length cb0, .int .i64 s0] 33)) ((below_alloc HB8.out (.cells #[.int .i64 u0, .slice Ab0 b0.length cb0, .int .i64 s0] 33))).size hb11)
  have Kf12 := Aside0.mk (blk_below (blk_alloc Kf8.out (.cells #[.int .i64 u0, .slice Ab0 b0.length cb0, .int .i64 s0] 33)) hb11)
  have Kg12 := Aside0.mk (blk_below (blk_alloc Kg8.out (.cells #[.int .i64 u0, .slice Ab0 b0.length cb0, .int .i64 s0] 33)) hb11)
  have Kh12 := Aside0.mk (blk_below (blk_alloc Kh8.out (.cells #[.int .i64 u0, .slice Ab0 b0.length cb0, .int .i64 s0] 33)) hb11)
  have Ka12 := Aside0.mk (blk_below (blk_alloc Ka8.out (.cells #[.int .i64 u0, .slice Ab0 b0.length cb0, .int .i64 s0] 33)) hb11)
  have Kb12 := Aside0.mk (blk_below (blk_new w7 (.cells #[.int .i64 u0, .slice Ab0 b0.length cb0, .int .i64 s0] 33)) hb11)
  have Ra012 := Aside0.mk (Kd.R_below (Kd.R_alloc Ra08.out (.cells #[.int .i64 u0, .slice Ab0 b0.length cb0, .int .i64 s0] 33)) hb11)
  have Rb012 := Aside0.mk (Kd.R_below (Kd.R_alloc Rb07.out (.cells #[.int .i64 u0, .slice Ab0 b0.length cb0, .int .i64 s0] 33)) hb11)
  clear hb11
  clear ya0_10 ya1_10 ya2_10 yb0_10 yb1_10 yb2_10
  go_wp2_with fail
  refine (cantinglaw02_awake.calls fu true _ HAW.out).mono ?_
  rintro e w13 ⟨rfl, hb13⟩
  have HS13 : Aside0 (w.heap.size + 3 ≤ w13.heap.size) := ⟨Nat.le_trans (show w.heap.size + 3 ≤ (w11).heap.size by have := HS11.out; first | exact this | (simp only [setCell_size, alloc_size]; omega)) hb13.size⟩
  have HB14 := Aside0.mk (below_then HB12.out (HB12.out).size hb13)
  have Kf14 := Aside0.mk (blk_below Kf12.out hb13)
  have Kg14 := Aside0.mk (blk_below Kg12.out hb13)
  have Kh14 := Aside0.mk (blk_below Kh12.out hb13)
  have Ka14 := Aside0.mk (blk_below Ka12.out hb13)
  have Kb14 := Aside0.mk (blk_below Kb12.out hb13)
  have Ra014 := Aside0.mk (Kd.R_below Ra012.out hb13)
  have Rb014 := Aside0.mk (Kd.R_below Rb012.out hb13)
  clear hb13
  have yf0_15 := (blk_cell Kf14.out 0).trans rfl
  have yf1_15 := (blk_cell Kf14.out 1).trans rfl
  have yf2_15 := (blk_cell Kf14.out 2).trans rfl
  have yg0_15 := (blk_cell Kg14.out 0).trans rfl
  have yg1_15 := (blk_cell Kg14.out 1).trans rfl
  have yg2_15 := (blk_cell Kg14.out 2).trans rfl
  go_wp2
  refine start_ (n := 10) (S := fun w' => (w'.cell? ⟨w.heap.size, 0, none⟩ = some (.int .i64 v1)) ∧ (w'.cell? ⟨w.heap.size, 1, none⟩ = some (.slice A1 k1.length c1)) ∧ (w'.cell? ⟨w.heap.size, 2, none⟩ = some (.int .i64 r1)) ∧ (w'.cell? ⟨(w.heap.size + 1), 0, none⟩ = some (.int .i64 v2)) ∧ (w'.cell? ⟨(w.heap.size + 1), 1, none⟩ = some (.slice A2 k2.length c2)) ∧ (w'.cell? ⟨(w.heap.size + 1), 2, none⟩ = some (.int .i64 r2))) (ds := [3, 4, 8]) #[false, false, false, false, false, false, false, false, false, false] (by kernel_rfl) rfl rfl ⟨yf0_15, yf1_15, yf2_15, yg0_15, yg1_15, yg2_15⟩ (fun hHeld => ?_)
  refine with_tabW tb_MaskCombines_5.tab tb_MaskCombines_5.bits (fun HT_ HW_ => ?_)
  refine take_ (i := 0) (N := some 33) (v := ?_) (a' := ?_) #[true, false, false, false, false, false, false, false, false, false] rfl rfl (take_ofW HT_.out HW_.out (by kernel_rfl)) (fun _ _ _ h => h) (Or.inl ⟨by rfl, ?_⟩) hHeld ?_ ?_
  rotate_left
  · rintro w' ⟨s0, s1, s2, s3, s4, s5⟩
    go_simp
    with_reducible rfl
  rotate_left
  · simp only [Act.put, List.setIfInBounds_toArray, List.set_cons_zero, List.set_cons_succ, i64_w, i32_w]
    rfl
  refine take_ (i := 2) (N := some 35) (v := ?_) (a' := ?_) #[true, false, true, false, false, false, false, false, false, false] rfl rfl (take_ofW HT_.out HW_.out (by kernel_rfl)) (fun _ _ _ h => h) (Or.inl ⟨by rfl, ?_⟩) hHeld ?_ ?_
  rotate_left
  · rintro w' ⟨s0, s1, s2, s3, s4, s5⟩
    go_simp
    with_reducible rfl
  rotate_left
  · simp only [Act.put, List.setIfInBounds_toArray, List.set_cons_zero, List.set_cons_succ, i64_w, i32_w]
    rfl
  refine one_ (i := 1) (N := some 34) #[true, true, true, false, false, false, false, false, false, false] rfl rfl (one_of HT_.out (by kernel_rfl)) (by decide) (fun K hK => ?_)
  refine goes_ Try.func30 (by kernel_rfl) rfl #[.agg #[.int .i64 v1, .slice A1 k1.length c1, .int .i64 r1]] (by rfl) rfl rfl (by simp only [List.map_toArray, List.map_cons, List.map_nil]; rfl) ?_
  refine (cantinglaw02_of.calls fu v1 A1 c1 k1 r1 v1 o1 r1 _ (Kd.C_below HCf.out (below_drew HB14.out)) hcf HO1.out).mono ?_
  rintro e w16 ⟨vo2_, rfl, hRo2, hb16⟩
  obtain ⟨Ao2, co2, rfl, hco2, _⟩ := Kd.R_reads hRo2
  have HS16 : Aside0 (w.heap.size + 3 ≤ w16.heap.size) := ⟨Nat.le_trans (show w.heap.size + 3 ≤ (w13.drew).heap.size by have := HS13.out; first | exact this | (simp only [setCell_size, alloc_size]; omega)) hb16.size⟩
  have HB17 := Aside0.mk (below_then (below_drew HB14.out) ((below_drew HB14.out)).size hb16)
  have Kf17 := Aside0.mk (blk_below (blk_drew Kf14.out) hb16)
  have Kg17 := Aside0.mk (blk_below (blk_drew Kg14.out) hb16)
  have Kh17 := Aside0.mk (blk_below (blk_drew Kh14.out) hb16)
  have Ka17 := Aside0.mk (blk_below (blk_drew Ka14.out) hb16)
  have Kb17 := Aside0.mk (blk_below (blk_drew Kb14.out) hb16)
  have Ra017 := Aside0.mk (Kd.R_below (Kd.R_drew Ra014.out) hb16)
  have Rb017 := Aside0.mk (Kd.R_below (Kd.R_drew Rb014.out) hb16)
  have Ro216 := Aside0.mk (Kd.R_lower hRo2 ((below_drew HB14.out)).size)
  clear hb16 hRo2
  refine ⟨_, rfl, ?_⟩
  refine hK.out _ _ ⟨(blk_cell Kf17.out 0).trans rfl, (blk_cell Kf17.out 1).trans rfl, (blk_cell Kf17.out 2).trans rfl, (blk_cell Kg17.out 0).trans rfl, (blk_cell Kg17.out 1).trans rfl, (blk_cell Kg17.out 2).trans rfl⟩ (fun hHeld => ?_)
  clear hK K
  refine norm_ (a' := ?_) ?_ ?_
  rotate_left
  · show Act.put _ (some 34) _ = _
    (try simp only [Act.put, List.setIfInBounds_toArray, List.set_cons_zero, List.set_cons_succ, i64_w, i32_w])
    rfl
  refine last_ (i := 3) (N := some 36) #[true, true, true, true, false, false, false, false, false, false] rfl rfl (one_of HT_.out (by kernel_rfl)) (by decide) (fun K hK => ?_)
  refine goes_ Try.func30 (by kernel_rfl) rfl #[.agg #[.int .i64 v2, .slice A2 k2.length c2, .int .i64 r2]] (by rfl) rfl rfl (by simp only [List.map_toArray, List.map_cons, List.map_nil]; rfl) ?_
  refine (cantinglaw02_of.calls fu v2 A2 c2 k2 r2 v2 ov2 r2 _ (Kd.C_below HCg.out HB17.out) hcg HO2.out).mono ?_
  rintro e w18 ⟨vo3_, rfl, hRo3, hb18⟩
  obtain ⟨Ao3, co3, rfl, hco3, _⟩ := Kd.R_reads hRo3
  have HS18 : Aside0 (w.heap.size + 3 ≤ w18.heap.size) := ⟨Nat.le_trans (show w.heap.size + 3 ≤ (w16).heap.size by have := HS16.out; first | exact this | (simp only [setCell_size, alloc_size]; omega)) hb18.size⟩
  have HB19 := Aside0.mk (below_then HB17.out (HB17.out).size hb18)
  have Kf19 := Aside0.mk (blk_below Kf17.out hb18)
  have Kg19 := Aside0.mk (blk_below Kg17.out hb18)
  have Kh19 := Aside0.mk (blk_below Kh17.out hb18)
  have Ka19 := Aside0.mk (blk_below Ka17.out hb18)
  have Kb19 := Aside0.mk (blk_below Kb17.out hb18)
  have Ra019 := Aside0.mk (Kd.R_below Ra017.out hb18)
  have Rb019 := Aside0.mk (Kd.R_below Rb017.out hb18)
  have Ro219 := Aside0.mk (Kd.R_below Ro216.out hb18)
  have Ro318 := Aside0.mk (Kd.R_lower hRo3 (HB17.out).size)
  clear hb18 hRo3
  refine ⟨_, rfl, ?_⟩
  refine hK.out _ _ ?_
  clear hK K
  refine norm_ (a' := ?_) ?_ ?_
  rotate_left
  · show Act.put _ (some 36) _ = _
    (try simp only [Act.put, List.setIfInBounds_toArray, List.set_cons_zero, List.set_cons_succ, i64_w, i32_w])
    rfl
  refine last_ (i := 4) (N := some 37) #[true, true, true, true, true, false, false, false, false, false] rfl rfl (one_of HT_.out (by kernel_rfl)) (by decide) (fun K hK => ?_)
  refine goes_ Try.func45 (by kernel_rfl) rfl #[.agg #[.int .i64 v1, .slice Ao2 o1.length co2, .int .i64 r1], .agg #[.int .i64 v2, .slice Ao3 ov2.length co3, .int .i64 r2]] (by rfl) rfl rfl (by simp only [List.map_toArray, List.map_cons, List.map_nil]; rfl) ?_
  refine (mask_And.calls v1 Ao2 co2 o1 r1 v2 Ao3 co3 ov2 r2 u1 a1 s1 e1 _ (Kd.R_reads' Ro219.out).2.2 (Kd.R_reads' Ro219.out).2.1 (Kd.R_reads' Ro318.out).2.2 (Kd.R_reads' Ro318.out).2.1 HA.out.1).mono ?_
  rintro e w20 ⟨va1_, rfl, hRa1, hb20⟩
  obtain ⟨Aa1, ca1, rfl, hca1, _⟩ := Kd.R_reads hRa1
  have HS20 : Aside0 (w.heap.size + 3 ≤ w20.heap.size) := ⟨Nat.le_trans (show w.heap.size + 3 ≤ (w18).heap.size by have := HS18.out; first | exact this | (simp only [setCell_size, alloc_size]; omega)) hb20.size⟩
  have HB21 := Aside0.mk (below_then HB19.out (HB19.out).size hb20)
  have Kf21 := Aside0.mk (blk_below Kf19.out hb20)
  have Kg21 := Aside0.mk (blk_below Kg19.out hb20)
  have Kh21 := Aside0.mk (blk_below Kh19.out hb20)
  have Ka21 := Aside0.mk (blk_below Ka19.out hb20)
  have Kb21 := Aside0.mk (blk_below Kb19.out hb20)
  have Ra021 := Aside0.mk (Kd.R_below Ra019.out hb20)
  have Rb021 := Aside0.mk (Kd.R_below Rb019.out hb20)
  have Ro221 := Aside0.mk (Kd.R_below Ro219.out hb20)
  have Ro321 := Aside0.mk (Kd.R_below Ro318.out hb20)
  have Ra120 := Aside0.mk (Kd.R_lower hRa1 (HB19.out).size)
  clear hb20 hRa1
  refine ⟨.tuple #[.agg #[.int .i64 u1, .slice Aa1 a1.length ca1, .int .i64 s1], .int .i64 e1], rfl, ?_⟩
  have ya0_22 := (blk_cell Ka21.out 0).trans rfl
  have ya1_22 := (blk_cell Ka21.out 1).trans rfl
  have ya2_22 := (blk_cell Ka21.out 2).trans rfl
  have z0 := blk_frozen Ka21.out 0
  have z1 := blk_frozen Ka21.out 1
  have z2 := blk_frozen Ka21.out 2
  refine hK.out _ _ ?_
  clear hK K
  refine norm_ (a' := ?_) ?_ ?_
  rotate_left
  · show Act.put _ (some 37) _ = _
    (try simp only [Act.put, List.setIfInBounds_toArray, List.set_cons_zero, List.set_cons_succ, i64_w, i32_w])
    rfl
  refine pure_ (i := 5) (N := some 32) (v := ?_) (a' := ?_) #[true, true, true, true, true, true, false, false, false, false] rfl rfl (any_of HT_.out (by kernel_rfl)) (fun _ _ _ h => h) (Or.inl ⟨by rfl, ?_⟩) ?_ ?_
  rotate_left
  · intro w'
    go_simp
    with_reducible rfl
  rotate_left
  · simp only [Act.put, List.setIfInBounds_toArray, List.set_cons_zero, List.set_cons_succ, i64_w, i32_w]
    rfl
  refine pure_ (i := 6) (N := some 38) (v := ?_) (a' := ?_) #[true, true, true, true, true, true, true, false, false, false] rfl rfl (any_of HT_.out (by kernel_rfl)) (fun _ _ _ h => h) (Or.inl ⟨by rfl, ?_⟩) ?_ ?_
  rotate_left
  · intro w'
    go_simp
    with_reducible rfl
  rotate_left
  · simp only [Act.put, List.setIfInBounds_toArray, List.set_cons_zero, List.set_cons_succ, i64_w, i32_w]
    rfl
  refine pure_ (i := 7) (N := some 39) (v := ?_) (a' := ?_) #[true, true, true, true, true, true, true, true, false, false] rfl rfl (any_of HT_.out (by kernel_rfl)) (fun _ _ _ h => h) (Or.inl ⟨by rfl, ?_⟩) ?_ ?_
  rotate_left
  · intro w'
    go_simp
    with_reducible rfl
  rotate_left
  · simp only [Act.put, List.setIfInBounds_toArray, List.set_cons_zero, List.set_cons_succ, i64_w, i32_w]
    rfl
  refine last_ (i := 8) (N := none) #[true, true, true, true, true, true, true, true, true, false] rfl rfl (one_of HT_.out (by kernel_rfl)) (by decide) (fun K hK => ?_)
  refine skip_ (w1 := ?_) (by rfl) rfl ?_ ?_
  rotate_left
  · go_simp
    rfl
  refine hK.out _ _ ?_
  clear hK K
  refine norm_ (a' := ?_) ?_ ?_
  rotate_left
  · rfl
  refine pure_ (i := 9) (N := some 8) (v := ?_) (a' := ?_) #[true, true, true, true, true, true, true, true, true, true] rfl rfl (any_of HT_.out (by kernel_rfl)) (fun _ _ _ h => h) (Or.inl ⟨by rfl, ?_⟩) ?_ ?_
  rotate_left
  · intro w'
    go_simp
    with_reducible rfl
  rotate_left
  · simp only [Act.put, List.setIfInBounds_toArray, List.set_cons_zero, List.set_cons_succ, i64_w, i32_w]
    rfl
  refine done_ (done_of HT_.out (by kernel_rfl)) ?_
  clear yf0_15 yf1_15 yf2_15 yg0_15 yg1_15 yg2_15 ya0_22 ya1_22 ya2_22 z0 z1 z2
  obtain ⟨W23, hW23⟩ : ∃ W, W = (((w20.setCell ⟨w3.heap.size, 0, none⟩ (.int .i64 u1)).setCell ⟨w3.heap.size, 1, none⟩ (.slice Aa1 a1.length ca1)).setCell ⟨w3.heap.size, 2, none⟩ (.int .i64 s1)) := ⟨_, rfl⟩
  have HB24 := Aside0.mk (show Below w.heap.size w W23 by rw [hW23]; exact (below_set (below_set (below_set HB21.out (show w.heap.size ≤ w3.heap.size by omega)) (show w.heap.size ≤ w3.heap.size by omega)) (show w.heap.size ≤ w3.heap.size by omega)))
  have HS24 : Aside0 (w.heap.size + 3 ≤ W23.heap.size) := ⟨by rw [hW23]; have := HS20.out; first | exact this | (simp only [setCell_size, alloc_size]; omega)⟩
  have Kf24 := Aside0.mk (show W23.heap[w.heap.size]? = some (.cells #[.int .i64 v1, .slice A1 k1.length c1, .int .i64 r1] 33 (0, 0)) by rw [hW23]; exact (blk_far (p := ⟨w3.heap.size, 2, none⟩) (blk_far (p := ⟨w3.heap.size, 1, none⟩) (blk_far (p := ⟨w3.heap.size, 0, none⟩) Kf21.out (blk_ne Kf21.out Ka21.out (by decide)) (.int .i64 u1)) (blk_ne (blk_far (p := ⟨w3.heap.size, 0, none⟩) Kf21.out (blk_ne Kf21.out Ka21.out (by decide)) (.int .i64 u1)) (blk_put (cs := #[.int .i64 u0, .slice Aa0 a0.length ca0, .int .i64 s0]) Ka21.out 0 (.int .i64 u1) rfl) (by decide)) (.slice Aa1 a1.length ca1)) (blk_ne (blk_far (p := ⟨w3.heap.size, 1, none⟩) (blk_far (p := ⟨w3.heap.size, 0, none⟩) Kf21.out (blk_ne Kf21.out Ka21.out (by decide)) (.int .i64 u1)) (blk_ne (blk_far (p := ⟨w3.heap.size, 0, none⟩) Kf21.out (blk_ne Kf21.out Ka21.out (by decide)) (.int .i64 u1)) (blk_put (cs := #[.int .i64 u0, .slice Aa0 a0.length ca0, .int .i64 s0]) Ka21.out 0 (.int .i64 u1) rfl) (by decide)) (.slice Aa1 a1.length ca1)) (blk_put (cs := #[.int .i64 u1, .slice Aa0 a0.length ca0, .int .i64 s0]) (blk_put (cs := #[.int .i64 u0, .slice Aa0 a0.length ca0, .int .i64 s0]) Ka21.out 0 (.int .i64 u1) rfl) 1 (.slice Aa1 a1.length ca1) rfl) (by decide)) (.int .i64 s1)))
  have Kg24 := Aside0.mk (show W23.heap[(w.heap.size + 1)]? = some (.cells #[.int .i64 v2, .slice A2 k2.length c2, .int .i64 r2] 33 (0, 0)) by rw [hW23]; exact (blk_far (p := ⟨w3.heap.size, 2, none⟩) (blk_far (p := ⟨w3.heap.size, 1, none⟩) (blk_far (p := ⟨w3.heap.size, 0, none⟩) Kg21.out (blk_ne Kg21.out Ka21.out (by decide)) (.int .i64 u1)) (blk_ne (blk_far (p := ⟨w3.heap.size, 0, none⟩) Kg21.out (blk_ne Kg21.out Ka21.out (by decide)) (.int .i64 u1)) (blk_put (cs := #[.int .i64 u0, .slice Aa0 a0.length ca0, .int .i64 s0]) Ka21.out 0 (.int .i64 u1) rfl) (by decide)) (.slice Aa1 a1.length ca1)) (blk_ne (blk_far (p := ⟨w3.heap.size, 1, none⟩) (blk_far (p := ⟨w3.heap.size, 0, none⟩) Kg21.out (blk_ne Kg21.out Ka21.out (by decide)) (.int .i64 u1)) (blk_ne (blk_far (p := ⟨w3.heap.size, 0, none⟩) Kg21.out (blk_ne Kg21.out Ka21.out (by decide)) (.int .i64 u1)) (blk_put (cs := #[.int .i64 u0, .slice Aa0 a0.length ca0, .int .i64 s0]) Ka21.out 0 (.int .i64 u1) rfl) (by decide)) (.slice Aa1 a1.length ca1)) (blk_put (cs := #[.int .i64 u1, .slice Aa0 a0.length ca0, .int .i64 s0]) (blk_put (cs := #[.int .i64 u0, .slice Aa0 a0.length ca0, .int .i64 s0]) Ka21.out 0 (.int .i64 u1) rfl) 1 (.slice Aa1 a1.length ca1) rfl) (by decide)) (.int .i64 s1)))
  have Kh24 := Aside0.mk (show W23.heap[(w.heap.size + 2)]? = some (.cells #[.int .i64 v3, .slice A3 k3.length c3, .int .i64 r3] 33 (0, 0)) by rw [hW23]; exact (blk_far (p := ⟨w3.heap.size, 2, none⟩) (blk_far (p := ⟨w3.heap.size, 1, none⟩) (blk_far (p := ⟨w3.heap.size, 0, none⟩) Kh21.out (blk_ne Kh21.out Ka21.out (by decide)) (.int .i64 u1)) (blk_ne (blk_far (p := ⟨w3.heap.size, 0, none⟩) Kh21.out (blk_ne Kh21.out Ka21.out (by decide)) (.int .i64 u1)) (blk_put (cs := #[.int .i64 u0, .slice Aa0 a0.length ca0, .int .i64 s0]) Ka21.out 0 (.int .i64 u1) rfl) (by decide)) (.slice Aa1 a1.length ca1)) (blk_ne (blk_far (p := ⟨w3.heap.size, 1, none⟩) (blk_far (p := ⟨w3.heap.size, 0, none⟩) Kh21.out (blk_ne Kh21.out Ka21.out (by decide)) (.int .i64 u1)) (blk_ne (blk_far (p := ⟨w3.heap.size, 0, none⟩) Kh21.out (blk_ne Kh21.out Ka21.out (by decide)) (.int .i64 u1)) (blk_put (cs := #[.int .i64 u0, .slice Aa0 a0.length ca0, .int .i64 s0]) Ka21.out 0 (.int .i64 u1) rfl) (by decide)) (.slice Aa1 a1.length ca1)) (blk_put (cs := #[.int .i64 u1, .slice Aa0 a0.length ca0, .int .i64 s0]) (blk_put (cs := #[.int .i64 u0, .slice Aa0 a0.length ca0, .int .i64 s0]) Ka21.out 0 (.int .i64 u1) rfl) 1 (.slice Aa1 a1.length ca1) rfl) (by decide)) (.int .i64 s1)))
  have Ka24 := Aside0.mk (show W23.heap[w3.heap.size]? = some (.cells #[.int .i64 u1, .slice Aa1 a1.length ca1, .int .i64 s1] 28 (0, 0)) by rw [hW23]; exact (blk_put (cs := #[.int .i64 u1, .slice Aa1 a1.length ca1, .int .i64 s0]) (blk_put (cs := #[.int .i64 u1, .slice Aa0 a0.length ca0, .int .i64 s0]) (blk_put (cs := #[.int .i64 u0, .slice Aa0 a0.length ca0, .int .i64 s0]) Ka21.out 0 (.int .i64 u1) rfl) 1 (.slice Aa1 a1.length ca1) rfl) 2 (.int .i64 s1) rfl))
  have Kb24 := Aside0.mk (show W23.heap[w7.heap.size]? = some (.cells #[.int .i64 u0, .slice Ab0 b0.length cb0, .int .i64 s0] 33 (0, 0)) by rw [hW23]; exact (blk_far (p := ⟨w3.heap.size, 2, none⟩) (blk_far (p := ⟨w3.heap.size, 1, none⟩) (blk_far (p := ⟨w3.heap.size, 0, none⟩) Kb21.out (blk_ne Kb21.out Ka21.out (by decide)) (.int .i64 u1)) (blk_ne (blk_far (p := ⟨w3.heap.size, 0, none⟩) Kb21.out (blk_ne Kb21.out Ka21.out (by decide)) (.int .i64 u1)) (blk_put (cs := #[.int .i64 u0, .slice Aa0 a0.length ca0, .int .i64 s0]) Ka21.out 0 (.int .i64 u1) rfl) (by decide)) (.slice Aa1 a1.length ca1)) (blk_ne (blk_far (p := ⟨w3.heap.size, 1, none⟩) (blk_far (p := ⟨w3.heap.size, 0, none⟩) Kb21.out (blk_ne Kb21.out Ka21.out (by decide)) (.int .i64 u1)) (blk_ne (blk_far (p := ⟨w3.heap.size, 0, none⟩) Kb21.out (blk_ne Kb21.out Ka21.out (by decide)) (.int .i64 u1)) (blk_put (cs := #[.int .i64 u0, .slice Aa0 a0.length ca0, .int .i64 s0]) Ka21.out 0 (.int .i64 u1) rfl) (by decide)) (.slice Aa1 a1.length ca1)) (blk_put (cs := #[.int .i64 u1, .slice Aa0 a0.length ca0, .int .i64 s0]) (blk_put (cs := #[.int .i64 u0, .slice Aa0 a0.length ca0, .int .i64 s0]) Ka21.out 0 (.int .i64 u1) rfl) 1 (.slice Aa1 a1.length ca1) rfl) (by decide)) (.int .i64 s1)))
  have Ra124 := Aside0.mk (show k107.R 107 W23 w.heap.size (fun _ => True) (.slice Aa1 a1.length ca1) a1 by rw [hW23]; exact (Kd.R_set (Kd.R_set (Kd.R_set Ra120.out Ka21.out (by decide) 0 (.int .i64 u1)) (blk_put (cs := #[.int .i64 u0, .slice Aa0 a0.length ca0, .int .i64 s0]) Ka21.out 0 (.int .i64 u1) rfl) (by decide) 1 (.slice Aa1 a1.length ca1)) (blk_put (cs := #[.int .i64 u1, .slice Aa0 a0.length ca0, .int .i64 s0]) (blk_put (cs := #[.int .i64 u0, .slice Aa0 a0.length ca0, .int .i64 s0]) Ka21.out 0 (.int .i64 u1) rfl) 1 (.slice Aa1 a1.length ca1) rfl) (by decide) 2 (.int .i64 s1)))
  rw [← hW23]
  clear hW23
  have yf0_25 := (blk_cell Kf24.out 0).trans rfl
  have yf1_25 := (blk_cell Kf24.out 1).trans rfl
  have yf2_25 := (blk_cell Kf24.out 2).trans rfl
  have yg0_25 := (blk_cell Kg24.out 0).trans rfl
  have yg1_25 := (blk_cell Kg24.out 1).trans rfl
  have yg2_25 := (blk_cell Kg24.out 2).trans rfl
  go_wp2_with fail
  refine (cantingref02_And.calls fu v1 A1 c1 k1 r1 v2 A2 c2 k2 r2 u1 b1 s1 e1 _ (Kd.C_below HCf.out HB24.out) hcf (Kd.C_below HCg.out HB24.out) hcg HA.out.2.1).mono ?_
  rintro e w26 ⟨vb1_, rfl, hRb1, hb26⟩
  obtain ⟨Ab1, cb1, rfl, hcb1, _⟩ := Kd.R_reads hRb1
  have HS26 : Aside0 (w.heap.size + 3 ≤ w26.heap.size) := ⟨Nat.le_trans (show w.heap.size + 3 ≤ (W23).heap.size by have := HS24.out; first | exact this | (simp only [setCell_size, alloc_size]; omega)) hb26.size⟩
  have HB27 := Aside0.mk (below_then HB24.out (HB24.out).size hb26)
  have Kf27 := Aside0.mk (blk_below Kf24.out hb26)
  have Kg27 := Aside0.mk (blk_below Kg24.out hb26)
  have Kh27 := Aside0.mk (blk_below Kh24.out hb26)
  have Ka27 := Aside0.mk (blk_below Ka24.out hb26)
  have Kb27 := Aside0.mk (blk_below Kb24.out hb26)
  have Ra127 := Aside0.mk (Kd.R_below Ra124.out hb26)
  have Rb126 := Aside0.mk (Kd.R_lower hRb1 (HB24.out).size)
  clear hb26 hRb1
  clear yf0_25 yf1_25 yf2_25 yg0_25 yg1_25 yg2_25
  have yb0_28 := (blk_cell Kb27.out 0).trans rfl
  have yb1_28 := (blk_cell Kb27.out 1).trans rfl
  have yb2_28 := (blk_cell Kb27.out 2).trans rfl
  have z0 := blk_frozen Kb27.out 0
  have z1 := blk_frozen Kb27.out 1
  have z2 := blk_frozen Kb27.out 2
  have ya0_29 := (blk_cell (blk_far (p := ⟨w7.heap.size, 2, none⟩) (blk_far (p := ⟨w7.heap.size, 1, none⟩) (blk_far (p := ⟨w7.heap.size, 0, none⟩) Ka27.out (blk_ne Ka27.out Kb27.out (by decide)) (.int .i64 u1)) (blk_ne (blk_far (p := ⟨w7.heap.size, 0, none⟩) Ka27.out (blk_ne Ka27.out Kb27.out (by decide)) (.int .i64 u1)) (blk_put (cs := #[.int .i64 u0, .slice Ab0 b0.length cb0, .int .i64 s0]) Kb27.out 0 (.int .i64 u1) rfl) (by decide)) (.slice Ab1 b1.length cb1)) (blk_ne (blk_far (p := ⟨w7.heap.size, 1, none⟩) (blk_far (p := ⟨w7.heap.size, 0, none⟩) Ka27.out (blk_ne Ka27.out Kb27.out (by decide)) (.int .i64 u1)) (blk_ne (blk_far (p := ⟨w7.heap.size, 0, none⟩) Ka27.out (blk_ne Ka27.out Kb27.out (by decide)) (.int .i64 u1)) (blk_put (cs := #[.int .i64 u0, .slice Ab0 b0.length cb0, .int .i64 s0]) Kb27.out 0 (.int .i64 u1) rfl) (by decide)) (.slice Ab1 b1.length cb1)) (blk_put (cs := #[.int .i64 u1, .slice Ab0 b0.length cb0, .int .i64 s0]) (blk_put (cs := #[.int .i64 u0, .slice Ab0 b0.length cb0, .int .i64 s0]) Kb27.out 0 (.int .i64 u1) rfl) 1 (.slice Ab1 b1.length cb1) rfl) (by decide)) (.int .i64 s1)) 0).trans rfl
  have ya1_29 := (blk_cell (blk_far (p := ⟨w7.heap.size, 2, none⟩) (blk_far (p := ⟨w7.heap.size, 1, none⟩) (blk_far (p := ⟨w7.heap.size, 0, none⟩) Ka27.out (blk_ne Ka27.out Kb27.out (by decide)) (.int .i64 u1)) (blk_ne (blk_far (p := ⟨w7.heap.size, 0, none⟩) Ka27.out (blk_ne Ka27.out Kb27.out (by decide)) (.int .i64 u1)) (blk_put (cs := #[.int .i64 u0, .slice Ab0 b0.length cb0, .int .i64 s0]) Kb27.out 0 (.int .i64 u1) rfl) (by decide)) (.slice Ab1 b1.length cb1)) (blk_ne (blk_far (p := ⟨w7.heap.size, 1, none⟩) (blk_far (p := ⟨w7.heap.size, 0, none⟩) Ka27.out (blk_ne Ka27.out Kb27.out (by decide)) (.int .i64 u1)) (blk_ne (blk_far (p := ⟨w7.heap.size, 0, none⟩) Ka27.out (blk_ne Ka27.out Kb27.out (by decide)) (.int .i64 u1)) (blk_put (cs := #[.int .i64 u0, .slice Ab0 b0.length cb0, .int .i64 s0]) Kb27.out 0 (.int .i64 u1) rfl) (by decide)) (.slice Ab1 b1.length cb1)) (blk_put (cs := #[.int .i64 u1, .slice Ab0 b0.length cb0, .int .i64 s0]) (blk_put (cs := #[.int .i64 u0, .slice Ab0 b0.length cb0, .int .i64 s0]) Kb27.out 0 (.int .i64 u1) rfl) 1 (.slice Ab1 b1.length cb1) rfl) (by decide)) (.int .i64 s1)) 1).trans rfl
  have ya2_29 := (blk_cell (blk_far (p := ⟨w7.heap.size, 2, none⟩) (blk_far (p := ⟨w7.heap.size, 1, none⟩) (blk_far (p := ⟨w7.heap.size, 0, none⟩) Ka27.out (blk_ne Ka27.out Kb27.out (by decide)) (.int .i64 u1)) (blk_ne (blk_far (p := ⟨w7.heap.size, 0, none⟩) Ka27.out (blk_ne Ka27.out Kb27.out (by decide)) (.int .i64 u1)) (blk_put (cs := #[.int .i64 u0, .slice Ab0 b0.length cb0, .int .i64 s0]) Kb27.out 0 (.int .i64 u1) rfl) (by decide)) (.slice Ab1 b1.length cb1)) (blk_ne (blk_far (p := ⟨w7.heap.size, 1, none⟩) (blk_far (p := ⟨w7.heap.size, 0, none⟩) Ka27.out (blk_ne Ka27.out Kb27.out (by decide)) (.int .i64 u1)) (blk_ne (blk_far (p := ⟨w7.heap.size, 0, none⟩) Ka27.out (blk_ne Ka27.out Kb27.out (by decide)) (.int .i64 u1)) (blk_put (cs := #[.int .i64 u0, .slice Ab0 b0.length cb0, .int .i64 s0]) Kb27.out 0 (.int .i64 u1) rfl) (by decide)) (.slice Ab1 b1.length cb1)) (blk_put (cs := #[.int .i64 u1, .slice Ab0 b0.length cb0, .int .i64 s0]) (blk_put (cs := #[.int .i64 u0, .slice Ab0 b0.length cb0, .int .i64 s0]) Kb27.out 0 (.int .i64 u1) rfl) 1 (.slice Ab1 b1.length cb1) rfl) (by decide)) (.int .i64 s1)) 2).trans rfl
  have yb0_29 := (blk_cell (blk_put (cs := #[.int .i64 u1, .slice Ab1 b1.length cb1, .int .i64 s0]) (blk_put (cs := #[.int .i64 u1, .slice Ab0 b0.length cb0, .int .i64 s0]) (blk_put (cs := #[.int .i64 u0, .slice Ab0 b0.length cb0, .int .i64 s0]) Kb27.out 0 (.int .i64 u1) rfl) 1 (.slice Ab1 b1.length cb1) rfl) 2 (.int .i64 s1) rfl) 0).trans rfl
  have yb1_29 := (blk_cell (blk_put (cs := #[.int .i64 u1, .slice Ab1 b1.length cb1, .int .i64 s0]) (blk_put (cs := #[.int .i64 u1, .slice Ab0 b0.length cb0, .int .i64 s0]) (blk_put (cs := #[.int .i64 u0, .slice Ab0 b0.length cb0, .int .i64 s0]) Kb27.out 0 (.int .i64 u1) rfl) 1 (.slice Ab1 b1.length cb1) rfl) 2 (.int .i64 s1) rfl) 1).trans rfl
  have yb2_29 := (blk_cell (blk_put (cs := #[.int .i64 u1, .slice Ab1 b1.length cb1, .int .i64 s0]) (blk_put (cs := #[.int .i64 u1, .slice Ab0 b0.length cb0, .int .i64 s0]) (blk_put (cs := #[.int .i64 u0, .slice Ab0 b0.length cb0, .int .i64 s0]) Kb27.out 0 (.int .i64 u1) rfl) 1 (.slice Ab1 b1.length cb1) rfl) 2 (.int .i64 s1) rfl) 2).trans rfl
  go_wp2_with fail
  obtain ⟨W30, hW30⟩ : ∃ W, W = (((w26.setCell ⟨w7.heap.size, 0, none⟩ (.int .i64 u1)).setCell ⟨w7.heap.size, 1, none⟩ (.slice Ab1 b1.length cb1)).setCell ⟨w7.heap.size, 2, none⟩ (.int .i64 s1)) := ⟨_, rfl⟩
  have HB31 := Aside0.mk (show Below w.heap.size w W30 by rw [hW30]; exact (below_set (below_set (below_set HB27.out (show w.heap.size ≤ w7.heap.size by omega)) (show w.heap.size ≤ w7.heap.size by omega)) (show w.heap.size ≤ w7.heap.size by omega)))
  have HS31 : Aside0 (w.heap.size + 3 ≤ W30.heap.size) := ⟨by rw [hW30]; have := HS26.out; first | exact this | (simp only [setCell_size, alloc_size]; omega)⟩
  have Kf31 := Aside0.mk (show W30.heap[w.heap.size]? = some (.cells #[.int .i64 v1, .slice A1 k1.length c1, .int .i64 r1] 33 (0, 0)) by rw [hW30]; exact (blk_far (p := ⟨w7.heap.size, 2, none⟩) (blk_far (p := ⟨w7.heap.size, 1, none⟩) (blk_far (p := ⟨w7.heap.size, 0, none⟩) Kf27.out (show w.heap.size ≠ w7.heap.size by omega) (.int .i64 u1)) (show w.heap.size ≠ w7.heap.size by omega) (.slice Ab1 b1.length cb1)) (show w.heap.size ≠ w7.heap.size by omega) (.int .i64 s1)))
  have Kg31 := Aside0.mk (show W30.heap[(w.heap.size + 1)]? = some (.cells #[.int .i64 v2, .slice A2 k2.length c2, .int .i64 r2] 33 (0, 0)) by rw [hW30]; exact (blk_far (p := ⟨w7.heap.size, 2, none⟩) (blk_far (p := ⟨w7.heap.size, 1, none⟩) (blk_far (p := ⟨w7.heap.size, 0, none⟩) Kg27.out (show (w.heap.size + 1) ≠ w7.heap.size by omega) (.int .i64 u1)) (show (w.heap.size + 1) ≠ w7.heap.size by omega) (.slice Ab1 b1.length cb1)) (show (w.heap.size + 1) ≠ w7.heap.size by omega) (.int .i64 s1)))
  have Kh31 := Aside0.mk (show W30.heap[(w.heap.size + 2)]? = some (.cells #[.int .i64 v3, .slice A3 k3.length c3, .int .i64 r3] 33 (0, 0)) by rw [hW30]; exact (blk_far (p := ⟨w7.heap.size, 2, none⟩) (blk_far (p := ⟨w7.heap.size, 1, none⟩) (blk_far (p := ⟨w7.heap.size, 0, none⟩) Kh27.out (show (w.heap.size + 2) ≠ w7.heap.size by omega) (.int .i64 u1)) (show (w.heap.size + 2) ≠ w7.heap.size by omega) (.slice Ab1 b1.length cb1)) (show (w.heap.size + 2) ≠ w7.heap.size by omega) (.int .i64 s1)))
  have Ka31 := Aside0.mk (show W30.heap[w3.heap.size]? = some (.cells #[.int .i64 u1, .slice Aa1 a1.length ca1, .int .i64 s1] 28 (0, 0)) by rw [hW30]; exact (blk_far (p := ⟨w7.heap.size, 2, none⟩) (blk_far (p := ⟨w7.heap.size, 1, none⟩) (blk_far (p := ⟨w7.heap.size, 0, none⟩) Ka27.out (blk_ne Ka27.out Kb27.out (by decide)) (.int .i64 u1)) (blk_ne (blk_far (p := ⟨w7.heap.size, 0, none⟩) Ka27.out (blk_ne Ka27.out Kb27.out (by decide)) (.int .i64 u1)) (blk_put (cs := #[.int .i64 u0, .slice Ab0 b0.length cb0, .int .i64 s0]) Kb27.out 0 (.int .i64 u1) rfl) (by decide)) (.slice Ab1 b1.length cb1)) (blk_ne (blk_far (p := ⟨w7.heap.size, 1, none⟩) (blk_far (p := ⟨w7.heap.size, 0, none⟩) Ka27.out (blk_ne Ka27.out Kb27.out (by decide)) (.int .i64 u1)) (blk_ne (blk_far (p := ⟨w7.heap.size, 0, none⟩) Ka27.out (blk_ne Ka27.out Kb27.out (by decide)) (.int .i64 u1)) (blk_put (cs := #[.int .i64 u0, .slice Ab0 b0.length cb0, .int .i64 s0]) Kb27.out 0 (.int .i64 u1) rfl) (by decide)) (.slice Ab1 b1.length cb1)) (blk_put (cs := #[.int .i64 u1, .slice Ab0 b0.length cb0, .int .i64 s0]) (blk_put (cs := #[.int .i64 u0, .slice Ab0 b0.length cb0, .int .i64 s0]) Kb27.out 0 (.int .i64 u1) rfl) 1 (.slice Ab1 b1.length cb1) rfl) (by decide)) (.int .i64 s1)))
  have Kb31 := Aside0.mk (show W30.heap[w7.heap.size]? = some (.cells #[.int .i64 u1, .slice Ab1 b1.length cb1, .int .i64 s1] 33 (0, 0)) by rw [hW30]; exact (blk_put (cs := #[.int .i64 u1, .slice Ab1 b1.length cb1, .int .i64 s0]) (blk_put (cs := #[.int .i64 u1, .slice Ab0 b0.length cb0, .int .i64 s0]) (blk_put (cs := #[.int .i64 u0, .slice Ab0 b0.length cb0, .int .i64 s0]) Kb27.out 0 (.int .i64 u1) rfl) 1 (.slice Ab1 b1.length cb1) rfl) 2 (.int .i64 s1) rfl))
  have Ra131 := Aside0.mk (show k107.R 107 W30 w.heap.size (fun _ => True) (.slice Aa1 a1.length ca1) a1 by rw [hW30]; exact (Kd.R_set (Kd.R_set (Kd.R_set Ra127.out Kb27.out (by decide) 0 (.int .i64 u1)) (blk_put (cs := #[.int .i64 u0, .slice Ab0 b0.length cb0, .int .i64 s0]) Kb27.out 0 (.int .i64 u1) rfl) (by decide) 1 (.slice Ab1 b1.length cb1)) (blk_put (cs := #[.int .i64 u1, .slice Ab0 b0.length cb0, .int .i64 s0]) (blk_put (cs := #[.int .i64 u0, .slice Ab0 b0.length cb0, .int .i64 s0]) Kb27.out 0 (.int .i64 u1) rfl) 1 (.slice Ab1 b1.length cb1) rfl) (by decide) 2 (.int .i64 s1)))
  have Rb131 := Aside0.mk (show k106.R 106 W30 w.heap.size (fun _ => True) (.slice Ab1 b1.length cb1) b1 by rw [hW30]; exact (Kd.R_set (Kd.R_set (Kd.R_set Rb126.out Kb27.out (by decide) 0 (.int .i64 u1)) (blk_put (cs := #[.int .i64 u0, .slice Ab0 b0.length cb0, .int .i64 s0]) Kb27.out 0 (.int .i64 u1) rfl) (by decide) 1 (.slice Ab1 b1.length cb1)) (blk_put (cs := #[.int .i64 u1, .slice Ab0 b0.length cb0, .int .i64 s0]) (blk_put (cs := #[.int .i64 u0, .slice Ab0 b0.length cb0, .int .i64 s0]) Kb27.out 0 (.int .i64 u1) rfl) 1 (.slice Ab1 b1.length cb1) rfl) (by decide) 2 (.int .i64 s1)))
  rw [← hW30]
  clear hW30
  clear ya0_29 ya1_29 ya2_29 yb0_29 yb1_29 yb2_29 yb0_28 yb1_28 yb2_28 z0 z1 z2
  refine (cantinglaw02_is.calls fu u1 Aa1 ca1 a1 s1 e1 u1 Ab1 cb1 b1 s1 e1 true _ (Kd.R_reads' Ra131.out).2.2 (Kd.R_reads' Ra131.out).2.1 (Kd.R_reads' Rb131.out).2.2 (Kd.R_reads' Rb131.out).2.1 HA.out.2.2).mono ?_
  rintro e w32 ⟨rfl, hb32⟩
  have HS32 : Aside0 (w.heap.size + 3 ≤ w32.heap.size) := ⟨Nat.le_trans (show w.heap.size + 3 ≤ (W30).heap.size by have := HS31.out; first | exact this | (simp only [setCell_size, alloc_size]; omega)) hb32.size⟩
  have HB33 := Aside0.mk (below_then HB31.out (HB31.out).size hb32)
  have Kf33 := Aside0.mk (blk_below Kf31.out hb32)
  have Kg33 := Aside0.mk (blk_below Kg31.out hb32)
  have Kh33 := Aside0.mk (blk_below Kh31.out hb32)
  have Ka33 := Aside0.mk (blk_below Ka31.out hb32)
  have Kb33 := Aside0.mk (blk_below Kb31.out hb32)
  have Ra133 := Aside0.mk (Kd.R_below Ra131.out hb32)
  have Rb133 := Aside0.mk (Kd.R_below Rb131.out hb32)
  clear hb32
  have yf0_34 := (blk_cell Kf33.out 0).trans rfl
  have yf1_34 := (blk_cell Kf33.out 1).trans rfl
  have yf2_34 := (blk_cell Kf33.out 2).trans rfl
  have yg0_34 := (blk_cell Kg33.out 0).trans rfl
  have yg1_34 := (blk_cell Kg33.out 1).trans rfl
  have yg2_34 := (blk_cell Kg33.out 2).trans rfl
  go_wp2
  refine start_ (n := 10) (S := fun w' => (w'.cell? ⟨w.heap.size, 0, none⟩ = some (.int .i64 v1)) ∧ (w'.cell? ⟨w.heap.size, 1, none⟩ = some (.slice A1 k1.length c1)) ∧ (w'.cell? ⟨w.heap.size, 2, none⟩ = some (.int .i64 r1)) ∧ (w'.cell? ⟨(w.heap.size + 1), 0, none⟩ = some (.int .i64 v2)) ∧ (w'.cell? ⟨(w.heap.size + 1), 1, none⟩ = some (.slice A2 k2.length c2)) ∧ (w'.cell? ⟨(w.heap.size + 1), 2, none⟩ = some (.int .i64 r2))) (ds := [3, 4, 8]) #[false, false, false, false, false, false, false, false, false, false] (by kernel_rfl) rfl rfl ⟨yf0_34, yf1_34, yf2_34, yg0_34, yg1_34, yg2_34⟩ (fun hHeld => ?_)
  refine with_tabW tb_MaskCombines_9.tab tb_MaskCombines_9.bits (fun HT_ HW_ => ?_)
  refine take_ (i := 0) (N := some 53) (v := ?_) (a' := ?_) #[true, false, false, false, false, false, false, false, false, false] rfl rfl (take_ofW HT_.out HW_.out (by kernel_rfl)) (fun _ _ _ h => h) (Or.inl ⟨by rfl, ?_⟩) hHeld ?_ ?_
  rotate_left
  · rintro w' ⟨s0, s1, s2, s3, s4, s5⟩
    go_simp
    with_reducible rfl
  rotate_left
  · simp only [Act.put, List.setIfInBounds_toArray, List.set_cons_zero, List.set_cons_succ, i64_w, i32_w]
    rfl
  refine take_ (i := 2) (N := some 55) (v := ?_) (a' := ?_) #[true, false, true, false, false, false, false, false, false, false] rfl rfl (take_ofW HT_.out HW_.out (by kernel_rfl)) (fun _ _ _ h => h) (Or.inl ⟨by rfl, ?_⟩) hHeld ?_ ?_
  rotate_left
  · rintro w' ⟨s0, s1, s2, s3, s4, s5⟩
    go_simp
    with_reducible rfl
  rotate_left
  · simp only [Act.put, List.setIfInBounds_toArray, List.set_cons_zero, List.set_cons_succ, i64_w, i32_w]
    rfl
  refine one_ (i := 1) (N := some 54) #[true, true, true, false, false, false, false, false, false, false] rfl rfl (one_of HT_.out (by kernel_rfl)) (by decide) (fun K hK => ?_)
  refine goes_ Try.func30 (by kernel_rfl) rfl #[.agg #[.int .i64 v1, .slice A1 k1.length c1, .int .i64 r1]] (by rfl) rfl rfl (by simp only [List.map_toArray, List.map_cons, List.map_nil]; rfl) ?_
  refine (cantinglaw02_of.calls fu v1 A1 c1 k1 r1 v1 o1 r1 _ (Kd.C_below HCf.out (below_drew HB33.out)) hcf HO1.out).mono ?_
  rintro e w35 ⟨vo4_, rfl, hRo4, hb35⟩
  obtain ⟨Ao4, co4, rfl, hco4, _⟩ := Kd.R_reads hRo4
  have HS35 : Aside0 (w.heap.size + 3 ≤ w35.heap.size) := ⟨Nat.le_trans (show w.heap.size + 3 ≤ (w32.drew).heap.size by have := HS32.out; first | exact this | (simp only [setCell_size, alloc_size]; omega)) hb35.size⟩
  have HB36 := Aside0.mk (below_then (below_drew HB33.out) ((below_drew HB33.out)).size hb35)
  have Kf36 := Aside0.mk (blk_below (blk_drew Kf33.out) hb35)
  have Kg36 := Aside0.mk (blk_below (blk_drew Kg33.out) hb35)
  have Kh36 := Aside0.mk (blk_below (blk_drew Kh33.out) hb35)
  have Ka36 := Aside0.mk (blk_below (blk_drew Ka33.out) hb35)
  have Kb36 := Aside0.mk (blk_below (blk_drew Kb33.out) hb35)
  have Ra136 := Aside0.mk (Kd.R_below (Kd.R_drew Ra133.out) hb35)
  have Rb136 := Aside0.mk (Kd.R_below (Kd.R_drew Rb133.out) hb35)
  have Ro435 := Aside0.mk (Kd.R_lower hRo4 ((below_drew HB33.out)).size)
  clear hb35 hRo4
  refine ⟨_, rfl, ?_⟩
  refine hK.out _ _ ⟨(blk_cell Kf36.out 0).trans rfl, (blk_cell Kf36.out 1).trans rfl, (blk_cell Kf36.out 2).trans rfl, (blk_cell Kg36.out 0).trans rfl, (blk_cell Kg36.out 1).trans rfl, (blk_cell Kg36.out 2).trans rfl⟩ (fun hHeld => ?_)
  clear hK K
  refine norm_ (a' := ?_) ?_ ?_
  rotate_left
  · show Act.put _ (some 54) _ = _
    (try simp only [Act.put, List.setIfInBounds_toArray, List.set_cons_zero, List.set_cons_succ, i64_w, i32_w])
    rfl
  refine last_ (i := 3) (N := some 56) #[true, true, true, true, false, false, false, false, false, false] rfl rfl (one_of HT_.out (by kernel_rfl)) (by decide) (fun K hK => ?_)
  refine goes_ Try.func30 (by kernel_rfl) rfl #[.agg #[.int .i64 v2, .slice A2 k2.length c2, .int .i64 r2]] (by rfl) rfl rfl (by simp only [List.map_toArray, List.map_cons, List.map_nil]; rfl) ?_
  refine (cantinglaw02_of.calls fu v2 A2 c2 k2 r2 v2 ov2 r2 _ (Kd.C_below HCg.out HB36.out) hcg HO2.out).mono ?_
  rintro e w37 ⟨vo5_, rfl, hRo5, hb37⟩
  obtain ⟨Ao5, co5, rfl, hco5, _⟩ := Kd.R_reads hRo5
  have HS37 : Aside0 (w.heap.size + 3 ≤ w37.heap.size) := ⟨Nat.le_trans (show w.heap.size + 3 ≤ (w35).heap.size by have := HS35.out; first | exact this | (simp only [setCell_size, alloc_size]; omega)) hb37.size⟩
  have HB38 := Aside0.mk (below_then HB36.out (HB36.out).size hb37)
  have Kf38 := Aside0.mk (blk_below Kf36.out hb37)
  have Kg38 := Aside0.mk (blk_below Kg36.out hb37)
  have Kh38 := Aside0.mk (blk_below Kh36.out hb37)
  have Ka38 := Aside0.mk (blk_below Ka36.out hb37)
  have Kb38 := Aside0.mk (blk_below Kb36.out hb37)
  have Ra138 := Aside0.mk (Kd.R_below Ra136.out hb37)
  have Rb138 := Aside0.mk (Kd.R_below Rb136.out hb37)
  have Ro438 := Aside0.mk (Kd.R_below Ro435.out hb37)
  have Ro537 := Aside0.mk (Kd.R_lower hRo5 (HB36.out).size)
  clear hb37 hRo5
  refine ⟨_, rfl, ?_⟩
  refine hK.out _ _ ?_
  clear hK K
  refine norm_ (a' := ?_) ?_ ?_
  rotate_left
  · show Act.put _ (some 56) _ = _
    (try simp only [Act.put, List.setIfInBounds_toArray, List.set_cons_zero, List.set_cons_succ, i64_w, i32_w])
    rfl
  refine last_ (i := 4) (N := some 57) #[true, true, true, true, true, false, false, false, false, false] rfl rfl (one_of HT_.out (by kernel_rfl)) (by decide) (fun K hK => ?_)
  refine goes_ Try.func47 (by kernel_rfl) rfl #[.agg #[.int .i64 v1, .slice Ao4 o1.length co4, .int .i64 r1], .agg #[.int .i64 v2, .slice Ao5 ov2.length co5, .int .i64 r2]] (by rfl) rfl rfl (by simp only [List.map_toArray, List.map_cons, List.map_nil]; rfl) ?_
  refine (mask_Or.calls v1 Ao4 co4 o1 r1 v2 Ao5 co5 ov2 r2 u2 a2 s2 e2 _ (Kd.R_reads' Ro438.out).2.2 (Kd.R_reads' Ro438.out).2.1 (Kd.R_reads' Ro537.out).2.2 (Kd.R_reads' Ro537.out).2.1 HOR.out.1).mono ?_
  rintro e w39 ⟨va2_, rfl, hRa2, hb39⟩
  obtain ⟨Aa2, ca2, rfl, hca2, _⟩ := Kd.R_reads hRa2
  have HS39 : Aside0 (w.heap.size + 3 ≤ w39.heap.size) := ⟨Nat.le_trans (show w.heap.size + 3 ≤ (w37).heap.size by have := HS37.out; first | exact this | (simp only [setCell_size, alloc_size]; omega)) hb39.size⟩
  have HB40 := Aside0.mk (below_then HB38.out (HB38.out).size hb39)
  have Kf40 := Aside0.mk (blk_below Kf38.out hb39)
  have Kg40 := Aside0.mk (blk_below Kg38.out hb39)
  have Kh40 := Aside0.mk (blk_below Kh38.out hb39)
  have Ka40 := Aside0.mk (blk_below Ka38.out hb39)
  have Kb40 := Aside0.mk (blk_below Kb38.out hb39)
  have Ra140 := Aside0.mk (Kd.R_below Ra138.out hb39)
  have Rb140 := Aside0.mk (Kd.R_below Rb138.out hb39)
  have Ro440 := Aside0.mk (Kd.R_below Ro438.out hb39)
  have Ro540 := Aside0.mk (Kd.R_below Ro537.out hb39)
  have Ra239 := Aside0.mk (Kd.R_lower hRa2 (HB38.out).size)
  clear hb39 hRa2
  refine ⟨.tuple #[.agg #[.int .i64 u2, .slice Aa2 a2.length ca2, .int .i64 s2], .int .i64 e2], rfl, ?_⟩
  have ya0_41 := (blk_cell Ka40.out 0).trans rfl
  have ya1_41 := (blk_cell Ka40.out 1).trans rfl
  have ya2_41 := (blk_cell Ka40.out 2).trans rfl
  have z0 := blk_frozen Ka40.out 0
  have z1 := blk_frozen Ka40.out 1
  have z2 := blk_frozen Ka40.out 2
  refine hK.out _ _ ?_
  clear hK K
  refine norm_ (a' := ?_) ?_ ?_
  rotate_left
  · show Act.put _ (some 57) _ = _
    (try simp only [Act.put, List.setIfInBounds_toArray, List.set_cons_zero, List.set_cons_succ, i64_w, i32_w])
    rfl
  refine pure_ (i := 5) (N := some 52) (v := ?_) (a' := ?_) #[true, true, true, true, true, true, false, false, false, false] rfl rfl (any_of HT_.out (by kernel_rfl)) (fun _ _ _ h => h) (Or.inl ⟨by rfl, ?_⟩) ?_ ?_
  rotate_left
  · intro w'
    go_simp
    with_reducible rfl
  rotate_left
  · simp only [Act.put, List.setIfInBounds_toArray, List.set_cons_zero, List.set_cons_succ, i64_w, i32_w]
    rfl
  refine pure_ (i := 6) (N := some 58) (v := ?_) (a' := ?_) #[true, true, true, true, true, true, true, false, false, false] rfl rfl (any_of HT_.out (by kernel_rfl)) (fun _ _ _ h => h) (Or.inl ⟨by rfl, ?_⟩) ?_ ?_
  rotate_left
  · intro w'
    go_simp
    with_reducible rfl
  rotate_left
  · simp only [Act.put, List.setIfInBounds_toArray, List.set_cons_zero, List.set_cons_succ, i64_w, i32_w]
    rfl
  refine pure_ (i := 7) (N := some 59) (v := ?_) (a' := ?_) #[true, true, true, true, true, true, true, true, false, false] rfl rfl (any_of HT_.out (by kernel_rfl)) (fun _ _ _ h => h) (Or.inl ⟨by rfl, ?_⟩) ?_ ?_
  rotate_left
  · intro w'
    go_simp
    with_reducible rfl
  rotate_left
  · simp only [Act.put, List.setIfInBounds_toArray, List.set_cons_zero, List.set_cons_succ, i64_w, i32_w]
    rfl
  refine last_ (i := 8) (N := none) #[true, true, true, true, true, true, true, true, true, false] rfl rfl (one_of HT_.out (by kernel_rfl)) (by decide) (fun K hK => ?_)
  refine skip_ (w1 := ?_) (by rfl) rfl ?_ ?_
  rotate_left
  · go_simp
    rfl
  refine hK.out _ _ ?_
  clear hK K
  refine norm_ (a' := ?_) ?_ ?_
  rotate_left
  · rfl
  refine pure_ (i := 9) (N := some 8) (v := ?_) (a' := ?_) #[true, true, true, true, true, true, true, true, true, true] rfl rfl (any_of HT_.out (by kernel_rfl)) (fun _ _ _ h => h) (Or.inl ⟨by rfl, ?_⟩) ?_ ?_
  rotate_left
  · intro w'
    go_simp
    with_reducible rfl
  rotate_left
  · simp only [Act.put, List.setIfInBounds_toArray, List.set_cons_zero, List.set_cons_succ, i64_w, i32_w]
    rfl
  refine done_ (done_of HT_.out (by kernel_rfl)) ?_
  clear yf0_34 yf1_34 yf2_34 yg0_34 yg1_34 yg2_34 ya0_41 ya1_41 ya2_41 z0 z1 z2
  obtain ⟨W42, hW42⟩ : ∃ W, W = (((w39.setCell ⟨w3.heap.size, 0, none⟩ (.int .i64 u2)).setCell ⟨w3.heap.size, 1, none⟩ (.slice Aa2 a2.length ca2)).setCell ⟨w3.heap.size, 2, none⟩ (.int .i64 s2)) := ⟨_, rfl⟩
  have HB43 := Aside0.mk (show Below w.heap.size w W42 by rw [hW42]; exact (below_set (below_set (below_set HB40.out (show w.heap.size ≤ w3.heap.size by omega)) (show w.heap.size ≤ w3.heap.size by omega)) (show w.heap.size ≤ w3.heap.size by omega)))
  have HS43 : Aside0 (w.heap.size + 3 ≤ W42.heap.size) := ⟨by rw [hW42]; have := HS39.out; first | exact this | (simp only [setCell_size, alloc_size]; omega)⟩
  have Kf43 := Aside0.mk (show W42.heap[w.heap.size]? = some (.cells #[.int .i64 v1, .slice A1 k1.length c1, .int .i64 r1] 33 (0, 0)) by rw [hW42]; exact (blk_far (p := ⟨w3.heap.size, 2, none⟩) (blk_far (p := ⟨w3.heap.size, 1, none⟩) (blk_far (p := ⟨w3.heap.size, 0, none⟩) Kf40.out (blk_ne Kf40.out Ka40.out (by decide)) (.int .i64 u2)) (blk_ne (blk_far (p := ⟨w3.heap.size, 0, none⟩) Kf40.out (blk_ne Kf40.out Ka40.out (by decide)) (.int .i64 u2)) (blk_put (cs := #[.int .i64 u1, .slice Aa1 a1.length ca1, .int .i64 s1]) Ka40.out 0 (.int .i64 u2) rfl) (by decide)) (.slice Aa2 a2.length ca2)) (blk_ne (blk_far (p := ⟨w3.heap.size, 1, none⟩) (blk_far (p := ⟨w3.heap.size, 0, none⟩) Kf40.out (blk_ne Kf40.out Ka40.out (by decide)) (.int .i64 u2)) (blk_ne (blk_far (p := ⟨w3.heap.size, 0, none⟩) Kf40.out (blk_ne Kf40.out Ka40.out (by decide)) (.int .i64 u2)) (blk_put (cs := #[.int .i64 u1, .slice Aa1 a1.length ca1, .int .i64 s1]) Ka40.out 0 (.int .i64 u2) rfl) (by decide)) (.slice Aa2 a2.length ca2)) (blk_put (cs := #[.int .i64 u2, .slice Aa1 a1.length ca1, .int .i64 s1]) (blk_put (cs := #[.int .i64 u1, .slice Aa1 a1.length ca1, .int .i64 s1]) Ka40.out 0 (.int .i64 u2) rfl) 1 (.slice Aa2 a2.length ca2) rfl) (by decide)) (.int .i64 s2)))
  have Kg43 := Aside0.mk (show W42.heap[(w.heap.size + 1)]? = some (.cells #[.int .i64 v2, .slice A2 k2.length c2, .int .i64 r2] 33 (0, 0)) by rw [hW42]; exact (blk_far (p := ⟨w3.heap.size, 2, none⟩) (blk_far (p := ⟨w3.heap.size, 1, none⟩) (blk_far (p := ⟨w3.heap.size, 0, none⟩) Kg40.out (blk_ne Kg40.out Ka40.out (by decide)) (.int .i64 u2)) (blk_ne (blk_far (p := ⟨w3.heap.size, 0, none⟩) Kg40.out (blk_ne Kg40.out Ka40.out (by decide)) (.int .i64 u2)) (blk_put (cs := #[.int .i64 u1, .slice Aa1 a1.length ca1, .int .i64 s1]) Ka40.out 0 (.int .i64 u2) rfl) (by decide)) (.slice Aa2 a2.length ca2)) (blk_ne (blk_far (p := ⟨w3.heap.size, 1, none⟩) (blk_far (p := ⟨w3.heap.size, 0, none⟩) Kg40.out (blk_ne Kg40.out Ka40.out (by decide)) (.int .i64 u2)) (blk_ne (blk_far (p := ⟨w3.heap.size, 0, none⟩) Kg40.out (blk_ne Kg40.out Ka40.out (by decide)) (.int .i64 u2)) (blk_put (cs := #[.int .i64 u1, .slice Aa1 a1.length ca1, .int .i64 s1]) Ka40.out 0 (.int .i64 u2) rfl) (by decide)) (.slice Aa2 a2.length ca2)) (blk_put (cs := #[.int .i64 u2, .slice Aa1 a1.length ca1, .int .i64 s1]) (blk_put (cs := #[.int .i64 u1, .slice Aa1 a1.length ca1, .int .i64 s1]) Ka40.out 0 (.int .i64 u2) rfl) 1 (.slice Aa2 a2.length ca2) rfl) (by decide)) (.int .i64 s2)))
  have Kh43 := Aside0.mk (show W42.heap[(w.heap.size + 2)]? = some (.cells #[.int .i64 v3, .slice A3 k3.length c3, .int .i64 r3] 33 (0, 0)) by rw [hW42]; exact (blk_far (p := ⟨w3.heap.size, 2, none⟩) (blk_far (p := ⟨w3.heap.size, 1, none⟩) (blk_far (p := ⟨w3.heap.size, 0, none⟩) Kh40.out (blk_ne Kh40.out Ka40.out (by decide)) (.int .i64 u2)) (blk_ne (blk_far (p := ⟨w3.heap.size, 0, none⟩) Kh40.out (blk_ne Kh40.out Ka40.out (by decide)) (.int .i64 u2)) (blk_put (cs := #[.int .i64 u1, .slice Aa1 a1.length ca1, .int .i64 s1]) Ka40.out 0 (.int .i64 u2) rfl) (by decide)) (.slice Aa2 a2.length ca2)) (blk_ne (blk_far (p := ⟨w3.heap.size, 1, none⟩) (blk_far (p := ⟨w3.heap.size, 0, none⟩) Kh40.out (blk_ne Kh40.out Ka40.out (by decide)) (.int .i64 u2)) (blk_ne (blk_far (p := ⟨w3.heap.size, 0, none⟩) Kh40.out (blk_ne Kh40.out Ka40.out (by decide)) (.int .i64 u2)) (blk_put (cs := #[.int .i64 u1, .slice Aa1 a1.length ca1, .int .i64 s1]) Ka40.out 0 (.int .i64 u2) rfl) (by decide)) (.slice Aa2 a2.length ca2)) (blk_put (cs := #[.int .i64 u2, .slice Aa1 a1.length ca1, .int .i64 s1]) (blk_put (cs := #[.int .i64 u1, .slice Aa1 a1.length ca1, .int .i64 s1]) Ka40.out 0 (.int .i64 u2) rfl) 1 (.slice Aa2 a2.length ca2) rfl) (by decide)) (.int .i64 s2)))
  have Ka43 := Aside0.mk (show W42.heap[w3.heap.size]? = some (.cells #[.int .i64 u2, .slice Aa2 a2.length ca2, .int .i64 s2] 28 (0, 0)) by rw [hW42]; exact (blk_put (cs := #[.int .i64 u2, .slice Aa2 a2.length ca2, .int .i64 s1]) (blk_put (cs := #[.int .i64 u2, .slice Aa1 a1.length ca1, .int .i64 s1]) (blk_put (cs := #[.int .i64 u1, .slice Aa1 a1.length ca1, .int .i64 s1]) Ka40.out 0 (.int .i64 u2) rfl) 1 (.slice Aa2 a2.length ca2) rfl) 2 (.int .i64 s2) rfl))
  have Kb43 := Aside0.mk (show W42.heap[w7.heap.size]? = some (.cells #[.int .i64 u1, .slice Ab1 b1.length cb1, .int .i64 s1] 33 (0, 0)) by rw [hW42]; exact (blk_far (p := ⟨w3.heap.size, 2, none⟩) (blk_far (p := ⟨w3.heap.size, 1, none⟩) (blk_far (p := ⟨w3.heap.size, 0, none⟩) Kb40.out (blk_ne Kb40.out Ka40.out (by decide)) (.int .i64 u2)) (blk_ne (blk_far (p := ⟨w3.heap.size, 0, none⟩) Kb40.out (blk_ne Kb40.out Ka40.out (by decide)) (.int .i64 u2)) (blk_put (cs := #[.int .i64 u1, .slice Aa1 a1.length ca1, .int .i64 s1]) Ka40.out 0 (.int .i64 u2) rfl) (by decide)) (.slice Aa2 a2.length ca2)) (blk_ne (blk_far (p := ⟨w3.heap.size, 1, none⟩) (blk_far (p := ⟨w3.heap.size, 0, none⟩) Kb40.out (blk_ne Kb40.out Ka40.out (by decide)) (.int .i64 u2)) (blk_ne (blk_far (p := ⟨w3.heap.size, 0, none⟩) Kb40.out (blk_ne Kb40.out Ka40.out (by decide)) (.int .i64 u2)) (blk_put (cs := #[.int .i64 u1, .slice Aa1 a1.length ca1, .int .i64 s1]) Ka40.out 0 (.int .i64 u2) rfl) (by decide)) (.slice Aa2 a2.length ca2)) (blk_put (cs := #[.int .i64 u2, .slice Aa1 a1.length ca1, .int .i64 s1]) (blk_put (cs := #[.int .i64 u1, .slice Aa1 a1.length ca1, .int .i64 s1]) Ka40.out 0 (.int .i64 u2) rfl) 1 (.slice Aa2 a2.length ca2) rfl) (by decide)) (.int .i64 s2)))
  have Ra243 := Aside0.mk (show k107.R 107 W42 w.heap.size (fun _ => True) (.slice Aa2 a2.length ca2) a2 by rw [hW42]; exact (Kd.R_set (Kd.R_set (Kd.R_set Ra239.out Ka40.out (by decide) 0 (.int .i64 u2)) (blk_put (cs := #[.int .i64 u1, .slice Aa1 a1.length ca1, .int .i64 s1]) Ka40.out 0 (.int .i64 u2) rfl) (by decide) 1 (.slice Aa2 a2.length ca2)) (blk_put (cs := #[.int .i64 u2, .slice Aa1 a1.length ca1, .int .i64 s1]) (blk_put (cs := #[.int .i64 u1, .slice Aa1 a1.length ca1, .int .i64 s1]) Ka40.out 0 (.int .i64 u2) rfl) 1 (.slice Aa2 a2.length ca2) rfl) (by decide) 2 (.int .i64 s2)))
  rw [← hW42]
  clear hW42
  have yf0_44 := (blk_cell Kf43.out 0).trans rfl
  have yf1_44 := (blk_cell Kf43.out 1).trans rfl
  have yf2_44 := (blk_cell Kf43.out 2).trans rfl
  have yg0_44 := (blk_cell Kg43.out 0).trans rfl
  have yg1_44 := (blk_cell Kg43.out 1).trans rfl
  have yg2_44 := (blk_cell Kg43.out 2).trans rfl
  go_wp2_with fail
  refine (cantingref02_Or.calls fu v1 A1 c1 k1 r1 v2 A2 c2 k2 r2 u2 b2 s2 e2 _ (Kd.C_below HCf.out HB43.out) hcf (Kd.C_below HCg.out HB43.out) hcg HOR.out.2.1).mono ?_
  rintro e w45 ⟨vb2_, rfl, hRb2, hb45⟩
  obtain ⟨Ab2, cb2, rfl, hcb2, _⟩ := Kd.R_reads hRb2
  have HS45 : Aside0 (w.heap.size + 3 ≤ w45.heap.size) := ⟨Nat.le_trans (show w.heap.size + 3 ≤ (W42).heap.size by have := HS43.out; first | exact this | (simp only [setCell_size, alloc_size]; omega)) hb45.size⟩
  have HB46 := Aside0.mk (below_then HB43.out (HB43.out).size hb45)
  have Kf46 := Aside0.mk (blk_below Kf43.out hb45)
  have Kg46 := Aside0.mk (blk_below Kg43.out hb45)
  have Kh46 := Aside0.mk (blk_below Kh43.out hb45)
  have Ka46 := Aside0.mk (blk_below Ka43.out hb45)
  have Kb46 := Aside0.mk (blk_below Kb43.out hb45)
  have Ra246 := Aside0.mk (Kd.R_below Ra243.out hb45)
  have Rb245 := Aside0.mk (Kd.R_lower hRb2 (HB43.out).size)
  clear hb45 hRb2
  clear yf0_44 yf1_44 yf2_44 yg0_44 yg1_44 yg2_44
  have yb0_47 := (blk_cell Kb46.out 0).trans rfl
  have yb1_47 := (blk_cell Kb46.out 1).trans rfl
  have yb2_47 := (blk_cell Kb46.out 2).trans rfl
  have z0 := blk_frozen Kb46.out 0
  have z1 := blk_frozen Kb46.out 1
  have z2 := blk_frozen Kb46.out 2
  have ya0_48 := (blk_cell (blk_far (p := ⟨w7.heap.size, 2, none⟩) (blk_far (p := ⟨w7.heap.size, 1, none⟩) (blk_far (p := ⟨w7.heap.size, 0, none⟩) Ka46.out (blk_ne Ka46.out Kb46.out (by decide)) (.int .i64 u2)) (blk_ne (blk_far (p := ⟨w7.heap.size, 0, none⟩) Ka46.out (blk_ne Ka46.out Kb46.out (by decide)) (.int .i64 u2)) (blk_put (cs := #[.int .i64 u1, .slice Ab1 b1.length cb1, .int .i64 s1]) Kb46.out 0 (.int .i64 u2) rfl) (by decide)) (.slice Ab2 b2.length cb2)) (blk_ne (blk_far (p := ⟨w7.heap.size, 1, none⟩) (blk_far (p := ⟨w7.heap.size, 0, none⟩) Ka46.out (blk_ne Ka46.out Kb46.out (by decide)) (.int .i64 u2)) (blk_ne (blk_far (p := ⟨w7.heap.size, 0, none⟩) Ka46.out (blk_ne Ka46.out Kb46.out (by decide)) (.int .i64 u2)) (blk_put (cs := #[.int .i64 u1, .slice Ab1 b1.length cb1, .int .i64 s1]) Kb46.out 0 (.int .i64 u2) rfl) (by decide)) (.slice Ab2 b2.length cb2)) (blk_put (cs := #[.int .i64 u2, .slice Ab1 b1.length cb1, .int .i64 s1]) (blk_put (cs := #[.int .i64 u1, .slice Ab1 b1.length cb1, .int .i64 s1]) Kb46.out 0 (.int .i64 u2) rfl) 1 (.slice Ab2 b2.length cb2) rfl) (by decide)) (.int .i64 s2)) 0).trans rfl
  have ya1_48 := (blk_cell (blk_far (p := ⟨w7.heap.size, 2, none⟩) (blk_far (p := ⟨w7.heap.size, 1, none⟩) (blk_far (p := ⟨w7.heap.size, 0, none⟩) Ka46.out (blk_ne Ka46.out Kb46.out (by decide)) (.int .i64 u2)) (blk_ne (blk_far (p := ⟨w7.heap.size, 0, none⟩) Ka46.out (blk_ne Ka46.out Kb46.out (by decide)) (.int .i64 u2)) (blk_put (cs := #[.int .i64 u1, .slice Ab1 b1.length cb1, .int .i64 s1]) Kb46.out 0 (.int .i64 u2) rfl) (by decide)) (.slice Ab2 b2.length cb2)) (blk_ne (blk_far (p := ⟨w7.heap.size, 1, none⟩) (blk_far (p := ⟨w7.heap.size, 0, none⟩) Ka46.out (blk_ne Ka46.out Kb46.out (by decide)) (.int .i64 u2)) (blk_ne (blk_far (p := ⟨w7.heap.size, 0, none⟩) Ka46.out (blk_ne Ka46.out Kb46.out (by decide)) (.int .i64 u2)) (blk_put (cs := #[.int .i64 u1, .slice Ab1 b1.length cb1, .int .i64 s1]) Kb46.out 0 (.int .i64 u2) rfl) (by decide)) (.slice Ab2 b2.length cb2)) (blk_put (cs := #[.int .i64 u2, .slice Ab1 b1.length cb1, .int .i64 s1]) (blk_put (cs := #[.int .i64 u1, .slice Ab1 b1.length cb1, .int .i64 s1]) Kb46.out 0 (.int .i64 u2) rfl) 1 (.slice Ab2 b2.length cb2) rfl) (by decide)) (.int .i64 s2)) 1).trans rfl
  have ya2_48 := (blk_cell (blk_far (p := ⟨w7.heap.size, 2, none⟩) (blk_far (p := ⟨w7.heap.size, 1, none⟩) (blk_far (p := ⟨w7.heap.size, 0, none⟩) Ka46.out (blk_ne Ka46.out Kb46.out (by decide)) (.int .i64 u2)) (blk_ne (blk_far (p := ⟨w7.heap.size, 0, none⟩) Ka46.out (blk_ne Ka46.out Kb46.out (by decide)) (.int .i64 u2)) (blk_put (cs := #[.int .i64 u1, .slice Ab1 b1.length cb1, .int .i64 s1]) Kb46.out 0 (.int .i64 u2) rfl) (by decide)) (.slice Ab2 b2.length cb2)) (blk_ne (blk_far (p := ⟨w7.heap.size, 1, none⟩) (blk_far (p := ⟨w7.heap.size, 0, none⟩) Ka46.out (blk_ne Ka46.out Kb46.out (by decide)) (.int .i64 u2)) (blk_ne (blk_far (p := ⟨w7.heap.size, 0, none⟩) Ka46.out (blk_ne Ka46.out Kb46.out (by decide)) (.int .i64 u2)) (blk_put (cs := #[.int .i64 u1, .slice Ab1 b1.length cb1, .int .i64 s1]) Kb46.out 0 (.int .i64 u2) rfl) (by decide)) (.slice Ab2 b2.length cb2)) (blk_put (cs := #[.int .i64 u2, .slice Ab1 b1.length cb1, .int .i64 s1]) (blk_put (cs := #[.int .i64 u1, .slice Ab1 b1.length cb1, .int .i64 s1]) Kb46.out 0 (.int .i64 u2) rfl) 1 (.slice Ab2 b2.length cb2) rfl) (by decide)) (.int .i64 s2)) 2).trans rfl
  have yb0_48 := (blk_cell (blk_put (cs := #[.int .i64 u2, .slice Ab2 b2.length cb2, .int .i64 s1]) (blk_put (cs := #[.int .i64 u2, .slice Ab1 b1.length cb1, .int .i64 s1]) (blk_put (cs := #[.int .i64 u1, .slice Ab1 b1.length cb1, .int .i64 s1]) Kb46.out 0 (.int .i64 u2) rfl) 1 (.slice Ab2 b2.length cb2) rfl) 2 (.int .i64 s2) rfl) 0).trans rfl
  have yb1_48 := (blk_cell (blk_put (cs := #[.int .i64 u2, .slice Ab2 b2.length cb2, .int .i64 s1]) (blk_put (cs := #[.int .i64 u2, .slice Ab1 b1.length cb1, .int .i64 s1]) (blk_put (cs := #[.int .i64 u1, .slice Ab1 b1.length cb1, .int .i64 s1]) Kb46.out 0 (.int .i64 u2) rfl) 1 (.slice Ab2 b2.length cb2) rfl) 2 (.int .i64 s2) rfl) 1).trans rfl
  have yb2_48 := (blk_cell (blk_put (cs := #[.int .i64 u2, .slice Ab2 b2.length cb2, .int .i64 s1]) (blk_put (cs := #[.int .i64 u2, .slice Ab1 b1.length cb1, .int .i64 s1]) (blk_put (cs := #[.int .i64 u1, .slice Ab1 b1.length cb1, .int .i64 s1]) Kb46.out 0 (.int .i64 u2) rfl) 1 (.slice Ab2 b2.length cb2) rfl) 2 (.int .i64 s2) rfl) 2).trans rfl
  go_wp2_with fail
  obtain ⟨W49, hW49⟩ : ∃ W, W = (((w45.setCell ⟨w7.heap.size, 0, none⟩ (.int .i64 u2)).setCell ⟨w7.heap.size, 1, none⟩ (.slice Ab2 b2.length cb2)).setCell ⟨w7.heap.size, 2, none⟩ (.int .i64 s2)) := ⟨_, rfl⟩
  have HB50 := Aside0.mk (show Below w.heap.size w W49 by rw [hW49]; exact (below_set (below_set (below_set HB46.out (show w.heap.size ≤ w7.heap.size by omega)) (show w.heap.size ≤ w7.heap.size by omega)) (show w.heap.size ≤ w7.heap.size by omega)))
  have HS50 : Aside0 (w.heap.size + 3 ≤ W49.heap.size) := ⟨by rw [hW49]; have := HS45.out; first | exact this | (simp only [setCell_size, alloc_size]; omega)⟩
  have Kf50 := Aside0.mk (show W49.heap[w.heap.size]? = some (.cells #[.int .i64 v1, .slice A1 k1.length c1, .int .i64 r1] 33 (0, 0)) by rw [hW49]; exact (blk_far (p := ⟨w7.heap.size, 2, none⟩) (blk_far (p := ⟨w7.heap.size, 1, none⟩) (blk_far (p := ⟨w7.heap.size, 0, none⟩) Kf46.out (show w.heap.size ≠ w7.heap.size by omega) (.int .i64 u2)) (show w.heap.size ≠ w7.heap.size by omega) (.slice Ab2 b2.length cb2)) (show w.heap.size ≠ w7.heap.size by omega) (.int .i64 s2)))
  have Kg50 := Aside0.mk (show W49.heap[(w.heap.size + 1)]? = some (.cells #[.int .i64 v2, .slice A2 k2.length c2, .int .i64 r2] 33 (0, 0)) by rw [hW49]; exact (blk_far (p := ⟨w7.heap.size, 2, none⟩) (blk_far (p := ⟨w7.heap.size, 1, none⟩) (blk_far (p := ⟨w7.heap.size, 0, none⟩) Kg46.out (show (w.heap.size + 1) ≠ w7.heap.size by omega) (.int .i64 u2)) (show (w.heap.size + 1) ≠ w7.heap.size by omega) (.slice Ab2 b2.length cb2)) (show (w.heap.size + 1) ≠ w7.heap.size by omega) (.int .i64 s2)))
  have Kh50 := Aside0.mk (show W49.heap[(w.heap.size + 2)]? = some (.cells #[.int .i64 v3, .slice A3 k3.length c3, .int .i64 r3] 33 (0, 0)) by rw [hW49]; exact (blk_far (p := ⟨w7.heap.size, 2, none⟩) (blk_far (p := ⟨w7.heap.size, 1, none⟩) (blk_far (p := ⟨w7.heap.size, 0, none⟩) Kh46.out (show (w.heap.size + 2) ≠ w7.heap.size by omega) (.int .i64 u2)) (show (w.heap.size + 2) ≠ w7.heap.size by omega) (.slice Ab2 b2.length cb2)) (show (w.heap.size + 2) ≠ w7.heap.size by omega) (.int .i64 s2)))
  have Ka50 := Aside0.mk (show W49.heap[w3.heap.size]? = some (.cells #[.int .i64 u2, .slice Aa2 a2.length ca2, .int .i64 s2] 28 (0, 0)) by rw [hW49]; exact (blk_far (p := ⟨w7.heap.size, 2, none⟩) (blk_far (p := ⟨w7.heap.size, 1, none⟩) (blk_far (p := ⟨w7.heap.size, 0, none⟩) Ka46.out (blk_ne Ka46.out Kb46.out (by decide)) (.int .i64 u2)) (blk_ne (blk_far (p := ⟨w7.heap.size, 0, none⟩) Ka46.out (blk_ne Ka46.out Kb46.out (by decide)) (.int .i64 u2)) (blk_put (cs := #[.int .i64 u1, .slice Ab1 b1.length cb1, .int .i64 s1]) Kb46.out 0 (.int .i64 u2) rfl) (by decide)) (.slice Ab2 b2.length cb2)) (blk_ne (blk_far (p := ⟨w7.heap.size, 1, none⟩) (blk_far (p := ⟨w7.heap.size, 0, none⟩) Ka46.out (blk_ne Ka46.out Kb46.out (by decide)) (.int .i64 u2)) (blk_ne (blk_far (p := ⟨w7.heap.size, 0, none⟩) Ka46.out (blk_ne Ka46.out Kb46.out (by decide)) (.int .i64 u2)) (blk_put (cs := #[.int .i64 u1, .slice Ab1 b1.length cb1, .int .i64 s1]) Kb46.out 0 (.int .i64 u2) rfl) (by decide)) (.slice Ab2 b2.length cb2)) (blk_put (cs := #[.int .i64 u2, .slice Ab1 b1.length cb1, .int .i64 s1]) (blk_put (cs := #[.int .i64 u1, .slice Ab1 b1.length cb1, .int .i64 s1]) Kb46.out 0 (.int .i64 u2) rfl) 1 (.slice Ab2 b2.length cb2) rfl) (by decide)) (.int .i64 s2)))
  have Kb50 := Aside0.mk (show W49.heap[w7.heap.size]? = some (.cells #[.int .i64 u2, .slice Ab2 b2.length cb2, .int .i64 s2] 33 (0, 0)) by rw [hW49]; exact (blk_put (cs := #[.int .i64 u2, .slice Ab2 b2.length cb2, .int .i64 s1]) (blk_put (cs := #[.int .i64 u2, .slice Ab1 b1.length cb1, .int .i64 s1]) (blk_put (cs := #[.int .i64 u1, .slice Ab1 b1.length cb1, .int .i64 s1]) Kb46.out 0 (.int .i64 u2) rfl) 1 (.slice Ab2 b2.length cb2) rfl) 2 (.int .i64 s2) rfl))
  have Ra250 := Aside0.mk (show k107.R 107 W49 w.heap.size (fun _ => True) (.slice Aa2 a2.length ca2) a2 by rw [hW49]; exact (Kd.R_set (Kd.R_set (Kd.R_set Ra246.out Kb46.out (by decide) 0 (.int .i64 u2)) (blk_put (cs := #[.int .i64 u1, .slice Ab1 b1.length cb1, .int .i64 s1]) Kb46.out 0 (.int .i64 u2) rfl) (by decide) 1 (.slice Ab2 b2.length cb2)) (blk_put (cs := #[.int .i64 u2, .slice Ab1 b1.length cb1, .int .i64 s1]) (blk_put (cs := #[.int .i64 u1, .slice Ab1 b1.length cb1, .int .i64 s1]) Kb46.out 0 (.int .i64 u2) rfl) 1 (.slice Ab2 b2.length cb2) rfl) (by decide) 2 (.int .i64 s2)))
  have Rb250 := Aside0.mk (show k106.R 106 W49 w.heap.size (fun _ => True) (.slice Ab2 b2.length cb2) b2 by rw [hW49]; exact (Kd.R_set (Kd.R_set (Kd.R_set Rb245.out Kb46.out (by decide) 0 (.int .i64 u2)) (blk_put (cs := #[.int .i64 u1, .slice Ab1 b1.length cb1, .int .i64 s1]) Kb46.out 0 (.int .i64 u2) rfl) (by decide) 1 (.slice Ab2 b2.length cb2)) (blk_put (cs := #[.int .i64 u2, .slice Ab1 b1.length cb1, .int .i64 s1]) (blk_put (cs := #[.int .i64 u1, .slice Ab1 b1.length cb1, .int .i64 s1]) Kb46.out 0 (.int .i64 u2) rfl) 1 (.slice Ab2 b2.length cb2) rfl) (by decide) 2 (.int .i64 s2)))
  rw [← hW49]
  clear hW49
  clear ya0_48 ya1_48 ya2_48 yb0_48 yb1_48 yb2_48 yb0_47 yb1_47 yb2_47 z0 z1 z2
  refine (cantinglaw02_is.calls fu u2 Aa2 ca2 a2 s2 e2 u2 Ab2 cb2 b2 s2 e2 true _ (Kd.R_reads' Ra250.out).2.2 (Kd.R_reads' Ra250.out).2.1 (Kd.R_reads' Rb250.out).2.2 (Kd.R_reads' Rb250.out).2.1 HOR.out.2.2).mono ?_
  rintro e w51 ⟨rfl, hb51⟩
  have HS51 : Aside0 (w.heap.size + 3 ≤ w51.heap.size) := ⟨Nat.le_trans (show w.heap.size + 3 ≤ (W49).heap.size by have := HS50.out; first | exact this | (simp only [setCell_size, alloc_size]; omega)) hb51.size⟩
  have HB52 := Aside0.mk (below_then HB50.out (HB50.out).size hb51)
  have Kf52 := Aside0.mk (blk_below Kf50.out hb51)
  have Kg52 := Aside0.mk (blk_below Kg50.out hb51)
  have Kh52 := Aside0.mk (blk_below Kh50.out hb51)
  have Ka52 := Aside0.mk (blk_below Ka50.out hb51)
  have Kb52 := Aside0.mk (blk_below Kb50.out hb51)
  have Ra252 := Aside0.mk (Kd.R_below Ra250.out hb51)
  have Rb252 := Aside0.mk (Kd.R_below Rb250.out hb51)
  clear hb51
  have yf0_53 := (blk_cell Kf52.out 0).trans rfl
  have yf1_53 := (blk_cell Kf52.out 1).trans rfl
  have yf2_53 := (blk_cell Kf52.out 2).trans rfl
  have yg0_53 := (blk_cell Kg52.out 0).trans rfl
  have yg1_53 := (blk_cell Kg52.out 1).trans rfl
  have yg2_53 := (blk_cell Kg52.out 2).trans rfl
  go_wp2
  refine start_ (n := 10) (S := fun w' => (w'.cell? ⟨w.heap.size, 0, none⟩ = some (.int .i64 v1)) ∧ (w'.cell? ⟨w.heap.size, 1, none⟩ = some (.slice A1 k1.length c1)) ∧ (w'.cell? ⟨w.heap.size, 2, none⟩ = some (.int .i64 r1)) ∧ (w'.cell? ⟨(w.heap.size + 1), 0, none⟩ = some (.int .i64 v2)) ∧ (w'.cell? ⟨(w.heap.size + 1), 1, none⟩ = some (.slice A2 k2.length c2)) ∧ (w'.cell? ⟨(w.heap.size + 1), 2, none⟩ = some (.int .i64 r2))) (ds := [3, 4, 8]) #[false, false, false, false, false, false, false, false, false, false] (by kernel_rfl) rfl rfl ⟨yf0_53, yf1_53, yf2_53, yg0_53, yg1_53, yg2_53⟩ (fun hHeld => ?_)
  refine with_tabW tb_MaskCombines_13.tab tb_MaskCombines_13.bits (fun HT_ HW_ => ?_)
  refine take_ (i := 0) (N := some 73) (v := ?_) (a' := ?_) #[true, false, false, false, false, false, false, false, false, false] rfl rfl (take_ofW HT_.out HW_.out (by kernel_rfl)) (fun _ _ _ h => h) (Or.inl ⟨by rfl, ?_⟩) hHeld ?_ ?_
  rotate_left
  · rintro w' ⟨s0, s1, s2, s3, s4, s5⟩
    go_simp
    with_reducible rfl
  rotate_left
  · simp only [Act.put, List.setIfInBounds_toArray, List.set_cons_zero, List.set_cons_succ, i64_w, i32_w]
    rfl
  refine take_ (i := 2) (N := some 75) (v := ?_) (a' := ?_) #[true, false, true, false, false, false, false, false, false, false] rfl rfl (take_ofW HT_.out HW_.out (by kernel_rfl)) (fun _ _ _ h => h) (Or.inl ⟨by rfl, ?_⟩) hHeld ?_ ?_
  rotate_left
  · rintro w' ⟨s0, s1, s2, s3, s4, s5⟩
    go_simp
    with_reducible rfl
  rotate_left
  · simp only [Act.put, List.setIfInBounds_toArray, List.set_cons_zero, List.set_cons_succ, i64_w, i32_w]
    rfl
  refine one_ (i := 1) (N := some 74) #[true, true, true, false, false, false, false, false, false, false] rfl rfl (one_of HT_.out (by kernel_rfl)) (by decide) (fun K hK => ?_)
  refine goes_ Try.func30 (by kernel_rfl) rfl #[.agg #[.int .i64 v1, .slice A1 k1.length c1, .int .i64 r1]] (by rfl) rfl rfl (by simp only [List.map_toArray, List.map_cons, List.map_nil]; rfl) ?_
  refine (cantinglaw02_of.calls fu v1 A1 c1 k1 r1 v1 o1 r1 _ (Kd.C_below HCf.out (below_drew HB52.out)) hcf HO1.out).mono ?_
  rintro e w54 ⟨vo6_, rfl, hRo6, hb54⟩
  obtain ⟨Ao6, co6, rfl, hco6, _⟩ := Kd.R_reads hRo6
  have HS54 : Aside0 (w.heap.size + 3 ≤ w54.heap.size) := ⟨Nat.le_trans (show w.heap.size + 3 ≤ (w51.drew).heap.size by have := HS51.out; first | exact this | (simp only [setCell_size, alloc_size]; omega)) hb54.size⟩
  have HB55 := Aside0.mk (below_then (below_drew HB52.out) ((below_drew HB52.out)).size hb54)
  have Kf55 := Aside0.mk (blk_below (blk_drew Kf52.out) hb54)
  have Kg55 := Aside0.mk (blk_below (blk_drew Kg52.out) hb54)
  have Kh55 := Aside0.mk (blk_below (blk_drew Kh52.out) hb54)
  have Ka55 := Aside0.mk (blk_below (blk_drew Ka52.out) hb54)
  have Kb55 := Aside0.mk (blk_below (blk_drew Kb52.out) hb54)
  have Ra255 := Aside0.mk (Kd.R_below (Kd.R_drew Ra252.out) hb54)
  have Rb255 := Aside0.mk (Kd.R_below (Kd.R_drew Rb252.out) hb54)
  have Ro654 := Aside0.mk (Kd.R_lower hRo6 ((below_drew HB52.out)).size)
  clear hb54 hRo6
  refine ⟨_, rfl, ?_⟩
  refine hK.out _ _ ⟨(blk_cell Kf55.out 0).trans rfl, (blk_cell Kf55.out 1).trans rfl, (blk_cell Kf55.out 2).trans rfl, (blk_cell Kg55.out 0).trans rfl, (blk_cell Kg55.out 1).trans rfl, (blk_cell Kg55.out 2).trans rfl⟩ (fun hHeld => ?_)
  clear hK K
  refine norm_ (a' := ?_) ?_ ?_
  rotate_left
  · show Act.put _ (some 74) _ = _
    (try simp only [Act.put, List.setIfInBounds_toArray, List.set_cons_zero, List.set_cons_succ, i64_w, i32_w])
    rfl
  refine last_ (i := 3) (N := some 76) #[true, true, true, true, false, false, false, false, false, false] rfl rfl (one_of HT_.out (by kernel_rfl)) (by decide) (fun K hK => ?_)
  refine goes_ Try.func30 (by kernel_rfl) rfl #[.agg #[.int .i64 v2, .slice A2 k2.length c2, .int .i64 r2]] (by rfl) rfl rfl (by simp only [List.map_toArray, List.map_cons, List.map_nil]; rfl) ?_
  refine (cantinglaw02_of.calls fu v2 A2 c2 k2 r2 v2 ov2 r2 _ (Kd.C_below HCg.out HB55.out) hcg HO2.out).mono ?_
  rintro e w56 ⟨vo7_, rfl, hRo7, hb56⟩
  obtain ⟨Ao7, co7, rfl, hco7, _⟩ := Kd.R_reads hRo7
  have HS56 : Aside0 (w.heap.size + 3 ≤ w56.heap.size) := ⟨Nat.le_trans (show w.heap.size + 3 ≤ (w54).heap.size by have := HS54.out; first | exact this | (simp only [setCell_size, alloc_size]; omega)) hb56.size⟩
  have HB57 := Aside0.mk (below_then HB55.out (HB55.out).size hb56)
  have Kf57 := Aside0.mk (blk_below Kf55.out hb56)
  have Kg57 := Aside0.mk (blk_below Kg55.out hb56)
  have Kh57 := Aside0.mk (blk_below Kh55.out hb56)
  have Ka57 := Aside0.mk (blk_below Ka55.out hb56)
  have Kb57 := Aside0.mk (blk_below Kb55.out hb56)
  have Ra257 := Aside0.mk (Kd.R_below Ra255.out hb56)
  have Rb257 := Aside0.mk (Kd.R_below Rb255.out hb56)
  have Ro657 := Aside0.mk (Kd.R_below Ro654.out hb56)
  have Ro756 := Aside0.mk (Kd.R_lower hRo7 (HB55.out).size)
  clear hb56 hRo7
  refine ⟨_, rfl, ?_⟩
  refine hK.out _ _ ?_
  clear hK K
  refine norm_ (a' := ?_) ?_ ?_
  rotate_left
  · show Act.put _ (some 76) _ = _
    (try simp only [Act.put, List.setIfInBounds_toArray, List.set_cons_zero, List.set_cons_succ, i64_w, i32_w])
    rfl
  refine last_ (i := 4) (N := some 77) #[true, true, true, true, true, false, false, false, false, false] rfl rfl (one_of HT_.out (by kernel_rfl)) (by decide) (fun K hK => ?_)
  refine goes_ Try.func49 (by kernel_rfl) rfl #[.agg #[.int .i64 v1, .slice Ao6 o1.length co6, .int .i64 r1], .agg #[.int .i64 v2, .slice Ao7 ov2.length co7, .int .i64 r2]] (by rfl) rfl rfl (by simp only [List.map_toArray, List.map_cons, List.map_nil]; rfl) ?_
  refine (mask_Xor.calls v1 Ao6 co6 o1 r1 v2 Ao7 co7 ov2 r2 u3 a3 s3 e3 _ (Kd.R_reads' Ro657.out).2.2 (Kd.R_reads' Ro657.out).2.1 (Kd.R_reads' Ro756.out).2.2 (Kd.R_reads' Ro756.out).2.1 HX.out.1).mono ?_
  rintro e w58 ⟨va3_, rfl, hRa3, hb58⟩
  obtain ⟨Aa3, ca3, rfl, hca3, _⟩ := Kd.R_reads hRa3
  have HS58 : Aside0 (w.heap.size + 3 ≤ w58.heap.size) := ⟨Nat.le_trans (show w.heap.size + 3 ≤ (w56).heap.size by have := HS56.out; first | exact this | (simp only [setCell_size, alloc_size]; omega)) hb58.size⟩
  have HB59 := Aside0.mk (below_then HB57.out (HB57.out).size hb58)
  have Kf59 := Aside0.mk (blk_below Kf57.out hb58)
  have Kg59 := Aside0.mk (blk_below Kg57.out hb58)
  have Kh59 := Aside0.mk (blk_below Kh57.out hb58)
  have Ka59 := Aside0.mk (blk_below Ka57.out hb58)
  have Kb59 := Aside0.mk (blk_below Kb57.out hb58)
  have Ra259 := Aside0.mk (Kd.R_below Ra257.out hb58)
  have Rb259 := Aside0.mk (Kd.R_below Rb257.out hb58)
  have Ro659 := Aside0.mk (Kd.R_below Ro657.out hb58)
  have Ro759 := Aside0.mk (Kd.R_below Ro756.out hb58)
  have Ra358 := Aside0.mk (Kd.R_lower hRa3 (HB57.out).size)
  clear hb58 hRa3
  refine ⟨.tuple #[.agg #[.int .i64 u3, .slice Aa3 a3.length ca3, .int .i64 s3], .int .i64 e3], rfl, ?_⟩
  have ya0_60 := (blk_cell Ka59.out 0).trans rfl
  have ya1_60 := (blk_cell Ka59.out 1).trans rfl
  have ya2_60 := (blk_cell Ka59.out 2).trans rfl
  have z0 := blk_frozen Ka59.out 0
  have z1 := blk_frozen Ka59.out 1
  have z2 := blk_frozen Ka59.out 2
  refine hK.out _ _ ?_
  clear hK K
  refine norm_ (a' := ?_) ?_ ?_
  rotate_left
  · show Act.put _ (some 77) _ = _
    (try simp only [Act.put, List.setIfInBounds_toArray, List.set_cons_zero, List.set_cons_succ, i64_w, i32_w])
    rfl
  refine pure_ (i := 5) (N := some 72) (v := ?_) (a' := ?_) #[true, true, true, true, true, true, false, false, false, false] rfl rfl (any_of HT_.out (by kernel_rfl)) (fun _ _ _ h => h) (Or.inl ⟨by rfl, ?_⟩) ?_ ?_
  rotate_left
  · intro w'
    go_simp
    with_reducible rfl
  rotate_left
  · simp only [Act.put, List.setIfInBounds_toArray, List.set_cons_zero, List.set_cons_succ, i64_w, i32_w]
    rfl
  refine pure_ (i := 6) (N := some 78) (v := ?_) (a' := ?_) #[true, true, true, true, true, true, true, false, false, false] rfl rfl (any_of HT_.out (by kernel_rfl)) (fun _ _ _ h => h) (Or.inl ⟨by rfl, ?_⟩) ?_ ?_
  rotate_left
  · intro w'
    go_simp
    with_reducible rfl
  rotate_left
  · simp only [Act.put, List.setIfInBounds_toArray, List.set_cons_zero, List.set_cons_succ, i64_w, i32_w]
    rfl
  refine pure_ (i := 7) (N := some 79) (v := ?_) (a' := ?_) #[true, true, true, true, true, true, true, true, false, false] rfl rfl (any_of HT_.out (by kernel_rfl)) (fun _ _ _ h => h) (Or.inl ⟨by rfl, ?_⟩) ?_ ?_
  rotate_left
  · intro w'
    go_simp
    with_reducible rfl
  rotate_left
  · simp only [Act.put, List.setIfInBounds_toArray, List.set_cons_zero, List.set_cons_succ, i64_w, i32_w]
    rfl
  refine last_ (i := 8) (N := none) #[true, true, true, true, true, true, true, true, true, false] rfl rfl (one_of HT_.out (by kernel_rfl)) (by decide) (fun K hK => ?_)
  refine skip_ (w1 := ?_) (by rfl) rfl ?_ ?_
  rotate_left
  · go_simp
    rfl
  refine hK.out _ _ ?_
  clear hK K
  refine norm_ (a' := ?_) ?_ ?_
  rotate_left
  · rfl
  refine pure_ (i := 9) (N := some 8) (v := ?_) (a' := ?_) #[true, true, true, true, true, true, true, true, true, true] rfl rfl (any_of HT_.out (by kernel_rfl)) (fun _ _ _ h => h) (Or.inl ⟨by rfl, ?_⟩) ?_ ?_
  rotate_left
  · intro w'
    go_simp
    with_reducible rfl
  rotate_left
  · simp only [Act.put, List.setIfInBounds_toArray, List.set_cons_zero, List.set_cons_succ, i64_w, i32_w]
    rfl
  refine done_ (done_of HT_.out (by kernel_rfl)) ?_
  clear yf0_53 yf1_53 yf2_53 yg0_53 yg1_53 yg2_53 ya0_60 ya1_60 ya2_60 z0 z1 z2
  obtain ⟨W61, hW61⟩ : ∃ W, W = (((w58.setCell ⟨w3.heap.size, 0, none⟩ (.int .i64 u3)).setCell ⟨w3.heap.size, 1, none⟩ (.slice Aa3 a3.length ca3)).setCell ⟨w3.heap.size, 2, none⟩ (.int .i64 s3)) := ⟨_, rfl⟩
  have HB62 := Aside0.mk (show Below w.heap.size w W61 by rw [hW61]; exact (below_set (below_set (below_set HB59.out (show w.heap.size ≤ w3.heap.size by omega)) (show w.heap.size ≤ w3.heap.size by omega)) (show w.heap.size ≤ w3.heap.size by omega)))
  have HS62 : Aside0 (w.heap.size + 3 ≤ W61.heap.size) := ⟨by rw [hW61]; have := HS58.out; first | exact this | (simp only [setCell_size, alloc_size]; omega)⟩
  have Kf62 := Aside0.mk (show W61.heap[w.heap.size]? = some (.cells #[.int .i64 v1, .slice A1 k1.length c1, .int .i64 r1] 33 (0, 0)) by rw [hW61]; exact (blk_far (p := ⟨w3.heap.size, 2, none⟩) (blk_far (p := ⟨w3.heap.size, 1, none⟩) (blk_far (p := ⟨w3.heap.size, 0, none⟩) Kf59.out (blk_ne Kf59.out Ka59.out (by decide)) (.int .i64 u3)) (blk_ne (blk_far (p := ⟨w3.heap.size, 0, none⟩) Kf59.out (blk_ne Kf59.out Ka59.out (by decide)) (.int .i64 u3)) (blk_put (cs := #[.int .i64 u2, .slice Aa2 a2.length ca2, .int .i64 s2]) Ka59.out 0 (.int .i64 u3) rfl) (by decide)) (.slice Aa3 a3.length ca3)) (blk_ne (blk_far (p := ⟨w3.heap.size, 1, none⟩) (blk_far (p := ⟨w3.heap.size, 0, none⟩) Kf59.out (blk_ne Kf59.out Ka59.out (by decide)) (.int .i64 u3)) (blk_ne (blk_far (p := ⟨w3.heap.size, 0, none⟩) Kf59.out (blk_ne Kf59.out Ka59.out (by decide)) (.int .i64 u3)) (blk_put (cs := #[.int .i64 u2, .slice Aa2 a2.length ca2, .int .i64 s2]) Ka59.out 0 (.int .i64 u3) rfl) (by decide)) (.slice Aa3 a3.length ca3)) (blk_put (cs := #[.int .i64 u3, .slice Aa2 a2.length ca2, .int .i64 s2]) (blk_put (cs := #[.int .i64 u2, .slice Aa2 a2.length ca2, .int .i64 s2]) Ka59.out 0 (.int .i64 u3) rfl) 1 (.slice Aa3 a3.length ca3) rfl) (by decide)) (.int .i64 s3)))
  have Kg62 := Aside0.mk (show W61.heap[(w.heap.size + 1)]? = some (.cells #[.int .i64 v2, .slice A2 k2.length c2, .int .i64 r2] 33 (0, 0)) by rw [hW61]; exact (blk_far (p := ⟨w3.heap.size, 2, none⟩) (blk_far (p := ⟨w3.heap.size, 1, none⟩) (blk_far (p := ⟨w3.heap.size, 0, none⟩) Kg59.out (blk_ne Kg59.out Ka59.out (by decide)) (.int .i64 u3)) (blk_ne (blk_far (p := ⟨w3.heap.size, 0, none⟩) Kg59.out (blk_ne Kg59.out Ka59.out (by decide)) (.int .i64 u3)) (blk_put (cs := #[.int .i64 u2, .slice Aa2 a2.length ca2, .int .i64 s2]) Ka59.out 0 (.int .i64 u3) rfl) (by decide)) (.slice Aa3 a3.length ca3)) (blk_ne (blk_far (p := ⟨w3.heap.size, 1, none⟩) (blk_far (p := ⟨w3.heap.size, 0, none⟩) Kg59.out (blk_ne Kg59.out Ka59.out (by decide)) (.int .i64 u3)) (blk_ne (blk_far (p := ⟨w3.heap.size, 0, none⟩) Kg59.out (blk_ne Kg59.out Ka59.out (by decide)) (.int .i64 u3)) (blk_put (cs := #[.int .i64 u2, .slice Aa2 a2.length ca2, .int .i64 s2]) Ka59.out 0 (.int .i64 u3) rfl) (by decide)) (.slice Aa3 a3.length ca3)) (blk_put (cs := #[.int .i64 u3, .slice Aa2 a2.length ca2, .int .i64 s2]) (blk_put (cs := #[.int .i64 u2, .slice Aa2 a2.length ca2, .int .i64 s2]) Ka59.out 0 (.int .i64 u3) rfl) 1 (.slice Aa3 a3.length ca3) rfl) (by decide)) (.int .i64 s3)))
  have Kh62 := Aside0.mk (show W61.heap[(w.heap.size + 2)]? = some (.cells #[.int .i64 v3, .slice A3 k3.length c3, .int .i64 r3] 33 (0, 0)) by rw [hW61]; exact (blk_far (p := ⟨w3.heap.size, 2, none⟩) (blk_far (p := ⟨w3.heap.size, 1, none⟩) (blk_far (p := ⟨w3.heap.size, 0, none⟩) Kh59.out (blk_ne Kh59.out Ka59.out (by decide)) (.int .i64 u3)) (blk_ne (blk_far (p := ⟨w3.heap.size, 0, none⟩) Kh59.out (blk_ne Kh59.out Ka59.out (by decide)) (.int .i64 u3)) (blk_put (cs := #[.int .i64 u2, .slice Aa2 a2.length ca2, .int .i64 s2]) Ka59.out 0 (.int .i64 u3) rfl) (by decide)) (.slice Aa3 a3.length ca3)) (blk_ne (blk_far (p := ⟨w3.heap.size, 1, none⟩) (blk_far (p := ⟨w3.heap.size, 0, none⟩) Kh59.out (blk_ne Kh59.out Ka59.out (by decide)) (.int .i64 u3)) (blk_ne (blk_far (p := ⟨w3.heap.size, 0, none⟩) Kh59.out (blk_ne Kh59.out Ka59.out (by decide)) (.int .i64 u3)) (blk_put (cs := #[.int .i64 u2, .slice Aa2 a2.length ca2, .int .i64 s2]) Ka59.out 0 (.int .i64 u3) rfl) (by decide)) (.slice Aa3 a3.length ca3)) (blk_put (cs := #[.int .i64 u3, .slice Aa2 a2.length ca2, .int .i64 s2]) (blk_put (cs := #[.int .i64 u2, .slice Aa2 a2.length ca2, .int .i64 s2]) Ka59.out 0 (.int .i64 u3) rfl) 1 (.slice Aa3 a3.length ca3) rfl) (by decide)) (.int .i64 s3)))
  have Ka62 := Aside0.mk (show W61.heap[w3.heap.size]? = some (.cells #[.int .i64 u3, .slice Aa3 a3.length ca3, .int .i64 s3] 28 (0, 0)) by rw [hW61]; exact (blk_put (cs := #[.int .i64 u3, .slice Aa3 a3.length ca3, .int .i64 s2]) (blk_put (cs := #[.int .i64 u3, .slice Aa2 a2.length ca2, .int .i64 s2]) (blk_put (cs := #[.int .i64 u2, .slice Aa2 a2.length ca2, .int .i64 s2]) Ka59.out 0 (.int .i64 u3) rfl) 1 (.slice Aa3 a3.length ca3) rfl) 2 (.int .i64 s3) rfl))
  have Kb62 := Aside0.mk (show W61.heap[w7.heap.size]? = some (.cells #[.int .i64 u2, .slice Ab2 b2.length cb2, .int .i64 s2] 33 (0, 0)) by rw [hW61]; exact (blk_far (p := ⟨w3.heap.size, 2, none⟩) (blk_far (p := ⟨w3.heap.size, 1, none⟩) (blk_far (p := ⟨w3.heap.size, 0, none⟩) Kb59.out (blk_ne Kb59.out Ka59.out (by decide)) (.int .i64 u3)) (blk_ne (blk_far (p := ⟨w3.heap.size, 0, none⟩) Kb59.out (blk_ne Kb59.out Ka59.out (by decide)) (.int .i64 u3)) (blk_put (cs := #[.int .i64 u2, .slice Aa2 a2.length ca2, .int .i64 s2]) Ka59.out 0 (.int .i64 u3) rfl) (by decide)) (.slice Aa3 a3.length ca3)) (blk_ne (blk_far (p := ⟨w3.heap.size, 1, none⟩) (blk_far (p := ⟨w3.heap.size, 0, none⟩) Kb59.out (blk_ne Kb59.out Ka59.out (by decide)) (.int .i64 u3)) (blk_ne (blk_far (p := ⟨w3.heap.size, 0, none⟩) Kb59.out (blk_ne Kb59.out Ka59.out (by decide)) (.int .i64 u3)) (blk_put (cs := #[.int .i64 u2, .slice Aa2 a2.length ca2, .int .i64 s2]) Ka59.out 0 (.int .i64 u3) rfl) (by decide)) (.slice Aa3 a3.length ca3)) (blk_put (cs := #[.int .i64 u3, .slice Aa2 a2.length ca2, .int .i64 s2]) (blk_put (cs := #[.int .i64 u2, .slice Aa2 a2.length ca2, .int .i64 s2]) Ka59.out 0 (.int .i64 u3) rfl) 1 (.slice Aa3 a3.length ca3) rfl) (by decide)) (.int .i64 s3)))
  have Ra362 := Aside0.mk (show k107.R 107 W61 w.heap.size (fun _ => True) (.slice Aa3 a3.length ca3) a3 by rw [hW61]; exact (Kd.R_set (Kd.R_set (Kd.R_set Ra358.out Ka59.out (by decide) 0 (.int .i64 u3)) (blk_put (cs := #[.int .i64 u2, .slice Aa2 a2.length ca2, .int .i64 s2]) Ka59.out 0 (.int .i64 u3) rfl) (by decide) 1 (.slice Aa3 a3.length ca3)) (blk_put (cs := #[.int .i64 u3, .slice Aa2 a2.length ca2, .int .i64 s2]) (blk_put (cs := #[.int .i64 u2, .slice Aa2 a2.length ca2, .int .i64 s2]) Ka59.out 0 (.int .i64 u3) rfl) 1 (.slice Aa3 a3.length ca3) rfl) (by decide) 2 (.int .i64 s3)))
  rw [← hW61]
  clear hW61
  have yf0_63 := (blk_cell Kf62.out 0).trans rfl
  have yf1_63 := (blk_cell Kf62.out 1).trans rfl
  have yf2_63 := (blk_cell Kf62.out 2).trans rfl
  have yg0_63 := (blk_cell Kg62.out 0).trans rfl
  have yg1_63 := (blk_cell Kg62.out 1).trans rfl
  have yg2_63 := (blk_cell Kg62.out 2).trans rfl
  go_wp2_with fail
  refine (cantingref02_Xor.calls fu v1 A1 c1 k1 r1 v2 A2 c2 k2 r2 u3 b3 s3 e3 _ (Kd.C_below HCf.out HB62.out) hcf (Kd.C_below HCg.out HB62.out) hcg HX.out.2.1).mono ?_
  rintro e w64 ⟨vb3_, rfl, hRb3, hb64⟩
  obtain ⟨Ab3, cb3, rfl, hcb3, _⟩ := Kd.R_reads hRb3
  have HS64 : Aside0 (w.heap.size + 3 ≤ w64.heap.size) := ⟨Nat.le_trans (show w.heap.size + 3 ≤ (W61).heap.size by have := HS62.out; first | exact this | (simp only [setCell_size, alloc_size]; omega)) hb64.size⟩
  have HB65 := Aside0.mk (below_then HB62.out (HB62.out).size hb64)
  have Kf65 := Aside0.mk (blk_below Kf62.out hb64)
  have Kg65 := Aside0.mk (blk_below Kg62.out hb64)
  have Kh65 := Aside0.mk (blk_below Kh62.out hb64)
  have Ka65 := Aside0.mk (blk_below Ka62.out hb64)
  have Kb65 := Aside0.mk (blk_below Kb62.out hb64)
  have Ra365 := Aside0.mk (Kd.R_below Ra362.out hb64)
  have Rb364 := Aside0.mk (Kd.R_lower hRb3 (HB62.out).size)
  clear hb64 hRb3
  clear yf0_63 yf1_63 yf2_63 yg0_63 yg1_63 yg2_63
  have yb0_66 := (blk_cell Kb65.out 0).trans rfl
  have yb1_66 := (blk_cell Kb65.out 1).trans rfl
  have yb2_66 := (blk_cell Kb65.out 2).trans rfl
  have z0 := blk_frozen Kb65.out 0
  have z1 := blk_frozen Kb65.out 1
  have z2 := blk_frozen Kb65.out 2
  have ya0_67 := (blk_cell (blk_far (p := ⟨w7.heap.size, 2, none⟩) (blk_far (p := ⟨w7.heap.size, 1, none⟩) (blk_far (p := ⟨w7.heap.size, 0, none⟩) Ka65.out (blk_ne Ka65.out Kb65.out (by decide)) (.int .i64 u3)) (blk_ne (blk_far (p := ⟨w7.heap.size, 0, none⟩) Ka65.out (blk_ne Ka65.out Kb65.out (by decide)) (.int .i64 u3)) (blk_put (cs := #[.int .i64 u2, .slice Ab2 b2.length cb2, .int .i64 s2]) Kb65.out 0 (.int .i64 u3) rfl) (by decide)) (.slice Ab3 b3.length cb3)) (blk_ne (blk_far (p := ⟨w7.heap.size, 1, none⟩) (blk_far (p := ⟨w7.heap.size, 0, none⟩) Ka65.out (blk_ne Ka65.out Kb65.out (by decide)) (.int .i64 u3)) (blk_ne (blk_far (p := ⟨w7.heap.size, 0, none⟩) Ka65.out (blk_ne Ka65.out Kb65.out (by decide)) (.int .i64 u3)) (blk_put (cs := #[.int .i64 u2, .slice Ab2 b2.length cb2, .int .i64 s2]) Kb65.out 0 (.int .i64 u3) rfl) (by decide)) (.slice Ab3 b3.length cb3)) (blk_put (cs := #[.int .i64 u3, .slice Ab2 b2.length cb2, .int .i64 s2]) (blk_put (cs := #[.int .i64 u2, .slice Ab2 b2.length cb2, .int .i64 s2]) Kb65.out 0 (.int .i64 u3) rfl) 1 (.slice Ab3 b3.length cb3) rfl) (by decide)) (.int .i64 s3)) 0).trans rfl
  have ya1_67 := (blk_cell (blk_far (p := ⟨w7.heap.size, 2, none⟩) (blk_far (p := ⟨w7.heap.size, 1, none⟩) (blk_far (p := ⟨w7.heap.size, 0, none⟩) Ka65.out (blk_ne Ka65.out Kb65.out (by decide)) (.int .i64 u3)) (blk_ne (blk_far (p := ⟨w7.heap.size, 0, none⟩) Ka65.out (blk_ne Ka65.out Kb65.out (by decide)) (.int .i64 u3)) (blk_put (cs := #[.int .i64 u2, .slice Ab2 b2.length cb2, .int .i64 s2]) Kb65.out 0 (.int .i64 u3) rfl) (by decide)) (.slice Ab3 b3.length cb3)) (blk_ne (blk_far (p := ⟨w7.heap.size, 1, none⟩) (blk_far (p := ⟨w7.heap.size, 0, none⟩) Ka65.out (blk_ne Ka65.out Kb65.out (by decide)) (.int .i64 u3)) (blk_ne (blk_far (p := ⟨w7.heap.size, 0, none⟩) Ka65.out (blk_ne Ka65.out Kb65.out (by decide)) (.int .i64 u3)) (blk_put (cs := #[.int .i64 u2, .slice Ab2 b2.length cb2, .int .i64 s2]) Kb65.out 0 (.int .i64 u3) rfl) (by decide)) (.slice Ab3 b3.length cb3)) (blk_put (cs := #[.int .i64 u3, .slice Ab2 b2.length cb2, .int .i64 s2]) (blk_put (cs := #[.int .i64 u2, .slice Ab2 b2.length cb2, .int .i64 s2]) Kb65.out 0 (.int .i64 u3) rfl) 1 (.slice Ab3 b3.length cb3) rfl) (by decide)) (.int .i64 s3)) 1).trans rfl
  have ya2_67 := (blk_cell (blk_far (p := ⟨w7.heap.size, 2, none⟩) (blk_far (p := ⟨w7.heap.size, 1, none⟩) (blk_far (p := ⟨w7.heap.size, 0, none⟩) Ka65.out (blk_ne Ka65.out Kb65.out (by decide)) (.int .i64 u3)) (blk_ne (blk_far (p := ⟨w7.heap.size, 0, none⟩) Ka65.out (blk_ne Ka65.out Kb65.out (by decide)) (.int .i64 u3)) (blk_put (cs := #[.int .i64 u2, .slice Ab2 b2.length cb2, .int .i64 s2]) Kb65.out 0 (.int .i64 u3) rfl) (by decide)) (.slice Ab3 b3.length cb3)) (blk_ne (blk_far (p := ⟨w7.heap.size, 1, none⟩) (blk_far (p := ⟨w7.heap.size, 0, none⟩) Ka65.out (blk_ne Ka65.out Kb65.out (by decide)) (.int .i64 u3)) (blk_ne (blk_far (p := ⟨w7.heap.size, 0, none⟩) Ka65.out (blk_ne Ka65.out Kb65.out (by decide)) (.int .i64 u3)) (blk_put (cs := #[.int .i64 u2, .slice Ab2 b2.length cb2, .int .i64 s2]) Kb65.out 0 (.int .i64 u3) rfl) (by decide)) (.slice Ab3 b3.length cb3)) (blk_put (cs := #[.int .i64 u3, .slice Ab2 b2.length cb2, .int .i64 s2]) (blk_put (cs := #[.int .i64 u2, .slice Ab2 b2.length cb2, .int .i64 s2]) Kb65.out 0 (.int .i64 u3) rfl) 1 (.slice Ab3 b3.length cb3) rfl) (by decide)) (.int .i64 s3)) 2).trans rfl
  have yb0_67 := (blk_cell (blk_put (cs := #[.int .i64 u3, .slice Ab3 b3.length cb3, .int .i64 s2]) (blk_put (cs := #[.int .i64 u3, .slice Ab2 b2.length cb2, .int .i64 s2]) (blk_put (cs := #[.int .i64 u2, .slice Ab2 b2.length cb2, .int .i64 s2]) Kb65.out 0 (.int .i64 u3) rfl) 1 (.slice Ab3 b3.length cb3) rfl) 2 (.int .i64 s3) rfl) 0).trans rfl
  have yb1_67 := (blk_cell (blk_put (cs := #[.int .i64 u3, .slice Ab3 b3.length cb3, .int .i64 s2]) (blk_put (cs := #[.int .i64 u3, .slice Ab2 b2.length cb2, .int .i64 s2]) (blk_put (cs := #[.int .i64 u2, .slice Ab2 b2.length cb2, .int .i64 s2]) Kb65.out 0 (.int .i64 u3) rfl) 1 (.slice Ab3 b3.length cb3) rfl) 2 (.int .i64 s3) rfl) 1).trans rfl
  have yb2_67 := (blk_cell (blk_put (cs := #[.int .i64 u3, .slice Ab3 b3.length cb3, .int .i64 s2]) (blk_put (cs := #[.int .i64 u3, .slice Ab2 b2.length cb2, .int .i64 s2]) (blk_put (cs := #[.int .i64 u2, .slice Ab2 b2.length cb2, .int .i64 s2]) Kb65.out 0 (.int .i64 u3) rfl) 1 (.slice Ab3 b3.length cb3) rfl) 2 (.int .i64 s3) rfl) 2).trans rfl
  go_wp2_with fail
  obtain ⟨W68, hW68⟩ : ∃ W, W = (((w64.setCell ⟨w7.heap.size, 0, none⟩ (.int .i64 u3)).setCell ⟨w7.heap.size, 1, none⟩ (.slice Ab3 b3.length cb3)).setCell ⟨w7.heap.size, 2, none⟩ (.int .i64 s3)) := ⟨_, rfl⟩
  have HB69 := Aside0.mk (show Below w.heap.size w W68 by rw [hW68]; exact (below_set (below_set (below_set HB65.out (show w.heap.size ≤ w7.heap.size by omega)) (show w.heap.size ≤ w7.heap.size by omega)) (show w.heap.size ≤ w7.heap.size by omega)))
  have HS69 : Aside0 (w.heap.size + 3 ≤ W68.heap.size) := ⟨by rw [hW68]; have := HS64.out; first | exact this | (simp only [setCell_size, alloc_size]; omega)⟩
  have Kf69 := Aside0.mk (show W68.heap[w.heap.size]? = some (.cells #[.int .i64 v1, .slice A1 k1.length c1, .int .i64 r1] 33 (0, 0)) by rw [hW68]; exact (blk_far (p := ⟨w7.heap.size, 2, none⟩) (blk_far (p := ⟨w7.heap.size, 1, none⟩) (blk_far (p := ⟨w7.heap.size, 0, none⟩) Kf65.out (show w.heap.size ≠ w7.heap.size by omega) (.int .i64 u3)) (show w.heap.size ≠ w7.heap.size by omega) (.slice Ab3 b3.length cb3)) (show w.heap.size ≠ w7.heap.size by omega) (.int .i64 s3)))
  have Kg69 := Aside0.mk (show W68.heap[(w.heap.size + 1)]? = some (.cells #[.int .i64 v2, .slice A2 k2.length c2, .int .i64 r2] 33 (0, 0)) by rw [hW68]; exact (blk_far (p := ⟨w7.heap.size, 2, none⟩) (blk_far (p := ⟨w7.heap.size, 1, none⟩) (blk_far (p := ⟨w7.heap.size, 0, none⟩) Kg65.out (show (w.heap.size + 1) ≠ w7.heap.size by omega) (.int .i64 u3)) (show (w.heap.size + 1) ≠ w7.heap.size by omega) (.slice Ab3 b3.length cb3)) (show (w.heap.size + 1) ≠ w7.heap.size by omega) (.int .i64 s3)))
  have Kh69 := Aside0.mk (show W68.heap[(w.heap.size + 2)]? = some (.cells #[.int .i64 v3, .slice A3 k3.length c3, .int .i64 r3] 33 (0, 0)) by rw [hW68]; exact (blk_far (p := ⟨w7.heap.size, 2, none⟩) (blk_far (p := ⟨w7.heap.size, 1, none⟩) (blk_far (p := ⟨w7.heap.size, 0, none⟩) Kh65.out (show (w.heap.size + 2) ≠ w7.heap.size by omega) (.int .i64 u3)) (show (w.heap.size + 2) ≠ w7.heap.size by omega) (.slice Ab3 b3.length cb3)) (show (w.heap.size + 2) ≠ w7.heap.size by omega) (.int .i64 s3)))
  have Ka69 := Aside0.mk (show W68.heap[w3.heap.size]? = some (.cells #[.int .i64 u3, .slice Aa3 a3.length ca3, .int .i64 s3] 28 (0, 0)) by rw [hW68]; exact (blk_far (p := ⟨w7.heap.size, 2, none⟩) (blk_far (p := ⟨w7.heap.size, 1, none⟩) (blk_far (p := ⟨w7.heap.size, 0, none⟩) Ka65.out (blk_ne Ka65.out Kb65.out (by decide)) (.int .i64 u3)) (blk_ne (blk_far (p := ⟨w7.heap.size, 0, none⟩) Ka65.out (blk_ne Ka65.out Kb65.out (by decide)) (.int .i64 u3)) (blk_put (cs := #[.int .i64 u2, .slice Ab2 b2.length cb2, .int .i64 s2]) Kb65.out 0 (.int .i64 u3) rfl) (by decide)) (.slice Ab3 b3.length cb3)) (blk_ne (blk_far (p := ⟨w7.heap.size, 1, none⟩) (blk_far (p := ⟨w7.heap.size, 0, none⟩) Ka65.out (blk_ne Ka65.out Kb65.out (by decide)) (.int .i64 u3)) (blk_ne (blk_far (p := ⟨w7.heap.size, 0, none⟩) Ka65.out (blk_ne Ka65.out Kb65.out (by decide)) (.int .i64 u3)) (blk_put (cs := #[.int .i64 u2, .slice Ab2 b2.length cb2, .int .i64 s2]) Kb65.out 0 (.int .i64 u3) rfl) (by decide)) (.slice Ab3 b3.length cb3)) (blk_put (cs := #[.int .i64 u3, .slice Ab2 b2.length cb2, .int .i64 s2]) (blk_put (cs := #[.int .i64 u2, .slice Ab2 b2.length cb2, .int .i64 s2]) Kb65.out 0 (.int .i64 u3) rfl) 1 (.slice Ab3 b3.length cb3) rfl) (by decide)) (.int .i64 s3)))
  have Kb69 := Aside0.mk (show W68.heap[w7.heap.size]? = some (.cells #[.int .i64 u3, .slice Ab3 b3.length cb3, .int .i64 s3] 33 (0, 0)) by rw [hW68]; exact (blk_put (cs := #[.int .i64 u3, .slice Ab3 b3.length cb3, .int .i64 s2]) (blk_put (cs := #[.int .i64 u3, .slice Ab2 b2.length cb2, .int .i64 s2]) (blk_put (cs := #[.int .i64 u2, .slice Ab2 b2.length cb2, .int .i64 s2]) Kb65.out 0 (.int .i64 u3) rfl) 1 (.slice Ab3 b3.length cb3) rfl) 2 (.int .i64 s3) rfl))
  have Ra369 := Aside0.mk (show k107.R 107 W68 w.heap.size (fun _ => True) (.slice Aa3 a3.length ca3) a3 by rw [hW68]; exact (Kd.R_set (Kd.R_set (Kd.R_set Ra365.out Kb65.out (by decide) 0 (.int .i64 u3)) (blk_put (cs := #[.int .i64 u2, .slice Ab2 b2.length cb2, .int .i64 s2]) Kb65.out 0 (.int .i64 u3) rfl) (by decide) 1 (.slice Ab3 b3.length cb3)) (blk_put (cs := #[.int .i64 u3, .slice Ab2 b2.length cb2, .int .i64 s2]) (blk_put (cs := #[.int .i64 u2, .slice Ab2 b2.length cb2, .int .i64 s2]) Kb65.out 0 (.int .i64 u3) rfl) 1 (.slice Ab3 b3.length cb3) rfl) (by decide) 2 (.int .i64 s3)))
  have Rb369 := Aside0.mk (show k106.R 106 W68 w.heap.size (fun _ => True) (.slice Ab3 b3.length cb3) b3 by rw [hW68]; exact (Kd.R_set (Kd.R_set (Kd.R_set Rb364.out Kb65.out (by decide) 0 (.int .i64 u3)) (blk_put (cs := #[.int .i64 u2, .slice Ab2 b2.length cb2, .int .i64 s2]) Kb65.out 0 (.int .i64 u3) rfl) (by decide) 1 (.slice Ab3 b3.length cb3)) (blk_put (cs := #[.int .i64 u3, .slice Ab2 b2.length cb2, .int .i64 s2]) (blk_put (cs := #[.int .i64 u2, .slice Ab2 b2.length cb2, .int .i64 s2]) Kb65.out 0 (.int .i64 u3) rfl) 1 (.slice Ab3 b3.length cb3) rfl) (by decide) 2 (.int .i64 s3)))
  rw [← hW68]
  clear hW68
  clear ya0_67 ya1_67 ya2_67 yb0_67 yb1_67 yb2_67 yb0_66 yb1_66 yb2_66 z0 z1 z2
  refine (cantinglaw02_is.calls fu u3 Aa3 ca3 a3 s3 e3 u3 Ab3 cb3 b3 s3 e3 true _ (Kd.R_reads' Ra369.out).2.2 (Kd.R_reads' Ra369.out).2.1 (Kd.R_reads' Rb369.out).2.2 (Kd.R_reads' Rb369.out).2.1 HX.out.2.2).mono ?_
  rintro e w70 ⟨rfl, hb70⟩
  have HS70 : Aside0 (w.heap.size + 3 ≤ w70.heap.size) := ⟨Nat.le_trans (show w.heap.size + 3 ≤ (W68).heap.size by have := HS69.out; first | exact this | (simp only [setCell_size, alloc_size]; omega)) hb70.size⟩
  have HB71 := Aside0.mk (below_then HB69.out (HB69.out).size hb70)
  have Kf71 := Aside0.mk (blk_below Kf69.out hb70)
  have Kg71 := Aside0.mk (blk_below Kg69.out hb70)
  have Kh71 := Aside0.mk (blk_below Kh69.out hb70)
  have Ka71 := Aside0.mk (blk_below Ka69.out hb70)
  have Kb71 := Aside0.mk (blk_below Kb69.out hb70)
  have Ra371 := Aside0.mk (Kd.R_below Ra369.out hb70)
  have Rb371 := Aside0.mk (Kd.R_below Rb369.out hb70)
  clear hb70
  have yf0_72 := (blk_cell Kf71.out 0).trans rfl
  have yf1_72 := (blk_cell Kf71.out 1).trans rfl
  have yf2_72 := (blk_cell Kf71.out 2).trans rfl
  have yg0_72 := (blk_cell Kg71.out 0).trans rfl
  have yg1_72 := (blk_cell Kg71.out 1).trans rfl
  have yg2_72 := (blk_cell Kg71.out 2).trans rfl
  have yh0_72 := (blk_cell Kh71.out 0).trans rfl
  have yh1_72 := (blk_cell Kh71.out 1).trans rfl
  have yh2_72 := (blk_cell Kh71.out 2).trans rfl
  go_wp2
  refine start_ (n := 12) (S := fun w' => (w'.cell? ⟨w.heap.size, 0, none⟩ = some (.int .i64 v1)) ∧ (w'.cell? ⟨w.heap.size, 1, none⟩ = some (.slice A1 k1.length c1)) ∧ (w'.cell? ⟨w.heap.size, 2, none⟩ = some (.int .i64 r1)) ∧ (w'.cell? ⟨(w.heap.size + 1), 0, none⟩ = some (.int .i64 v2)) ∧ (w'.cell? ⟨(w.heap.size + 1), 1, none⟩ = some (.slice A2 k2.length c2)) ∧ (w'.cell? ⟨(w.heap.size + 1), 2, none⟩ = some (.int .i64 r2)) ∧ (w'.cell? ⟨(w.heap.size + 2), 0, none⟩ = some (.int .i64 v3)) ∧ (w'.cell? ⟨(w.heap.size + 2), 1, none⟩ = some (.slice A3 k3.length c3)) ∧ (w'.cell? ⟨(w.heap.size + 2), 2, none⟩ = some (.int .i64 r3))) (ds := [5, 6, 10]) #[false, false, false, false, false, false, false, false, false, false, false, false] (by kernel_rfl) rfl rfl ⟨yf0_72, yf1_72, yf2_72, yg0_72, yg1_72, yg2_72, yh0_72, yh1_72, yh2_72⟩ (fun hHeld => ?_)
  refine with_tabW tb_MaskCombines_17.tab tb_MaskCombines_17.bits (fun HT_ HW_ => ?_)
  refine take_ (i := 0) (N := some 93) (v := ?_) (a' := ?_) #[true, false, false, false, false, false, false, false, false, false, false, false] rfl rfl (take_ofW HT_.out HW_.out (by kernel_rfl)) (fun _ _ _ h => h) (Or.inl ⟨by rfl, ?_⟩) hHeld ?_ ?_
  rotate_left
  · rintro w' ⟨s0, s1, s2, s3, s4, s5, s6, s7, s8⟩
    go_simp
    with_reducible rfl
  rotate_left
  · simp only [Act.put, List.setIfInBounds_toArray, List.set_cons_zero, List.set_cons_succ, i64_w, i32_w]
    rfl
  refine take_ (i := 2) (N := some 95) (v := ?_) (a' := ?_) #[true, false, true, false, false, false, false, false, false, false, false, false] rfl rfl (take_ofW HT_.out HW_.out (by kernel_rfl)) (fun _ _ _ h => h) (Or.inl ⟨by rfl, ?_⟩) hHeld ?_ ?_
  rotate_left
  · rintro w' ⟨s0, s1, s2, s3, s4, s5, s6, s7, s8⟩
    go_simp
    with_reducible rfl
  rotate_left
  · simp only [Act.put, List.setIfInBounds_toArray, List.set_cons_zero, List.set_cons_succ, i64_w, i32_w]
    rfl
  refine take_ (i := 4) (N := some 97) (v := ?_) (a' := ?_) #[true, false, true, false, true, false, false, false, false, false, false, false] rfl rfl (take_ofW HT_.out HW_.out (by kernel_rfl)) (fun _ _ _ h => h) (Or.inl ⟨by rfl, ?_⟩) hHeld ?_ ?_
  rotate_left
  · rintro w' ⟨s0, s1, s2, s3, s4, s5, s6, s7, s8⟩
    go_simp
    with_reducible rfl
  rotate_left
  · simp only [Act.put, List.setIfInBounds_toArray, List.set_cons_zero, List.set_cons_succ, i64_w, i32_w]
    rfl
  refine one_ (i := 1) (N := some 94) #[true, true, true, false, true, false, false, false, false, false, false, false] rfl rfl (one_of HT_.out (by kernel_rfl)) (by decide) (fun K hK => ?_)
  refine goes_ Try.func30 (by kernel_rfl) rfl #[.agg #[.int .i64 v1, .slice A1 k1.length c1, .int .i64 r1]] (by rfl) rfl rfl (by simp only [List.map_toArray, List.map_cons, List.map_nil]; rfl) ?_
  refine (cantinglaw02_of.calls fu v1 A1 c1 k1 r1 v1 o1 r1 _ (Kd.C_below HCf.out (below_drew HB71.out)) hcf HO1.out).mono ?_
  rintro e w73 ⟨vo8_, rfl, hRo8, hb73⟩
  obtain ⟨Ao8, co8, rfl, hco8, _⟩ := Kd.R_reads hRo8
  have HS73 : Aside0 (w.heap.size + 3 ≤ w73.heap.size) := ⟨Nat.le_trans (show w.heap.size + 3 ≤ (w70.drew).heap.size by have := HS70.out; first | exact this | (simp only [setCell_size, alloc_size]; omega)) hb73.size⟩
  have HB74 := Aside0.mk (below_then (below_drew HB71.out) ((below_drew HB71.out)).size hb73)
  have Kf74 := Aside0.mk (blk_below (blk_drew Kf71.out) hb73)
  have Kg74 := Aside0.mk (blk_below (blk_drew Kg71.out) hb73)
  have Kh74 := Aside0.mk (blk_below (blk_drew Kh71.out) hb73)
  have Ka74 := Aside0.mk (blk_below (blk_drew Ka71.out) hb73)
  have Kb74 := Aside0.mk (blk_below (blk_drew Kb71.out) hb73)
  have Ra374 := Aside0.mk (Kd.R_below (Kd.R_drew Ra371.out) hb73)
  have Rb374 := Aside0.mk (Kd.R_below (Kd.R_drew Rb371.out) hb73)
  have Ro873 := Aside0.mk (Kd.R_lower hRo8 ((below_drew HB71.out)).size)
  clear hb73 hRo8
  refine ⟨_, rfl, ?_⟩
  refine hK.out _ _ ⟨(blk_cell Kf74.out 0).trans rfl, (blk_cell Kf74.out 1).trans rfl, (blk_cell Kf74.out 2).trans rfl, (blk_cell Kg74.out 0).trans rfl, (blk_cell Kg74.out 1).trans rfl, (blk_cell Kg74.out 2).trans rfl, (blk_cell Kh74.out 0).trans rfl, (blk_cell Kh74.out 1).trans rfl, (blk_cell Kh74.out 2).trans rfl⟩ (fun hHeld => ?_)
  clear hK K
  refine norm_ (a' := ?_) ?_ ?_
  rotate_left
  · show Act.put _ (some 94) _ = _
    (try simp only [Act.put, List.setIfInBounds_toArray, List.set_cons_zero, List.set_cons_succ, i64_w, i32_w])
    rfl
  refine one_ (i := 3) (N := some 96) #[true, true, true, true, true, false, false, false, false, false, false, false] rfl rfl (one_of HT_.out (by kernel_rfl)) (by decide) (fun K hK => ?_)
  refine goes_ Try.func30 (by kernel_rfl) rfl #[.agg #[.int .i64 v2, .slice A2 k2.length c2, .int .i64 r2]] (by rfl) rfl rfl (by simp only [List.map_toArray, List.map_cons, List.map_nil]; rfl) ?_
  refine (cantinglaw02_of.calls fu v2 A2 c2 k2 r2 v2 ov2 r2 _ (Kd.C_below HCg.out HB74.out) hcg HO2.out).mono ?_
  rintro e w75 ⟨vo9_, rfl, hRo9, hb75⟩
  obtain ⟨Ao9, co9, rfl, hco9, _⟩ := Kd.R_reads hRo9
  have HS75 : Aside0 (w.heap.size + 3 ≤ w75.heap.size) := ⟨Nat.le_trans (show w.heap.size + 3 ≤ (w73).heap.size by have := HS73.out; first | exact this | (simp only [setCell_size, alloc_size]; omega)) hb75.size⟩
  have HB76 := Aside0.mk (below_then HB74.out (HB74.out).size hb75)
  have Kf76 := Aside0.mk (blk_below Kf74.out hb75)
  have Kg76 := Aside0.mk (blk_below Kg74.out hb75)
  have Kh76 := Aside0.mk (blk_below Kh74.out hb75)
  have Ka76 := Aside0.mk (blk_below Ka74.out hb75)
  have Kb76 := Aside0.mk (blk_below Kb74.out hb75)
  have Ra376 := Aside0.mk (Kd.R_below Ra374.out hb75)
  have Rb376 := Aside0.mk (Kd.R_below Rb374.out hb75)
  have Ro876 := Aside0.mk (Kd.R_below Ro873.out hb75)
  have Ro975 := Aside0.mk (Kd.R_lower hRo9 (HB74.out).size)
  clear hb75 hRo9
  refine ⟨_, rfl, ?_⟩
  refine hK.out _ _ ⟨(blk_cell Kf76.out 0).trans rfl, (blk_cell Kf76.out 1).trans rfl, (blk_cell Kf76.out 2).trans rfl, (blk_cell Kg76.out 0).trans rfl, (blk_cell Kg76.out 1).trans rfl, (blk_cell Kg76.out 2).trans rfl, (blk_cell Kh76.out 0).trans rfl, (blk_cell Kh76.out 1).trans rfl, (blk_cell Kh76.out 2).trans rfl⟩ (fun hHeld => ?_)
  clear hK K
  refine norm_ (a' := ?_) ?_ ?_
  rotate_left
  · show Act.put _ (some 96) _ = _
    (try simp only [Act.put, List.setIfInBounds_toArray, List.set_cons_zero, List.set_cons_succ, i64_w, i32_w])
    rfl
  refine last_ (i := 5) (N := some 98) #[true, true, true, true, true, true, false, false, false, false, false, false] rfl rfl (one_of HT_.out (by kernel_rfl)) (by decide) (fun K hK => ?_)
  refine goes_ Try.func30 (by kernel_rfl) rfl #[.agg #[.int .i64 v3, .slice A3 k3.length c3, .int .i64 r3]] (by rfl) rfl rfl (by simp only [List.map_toArray, List.map_cons, List.map_nil]; rfl) ?_
  refine (cantinglaw02_of.calls fu v3 A3 c3 k3 r3 v3 ov3 r3 _ (Kd.C_below HCh.out HB76.out) hch HO3.out).mono ?_
  rintro e w77 ⟨vo10_, rfl, hRo10, hb77⟩
  obtain ⟨Ao10, co10, rfl, hco10, _⟩ := Kd.R_reads hRo10
  have HS77 : Aside0 (w.heap.size + 3 ≤ w77.heap.size) := ⟨Nat.le_trans (show w.heap.size + 3 ≤ (w75).heap.size by have := HS75.out; first | exact this | (simp only [setCell_size, alloc_size]; omega)) hb77.size⟩
  have HB78 := Aside0.mk (below_then HB76.out (HB76.out).size hb77)
  have Kf78 := Aside0.mk (blk_below Kf76.out hb77)
  have Kg78 := Aside0.mk (blk_below Kg76.out hb77)
  have Kh78 := Aside0.mk (blk_below Kh76.out hb77)
  have Ka78 := Aside0.mk (blk_below Ka76.out hb77)
  have Kb78 := Aside0.mk (blk_below Kb76.out hb77)
  have Ra378 := Aside0.mk (Kd.R_below Ra376.out hb77)
  have Rb378 := Aside0.mk (Kd.R_below Rb376.out hb77)
  have Ro878 := Aside0.mk (Kd.R_below Ro876.out hb77)
  have Ro978 := Aside0.mk (Kd.R_below Ro975.out hb77)
  have Ro1077 := Aside0.mk (Kd.R_lower hRo10 (HB76.out).size)
  clear hb77 hRo10
  refine ⟨_, rfl, ?_⟩
  refine hK.out _ _ ?_
  clear hK K
  refine norm_ (a' := ?_) ?_ ?_
  rotate_left
  · show Act.put _ (some 98) _ = _
    (try simp only [Act.put, List.setIfInBounds_toArray, List.set_cons_zero, List.set_cons_succ, i64_w, i32_w])
    rfl
  refine last_ (i := 6) (N := some 99) #[true, true, true, true, true, true, true, false, false, false, false, false] rfl rfl (one_of HT_.out (by kernel_rfl)) (by decide) (fun K hK => ?_)
  refine goes_ Try.func51 (by kernel_rfl) rfl #[.agg #[.int .i64 v1, .slice Ao8 o1.length co8, .int .i64 r1], .agg #[.int .i64 v2, .slice Ao9 ov2.length co9, .int .i64 r2], .agg #[.int .i64 v3, .slice Ao10 ov3.length co10, .int .i64 r3]] (by rfl) rfl rfl (by simp only [List.map_toArray, List.map_cons, List.map_nil]; rfl) ?_
  refine (mask_Ite.calls v1 Ao8 co8 o1 r1 v2 Ao9 co9 ov2 r2 v3 Ao10 co10 ov3 r3 u4 a4 s4 e4 _ (Kd.R_reads' Ro878.out).2.2 (Kd.R_reads' Ro878.out).2.1 (Kd.R_reads' Ro978.out).2.2 (Kd.R_reads' Ro978.out).2.1 (Kd.R_reads' Ro1077.out).2.2 (Kd.R_reads' Ro1077.out).2.1 HI.out.1).mono ?_
  rintro e w79 ⟨va4_, rfl, hRa4, hb79⟩
  obtain ⟨Aa4, ca4, rfl, hca4, _⟩ := Kd.R_reads hRa4
  have HS79 : Aside0 (w.heap.size + 3 ≤ w79.heap.size) := ⟨Nat.le_trans (show w.heap.size + 3 ≤ (w77).heap.size by have := HS77.out; first | exact this | (simp only [setCell_size, alloc_size]; omega)) hb79.size⟩
  have HB80 := Aside0.mk (below_then HB78.out (HB78.out).size hb79)
  have Kf80 := Aside0.mk (blk_below Kf78.out hb79)
  have Kg80 := Aside0.mk (blk_below Kg78.out hb79)
  have Kh80 := Aside0.mk (blk_below Kh78.out hb79)
  have Ka80 := Aside0.mk (blk_below Ka78.out hb79)
  have Kb80 := Aside0.mk (blk_below Kb78.out hb79)
  have Ra380 := Aside0.mk (Kd.R_below Ra378.out hb79)
  have Rb380 := Aside0.mk (Kd.R_below Rb378.out hb79)
  have Ro880 := Aside0.mk (Kd.R_below Ro878.out hb79)
  have Ro980 := Aside0.mk (Kd.R_below Ro978.out hb79)
  have Ro1080 := Aside0.mk (Kd.R_below Ro1077.out hb79)
  have Ra479 := Aside0.mk (Kd.R_lower hRa4 (HB78.out).size)
  clear hb79 hRa4
  refine ⟨.tuple #[.agg #[.int .i64 u4, .slice Aa4 a4.length ca4, .int .i64 s4], .int .i64 e4], rfl, ?_⟩
  have ya0_81 := (blk_cell Ka80.out 0).trans rfl
  have ya1_81 := (blk_cell Ka80.out 1).trans rfl
  have ya2_81 := (blk_cell Ka80.out 2).trans rfl
  have z0 := blk_frozen Ka80.out 0
  have z1 := blk_frozen Ka80.out 1
  have z2 := blk_frozen Ka80.out 2
  refine hK.out _ _ ?_
  clear hK K
  refine norm_ (a' := ?_) ?_ ?_
  rotate_left
  · show Act.put _ (some 99) _ = _
    (try simp only [Act.put, List.setIfInBounds_toArray, List.set_cons_zero, List.set_cons_succ, i64_w, i32_w])
    rfl
  refine pure_ (i := 7) (N := some 92) (v := ?_) (a' := ?_) #[true, true, true, true, true, true, true, true, false, false, false, false] rfl rfl (any_of HT_.out (by kernel_rfl)) (fun _ _ _ h => h) (Or.inl ⟨by rfl, ?_⟩) ?_ ?_
  rotate_left
  · intro w'
    go_simp
    with_reducible rfl
  rotate_left
  · simp only [Act.put, List.setIfInBounds_toArray, List.set_cons_zero, List.set_cons_succ, i64_w, i32_w]
    rfl
  refine pure_ (i := 8) (N := some 100) (v := ?_) (a' := ?_) #[true, true, true, true, true, true, true, true, true, false, false, false] rfl rfl (any_of HT_.out (by kernel_rfl)) (fun _ _ _ h => h) (Or.inl ⟨by rfl, ?_⟩) ?_ ?_
  rotate_left
  · intro w'
    go_simp
    with_reducible rfl
  rotate_left
  · simp only [Act.put, List.setIfInBounds_toArray, List.set_cons_zero, List.set_cons_succ, i64_w, i32_w]
    rfl
  refine pure_ (i := 9) (N := some 101) (v := ?_) (a' := ?_) #[true, true, true, true, true, true, true, true, true, true, false, false] rfl rfl (any_of HT_.out (by kernel_rfl)) (fun _ _ _ h => h) (Or.inl ⟨by rfl, ?_⟩) ?_ ?_
  rotate_left
  · intro w'
    go_simp
    with_reducible rfl
  rotate_left
  · simp only [Act.put, List.setIfInBounds_toArray, List.set_cons_zero, List.set_cons_succ, i64_w, i32_w]
    rfl
  refine last_ (i := 10) (N := none) #[true, true, true, true, true, true, true, true, true, true, true, false] rfl rfl (one_of HT_.out (by kernel_rfl)) (by decide) (fun K hK => ?_)
  refine skip_ (w1 := ?_) (by rfl) rfl ?_ ?_
  rotate_left
  · go_simp
    rfl
  refine hK.out _ _ ?_
  clear hK K
  refine norm_ (a' := ?_) ?_ ?_
  rotate_left
  · rfl
  refine pure_ (i := 11) (N := some 8) (v := ?_) (a' := ?_) #[true, true, true, true, true, true, true, true, true, true, true, true] rfl rfl (any_of HT_.out (by kernel_rfl)) (fun _ _ _ h => h) (Or.inl ⟨by rfl, ?_⟩) ?_ ?_
  rotate_left
  · intro w'
    go_simp
    with_reducible rfl
  rotate_left
  · simp only [Act.put, List.setIfInBounds_toArray, List.set_cons_zero, List.set_cons_succ, i64_w, i32_w]
    rfl
  refine done_ (done_of HT_.out (by kernel_rfl)) ?_
  clear yf0_72 yf1_72 yf2_72 yg0_72 yg1_72 yg2_72 yh0_72 yh1_72 yh2_72 ya0_81 ya1_81 ya2_81 z0 z1 z2
  obtain ⟨W82, hW82⟩ : ∃ W, W = (((w79.setCell ⟨w3.heap.size, 0, none⟩ (.int .i64 u4)).setCell ⟨w3.heap.size, 1, none⟩ (.slice Aa4 a4.length ca4)).setCell ⟨w3.heap.size, 2, none⟩ (.int .i64 s4)) := ⟨_, rfl⟩
  have HB83 := Aside0.mk (show Below w.heap.size w W82 by rw [hW82]; exact (below_set (below_set (below_set HB80.out (show w.heap.size ≤ w3.heap.size by omega)) (show w.heap.size ≤ w3.heap.size by omega)) (show w.heap.size ≤ w3.heap.size by omega)))
  have HS83 : Aside0 (w.heap.size + 3 ≤ W82.heap.size) := ⟨by rw [hW82]; have := HS79.out; first | exact this | (simp only [setCell_size, alloc_size]; omega)⟩
  have Kf83 := Aside0.mk (show W82.heap[w.heap.size]? = some (.cells #[.int .i64 v1, .slice A1 k1.length c1, .int .i64 r1] 33 (0, 0)) by rw [hW82]; exact (blk_far (p := ⟨w3.heap.size, 2, none⟩) (blk_far (p := ⟨w3.heap.size, 1, none⟩) (blk_far (p := ⟨w3.heap.size, 0, none⟩) Kf80.out (blk_ne Kf80.out Ka80.out (by decide)) (.int .i64 u4)) (blk_ne (blk_far (p := ⟨w3.heap.size, 0, none⟩) Kf80.out (blk_ne Kf80.out Ka80.out (by decide)) (.int .i64 u4)) (blk_put (cs := #[.int .i64 u3, .slice Aa3 a3.length ca3, .int .i64 s3]) Ka80.out 0 (.int .i64 u4) rfl) (by decide)) (.slice Aa4 a4.length ca4)) (blk_ne (blk_far (p := ⟨w3.heap.size, 1, none⟩) (blk_far (p := ⟨w3.heap.size, 0, none⟩) Kf80.out (blk_ne Kf80.out Ka80.out (by decide)) (.int .i64 u4)) (blk_ne (blk_far (p := ⟨w3.heap.size, 0, none⟩) Kf80.out (blk_ne Kf80.out Ka80.out (by decide)) (.int .i64 u4)) (blk_put (cs := #[.int .i64 u3, .slice Aa3 a3.length ca3, .int .i64 s3]) Ka80.out 0 (.int .i64 u4) rfl) (by decide)) (.slice Aa4 a4.length ca4)) (blk_put (cs := #[.int .i64 u4, .slice Aa3 a3.length ca3, .int .i64 s3]) (blk_put (cs := #[.int .i64 u3, .slice Aa3 a3.length ca3, .int .i64 s3]) Ka80.out 0 (.int .i64 u4) rfl) 1 (.slice Aa4 a4.length ca4) rfl) (by decide)) (.int .i64 s4)))
  have Kg83 := Aside0.mk (show W82.heap[(w.heap.size + 1)]? = some (.cells #[.int .i64 v2, .slice A2 k2.length c2, .int .i64 r2] 33 (0, 0)) by rw [hW82]; exact (blk_far (p := ⟨w3.heap.size, 2, none⟩) (blk_far (p := ⟨w3.heap.size, 1, none⟩) (blk_far (p := ⟨w3.heap.size, 0, none⟩) Kg80.out (blk_ne Kg80.out Ka80.out (by decide)) (.int .i64 u4)) (blk_ne (blk_far (p := ⟨w3.heap.size, 0, none⟩) Kg80.out (blk_ne Kg80.out Ka80.out (by decide)) (.int .i64 u4)) (blk_put (cs := #[.int .i64 u3, .slice Aa3 a3.length ca3, .int .i64 s3]) Ka80.out 0 (.int .i64 u4) rfl) (by decide)) (.slice Aa4 a4.length ca4)) (blk_ne (blk_far (p := ⟨w3.heap.size, 1, none⟩) (blk_far (p := ⟨w3.heap.size, 0, none⟩) Kg80.out (blk_ne Kg80.out Ka80.out (by decide)) (.int .i64 u4)) (blk_ne (blk_far (p := ⟨w3.heap.size, 0, none⟩) Kg80.out (blk_ne Kg80.out Ka80.out (by decide)) (.int .i64 u4)) (blk_put (cs := #[.int .i64 u3, .slice Aa3 a3.length ca3, .int .i64 s3]) Ka80.out 0 (.int .i64 u4) rfl) (by decide)) (.slice Aa4 a4.length ca4)) (blk_put (cs := #[.int .i64 u4, .slice Aa3 a3.length ca3, .int .i64 s3]) (blk_put (cs := #[.int .i64 u3, .slice Aa3 a3.length ca3, .int .i64 s3]) Ka80.out 0 (.int .i64 u4) rfl) 1 (.slice Aa4 a4.length ca4) rfl) (by decide)) (.int .i64 s4)))
  have Kh83 := Aside0.mk (show W82.heap[(w.heap.size + 2)]? = some (.cells #[.int .i64 v3, .slice A3 k3.length c3, .int .i64 r3] 33 (0, 0)) by rw [hW82]; exact (blk_far (p := ⟨w3.heap.size, 2, none⟩) (blk_far (p := ⟨w3.heap.size, 1, none⟩) (blk_far (p := ⟨w3.heap.size, 0, none⟩) Kh80.out (blk_ne Kh80.out Ka80.out (by decide)) (.int .i64 u4)) (blk_ne (blk_far (p := ⟨w3.heap.size, 0, none⟩) Kh80.out (blk_ne Kh80.out Ka80.out (by decide)) (.int .i64 u4)) (blk_put (cs := #[.int .i64 u3, .slice Aa3 a3.length ca3, .int .i64 s3]) Ka80.out 0 (.int .i64 u4) rfl) (by decide)) (.slice Aa4 a4.length ca4)) (blk_ne (blk_far (p := ⟨w3.heap.size, 1, none⟩) (blk_far (p := ⟨w3.heap.size, 0, none⟩) Kh80.out (blk_ne Kh80.out Ka80.out (by decide)) (.int .i64 u4)) (blk_ne (blk_far (p := ⟨w3.heap.size, 0, none⟩) Kh80.out (blk_ne Kh80.out Ka80.out (by decide)) (.int .i64 u4)) (blk_put (cs := #[.int .i64 u3, .slice Aa3 a3.length ca3, .int .i64 s3]) Ka80.out 0 (.int .i64 u4) rfl) (by decide)) (.slice Aa4 a4.length ca4)) (blk_put (cs := #[.int .i64 u4, .slice Aa3 a3.length ca3, .int .i64 s3]) (blk_put (cs := #[.int .i64 u3, .slice Aa3 a3.length ca3, .int .i64 s3]) Ka80.out 0 (.int .i64 u4) rfl) 1 (.slice Aa4 a4.length ca4) rfl) (by decide)) (.int .i64 s4)))
  have Ka83 := Aside0.mk (show W82.heap[w3.heap.size]? = some (.cells #[.int .i64 u4, .slice Aa4 a4.length ca4, .int .i64 s4] 28 (0, 0)) by rw [hW82]; exact (blk_put (cs := #[.int .i64 u4, .slice Aa4 a4.length ca4, .int .i64 s3]) (blk_put (cs := #[.int .i64 u4, .slice Aa3 a3.length ca3, .int .i64 s3]) (blk_put (cs := #[.int .i64 u3, .slice Aa3 a3.length ca3, .int .i64 s3]) Ka80.out 0 (.int .i64 u4) rfl) 1 (.slice Aa4 a4.length ca4) rfl) 2 (.int .i64 s4) rfl))
  have Kb83 := Aside0.mk (show W82.heap[w7.heap.size]? = some (.cells #[.int .i64 u3, .slice Ab3 b3.length cb3, .int .i64 s3] 33 (0, 0)) by rw [hW82]; exact (blk_far (p := ⟨w3.heap.size, 2, none⟩) (blk_far (p := ⟨w3.heap.size, 1, none⟩) (blk_far (p := ⟨w3.heap.size, 0, none⟩) Kb80.out (blk_ne Kb80.out Ka80.out (by decide)) (.int .i64 u4)) (blk_ne (blk_far (p := ⟨w3.heap.size, 0, none⟩) Kb80.out (blk_ne Kb80.out Ka80.out (by decide)) (.int .i64 u4)) (blk_put (cs := #[.int .i64 u3, .slice Aa3 a3.length ca3, .int .i64 s3]) Ka80.out 0 (.int .i64 u4) rfl) (by decide)) (.slice Aa4 a4.length ca4)) (blk_ne (blk_far (p := ⟨w3.heap.size, 1, none⟩) (blk_far (p := ⟨w3.heap.size, 0, none⟩) Kb80.out (blk_ne Kb80.out Ka80.out (by decide)) (.int .i64 u4)) (blk_ne (blk_far (p := ⟨w3.heap.size, 0, none⟩) Kb80.out (blk_ne Kb80.out Ka80.out (by decide)) (.int .i64 u4)) (blk_put (cs := #[.int .i64 u3, .slice Aa3 a3.length ca3, .int .i64 s3]) Ka80.out 0 (.int .i64 u4) rfl) (by decide)) (.slice Aa4 a4.length ca4)) (blk_put (cs := #[.int .i64 u4, .slice Aa3 a3.length ca3, .int .i64 s3]) (blk_put (cs := #[.int .i64 u3, .slice Aa3 a3.length ca3, .int .i64 s3]) Ka80.out 0 (.int .i64 u4) rfl) 1 (.slice Aa4 a4.length ca4) rfl) (by decide)) (.int .i64 s4)))
  have Ra483 := Aside0.mk (show k107.R 107 W82 w.heap.size (fun _ => True) (.slice Aa4 a4.length ca4) a4 by rw [hW82]; exact (Kd.R_set (Kd.R_set (Kd.R_set Ra479.out Ka80.out (by decide) 0 (.int .i64 u4)) (blk_put (cs := #[.int .i64 u3, .slice Aa3 a3.length ca3, .int .i64 s3]) Ka80.out 0 (.int .i64 u4) rfl) (by decide) 1 (.slice Aa4 a4.length ca4)) (blk_put (cs := #[.int .i64 u4, .slice Aa3 a3.length ca3, .int .i64 s3]) (blk_put (cs := #[.int .i64 u3, .slice Aa3 a3.length ca3, .int .i64 s3]) Ka80.out 0 (.int .i64 u4) rfl) 1 (.slice Aa4 a4.length ca4) rfl) (by decide) 2 (.int .i64 s4)))
  rw [← hW82]
  clear hW82
  have yf0_84 := (blk_cell Kf83.out 0).trans rfl
  have yf1_84 := (blk_cell Kf83.out 1).trans rfl
  have yf2_84 := (blk_cell Kf83.out 2).trans rfl
  have yg0_84 := (blk_cell Kg83.out 0).trans rfl
  have yg1_84 := (blk_cell Kg83.out 1).trans rfl
  have yg2_84 := (blk_cell Kg83.out 2).trans rfl
  have yh0_84 := (blk_cell Kh83.out 0).trans rfl
  have yh1_84 := (blk_cell Kh83.out 1).trans rfl
  have yh2_84 := (blk_cell Kh83.out 2).trans rfl
  go_wp2_with fail
  refine (cantingref02_Ite.calls fu v1 A1 c1 k1 r1 v2 A2 c2 k2 r2 v3 A3 c3 k3 r3 u4 b4 s4 e4 _ (Kd.C_below HCf.out HB83.out) hcf (Kd.C_below HCg.out HB83.out) hcg (Kd.C_below HCh.out HB83.out) hch HI.out.2.1).mono ?_
  rintro e w85 ⟨vb4_, rfl, hRb4, hb85⟩
  obtain ⟨Ab4, cb4, rfl, hcb4, _⟩ := Kd.R_reads hRb4
  have HS85 : Aside0 (w.heap.size + 3 ≤ w85.heap.size) := ⟨Nat.le_trans (show w.heap.size + 3 ≤ (W82).heap.size by have := HS83.out; first | exact this | (simp only [setCell_size, alloc_size]; omega)) hb85.size⟩
  have HB86 := Aside0.mk (below_then HB83.out (HB83.out).size hb85)
  have Kf86 := Aside0.mk (blk_below Kf83.out hb85)
  have Kg86 := Aside0.mk (blk_below Kg83.out hb85)
  have Kh86 := Aside0.mk (blk_below Kh83.out hb85)
  have Ka86 := Aside0.mk (blk_below Ka83.out hb85)
  have Kb86 := Aside0.mk (blk_below Kb83.out hb85)
  have Ra486 := Aside0.mk (Kd.R_below Ra483.out hb85)
  have Rb485 := Aside0.mk (Kd.R_lower hRb4 (HB83.out).size)
  clear hb85 hRb4
  clear yf0_84 yf1_84 yf2_84 yg0_84 yg1_84 yg2_84 yh0_84 yh1_84 yh2_84
  have yb0_87 := (blk_cell Kb86.out 0).trans rfl
  have yb1_87 := (blk_cell Kb86.out 1).trans rfl
  have yb2_87 := (blk_cell Kb86.out 2).trans rfl
  have z0 := blk_frozen Kb86.out 0
  have z1 := blk_frozen Kb86.out 1
  have z2 := blk_frozen Kb86.out 2
  have ya0_88 := (blk_cell (blk_far (p := ⟨w7.heap.size, 2, none⟩) (blk_far (p := ⟨w7.heap.size, 1, none⟩) (blk_far (p := ⟨w7.heap.size, 0, none⟩) Ka86.out (blk_ne Ka86.out Kb86.out (by decide)) (.int .i64 u4)) (blk_ne (blk_far (p := ⟨w7.heap.size, 0, none⟩) Ka86.out (blk_ne Ka86.out Kb86.out (by decide)) (.int .i64 u4)) (blk_put (cs := #[.int .i64 u3, .slice Ab3 b3.length cb3, .int .i64 s3]) Kb86.out 0 (.int .i64 u4) rfl) (by decide)) (.slice Ab4 b4.length cb4)) (blk_ne (blk_far (p := ⟨w7.heap.size, 1, none⟩) (blk_far (p := ⟨w7.heap.size, 0, none⟩) Ka86.out (blk_ne Ka86.out Kb86.out (by decide)) (.int .i64 u4)) (blk_ne (blk_far (p := ⟨w7.heap.size, 0, none⟩) Ka86.out (blk_ne Ka86.out Kb86.out (by decide)) (.int .i64 u4)) (blk_put (cs := #[.int .i64 u3, .slice Ab3 b3.length cb3, .int .i64 s3]) Kb86.out 0 (.int .i64 u4) rfl) (by decide)) (.slice Ab4 b4.length cb4)) (blk_put (cs := #[.int .i64 u4, .slice Ab3 b3.length cb3, .int .i64 s3]) (blk_put (cs := #[.int .i64 u3, .slice Ab3 b3.length cb3, .int .i64 s3]) Kb86.out 0 (.int .i64 u4) rfl) 1 (.slice Ab4 b4.length cb4) rfl) (by decide)) (.int .i64 s4)) 0).trans rfl
  have ya1_88 := (blk_cell (blk_far (p := ⟨w7.heap.size, 2, none⟩) (blk_far (p := ⟨w7.heap.size, 1, none⟩) (blk_far (p := ⟨w7.heap.size, 0, none⟩) Ka86.out (blk_ne Ka86.out Kb86.out (by decide)) (.int .i64 u4)) (blk_ne (blk_far (p := ⟨w7.heap.size, 0, none⟩) Ka86.out (blk_ne Ka86.out Kb86.out (by decide)) (.int .i64 u4)) (blk_put (cs := #[.int .i64 u3, .slice Ab3 b3.length cb3, .int .i64 s3]) Kb86.out 0 (.int .i64 u4) rfl) (by decide)) (.slice Ab4 b4.length cb4)) (blk_ne (blk_far (p := ⟨w7.heap.size, 1, none⟩) (blk_far (p := ⟨w7.heap.size, 0, none⟩) Ka86.out (blk_ne Ka86.out Kb86.out (by decide)) (.int .i64 u4)) (blk_ne (blk_far (p := ⟨w7.heap.size, 0, none⟩) Ka86.out (blk_ne Ka86.out Kb86.out (by decide)) (.int .i64 u4)) (blk_put (cs := #[.int .i64 u3, .slice Ab3 b3.length cb3, .int .i64 s3]) Kb86.out 0 (.int .i64 u4) rfl) (by decide)) (.slice Ab4 b4.length cb4)) (blk_put (cs := #[.int .i64 u4, .slice Ab3 b3.length cb3, .int .i64 s3]) (blk_put (cs := #[.int .i64 u3, .slice Ab3 b3.length cb3, .int .i64 s3]) Kb86.out 0 (.int .i64 u4) rfl) 1 (.slice Ab4 b4.length cb4) rfl) (by decide)) (.int .i64 s4)) 1).trans rfl
  have ya2_88 := (blk_cell (blk_far (p := ⟨w7.heap.size, 2, none⟩) (blk_far (p := ⟨w7.heap.size, 1, none⟩) (blk_far (p := ⟨w7.heap.size, 0, none⟩) Ka86.out (blk_ne Ka86.out Kb86.out (by decide)) (.int .i64 u4)) (blk_ne (blk_far (p := ⟨w7.heap.size, 0, none⟩) Ka86.out (blk_ne Ka86.out Kb86.out (by decide)) (.int .i64 u4)) (blk_put (cs := #[.int .i64 u3, .slice Ab3 b3.length cb3, .int .i64 s3]) Kb86.out 0 (.int .i64 u4) rfl) (by decide)) (.slice Ab4 b4.length cb4)) (blk_ne (blk_far (p := ⟨w7.heap.size, 1, none⟩) (blk_far (p := ⟨w7.heap.size, 0, none⟩) Ka86.out (blk_ne Ka86.out Kb86.out (by decide)) (.int .i64 u4)) (blk_ne (blk_far (p := ⟨w7.heap.size, 0, none⟩) Ka86.out (blk_ne Ka86.out Kb86.out (by decide)) (.int .i64 u4)) (blk_put (cs := #[.int .i64 u3, .slice Ab3 b3.length cb3, .int .i64 s3]) Kb86.out 0 (.int .i64 u4) rfl) (by decide)) (.slice Ab4 b4.length cb4)) (blk_put (cs := #[.int .i64 u4, .slice Ab3 b3.length cb3, .int .i64 s3]) (blk_put (cs := #[.int .i64 u3, .slice Ab3 b3.length cb3, .int .i64 s3]) Kb86.out 0 (.int .i64 u4) rfl) 1 (.slice Ab4 b4.length cb4) rfl) (by decide)) (.int .i64 s4)) 2).trans rfl
  have yb0_88 := (blk_cell (blk_put (cs := #[.int .i64 u4, .slice Ab4 b4.length cb4, .int .i64 s3]) (blk_put (cs := #[.int .i64 u4, .slice Ab3 b3.length cb3, .int .i64 s3]) (blk_put (cs := #[.int .i64 u3, .slice Ab3 b3.length cb3, .int .i64 s3]) Kb86.out 0 (.int .i64 u4) rfl) 1 (.slice Ab4 b4.length cb4) rfl) 2 (.int .i64 s4) rfl) 0).trans rfl
  have yb1_88 := (blk_cell (blk_put (cs := #[.int .i64 u4, .slice Ab4 b4.length cb4, .int .i64 s3]) (blk_put (cs := #[.int .i64 u4, .slice Ab3 b3.length cb3, .int .i64 s3]) (blk_put (cs := #[.int .i64 u3, .slice Ab3 b3.length cb3, .int .i64 s3]) Kb86.out 0 (.int .i64 u4) rfl) 1 (.slice Ab4 b4.length cb4) rfl) 2 (.int .i64 s4) rfl) 1).trans rfl
  have yb2_88 := (blk_cell (blk_put (cs := #[.int .i64 u4, .slice Ab4 b4.length cb4, .int .i64 s3]) (blk_put (cs := #[.int .i64 u4, .slice Ab3 b3.length cb3, .int .i64 s3]) (blk_put (cs := #[.int .i64 u3, .slice Ab3 b3.length cb3, .int .i64 s3]) Kb86.out 0 (.int .i64 u4) rfl) 1 (.slice Ab4 b4.length cb4) rfl) 2 (.int .i64 s4) rfl) 2).trans rfl
  go_wp2_with fail
  obtain ⟨W89, hW89⟩ : ∃ W, W = (((w85.setCell ⟨w7.heap.size, 0, none⟩ (.int .i64 u4)).setCell ⟨w7.heap.size, 1, none⟩ (.slice Ab4 b4.length cb4)).setCell ⟨w7.heap.size, 2, none⟩ (.int .i64 s4)) := ⟨_, rfl⟩
  have HB90 := Aside0.mk (show Below w.heap.size w W89 by rw [hW89]; exact (below_set (below_set (below_set HB86.out (show w.heap.size ≤ w7.heap.size by omega)) (show w.heap.size ≤ w7.heap.size by omega)) (show w.heap.size ≤ w7.heap.size by omega)))
  have HS90 : Aside0 (w.heap.size + 3 ≤ W89.heap.size) := ⟨by rw [hW89]; have := HS85.out; first | exact this | (simp only [setCell_size, alloc_size]; omega)⟩
  have Kf90 := Aside0.mk (show W89.heap[w.heap.size]? = some (.cells #[.int .i64 v1, .slice A1 k1.length c1, .int .i64 r1] 33 (0, 0)) by rw [hW89]; exact (blk_far (p := ⟨w7.heap.size, 2, none⟩) (blk_far (p := ⟨w7.heap.size, 1, none⟩) (blk_far (p := ⟨w7.heap.size, 0, none⟩) Kf86.out (show w.heap.size ≠ w7.heap.size by omega) (.int .i64 u4)) (show w.heap.size ≠ w7.heap.size by omega) (.slice Ab4 b4.length cb4)) (show w.heap.size ≠ w7.heap.size by omega) (.int .i64 s4)))
  have Kg90 := Aside0.mk (show W89.heap[(w.heap.size + 1)]? = some (.cells #[.int .i64 v2, .slice A2 k2.length c2, .int .i64 r2] 33 (0, 0)) by rw [hW89]; exact (blk_far (p := ⟨w7.heap.size, 2, none⟩) (blk_far (p := ⟨w7.heap.size, 1, none⟩) (blk_far (p := ⟨w7.heap.size, 0, none⟩) Kg86.out (show (w.heap.size + 1) ≠ w7.heap.size by omega) (.int .i64 u4)) (show (w.heap.size + 1) ≠ w7.heap.size by omega) (.slice Ab4 b4.length cb4)) (show (w.heap.size + 1) ≠ w7.heap.size by omega) (.int .i64 s4)))
  have Kh90 := Aside0.mk (show W89.heap[(w.heap.size + 2)]? = some (.cells #[.int .i64 v3, .slice A3 k3.length c3, .int .i64 r3] 33 (0, 0)) by rw [hW89]; exact (blk_far (p := ⟨w7.heap.size, 2, none⟩) (blk_far (p := ⟨w7.heap.size, 1, none⟩) (blk_far (p := ⟨w7.heap.size, 0, none⟩) Kh86.out (show (w.heap.size + 2) ≠ w7.heap.size by omega) (.int .i64 u4)) (show (w.heap.size + 2) ≠ w7.heap.size by omega) (.slice Ab4 b4.length cb4)) (show (w.heap.size + 2) ≠ w7.heap.size by omega) (.int .i64 s4)))
  have Ka90 := Aside0.mk (show W89.heap[w3.heap.size]? = some (.cells #[.int .i64 u4, .slice Aa4 a4.length ca4, .int .i64 s4] 28 (0, 0)) by rw [hW89]; exact (blk_far (p := ⟨w7.heap.size, 2, none⟩) (blk_far (p := ⟨w7.heap.size, 1, none⟩) (blk_far (p := ⟨w7.heap.size, 0, none⟩) Ka86.out (blk_ne Ka86.out Kb86.out (by decide)) (.int .i64 u4)) (blk_ne (blk_far (p := ⟨w7.heap.size, 0, none⟩) Ka86.out (blk_ne Ka86.out Kb86.out (by decide)) (.int .i64 u4)) (blk_put (cs := #[.int .i64 u3, .slice Ab3 b3.length cb3, .int .i64 s3]) Kb86.out 0 (.int .i64 u4) rfl) (by decide)) (.slice Ab4 b4.length cb4)) (blk_ne (blk_far (p := ⟨w7.heap.size, 1, none⟩) (blk_far (p := ⟨w7.heap.size, 0, none⟩) Ka86.out (blk_ne Ka86.out Kb86.out (by decide)) (.int .i64 u4)) (blk_ne (blk_far (p := ⟨w7.heap.size, 0, none⟩) Ka86.out (blk_ne Ka86.out Kb86.out (by decide)) (.int .i64 u4)) (blk_put (cs := #[.int .i64 u3, .slice Ab3 b3.length cb3, .int .i64 s3]) Kb86.out 0 (.int .i64 u4) rfl) (by decide)) (.slice Ab4 b4.length cb4)) (blk_put (cs := #[.int .i64 u4, .slice Ab3 b3.length cb3, .int .i64 s3]) (blk_put (cs := #[.int .i64 u3, .slice Ab3 b3.length cb3, .int .i64 s3]) Kb86.out 0 (.int .i64 u4) rfl) 1 (.slice Ab4 b4.length cb4) rfl) (by decide)) (.int .i64 s4)))
  have Kb90 := Aside0.mk (show W89.heap[w7.heap.size]? = some (.cells #[.int .i64 u4, .slice Ab4 b4.length cb4, .int .i64 s4] 33 (0, 0)) by rw [hW89]; exact (blk_put (cs := #[.int .i64 u4, .slice Ab4 b4.length cb4, .int .i64 s3]) (blk_put (cs := #[.int .i64 u4, .slice Ab3 b3.length cb3, .int .i64 s3]) (blk_put (cs := #[.int .i64 u3, .slice Ab3 b3.length cb3, .int .i64 s3]) Kb86.out 0 (.int .i64 u4) rfl) 1 (.slice Ab4 b4.length cb4) rfl) 2 (.int .i64 s4) rfl))
  have Ra490 := Aside0.mk (show k107.R 107 W89 w.heap.size (fun _ => True) (.slice Aa4 a4.length ca4) a4 by rw [hW89]; exact (Kd.R_set (Kd.R_set (Kd.R_set Ra486.out Kb86.out (by decide) 0 (.int .i64 u4)) (blk_put (cs := #[.int .i64 u3, .slice Ab3 b3.length cb3, .int .i64 s3]) Kb86.out 0 (.int .i64 u4) rfl) (by decide) 1 (.slice Ab4 b4.length cb4)) (blk_put (cs := #[.int .i64 u4, .slice Ab3 b3.length cb3, .int .i64 s3]) (blk_put (cs := #[.int .i64 u3, .slice Ab3 b3.length cb3, .int .i64 s3]) Kb86.out 0 (.int .i64 u4) rfl) 1 (.slice Ab4 b4.length cb4) rfl) (by decide) 2 (.int .i64 s4)))
  have Rb490 := Aside0.mk (show k106.R 106 W89 w.heap.size (fun _ => True) (.slice Ab4 b4.length cb4) b4 by rw [hW89]; exact (Kd.R_set (Kd.R_set (Kd.R_set Rb485.out Kb86.out (by decide) 0 (.int .i64 u4)) (blk_put (cs := #[.int .i64 u3, .slice Ab3 b3.length cb3, .int .i64 s3]) Kb86.out 0 (.int .i64 u4) rfl) (by decide) 1 (.slice Ab4 b4.length cb4)) (blk_put (cs := #[.int .i64 u4, .slice Ab3 b3.length cb3, .int .i64 s3]) (blk_put (cs := #[.int .i64 u3, .slice Ab3 b3.length cb3, .int .i64 s3]) Kb86.out 0 (.int .i64 u4) rfl) 1 (.slice Ab4 b4.length cb4) rfl) (by decide) 2 (.int .i64 s4)))
  rw [← hW89]
  clear hW89
  clear ya0_88 ya1_88 ya2_88 yb0_88 yb1_88 yb2_88 yb0_87 yb1_87 yb2_87 z0 z1 z2
  refine (cantinglaw02_is.calls fu u4 Aa4 ca4 a4 s4 e4 u4 Ab4 cb4 b4 s4 e4 true _ (Kd.R_reads' Ra490.out).2.2 (Kd.R_reads' Ra490.out).2.1 (Kd.R_reads' Rb490.out).2.2 (Kd.R_reads' Rb490.out).2.1 HI.out.2.2).mono ?_
  rintro e w91 ⟨rfl, hb91⟩
  have HS91 : Aside0 (w.heap.size + 3 ≤ w91.heap.size) := ⟨Nat.le_trans (show w.heap.size + 3 ≤ (W89).heap.size by have := HS90.out; first | exact this | (simp only [setCell_size, alloc_size]; omega)) hb91.size⟩
  have HB92 := Aside0.mk (below_then HB90.out (HB90.out).size hb91)
  have Kf92 := Aside0.mk (blk_below Kf90.out hb91)
  have Kg92 := Aside0.mk (blk_below Kg90.out hb91)
  have Kh92 := Aside0.mk (blk_below Kh90.out hb91)
  have Ka92 := Aside0.mk (blk_below Ka90.out hb91)
  have Kb92 := Aside0.mk (blk_below Kb90.out hb91)
  have Ra492 := Aside0.mk (Kd.R_below Ra490.out hb91)
  have Rb492 := Aside0.mk (Kd.R_below Rb490.out hb91)
  clear hb91
  go_wp2
  go_ret
  exact ⟨by rfl, HB92.out⟩
end Go.Proofs.Ytlplphgoldkoeaa.HTab
end

section
set_option linter.unusedVariables false
set_option linter.unusedSimpArgs false
namespace Go.Proofs.Ytlplphgoldkoeaa.HTab
open Go.RowKit Go.Proofs.YtlplphgoldkoeaaW.PrintWords Go.Proofs.YtlplphgoldkoeaaW.PrintLast Go.Proofs.YtlplphgoldkoeaaW.PrintMore Go.Proofs.Ytlplphgoldkoeaa.HMap Go.Proofs.Ytlplphgoldkoeaa.X
theorem combines_walk (v1 : Int) (A1 : Option Addr) (c1 : Nat) (k1 : List S106) (r1 v2 : Int) (A2 : Option Addr) (c2 : Nat) (k2 : List S106) (r2 v3 : Int) (A3 : Option Addr) (c3 : Nat) (k3 : List S106) (r3 : Int) (w : World) (hCf : Kd.C k106 w A1 k1.length k1) (hcf : k1.length ≤ c1) (h1 : k1.length < 10000000000000) (hCg : Kd.C k106 w A2 k2.length k2) (hcg : k2.length ≤ c2) (h2 : k2.length < 10000000000000) (hCh : Kd.C k106 w A3 k3.length k3) (hch : k3.length ≤ c3) (h3 : k3.length < 10000000000000) :
    Calls Try.prog 7 #[.agg #[.int .i64 v1, .slice A1 k1.length c1, .int .i64 r1], .agg #[.int .i64 v2, .slice A2 k2.length c2, .int .i64 r2], .agg #[.int .i64 v3, .slice A3 k3.length c3, .int .i64 r3]] w fun e w' => e = .returned (.bool true) ∧ Below w.heap.size w w' := by
  obtain ⟨u0, a0, s0, e0, p0, q0, n0⟩ := not_both v1 r1 k1 10000 (by omega)
  obtain ⟨u1, a1, s1, e1, p1, q1, n1⟩ := and_both v1 r1 k1 v2 r2 k2 10000 (by omega)
  obtain ⟨u2, a2, s2, e2, p2, q2, n2⟩ := or_both v1 r1 k1 v2 r2 k2 10000 (by omega)
  obtain ⟨u3, a3, s3, e3, p3, q3, n3⟩ := xor_both v1 r1 k1 v2 r2 k2 10000 (by omega)
  obtain ⟨u4, a4, s4, e4, p4, q4, n4⟩ := ite_both v1 r1 k1 v2 r2 k2 v3 r3 k3 10000 (by omega)
  exact combines_calls 10000 v1 v2 v3 r1 r2 r3 A1 A2 A3 c1 c2 c3 k1 k2 k3 w hCf hCg hCh hcf hcg hch (ofL k1) (ofL k2) (ofL k3) a0 a1 a2 a3 a4 _ _ _ _ _ u0 u1 u2 u3 u4 s0 s1 s2 s3 s4 e0 e1 e2 e3 e4
    (of_f k1 v1 r1 h1 10000 (by omega)) (of_f k2 v2 r2 h2 10000 (by omega)) (of_f k3 v3 r3 h3 10000 (by omega)) ⟨p0, q0, is_f a0 (by omega) u0 s0 e0 10000 (by omega)⟩ (awake_f 10000 (by omega))
    ⟨p1, q1, is_f a1 (by omega) u1 s1 e1 10000 (by omega)⟩ ⟨p2, q2, is_f a2 (by omega) u2 s2 e2 10000 (by omega)⟩ ⟨p3, q3, is_f a3 (by omega) u3 s3 e3 10000 (by omega)⟩ ⟨p4, q4, is_f a4 (by omega) u4 s4 e4 10000 (by omega)⟩
end Go.Proofs.Ytlplphgoldkoeaa.HTab
end

section
set_option linter.unusedVariables false
set_option linter.unusedSimpArgs false
namespace Go.Proofs.Ytlplphgoldkoeaa.maskCombines
open Go.ChangeShapes Go.WideShapes Go.ChangeAt Go.RowKit Go.Proofs.YtlplphgoldkoeaaW.PrintWords Go.Proofs.Ytlplphgoldkoeaa.HTab Go.Proofs.Ytlplphgoldkoeaa.X
open Go.ChangeMaps (open_string shut_string)
set_option linter.unusedVariables false
theorem own : ownKnob Try.prog.godebug = none := by kernel_rfl
theorem laidOut : laidOutB Try.prog = true := by kernel_rfl
set_option maxRecDepth 100000 in
theorem lifted (os : Os) (started : os.Started) (H : Type) (enc : TypeId × Value → H) :
    ReturnsInHanded {} Try.checked os 7 .any (Rows.maskCombinesSpec.pre6 enc Try.prog Try.f7 Rows.maskCombinesRow.domain false) (Rows.maskCombinesSpec.post enc Try.prog Try.f7 false true false false) := by
  refine returnsInHanded_of_change_sized (C := Try.checked) own started (by kernel_rfl) Try.func7
    (ChangeSpec.witness6 (enc := enc) (C := Try.checked) false ⟨#[], #[.agg #[.int .i64 0, .slice none 0 0, .int .i64 0], .agg #[.int .i64 0, .slice none 0 0, .int .i64 0], .agg #[.int .i64 0, .slice none 0 0, .int .i64 0]], []⟩ 8 (by kernel_rfl) (by kernel_rfl) (by kernel_rfl) (by kernel_rfl)) ?_
  intro W base args ds gs before hval0 hW hcnd hsz0 _
  have hsz : (DataW.weightsEach Try.prog (Try.f7.params.toList ++ Rows.maskCombinesSpec.plain.varTypes Try.prog) (ds ++ gs)).all (· ≤ reachBytes) = true := hsz0
  have hval : ∀ (j : Nat) t v, Try.f7.params[j]? = some t → args[j]? = some v → Value.okWide Try.prog W .any base t v := hval0
  have hW' := hW
  obtain ⟨p, q, hA0, hV, rfl, hfz, hnd⟩ := hW
  have hA : DataW.TrodAll enc Try.prog W 0 (fun _ => true) true Try.f7.params.toList args.toList ds p := hA0
  rw [Try.params7] at hA hval hsz
  obtain ⟨v0, vs0, d0, ds0, p0, q0, hargs, rfl, rfl, h0, r0⟩ := trodAll_cons hA
  obtain ⟨v1, vs1, d1, ds1, p1, q1, rfl, rfl, rfl, h1, r1⟩ := trodAll_cons r0
  obtain ⟨v2, vs2, d2, ds2, p2, q2, rfl, rfl, rfl, h2, r2⟩ := trodAll_cons r1
  obtain ⟨rfl, rfl, rfl⟩ := trodAll_nil r2
  obtain rfl : args = #[v0, v1, v2] := by cases args; simp_all
  obtain ⟨rfl, rfl⟩ := trodVars_none hV
  have k0 := h0
  have lt0 : ∀ x ∈ p0, x.block < W.heap.size := by obtain ⟨m, hm⟩ := k0; exact DataW.trod_lt m _ _ _ hm
  obtain ⟨n0, A0, c0, l0, r0_, rfl, C0, L0, B0, wn0, wr0⟩ := open_mask (hval 0 33 v0 rfl rfl) h0 hsz (j := 0) rfl rfl
  have k1 := h1
  have lt1 : ∀ x ∈ p1, x.block < W.heap.size := by obtain ⟨m, hm⟩ := k1; exact DataW.trod_lt m _ _ _ hm
  obtain ⟨n1, A1, c1, l1, r1_, rfl, C1, L1, B1, wn1, wr1⟩ := open_mask (hval 1 33 v1 rfl rfl) h1 hsz (j := 1) rfl rfl
  have k2 := h2
  have lt2 : ∀ x ∈ p2, x.block < W.heap.size := by obtain ⟨m, hm⟩ := k2; exact DataW.trod_lt m _ _ _ hm
  obtain ⟨n2, A2, c2, l2, r2_, rfl, C2, L2, B2, wn2, wr2⟩ := open_mask (hval 2 33 v2 rfl rfl) h2 hsz (j := 2) rfl rfl
  clear hA0 hval0 hsz0 hsz
  refine ((combines_walk n0 A0 c0 l0 r0_ n1 A1 c1 l1 r1_ n2 A2 c2 l2 r2_ W C0 L0 B0 C1 L1 B1 C2 L2 B2)).mono fun e W' ⟨he, bel⟩ => ?_
  subst he
  exact ⟨_, rfl, _, _, _, [], _, [], hW', trodAll_mk1 (shut_bool Try.underlying4 _), (trodAll_cons_mk (Below.trod laidOut (by kernel_rfl) (of_decide_eq_true (by kernel_rfl)) k0 bel lt0) (trodAll_cons_mk (Below.trod laidOut (by kernel_rfl) (of_decide_eq_true (by kernel_rfl)) k1 bel lt1) (trodAll_cons_mk (Below.trod laidOut (by kernel_rfl) (of_decide_eq_true (by kernel_rfl)) k2 bel lt2) trodAll_mk0))), rfl, bel.frame _, fun h => by cases h⟩
theorem over : Rows.maskCombinesRow.holds Try.pinned (OpenSpec.ofChange Rows.maskCombinesSpec) :=
  OpenClaim.holds_of_wide 7 Try.f7 rfl rfl rfl rfl rfl rfl rfl ⟨rfl, rfl, rfl, rfl, rfl⟩ rfl rfl rfl rfl rfl (by kernel_rfl) Try.func7 (by kernel_rfl)
    (of_decide_eq_true (by kernel_rfl)) (by unfold Func.isWrapper; first | (rw [if_pos (by decide +kernel)]; kernel_rfl) | (rw [if_neg (by decide +kernel)]; exact ⟨rfl, rfl⟩))
    (fun os started H enc _ => lifted os started H enc)
theorem proved : Rows.MaskCombinesSaid := over
end Go.Proofs.Ytlplphgoldkoeaa.maskCombines
namespace Go.Proofs.Ytlplphgoldkoeaa
theorem maskCombines_holds : Rows.MaskCombinesSaid := maskCombines.proved
end Go.Proofs.Ytlplphgoldkoeaa
#print axioms Go.Proofs.Ytlplphgoldkoeaa.maskCombines_holds
end
