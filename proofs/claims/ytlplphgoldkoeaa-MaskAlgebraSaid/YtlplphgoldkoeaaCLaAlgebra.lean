/- The law MaskAlgebra holds of the program, for every input that its statement lets in. -/
import Derived.Test.YtlplphgoldkoeaaBn
import Derived.ChangeArms
import Derived.Test.YtlplphgoldkoeaaBzf
import Derived.Test.YtlplphgoldkoeaaBzg
import Derived.Test.YtlplphgoldkoeaaBze
import Derived.Test.YtlplphgoldkoeaaBj
import Derived.Test.YtlplphgoldkoeaaBi
import Derived.Deep.DeepMust
import Derived.Test.YtlplphgoldkoeaaRows
import Derived.WalkKit
import Derived.ProofKit
import Derived.OpenShut
import Derived.ShutString
import Derived.ChangeOld
import Derived.Below
import Derived.SizedLaws
import Derived.Test.YtlplphgoldkoeaaBb
section
set_option linter.unusedVariables false
set_option linter.unusedSimpArgs false
namespace Go.Proofs.Ytlplphgoldkoeaa.HTab
open Go.ChangeShapes Go.WideShapes Go.ChangeAt Go.RowKit Go.Deep Go.Joins Go.Proofs.YtlplphgoldkoeaaW.PrintWords Go.Proofs.Ytlplphgoldkoeaa.X
set_option linter.unusedVariables false
section
variable {H : Type} {enc : TypeId × Value → H} {W : World} {r : Reach} {b0 base : Nat} {sp : Nat → Bool} {held : Bool} {v : Value} {d : DataW H} {ps : List MemPlace} {ts : List TypeId} {ds : List (DataW H)} {j : Nat}
end
end Go.Proofs.Ytlplphgoldkoeaa.HTab
end

section
set_option linter.unusedVariables false
set_option linter.unusedSimpArgs false
namespace Go.Proofs.Ytlplphgoldkoeaa.HTab
open Go.RowKit Go.Proofs.YtlplphgoldkoeaaW.PrintWords Go.Proofs.YtlplphgoldkoeaaW.PrintLast Go.Proofs.YtlplphgoldkoeaaW.PrintMore Go.Proofs.Ytlplphgoldkoeaa.HMap Go.Proofs.Ytlplphgoldkoeaa.X
set_option linter.unusedVariables false
set_option linter.unusedSimpArgs false
abbrev I : Bool := true
abbrev O : Bool := false
theorem ta_ {α : Type} (l : List α) (i : Nat) (a : α) : l.toArray.setIfInBounds i a = (l.set i a).toArray := by simp
theorem sz_ {α : Type} (x y : α) (l : List α) : (x :: l).set 0 y = y :: l := rfl
theorem ss_ {α : Type} (x y : α) (l : List α) (n : Nat) : (x :: l).set (n + 1) y = x :: l.set n y := rfl
structure AD (w W : World) (v1 r1 : Int) (A1 : Option Addr) (c1 : Nat) (k1 : List S106) (v2 r2 : Int) (A2 : Option Addr) (c2 : Nat) (k2 : List S106) (v3 r3 : Int) (A3 : Option Addr) (c3 : Nat) (k3 : List S106) : Prop where
  bel : Below w.heap.size w W
  kf : W.heap[w.heap.size]? = some (.cells #[.int .i64 v1, .slice A1 k1.length c1, .int .i64 r1] 33 (0, 0))
  kg : W.heap[w.heap.size + 1]? = some (.cells #[.int .i64 v2, .slice A2 k2.length c2, .int .i64 r2] 33 (0, 0))
  kh : W.heap[w.heap.size + 2]? = some (.cells #[.int .i64 v3, .slice A3 k3.length c3, .int .i64 r3] 33 (0, 0))
section
variable {w W W' : World} {v1 r1 : Int} {A1 : Option Addr} {c1 : Nat} {k1 : List S106} {v2 r2 : Int} {A2 : Option Addr} {c2 : Nat} {k2 : List S106} {v3 r3 : Int} {A3 : Option Addr} {c3 : Nat} {k3 : List S106}
theorem AD.below (h : AD w W v1 r1 A1 c1 k1 v2 r2 A2 c2 k2 v3 r3 A3 c3 k3) (hb : Below W.heap.size W W') : AD w W' v1 r1 A1 c1 k1 v2 r2 A2 c2 k2 v3 r3 A3 c3 k3 :=
  ⟨below_then h.bel h.bel.size hb, blk_below h.kf hb, blk_below h.kg hb, blk_below h.kh hb⟩
theorem AD.alloc (h : AD w W v1 r1 A1 c1 k1 v2 r2 A2 c2 k2 v3 r3 A3 c3 k3) (o : Obj) : AD w (W.alloc o) v1 r1 A1 c1 k1 v2 r2 A2 c2 k2 v3 r3 A3 c3 k3 := h.below (below_alloc (Below.refl _ _) o)
theorem AD.cells (h : AD w W v1 r1 A1 c1 k1 v2 r2 A2 c2 k2 v3 r3 A3 c3 k3) : W.cell? ⟨w.heap.size, 0, none⟩ = some (.int .i64 v1) ∧ W.cell? ⟨w.heap.size, 1, none⟩ = some (.slice A1 k1.length c1) ∧ W.cell? ⟨w.heap.size, 2, none⟩ = some (.int .i64 r1) ∧ W.cell? ⟨w.heap.size + 1, 0, none⟩ = some (.int .i64 v2) ∧ W.cell? ⟨w.heap.size + 1, 1, none⟩ = some (.slice A2 k2.length c2) ∧ W.cell? ⟨w.heap.size + 1, 2, none⟩ = some (.int .i64 r2) ∧ W.cell? ⟨w.heap.size + 2, 0, none⟩ = some (.int .i64 v3) ∧ W.cell? ⟨w.heap.size + 2, 1, none⟩ = some (.slice A3 k3.length c3) ∧ W.cell? ⟨w.heap.size + 2, 2, none⟩ = some (.int .i64 r3) :=
  ⟨(blk_cell h.kf 0).trans rfl, (blk_cell h.kf 1).trans rfl, (blk_cell h.kf 2).trans rfl, (blk_cell h.kg 0).trans rfl, (blk_cell h.kg 1).trans rfl, (blk_cell h.kg 2).trans rfl, (blk_cell h.kh 0).trans rfl, (blk_cell h.kh 1).trans rfl, (blk_cell h.kh 2).trans rfl⟩
theorem AD.sz (h : AD w W v1 r1 A1 c1 k1 v2 r2 A2 c2 k2 v3 r3 A3 c3 k3) : w.heap.size + 3 ≤ W.heap.size := blk_lt h.kh
end
def st3 (W : World) (b : Nat) (x y z : Value) : World := ((W.setCell ⟨b, 0, none⟩ x).setCell ⟨b, 1, none⟩ y).setCell ⟨b, 2, none⟩ z
section
variable {W : World} {b : Nat} {p q r : Value} {T : TypeId}
theorem st3_new (K : W.heap[b]? = some (.cells #[p, q, r] T (0, 0))) (x y z : Value) : (st3 W b x y z).heap[b]? = some (.cells #[x, y, z] T (0, 0)) :=
  blk_put (cs := #[x, y, r]) (blk_put (cs := #[x, q, r]) (blk_put (cs := #[p, q, r]) K 0 x rfl) 1 y rfl) 2 z rfl
theorem st3_far {b' : Nat} {t : TypeId} {cs : Array Value} (K : W.heap[b']? = some (.cells cs t (0, 0))) (h : b' ≠ b) (x y z : Value) : (st3 W b x y z).heap[b']? = some (.cells cs t (0, 0)) :=
  blk_far (p := ⟨b, 2, none⟩) (blk_far (p := ⟨b, 1, none⟩) (blk_far (p := ⟨b, 0, none⟩) K h x) h y) h z
theorem st3_R {β : Type} {d : Kd β} {e base : Nat} {ok : Nat → Prop} {v : Value} {xs : List β} (h : d.R e W base ok v xs) (K : W.heap[b]? = some (.cells #[p, q, r] T (0, 0))) (ht : ∀ k, k ∈ e :: d.E → k ≠ T) (x y z : Value) : d.R e (st3 W b x y z) base ok v xs :=
  Kd.R_set (Kd.R_set (Kd.R_set h K ht 0 x) (blk_put (cs := #[p, q, r]) K 0 x rfl) ht 1 y) (blk_put (cs := #[x, q, r]) (blk_put (cs := #[p, q, r]) K 0 x rfl) 1 y rfl) ht 2 z
theorem st3_below {w : World} (h : Below w.heap.size w W) (hg : w.heap.size ≤ b) (x y z : Value) : Below w.heap.size w (st3 W b x y z) := below_set (below_set (below_set h hg) hg) hg
end
theorem AD.st3 {w W : World} {v1 r1 : Int} {A1 : Option Addr} {c1 : Nat} {k1 : List S106} {v2 r2 : Int} {A2 : Option Addr} {c2 : Nat} {k2 : List S106} {v3 r3 : Int} {A3 : Option Addr} {c3 : Nat} {k3 : List S106} {b : Nat}
    (h : AD w W v1 r1 A1 c1 k1 v2 r2 A2 c2 k2 v3 r3 A3 c3 k3) (hb : w.heap.size + 3 ≤ b) (x y z : Value) : AD w (st3 W b x y z) v1 r1 A1 c1 k1 v2 r2 A2 c2 k2 v3 r3 A3 c3 k3 :=
  ⟨st3_below h.bel (by omega) x y z, st3_far h.kf (by omega) x y z, st3_far h.kg (by omega) x y z, st3_far h.kh (by omega) x y z⟩
structure AlgOK (fu : Nat) (v j r1 r2 r3 : Int) (k1 : List S106) (o1 o2 o3 it n0 m0 ab ba nc oo bc le ac ri nb nn dm no ze va on of ag : List S107) (mw abw baw ow itw lew riw dmw now zew agw : List S106) (sit sn0 sm0 sab sba snc soo sbc sle sac sri snb snn sdm sno sze sva son sof sag : Int) : Prop where
  h_ite : mask_Ite.f v o1 r1 v o2 r2 v o3 r3 = some (v, it, sit, 0)
  h_n : mask_Not.f v o1 r1 = some (v, n0, sn0, 0)
  h_m : mask_Not.f v n0 sn0 = some (v, m0, sm0, 0)
  h_ab : mask_And.f v o1 r1 v o2 r2 = some (v, ab, sab, 0)
  h_ba : mask_And.f v o2 r2 v o1 r1 = some (v, ba, sba, 0)
  h_nc : mask_And.f v n0 sn0 v o3 r3 = some (v, nc, snc, 0)
  h_oo : mask_Or.f v ab sab v nc snc = some (v, oo, soo, 0)
  h_bc : mask_Or.f v o2 r2 v o3 r3 = some (v, bc, sbc, 0)
  h_le : mask_And.f v o1 r1 v bc sbc = some (v, le, sle, 0)
  h_ac : mask_And.f v o1 r1 v o3 r3 = some (v, ac, sac, 0)
  h_ri : mask_Or.f v ab sab v ac sac = some (v, ri, sri, 0)
  h_nb : mask_Not.f v o2 r2 = some (v, nb, snb, 0)
  h_nn : mask_Or.f v n0 sn0 v nb snb = some (v, nn, snn, 0)
  h_dm : mask_Not.f v nn snn = some (v, dm, sdm, 0)
  h_no : mask_And.f v o1 r1 v n0 sn0 = some (v, no, sno, 0)
  h_ze : mask_Const.f v false = some (v, ze, sze, 0)
  w_mw : cantinglaw02_own.f fu v m0 sm0 = some (v, mw, sm0)
  w_abw : cantinglaw02_own.f fu v ab sab = some (v, abw, sab)
  w_baw : cantinglaw02_own.f fu v ba sba = some (v, baw, sba)
  w_ow : cantinglaw02_own.f fu v oo soo = some (v, ow, soo)
  w_itw : cantinglaw02_own.f fu v it sit = some (v, itw, sit)
  w_lew : cantinglaw02_own.f fu v le sle = some (v, lew, sle)
  w_riw : cantinglaw02_own.f fu v ri sri = some (v, riw, sri)
  w_dmw : cantinglaw02_own.f fu v dm sdm = some (v, dmw, sdm)
  w_now : cantinglaw02_own.f fu v no sno = some (v, now, sno)
  w_zew : cantinglaw02_own.f fu v ze sze = some (v, zew, sze)
  s1 : cantingref02_Same.f fu v mw sm0 v k1 r1 = some true
  s2 : cantingref02_Same.f fu v abw sab v baw sba = some true
  s3 : cantingref02_Same.f fu v ow soo v itw sit = some true
  s4 : cantingref02_Same.f fu v lew sle v riw sri = some true
  s5 : cantingref02_Same.f fu v dmw sdm v abw sab = some true
  s6 : cantingref02_Same.f fu v now sno v zew sze = some true
  wz : v ≠ 0 → ¬ (IntKind.u64.wrap v = 0)
  h_va : v ≠ 0 → mask_Var.f v j = some (v, va, sva, 0)
  h_on : v ≠ 0 → mask_Restrict.f v o1 r1 j true = some (v, on, son, 0)
  h_of : v ≠ 0 → mask_Restrict.f v o1 r1 j false = some (v, of, sof, 0)
  h_ag : v ≠ 0 → mask_Ite.f v va sva v on son v of sof = some (v, ag, sag, 0)
  w_agw : v ≠ 0 → cantinglaw02_own.f fu v ag sag = some (v, agw, sag)
  s7 : v ≠ 0 → cantingref02_Same.f fu v agw sag v k1 r1 = some true
def tb_MaskAlgebra_1.T : Bool × List (List Nat × List Nat) := (true, [([], []), ([0], [0]), ([], []), ([2, 1], [2]), ([], []), ([4, 3], [4]), ([], []), ([], []), ([], []), ([6, 1, 5, 0, 1, 6, 7, 8], [1, 6]), ([7, 3, 9, 0, 1, 2, 3, 6, 7, 8, 9], [3, 7]), ([8, 5, 10, 0, 1, 2, 3, 4, 5, 6, 7, 8, 9, 10], [5, 8])])
def tb_MaskAlgebra_1.B : List Nat := [0, 1, 0, 7, 0, 31, 0, 0, 0, 511, 1023, 2047]
theorem tb_MaskAlgebra_1.tab : rtab .any (opsOf Try.f12 1) = tb_MaskAlgebra_1.T := by kernel_rfl
theorem tb_MaskAlgebra_1.bits : waitsOk tb_MaskAlgebra_1.T.2 tb_MaskAlgebra_1.B = true := by kernel_rfl
def tb_MaskAlgebra_11.T : Bool × List (List Nat × List Nat) := (true, [([], []), ([0], [0]), ([1], [1]), ([2], [2]), ([3, 2], [2, 3]), ([2, 4], [2, 4]), ([5, 2], [5]), ([6], [6]), ([7, 6], [6, 7]), ([6, 8], [6, 8]), ([9, 6], [9]), ([10], [10]), ([11, 10], [10, 11]), ([10, 12], [10, 12]), ([13, 10], [13]), ([14], [14]), ([15, 14], [14, 15]), ([14, 16], [14, 16]), ([17, 14], [17]), ([18], [18]), ([19, 18], [18, 19]), ([18, 20], [18, 20]), ([21, 18], [21]), ([22], [22]), ([23, 22, 22], [22, 23]), ([22], [22]), ([24, 25, 24, 22], [22, 24, 25]), ([26, 22], [22, 26]), ([22, 27], [22, 27]), ([28, 26], [28]), ([29], [29]), ([30, 29, 29], [29, 30]), ([29], [29]), ([32, 31, 29], [29, 32]), ([31, 33, 33, 29], [29, 31, 33]), ([34, 29], [29, 34]), ([29, 35], [29, 35]), ([36, 34], [36]), ([37], [37]), ([38, 37, 37], [37, 38]), ([37], [37]), ([40, 39, 37], [37, 40]), ([39, 41, 41, 37], [37, 39, 41]), ([42, 37], [37, 42]), ([37, 43], [37, 43])])
def tb_MaskAlgebra_11.B : List Nat := [0, 1, 3, 7, 15, 31, 63, 127, 255, 511, 1023, 2047, 4095, 8191, 16383, 32767, 65535, 131071, 262143, 524287, 1048575, 2097151, 4194303, 8388607, 16777215, 8388607, 67108863, 134217727, 268435455, 536870911, 1073741823, 2147483647, 1073741823, 8589934591, 17179869183, 34359738367, 68719476735, 137438953471, 274877906943, 549755813887, 274877906943, 2199023255551, 4398046511103, 8796093022207, 17592186044415]
theorem tb_MaskAlgebra_11.tab : rtab .any (opsOf Try.f12 11) = tb_MaskAlgebra_11.T := by kernel_rfl
theorem tb_MaskAlgebra_11.bits : waitsOk tb_MaskAlgebra_11.T.2 tb_MaskAlgebra_11.B = true := by kernel_rfl
def tb_MaskAlgebra_22.T : Bool × List (List Nat × List Nat) := (true, [([], []), ([0], [0]), ([1], [1]), ([2], [2]), ([3, 2], [2, 3]), ([2, 4], [2, 4]), ([5, 2], [5]), ([6], [6]), ([7, 6], [6, 7]), ([6, 8], [6, 8]), ([9, 6], [9]), ([10], [10]), ([11, 10], [10, 11]), ([10, 12], [10, 12]), ([13, 10], [13]), ([14], [14]), ([15, 14], [14, 15]), ([14, 16], [14, 16]), ([17, 14], [17]), ([18], [18]), ([19, 18], [18, 19]), ([18, 20], [18, 20]), ([21, 18], [21]), ([22], [22]), ([23, 22], [22, 23]), ([22, 24], [22, 24]), ([25, 22], [25]), ([26], [26]), ([27, 26], [26, 27]), ([26, 28], [26, 28]), ([29, 26], [29]), ([30], [30]), ([31, 30], [30, 31]), ([30, 32], [30, 32]), ([33, 30], [33]), ([34], [34]), ([35, 34, 34], [34, 35]), ([34], [34]), ([37, 36, 34], [34, 37]), ([36, 38, 38, 34], [34, 36, 38]), ([39, 34], [34, 39]), ([34, 40], [34, 40]), ([41, 39], [41]), ([42], [42]), ([43, 42, 42], [42, 43]), ([42], [42]), ([45, 44, 42], [42, 45]), ([44, 46, 46, 42], [42, 44, 46]), ([47, 42], [42, 47]), ([42, 48], [42, 48]), ([49, 47], [49]), ([50], [50]), ([51, 50, 50], [50, 51]), ([50], [50]), ([53, 52, 50], [50, 53]), ([52, 54, 54, 50], [50, 52, 54]), ([55, 50], [50, 55]), ([50, 56], [50, 56])])
def tb_MaskAlgebra_22.B : List Nat := [0, 1, 3, 7, 15, 31, 63, 127, 255, 511, 1023, 2047, 4095, 8191, 16383, 32767, 65535, 131071, 262143, 524287, 1048575, 2097151, 4194303, 8388607, 16777215, 33554431, 67108863, 134217727, 268435455, 536870911, 1073741823, 2147483647, 4294967295, 8589934591, 17179869183, 34359738367, 68719476735, 34359738367, 274877906943, 549755813887, 1099511627775, 2199023255551, 4398046511103, 8796093022207, 17592186044415, 8796093022207, 70368744177663, 140737488355327, 281474976710655, 562949953421311, 1125899906842623, 2251799813685247, 4503599627370495, 2251799813685247, 18014398509481983, 36028797018963967, 72057594037927935, 144115188075855871]
theorem tb_MaskAlgebra_22.tab : rtab .any (opsOf Try.f12 22) = tb_MaskAlgebra_22.T := by kernel_rfl
theorem tb_MaskAlgebra_22.bits : waitsOk tb_MaskAlgebra_22.T.2 tb_MaskAlgebra_22.B = true := by kernel_rfl
def tb_MaskAlgebra_31.T : Bool × List (List Nat × List Nat) := (true, [([], []), ([0], [0]), ([1], [1]), ([2], [2]), ([3, 2], [2, 3]), ([2, 4], [2, 4]), ([5, 2], [5]), ([6], [6]), ([7, 6], [6, 7]), ([6, 8], [6, 8]), ([9, 6], [9]), ([10], [10]), ([11, 10], [10, 11]), ([10, 12], [10, 12]), ([13, 10], [13]), ([14], [14]), ([15, 14, 14], [14, 15]), ([14], [14]), ([16, 17, 16, 14], [14, 16, 17]), ([14, 18], [14, 18]), ([19, 18], [19]), ([20, 20], [20]), ([20, 21], [20, 21]), ([22, 21, 0, 1, 2, 3, 4, 5, 6, 7, 8, 9, 10, 11, 12, 13, 14, 15, 16, 17, 18, 19, 20, 21, 22], [22])])
def tb_MaskAlgebra_31.B : List Nat := [0, 1, 3, 7, 15, 31, 63, 127, 255, 511, 1023, 2047, 4095, 8191, 16383, 32767, 65535, 32767, 262143, 524287, 1048575, 2097151, 4194303, 8388607]
theorem tb_MaskAlgebra_31.tab : rtab .any (opsOf Try.f12 31) = tb_MaskAlgebra_31.T := by kernel_rfl
theorem tb_MaskAlgebra_31.bits : waitsOk tb_MaskAlgebra_31.T.2 tb_MaskAlgebra_31.B = true := by kernel_rfl
set_option maxRecDepth 100000 in
set_option maxHeartbeats 32000000 in
theorem algebra_calls (fu : Nat) (v1 v2 v3 r1 r2 r3 : Int) (A1 A2 A3 : Option Addr) (c1 c2 c3 : Nat) (k1 k2 k3 : List S106) (w : World) (hCf : Kd.C k106 w A1 k1.length k1) (hCg : Kd.C k106 w A2 k2.length k2) (hCh : Kd.C k106 w A3 k3.length k3) (hcf : k1.length ≤ c1) (hcg : k2.length ≤ c2) (hch : k3.length ≤ c3) (i : Int)
    (j : Int) (o1 o2 o3 it n0 m0 ab ba nc oo bc le ac ri nb nn dm no ze va on of ag : List S107) (mw abw baw ow itw lew riw dmw now zew agw : List S106) (sit sn0 sm0 sab sba snc soo sbc sle sac sri snb snn sdm sno sze sva son sof sag : Int)
     (ho1 : cantinglaw02_of.f fu v1 k1 r1 = some (v1, o1, r1)) (ho2 : cantinglaw02_of.f fu v2 k2 r2 = some (v2, o2, r2)) (ho3 : cantinglaw02_of.f fu v3 k3 r3 = some (v3, o3, r3)) (haw : cantinglaw02_awake.f fu = some true) (hj : wrap64 (Int.tmod (IntKind.u64.wrap i) (IntKind.u64.wrap v1)) = j)
    (hok : mask_Ite.f v1 o1 r1 v2 o2 r2 v3 o3 r3 = some (0, [], 0, 2) ∨ (v2 = v1 ∧ v3 = v1 ∧ AlgOK fu v1 j r1 r2 r3 k1 o1 o2 o3 it n0 m0 ab ba nc oo bc le ac ri nb nn dm no ze va on of ag mw abw baw ow itw lew riw dmw now zew agw sit sn0 sm0 sab sba snc soo sbc sle sac sri snb snn sdm sno sze sva son sof sag)) :
    Calls Try.prog 12 #[.agg #[.int .i64 v1, .slice A1 k1.length c1, .int .i64 r1], .agg #[.int .i64 v2, .slice A2 k2.length c2, .int .i64 r2], .agg #[.int .i64 v3, .slice A3 k3.length c3, .int .i64 r3], .int .i64 i] w fun e w' => e = .returned (.bool true) ∧ Below w.heap.size w w' := by
  have HCf := Aside0.mk hCf
  have HCg := Aside0.mk hCg
  have HCh := Aside0.mk hCh
  have HO1 := Aside0.mk ho1
  have HO2 := Aside0.mk ho2
  have HO3 := Aside0.mk ho3
  have hu1 := Try.underlying28
  have hu2 := Try.underlying33
  have HAW := Aside0.mk haw
  have HOK := Aside0.mk hok
  have HJ := Aside0.mk hj
  clear hCf hCg hCh ho1 ho2 ho3 haw hok hj
  obtain ⟨W0, hW0⟩ : ∃ W, W = ((w.alloc (.cells #[.int .i64 v1, .slice A1 k1.length c1, .int .i64 r1] 33)).alloc (.cells #[.int .i64 v2, .slice A2 k2.length c2, .int .i64 r2] 33)).alloc (.cells #[.int .i64 v3, .slice A3 k3.length c3, .int .i64 r3] 33) := ⟨_, rfl⟩
  have D0 := Aside0.mk (show AD w W0 v1 r1 A1 c1 k1 v2 r2 A2 c2 k2 v3 r3 A3 c3 k3 from by
    rw [hW0]
    refine ⟨below_alloc (below_alloc (below_alloc (Below.refl _ _) _) _) _, blk_alloc (blk_alloc (blk_new _ _) _) _, blk_alloc ?_ _, ?_⟩
    · simpa using blk_new (w.alloc (.cells #[.int .i64 v1, .slice A1 k1.length c1, .int .i64 r1] 33)) (.cells #[.int .i64 v2, .slice A2 k2.length c2, .int .i64 r2] 33)
    · simpa using blk_new ((w.alloc (.cells #[.int .i64 v1, .slice A1 k1.length c1, .int .i64 r1] 33)).alloc (.cells #[.int .i64 v2, .slice A2 k2.length c2, .int .i64 r2] 33)) (.cells #[.int .i64 v3, .slice A3 k3.length c3, .int .i64 r3] 33))
  go_enter Try.func12, Try.ntmps12
  go_wp2
  rw [← hW0]
  clear hW0
  refine start_ (n := 12) (S := fun w' => (w'.cell? ⟨w.heap.size, 0, none⟩ = some (.int .i64 v1)) ∧ (w'.cell? ⟨w.heap.size, 1, none⟩ = some (.slice A1 k1.length c1)) ∧ (w'.cell? ⟨w.heap.size, 2, none⟩ = some (.int .i64 r1)) ∧ (w'.cell? ⟨w.heap.size + 1, 0, none⟩ = some (.int .i64 v2)) ∧ (w'.cell? ⟨w.heap.size + 1, 1, none⟩ = some (.slice A2 k2.length c2)) ∧ (w'.cell? ⟨w.heap.size + 1, 2, none⟩ = some (.int .i64 r2)) ∧ (w'.cell? ⟨w.heap.size + 2, 0, none⟩ = some (.int .i64 v3)) ∧ (w'.cell? ⟨w.heap.size + 2, 1, none⟩ = some (.slice A3 k3.length c3)) ∧ (w'.cell? ⟨w.heap.size + 2, 2, none⟩ = some (.int .i64 r3))) (ds := [9, 10, 11]) #[O, O, O, O, O, O, O, O, O, O, O, O] (by kernel_rfl) rfl rfl D0.out.cells (fun hHeld => ?_)
  refine with_tabW tb_MaskAlgebra_1.tab tb_MaskAlgebra_1.bits (fun HT_ HW_ => ?_)
  refine take_ (i := 0) (N := some 42) (v := ?_) (a' := ?_) #[I, O, O, O, O, O, O, O, O, O, O, O] rfl rfl (take_ofW HT_.out HW_.out (by kernel_rfl)) (fun _ _ _ h => h) (Or.inl ⟨by rfl, ?_⟩) hHeld ?_ ?_
  rotate_left
  · rintro w' ⟨s0, s1, s2, s3, s4, s5, s6, s7, s8⟩
    go_simp
    with_reducible rfl
  rotate_left
  · simp only [Act.put, ta_, sz_, ss_, i64_w, i32_w]
    rfl
  refine take_ (i := 2) (N := some 44) (v := ?_) (a' := ?_) #[I, O, I, O, O, O, O, O, O, O, O, O] rfl rfl (take_ofW HT_.out HW_.out (by kernel_rfl)) (fun _ _ _ h => h) (Or.inl ⟨by rfl, ?_⟩) hHeld ?_ ?_
  rotate_left
  · rintro w' ⟨s0, s1, s2, s3, s4, s5, s6, s7, s8⟩
    go_simp
    with_reducible rfl
  rotate_left
  · simp only [Act.put, ta_, sz_, ss_, i64_w, i32_w]
    rfl
  refine take_ (i := 4) (N := some 46) (v := ?_) (a' := ?_) #[I, O, I, O, I, O, O, O, O, O, O, O] rfl rfl (take_ofW HT_.out HW_.out (by kernel_rfl)) (fun _ _ _ h => h) (Or.inl ⟨by rfl, ?_⟩) hHeld ?_ ?_
  rotate_left
  · rintro w' ⟨s0, s1, s2, s3, s4, s5, s6, s7, s8⟩
    go_simp
    with_reducible rfl
  rotate_left
  · simp only [Act.put, ta_, sz_, ss_, i64_w, i32_w]
    rfl
  refine join_ (σ := (Option Addr × Nat) × (Option Addr × Nat) × (Option Addr × Nat) × Nat × Nat × Nat) 3 #[I, I, I, I, I, I, I, I, I, O, O, O] (fun s => [(43, .agg #[.int .i64 v1, .slice s.1.1 o1.length s.1.2, .int .i64 r1]), (45, .agg #[.int .i64 v2, .slice s.2.1.1 o2.length s.2.1.2, .int .i64 r2]), (47, .agg #[.int .i64 v3, .slice s.2.2.1.1 o3.length s.2.2.1.2, .int .i64 r3]), (9, .pointer (some ⟨s.2.2.2.1, 0, none⟩)), (10, .pointer (some ⟨s.2.2.2.2.1, 0, none⟩)), (11, .pointer (some ⟨s.2.2.2.2.2, 0, none⟩))]) (fun s w' => (AD w w' v1 r1 A1 c1 k1 v2 r2 A2 c2 k2 v3 r3 A3 c3 k3) ∧ (Kd.R k107 107 w' w.heap.size (fun _ => True) (.slice s.1.1 o1.length s.1.2) o1) ∧ (Kd.R k107 107 w' w.heap.size (fun _ => True) (.slice s.2.1.1 o2.length s.2.1.2) o2) ∧ (Kd.R k107 107 w' w.heap.size (fun _ => True) (.slice s.2.2.1.1 o3.length s.2.2.1.2) o3) ∧ (w'.heap[s.2.2.2.1]? = some (.cells #[.int .i64 0, .slice none 0 0, .int .i64 0] 28 (0, 0)) ∧ w.heap.size + 3 ≤ s.2.2.2.1) ∧ (w'.heap[s.2.2.2.2.1]? = some (.cells #[.int .i64 0, .slice none 0 0, .int .i64 0] 28 (0, 0)) ∧ w.heap.size + 3 ≤ s.2.2.2.2.1) ∧ (w'.heap[s.2.2.2.2.2]? = some (.cells #[.int .i64 0, .slice none 0 0, .int .i64 0] 28 (0, 0)) ∧ w.heap.size + 3 ≤ s.2.2.2.2.2) ∧ (s.2.2.2.1 ≠ s.2.2.2.2.1) ∧ (s.2.2.2.1 ≠ s.2.2.2.2.2) ∧ (s.2.2.2.2.1 ≠ s.2.2.2.2.2)) ?_ (fun h3_678 => ?_)
  · rintro ⟨⟨Ao1, co1⟩, ⟨Ao2, co2⟩, ⟨Ao3, co3⟩, b6, b7, b8⟩ w' hF
    dsimp only at hF
    obtain ⟨D, R1, R2, R3, ⟨B6, G6⟩, ⟨B7, G7⟩, ⟨B8, G8⟩, N67, N68, N78⟩ := hF
    refine norm_ (a' := ?_) ?_ ?_
    rotate_left
    · simp only [putAll, Act.put, ta_, sz_, ss_, i64_w, i32_w]
      rfl
    have q0 := (blk_cell B6 0).trans rfl
    have f0 := blk_frozen B6 0
    have q1 := (blk_cell B6 1).trans rfl
    have f1 := blk_frozen B6 1
    have q2 := (blk_cell B6 2).trans rfl
    have f2 := blk_frozen B6 2
    refine last_ (i := 9) (N := none) #[I, I, I, I, I, I, I, I, I, I, O, O] rfl rfl (one_of HT_.out (by kernel_rfl)) (by decide) (fun K hK => ?_)
    refine skip_ (w1 := ?_) (by rfl) rfl ?_ ?_
    rotate_left
    · go_simp
      rfl
    refine hK.out _ _ ?_
    clear hK K q0 q1 q2 f0 f1 f2
    refine norm_ (a' := ?_) ?_ ?_
    rotate_left
    · rfl
    obtain ⟨u6, hu6⟩ : ∃ W, W = (st3 w' b6 (.int .i64 v1) (.slice Ao1 o1.length co1) (.int .i64 r1)) := ⟨_, rfl⟩
    replace D := show AD w u6 v1 r1 A1 c1 k1 v2 r2 A2 c2 k2 v3 r3 A3 c3 k3 from by rw [hu6]; exact AD.st3 D G6 _ _ _
    replace R1 := show Kd.R k107 107 u6 w.heap.size (fun _ => True) (.slice Ao1 o1.length co1) o1 from by rw [hu6]; exact st3_R R1 B6 (by decide) _ _ _
    replace R2 := show Kd.R k107 107 u6 w.heap.size (fun _ => True) (.slice Ao2 o2.length co2) o2 from by rw [hu6]; exact st3_R R2 B6 (by decide) _ _ _
    replace R3 := show Kd.R k107 107 u6 w.heap.size (fun _ => True) (.slice Ao3 o3.length co3) o3 from by rw [hu6]; exact st3_R R3 B6 (by decide) _ _ _
    replace B7 := show u6.heap[b7]? = some (.cells #[.int .i64 0, .slice none 0 0, .int .i64 0] 28 (0, 0)) from by rw [hu6]; exact st3_far B7 (Ne.symm N67) _ _ _
    replace B8 := show u6.heap[b8]? = some (.cells #[.int .i64 0, .slice none 0 0, .int .i64 0] 28 (0, 0)) from by rw [hu6]; exact st3_far B8 (Ne.symm N68) _ _ _
    replace B6 := show u6.heap[b6]? = some (.cells #[.int .i64 v1, .slice Ao1 o1.length co1, .int .i64 r1] 28 (0, 0)) from by rw [hu6]; exact st3_new B6 _ _ _
    change wpAnyLast _ _ _ _ _ _ _ _ _ (st3 w' b6 (.int .i64 v1) (.slice Ao1 o1.length co1) (.int .i64 r1))
    rw [← hu6]
    clear hu6
    have q0 := (blk_cell B7 0).trans rfl
    have f0 := blk_frozen B7 0
    have q1 := (blk_cell B7 1).trans rfl
    have f1 := blk_frozen B7 1
    have q2 := (blk_cell B7 2).trans rfl
    have f2 := blk_frozen B7 2
    refine last_ (i := 10) (N := none) #[I, I, I, I, I, I, I, I, I, I, I, O] rfl rfl (one_of HT_.out (by kernel_rfl)) (by decide) (fun K hK => ?_)
    refine skip_ (w1 := ?_) (by rfl) rfl ?_ ?_
    rotate_left
    · go_simp
      rfl
    refine hK.out _ _ ?_
    clear hK K q0 q1 q2 f0 f1 f2
    refine norm_ (a' := ?_) ?_ ?_
    rotate_left
    · rfl
    obtain ⟨u7, hu7⟩ : ∃ W, W = (st3 u6 b7 (.int .i64 v2) (.slice Ao2 o2.length co2) (.int .i64 r2)) := ⟨_, rfl⟩
    replace D := show AD w u7 v1 r1 A1 c1 k1 v2 r2 A2 c2 k2 v3 r3 A3 c3 k3 from by rw [hu7]; exact AD.st3 D G7 _ _ _
    replace R1 := show Kd.R k107 107 u7 w.heap.size (fun _ => True) (.slice Ao1 o1.length co1) o1 from by rw [hu7]; exact st3_R R1 B7 (by decide) _ _ _
    replace R2 := show Kd.R k107 107 u7 w.heap.size (fun _ => True) (.slice Ao2 o2.length co2) o2 from by rw [hu7]; exact st3_R R2 B7 (by decide) _ _ _
    replace R3 := show Kd.R k107 107 u7 w.heap.size (fun _ => True) (.slice Ao3 o3.length co3) o3 from by rw [hu7]; exact st3_R R3 B7 (by decide) _ _ _
    replace B6 := show u7.heap[b6]? = some (.cells #[.int .i64 v1, .slice Ao1 o1.length co1, .int .i64 r1] 28 (0, 0)) from by rw [hu7]; exact st3_far B6 N67 _ _ _
    replace B8 := show u7.heap[b8]? = some (.cells #[.int .i64 0, .slice none 0 0, .int .i64 0] 28 (0, 0)) from by rw [hu7]; exact st3_far B8 (Ne.symm N78) _ _ _
    replace B7 := show u7.heap[b7]? = some (.cells #[.int .i64 v2, .slice Ao2 o2.length co2, .int .i64 r2] 28 (0, 0)) from by rw [hu7]; exact st3_new B7 _ _ _
    change wpAnyLast _ _ _ _ _ _ _ _ _ (st3 u6 b7 (.int .i64 v2) (.slice Ao2 o2.length co2) (.int .i64 r2))
    rw [← hu7]
    clear hu7
    have q0 := (blk_cell B8 0).trans rfl
    have f0 := blk_frozen B8 0
    have q1 := (blk_cell B8 1).trans rfl
    have f1 := blk_frozen B8 1
    have q2 := (blk_cell B8 2).trans rfl
    have f2 := blk_frozen B8 2
    refine last_ (i := 11) (N := none) #[I, I, I, I, I, I, I, I, I, I, I, I] rfl rfl (one_of HT_.out (by kernel_rfl)) (by decide) (fun K hK => ?_)
    refine skip_ (w1 := ?_) (by rfl) rfl ?_ ?_
    rotate_left
    · go_simp
      rfl
    refine hK.out _ _ ?_
    clear hK K q0 q1 q2 f0 f1 f2
    refine norm_ (a' := ?_) ?_ ?_
    rotate_left
    · rfl
    obtain ⟨u8, hu8⟩ : ∃ W, W = (st3 u7 b8 (.int .i64 v3) (.slice Ao3 o3.length co3) (.int .i64 r3)) := ⟨_, rfl⟩
    replace D := show AD w u8 v1 r1 A1 c1 k1 v2 r2 A2 c2 k2 v3 r3 A3 c3 k3 from by rw [hu8]; exact AD.st3 D G8 _ _ _
    replace R1 := show Kd.R k107 107 u8 w.heap.size (fun _ => True) (.slice Ao1 o1.length co1) o1 from by rw [hu8]; exact st3_R R1 B8 (by decide) _ _ _
    replace R2 := show Kd.R k107 107 u8 w.heap.size (fun _ => True) (.slice Ao2 o2.length co2) o2 from by rw [hu8]; exact st3_R R2 B8 (by decide) _ _ _
    replace R3 := show Kd.R k107 107 u8 w.heap.size (fun _ => True) (.slice Ao3 o3.length co3) o3 from by rw [hu8]; exact st3_R R3 B8 (by decide) _ _ _
    replace B6 := show u8.heap[b6]? = some (.cells #[.int .i64 v1, .slice Ao1 o1.length co1, .int .i64 r1] 28 (0, 0)) from by rw [hu8]; exact st3_far B6 N68 _ _ _
    replace B7 := show u8.heap[b7]? = some (.cells #[.int .i64 v2, .slice Ao2 o2.length co2, .int .i64 r2] 28 (0, 0)) from by rw [hu8]; exact st3_far B7 N78 _ _ _
    replace B8 := show u8.heap[b8]? = some (.cells #[.int .i64 v3, .slice Ao3 o3.length co3, .int .i64 r3] 28 (0, 0)) from by rw [hu8]; exact st3_new B8 _ _ _
    change wpAnyLast _ _ _ _ _ _ _ _ _ (st3 u7 b8 (.int .i64 v3) (.slice Ao3 o3.length co3) (.int .i64 r3))
    rw [← hu8]
    clear hu8
    refine done_ (done_of HT_.out (by kernel_rfl)) ?_
    clear HT_ HW_ G6 G7 G8 N67 N68 N78
    have D' := Aside0.mk D
    have RO1 := Aside0.mk R1
    have RO2 := Aside0.mk R2
    have RO3 := Aside0.mk R3
    have KB6 := Aside0.mk B6
    have KB7 := Aside0.mk B7
    have KB8 := Aside0.mk B8
    clear D R1 R2 R3 B6 B7 B8
    have HB := Aside0.mk D'.out.bel
    have ya0_1 := (blk_cell KB6.out 0).trans rfl
    have ya1_1 := (blk_cell KB6.out 1).trans rfl
    have ya2_1 := (blk_cell KB6.out 2).trans rfl
    have yb0_1 := (blk_cell KB7.out 0).trans rfl
    have yb1_1 := (blk_cell KB7.out 1).trans rfl
    have yb2_1 := (blk_cell KB7.out 2).trans rfl
    have yc0_1 := (blk_cell KB8.out 0).trans rfl
    have yc1_1 := (blk_cell KB8.out 1).trans rfl
    have yc2_1 := (blk_cell KB8.out 2).trans rfl
    go_wp2_with fail
    clear ya0_1 ya1_1 ya2_1 yb0_1 yb1_1 yb2_1 yc0_1 yc1_1 yc2_1
    rcases HOK.out with hE | ⟨e2_, e3_, hOK⟩
    · skip
      refine (mask_Ite.calls v1 Ao1 co1 o1 r1 v2 Ao2 co2 o2 r2 v3 Ao3 co3 o3 r3 0 [] 0 2 _ (Kd.R_reads' RO1.out).2.2 (Kd.R_reads' RO1.out).2.1 (Kd.R_reads' RO2.out).2.2 (Kd.R_reads' RO2.out).2.1 (Kd.R_reads' RO3.out).2.2 (Kd.R_reads' RO3.out).2.1 hE).mono ?_
      rintro e we ⟨ve, rfl, hRe, hbe⟩
      obtain ⟨Ae, ce, rfl, hce, _⟩ := Kd.R_reads hRe
      have HBe := Aside0.mk (below_then HB.out HB.out.size hbe)
      clear hRe hbe
      go_wp2_with fail
      refine (cantinglaw02_awake.calls fu true _ HAW.out).mono ?_
      rintro e w3 ⟨rfl, hB3⟩
      have B3 := Aside0.mk (below_then (below_alloc HBe.out (.cells #[.int .i64 0, .slice Ae (([] : List S107).length) ce, .int .i64 0] 28)) (below_alloc HBe.out _).size hB3)
      clear hB3
      go_wp2
      go_ret
      exact ⟨by rfl, B3.out⟩
    subst v2
    subst v3
    have HK := Aside0.mk hOK
    clear hOK HOK
    refine (mask_Ite.calls v1 Ao1 co1 o1 r1 v1 Ao2 co2 o2 r2 v1 Ao3 co3 o3 r3 v1 it sit 0 _ (Kd.R_reads' RO1.out).2.2 (Kd.R_reads' RO1.out).2.1 (Kd.R_reads' RO2.out).2.2 (Kd.R_reads' RO2.out).2.1 (Kd.R_reads' RO3.out).2.2 (Kd.R_reads' RO3.out).2.1 HK.out.h_ite).mono ?_
    rintro e w2 ⟨vit_, rfl, hRit, hb2⟩
    obtain ⟨Ait, cit, rfl, hcit, _⟩ := Kd.R_reads hRit
    have HB3 := Aside0.mk (below_then HB.out (HB.out).size hb2)
    have Kf3 := Aside0.mk (blk_below D'.out.kf hb2)
    have Ka3 := Aside0.mk (blk_below KB6.out hb2)
    have Kb3 := Aside0.mk (blk_below KB7.out hb2)
    have Kc3 := Aside0.mk (blk_below KB8.out hb2)
    have Ro13 := Aside0.mk (Kd.R_below RO1.out hb2)
    have Ro23 := Aside0.mk (Kd.R_below RO2.out hb2)
    have Ro33 := Aside0.mk (Kd.R_below RO3.out hb2)
    have Rit2 := Aside0.mk (Kd.R_lower hRit (HB.out).size)
    clear hb2 hRit 
    have ya0_4 := (blk_cell (blk_alloc Ka3.out (.cells #[.int .i64 v1, .slice Ait it.length cit, .int .i64 sit] 28)) 0).trans rfl
    have ya1_4 := (blk_cell (blk_alloc Ka3.out (.cells #[.int .i64 v1, .slice Ait it.length cit, .int .i64 sit] 28)) 1).trans rfl
    have ya2_4 := (blk_cell (blk_alloc Ka3.out (.cells #[.int .i64 v1, .slice Ait it.length cit, .int .i64 sit] 28)) 2).trans rfl
    go_wp2_with fail
    obtain ⟨W5, hW5⟩ : ∃ W, W = (w2.alloc (.cells #[.int .i64 v1, .slice Ait it.length cit, .int .i64 sit] 28)) := ⟨_, rfl⟩
    have b5_ := Aside0.mk (show Below w2.heap.size w2 W5 by rw [hW5]; exact below_alloc (Below.refl _ _) _)
    have Kit5 := Aside0.mk (show W5.heap[w2.heap.size]? = some (.cells #[.int .i64 v1, .slice Ait it.length cit, .int .i64 sit] 28 (0, 0)) by rw [hW5]; exact blk_new _ _)
    have HB5 := Aside0.mk (below_then HB3.out HB3.out.size b5_.out)
    rw [← hW5]
    clear hW5
    clear ya0_4 ya1_4 ya2_4
    refine (mask_Not.calls v1 Ao1 co1 o1 r1 v1 n0 sn0 0 _ (Kd.R_reads' (Kd.R_below Ro13.out b5_.out)).2.2 (Kd.R_reads' (Kd.R_below Ro13.out b5_.out)).2.1 HK.out.h_n).mono ?_
    rintro e w6 ⟨vn0_, rfl, hRn0, hb6⟩
    obtain ⟨An0, cn0, rfl, hcn0, _⟩ := Kd.R_reads hRn0
    have HB7 := Aside0.mk (below_then HB5.out (HB5.out).size hb6)
    have c7_ := Aside0.mk (below_then b5_.out b5_.out.size hb6)
    have Kf7 := Aside0.mk (blk_below Kf3.out c7_.out)
    have Ka7 := Aside0.mk (blk_below Ka3.out c7_.out)
    have Kb7 := Aside0.mk (blk_below Kb3.out c7_.out)
    have Kc7 := Aside0.mk (blk_below Kc3.out c7_.out)
    have Kit7 := Aside0.mk (blk_below Kit5.out hb6)
    have Ro17 := Aside0.mk (Kd.R_below Ro13.out c7_.out)
    have Ro27 := Aside0.mk (Kd.R_below Ro23.out c7_.out)
    have Ro37 := Aside0.mk (Kd.R_below Ro33.out c7_.out)
    have Rit7 := Aside0.mk (Kd.R_below Rit2.out c7_.out)
    have Rn06 := Aside0.mk (Kd.R_lower hRn0 (HB5.out).size)
    clear hb6 hRn0 Ka3 Kb3 Kc3 Kf3 Kit5 Rit2 Ro13 Ro23 Ro33
    have yn00_8 := (blk_cell (blk_new w6 (.cells #[.int .i64 v1, .slice An0 n0.length cn0, .int .i64 sn0] 28)) 0).trans rfl
    have yn01_8 := (blk_cell (blk_new w6 (.cells #[.int .i64 v1, .slice An0 n0.length cn0, .int .i64 sn0] 28)) 1).trans rfl
    have yn02_8 := (blk_cell (blk_new w6 (.cells #[.int .i64 v1, .slice An0 n0.length cn0, .int .i64 sn0] 28)) 2).trans rfl
    go_wp2_with fail
    obtain ⟨W9, hW9⟩ : ∃ W, W = (w6.alloc (.cells #[.int .i64 v1, .slice An0 n0.length cn0, .int .i64 sn0] 28)) := ⟨_, rfl⟩
    have b9_ := Aside0.mk (show Below w6.heap.size w6 W9 by rw [hW9]; exact below_alloc (Below.refl _ _) _)
    have Kn09 := Aside0.mk (show W9.heap[w6.heap.size]? = some (.cells #[.int .i64 v1, .slice An0 n0.length cn0, .int .i64 sn0] 28 (0, 0)) by rw [hW9]; exact blk_new _ _)
    have HB9 := Aside0.mk (below_then HB7.out HB7.out.size b9_.out)
    rw [← hW9]
    clear hW9
    clear yn00_8 yn01_8 yn02_8
    refine (mask_Not.calls v1 An0 cn0 n0 sn0 v1 m0 sm0 0 _ (Kd.R_reads' (Kd.R_below Rn06.out b9_.out)).2.2 (Kd.R_reads' (Kd.R_below Rn06.out b9_.out)).2.1 HK.out.h_m).mono ?_
    rintro e w10 ⟨vm0_, rfl, hRm0, hb10⟩
    obtain ⟨Am0, cm0, rfl, hcm0, _⟩ := Kd.R_reads hRm0
    have HB11 := Aside0.mk (below_then HB9.out (HB9.out).size hb10)
    have c11_ := Aside0.mk (below_then b9_.out b9_.out.size hb10)
    have Kf11 := Aside0.mk (blk_below Kf7.out c11_.out)
    have Ka11 := Aside0.mk (blk_below Ka7.out c11_.out)
    have Kb11 := Aside0.mk (blk_below Kb7.out c11_.out)
    have Kc11 := Aside0.mk (blk_below Kc7.out c11_.out)
    have Kit11 := Aside0.mk (blk_below Kit7.out c11_.out)
    have Kn011 := Aside0.mk (blk_below Kn09.out hb10)
    have Ro111 := Aside0.mk (Kd.R_below Ro17.out c11_.out)
    have Ro211 := Aside0.mk (Kd.R_below Ro27.out c11_.out)
    have Ro311 := Aside0.mk (Kd.R_below Ro37.out c11_.out)
    have Rit11 := Aside0.mk (Kd.R_below Rit7.out c11_.out)
    have Rn011 := Aside0.mk (Kd.R_below Rn06.out c11_.out)
    have Rm010 := Aside0.mk (Kd.R_lower hRm0 (HB9.out).size)
    clear hb10 hRm0 Ka7 Kb7 Kc7 Kf7 Kit7 Kn09 Rit7 Rn06 Ro17 Ro27 Ro37
    have ya0_12 := (blk_cell (blk_alloc Ka11.out (.cells #[.int .i64 v1, .slice Am0 m0.length cm0, .int .i64 sm0] 28)) 0).trans rfl
    have ya1_12 := (blk_cell (blk_alloc Ka11.out (.cells #[.int .i64 v1, .slice Am0 m0.length cm0, .int .i64 sm0] 28)) 1).trans rfl
    have ya2_12 := (blk_cell (blk_alloc Ka11.out (.cells #[.int .i64 v1, .slice Am0 m0.length cm0, .int .i64 sm0] 28)) 2).trans rfl
    have yb0_12 := (blk_cell (blk_alloc Kb11.out (.cells #[.int .i64 v1, .slice Am0 m0.length cm0, .int .i64 sm0] 28)) 0).trans rfl
    have yb1_12 := (blk_cell (blk_alloc Kb11.out (.cells #[.int .i64 v1, .slice Am0 m0.length cm0, .int .i64 sm0] 28)) 1).trans rfl
    have yb2_12 := (blk_cell (blk_alloc Kb11.out (.cells #[.int .i64 v1, .slice Am0 m0.length cm0, .int .i64 sm0] 28)) 2).trans rfl
    go_wp2_with fail
    obtain ⟨W13, hW13⟩ : ∃ W, W = (w10.alloc (.cells #[.int .i64 v1, .slice Am0 m0.length cm0, .int .i64 sm0] 28)) := ⟨_, rfl⟩
    have b13_ := Aside0.mk (show Below w10.heap.size w10 W13 by rw [hW13]; exact below_alloc (Below.refl _ _) _)
    have Km013 := Aside0.mk (show W13.heap[w10.heap.size]? = some (.cells #[.int .i64 v1, .slice Am0 m0.length cm0, .int .i64 sm0] 28 (0, 0)) by rw [hW13]; exact blk_new _ _)
    have HB13 := Aside0.mk (below_then HB11.out HB11.out.size b13_.out)
    rw [← hW13]
    clear hW13
    clear ya0_12 ya1_12 ya2_12 yb0_12 yb1_12 yb2_12
    refine (mask_And.calls v1 Ao1 co1 o1 r1 v1 Ao2 co2 o2 r2 v1 ab sab 0 _ (Kd.R_reads' (Kd.R_below Ro111.out b13_.out)).2.2 (Kd.R_reads' (Kd.R_below Ro111.out b13_.out)).2.1 (Kd.R_reads' (Kd.R_below Ro211.out b13_.out)).2.2 (Kd.R_reads' (Kd.R_below Ro211.out b13_.out)).2.1 HK.out.h_ab).mono ?_
    rintro e w14 ⟨vab_, rfl, hRab, hb14⟩
    obtain ⟨Aab, cab, rfl, hcab, _⟩ := Kd.R_reads hRab
    have HB15 := Aside0.mk (below_then HB13.out (HB13.out).size hb14)
    have c15_ := Aside0.mk (below_then b13_.out b13_.out.size hb14)
    have Kf15 := Aside0.mk (blk_below Kf11.out c15_.out)
    have Ka15 := Aside0.mk (blk_below Ka11.out c15_.out)
    have Kb15 := Aside0.mk (blk_below Kb11.out c15_.out)
    have Kc15 := Aside0.mk (blk_below Kc11.out c15_.out)
    have Kit15 := Aside0.mk (blk_below Kit11.out c15_.out)
    have Kn015 := Aside0.mk (blk_below Kn011.out c15_.out)
    have Km015 := Aside0.mk (blk_below Km013.out hb14)
    have Ro115 := Aside0.mk (Kd.R_below Ro111.out c15_.out)
    have Ro215 := Aside0.mk (Kd.R_below Ro211.out c15_.out)
    have Ro315 := Aside0.mk (Kd.R_below Ro311.out c15_.out)
    have Rit15 := Aside0.mk (Kd.R_below Rit11.out c15_.out)
    have Rn015 := Aside0.mk (Kd.R_below Rn011.out c15_.out)
    have Rm015 := Aside0.mk (Kd.R_below Rm010.out c15_.out)
    have Rab14 := Aside0.mk (Kd.R_lower hRab (HB13.out).size)
    clear hb14 hRab Ka11 Kb11 Kc11 Kf11 Kit11 Km013 Kn011 Rit11 Rm010 Rn011 Ro111 Ro211 Ro311
    have ya0_16 := (blk_cell (blk_alloc Ka15.out (.cells #[.int .i64 v1, .slice Aab ab.length cab, .int .i64 sab] 28)) 0).trans rfl
    have ya1_16 := (blk_cell (blk_alloc Ka15.out (.cells #[.int .i64 v1, .slice Aab ab.length cab, .int .i64 sab] 28)) 1).trans rfl
    have ya2_16 := (blk_cell (blk_alloc Ka15.out (.cells #[.int .i64 v1, .slice Aab ab.length cab, .int .i64 sab] 28)) 2).trans rfl
    have yb0_16 := (blk_cell (blk_alloc Kb15.out (.cells #[.int .i64 v1, .slice Aab ab.length cab, .int .i64 sab] 28)) 0).trans rfl
    have yb1_16 := (blk_cell (blk_alloc Kb15.out (.cells #[.int .i64 v1, .slice Aab ab.length cab, .int .i64 sab] 28)) 1).trans rfl
    have yb2_16 := (blk_cell (blk_alloc Kb15.out (.cells #[.int .i64 v1, .slice Aab ab.length cab, .int .i64 sab] 28)) 2).trans rfl
    go_wp2_with fail
    obtain ⟨W17, hW17⟩ : ∃ W, W = (w14.alloc (.cells #[.int .i64 v1, .slice Aab ab.length cab, .int .i64 sab] 28)) := ⟨_, rfl⟩
    have b17_ := Aside0.mk (show Below w14.heap.size w14 W17 by rw [hW17]; exact below_alloc (Below.refl _ _) _)
    have Kab17 := Aside0.mk (show W17.heap[w14.heap.size]? = some (.cells #[.int .i64 v1, .slice Aab ab.length cab, .int .i64 sab] 28 (0, 0)) by rw [hW17]; exact blk_new _ _)
    have HB17 := Aside0.mk (below_then HB15.out HB15.out.size b17_.out)
    rw [← hW17]
    clear hW17
    clear ya0_16 ya1_16 ya2_16 yb0_16 yb1_16 yb2_16
    refine (mask_And.calls v1 Ao2 co2 o2 r2 v1 Ao1 co1 o1 r1 v1 ba sba 0 _ (Kd.R_reads' (Kd.R_below Ro215.out b17_.out)).2.2 (Kd.R_reads' (Kd.R_below Ro215.out b17_.out)).2.1 (Kd.R_reads' (Kd.R_below Ro115.out b17_.out)).2.2 (Kd.R_reads' (Kd.R_below Ro115.out b17_.out)).2.1 HK.out.h_ba).mono ?_
    rintro e w18 ⟨vba_, rfl, hRba, hb18⟩
    obtain ⟨Aba, cba, rfl, hcba, _⟩ := Kd.R_reads hRba
    have HB19 := Aside0.mk (below_then HB17.out (HB17.out).size hb18)
    have c19_ := Aside0.mk (below_then b17_.out b17_.out.size hb18)
    have Kf19 := Aside0.mk (blk_below Kf15.out c19_.out)
    have Ka19 := Aside0.mk (blk_below Ka15.out c19_.out)
    have Kb19 := Aside0.mk (blk_below Kb15.out c19_.out)
    have Kc19 := Aside0.mk (blk_below Kc15.out c19_.out)
    have Kit19 := Aside0.mk (blk_below Kit15.out c19_.out)
    have Kn019 := Aside0.mk (blk_below Kn015.out c19_.out)
    have Km019 := Aside0.mk (blk_below Km015.out c19_.out)
    have Kab19 := Aside0.mk (blk_below Kab17.out hb18)
    have Ro119 := Aside0.mk (Kd.R_below Ro115.out c19_.out)
    have Ro219 := Aside0.mk (Kd.R_below Ro215.out c19_.out)
    have Ro319 := Aside0.mk (Kd.R_below Ro315.out c19_.out)
    have Rit19 := Aside0.mk (Kd.R_below Rit15.out c19_.out)
    have Rn019 := Aside0.mk (Kd.R_below Rn015.out c19_.out)
    have Rm019 := Aside0.mk (Kd.R_below Rm015.out c19_.out)
    have Rab19 := Aside0.mk (Kd.R_below Rab14.out c19_.out)
    have Rba18 := Aside0.mk (Kd.R_lower hRba (HB17.out).size)
    clear hb18 hRba Ka15 Kab17 Kb15 Kc15 Kf15 Kit15 Km015 Kn015 Rab14 Rit15 Rm015 Rn015 Ro115 Ro215 Ro315
    have yc0_20 := (blk_cell (blk_alloc Kc19.out (.cells #[.int .i64 v1, .slice Aba ba.length cba, .int .i64 sba] 28)) 0).trans rfl
    have yc1_20 := (blk_cell (blk_alloc Kc19.out (.cells #[.int .i64 v1, .slice Aba ba.length cba, .int .i64 sba] 28)) 1).trans rfl
    have yc2_20 := (blk_cell (blk_alloc Kc19.out (.cells #[.int .i64 v1, .slice Aba ba.length cba, .int .i64 sba] 28)) 2).trans rfl
    have yn00_20 := (blk_cell (blk_alloc Kn019.out (.cells #[.int .i64 v1, .slice Aba ba.length cba, .int .i64 sba] 28)) 0).trans rfl
    have yn01_20 := (blk_cell (blk_alloc Kn019.out (.cells #[.int .i64 v1, .slice Aba ba.length cba, .int .i64 sba] 28)) 1).trans rfl
    have yn02_20 := (blk_cell (blk_alloc Kn019.out (.cells #[.int .i64 v1, .slice Aba ba.length cba, .int .i64 sba] 28)) 2).trans rfl
    go_wp2_with fail
    obtain ⟨W21, hW21⟩ : ∃ W, W = (w18.alloc (.cells #[.int .i64 v1, .slice Aba ba.length cba, .int .i64 sba] 28)) := ⟨_, rfl⟩
    have b21_ := Aside0.mk (show Below w18.heap.size w18 W21 by rw [hW21]; exact below_alloc (Below.refl _ _) _)
    have Kba21 := Aside0.mk (show W21.heap[w18.heap.size]? = some (.cells #[.int .i64 v1, .slice Aba ba.length cba, .int .i64 sba] 28 (0, 0)) by rw [hW21]; exact blk_new _ _)
    have HB21 := Aside0.mk (below_then HB19.out HB19.out.size b21_.out)
    rw [← hW21]
    clear hW21
    clear yc0_20 yc1_20 yc2_20 yn00_20 yn01_20 yn02_20
    refine (mask_And.calls v1 An0 cn0 n0 sn0 v1 Ao3 co3 o3 r3 v1 nc snc 0 _ (Kd.R_reads' (Kd.R_below Rn019.out b21_.out)).2.2 (Kd.R_reads' (Kd.R_below Rn019.out b21_.out)).2.1 (Kd.R_reads' (Kd.R_below Ro319.out b21_.out)).2.2 (Kd.R_reads' (Kd.R_below Ro319.out b21_.out)).2.1 HK.out.h_nc).mono ?_
    rintro e w22 ⟨vnc_, rfl, hRnc, hb22⟩
    obtain ⟨Anc, cnc, rfl, hcnc, _⟩ := Kd.R_reads hRnc
    have HB23 := Aside0.mk (below_then HB21.out (HB21.out).size hb22)
    have c23_ := Aside0.mk (below_then b21_.out b21_.out.size hb22)
    have Kf23 := Aside0.mk (blk_below Kf19.out c23_.out)
    have Ka23 := Aside0.mk (blk_below Ka19.out c23_.out)
    have Kb23 := Aside0.mk (blk_below Kb19.out c23_.out)
    have Kc23 := Aside0.mk (blk_below Kc19.out c23_.out)
    have Kit23 := Aside0.mk (blk_below Kit19.out c23_.out)
    have Kn023 := Aside0.mk (blk_below Kn019.out c23_.out)
    have Km023 := Aside0.mk (blk_below Km019.out c23_.out)
    have Kab23 := Aside0.mk (blk_below Kab19.out c23_.out)
    have Kba23 := Aside0.mk (blk_below Kba21.out hb22)
    have Ro123 := Aside0.mk (Kd.R_below Ro119.out c23_.out)
    have Ro223 := Aside0.mk (Kd.R_below Ro219.out c23_.out)
    have Ro323 := Aside0.mk (Kd.R_below Ro319.out c23_.out)
    have Rit23 := Aside0.mk (Kd.R_below Rit19.out c23_.out)
    have Rn023 := Aside0.mk (Kd.R_below Rn019.out c23_.out)
    have Rm023 := Aside0.mk (Kd.R_below Rm019.out c23_.out)
    have Rab23 := Aside0.mk (Kd.R_below Rab19.out c23_.out)
    have Rba23 := Aside0.mk (Kd.R_below Rba18.out c23_.out)
    have Rnc22 := Aside0.mk (Kd.R_lower hRnc (HB21.out).size)
    clear hb22 hRnc Ka19 Kab19 Kb19 Kba21 Kc19 Kf19 Kit19 Km019 Kn019 Rab19 Rba18 Rit19 Rm019 Rn019 Ro119 Ro219 Ro319
    have yab0_24 := (blk_cell (blk_alloc Kab23.out (.cells #[.int .i64 v1, .slice Anc nc.length cnc, .int .i64 snc] 28)) 0).trans rfl
    have yab1_24 := (blk_cell (blk_alloc Kab23.out (.cells #[.int .i64 v1, .slice Anc nc.length cnc, .int .i64 snc] 28)) 1).trans rfl
    have yab2_24 := (blk_cell (blk_alloc Kab23.out (.cells #[.int .i64 v1, .slice Anc nc.length cnc, .int .i64 snc] 28)) 2).trans rfl
    have ync0_24 := (blk_cell (blk_new w22 (.cells #[.int .i64 v1, .slice Anc nc.length cnc, .int .i64 snc] 28)) 0).trans rfl
    have ync1_24 := (blk_cell (blk_new w22 (.cells #[.int .i64 v1, .slice Anc nc.length cnc, .int .i64 snc] 28)) 1).trans rfl
    have ync2_24 := (blk_cell (blk_new w22 (.cells #[.int .i64 v1, .slice Anc nc.length cnc, .int .i64 snc] 28)) 2).trans rfl
    go_wp2_with fail
    obtain ⟨W25, hW25⟩ : ∃ W, W = (w22.alloc (.cells #[.int .i64 v1, .slice Anc nc.length cnc, .int .i64 snc] 28)) := ⟨_, rfl⟩
    have b25_ := Aside0.mk (show Below w22.heap.size w22 W25 by rw [hW25]; exact below_alloc (Below.refl _ _) _)
    have Knc25 := Aside0.mk (show W25.heap[w22.heap.size]? = some (.cells #[.int .i64 v1, .slice Anc nc.length cnc, .int .i64 snc] 28 (0, 0)) by rw [hW25]; exact blk_new _ _)
    have HB25 := Aside0.mk (below_then HB23.out HB23.out.size b25_.out)
    rw [← hW25]
    clear hW25
    clear yab0_24 yab1_24 yab2_24 ync0_24 ync1_24 ync2_24
    refine (mask_Or.calls v1 Aab cab ab sab v1 Anc cnc nc snc v1 oo soo 0 _ (Kd.R_reads' (Kd.R_below Rab23.out b25_.out)).2.2 (Kd.R_reads' (Kd.R_below Rab23.out b25_.out)).2.1 (Kd.R_reads' (Kd.R_below Rnc22.out b25_.out)).2.2 (Kd.R_reads' (Kd.R_below Rnc22.out b25_.out)).2.1 HK.out.h_oo).mono ?_
    rintro e w26 ⟨voo_, rfl, hRoo, hb26⟩
    obtain ⟨Aoo, coo, rfl, hcoo, _⟩ := Kd.R_reads hRoo
    have HB27 := Aside0.mk (below_then HB25.out (HB25.out).size hb26)
    have c27_ := Aside0.mk (below_then b25_.out b25_.out.size hb26)
    have Kf27 := Aside0.mk (blk_below Kf23.out c27_.out)
    have Ka27 := Aside0.mk (blk_below Ka23.out c27_.out)
    have Kb27 := Aside0.mk (blk_below Kb23.out c27_.out)
    have Kc27 := Aside0.mk (blk_below Kc23.out c27_.out)
    have Kit27 := Aside0.mk (blk_below Kit23.out c27_.out)
    have Kn027 := Aside0.mk (blk_below Kn023.out c27_.out)
    have Km027 := Aside0.mk (blk_below Km023.out c27_.out)
    have Kab27 := Aside0.mk (blk_below Kab23.out c27_.out)
    have Kba27 := Aside0.mk (blk_below Kba23.out c27_.out)
    have Knc27 := Aside0.mk (blk_below Knc25.out hb26)
    have Ro127 := Aside0.mk (Kd.R_below Ro123.out c27_.out)
    have Ro227 := Aside0.mk (Kd.R_below Ro223.out c27_.out)
    have Ro327 := Aside0.mk (Kd.R_below Ro323.out c27_.out)
    have Rit27 := Aside0.mk (Kd.R_below Rit23.out c27_.out)
    have Rn027 := Aside0.mk (Kd.R_below Rn023.out c27_.out)
    have Rm027 := Aside0.mk (Kd.R_below Rm023.out c27_.out)
    have Rab27 := Aside0.mk (Kd.R_below Rab23.out c27_.out)
    have Rba27 := Aside0.mk (Kd.R_below Rba23.out c27_.out)
    have Rnc27 := Aside0.mk (Kd.R_below Rnc22.out c27_.out)
    have Roo26 := Aside0.mk (Kd.R_lower hRoo (HB25.out).size)
    clear hb26 hRoo Ka23 Kab23 Kb23 Kba23 Kc23 Kf23 Kit23 Km023 Kn023 Knc25 Rab23 Rba23 Rit23 Rm023 Rn023 Rnc22 Ro123 Ro223 Ro323
    go_wp2
    obtain ⟨W28, hW28⟩ : ∃ W, W = (w26.alloc (.cells #[.int .i64 v1, .slice Aoo oo.length coo, .int .i64 soo] 28)) := ⟨_, rfl⟩
    have b28_ := Aside0.mk (show Below w26.heap.size w26 W28 by rw [hW28]; exact below_alloc (Below.refl _ _) _)
    have Koo28 := Aside0.mk (show W28.heap[w26.heap.size]? = some (.cells #[.int .i64 v1, .slice Aoo oo.length coo, .int .i64 soo] 28 (0, 0)) by rw [hW28]; exact blk_new _ _)
    have HB28 := Aside0.mk (below_then HB27.out HB27.out.size b28_.out)
    rw [← hW28]
    clear hW28
    refine start_ (n := 45) (S := fun w' => (Below W28.heap.size W28 w')) (ds := [42]) #[O, O, O, O, O, O, O, O, O, O, O, O, O, O, O, O, O, O, O, O, O, O, O, O, O, O, O, O, O, O, O, O, O, O, O, O, O, O, O, O, O, O, O, O, O] (by kernel_rfl) rfl rfl (below_drew (Below.refl _ _)) (fun hHeld => ?_)
    refine with_tabW tb_MaskAlgebra_11.tab tb_MaskAlgebra_11.bits (fun HT_ HW_ => ?_)
    refine pure_ (i := 0) (N := some 96) (v := ?_) (a' := ?_) #[I, O, O, O, O, O, O, O, O, O, O, O, O, O, O, O, O, O, O, O, O, O, O, O, O, O, O, O, O, O, O, O, O, O, O, O, O, O, O, O, O, O, O, O, O] rfl rfl (any_of HT_.out (by kernel_rfl)) (fun _ _ _ h => h) (Or.inl ⟨by rfl, ?_⟩) ?_ ?_
    rotate_left
    · intro w'
      go_simp
      with_reducible rfl
    rotate_left
    · simp only [Act.put, ta_, sz_, ss_, i64_w, i32_w]
      rfl
    refine pure_ (i := 1) (N := some 97) (v := ?_) (a' := ?_) #[I, I, O, O, O, O, O, O, O, O, O, O, O, O, O, O, O, O, O, O, O, O, O, O, O, O, O, O, O, O, O, O, O, O, O, O, O, O, O, O, O, O, O, O, O] rfl rfl (any_of HT_.out (by kernel_rfl)) (fun _ _ _ h => h) (Or.inl ⟨by rfl, ?_⟩) ?_ ?_
    rotate_left
    · intro w'
      go_simp
      with_reducible rfl
    rotate_left
    · simp only [Act.put, ta_, sz_, ss_, i64_w, i32_w]
      rfl
    refine pure_ (i := 2) (N := some 98) (v := ?_) (a' := ?_) #[I, I, I, O, O, O, O, O, O, O, O, O, O, O, O, O, O, O, O, O, O, O, O, O, O, O, O, O, O, O, O, O, O, O, O, O, O, O, O, O, O, O, O, O, O] rfl rfl (any_of HT_.out (by kernel_rfl)) (fun _ _ _ h => h) (Or.inl ⟨by rfl, ?_⟩) ?_ ?_
    rotate_left
    · intro w'
      go_simp
      with_reducible rfl
    rotate_left
    · simp only [Act.put, ta_, sz_, ss_, i64_w, i32_w]
      rfl
    refine pure_ (i := 3) (N := some 99) (v := ?_) (a' := ?_) #[I, I, I, I, O, O, O, O, O, O, O, O, O, O, O, O, O, O, O, O, O, O, O, O, O, O, O, O, O, O, O, O, O, O, O, O, O, O, O, O, O, O, O, O, O] rfl rfl (any_of HT_.out (by kernel_rfl)) (fun _ _ _ h => h) (Or.inl ⟨by rfl, ?_⟩) ?_ ?_
    rotate_left
    · intro w'
      go_simp
      with_reducible rfl
    rotate_left
    · simp only [Act.put, ta_, sz_, ss_, i64_w, i32_w]
      rfl
    refine pure_ (i := 4) (N := some 100) (v := ?_) (a' := ?_) #[I, I, I, I, I, O, O, O, O, O, O, O, O, O, O, O, O, O, O, O, O, O, O, O, O, O, O, O, O, O, O, O, O, O, O, O, O, O, O, O, O, O, O, O, O] rfl rfl (any_of HT_.out (by kernel_rfl)) (fun _ _ _ h => h) (Or.inl ⟨by rfl, ?_⟩) ?_ ?_
    rotate_left
    · intro w'
      go_simp
      with_reducible rfl
    rotate_left
    · simp only [Act.put, ta_, sz_, ss_, i64_w, i32_w]
      rfl
    refine pure_ (i := 5) (N := some 101) (v := ?_) (a' := ?_) #[I, I, I, I, I, I, O, O, O, O, O, O, O, O, O, O, O, O, O, O, O, O, O, O, O, O, O, O, O, O, O, O, O, O, O, O, O, O, O, O, O, O, O, O, O] rfl rfl (any_of HT_.out (by kernel_rfl)) (fun _ _ _ h => h) (Or.inl ⟨by rfl, ?_⟩) ?_ ?_
    rotate_left
    · intro w'
      go_simp
      with_reducible rfl
    rotate_left
    · simp only [Act.put, ta_, sz_, ss_, i64_w, i32_w]
      rfl
    refine pure_ (i := 6) (N := some 102) (v := ?_) (a' := ?_) #[I, I, I, I, I, I, I, O, O, O, O, O, O, O, O, O, O, O, O, O, O, O, O, O, O, O, O, O, O, O, O, O, O, O, O, O, O, O, O, O, O, O, O, O, O] rfl rfl (any_of HT_.out (by kernel_rfl)) (fun _ _ _ h => h) (Or.inl ⟨by rfl, ?_⟩) ?_ ?_
    rotate_left
    · intro w'
      go_simp
      with_reducible rfl
    rotate_left
    · simp only [Act.put, ta_, sz_, ss_, i64_w, i32_w]
      rfl
    refine pure_ (i := 7) (N := some 103) (v := ?_) (a' := ?_) #[I, I, I, I, I, I, I, I, O, O, O, O, O, O, O, O, O, O, O, O, O, O, O, O, O, O, O, O, O, O, O, O, O, O, O, O, O, O, O, O, O, O, O, O, O] rfl rfl (any_of HT_.out (by kernel_rfl)) (fun _ _ _ h => h) (Or.inl ⟨by rfl, ?_⟩) ?_ ?_
    rotate_left
    · intro w'
      go_simp
      with_reducible rfl
    rotate_left
    · simp only [Act.put, ta_, sz_, ss_, i64_w, i32_w]
      rfl
    refine pure_ (i := 8) (N := some 104) (v := ?_) (a' := ?_) #[I, I, I, I, I, I, I, I, I, O, O, O, O, O, O, O, O, O, O, O, O, O, O, O, O, O, O, O, O, O, O, O, O, O, O, O, O, O, O, O, O, O, O, O, O] rfl rfl (any_of HT_.out (by kernel_rfl)) (fun _ _ _ h => h) (Or.inl ⟨by rfl, ?_⟩) ?_ ?_
    rotate_left
    · intro w'
      go_simp
      with_reducible rfl
    rotate_left
    · simp only [Act.put, ta_, sz_, ss_, i64_w, i32_w]
      rfl
    refine pure_ (i := 9) (N := some 105) (v := ?_) (a' := ?_) #[I, I, I, I, I, I, I, I, I, I, O, O, O, O, O, O, O, O, O, O, O, O, O, O, O, O, O, O, O, O, O, O, O, O, O, O, O, O, O, O, O, O, O, O, O] rfl rfl (any_of HT_.out (by kernel_rfl)) (fun _ _ _ h => h) (Or.inl ⟨by rfl, ?_⟩) ?_ ?_
    rotate_left
    · intro w'
      go_simp
      with_reducible rfl
    rotate_left
    · simp only [Act.put, ta_, sz_, ss_, i64_w, i32_w]
      rfl
    refine pure_ (i := 10) (N := some 106) (v := ?_) (a' := ?_) #[I, I, I, I, I, I, I, I, I, I, I, O, O, O, O, O, O, O, O, O, O, O, O, O, O, O, O, O, O, O, O, O, O, O, O, O, O, O, O, O, O, O, O, O, O] rfl rfl (any_of HT_.out (by kernel_rfl)) (fun _ _ _ h => h) (Or.inl ⟨by rfl, ?_⟩) ?_ ?_
    rotate_left
    · intro w'
      go_simp
      with_reducible rfl
    rotate_left
    · simp only [Act.put, ta_, sz_, ss_, i64_w, i32_w]
      rfl
    refine pure_ (i := 11) (N := some 107) (v := ?_) (a' := ?_) #[I, I, I, I, I, I, I, I, I, I, I, I, O, O, O, O, O, O, O, O, O, O, O, O, O, O, O, O, O, O, O, O, O, O, O, O, O, O, O, O, O, O, O, O, O] rfl rfl (any_of HT_.out (by kernel_rfl)) (fun _ _ _ h => h) (Or.inl ⟨by rfl, ?_⟩) ?_ ?_
    rotate_left
    · intro w'
      go_simp
      with_reducible rfl
    rotate_left
    · simp only [Act.put, ta_, sz_, ss_, i64_w, i32_w]
      rfl
    refine pure_ (i := 12) (N := some 108) (v := ?_) (a' := ?_) #[I, I, I, I, I, I, I, I, I, I, I, I, I, O, O, O, O, O, O, O, O, O, O, O, O, O, O, O, O, O, O, O, O, O, O, O, O, O, O, O, O, O, O, O, O] rfl rfl (any_of HT_.out (by kernel_rfl)) (fun _ _ _ h => h) (Or.inl ⟨by rfl, ?_⟩) ?_ ?_
    rotate_left
    · intro w'
      go_simp
      with_reducible rfl
    rotate_left
    · simp only [Act.put, ta_, sz_, ss_, i64_w, i32_w]
      rfl
    refine pure_ (i := 13) (N := some 109) (v := ?_) (a' := ?_) #[I, I, I, I, I, I, I, I, I, I, I, I, I, I, O, O, O, O, O, O, O, O, O, O, O, O, O, O, O, O, O, O, O, O, O, O, O, O, O, O, O, O, O, O, O] rfl rfl (any_of HT_.out (by kernel_rfl)) (fun _ _ _ h => h) (Or.inl ⟨by rfl, ?_⟩) ?_ ?_
    rotate_left
    · intro w'
      go_simp
      with_reducible rfl
    rotate_left
    · simp only [Act.put, ta_, sz_, ss_, i64_w, i32_w]
      rfl
    refine pure_ (i := 14) (N := some 110) (v := ?_) (a' := ?_) #[I, I, I, I, I, I, I, I, I, I, I, I, I, I, I, O, O, O, O, O, O, O, O, O, O, O, O, O, O, O, O, O, O, O, O, O, O, O, O, O, O, O, O, O, O] rfl rfl (any_of HT_.out (by kernel_rfl)) (fun _ _ _ h => h) (Or.inl ⟨by rfl, ?_⟩) ?_ ?_
    rotate_left
    · intro w'
      go_simp
      with_reducible rfl
    rotate_left
    · simp only [Act.put, ta_, sz_, ss_, i64_w, i32_w]
      rfl
    refine pure_ (i := 15) (N := some 111) (v := ?_) (a' := ?_) #[I, I, I, I, I, I, I, I, I, I, I, I, I, I, I, I, O, O, O, O, O, O, O, O, O, O, O, O, O, O, O, O, O, O, O, O, O, O, O, O, O, O, O, O, O] rfl rfl (any_of HT_.out (by kernel_rfl)) (fun _ _ _ h => h) (Or.inl ⟨by rfl, ?_⟩) ?_ ?_
    rotate_left
    · intro w'
      go_simp
      with_reducible rfl
    rotate_left
    · simp only [Act.put, ta_, sz_, ss_, i64_w, i32_w]
      rfl
    refine pure_ (i := 16) (N := some 112) (v := ?_) (a' := ?_) #[I, I, I, I, I, I, I, I, I, I, I, I, I, I, I, I, I, O, O, O, O, O, O, O, O, O, O, O, O, O, O, O, O, O, O, O, O, O, O, O, O, O, O, O, O] rfl rfl (any_of HT_.out (by kernel_rfl)) (fun _ _ _ h => h) (Or.inl ⟨by rfl, ?_⟩) ?_ ?_
    rotate_left
    · intro w'
      go_simp
      with_reducible rfl
    rotate_left
    · simp only [Act.put, ta_, sz_, ss_, i64_w, i32_w]
      rfl
    refine pure_ (i := 17) (N := some 113) (v := ?_) (a' := ?_) #[I, I, I, I, I, I, I, I, I, I, I, I, I, I, I, I, I, I, O, O, O, O, O, O, O, O, O, O, O, O, O, O, O, O, O, O, O, O, O, O, O, O, O, O, O] rfl rfl (any_of HT_.out (by kernel_rfl)) (fun _ _ _ h => h) (Or.inl ⟨by rfl, ?_⟩) ?_ ?_
    rotate_left
    · intro w'
      go_simp
      with_reducible rfl
    rotate_left
    · simp only [Act.put, ta_, sz_, ss_, i64_w, i32_w]
      rfl
    refine pure_ (i := 18) (N := some 114) (v := ?_) (a' := ?_) #[I, I, I, I, I, I, I, I, I, I, I, I, I, I, I, I, I, I, I, O, O, O, O, O, O, O, O, O, O, O, O, O, O, O, O, O, O, O, O, O, O, O, O, O, O] rfl rfl (any_of HT_.out (by kernel_rfl)) (fun _ _ _ h => h) (Or.inl ⟨by rfl, ?_⟩) ?_ ?_
    rotate_left
    · intro w'
      go_simp
      with_reducible rfl
    rotate_left
    · simp only [Act.put, ta_, sz_, ss_, i64_w, i32_w]
      rfl
    refine pure_ (i := 19) (N := some 115) (v := ?_) (a' := ?_) #[I, I, I, I, I, I, I, I, I, I, I, I, I, I, I, I, I, I, I, I, O, O, O, O, O, O, O, O, O, O, O, O, O, O, O, O, O, O, O, O, O, O, O, O, O] rfl rfl (any_of HT_.out (by kernel_rfl)) (fun _ _ _ h => h) (Or.inl ⟨by rfl, ?_⟩) ?_ ?_
    rotate_left
    · intro w'
      go_simp
      with_reducible rfl
    rotate_left
    · simp only [Act.put, ta_, sz_, ss_, i64_w, i32_w]
      rfl
    refine pure_ (i := 20) (N := some 116) (v := ?_) (a' := ?_) #[I, I, I, I, I, I, I, I, I, I, I, I, I, I, I, I, I, I, I, I, I, O, O, O, O, O, O, O, O, O, O, O, O, O, O, O, O, O, O, O, O, O, O, O, O] rfl rfl (any_of HT_.out (by kernel_rfl)) (fun _ _ _ h => h) (Or.inl ⟨by rfl, ?_⟩) ?_ ?_
    rotate_left
    · intro w'
      go_simp
      with_reducible rfl
    rotate_left
    · simp only [Act.put, ta_, sz_, ss_, i64_w, i32_w]
      rfl
    refine pure_ (i := 21) (N := some 117) (v := ?_) (a' := ?_) #[I, I, I, I, I, I, I, I, I, I, I, I, I, I, I, I, I, I, I, I, I, I, O, O, O, O, O, O, O, O, O, O, O, O, O, O, O, O, O, O, O, O, O, O, O] rfl rfl (any_of HT_.out (by kernel_rfl)) (fun _ _ _ h => h) (Or.inl ⟨by rfl, ?_⟩) ?_ ?_
    rotate_left
    · intro w'
      go_simp
      with_reducible rfl
    rotate_left
    · simp only [Act.put, ta_, sz_, ss_, i64_w, i32_w]
      rfl
    refine pure_ (i := 22) (N := some 118) (v := ?_) (a' := ?_) #[I, I, I, I, I, I, I, I, I, I, I, I, I, I, I, I, I, I, I, I, I, I, I, O, O, O, O, O, O, O, O, O, O, O, O, O, O, O, O, O, O, O, O, O, O] rfl rfl (any_of HT_.out (by kernel_rfl)) (fun _ _ _ h => h) (Or.inl ⟨by rfl, ?_⟩) ?_ ?_
    rotate_left
    · intro w'
      go_simp
      with_reducible rfl
    rotate_left
    · simp only [Act.put, ta_, sz_, ss_, i64_w, i32_w]
      rfl
    refine take_ (i := 23) (N := some 119) (v := ?_) (a' := ?_) #[I, I, I, I, I, I, I, I, I, I, I, I, I, I, I, I, I, I, I, I, I, I, I, I, O, O, O, O, O, O, O, O, O, O, O, O, O, O, O, O, O, O, O, O, O] rfl rfl (take_ofW HT_.out HW_.out (by kernel_rfl)) (fun _ _ _ h => h) (Or.inl ⟨by rfl, ?_⟩) hHeld ?_ ?_
    rotate_left
    · rintro w' s0
      have q0 := (blk_cell (blk_below (blk_below Km027.out b28_.out) s0) 0).trans rfl
      have q1 := (blk_cell (blk_below (blk_below Km027.out b28_.out) s0) 1).trans rfl
      have q2 := (blk_cell (blk_below (blk_below Km027.out b28_.out) s0) 2).trans rfl
      go_simp
      with_reducible rfl
    rotate_left
    · simp only [Act.put, ta_, sz_, ss_, i64_w, i32_w]
      rfl
    refine take_ (i := 25) (N := some 121) (v := ?_) (a' := ?_) #[I, I, I, I, I, I, I, I, I, I, I, I, I, I, I, I, I, I, I, I, I, I, I, I, O, I, O, O, O, O, O, O, O, O, O, O, O, O, O, O, O, O, O, O, O] rfl rfl (take_ofW HT_.out HW_.out (by kernel_rfl)) (fun _ _ _ h => h) (Or.inl ⟨by rfl, ?_⟩) hHeld ?_ ?_
    rotate_left
    · rintro w' s0
      have q0 := (blk_cell (blk_below (blk_below Kf27.out b28_.out) s0) 0).trans rfl
      have q1 := (blk_cell (blk_below (blk_below Kf27.out b28_.out) s0) 1).trans rfl
      have q2 := (blk_cell (blk_below (blk_below Kf27.out b28_.out) s0) 2).trans rfl
      go_simp
      with_reducible rfl
    rotate_left
    · simp only [Act.put, ta_, sz_, ss_, i64_w, i32_w]
      rfl
    refine one_ (i := 24) (N := some 120) #[I, I, I, I, I, I, I, I, I, I, I, I, I, I, I, I, I, I, I, I, I, I, I, I, I, I, O, O, O, O, O, O, O, O, O, O, O, O, O, O, O, O, O, O, O] rfl rfl (one_of HT_.out (by kernel_rfl)) (by decide) (fun K hK => ?_)
    have HDq := Aside0.mk hHeld
    refine goes_ Try.func37 (by kernel_rfl) rfl #[.agg #[.int .i64 v1, .slice Am0 m0.length cm0, .int .i64 sm0]] (by rfl) rfl rfl (by simp only [List.map_toArray, List.map_cons, List.map_nil]; rfl) ?_
    refine (cantinglaw02_own.calls fu v1 Am0 cm0 m0 sm0 v1 mw sm0 _ (Kd.R_reads' (Kd.R_below (Kd.R_below Rm027.out b28_.out) HDq.out)).2.2 (Kd.R_reads' (Kd.R_below (Kd.R_below Rm027.out b28_.out) HDq.out)).2.1 HK.out.w_mw).mono ?_
    rintro e wo ⟨vo, rfl, hRo, hBo⟩
    obtain ⟨ARmw, cRmw, rfl, _, _⟩ := Kd.R_reads hRo
    refine ⟨_, rfl, ?_⟩
    have Rmw := Aside0.mk (Kd.R_lower hRo HDq.out.size)
    replace HDq := Aside0.mk (below_then HDq.out HDq.out.size hBo)
    clear hRo hBo hHeld
    refine hK.out _ _ HDq.out (fun hHeld => ?_)
    clear hK K
    refine norm_ (a' := ?_) ?_ ?_
    rotate_left
    · show Act.put _ (some 120) _ = _
      (try simp only [Act.put, ta_, sz_, ss_, i64_w, i32_w])
      rfl
    refine one_ (i := 26) (N := some 122) #[I, I, I, I, I, I, I, I, I, I, I, I, I, I, I, I, I, I, I, I, I, I, I, I, I, I, I, O, O, O, O, O, O, O, O, O, O, O, O, O, O, O, O, O, O] rfl rfl (one_of HT_.out (by kernel_rfl)) (by decide) (fun K hK => ?_)
    have HDq := Aside0.mk hHeld
    clear hHeld
    refine goes_ Try.func36 (by kernel_rfl) rfl #[.agg #[.int .i64 v1, .slice ARmw mw.length cRmw, .int .i64 sm0], .agg #[.int .i64 v1, .slice A1 k1.length c1, .int .i64 r1]] (by rfl) rfl rfl (by simp only [List.map_toArray, List.map_cons, List.map_nil]; rfl) ?_
    refine (cantingref02_Same.calls fu v1 ARmw cRmw mw sm0 v1 A1 c1 k1 r1 true _ (Kd.R_reads' Rmw.out).2.2 (Kd.R_reads' Rmw.out).2.1 (Kd.C_below (Kd.C_below HCf.out HB28.out) HDq.out) hcf HK.out.s1).mono ?_
    rintro e wo ⟨rfl, hBo⟩
    refine ⟨_, rfl, ?_⟩
    replace HDq := Aside0.mk (below_then HDq.out HDq.out.size hBo)
    clear hBo
    refine hK.out _ _ HDq.out (fun hHeld => ?_)
    clear hK K
    refine norm_ (a' := ?_) ?_ ?_
    rotate_left
    · show Act.put _ (some 122) _ = _
      (try simp only [Act.put, ta_, sz_, ss_, i64_w, i32_w])
      rfl
    refine pure_ (i := 27) (N := some 123) (v := ?_) (a' := ?_) #[I, I, I, I, I, I, I, I, I, I, I, I, I, I, I, I, I, I, I, I, I, I, I, I, I, I, I, I, O, O, O, O, O, O, O, O, O, O, O, O, O, O, O, O, O] rfl rfl (any_of HT_.out (by kernel_rfl)) (fun _ _ _ h => h) (Or.inl ⟨by rfl, ?_⟩) ?_ ?_
    rotate_left
    · intro w'
      go_simp
      with_reducible rfl
    rotate_left
    · simp only [Act.put, ta_, sz_, ss_, i64_w, i32_w]
      rfl
    refine pure_ (i := 28) (N := some 124) (v := ?_) (a' := ?_) #[I, I, I, I, I, I, I, I, I, I, I, I, I, I, I, I, I, I, I, I, I, I, I, I, I, I, I, I, I, O, O, O, O, O, O, O, O, O, O, O, O, O, O, O, O] rfl rfl (any_of HT_.out (by kernel_rfl)) (fun _ _ _ h => h) (Or.inl ⟨by rfl, ?_⟩) ?_ ?_
    rotate_left
    · intro w'
      go_simp
      with_reducible rfl
    rotate_left
    · simp only [Act.put, ta_, sz_, ss_, i64_w, i32_w]
      rfl
    refine pure_ (i := 29) (N := some 125) (v := ?_) (a' := ?_) #[I, I, I, I, I, I, I, I, I, I, I, I, I, I, I, I, I, I, I, I, I, I, I, I, I, I, I, I, I, I, O, O, O, O, O, O, O, O, O, O, O, O, O, O, O] rfl rfl (any_of HT_.out (by kernel_rfl)) (fun _ _ _ h => h) (Or.inl ⟨by rfl, ?_⟩) ?_ ?_
    rotate_left
    · intro w'
      go_simp
      with_reducible rfl
    rotate_left
    · simp only [Act.put, ta_, sz_, ss_, i64_w, i32_w]
      rfl
    refine take_ (i := 30) (N := some 126) (v := ?_) (a' := ?_) #[I, I, I, I, I, I, I, I, I, I, I, I, I, I, I, I, I, I, I, I, I, I, I, I, I, I, I, I, I, I, I, O, O, O, O, O, O, O, O, O, O, O, O, O, O] rfl rfl (take_ofW HT_.out HW_.out (by kernel_rfl)) (fun _ _ _ h => h) (Or.inl ⟨by rfl, ?_⟩) hHeld ?_ ?_
    rotate_left
    · rintro w' s0
      have q0 := (blk_cell (blk_below (blk_below Kab27.out b28_.out) s0) 0).trans rfl
      have q1 := (blk_cell (blk_below (blk_below Kab27.out b28_.out) s0) 1).trans rfl
      have q2 := (blk_cell (blk_below (blk_below Kab27.out b28_.out) s0) 2).trans rfl
      go_simp
      with_reducible rfl
    rotate_left
    · simp only [Act.put, ta_, sz_, ss_, i64_w, i32_w]
      rfl
    refine take_ (i := 32) (N := some 128) (v := ?_) (a' := ?_) #[I, I, I, I, I, I, I, I, I, I, I, I, I, I, I, I, I, I, I, I, I, I, I, I, I, I, I, I, I, I, I, O, I, O, O, O, O, O, O, O, O, O, O, O, O] rfl rfl (take_ofW HT_.out HW_.out (by kernel_rfl)) (fun _ _ _ h => h) (Or.inl ⟨by rfl, ?_⟩) hHeld ?_ ?_
    rotate_left
    · rintro w' s0
      have q0 := (blk_cell (blk_below (blk_below Kba27.out b28_.out) s0) 0).trans rfl
      have q1 := (blk_cell (blk_below (blk_below Kba27.out b28_.out) s0) 1).trans rfl
      have q2 := (blk_cell (blk_below (blk_below Kba27.out b28_.out) s0) 2).trans rfl
      go_simp
      with_reducible rfl
    rotate_left
    · simp only [Act.put, ta_, sz_, ss_, i64_w, i32_w]
      rfl
    refine one_ (i := 31) (N := some 127) #[I, I, I, I, I, I, I, I, I, I, I, I, I, I, I, I, I, I, I, I, I, I, I, I, I, I, I, I, I, I, I, I, I, O, O, O, O, O, O, O, O, O, O, O, O] rfl rfl (one_of HT_.out (by kernel_rfl)) (by decide) (fun K hK => ?_)
    have HDq := Aside0.mk hHeld
    refine goes_ Try.func37 (by kernel_rfl) rfl #[.agg #[.int .i64 v1, .slice Aab ab.length cab, .int .i64 sab]] (by rfl) rfl rfl (by simp only [List.map_toArray, List.map_cons, List.map_nil]; rfl) ?_
    refine (cantinglaw02_own.calls fu v1 Aab cab ab sab v1 abw sab _ (Kd.R_reads' (Kd.R_below (Kd.R_below Rab27.out b28_.out) HDq.out)).2.2 (Kd.R_reads' (Kd.R_below (Kd.R_below Rab27.out b28_.out) HDq.out)).2.1 HK.out.w_abw).mono ?_
    rintro e wo ⟨vo, rfl, hRo, hBo⟩
    obtain ⟨ARabw, cRabw, rfl, _, _⟩ := Kd.R_reads hRo
    refine ⟨_, rfl, ?_⟩
    have Rabw := Aside0.mk (Kd.R_lower hRo HDq.out.size)
    try (replace Rbaw := Aside0.mk (Kd.R_below Rbaw.out hBo))
    replace HDq := Aside0.mk (below_then HDq.out HDq.out.size hBo)
    clear hRo hBo hHeld
    refine hK.out _ _ HDq.out (fun hHeld => ?_)
    clear hK K
    refine norm_ (a' := ?_) ?_ ?_
    rotate_left
    · show Act.put _ (some 127) _ = _
      (try simp only [Act.put, ta_, sz_, ss_, i64_w, i32_w])
      rfl
    refine one_ (i := 33) (N := some 129) #[I, I, I, I, I, I, I, I, I, I, I, I, I, I, I, I, I, I, I, I, I, I, I, I, I, I, I, I, I, I, I, I, I, I, O, O, O, O, O, O, O, O, O, O, O] rfl rfl (one_of HT_.out (by kernel_rfl)) (by decide) (fun K hK => ?_)
    have HDq := Aside0.mk hHeld
    refine goes_ Try.func37 (by kernel_rfl) rfl #[.agg #[.int .i64 v1, .slice Aba ba.length cba, .int .i64 sba]] (by rfl) rfl rfl (by simp only [List.map_toArray, List.map_cons, List.map_nil]; rfl) ?_
    refine (cantinglaw02_own.calls fu v1 Aba cba ba sba v1 baw sba _ (Kd.R_reads' (Kd.R_below (Kd.R_below Rba27.out b28_.out) HDq.out)).2.2 (Kd.R_reads' (Kd.R_below (Kd.R_below Rba27.out b28_.out) HDq.out)).2.1 HK.out.w_baw).mono ?_
    rintro e wo ⟨vo, rfl, hRo, hBo⟩
    obtain ⟨ARbaw, cRbaw, rfl, _, _⟩ := Kd.R_reads hRo
    refine ⟨_, rfl, ?_⟩
    have Rbaw := Aside0.mk (Kd.R_lower hRo HDq.out.size)
    try (replace Rabw := Aside0.mk (Kd.R_below Rabw.out hBo))
    replace HDq := Aside0.mk (below_then HDq.out HDq.out.size hBo)
    clear hRo hBo hHeld
    refine hK.out _ _ HDq.out (fun hHeld => ?_)
    clear hK K
    refine norm_ (a' := ?_) ?_ ?_
    rotate_left
    · show Act.put _ (some 129) _ = _
      (try simp only [Act.put, ta_, sz_, ss_, i64_w, i32_w])
      rfl
    refine one_ (i := 34) (N := some 130) #[I, I, I, I, I, I, I, I, I, I, I, I, I, I, I, I, I, I, I, I, I, I, I, I, I, I, I, I, I, I, I, I, I, I, I, O, O, O, O, O, O, O, O, O, O] rfl rfl (one_of HT_.out (by kernel_rfl)) (by decide) (fun K hK => ?_)
    have HDq := Aside0.mk hHeld
    clear hHeld
    refine goes_ Try.func36 (by kernel_rfl) rfl #[.agg #[.int .i64 v1, .slice ARabw abw.length cRabw, .int .i64 sab], .agg #[.int .i64 v1, .slice ARbaw baw.length cRbaw, .int .i64 sba]] (by rfl) rfl rfl (by simp only [List.map_toArray, List.map_cons, List.map_nil]; rfl) ?_
    refine (cantingref02_Same.calls fu v1 ARabw cRabw abw sab v1 ARbaw cRbaw baw sba true _ (Kd.R_reads' Rabw.out).2.2 (Kd.R_reads' Rabw.out).2.1 (Kd.R_reads' Rbaw.out).2.2 (Kd.R_reads' Rbaw.out).2.1 HK.out.s2).mono ?_
    rintro e wo ⟨rfl, hBo⟩
    refine ⟨_, rfl, ?_⟩
    replace HDq := Aside0.mk (below_then HDq.out HDq.out.size hBo)
    clear hBo
    refine hK.out _ _ HDq.out (fun hHeld => ?_)
    clear hK K
    refine norm_ (a' := ?_) ?_ ?_
    rotate_left
    · show Act.put _ (some 130) _ = _
      (try simp only [Act.put, ta_, sz_, ss_, i64_w, i32_w])
      rfl
    refine pure_ (i := 35) (N := some 131) (v := ?_) (a' := ?_) #[I, I, I, I, I, I, I, I, I, I, I, I, I, I, I, I, I, I, I, I, I, I, I, I, I, I, I, I, I, I, I, I, I, I, I, I, O, O, O, O, O, O, O, O, O] rfl rfl (any_of HT_.out (by kernel_rfl)) (fun _ _ _ h => h) (Or.inl ⟨by rfl, ?_⟩) ?_ ?_
    rotate_left
    · intro w'
      go_simp
      with_reducible rfl
    rotate_left
    · simp only [Act.put, ta_, sz_, ss_, i64_w, i32_w]
      rfl
    refine pure_ (i := 36) (N := some 132) (v := ?_) (a' := ?_) #[I, I, I, I, I, I, I, I, I, I, I, I, I, I, I, I, I, I, I, I, I, I, I, I, I, I, I, I, I, I, I, I, I, I, I, I, I, O, O, O, O, O, O, O, O] rfl rfl (any_of HT_.out (by kernel_rfl)) (fun _ _ _ h => h) (Or.inl ⟨by rfl, ?_⟩) ?_ ?_
    rotate_left
    · intro w'
      go_simp
      with_reducible rfl
    rotate_left
    · simp only [Act.put, ta_, sz_, ss_, i64_w, i32_w]
      rfl
    refine pure_ (i := 37) (N := some 133) (v := ?_) (a' := ?_) #[I, I, I, I, I, I, I, I, I, I, I, I, I, I, I, I, I, I, I, I, I, I, I, I, I, I, I, I, I, I, I, I, I, I, I, I, I, I, O, O, O, O, O, O, O] rfl rfl (any_of HT_.out (by kernel_rfl)) (fun _ _ _ h => h) (Or.inl ⟨by rfl, ?_⟩) ?_ ?_
    rotate_left
    · intro w'
      go_simp
      with_reducible rfl
    rotate_left
    · simp only [Act.put, ta_, sz_, ss_, i64_w, i32_w]
      rfl
    refine take_ (i := 38) (N := some 134) (v := ?_) (a' := ?_) #[I, I, I, I, I, I, I, I, I, I, I, I, I, I, I, I, I, I, I, I, I, I, I, I, I, I, I, I, I, I, I, I, I, I, I, I, I, I, I, O, O, O, O, O, O] rfl rfl (take_ofW HT_.out HW_.out (by kernel_rfl)) (fun _ _ _ h => h) (Or.inl ⟨by rfl, ?_⟩) hHeld ?_ ?_
    rotate_left
    · rintro w' s0
      have q0 := (blk_cell (blk_below Koo28.out s0) 0).trans rfl
      have q1 := (blk_cell (blk_below Koo28.out s0) 1).trans rfl
      have q2 := (blk_cell (blk_below Koo28.out s0) 2).trans rfl
      go_simp
      with_reducible rfl
    rotate_left
    · simp only [Act.put, ta_, sz_, ss_, i64_w, i32_w]
      rfl
    refine take_ (i := 40) (N := some 136) (v := ?_) (a' := ?_) #[I, I, I, I, I, I, I, I, I, I, I, I, I, I, I, I, I, I, I, I, I, I, I, I, I, I, I, I, I, I, I, I, I, I, I, I, I, I, I, O, I, O, O, O, O] rfl rfl (take_ofW HT_.out HW_.out (by kernel_rfl)) (fun _ _ _ h => h) (Or.inl ⟨by rfl, ?_⟩) hHeld ?_ ?_
    rotate_left
    · rintro w' s0
      have q0 := (blk_cell (blk_below (blk_below Kit27.out b28_.out) s0) 0).trans rfl
      have q1 := (blk_cell (blk_below (blk_below Kit27.out b28_.out) s0) 1).trans rfl
      have q2 := (blk_cell (blk_below (blk_below Kit27.out b28_.out) s0) 2).trans rfl
      go_simp
      with_reducible rfl
    rotate_left
    · simp only [Act.put, ta_, sz_, ss_, i64_w, i32_w]
      rfl
    refine one_ (i := 39) (N := some 135) #[I, I, I, I, I, I, I, I, I, I, I, I, I, I, I, I, I, I, I, I, I, I, I, I, I, I, I, I, I, I, I, I, I, I, I, I, I, I, I, I, I, O, O, O, O] rfl rfl (one_of HT_.out (by kernel_rfl)) (by decide) (fun K hK => ?_)
    have HDq := Aside0.mk hHeld
    refine goes_ Try.func37 (by kernel_rfl) rfl #[.agg #[.int .i64 v1, .slice Aoo oo.length coo, .int .i64 soo]] (by rfl) rfl rfl (by simp only [List.map_toArray, List.map_cons, List.map_nil]; rfl) ?_
    refine (cantinglaw02_own.calls fu v1 Aoo coo oo soo v1 ow soo _ (Kd.R_reads' (Kd.R_below (Kd.R_below Roo26.out b28_.out) HDq.out)).2.2 (Kd.R_reads' (Kd.R_below (Kd.R_below Roo26.out b28_.out) HDq.out)).2.1 HK.out.w_ow).mono ?_
    rintro e wo ⟨vo, rfl, hRo, hBo⟩
    obtain ⟨ARow, cRow, rfl, _, _⟩ := Kd.R_reads hRo
    refine ⟨_, rfl, ?_⟩
    have Row := Aside0.mk (Kd.R_lower hRo HDq.out.size)
    try (replace Ritw := Aside0.mk (Kd.R_below Ritw.out hBo))
    replace HDq := Aside0.mk (below_then HDq.out HDq.out.size hBo)
    clear hRo hBo hHeld
    refine hK.out _ _ HDq.out (fun hHeld => ?_)
    clear hK K
    refine norm_ (a' := ?_) ?_ ?_
    rotate_left
    · show Act.put _ (some 135) _ = _
      (try simp only [Act.put, ta_, sz_, ss_, i64_w, i32_w])
      rfl
    refine one_ (i := 41) (N := some 137) #[I, I, I, I, I, I, I, I, I, I, I, I, I, I, I, I, I, I, I, I, I, I, I, I, I, I, I, I, I, I, I, I, I, I, I, I, I, I, I, I, I, I, O, O, O] rfl rfl (one_of HT_.out (by kernel_rfl)) (by decide) (fun K hK => ?_)
    have HDq := Aside0.mk hHeld
    refine goes_ Try.func37 (by kernel_rfl) rfl #[.agg #[.int .i64 v1, .slice Ait it.length cit, .int .i64 sit]] (by rfl) rfl rfl (by simp only [List.map_toArray, List.map_cons, List.map_nil]; rfl) ?_
    refine (cantinglaw02_own.calls fu v1 Ait cit it sit v1 itw sit _ (Kd.R_reads' (Kd.R_below (Kd.R_below Rit27.out b28_.out) HDq.out)).2.2 (Kd.R_reads' (Kd.R_below (Kd.R_below Rit27.out b28_.out) HDq.out)).2.1 HK.out.w_itw).mono ?_
    rintro e wo ⟨vo, rfl, hRo, hBo⟩
    obtain ⟨ARitw, cRitw, rfl, _, _⟩ := Kd.R_reads hRo
    refine ⟨_, rfl, ?_⟩
    have Ritw := Aside0.mk (Kd.R_lower hRo HDq.out.size)
    try (replace Row := Aside0.mk (Kd.R_below Row.out hBo))
    replace HDq := Aside0.mk (below_then HDq.out HDq.out.size hBo)
    clear hRo hBo hHeld
    refine hK.out _ _ HDq.out (fun hHeld => ?_)
    clear hK K
    refine norm_ (a' := ?_) ?_ ?_
    rotate_left
    · show Act.put _ (some 137) _ = _
      (try simp only [Act.put, ta_, sz_, ss_, i64_w, i32_w])
      rfl
    refine last_ (i := 42) (N := some 138) #[I, I, I, I, I, I, I, I, I, I, I, I, I, I, I, I, I, I, I, I, I, I, I, I, I, I, I, I, I, I, I, I, I, I, I, I, I, I, I, I, I, I, I, O, O] rfl rfl (one_of HT_.out (by kernel_rfl)) (by decide) (fun K hK => ?_)
    have HDq := Aside0.mk hHeld
    clear hHeld
    refine goes_ Try.func36 (by kernel_rfl) rfl #[.agg #[.int .i64 v1, .slice ARow ow.length cRow, .int .i64 soo], .agg #[.int .i64 v1, .slice ARitw itw.length cRitw, .int .i64 sit]] (by rfl) rfl rfl (by simp only [List.map_toArray, List.map_cons, List.map_nil]; rfl) ?_
    refine (cantingref02_Same.calls fu v1 ARow cRow ow soo v1 ARitw cRitw itw sit true _ (Kd.R_reads' Row.out).2.2 (Kd.R_reads' Row.out).2.1 (Kd.R_reads' Ritw.out).2.2 (Kd.R_reads' Ritw.out).2.1 HK.out.s3).mono ?_
    rintro e wo ⟨rfl, hBo⟩
    refine ⟨_, rfl, ?_⟩
    replace HDq := Aside0.mk (below_then HDq.out HDq.out.size hBo)
    clear hBo
    refine hK.out _ _ ?_
    clear hK K
    refine norm_ (a' := ?_) ?_ ?_
    rotate_left
    · show Act.put _ (some 138) _ = _
      (try simp only [Act.put, ta_, sz_, ss_, i64_w, i32_w])
      rfl
    refine pure_ (i := 43) (N := some 139) (v := ?_) (a' := ?_) #[I, I, I, I, I, I, I, I, I, I, I, I, I, I, I, I, I, I, I, I, I, I, I, I, I, I, I, I, I, I, I, I, I, I, I, I, I, I, I, I, I, I, I, I, O] rfl rfl (any_of HT_.out (by kernel_rfl)) (fun _ _ _ h => h) (Or.inl ⟨by rfl, ?_⟩) ?_ ?_
    rotate_left
    · intro w'
      go_simp
      with_reducible rfl
    rotate_left
    · simp only [Act.put, ta_, sz_, ss_, i64_w, i32_w]
      rfl
    refine pure_ (i := 44) (N := some 140) (v := ?_) (a' := ?_) #[I, I, I, I, I, I, I, I, I, I, I, I, I, I, I, I, I, I, I, I, I, I, I, I, I, I, I, I, I, I, I, I, I, I, I, I, I, I, I, I, I, I, I, I, I] rfl rfl (any_of HT_.out (by kernel_rfl)) (fun _ _ _ h => h) (Or.inl ⟨by rfl, ?_⟩) ?_ ?_
    rotate_left
    · intro w'
      go_simp
      with_reducible rfl
    rotate_left
    · simp only [Act.put, ta_, sz_, ss_, i64_w, i32_w]
      rfl
    refine done_ (done_of HT_.out (by kernel_rfl)) ?_
    obtain ⟨x29, hx29⟩ : ∃ W, W = wo := ⟨_, rfl⟩
    rw [← hx29] at HDq
    rw [← hx29]
    clear hx29
    have HB30 := Aside0.mk (below_then HB28.out (HB28.out).size HDq.out)
    have c30_ := Aside0.mk (below_then b28_.out b28_.out.size HDq.out)
    have Kf30 := Aside0.mk (blk_below Kf27.out c30_.out)
    have Ka30 := Aside0.mk (blk_below Ka27.out c30_.out)
    have Kb30 := Aside0.mk (blk_below Kb27.out c30_.out)
    have Kc30 := Aside0.mk (blk_below Kc27.out c30_.out)
    have Kit30 := Aside0.mk (blk_below Kit27.out c30_.out)
    have Kn030 := Aside0.mk (blk_below Kn027.out c30_.out)
    have Km030 := Aside0.mk (blk_below Km027.out c30_.out)
    have Kab30 := Aside0.mk (blk_below Kab27.out c30_.out)
    have Kba30 := Aside0.mk (blk_below Kba27.out c30_.out)
    have Knc30 := Aside0.mk (blk_below Knc27.out c30_.out)
    have Koo30 := Aside0.mk (blk_below Koo28.out HDq.out)
    have Ro130 := Aside0.mk (Kd.R_below Ro127.out c30_.out)
    have Ro230 := Aside0.mk (Kd.R_below Ro227.out c30_.out)
    have Ro330 := Aside0.mk (Kd.R_below Ro327.out c30_.out)
    have Rit30 := Aside0.mk (Kd.R_below Rit27.out c30_.out)
    have Rn030 := Aside0.mk (Kd.R_below Rn027.out c30_.out)
    have Rm030 := Aside0.mk (Kd.R_below Rm027.out c30_.out)
    have Rab30 := Aside0.mk (Kd.R_below Rab27.out c30_.out)
    have Rba30 := Aside0.mk (Kd.R_below Rba27.out c30_.out)
    have Rnc30 := Aside0.mk (Kd.R_below Rnc27.out c30_.out)
    have Roo30 := Aside0.mk (Kd.R_below Roo26.out c30_.out)
    have yb0_31 := (blk_cell Kb30.out 0).trans rfl
    have yb1_31 := (blk_cell Kb30.out 1).trans rfl
    have yb2_31 := (blk_cell Kb30.out 2).trans rfl
    have yc0_31 := (blk_cell Kc30.out 0).trans rfl
    have yc1_31 := (blk_cell Kc30.out 1).trans rfl
    have yc2_31 := (blk_cell Kc30.out 2).trans rfl
    go_wp2_with fail
    obtain ⟨W32, hW32⟩ : ∃ W, W = x29 := ⟨_, rfl⟩
    have b32_ := Aside0.mk (show Below x29.heap.size x29 W32 by rw [hW32]; exact Below.refl _ _)
    have HB32 := Aside0.mk (below_then HB30.out HB30.out.size b32_.out)
    rw [← hW32]
    clear hW32
    clear yb0_31 yb1_31 yb2_31 yc0_31 yc1_31 yc2_31
    refine (mask_Or.calls v1 Ao2 co2 o2 r2 v1 Ao3 co3 o3 r3 v1 bc sbc 0 _ (Kd.R_reads' (Kd.R_below Ro230.out b32_.out)).2.2 (Kd.R_reads' (Kd.R_below Ro230.out b32_.out)).2.1 (Kd.R_reads' (Kd.R_below Ro330.out b32_.out)).2.2 (Kd.R_reads' (Kd.R_below Ro330.out b32_.out)).2.1 HK.out.h_bc).mono ?_
    rintro e w33 ⟨vbc_, rfl, hRbc, hb33⟩
    obtain ⟨Abc, cbc, rfl, hcbc, _⟩ := Kd.R_reads hRbc
    have HB34 := Aside0.mk (below_then HB32.out (HB32.out).size hb33)
    have c34_ := Aside0.mk (below_then b32_.out b32_.out.size hb33)
    have Kf34 := Aside0.mk (blk_below Kf30.out c34_.out)
    have Ka34 := Aside0.mk (blk_below Ka30.out c34_.out)
    have Kb34 := Aside0.mk (blk_below Kb30.out c34_.out)
    have Kc34 := Aside0.mk (blk_below Kc30.out c34_.out)
    have Kn034 := Aside0.mk (blk_below Kn030.out c34_.out)
    have Kab34 := Aside0.mk (blk_below Kab30.out c34_.out)
    have Ro134 := Aside0.mk (Kd.R_below Ro130.out c34_.out)
    have Ro234 := Aside0.mk (Kd.R_below Ro230.out c34_.out)
    have Ro334 := Aside0.mk (Kd.R_below Ro330.out c34_.out)
    have Rn034 := Aside0.mk (Kd.R_below Rn030.out c34_.out)
    have Rab34 := Aside0.mk (Kd.R_below Rab30.out c34_.out)
    have Rbc33 := Aside0.mk (Kd.R_lower hRbc (HB32.out).size)
    clear hb33 hRbc Ka27 Kab27 Kb27 Kba27 Kc27 Kf27 Kit27 Km027 Kn027 Knc27 Koo28 Rab27 Rba27 Rit27 Rm027 Rn027 Rnc27 Ro127 Ro227 Ro327 Roo26 Ka30 Kab30 Kb30 Kc30 Kf30 Kn030 Rab30 Rn030 Ro130 Ro230 Ro330
    have ya0_35 := (blk_cell (blk_alloc Ka34.out (.cells #[.int .i64 v1, .slice Abc bc.length cbc, .int .i64 sbc] 28)) 0).trans rfl
    have ya1_35 := (blk_cell (blk_alloc Ka34.out (.cells #[.int .i64 v1, .slice Abc bc.length cbc, .int .i64 sbc] 28)) 1).trans rfl
    have ya2_35 := (blk_cell (blk_alloc Ka34.out (.cells #[.int .i64 v1, .slice Abc bc.length cbc, .int .i64 sbc] 28)) 2).trans rfl
    have ybc0_35 := (blk_cell (blk_new w33 (.cells #[.int .i64 v1, .slice Abc bc.length cbc, .int .i64 sbc] 28)) 0).trans rfl
    have ybc1_35 := (blk_cell (blk_new w33 (.cells #[.int .i64 v1, .slice Abc bc.length cbc, .int .i64 sbc] 28)) 1).trans rfl
    have ybc2_35 := (blk_cell (blk_new w33 (.cells #[.int .i64 v1, .slice Abc bc.length cbc, .int .i64 sbc] 28)) 2).trans rfl
    go_wp2_with fail
    obtain ⟨W36, hW36⟩ : ∃ W, W = (w33.alloc (.cells #[.int .i64 v1, .slice Abc bc.length cbc, .int .i64 sbc] 28)) := ⟨_, rfl⟩
    have b36_ := Aside0.mk (show Below w33.heap.size w33 W36 by rw [hW36]; exact below_alloc (Below.refl _ _) _)
    have Kbc36 := Aside0.mk (show W36.heap[w33.heap.size]? = some (.cells #[.int .i64 v1, .slice Abc bc.length cbc, .int .i64 sbc] 28 (0, 0)) by rw [hW36]; exact blk_new _ _)
    have HB36 := Aside0.mk (below_then HB34.out HB34.out.size b36_.out)
    rw [← hW36]
    clear hW36
    clear ya0_35 ya1_35 ya2_35 ybc0_35 ybc1_35 ybc2_35
    refine (mask_And.calls v1 Ao1 co1 o1 r1 v1 Abc cbc bc sbc v1 le sle 0 _ (Kd.R_reads' (Kd.R_below Ro134.out b36_.out)).2.2 (Kd.R_reads' (Kd.R_below Ro134.out b36_.out)).2.1 (Kd.R_reads' (Kd.R_below Rbc33.out b36_.out)).2.2 (Kd.R_reads' (Kd.R_below Rbc33.out b36_.out)).2.1 HK.out.h_le).mono ?_
    rintro e w37 ⟨vle_, rfl, hRle, hb37⟩
    obtain ⟨Ale, cle, rfl, hcle, _⟩ := Kd.R_reads hRle
    have HB38 := Aside0.mk (below_then HB36.out (HB36.out).size hb37)
    have c38_ := Aside0.mk (below_then b36_.out b36_.out.size hb37)
    have Kf38 := Aside0.mk (blk_below Kf34.out c38_.out)
    have Ka38 := Aside0.mk (blk_below Ka34.out c38_.out)
    have Kb38 := Aside0.mk (blk_below Kb34.out c38_.out)
    have Kc38 := Aside0.mk (blk_below Kc34.out c38_.out)
    have Kn038 := Aside0.mk (blk_below Kn034.out c38_.out)
    have Kab38 := Aside0.mk (blk_below Kab34.out c38_.out)
    have Kbc38 := Aside0.mk (blk_below Kbc36.out hb37)
    have Ro138 := Aside0.mk (Kd.R_below Ro134.out c38_.out)
    have Ro238 := Aside0.mk (Kd.R_below Ro234.out c38_.out)
    have Ro338 := Aside0.mk (Kd.R_below Ro334.out c38_.out)
    have Rn038 := Aside0.mk (Kd.R_below Rn034.out c38_.out)
    have Rab38 := Aside0.mk (Kd.R_below Rab34.out c38_.out)
    have Rbc38 := Aside0.mk (Kd.R_below Rbc33.out c38_.out)
    have Rle37 := Aside0.mk (Kd.R_lower hRle (HB36.out).size)
    clear hb37 hRle Ka34 Kab34 Kb34 Kbc36 Kc34 Kf34 Kn034 Rab34 Rbc33 Rn034 Ro134 Ro234 Ro334
    have ya0_39 := (blk_cell (blk_alloc Ka38.out (.cells #[.int .i64 v1, .slice Ale le.length cle, .int .i64 sle] 28)) 0).trans rfl
    have ya1_39 := (blk_cell (blk_alloc Ka38.out (.cells #[.int .i64 v1, .slice Ale le.length cle, .int .i64 sle] 28)) 1).trans rfl
    have ya2_39 := (blk_cell (blk_alloc Ka38.out (.cells #[.int .i64 v1, .slice Ale le.length cle, .int .i64 sle] 28)) 2).trans rfl
    have yc0_39 := (blk_cell (blk_alloc Kc38.out (.cells #[.int .i64 v1, .slice Ale le.length cle, .int .i64 sle] 28)) 0).trans rfl
    have yc1_39 := (blk_cell (blk_alloc Kc38.out (.cells #[.int .i64 v1, .slice Ale le.length cle, .int .i64 sle] 28)) 1).trans rfl
    have yc2_39 := (blk_cell (blk_alloc Kc38.out (.cells #[.int .i64 v1, .slice Ale le.length cle, .int .i64 sle] 28)) 2).trans rfl
    go_wp2_with fail
    obtain ⟨W40, hW40⟩ : ∃ W, W = (w37.alloc (.cells #[.int .i64 v1, .slice Ale le.length cle, .int .i64 sle] 28)) := ⟨_, rfl⟩
    have b40_ := Aside0.mk (show Below w37.heap.size w37 W40 by rw [hW40]; exact below_alloc (Below.refl _ _) _)
    have Kle40 := Aside0.mk (show W40.heap[w37.heap.size]? = some (.cells #[.int .i64 v1, .slice Ale le.length cle, .int .i64 sle] 28 (0, 0)) by rw [hW40]; exact blk_new _ _)
    have HB40 := Aside0.mk (below_then HB38.out HB38.out.size b40_.out)
    rw [← hW40]
    clear hW40
    clear ya0_39 ya1_39 ya2_39 yc0_39 yc1_39 yc2_39
    refine (mask_And.calls v1 Ao1 co1 o1 r1 v1 Ao3 co3 o3 r3 v1 ac sac 0 _ (Kd.R_reads' (Kd.R_below Ro138.out b40_.out)).2.2 (Kd.R_reads' (Kd.R_below Ro138.out b40_.out)).2.1 (Kd.R_reads' (Kd.R_below Ro338.out b40_.out)).2.2 (Kd.R_reads' (Kd.R_below Ro338.out b40_.out)).2.1 HK.out.h_ac).mono ?_
    rintro e w41 ⟨vac_, rfl, hRac, hb41⟩
    obtain ⟨Aac, cac, rfl, hcac, _⟩ := Kd.R_reads hRac
    have HB42 := Aside0.mk (below_then HB40.out (HB40.out).size hb41)
    have c42_ := Aside0.mk (below_then b40_.out b40_.out.size hb41)
    have Kf42 := Aside0.mk (blk_below Kf38.out c42_.out)
    have Ka42 := Aside0.mk (blk_below Ka38.out c42_.out)
    have Kb42 := Aside0.mk (blk_below Kb38.out c42_.out)
    have Kc42 := Aside0.mk (blk_below Kc38.out c42_.out)
    have Kn042 := Aside0.mk (blk_below Kn038.out c42_.out)
    have Kab42 := Aside0.mk (blk_below Kab38.out c42_.out)
    have Kbc42 := Aside0.mk (blk_below Kbc38.out c42_.out)
    have Kle42 := Aside0.mk (blk_below Kle40.out hb41)
    have Ro142 := Aside0.mk (Kd.R_below Ro138.out c42_.out)
    have Ro242 := Aside0.mk (Kd.R_below Ro238.out c42_.out)
    have Ro342 := Aside0.mk (Kd.R_below Ro338.out c42_.out)
    have Rn042 := Aside0.mk (Kd.R_below Rn038.out c42_.out)
    have Rab42 := Aside0.mk (Kd.R_below Rab38.out c42_.out)
    have Rbc42 := Aside0.mk (Kd.R_below Rbc38.out c42_.out)
    have Rle42 := Aside0.mk (Kd.R_below Rle37.out c42_.out)
    have Rac41 := Aside0.mk (Kd.R_lower hRac (HB40.out).size)
    clear hb41 hRac Ka38 Kab38 Kb38 Kbc38 Kc38 Kf38 Kle40 Kn038 Rab38 Rbc38 Rle37 Rn038 Ro138 Ro238 Ro338
    have yab0_43 := (blk_cell (blk_alloc Kab42.out (.cells #[.int .i64 v1, .slice Aac ac.length cac, .int .i64 sac] 28)) 0).trans rfl
    have yab1_43 := (blk_cell (blk_alloc Kab42.out (.cells #[.int .i64 v1, .slice Aac ac.length cac, .int .i64 sac] 28)) 1).trans rfl
    have yab2_43 := (blk_cell (blk_alloc Kab42.out (.cells #[.int .i64 v1, .slice Aac ac.length cac, .int .i64 sac] 28)) 2).trans rfl
    have yac0_43 := (blk_cell (blk_new w41 (.cells #[.int .i64 v1, .slice Aac ac.length cac, .int .i64 sac] 28)) 0).trans rfl
    have yac1_43 := (blk_cell (blk_new w41 (.cells #[.int .i64 v1, .slice Aac ac.length cac, .int .i64 sac] 28)) 1).trans rfl
    have yac2_43 := (blk_cell (blk_new w41 (.cells #[.int .i64 v1, .slice Aac ac.length cac, .int .i64 sac] 28)) 2).trans rfl
    go_wp2_with fail
    obtain ⟨W44, hW44⟩ : ∃ W, W = (w41.alloc (.cells #[.int .i64 v1, .slice Aac ac.length cac, .int .i64 sac] 28)) := ⟨_, rfl⟩
    have b44_ := Aside0.mk (show Below w41.heap.size w41 W44 by rw [hW44]; exact below_alloc (Below.refl _ _) _)
    have Kac44 := Aside0.mk (show W44.heap[w41.heap.size]? = some (.cells #[.int .i64 v1, .slice Aac ac.length cac, .int .i64 sac] 28 (0, 0)) by rw [hW44]; exact blk_new _ _)
    have HB44 := Aside0.mk (below_then HB42.out HB42.out.size b44_.out)
    rw [← hW44]
    clear hW44
    clear yab0_43 yab1_43 yab2_43 yac0_43 yac1_43 yac2_43
    refine (mask_Or.calls v1 Aab cab ab sab v1 Aac cac ac sac v1 ri sri 0 _ (Kd.R_reads' (Kd.R_below Rab42.out b44_.out)).2.2 (Kd.R_reads' (Kd.R_below Rab42.out b44_.out)).2.1 (Kd.R_reads' (Kd.R_below Rac41.out b44_.out)).2.2 (Kd.R_reads' (Kd.R_below Rac41.out b44_.out)).2.1 HK.out.h_ri).mono ?_
    rintro e w45 ⟨vri_, rfl, hRri, hb45⟩
    obtain ⟨Ari, cri, rfl, hcri, _⟩ := Kd.R_reads hRri
    have HB46 := Aside0.mk (below_then HB44.out (HB44.out).size hb45)
    have c46_ := Aside0.mk (below_then b44_.out b44_.out.size hb45)
    have Kf46 := Aside0.mk (blk_below Kf42.out c46_.out)
    have Ka46 := Aside0.mk (blk_below Ka42.out c46_.out)
    have Kb46 := Aside0.mk (blk_below Kb42.out c46_.out)
    have Kc46 := Aside0.mk (blk_below Kc42.out c46_.out)
    have Kn046 := Aside0.mk (blk_below Kn042.out c46_.out)
    have Kab46 := Aside0.mk (blk_below Kab42.out c46_.out)
    have Kbc46 := Aside0.mk (blk_below Kbc42.out c46_.out)
    have Kle46 := Aside0.mk (blk_below Kle42.out c46_.out)
    have Kac46 := Aside0.mk (blk_below Kac44.out hb45)
    have Ro146 := Aside0.mk (Kd.R_below Ro142.out c46_.out)
    have Ro246 := Aside0.mk (Kd.R_below Ro242.out c46_.out)
    have Ro346 := Aside0.mk (Kd.R_below Ro342.out c46_.out)
    have Rn046 := Aside0.mk (Kd.R_below Rn042.out c46_.out)
    have Rab46 := Aside0.mk (Kd.R_below Rab42.out c46_.out)
    have Rbc46 := Aside0.mk (Kd.R_below Rbc42.out c46_.out)
    have Rle46 := Aside0.mk (Kd.R_below Rle42.out c46_.out)
    have Rac46 := Aside0.mk (Kd.R_below Rac41.out c46_.out)
    have Rri45 := Aside0.mk (Kd.R_lower hRri (HB44.out).size)
    clear hb45 hRri Ka42 Kab42 Kac44 Kb42 Kbc42 Kc42 Kf42 Kle42 Kn042 Rab42 Rac41 Rbc42 Rle42 Rn042 Ro142 Ro242 Ro342
    have yb0_47 := (blk_cell (blk_alloc Kb46.out (.cells #[.int .i64 v1, .slice Ari ri.length cri, .int .i64 sri] 28)) 0).trans rfl
    have yb1_47 := (blk_cell (blk_alloc Kb46.out (.cells #[.int .i64 v1, .slice Ari ri.length cri, .int .i64 sri] 28)) 1).trans rfl
    have yb2_47 := (blk_cell (blk_alloc Kb46.out (.cells #[.int .i64 v1, .slice Ari ri.length cri, .int .i64 sri] 28)) 2).trans rfl
    go_wp2_with fail
    obtain ⟨W48, hW48⟩ : ∃ W, W = (w45.alloc (.cells #[.int .i64 v1, .slice Ari ri.length cri, .int .i64 sri] 28)) := ⟨_, rfl⟩
    have b48_ := Aside0.mk (show Below w45.heap.size w45 W48 by rw [hW48]; exact below_alloc (Below.refl _ _) _)
    have Kri48 := Aside0.mk (show W48.heap[w45.heap.size]? = some (.cells #[.int .i64 v1, .slice Ari ri.length cri, .int .i64 sri] 28 (0, 0)) by rw [hW48]; exact blk_new _ _)
    have HB48 := Aside0.mk (below_then HB46.out HB46.out.size b48_.out)
    rw [← hW48]
    clear hW48
    clear yb0_47 yb1_47 yb2_47
    refine (mask_Not.calls v1 Ao2 co2 o2 r2 v1 nb snb 0 _ (Kd.R_reads' (Kd.R_below Ro246.out b48_.out)).2.2 (Kd.R_reads' (Kd.R_below Ro246.out b48_.out)).2.1 HK.out.h_nb).mono ?_
    rintro e w49 ⟨vnb_, rfl, hRnb, hb49⟩
    obtain ⟨Anb, cnb, rfl, hcnb, _⟩ := Kd.R_reads hRnb
    have HB50 := Aside0.mk (below_then HB48.out (HB48.out).size hb49)
    have c50_ := Aside0.mk (below_then b48_.out b48_.out.size hb49)
    have Kf50 := Aside0.mk (blk_below Kf46.out c50_.out)
    have Ka50 := Aside0.mk (blk_below Ka46.out c50_.out)
    have Kb50 := Aside0.mk (blk_below Kb46.out c50_.out)
    have Kc50 := Aside0.mk (blk_below Kc46.out c50_.out)
    have Kn050 := Aside0.mk (blk_below Kn046.out c50_.out)
    have Kab50 := Aside0.mk (blk_below Kab46.out c50_.out)
    have Kbc50 := Aside0.mk (blk_below Kbc46.out c50_.out)
    have Kle50 := Aside0.mk (blk_below Kle46.out c50_.out)
    have Kac50 := Aside0.mk (blk_below Kac46.out c50_.out)
    have Kri50 := Aside0.mk (blk_below Kri48.out hb49)
    have Ro150 := Aside0.mk (Kd.R_below Ro146.out c50_.out)
    have Ro250 := Aside0.mk (Kd.R_below Ro246.out c50_.out)
    have Ro350 := Aside0.mk (Kd.R_below Ro346.out c50_.out)
    have Rn050 := Aside0.mk (Kd.R_below Rn046.out c50_.out)
    have Rab50 := Aside0.mk (Kd.R_below Rab46.out c50_.out)
    have Rbc50 := Aside0.mk (Kd.R_below Rbc46.out c50_.out)
    have Rle50 := Aside0.mk (Kd.R_below Rle46.out c50_.out)
    have Rac50 := Aside0.mk (Kd.R_below Rac46.out c50_.out)
    have Rri50 := Aside0.mk (Kd.R_below Rri45.out c50_.out)
    have Rnb49 := Aside0.mk (Kd.R_lower hRnb (HB48.out).size)
    clear hb49 hRnb Ka46 Kab46 Kac46 Kb46 Kbc46 Kc46 Kf46 Kle46 Kn046 Kri48 Rab46 Rac46 Rbc46 Rle46 Rn046 Ro146 Ro246 Ro346 Rri45
    have yn00_51 := (blk_cell (blk_alloc Kn050.out (.cells #[.int .i64 v1, .slice Anb nb.length cnb, .int .i64 snb] 28)) 0).trans rfl
    have yn01_51 := (blk_cell (blk_alloc Kn050.out (.cells #[.int .i64 v1, .slice Anb nb.length cnb, .int .i64 snb] 28)) 1).trans rfl
    have yn02_51 := (blk_cell (blk_alloc Kn050.out (.cells #[.int .i64 v1, .slice Anb nb.length cnb, .int .i64 snb] 28)) 2).trans rfl
    have ynb0_51 := (blk_cell (blk_new w49 (.cells #[.int .i64 v1, .slice Anb nb.length cnb, .int .i64 snb] 28)) 0).trans rfl
    have ynb1_51 := (blk_cell (blk_new w49 (.cells #[.int .i64 v1, .slice Anb nb.length cnb, .int .i64 snb] 28)) 1).trans rfl
    have ynb2_51 := (blk_cell (blk_new w49 (.cells #[.int .i64 v1, .slice Anb nb.length cnb, .int .i64 snb] 28)) 2).trans rfl
    go_wp2_with fail
    obtain ⟨W52, hW52⟩ : ∃ W, W = (w49.alloc (.cells #[.int .i64 v1, .slice Anb nb.length cnb, .int .i64 snb] 28)) := ⟨_, rfl⟩
    have b52_ := Aside0.mk (show Below w49.heap.size w49 W52 by rw [hW52]; exact below_alloc (Below.refl _ _) _)
    have Knb52 := Aside0.mk (show W52.heap[w49.heap.size]? = some (.cells #[.int .i64 v1, .slice Anb nb.length cnb, .int .i64 snb] 28 (0, 0)) by rw [hW52]; exact blk_new _ _)
    have HB52 := Aside0.mk (below_then HB50.out HB50.out.size b52_.out)
    rw [← hW52]
    clear hW52
    clear yn00_51 yn01_51 yn02_51 ynb0_51 ynb1_51 ynb2_51
    refine (mask_Or.calls v1 An0 cn0 n0 sn0 v1 Anb cnb nb snb v1 nn snn 0 _ (Kd.R_reads' (Kd.R_below Rn050.out b52_.out)).2.2 (Kd.R_reads' (Kd.R_below Rn050.out b52_.out)).2.1 (Kd.R_reads' (Kd.R_below Rnb49.out b52_.out)).2.2 (Kd.R_reads' (Kd.R_below Rnb49.out b52_.out)).2.1 HK.out.h_nn).mono ?_
    rintro e w53 ⟨vnn_, rfl, hRnn, hb53⟩
    obtain ⟨Ann, cnn, rfl, hcnn, _⟩ := Kd.R_reads hRnn
    have HB54 := Aside0.mk (below_then HB52.out (HB52.out).size hb53)
    have c54_ := Aside0.mk (below_then b52_.out b52_.out.size hb53)
    have Kf54 := Aside0.mk (blk_below Kf50.out c54_.out)
    have Ka54 := Aside0.mk (blk_below Ka50.out c54_.out)
    have Kb54 := Aside0.mk (blk_below Kb50.out c54_.out)
    have Kc54 := Aside0.mk (blk_below Kc50.out c54_.out)
    have Kn054 := Aside0.mk (blk_below Kn050.out c54_.out)
    have Kab54 := Aside0.mk (blk_below Kab50.out c54_.out)
    have Kbc54 := Aside0.mk (blk_below Kbc50.out c54_.out)
    have Kle54 := Aside0.mk (blk_below Kle50.out c54_.out)
    have Kac54 := Aside0.mk (blk_below Kac50.out c54_.out)
    have Kri54 := Aside0.mk (blk_below Kri50.out c54_.out)
    have Knb54 := Aside0.mk (blk_below Knb52.out hb53)
    have Ro154 := Aside0.mk (Kd.R_below Ro150.out c54_.out)
    have Ro254 := Aside0.mk (Kd.R_below Ro250.out c54_.out)
    have Ro354 := Aside0.mk (Kd.R_below Ro350.out c54_.out)
    have Rn054 := Aside0.mk (Kd.R_below Rn050.out c54_.out)
    have Rab54 := Aside0.mk (Kd.R_below Rab50.out c54_.out)
    have Rbc54 := Aside0.mk (Kd.R_below Rbc50.out c54_.out)
    have Rle54 := Aside0.mk (Kd.R_below Rle50.out c54_.out)
    have Rac54 := Aside0.mk (Kd.R_below Rac50.out c54_.out)
    have Rri54 := Aside0.mk (Kd.R_below Rri50.out c54_.out)
    have Rnb54 := Aside0.mk (Kd.R_below Rnb49.out c54_.out)
    have Rnn53 := Aside0.mk (Kd.R_lower hRnn (HB52.out).size)
    clear hb53 hRnn Ka50 Kab50 Kac50 Kb50 Kbc50 Kc50 Kf50 Kle50 Kn050 Knb52 Kri50 Rab50 Rac50 Rbc50 Rle50 Rn050 Rnb49 Ro150 Ro250 Ro350 Rri50
    have ynn0_55 := (blk_cell (blk_new w53 (.cells #[.int .i64 v1, .slice Ann nn.length cnn, .int .i64 snn] 28)) 0).trans rfl
    have ynn1_55 := (blk_cell (blk_new w53 (.cells #[.int .i64 v1, .slice Ann nn.length cnn, .int .i64 snn] 28)) 1).trans rfl
    have ynn2_55 := (blk_cell (blk_new w53 (.cells #[.int .i64 v1, .slice Ann nn.length cnn, .int .i64 snn] 28)) 2).trans rfl
    go_wp2_with fail
    obtain ⟨W56, hW56⟩ : ∃ W, W = (w53.alloc (.cells #[.int .i64 v1, .slice Ann nn.length cnn, .int .i64 snn] 28)) := ⟨_, rfl⟩
    have b56_ := Aside0.mk (show Below w53.heap.size w53 W56 by rw [hW56]; exact below_alloc (Below.refl _ _) _)
    have Knn56 := Aside0.mk (show W56.heap[w53.heap.size]? = some (.cells #[.int .i64 v1, .slice Ann nn.length cnn, .int .i64 snn] 28 (0, 0)) by rw [hW56]; exact blk_new _ _)
    have HB56 := Aside0.mk (below_then HB54.out HB54.out.size b56_.out)
    rw [← hW56]
    clear hW56
    clear ynn0_55 ynn1_55 ynn2_55
    refine (mask_Not.calls v1 Ann cnn nn snn v1 dm sdm 0 _ (Kd.R_reads' (Kd.R_below Rnn53.out b56_.out)).2.2 (Kd.R_reads' (Kd.R_below Rnn53.out b56_.out)).2.1 HK.out.h_dm).mono ?_
    rintro e w57 ⟨vdm_, rfl, hRdm, hb57⟩
    obtain ⟨Adm, cdm, rfl, hcdm, _⟩ := Kd.R_reads hRdm
    have HB58 := Aside0.mk (below_then HB56.out (HB56.out).size hb57)
    have c58_ := Aside0.mk (below_then b56_.out b56_.out.size hb57)
    have Kf58 := Aside0.mk (blk_below Kf54.out c58_.out)
    have Ka58 := Aside0.mk (blk_below Ka54.out c58_.out)
    have Kb58 := Aside0.mk (blk_below Kb54.out c58_.out)
    have Kc58 := Aside0.mk (blk_below Kc54.out c58_.out)
    have Kn058 := Aside0.mk (blk_below Kn054.out c58_.out)
    have Kab58 := Aside0.mk (blk_below Kab54.out c58_.out)
    have Kbc58 := Aside0.mk (blk_below Kbc54.out c58_.out)
    have Kle58 := Aside0.mk (blk_below Kle54.out c58_.out)
    have Kac58 := Aside0.mk (blk_below Kac54.out c58_.out)
    have Kri58 := Aside0.mk (blk_below Kri54.out c58_.out)
    have Knb58 := Aside0.mk (blk_below Knb54.out c58_.out)
    have Knn58 := Aside0.mk (blk_below Knn56.out hb57)
    have Ro158 := Aside0.mk (Kd.R_below Ro154.out c58_.out)
    have Ro258 := Aside0.mk (Kd.R_below Ro254.out c58_.out)
    have Ro358 := Aside0.mk (Kd.R_below Ro354.out c58_.out)
    have Rn058 := Aside0.mk (Kd.R_below Rn054.out c58_.out)
    have Rab58 := Aside0.mk (Kd.R_below Rab54.out c58_.out)
    have Rbc58 := Aside0.mk (Kd.R_below Rbc54.out c58_.out)
    have Rle58 := Aside0.mk (Kd.R_below Rle54.out c58_.out)
    have Rac58 := Aside0.mk (Kd.R_below Rac54.out c58_.out)
    have Rri58 := Aside0.mk (Kd.R_below Rri54.out c58_.out)
    have Rnb58 := Aside0.mk (Kd.R_below Rnb54.out c58_.out)
    have Rnn58 := Aside0.mk (Kd.R_below Rnn53.out c58_.out)
    have Rdm57 := Aside0.mk (Kd.R_lower hRdm (HB56.out).size)
    clear hb57 hRdm Ka54 Kab54 Kac54 Kb54 Kbc54 Kc54 Kf54 Kle54 Kn054 Knb54 Knn56 Kri54 Rab54 Rac54 Rbc54 Rle54 Rn054 Rnb54 Rnn53 Ro154 Ro254 Ro354 Rri54
    have ya0_59 := (blk_cell (blk_alloc Ka58.out (.cells #[.int .i64 v1, .slice Adm dm.length cdm, .int .i64 sdm] 28)) 0).trans rfl
    have ya1_59 := (blk_cell (blk_alloc Ka58.out (.cells #[.int .i64 v1, .slice Adm dm.length cdm, .int .i64 sdm] 28)) 1).trans rfl
    have ya2_59 := (blk_cell (blk_alloc Ka58.out (.cells #[.int .i64 v1, .slice Adm dm.length cdm, .int .i64 sdm] 28)) 2).trans rfl
    have yn00_59 := (blk_cell (blk_alloc Kn058.out (.cells #[.int .i64 v1, .slice Adm dm.length cdm, .int .i64 sdm] 28)) 0).trans rfl
    have yn01_59 := (blk_cell (blk_alloc Kn058.out (.cells #[.int .i64 v1, .slice Adm dm.length cdm, .int .i64 sdm] 28)) 1).trans rfl
    have yn02_59 := (blk_cell (blk_alloc Kn058.out (.cells #[.int .i64 v1, .slice Adm dm.length cdm, .int .i64 sdm] 28)) 2).trans rfl
    go_wp2_with fail
    obtain ⟨W60, hW60⟩ : ∃ W, W = (w57.alloc (.cells #[.int .i64 v1, .slice Adm dm.length cdm, .int .i64 sdm] 28)) := ⟨_, rfl⟩
    have b60_ := Aside0.mk (show Below w57.heap.size w57 W60 by rw [hW60]; exact below_alloc (Below.refl _ _) _)
    have Kdm60 := Aside0.mk (show W60.heap[w57.heap.size]? = some (.cells #[.int .i64 v1, .slice Adm dm.length cdm, .int .i64 sdm] 28 (0, 0)) by rw [hW60]; exact blk_new _ _)
    have HB60 := Aside0.mk (below_then HB58.out HB58.out.size b60_.out)
    rw [← hW60]
    clear hW60
    clear ya0_59 ya1_59 ya2_59 yn00_59 yn01_59 yn02_59
    refine (mask_And.calls v1 Ao1 co1 o1 r1 v1 An0 cn0 n0 sn0 v1 no sno 0 _ (Kd.R_reads' (Kd.R_below Ro158.out b60_.out)).2.2 (Kd.R_reads' (Kd.R_below Ro158.out b60_.out)).2.1 (Kd.R_reads' (Kd.R_below Rn058.out b60_.out)).2.2 (Kd.R_reads' (Kd.R_below Rn058.out b60_.out)).2.1 HK.out.h_no).mono ?_
    rintro e w61 ⟨vno_, rfl, hRno, hb61⟩
    obtain ⟨Ano, cno, rfl, hcno, _⟩ := Kd.R_reads hRno
    have HB62 := Aside0.mk (below_then HB60.out (HB60.out).size hb61)
    have c62_ := Aside0.mk (below_then b60_.out b60_.out.size hb61)
    have Kf62 := Aside0.mk (blk_below Kf58.out c62_.out)
    have Ka62 := Aside0.mk (blk_below Ka58.out c62_.out)
    have Kb62 := Aside0.mk (blk_below Kb58.out c62_.out)
    have Kc62 := Aside0.mk (blk_below Kc58.out c62_.out)
    have Kn062 := Aside0.mk (blk_below Kn058.out c62_.out)
    have Kab62 := Aside0.mk (blk_below Kab58.out c62_.out)
    have Kbc62 := Aside0.mk (blk_below Kbc58.out c62_.out)
    have Kle62 := Aside0.mk (blk_below Kle58.out c62_.out)
    have Kac62 := Aside0.mk (blk_below Kac58.out c62_.out)
    have Kri62 := Aside0.mk (blk_below Kri58.out c62_.out)
    have Knb62 := Aside0.mk (blk_below Knb58.out c62_.out)
    have Knn62 := Aside0.mk (blk_below Knn58.out c62_.out)
    have Kdm62 := Aside0.mk (blk_below Kdm60.out hb61)
    have Ro162 := Aside0.mk (Kd.R_below Ro158.out c62_.out)
    have Ro262 := Aside0.mk (Kd.R_below Ro258.out c62_.out)
    have Ro362 := Aside0.mk (Kd.R_below Ro358.out c62_.out)
    have Rn062 := Aside0.mk (Kd.R_below Rn058.out c62_.out)
    have Rab62 := Aside0.mk (Kd.R_below Rab58.out c62_.out)
    have Rbc62 := Aside0.mk (Kd.R_below Rbc58.out c62_.out)
    have Rle62 := Aside0.mk (Kd.R_below Rle58.out c62_.out)
    have Rac62 := Aside0.mk (Kd.R_below Rac58.out c62_.out)
    have Rri62 := Aside0.mk (Kd.R_below Rri58.out c62_.out)
    have Rnb62 := Aside0.mk (Kd.R_below Rnb58.out c62_.out)
    have Rnn62 := Aside0.mk (Kd.R_below Rnn58.out c62_.out)
    have Rdm62 := Aside0.mk (Kd.R_below Rdm57.out c62_.out)
    have Rno61 := Aside0.mk (Kd.R_lower hRno (HB60.out).size)
    clear hb61 hRno Ka58 Kab58 Kac58 Kb58 Kbc58 Kc58 Kdm60 Kf58 Kle58 Kn058 Knb58 Knn58 Kri58 Rab58 Rac58 Rbc58 Rdm57 Rle58 Rn058 Rnb58 Rnn58 Ro158 Ro258 Ro358 Rri58
    have yf0_63 := (blk_cell (blk_alloc Kf62.out (.cells #[.int .i64 v1, .slice Ano no.length cno, .int .i64 sno] 28)) 0).trans rfl
    have yf1_63 := (blk_cell (blk_alloc Kf62.out (.cells #[.int .i64 v1, .slice Ano no.length cno, .int .i64 sno] 28)) 1).trans rfl
    have yf2_63 := (blk_cell (blk_alloc Kf62.out (.cells #[.int .i64 v1, .slice Ano no.length cno, .int .i64 sno] 28)) 2).trans rfl
    go_wp2_with fail
    obtain ⟨W64, hW64⟩ : ∃ W, W = (w61.alloc (.cells #[.int .i64 v1, .slice Ano no.length cno, .int .i64 sno] 28)) := ⟨_, rfl⟩
    have b64_ := Aside0.mk (show Below w61.heap.size w61 W64 by rw [hW64]; exact below_alloc (Below.refl _ _) _)
    have Kno64 := Aside0.mk (show W64.heap[w61.heap.size]? = some (.cells #[.int .i64 v1, .slice Ano no.length cno, .int .i64 sno] 28 (0, 0)) by rw [hW64]; exact blk_new _ _)
    have HB64 := Aside0.mk (below_then HB62.out HB62.out.size b64_.out)
    rw [← hW64]
    clear hW64
    clear yf0_63 yf1_63 yf2_63
    refine (mask_Const.calls v1 false v1 ze sze 0 _ HK.out.h_ze).mono ?_
    rintro e w65 ⟨vze_, rfl, hRze, hb65⟩
    obtain ⟨Aze, cze, rfl, hcze, _⟩ := Kd.R_reads hRze
    have HB66 := Aside0.mk (below_then HB64.out (HB64.out).size hb65)
    have c66_ := Aside0.mk (below_then b64_.out b64_.out.size hb65)
    have Kf66 := Aside0.mk (blk_below Kf62.out c66_.out)
    have Ka66 := Aside0.mk (blk_below Ka62.out c66_.out)
    have Kb66 := Aside0.mk (blk_below Kb62.out c66_.out)
    have Kc66 := Aside0.mk (blk_below Kc62.out c66_.out)
    have Kn066 := Aside0.mk (blk_below Kn062.out c66_.out)
    have Kab66 := Aside0.mk (blk_below Kab62.out c66_.out)
    have Kbc66 := Aside0.mk (blk_below Kbc62.out c66_.out)
    have Kle66 := Aside0.mk (blk_below Kle62.out c66_.out)
    have Kac66 := Aside0.mk (blk_below Kac62.out c66_.out)
    have Kri66 := Aside0.mk (blk_below Kri62.out c66_.out)
    have Knb66 := Aside0.mk (blk_below Knb62.out c66_.out)
    have Knn66 := Aside0.mk (blk_below Knn62.out c66_.out)
    have Kdm66 := Aside0.mk (blk_below Kdm62.out c66_.out)
    have Kno66 := Aside0.mk (blk_below Kno64.out hb65)
    have Ro166 := Aside0.mk (Kd.R_below Ro162.out c66_.out)
    have Ro266 := Aside0.mk (Kd.R_below Ro262.out c66_.out)
    have Ro366 := Aside0.mk (Kd.R_below Ro362.out c66_.out)
    have Rn066 := Aside0.mk (Kd.R_below Rn062.out c66_.out)
    have Rab66 := Aside0.mk (Kd.R_below Rab62.out c66_.out)
    have Rbc66 := Aside0.mk (Kd.R_below Rbc62.out c66_.out)
    have Rle66 := Aside0.mk (Kd.R_below Rle62.out c66_.out)
    have Rac66 := Aside0.mk (Kd.R_below Rac62.out c66_.out)
    have Rri66 := Aside0.mk (Kd.R_below Rri62.out c66_.out)
    have Rnb66 := Aside0.mk (Kd.R_below Rnb62.out c66_.out)
    have Rnn66 := Aside0.mk (Kd.R_below Rnn62.out c66_.out)
    have Rdm66 := Aside0.mk (Kd.R_below Rdm62.out c66_.out)
    have Rno66 := Aside0.mk (Kd.R_below Rno61.out c66_.out)
    have Rze65 := Aside0.mk (Kd.R_lower hRze (HB64.out).size)
    clear hb65 hRze Ka62 Kab62 Kac62 Kb62 Kbc62 Kc62 Kdm62 Kf62 Kle62 Kn062 Knb62 Knn62 Kno64 Kri62 Rab62 Rac62 Rbc62 Rdm62 Rle62 Rn062 Rnb62 Rnn62 Rno61 Ro162 Ro262 Ro362 Rri62
    go_wp2
    obtain ⟨W67, hW67⟩ : ∃ W, W = (w65.alloc (.cells #[.int .i64 v1, .slice Aze ze.length cze, .int .i64 sze] 28)) := ⟨_, rfl⟩
    have b67_ := Aside0.mk (show Below w65.heap.size w65 W67 by rw [hW67]; exact below_alloc (Below.refl _ _) _)
    have Kze67 := Aside0.mk (show W67.heap[w65.heap.size]? = some (.cells #[.int .i64 v1, .slice Aze ze.length cze, .int .i64 sze] 28 (0, 0)) by rw [hW67]; exact blk_new _ _)
    have HB67 := Aside0.mk (below_then HB66.out HB66.out.size b67_.out)
    rw [← hW67]
    clear hW67
    refine start_ (n := 58) (S := fun w' => (Below W67.heap.size W67 w')) (ds := [55]) #[O, O, O, O, O, O, O, O, O, O, O, O, O, O, O, O, O, O, O, O, O, O, O, O, O, O, O, O, O, O, O, O, O, O, O, O, O, O, O, O, O, O, O, O, O, O, O, O, O, O, O, O, O, O, O, O, O, O] (by kernel_rfl) rfl rfl (below_drew (Below.refl _ _)) (fun hHeld => ?_)
    refine with_tabW tb_MaskAlgebra_22.tab tb_MaskAlgebra_22.bits (fun HT_ HW_ => ?_)
    refine pure_ (i := 0) (N := some 193) (v := ?_) (a' := ?_) #[I, O, O, O, O, O, O, O, O, O, O, O, O, O, O, O, O, O, O, O, O, O, O, O, O, O, O, O, O, O, O, O, O, O, O, O, O, O, O, O, O, O, O, O, O, O, O, O, O, O, O, O, O, O, O, O, O, O] rfl rfl (any_of HT_.out (by kernel_rfl)) (fun _ _ _ h => h) (Or.inl ⟨by rfl, ?_⟩) ?_ ?_
    rotate_left
    · intro w'
      go_simp
      with_reducible rfl
    rotate_left
    · simp only [Act.put, ta_, sz_, ss_, i64_w, i32_w]
      rfl
    refine pure_ (i := 1) (N := some 194) (v := ?_) (a' := ?_) #[I, I, O, O, O, O, O, O, O, O, O, O, O, O, O, O, O, O, O, O, O, O, O, O, O, O, O, O, O, O, O, O, O, O, O, O, O, O, O, O, O, O, O, O, O, O, O, O, O, O, O, O, O, O, O, O, O, O] rfl rfl (any_of HT_.out (by kernel_rfl)) (fun _ _ _ h => h) (Or.inl ⟨by rfl, ?_⟩) ?_ ?_
    rotate_left
    · intro w'
      go_simp
      with_reducible rfl
    rotate_left
    · simp only [Act.put, ta_, sz_, ss_, i64_w, i32_w]
      rfl
    refine pure_ (i := 2) (N := some 195) (v := ?_) (a' := ?_) #[I, I, I, O, O, O, O, O, O, O, O, O, O, O, O, O, O, O, O, O, O, O, O, O, O, O, O, O, O, O, O, O, O, O, O, O, O, O, O, O, O, O, O, O, O, O, O, O, O, O, O, O, O, O, O, O, O, O] rfl rfl (any_of HT_.out (by kernel_rfl)) (fun _ _ _ h => h) (Or.inl ⟨by rfl, ?_⟩) ?_ ?_
    rotate_left
    · intro w'
      go_simp
      with_reducible rfl
    rotate_left
    · simp only [Act.put, ta_, sz_, ss_, i64_w, i32_w]
      rfl
    refine pure_ (i := 3) (N := some 196) (v := ?_) (a' := ?_) #[I, I, I, I, O, O, O, O, O, O, O, O, O, O, O, O, O, O, O, O, O, O, O, O, O, O, O, O, O, O, O, O, O, O, O, O, O, O, O, O, O, O, O, O, O, O, O, O, O, O, O, O, O, O, O, O, O, O] rfl rfl (any_of HT_.out (by kernel_rfl)) (fun _ _ _ h => h) (Or.inl ⟨by rfl, ?_⟩) ?_ ?_
    rotate_left
    · intro w'
      go_simp
      with_reducible rfl
    rotate_left
    · simp only [Act.put, ta_, sz_, ss_, i64_w, i32_w]
      rfl
    refine pure_ (i := 4) (N := some 197) (v := ?_) (a' := ?_) #[I, I, I, I, I, O, O, O, O, O, O, O, O, O, O, O, O, O, O, O, O, O, O, O, O, O, O, O, O, O, O, O, O, O, O, O, O, O, O, O, O, O, O, O, O, O, O, O, O, O, O, O, O, O, O, O, O, O] rfl rfl (any_of HT_.out (by kernel_rfl)) (fun _ _ _ h => h) (Or.inl ⟨by rfl, ?_⟩) ?_ ?_
    rotate_left
    · intro w'
      go_simp
      with_reducible rfl
    rotate_left
    · simp only [Act.put, ta_, sz_, ss_, i64_w, i32_w]
      rfl
    refine pure_ (i := 5) (N := some 198) (v := ?_) (a' := ?_) #[I, I, I, I, I, I, O, O, O, O, O, O, O, O, O, O, O, O, O, O, O, O, O, O, O, O, O, O, O, O, O, O, O, O, O, O, O, O, O, O, O, O, O, O, O, O, O, O, O, O, O, O, O, O, O, O, O, O] rfl rfl (any_of HT_.out (by kernel_rfl)) (fun _ _ _ h => h) (Or.inl ⟨by rfl, ?_⟩) ?_ ?_
    rotate_left
    · intro w'
      go_simp
      with_reducible rfl
    rotate_left
    · simp only [Act.put, ta_, sz_, ss_, i64_w, i32_w]
      rfl
    refine pure_ (i := 6) (N := some 199) (v := ?_) (a' := ?_) #[I, I, I, I, I, I, I, O, O, O, O, O, O, O, O, O, O, O, O, O, O, O, O, O, O, O, O, O, O, O, O, O, O, O, O, O, O, O, O, O, O, O, O, O, O, O, O, O, O, O, O, O, O, O, O, O, O, O] rfl rfl (any_of HT_.out (by kernel_rfl)) (fun _ _ _ h => h) (Or.inl ⟨by rfl, ?_⟩) ?_ ?_
    rotate_left
    · intro w'
      go_simp
      with_reducible rfl
    rotate_left
    · simp only [Act.put, ta_, sz_, ss_, i64_w, i32_w]
      rfl
    refine pure_ (i := 7) (N := some 200) (v := ?_) (a' := ?_) #[I, I, I, I, I, I, I, I, O, O, O, O, O, O, O, O, O, O, O, O, O, O, O, O, O, O, O, O, O, O, O, O, O, O, O, O, O, O, O, O, O, O, O, O, O, O, O, O, O, O, O, O, O, O, O, O, O, O] rfl rfl (any_of HT_.out (by kernel_rfl)) (fun _ _ _ h => h) (Or.inl ⟨by rfl, ?_⟩) ?_ ?_
    rotate_left
    · intro w'
      go_simp
      with_reducible rfl
    rotate_left
    · simp only [Act.put, ta_, sz_, ss_, i64_w, i32_w]
      rfl
    refine pure_ (i := 8) (N := some 201) (v := ?_) (a' := ?_) #[I, I, I, I, I, I, I, I, I, O, O, O, O, O, O, O, O, O, O, O, O, O, O, O, O, O, O, O, O, O, O, O, O, O, O, O, O, O, O, O, O, O, O, O, O, O, O, O, O, O, O, O, O, O, O, O, O, O] rfl rfl (any_of HT_.out (by kernel_rfl)) (fun _ _ _ h => h) (Or.inl ⟨by rfl, ?_⟩) ?_ ?_
    rotate_left
    · intro w'
      go_simp
      with_reducible rfl
    rotate_left
    · simp only [Act.put, ta_, sz_, ss_, i64_w, i32_w]
      rfl
    refine pure_ (i := 9) (N := some 202) (v := ?_) (a' := ?_) #[I, I, I, I, I, I, I, I, I, I, O, O, O, O, O, O, O, O, O, O, O, O, O, O, O, O, O, O, O, O, O, O, O, O, O, O, O, O, O, O, O, O, O, O, O, O, O, O, O, O, O, O, O, O, O, O, O, O] rfl rfl (any_of HT_.out (by kernel_rfl)) (fun _ _ _ h => h) (Or.inl ⟨by rfl, ?_⟩) ?_ ?_
    rotate_left
    · intro w'
      go_simp
      with_reducible rfl
    rotate_left
    · simp only [Act.put, ta_, sz_, ss_, i64_w, i32_w]
      rfl
    refine pure_ (i := 10) (N := some 203) (v := ?_) (a' := ?_) #[I, I, I, I, I, I, I, I, I, I, I, O, O, O, O, O, O, O, O, O, O, O, O, O, O, O, O, O, O, O, O, O, O, O, O, O, O, O, O, O, O, O, O, O, O, O, O, O, O, O, O, O, O, O, O, O, O, O] rfl rfl (any_of HT_.out (by kernel_rfl)) (fun _ _ _ h => h) (Or.inl ⟨by rfl, ?_⟩) ?_ ?_
    rotate_left
    · intro w'
      go_simp
      with_reducible rfl
    rotate_left
    · simp only [Act.put, ta_, sz_, ss_, i64_w, i32_w]
      rfl
    refine pure_ (i := 11) (N := some 204) (v := ?_) (a' := ?_) #[I, I, I, I, I, I, I, I, I, I, I, I, O, O, O, O, O, O, O, O, O, O, O, O, O, O, O, O, O, O, O, O, O, O, O, O, O, O, O, O, O, O, O, O, O, O, O, O, O, O, O, O, O, O, O, O, O, O] rfl rfl (any_of HT_.out (by kernel_rfl)) (fun _ _ _ h => h) (Or.inl ⟨by rfl, ?_⟩) ?_ ?_
    rotate_left
    · intro w'
      go_simp
      with_reducible rfl
    rotate_left
    · simp only [Act.put, ta_, sz_, ss_, i64_w, i32_w]
      rfl
    refine pure_ (i := 12) (N := some 205) (v := ?_) (a' := ?_) #[I, I, I, I, I, I, I, I, I, I, I, I, I, O, O, O, O, O, O, O, O, O, O, O, O, O, O, O, O, O, O, O, O, O, O, O, O, O, O, O, O, O, O, O, O, O, O, O, O, O, O, O, O, O, O, O, O, O] rfl rfl (any_of HT_.out (by kernel_rfl)) (fun _ _ _ h => h) (Or.inl ⟨by rfl, ?_⟩) ?_ ?_
    rotate_left
    · intro w'
      go_simp
      with_reducible rfl
    rotate_left
    · simp only [Act.put, ta_, sz_, ss_, i64_w, i32_w]
      rfl
    refine pure_ (i := 13) (N := some 206) (v := ?_) (a' := ?_) #[I, I, I, I, I, I, I, I, I, I, I, I, I, I, O, O, O, O, O, O, O, O, O, O, O, O, O, O, O, O, O, O, O, O, O, O, O, O, O, O, O, O, O, O, O, O, O, O, O, O, O, O, O, O, O, O, O, O] rfl rfl (any_of HT_.out (by kernel_rfl)) (fun _ _ _ h => h) (Or.inl ⟨by rfl, ?_⟩) ?_ ?_
    rotate_left
    · intro w'
      go_simp
      with_reducible rfl
    rotate_left
    · simp only [Act.put, ta_, sz_, ss_, i64_w, i32_w]
      rfl
    refine pure_ (i := 14) (N := some 207) (v := ?_) (a' := ?_) #[I, I, I, I, I, I, I, I, I, I, I, I, I, I, I, O, O, O, O, O, O, O, O, O, O, O, O, O, O, O, O, O, O, O, O, O, O, O, O, O, O, O, O, O, O, O, O, O, O, O, O, O, O, O, O, O, O, O] rfl rfl (any_of HT_.out (by kernel_rfl)) (fun _ _ _ h => h) (Or.inl ⟨by rfl, ?_⟩) ?_ ?_
    rotate_left
    · intro w'
      go_simp
      with_reducible rfl
    rotate_left
    · simp only [Act.put, ta_, sz_, ss_, i64_w, i32_w]
      rfl
    refine pure_ (i := 15) (N := some 208) (v := ?_) (a' := ?_) #[I, I, I, I, I, I, I, I, I, I, I, I, I, I, I, I, O, O, O, O, O, O, O, O, O, O, O, O, O, O, O, O, O, O, O, O, O, O, O, O, O, O, O, O, O, O, O, O, O, O, O, O, O, O, O, O, O, O] rfl rfl (any_of HT_.out (by kernel_rfl)) (fun _ _ _ h => h) (Or.inl ⟨by rfl, ?_⟩) ?_ ?_
    rotate_left
    · intro w'
      go_simp
      with_reducible rfl
    rotate_left
    · simp only [Act.put, ta_, sz_, ss_, i64_w, i32_w]
      rfl
    refine pure_ (i := 16) (N := some 209) (v := ?_) (a' := ?_) #[I, I, I, I, I, I, I, I, I, I, I, I, I, I, I, I, I, O, O, O, O, O, O, O, O, O, O, O, O, O, O, O, O, O, O, O, O, O, O, O, O, O, O, O, O, O, O, O, O, O, O, O, O, O, O, O, O, O] rfl rfl (any_of HT_.out (by kernel_rfl)) (fun _ _ _ h => h) (Or.inl ⟨by rfl, ?_⟩) ?_ ?_
    rotate_left
    · intro w'
      go_simp
      with_reducible rfl
    rotate_left
    · simp only [Act.put, ta_, sz_, ss_, i64_w, i32_w]
      rfl
    refine pure_ (i := 17) (N := some 210) (v := ?_) (a' := ?_) #[I, I, I, I, I, I, I, I, I, I, I, I, I, I, I, I, I, I, O, O, O, O, O, O, O, O, O, O, O, O, O, O, O, O, O, O, O, O, O, O, O, O, O, O, O, O, O, O, O, O, O, O, O, O, O, O, O, O] rfl rfl (any_of HT_.out (by kernel_rfl)) (fun _ _ _ h => h) (Or.inl ⟨by rfl, ?_⟩) ?_ ?_
    rotate_left
    · intro w'
      go_simp
      with_reducible rfl
    rotate_left
    · simp only [Act.put, ta_, sz_, ss_, i64_w, i32_w]
      rfl
    refine pure_ (i := 18) (N := some 211) (v := ?_) (a' := ?_) #[I, I, I, I, I, I, I, I, I, I, I, I, I, I, I, I, I, I, I, O, O, O, O, O, O, O, O, O, O, O, O, O, O, O, O, O, O, O, O, O, O, O, O, O, O, O, O, O, O, O, O, O, O, O, O, O, O, O] rfl rfl (any_of HT_.out (by kernel_rfl)) (fun _ _ _ h => h) (Or.inl ⟨by rfl, ?_⟩) ?_ ?_
    rotate_left
    · intro w'
      go_simp
      with_reducible rfl
    rotate_left
    · simp only [Act.put, ta_, sz_, ss_, i64_w, i32_w]
      rfl
    refine pure_ (i := 19) (N := some 212) (v := ?_) (a' := ?_) #[I, I, I, I, I, I, I, I, I, I, I, I, I, I, I, I, I, I, I, I, O, O, O, O, O, O, O, O, O, O, O, O, O, O, O, O, O, O, O, O, O, O, O, O, O, O, O, O, O, O, O, O, O, O, O, O, O, O] rfl rfl (any_of HT_.out (by kernel_rfl)) (fun _ _ _ h => h) (Or.inl ⟨by rfl, ?_⟩) ?_ ?_
    rotate_left
    · intro w'
      go_simp
      with_reducible rfl
    rotate_left
    · simp only [Act.put, ta_, sz_, ss_, i64_w, i32_w]
      rfl
    refine pure_ (i := 20) (N := some 213) (v := ?_) (a' := ?_) #[I, I, I, I, I, I, I, I, I, I, I, I, I, I, I, I, I, I, I, I, I, O, O, O, O, O, O, O, O, O, O, O, O, O, O, O, O, O, O, O, O, O, O, O, O, O, O, O, O, O, O, O, O, O, O, O, O, O] rfl rfl (any_of HT_.out (by kernel_rfl)) (fun _ _ _ h => h) (Or.inl ⟨by rfl, ?_⟩) ?_ ?_
    rotate_left
    · intro w'
      go_simp
      with_reducible rfl
    rotate_left
    · simp only [Act.put, ta_, sz_, ss_, i64_w, i32_w]
      rfl
    refine pure_ (i := 21) (N := some 214) (v := ?_) (a' := ?_) #[I, I, I, I, I, I, I, I, I, I, I, I, I, I, I, I, I, I, I, I, I, I, O, O, O, O, O, O, O, O, O, O, O, O, O, O, O, O, O, O, O, O, O, O, O, O, O, O, O, O, O, O, O, O, O, O, O, O] rfl rfl (any_of HT_.out (by kernel_rfl)) (fun _ _ _ h => h) (Or.inl ⟨by rfl, ?_⟩) ?_ ?_
    rotate_left
    · intro w'
      go_simp
      with_reducible rfl
    rotate_left
    · simp only [Act.put, ta_, sz_, ss_, i64_w, i32_w]
      rfl
    refine pure_ (i := 22) (N := some 215) (v := ?_) (a' := ?_) #[I, I, I, I, I, I, I, I, I, I, I, I, I, I, I, I, I, I, I, I, I, I, I, O, O, O, O, O, O, O, O, O, O, O, O, O, O, O, O, O, O, O, O, O, O, O, O, O, O, O, O, O, O, O, O, O, O, O] rfl rfl (any_of HT_.out (by kernel_rfl)) (fun _ _ _ h => h) (Or.inl ⟨by rfl, ?_⟩) ?_ ?_
    rotate_left
    · intro w'
      go_simp
      with_reducible rfl
    rotate_left
    · simp only [Act.put, ta_, sz_, ss_, i64_w, i32_w]
      rfl
    refine pure_ (i := 23) (N := some 216) (v := ?_) (a' := ?_) #[I, I, I, I, I, I, I, I, I, I, I, I, I, I, I, I, I, I, I, I, I, I, I, I, O, O, O, O, O, O, O, O, O, O, O, O, O, O, O, O, O, O, O, O, O, O, O, O, O, O, O, O, O, O, O, O, O, O] rfl rfl (any_of HT_.out (by kernel_rfl)) (fun _ _ _ h => h) (Or.inl ⟨by rfl, ?_⟩) ?_ ?_
    rotate_left
    · intro w'
      go_simp
      with_reducible rfl
    rotate_left
    · simp only [Act.put, ta_, sz_, ss_, i64_w, i32_w]
      rfl
    refine pure_ (i := 24) (N := some 217) (v := ?_) (a' := ?_) #[I, I, I, I, I, I, I, I, I, I, I, I, I, I, I, I, I, I, I, I, I, I, I, I, I, O, O, O, O, O, O, O, O, O, O, O, O, O, O, O, O, O, O, O, O, O, O, O, O, O, O, O, O, O, O, O, O, O] rfl rfl (any_of HT_.out (by kernel_rfl)) (fun _ _ _ h => h) (Or.inl ⟨by rfl, ?_⟩) ?_ ?_
    rotate_left
    · intro w'
      go_simp
      with_reducible rfl
    rotate_left
    · simp only [Act.put, ta_, sz_, ss_, i64_w, i32_w]
      rfl
    refine pure_ (i := 25) (N := some 218) (v := ?_) (a' := ?_) #[I, I, I, I, I, I, I, I, I, I, I, I, I, I, I, I, I, I, I, I, I, I, I, I, I, I, O, O, O, O, O, O, O, O, O, O, O, O, O, O, O, O, O, O, O, O, O, O, O, O, O, O, O, O, O, O, O, O] rfl rfl (any_of HT_.out (by kernel_rfl)) (fun _ _ _ h => h) (Or.inl ⟨by rfl, ?_⟩) ?_ ?_
    rotate_left
    · intro w'
      go_simp
      with_reducible rfl
    rotate_left
    · simp only [Act.put, ta_, sz_, ss_, i64_w, i32_w]
      rfl
    refine pure_ (i := 26) (N := some 219) (v := ?_) (a' := ?_) #[I, I, I, I, I, I, I, I, I, I, I, I, I, I, I, I, I, I, I, I, I, I, I, I, I, I, I, O, O, O, O, O, O, O, O, O, O, O, O, O, O, O, O, O, O, O, O, O, O, O, O, O, O, O, O, O, O, O] rfl rfl (any_of HT_.out (by kernel_rfl)) (fun _ _ _ h => h) (Or.inl ⟨by rfl, ?_⟩) ?_ ?_
    rotate_left
    · intro w'
      go_simp
      with_reducible rfl
    rotate_left
    · simp only [Act.put, ta_, sz_, ss_, i64_w, i32_w]
      rfl
    refine pure_ (i := 27) (N := some 220) (v := ?_) (a' := ?_) #[I, I, I, I, I, I, I, I, I, I, I, I, I, I, I, I, I, I, I, I, I, I, I, I, I, I, I, I, O, O, O, O, O, O, O, O, O, O, O, O, O, O, O, O, O, O, O, O, O, O, O, O, O, O, O, O, O, O] rfl rfl (any_of HT_.out (by kernel_rfl)) (fun _ _ _ h => h) (Or.inl ⟨by rfl, ?_⟩) ?_ ?_
    rotate_left
    · intro w'
      go_simp
      with_reducible rfl
    rotate_left
    · simp only [Act.put, ta_, sz_, ss_, i64_w, i32_w]
      rfl
    refine pure_ (i := 28) (N := some 221) (v := ?_) (a' := ?_) #[I, I, I, I, I, I, I, I, I, I, I, I, I, I, I, I, I, I, I, I, I, I, I, I, I, I, I, I, I, O, O, O, O, O, O, O, O, O, O, O, O, O, O, O, O, O, O, O, O, O, O, O, O, O, O, O, O, O] rfl rfl (any_of HT_.out (by kernel_rfl)) (fun _ _ _ h => h) (Or.inl ⟨by rfl, ?_⟩) ?_ ?_
    rotate_left
    · intro w'
      go_simp
      with_reducible rfl
    rotate_left
    · simp only [Act.put, ta_, sz_, ss_, i64_w, i32_w]
      rfl
    refine pure_ (i := 29) (N := some 222) (v := ?_) (a' := ?_) #[I, I, I, I, I, I, I, I, I, I, I, I, I, I, I, I, I, I, I, I, I, I, I, I, I, I, I, I, I, I, O, O, O, O, O, O, O, O, O, O, O, O, O, O, O, O, O, O, O, O, O, O, O, O, O, O, O, O] rfl rfl (any_of HT_.out (by kernel_rfl)) (fun _ _ _ h => h) (Or.inl ⟨by rfl, ?_⟩) ?_ ?_
    rotate_left
    · intro w'
      go_simp
      with_reducible rfl
    rotate_left
    · simp only [Act.put, ta_, sz_, ss_, i64_w, i32_w]
      rfl
    refine pure_ (i := 30) (N := some 223) (v := ?_) (a' := ?_) #[I, I, I, I, I, I, I, I, I, I, I, I, I, I, I, I, I, I, I, I, I, I, I, I, I, I, I, I, I, I, I, O, O, O, O, O, O, O, O, O, O, O, O, O, O, O, O, O, O, O, O, O, O, O, O, O, O, O] rfl rfl (any_of HT_.out (by kernel_rfl)) (fun _ _ _ h => h) (Or.inl ⟨by rfl, ?_⟩) ?_ ?_
    rotate_left
    · intro w'
      go_simp
      with_reducible rfl
    rotate_left
    · simp only [Act.put, ta_, sz_, ss_, i64_w, i32_w]
      rfl
    refine pure_ (i := 31) (N := some 224) (v := ?_) (a' := ?_) #[I, I, I, I, I, I, I, I, I, I, I, I, I, I, I, I, I, I, I, I, I, I, I, I, I, I, I, I, I, I, I, I, O, O, O, O, O, O, O, O, O, O, O, O, O, O, O, O, O, O, O, O, O, O, O, O, O, O] rfl rfl (any_of HT_.out (by kernel_rfl)) (fun _ _ _ h => h) (Or.inl ⟨by rfl, ?_⟩) ?_ ?_
    rotate_left
    · intro w'
      go_simp
      with_reducible rfl
    rotate_left
    · simp only [Act.put, ta_, sz_, ss_, i64_w, i32_w]
      rfl
    refine pure_ (i := 32) (N := some 225) (v := ?_) (a' := ?_) #[I, I, I, I, I, I, I, I, I, I, I, I, I, I, I, I, I, I, I, I, I, I, I, I, I, I, I, I, I, I, I, I, I, O, O, O, O, O, O, O, O, O, O, O, O, O, O, O, O, O, O, O, O, O, O, O, O, O] rfl rfl (any_of HT_.out (by kernel_rfl)) (fun _ _ _ h => h) (Or.inl ⟨by rfl, ?_⟩) ?_ ?_
    rotate_left
    · intro w'
      go_simp
      with_reducible rfl
    rotate_left
    · simp only [Act.put, ta_, sz_, ss_, i64_w, i32_w]
      rfl
    refine pure_ (i := 33) (N := some 226) (v := ?_) (a' := ?_) #[I, I, I, I, I, I, I, I, I, I, I, I, I, I, I, I, I, I, I, I, I, I, I, I, I, I, I, I, I, I, I, I, I, I, O, O, O, O, O, O, O, O, O, O, O, O, O, O, O, O, O, O, O, O, O, O, O, O] rfl rfl (any_of HT_.out (by kernel_rfl)) (fun _ _ _ h => h) (Or.inl ⟨by rfl, ?_⟩) ?_ ?_
    rotate_left
    · intro w'
      go_simp
      with_reducible rfl
    rotate_left
    · simp only [Act.put, ta_, sz_, ss_, i64_w, i32_w]
      rfl
    refine pure_ (i := 34) (N := some 227) (v := ?_) (a' := ?_) #[I, I, I, I, I, I, I, I, I, I, I, I, I, I, I, I, I, I, I, I, I, I, I, I, I, I, I, I, I, I, I, I, I, I, I, O, O, O, O, O, O, O, O, O, O, O, O, O, O, O, O, O, O, O, O, O, O, O] rfl rfl (any_of HT_.out (by kernel_rfl)) (fun _ _ _ h => h) (Or.inl ⟨by rfl, ?_⟩) ?_ ?_
    rotate_left
    · intro w'
      go_simp
      with_reducible rfl
    rotate_left
    · simp only [Act.put, ta_, sz_, ss_, i64_w, i32_w]
      rfl
    refine take_ (i := 35) (N := some 228) (v := ?_) (a' := ?_) #[I, I, I, I, I, I, I, I, I, I, I, I, I, I, I, I, I, I, I, I, I, I, I, I, I, I, I, I, I, I, I, I, I, I, I, I, O, O, O, O, O, O, O, O, O, O, O, O, O, O, O, O, O, O, O, O, O, O] rfl rfl (take_ofW HT_.out HW_.out (by kernel_rfl)) (fun _ _ _ h => h) (Or.inl ⟨by rfl, ?_⟩) hHeld ?_ ?_
    rotate_left
    · rintro w' s0
      have q0 := (blk_cell (blk_below (blk_below Kle66.out b67_.out) s0) 0).trans rfl
      have q1 := (blk_cell (blk_below (blk_below Kle66.out b67_.out) s0) 1).trans rfl
      have q2 := (blk_cell (blk_below (blk_below Kle66.out b67_.out) s0) 2).trans rfl
      go_simp
      with_reducible rfl
    rotate_left
    · simp only [Act.put, ta_, sz_, ss_, i64_w, i32_w]
      rfl
    refine take_ (i := 37) (N := some 230) (v := ?_) (a' := ?_) #[I, I, I, I, I, I, I, I, I, I, I, I, I, I, I, I, I, I, I, I, I, I, I, I, I, I, I, I, I, I, I, I, I, I, I, I, O, I, O, O, O, O, O, O, O, O, O, O, O, O, O, O, O, O, O, O, O, O] rfl rfl (take_ofW HT_.out HW_.out (by kernel_rfl)) (fun _ _ _ h => h) (Or.inl ⟨by rfl, ?_⟩) hHeld ?_ ?_
    rotate_left
    · rintro w' s0
      have q0 := (blk_cell (blk_below (blk_below Kri66.out b67_.out) s0) 0).trans rfl
      have q1 := (blk_cell (blk_below (blk_below Kri66.out b67_.out) s0) 1).trans rfl
      have q2 := (blk_cell (blk_below (blk_below Kri66.out b67_.out) s0) 2).trans rfl
      go_simp
      with_reducible rfl
    rotate_left
    · simp only [Act.put, ta_, sz_, ss_, i64_w, i32_w]
      rfl
    refine one_ (i := 36) (N := some 229) #[I, I, I, I, I, I, I, I, I, I, I, I, I, I, I, I, I, I, I, I, I, I, I, I, I, I, I, I, I, I, I, I, I, I, I, I, I, I, O, O, O, O, O, O, O, O, O, O, O, O, O, O, O, O, O, O, O, O] rfl rfl (one_of HT_.out (by kernel_rfl)) (by decide) (fun K hK => ?_)
    have HDq := Aside0.mk hHeld
    refine goes_ Try.func37 (by kernel_rfl) rfl #[.agg #[.int .i64 v1, .slice Ale le.length cle, .int .i64 sle]] (by rfl) rfl rfl (by simp only [List.map_toArray, List.map_cons, List.map_nil]; rfl) ?_
    refine (cantinglaw02_own.calls fu v1 Ale cle le sle v1 lew sle _ (Kd.R_reads' (Kd.R_below (Kd.R_below Rle66.out b67_.out) HDq.out)).2.2 (Kd.R_reads' (Kd.R_below (Kd.R_below Rle66.out b67_.out) HDq.out)).2.1 HK.out.w_lew).mono ?_
    rintro e wo ⟨vo, rfl, hRo, hBo⟩
    obtain ⟨ARlew, cRlew, rfl, _, _⟩ := Kd.R_reads hRo
    refine ⟨_, rfl, ?_⟩
    have Rlew := Aside0.mk (Kd.R_lower hRo HDq.out.size)
    try (replace Rriw := Aside0.mk (Kd.R_below Rriw.out hBo))
    replace HDq := Aside0.mk (below_then HDq.out HDq.out.size hBo)
    clear hRo hBo hHeld
    refine hK.out _ _ HDq.out (fun hHeld => ?_)
    clear hK K
    refine norm_ (a' := ?_) ?_ ?_
    rotate_left
    · show Act.put _ (some 229) _ = _
      (try simp only [Act.put, ta_, sz_, ss_, i64_w, i32_w])
      rfl
    refine one_ (i := 38) (N := some 231) #[I, I, I, I, I, I, I, I, I, I, I, I, I, I, I, I, I, I, I, I, I, I, I, I, I, I, I, I, I, I, I, I, I, I, I, I, I, I, I, O, O, O, O, O, O, O, O, O, O, O, O, O, O, O, O, O, O, O] rfl rfl (one_of HT_.out (by kernel_rfl)) (by decide) (fun K hK => ?_)
    have HDq := Aside0.mk hHeld
    refine goes_ Try.func37 (by kernel_rfl) rfl #[.agg #[.int .i64 v1, .slice Ari ri.length cri, .int .i64 sri]] (by rfl) rfl rfl (by simp only [List.map_toArray, List.map_cons, List.map_nil]; rfl) ?_
    refine (cantinglaw02_own.calls fu v1 Ari cri ri sri v1 riw sri _ (Kd.R_reads' (Kd.R_below (Kd.R_below Rri66.out b67_.out) HDq.out)).2.2 (Kd.R_reads' (Kd.R_below (Kd.R_below Rri66.out b67_.out) HDq.out)).2.1 HK.out.w_riw).mono ?_
    rintro e wo ⟨vo, rfl, hRo, hBo⟩
    obtain ⟨ARriw, cRriw, rfl, _, _⟩ := Kd.R_reads hRo
    refine ⟨_, rfl, ?_⟩
    have Rriw := Aside0.mk (Kd.R_lower hRo HDq.out.size)
    try (replace Rlew := Aside0.mk (Kd.R_below Rlew.out hBo))
    replace HDq := Aside0.mk (below_then HDq.out HDq.out.size hBo)
    clear hRo hBo hHeld
    refine hK.out _ _ HDq.out (fun hHeld => ?_)
    clear hK K
    refine norm_ (a' := ?_) ?_ ?_
    rotate_left
    · show Act.put _ (some 231) _ = _
      (try simp only [Act.put, ta_, sz_, ss_, i64_w, i32_w])
      rfl
    refine one_ (i := 39) (N := some 232) #[I, I, I, I, I, I, I, I, I, I, I, I, I, I, I, I, I, I, I, I, I, I, I, I, I, I, I, I, I, I, I, I, I, I, I, I, I, I, I, I, O, O, O, O, O, O, O, O, O, O, O, O, O, O, O, O, O, O] rfl rfl (one_of HT_.out (by kernel_rfl)) (by decide) (fun K hK => ?_)
    have HDq := Aside0.mk hHeld
    clear hHeld
    refine goes_ Try.func36 (by kernel_rfl) rfl #[.agg #[.int .i64 v1, .slice ARlew lew.length cRlew, .int .i64 sle], .agg #[.int .i64 v1, .slice ARriw riw.length cRriw, .int .i64 sri]] (by rfl) rfl rfl (by simp only [List.map_toArray, List.map_cons, List.map_nil]; rfl) ?_
    refine (cantingref02_Same.calls fu v1 ARlew cRlew lew sle v1 ARriw cRriw riw sri true _ (Kd.R_reads' Rlew.out).2.2 (Kd.R_reads' Rlew.out).2.1 (Kd.R_reads' Rriw.out).2.2 (Kd.R_reads' Rriw.out).2.1 HK.out.s4).mono ?_
    rintro e wo ⟨rfl, hBo⟩
    refine ⟨_, rfl, ?_⟩
    replace HDq := Aside0.mk (below_then HDq.out HDq.out.size hBo)
    clear hBo
    refine hK.out _ _ HDq.out (fun hHeld => ?_)
    clear hK K
    refine norm_ (a' := ?_) ?_ ?_
    rotate_left
    · show Act.put _ (some 232) _ = _
      (try simp only [Act.put, ta_, sz_, ss_, i64_w, i32_w])
      rfl
    refine pure_ (i := 40) (N := some 233) (v := ?_) (a' := ?_) #[I, I, I, I, I, I, I, I, I, I, I, I, I, I, I, I, I, I, I, I, I, I, I, I, I, I, I, I, I, I, I, I, I, I, I, I, I, I, I, I, I, O, O, O, O, O, O, O, O, O, O, O, O, O, O, O, O, O] rfl rfl (any_of HT_.out (by kernel_rfl)) (fun _ _ _ h => h) (Or.inl ⟨by rfl, ?_⟩) ?_ ?_
    rotate_left
    · intro w'
      go_simp
      with_reducible rfl
    rotate_left
    · simp only [Act.put, ta_, sz_, ss_, i64_w, i32_w]
      rfl
    refine pure_ (i := 41) (N := some 234) (v := ?_) (a' := ?_) #[I, I, I, I, I, I, I, I, I, I, I, I, I, I, I, I, I, I, I, I, I, I, I, I, I, I, I, I, I, I, I, I, I, I, I, I, I, I, I, I, I, I, O, O, O, O, O, O, O, O, O, O, O, O, O, O, O, O] rfl rfl (any_of HT_.out (by kernel_rfl)) (fun _ _ _ h => h) (Or.inl ⟨by rfl, ?_⟩) ?_ ?_
    rotate_left
    · intro w'
      go_simp
      with_reducible rfl
    rotate_left
    · simp only [Act.put, ta_, sz_, ss_, i64_w, i32_w]
      rfl
    refine pure_ (i := 42) (N := some 235) (v := ?_) (a' := ?_) #[I, I, I, I, I, I, I, I, I, I, I, I, I, I, I, I, I, I, I, I, I, I, I, I, I, I, I, I, I, I, I, I, I, I, I, I, I, I, I, I, I, I, I, O, O, O, O, O, O, O, O, O, O, O, O, O, O, O] rfl rfl (any_of HT_.out (by kernel_rfl)) (fun _ _ _ h => h) (Or.inl ⟨by rfl, ?_⟩) ?_ ?_
    rotate_left
    · intro w'
      go_simp
      with_reducible rfl
    rotate_left
    · simp only [Act.put, ta_, sz_, ss_, i64_w, i32_w]
      rfl
    refine take_ (i := 43) (N := some 236) (v := ?_) (a' := ?_) #[I, I, I, I, I, I, I, I, I, I, I, I, I, I, I, I, I, I, I, I, I, I, I, I, I, I, I, I, I, I, I, I, I, I, I, I, I, I, I, I, I, I, I, I, O, O, O, O, O, O, O, O, O, O, O, O, O, O] rfl rfl (take_ofW HT_.out HW_.out (by kernel_rfl)) (fun _ _ _ h => h) (Or.inl ⟨by rfl, ?_⟩) hHeld ?_ ?_
    rotate_left
    · rintro w' s0
      have q0 := (blk_cell (blk_below (blk_below Kdm66.out b67_.out) s0) 0).trans rfl
      have q1 := (blk_cell (blk_below (blk_below Kdm66.out b67_.out) s0) 1).trans rfl
      have q2 := (blk_cell (blk_below (blk_below Kdm66.out b67_.out) s0) 2).trans rfl
      go_simp
      with_reducible rfl
    rotate_left
    · simp only [Act.put, ta_, sz_, ss_, i64_w, i32_w]
      rfl
    refine take_ (i := 45) (N := some 238) (v := ?_) (a' := ?_) #[I, I, I, I, I, I, I, I, I, I, I, I, I, I, I, I, I, I, I, I, I, I, I, I, I, I, I, I, I, I, I, I, I, I, I, I, I, I, I, I, I, I, I, I, O, I, O, O, O, O, O, O, O, O, O, O, O, O] rfl rfl (take_ofW HT_.out HW_.out (by kernel_rfl)) (fun _ _ _ h => h) (Or.inl ⟨by rfl, ?_⟩) hHeld ?_ ?_
    rotate_left
    · rintro w' s0
      have q0 := (blk_cell (blk_below (blk_below Kab66.out b67_.out) s0) 0).trans rfl
      have q1 := (blk_cell (blk_below (blk_below Kab66.out b67_.out) s0) 1).trans rfl
      have q2 := (blk_cell (blk_below (blk_below Kab66.out b67_.out) s0) 2).trans rfl
      go_simp
      with_reducible rfl
    rotate_left
    · simp only [Act.put, ta_, sz_, ss_, i64_w, i32_w]
      rfl
    refine one_ (i := 44) (N := some 237) #[I, I, I, I, I, I, I, I, I, I, I, I, I, I, I, I, I, I, I, I, I, I, I, I, I, I, I, I, I, I, I, I, I, I, I, I, I, I, I, I, I, I, I, I, I, I, O, O, O, O, O, O, O, O, O, O, O, O] rfl rfl (one_of HT_.out (by kernel_rfl)) (by decide) (fun K hK => ?_)
    have HDq := Aside0.mk hHeld
    refine goes_ Try.func37 (by kernel_rfl) rfl #[.agg #[.int .i64 v1, .slice Adm dm.length cdm, .int .i64 sdm]] (by rfl) rfl rfl (by simp only [List.map_toArray, List.map_cons, List.map_nil]; rfl) ?_
    refine (cantinglaw02_own.calls fu v1 Adm cdm dm sdm v1 dmw sdm _ (Kd.R_reads' (Kd.R_below (Kd.R_below Rdm66.out b67_.out) HDq.out)).2.2 (Kd.R_reads' (Kd.R_below (Kd.R_below Rdm66.out b67_.out) HDq.out)).2.1 HK.out.w_dmw).mono ?_
    rintro e wo ⟨vo, rfl, hRo, hBo⟩
    obtain ⟨ARdmw, cRdmw, rfl, _, _⟩ := Kd.R_reads hRo
    refine ⟨_, rfl, ?_⟩
    have Rdmw := Aside0.mk (Kd.R_lower hRo HDq.out.size)
    try (replace Rabw := Aside0.mk (Kd.R_below Rabw.out hBo))
    replace HDq := Aside0.mk (below_then HDq.out HDq.out.size hBo)
    clear hRo hBo hHeld
    refine hK.out _ _ HDq.out (fun hHeld => ?_)
    clear hK K
    refine norm_ (a' := ?_) ?_ ?_
    rotate_left
    · show Act.put _ (some 237) _ = _
      (try simp only [Act.put, ta_, sz_, ss_, i64_w, i32_w])
      rfl
    refine one_ (i := 46) (N := some 239) #[I, I, I, I, I, I, I, I, I, I, I, I, I, I, I, I, I, I, I, I, I, I, I, I, I, I, I, I, I, I, I, I, I, I, I, I, I, I, I, I, I, I, I, I, I, I, I, O, O, O, O, O, O, O, O, O, O, O] rfl rfl (one_of HT_.out (by kernel_rfl)) (by decide) (fun K hK => ?_)
    have HDq := Aside0.mk hHeld
    refine goes_ Try.func37 (by kernel_rfl) rfl #[.agg #[.int .i64 v1, .slice Aab ab.length cab, .int .i64 sab]] (by rfl) rfl rfl (by simp only [List.map_toArray, List.map_cons, List.map_nil]; rfl) ?_
    refine (cantinglaw02_own.calls fu v1 Aab cab ab sab v1 abw sab _ (Kd.R_reads' (Kd.R_below (Kd.R_below Rab66.out b67_.out) HDq.out)).2.2 (Kd.R_reads' (Kd.R_below (Kd.R_below Rab66.out b67_.out) HDq.out)).2.1 HK.out.w_abw).mono ?_
    rintro e wo ⟨vo, rfl, hRo, hBo⟩
    obtain ⟨ARabw, cRabw, rfl, _, _⟩ := Kd.R_reads hRo
    refine ⟨_, rfl, ?_⟩
    have Rabw := Aside0.mk (Kd.R_lower hRo HDq.out.size)
    try (replace Rdmw := Aside0.mk (Kd.R_below Rdmw.out hBo))
    replace HDq := Aside0.mk (below_then HDq.out HDq.out.size hBo)
    clear hRo hBo hHeld
    refine hK.out _ _ HDq.out (fun hHeld => ?_)
    clear hK K
    refine norm_ (a' := ?_) ?_ ?_
    rotate_left
    · show Act.put _ (some 239) _ = _
      (try simp only [Act.put, ta_, sz_, ss_, i64_w, i32_w])
      rfl
    refine one_ (i := 47) (N := some 240) #[I, I, I, I, I, I, I, I, I, I, I, I, I, I, I, I, I, I, I, I, I, I, I, I, I, I, I, I, I, I, I, I, I, I, I, I, I, I, I, I, I, I, I, I, I, I, I, I, O, O, O, O, O, O, O, O, O, O] rfl rfl (one_of HT_.out (by kernel_rfl)) (by decide) (fun K hK => ?_)
    have HDq := Aside0.mk hHeld
    clear hHeld
    refine goes_ Try.func36 (by kernel_rfl) rfl #[.agg #[.int .i64 v1, .slice ARdmw dmw.length cRdmw, .int .i64 sdm], .agg #[.int .i64 v1, .slice ARabw abw.length cRabw, .int .i64 sab]] (by rfl) rfl rfl (by simp only [List.map_toArray, List.map_cons, List.map_nil]; rfl) ?_
    refine (cantingref02_Same.calls fu v1 ARdmw cRdmw dmw sdm v1 ARabw cRabw abw sab true _ (Kd.R_reads' Rdmw.out).2.2 (Kd.R_reads' Rdmw.out).2.1 (Kd.R_reads' Rabw.out).2.2 (Kd.R_reads' Rabw.out).2.1 HK.out.s5).mono ?_
    rintro e wo ⟨rfl, hBo⟩
    refine ⟨_, rfl, ?_⟩
    replace HDq := Aside0.mk (below_then HDq.out HDq.out.size hBo)
    clear hBo
    refine hK.out _ _ HDq.out (fun hHeld => ?_)
    clear hK K
    refine norm_ (a' := ?_) ?_ ?_
    rotate_left
    · show Act.put _ (some 240) _ = _
      (try simp only [Act.put, ta_, sz_, ss_, i64_w, i32_w])
      rfl
    refine pure_ (i := 48) (N := some 241) (v := ?_) (a' := ?_) #[I, I, I, I, I, I, I, I, I, I, I, I, I, I, I, I, I, I, I, I, I, I, I, I, I, I, I, I, I, I, I, I, I, I, I, I, I, I, I, I, I, I, I, I, I, I, I, I, I, O, O, O, O, O, O, O, O, O] rfl rfl (any_of HT_.out (by kernel_rfl)) (fun _ _ _ h => h) (Or.inl ⟨by rfl, ?_⟩) ?_ ?_
    rotate_left
    · intro w'
      go_simp
      with_reducible rfl
    rotate_left
    · simp only [Act.put, ta_, sz_, ss_, i64_w, i32_w]
      rfl
    refine pure_ (i := 49) (N := some 242) (v := ?_) (a' := ?_) #[I, I, I, I, I, I, I, I, I, I, I, I, I, I, I, I, I, I, I, I, I, I, I, I, I, I, I, I, I, I, I, I, I, I, I, I, I, I, I, I, I, I, I, I, I, I, I, I, I, I, O, O, O, O, O, O, O, O] rfl rfl (any_of HT_.out (by kernel_rfl)) (fun _ _ _ h => h) (Or.inl ⟨by rfl, ?_⟩) ?_ ?_
    rotate_left
    · intro w'
      go_simp
      with_reducible rfl
    rotate_left
    · simp only [Act.put, ta_, sz_, ss_, i64_w, i32_w]
      rfl
    refine pure_ (i := 50) (N := some 243) (v := ?_) (a' := ?_) #[I, I, I, I, I, I, I, I, I, I, I, I, I, I, I, I, I, I, I, I, I, I, I, I, I, I, I, I, I, I, I, I, I, I, I, I, I, I, I, I, I, I, I, I, I, I, I, I, I, I, I, O, O, O, O, O, O, O] rfl rfl (any_of HT_.out (by kernel_rfl)) (fun _ _ _ h => h) (Or.inl ⟨by rfl, ?_⟩) ?_ ?_
    rotate_left
    · intro w'
      go_simp
      with_reducible rfl
    rotate_left
    · simp only [Act.put, ta_, sz_, ss_, i64_w, i32_w]
      rfl
    refine take_ (i := 51) (N := some 244) (v := ?_) (a' := ?_) #[I, I, I, I, I, I, I, I, I, I, I, I, I, I, I, I, I, I, I, I, I, I, I, I, I, I, I, I, I, I, I, I, I, I, I, I, I, I, I, I, I, I, I, I, I, I, I, I, I, I, I, I, O, O, O, O, O, O] rfl rfl (take_ofW HT_.out HW_.out (by kernel_rfl)) (fun _ _ _ h => h) (Or.inl ⟨by rfl, ?_⟩) hHeld ?_ ?_
    rotate_left
    · rintro w' s0
      have q0 := (blk_cell (blk_below (blk_below Kno66.out b67_.out) s0) 0).trans rfl
      have q1 := (blk_cell (blk_below (blk_below Kno66.out b67_.out) s0) 1).trans rfl
      have q2 := (blk_cell (blk_below (blk_below Kno66.out b67_.out) s0) 2).trans rfl
      go_simp
      with_reducible rfl
    rotate_left
    · simp only [Act.put, ta_, sz_, ss_, i64_w, i32_w]
      rfl
    refine take_ (i := 53) (N := some 246) (v := ?_) (a' := ?_) #[I, I, I, I, I, I, I, I, I, I, I, I, I, I, I, I, I, I, I, I, I, I, I, I, I, I, I, I, I, I, I, I, I, I, I, I, I, I, I, I, I, I, I, I, I, I, I, I, I, I, I, I, O, I, O, O, O, O] rfl rfl (take_ofW HT_.out HW_.out (by kernel_rfl)) (fun _ _ _ h => h) (Or.inl ⟨by rfl, ?_⟩) hHeld ?_ ?_
    rotate_left
    · rintro w' s0
      have q0 := (blk_cell (blk_below Kze67.out s0) 0).trans rfl
      have q1 := (blk_cell (blk_below Kze67.out s0) 1).trans rfl
      have q2 := (blk_cell (blk_below Kze67.out s0) 2).trans rfl
      go_simp
      with_reducible rfl
    rotate_left
    · simp only [Act.put, ta_, sz_, ss_, i64_w, i32_w]
      rfl
    refine one_ (i := 52) (N := some 245) #[I, I, I, I, I, I, I, I, I, I, I, I, I, I, I, I, I, I, I, I, I, I, I, I, I, I, I, I, I, I, I, I, I, I, I, I, I, I, I, I, I, I, I, I, I, I, I, I, I, I, I, I, I, I, O, O, O, O] rfl rfl (one_of HT_.out (by kernel_rfl)) (by decide) (fun K hK => ?_)
    have HDq := Aside0.mk hHeld
    refine goes_ Try.func37 (by kernel_rfl) rfl #[.agg #[.int .i64 v1, .slice Ano no.length cno, .int .i64 sno]] (by rfl) rfl rfl (by simp only [List.map_toArray, List.map_cons, List.map_nil]; rfl) ?_
    refine (cantinglaw02_own.calls fu v1 Ano cno no sno v1 now sno _ (Kd.R_reads' (Kd.R_below (Kd.R_below Rno66.out b67_.out) HDq.out)).2.2 (Kd.R_reads' (Kd.R_below (Kd.R_below Rno66.out b67_.out) HDq.out)).2.1 HK.out.w_now).mono ?_
    rintro e wo ⟨vo, rfl, hRo, hBo⟩
    obtain ⟨ARnow, cRnow, rfl, _, _⟩ := Kd.R_reads hRo
    refine ⟨_, rfl, ?_⟩
    have Rnow := Aside0.mk (Kd.R_lower hRo HDq.out.size)
    try (replace Rzew := Aside0.mk (Kd.R_below Rzew.out hBo))
    replace HDq := Aside0.mk (below_then HDq.out HDq.out.size hBo)
    clear hRo hBo hHeld
    refine hK.out _ _ HDq.out (fun hHeld => ?_)
    clear hK K
    refine norm_ (a' := ?_) ?_ ?_
    rotate_left
    · show Act.put _ (some 245) _ = _
      (try simp only [Act.put, ta_, sz_, ss_, i64_w, i32_w])
      rfl
    refine one_ (i := 54) (N := some 247) #[I, I, I, I, I, I, I, I, I, I, I, I, I, I, I, I, I, I, I, I, I, I, I, I, I, I, I, I, I, I, I, I, I, I, I, I, I, I, I, I, I, I, I, I, I, I, I, I, I, I, I, I, I, I, I, O, O, O] rfl rfl (one_of HT_.out (by kernel_rfl)) (by decide) (fun K hK => ?_)
    have HDq := Aside0.mk hHeld
    refine goes_ Try.func37 (by kernel_rfl) rfl #[.agg #[.int .i64 v1, .slice Aze ze.length cze, .int .i64 sze]] (by rfl) rfl rfl (by simp only [List.map_toArray, List.map_cons, List.map_nil]; rfl) ?_
    refine (cantinglaw02_own.calls fu v1 Aze cze ze sze v1 zew sze _ (Kd.R_reads' (Kd.R_below (Kd.R_below Rze65.out b67_.out) HDq.out)).2.2 (Kd.R_reads' (Kd.R_below (Kd.R_below Rze65.out b67_.out) HDq.out)).2.1 HK.out.w_zew).mono ?_
    rintro e wo ⟨vo, rfl, hRo, hBo⟩
    obtain ⟨ARzew, cRzew, rfl, _, _⟩ := Kd.R_reads hRo
    refine ⟨_, rfl, ?_⟩
    have Rzew := Aside0.mk (Kd.R_lower hRo HDq.out.size)
    try (replace Rnow := Aside0.mk (Kd.R_below Rnow.out hBo))
    replace HDq := Aside0.mk (below_then HDq.out HDq.out.size hBo)
    clear hRo hBo hHeld
    refine hK.out _ _ HDq.out (fun hHeld => ?_)
    clear hK K
    refine norm_ (a' := ?_) ?_ ?_
    rotate_left
    · show Act.put _ (some 247) _ = _
      (try simp only [Act.put, ta_, sz_, ss_, i64_w, i32_w])
      rfl
    refine last_ (i := 55) (N := some 248) #[I, I, I, I, I, I, I, I, I, I, I, I, I, I, I, I, I, I, I, I, I, I, I, I, I, I, I, I, I, I, I, I, I, I, I, I, I, I, I, I, I, I, I, I, I, I, I, I, I, I, I, I, I, I, I, I, O, O] rfl rfl (one_of HT_.out (by kernel_rfl)) (by decide) (fun K hK => ?_)
    have HDq := Aside0.mk hHeld
    clear hHeld
    refine goes_ Try.func36 (by kernel_rfl) rfl #[.agg #[.int .i64 v1, .slice ARnow now.length cRnow, .int .i64 sno], .agg #[.int .i64 v1, .slice ARzew zew.length cRzew, .int .i64 sze]] (by rfl) rfl rfl (by simp only [List.map_toArray, List.map_cons, List.map_nil]; rfl) ?_
    refine (cantingref02_Same.calls fu v1 ARnow cRnow now sno v1 ARzew cRzew zew sze true _ (Kd.R_reads' Rnow.out).2.2 (Kd.R_reads' Rnow.out).2.1 (Kd.R_reads' Rzew.out).2.2 (Kd.R_reads' Rzew.out).2.1 HK.out.s6).mono ?_
    rintro e wo ⟨rfl, hBo⟩
    refine ⟨_, rfl, ?_⟩
    replace HDq := Aside0.mk (below_then HDq.out HDq.out.size hBo)
    clear hBo
    refine hK.out _ _ ?_
    clear hK K
    refine norm_ (a' := ?_) ?_ ?_
    rotate_left
    · show Act.put _ (some 248) _ = _
      (try simp only [Act.put, ta_, sz_, ss_, i64_w, i32_w])
      rfl
    refine pure_ (i := 56) (N := some 249) (v := ?_) (a' := ?_) #[I, I, I, I, I, I, I, I, I, I, I, I, I, I, I, I, I, I, I, I, I, I, I, I, I, I, I, I, I, I, I, I, I, I, I, I, I, I, I, I, I, I, I, I, I, I, I, I, I, I, I, I, I, I, I, I, I, O] rfl rfl (any_of HT_.out (by kernel_rfl)) (fun _ _ _ h => h) (Or.inl ⟨by rfl, ?_⟩) ?_ ?_
    rotate_left
    · intro w'
      go_simp
      with_reducible rfl
    rotate_left
    · simp only [Act.put, ta_, sz_, ss_, i64_w, i32_w]
      rfl
    refine pure_ (i := 57) (N := some 250) (v := ?_) (a' := ?_) #[I, I, I, I, I, I, I, I, I, I, I, I, I, I, I, I, I, I, I, I, I, I, I, I, I, I, I, I, I, I, I, I, I, I, I, I, I, I, I, I, I, I, I, I, I, I, I, I, I, I, I, I, I, I, I, I, I, I] rfl rfl (any_of HT_.out (by kernel_rfl)) (fun _ _ _ h => h) (Or.inl ⟨by rfl, ?_⟩) ?_ ?_
    rotate_left
    · intro w'
      go_simp
      with_reducible rfl
    rotate_left
    · simp only [Act.put, ta_, sz_, ss_, i64_w, i32_w]
      rfl
    refine done_ (done_of HT_.out (by kernel_rfl)) ?_
    obtain ⟨x68, hx68⟩ : ∃ W, W = wo := ⟨_, rfl⟩
    rw [← hx68] at HDq
    rw [← hx68]
    clear hx68
    have HB69 := Aside0.mk (below_then HB67.out (HB67.out).size HDq.out)
    have c69_ := Aside0.mk (below_then b67_.out b67_.out.size HDq.out)
    have Kf69 := Aside0.mk (blk_below Kf66.out c69_.out)
    have Ka69 := Aside0.mk (blk_below Ka66.out c69_.out)
    have Kb69 := Aside0.mk (blk_below Kb66.out c69_.out)
    have Kc69 := Aside0.mk (blk_below Kc66.out c69_.out)
    have Kn069 := Aside0.mk (blk_below Kn066.out c69_.out)
    have Kab69 := Aside0.mk (blk_below Kab66.out c69_.out)
    have Kbc69 := Aside0.mk (blk_below Kbc66.out c69_.out)
    have Kle69 := Aside0.mk (blk_below Kle66.out c69_.out)
    have Kac69 := Aside0.mk (blk_below Kac66.out c69_.out)
    have Kri69 := Aside0.mk (blk_below Kri66.out c69_.out)
    have Knb69 := Aside0.mk (blk_below Knb66.out c69_.out)
    have Knn69 := Aside0.mk (blk_below Knn66.out c69_.out)
    have Kdm69 := Aside0.mk (blk_below Kdm66.out c69_.out)
    have Kno69 := Aside0.mk (blk_below Kno66.out c69_.out)
    have Kze69 := Aside0.mk (blk_below Kze67.out HDq.out)
    have Ro169 := Aside0.mk (Kd.R_below Ro166.out c69_.out)
    have Ro269 := Aside0.mk (Kd.R_below Ro266.out c69_.out)
    have Ro369 := Aside0.mk (Kd.R_below Ro366.out c69_.out)
    have Rn069 := Aside0.mk (Kd.R_below Rn066.out c69_.out)
    have Rab69 := Aside0.mk (Kd.R_below Rab66.out c69_.out)
    have Rbc69 := Aside0.mk (Kd.R_below Rbc66.out c69_.out)
    have Rle69 := Aside0.mk (Kd.R_below Rle66.out c69_.out)
    have Rac69 := Aside0.mk (Kd.R_below Rac66.out c69_.out)
    have Rri69 := Aside0.mk (Kd.R_below Rri66.out c69_.out)
    have Rnb69 := Aside0.mk (Kd.R_below Rnb66.out c69_.out)
    have Rnn69 := Aside0.mk (Kd.R_below Rnn66.out c69_.out)
    have Rdm69 := Aside0.mk (Kd.R_below Rdm66.out c69_.out)
    have Rno69 := Aside0.mk (Kd.R_below Rno66.out c69_.out)
    have Rze69 := Aside0.mk (Kd.R_below Rze65.out c69_.out)
    have yf0_70 := (blk_cell Kf69.out 0).trans rfl
    have yf1_70 := (blk_cell Kf69.out 1).trans rfl
    have yf2_70 := (blk_cell Kf69.out 2).trans rfl
    by_cases hv0 : v1 = 0
    · skip
      go_wp2_with fail
      refine (cantinglaw02_awake.calls fu true _ HAW.out).mono ?_
      rintro e w3 ⟨rfl, hB3⟩
      have B3 := Aside0.mk (below_then HB69.out HB69.out.size hB3)
      clear hB3
      go_wp2
      go_ret
      exact ⟨by rfl, B3.out⟩
    have hwz := HK.out.wz hv0
    go_wp2_with fail
    clear yf0_70 yf1_70 yf2_70
    rw [HJ.out]
    refine (mask_Var.calls v1 j v1 va sva 0 _ (HK.out.h_va hv0)).mono ?_
    rintro e w71 ⟨vva_, rfl, hRva, hb71⟩
    obtain ⟨Ava, cva, rfl, hcva, _⟩ := Kd.R_reads hRva
    have HB72 := Aside0.mk (below_then HB69.out (HB69.out).size hb71)
    have Kf72 := Aside0.mk (blk_below Kf69.out hb71)
    have Ka72 := Aside0.mk (blk_below Ka69.out hb71)
    have Ro172 := Aside0.mk (Kd.R_below Ro169.out hb71)
    have Rva71 := Aside0.mk (Kd.R_lower hRva (HB69.out).size)
    clear hb71 hRva Ka66 Kab66 Kac66 Kb66 Kbc66 Kc66 Kdm66 Kf66 Kle66 Kn066 Knb66 Knn66 Kno66 Kri66 Kze67 Rab66 Rac66 Rbc66 Rdm66 Rle66 Rn066 Rnb66 Rnn66 Rno66 Ro166 Ro266 Ro366 Rri66 Rze65 Ka69 Kf69 Ro169
    have ya0_73 := (blk_cell (blk_alloc Ka72.out (.cells #[.int .i64 v1, .slice Ava va.length cva, .int .i64 sva] 28)) 0).trans rfl
    have ya1_73 := (blk_cell (blk_alloc Ka72.out (.cells #[.int .i64 v1, .slice Ava va.length cva, .int .i64 sva] 28)) 1).trans rfl
    have ya2_73 := (blk_cell (blk_alloc Ka72.out (.cells #[.int .i64 v1, .slice Ava va.length cva, .int .i64 sva] 28)) 2).trans rfl
    go_wp2_with fail
    obtain ⟨W74, hW74⟩ : ∃ W, W = (w71.alloc (.cells #[.int .i64 v1, .slice Ava va.length cva, .int .i64 sva] 28)) := ⟨_, rfl⟩
    have b74_ := Aside0.mk (show Below w71.heap.size w71 W74 by rw [hW74]; exact below_alloc (Below.refl _ _) _)
    have Kva74 := Aside0.mk (show W74.heap[w71.heap.size]? = some (.cells #[.int .i64 v1, .slice Ava va.length cva, .int .i64 sva] 28 (0, 0)) by rw [hW74]; exact blk_new _ _)
    have HB74 := Aside0.mk (below_then HB72.out HB72.out.size b74_.out)
    rw [← hW74]
    clear hW74
    clear ya0_73 ya1_73 ya2_73
    refine (mask_Restrict.calls v1 Ao1 co1 o1 r1 j true v1 on son 0 _ (Kd.R_reads' (Kd.R_below Ro172.out b74_.out)).2.2 (Kd.R_reads' (Kd.R_below Ro172.out b74_.out)).2.1 (HK.out.h_on hv0)).mono ?_
    rintro e w75 ⟨von_, rfl, hRon, hb75⟩
    obtain ⟨Aon, con, rfl, hcon, _⟩ := Kd.R_reads hRon
    have HB76 := Aside0.mk (below_then HB74.out (HB74.out).size hb75)
    have c76_ := Aside0.mk (below_then b74_.out b74_.out.size hb75)
    have Kf76 := Aside0.mk (blk_below Kf72.out c76_.out)
    have Ka76 := Aside0.mk (blk_below Ka72.out c76_.out)
    have Kva76 := Aside0.mk (blk_below Kva74.out hb75)
    have Ro176 := Aside0.mk (Kd.R_below Ro172.out c76_.out)
    have Rva76 := Aside0.mk (Kd.R_below Rva71.out c76_.out)
    have Ron75 := Aside0.mk (Kd.R_lower hRon (HB74.out).size)
    clear hb75 hRon Ka72 Kf72 Kva74 Ro172 Rva71
    have ya0_77 := (blk_cell (blk_alloc Ka76.out (.cells #[.int .i64 v1, .slice Aon on.length con, .int .i64 son] 28)) 0).trans rfl
    have ya1_77 := (blk_cell (blk_alloc Ka76.out (.cells #[.int .i64 v1, .slice Aon on.length con, .int .i64 son] 28)) 1).trans rfl
    have ya2_77 := (blk_cell (blk_alloc Ka76.out (.cells #[.int .i64 v1, .slice Aon on.length con, .int .i64 son] 28)) 2).trans rfl
    go_wp2_with fail
    obtain ⟨W78, hW78⟩ : ∃ W, W = (w75.alloc (.cells #[.int .i64 v1, .slice Aon on.length con, .int .i64 son] 28)) := ⟨_, rfl⟩
    have b78_ := Aside0.mk (show Below w75.heap.size w75 W78 by rw [hW78]; exact below_alloc (Below.refl _ _) _)
    have Kon78 := Aside0.mk (show W78.heap[w75.heap.size]? = some (.cells #[.int .i64 v1, .slice Aon on.length con, .int .i64 son] 28 (0, 0)) by rw [hW78]; exact blk_new _ _)
    have HB78 := Aside0.mk (below_then HB76.out HB76.out.size b78_.out)
    rw [← hW78]
    clear hW78
    clear ya0_77 ya1_77 ya2_77
    refine (mask_Restrict.calls v1 Ao1 co1 o1 r1 j false v1 of sof 0 _ (Kd.R_reads' (Kd.R_below Ro176.out b78_.out)).2.2 (Kd.R_reads' (Kd.R_below Ro176.out b78_.out)).2.1 (HK.out.h_of hv0)).mono ?_
    rintro e w79 ⟨vof_, rfl, hRof, hb79⟩
    obtain ⟨Aof, cof, rfl, hcof, _⟩ := Kd.R_reads hRof
    have HB80 := Aside0.mk (below_then HB78.out (HB78.out).size hb79)
    have c80_ := Aside0.mk (below_then b78_.out b78_.out.size hb79)
    have Kf80 := Aside0.mk (blk_below Kf76.out c80_.out)
    have Ka80 := Aside0.mk (blk_below Ka76.out c80_.out)
    have Kva80 := Aside0.mk (blk_below Kva76.out c80_.out)
    have Kon80 := Aside0.mk (blk_below Kon78.out hb79)
    have Ro180 := Aside0.mk (Kd.R_below Ro176.out c80_.out)
    have Rva80 := Aside0.mk (Kd.R_below Rva76.out c80_.out)
    have Ron80 := Aside0.mk (Kd.R_below Ron75.out c80_.out)
    have Rof79 := Aside0.mk (Kd.R_lower hRof (HB78.out).size)
    clear hb79 hRof Ka76 Kf76 Kon78 Kva76 Ro176 Ron75 Rva76
    have yof0_81 := (blk_cell (blk_new w79 (.cells #[.int .i64 v1, .slice Aof of.length cof, .int .i64 sof] 28)) 0).trans rfl
    have yof1_81 := (blk_cell (blk_new w79 (.cells #[.int .i64 v1, .slice Aof of.length cof, .int .i64 sof] 28)) 1).trans rfl
    have yof2_81 := (blk_cell (blk_new w79 (.cells #[.int .i64 v1, .slice Aof of.length cof, .int .i64 sof] 28)) 2).trans rfl
    have yon0_81 := (blk_cell (blk_alloc Kon80.out (.cells #[.int .i64 v1, .slice Aof of.length cof, .int .i64 sof] 28)) 0).trans rfl
    have yon1_81 := (blk_cell (blk_alloc Kon80.out (.cells #[.int .i64 v1, .slice Aof of.length cof, .int .i64 sof] 28)) 1).trans rfl
    have yon2_81 := (blk_cell (blk_alloc Kon80.out (.cells #[.int .i64 v1, .slice Aof of.length cof, .int .i64 sof] 28)) 2).trans rfl
    have yva0_81 := (blk_cell (blk_alloc Kva80.out (.cells #[.int .i64 v1, .slice Aof of.length cof, .int .i64 sof] 28)) 0).trans rfl
    have yva1_81 := (blk_cell (blk_alloc Kva80.out (.cells #[.int .i64 v1, .slice Aof of.length cof, .int .i64 sof] 28)) 1).trans rfl
    have yva2_81 := (blk_cell (blk_alloc Kva80.out (.cells #[.int .i64 v1, .slice Aof of.length cof, .int .i64 sof] 28)) 2).trans rfl
    go_wp2_with fail
    obtain ⟨W82, hW82⟩ : ∃ W, W = (w79.alloc (.cells #[.int .i64 v1, .slice Aof of.length cof, .int .i64 sof] 28)) := ⟨_, rfl⟩
    have b82_ := Aside0.mk (show Below w79.heap.size w79 W82 by rw [hW82]; exact below_alloc (Below.refl _ _) _)
    have Kof82 := Aside0.mk (show W82.heap[w79.heap.size]? = some (.cells #[.int .i64 v1, .slice Aof of.length cof, .int .i64 sof] 28 (0, 0)) by rw [hW82]; exact blk_new _ _)
    have HB82 := Aside0.mk (below_then HB80.out HB80.out.size b82_.out)
    rw [← hW82]
    clear hW82
    clear yof0_81 yof1_81 yof2_81 yon0_81 yon1_81 yon2_81 yva0_81 yva1_81 yva2_81
    refine (mask_Ite.calls v1 Ava cva va sva v1 Aon con on son v1 Aof cof of sof v1 ag sag 0 _ (Kd.R_reads' (Kd.R_below Rva80.out b82_.out)).2.2 (Kd.R_reads' (Kd.R_below Rva80.out b82_.out)).2.1 (Kd.R_reads' (Kd.R_below Ron80.out b82_.out)).2.2 (Kd.R_reads' (Kd.R_below Ron80.out b82_.out)).2.1 (Kd.R_reads' (Kd.R_below Rof79.out b82_.out)).2.2 (Kd.R_reads' (Kd.R_below Rof79.out b82_.out)).2.1 (HK.out.h_ag hv0)).mono ?_
    rintro e w83 ⟨vag_, rfl, hRag, hb83⟩
    obtain ⟨Aag, cag, rfl, hcag, _⟩ := Kd.R_reads hRag
    have HB84 := Aside0.mk (below_then HB82.out (HB82.out).size hb83)
    have c84_ := Aside0.mk (below_then b82_.out b82_.out.size hb83)
    have Kf84 := Aside0.mk (blk_below Kf80.out c84_.out)
    have Ka84 := Aside0.mk (blk_below Ka80.out c84_.out)
    have Kva84 := Aside0.mk (blk_below Kva80.out c84_.out)
    have Kon84 := Aside0.mk (blk_below Kon80.out c84_.out)
    have Kof84 := Aside0.mk (blk_below Kof82.out hb83)
    have Ro184 := Aside0.mk (Kd.R_below Ro180.out c84_.out)
    have Rva84 := Aside0.mk (Kd.R_below Rva80.out c84_.out)
    have Ron84 := Aside0.mk (Kd.R_below Ron80.out c84_.out)
    have Rof84 := Aside0.mk (Kd.R_below Rof79.out c84_.out)
    have Rag83 := Aside0.mk (Kd.R_lower hRag (HB82.out).size)
    clear hb83 hRag Ka80 Kf80 Kof82 Kon80 Kva80 Ro180 Rof79 Ron80 Rva80
    go_wp2
    obtain ⟨W85, hW85⟩ : ∃ W, W = (w83.alloc (.cells #[.int .i64 v1, .slice Aag ag.length cag, .int .i64 sag] 28)) := ⟨_, rfl⟩
    have b85_ := Aside0.mk (show Below w83.heap.size w83 W85 by rw [hW85]; exact below_alloc (Below.refl _ _) _)
    have Kag85 := Aside0.mk (show W85.heap[w83.heap.size]? = some (.cells #[.int .i64 v1, .slice Aag ag.length cag, .int .i64 sag] 28 (0, 0)) by rw [hW85]; exact blk_new _ _)
    have HB85 := Aside0.mk (below_then HB84.out HB84.out.size b85_.out)
    rw [← hW85]
    clear hW85
    refine start_ (n := 24) (S := fun w' => (Below W85.heap.size W85 w')) (ds := [21]) #[O, O, O, O, O, O, O, O, O, O, O, O, O, O, O, O, O, O, O, O, O, O, O, O] (by kernel_rfl) rfl rfl (below_drew (Below.refl _ _)) (fun hHeld => ?_)
    refine with_tabW tb_MaskAlgebra_31.tab tb_MaskAlgebra_31.bits (fun HT_ HW_ => ?_)
    refine pure_ (i := 0) (N := some 288) (v := ?_) (a' := ?_) #[I, O, O, O, O, O, O, O, O, O, O, O, O, O, O, O, O, O, O, O, O, O, O, O] rfl rfl (any_of HT_.out (by kernel_rfl)) (fun _ _ _ h => h) (Or.inl ⟨by rfl, ?_⟩) ?_ ?_
    rotate_left
    · intro w'
      go_simp
      with_reducible rfl
    rotate_left
    · simp only [Act.put, ta_, sz_, ss_, i64_w, i32_w]
      rfl
    refine pure_ (i := 1) (N := some 289) (v := ?_) (a' := ?_) #[I, I, O, O, O, O, O, O, O, O, O, O, O, O, O, O, O, O, O, O, O, O, O, O] rfl rfl (any_of HT_.out (by kernel_rfl)) (fun _ _ _ h => h) (Or.inl ⟨by rfl, ?_⟩) ?_ ?_
    rotate_left
    · intro w'
      go_simp
      with_reducible rfl
    rotate_left
    · simp only [Act.put, ta_, sz_, ss_, i64_w, i32_w]
      rfl
    refine pure_ (i := 2) (N := some 290) (v := ?_) (a' := ?_) #[I, I, I, O, O, O, O, O, O, O, O, O, O, O, O, O, O, O, O, O, O, O, O, O] rfl rfl (any_of HT_.out (by kernel_rfl)) (fun _ _ _ h => h) (Or.inl ⟨by rfl, ?_⟩) ?_ ?_
    rotate_left
    · intro w'
      go_simp
      with_reducible rfl
    rotate_left
    · simp only [Act.put, ta_, sz_, ss_, i64_w, i32_w]
      rfl
    refine pure_ (i := 3) (N := some 291) (v := ?_) (a' := ?_) #[I, I, I, I, O, O, O, O, O, O, O, O, O, O, O, O, O, O, O, O, O, O, O, O] rfl rfl (any_of HT_.out (by kernel_rfl)) (fun _ _ _ h => h) (Or.inl ⟨by rfl, ?_⟩) ?_ ?_
    rotate_left
    · intro w'
      go_simp
      with_reducible rfl
    rotate_left
    · simp only [Act.put, ta_, sz_, ss_, i64_w, i32_w]
      rfl
    refine pure_ (i := 4) (N := some 292) (v := ?_) (a' := ?_) #[I, I, I, I, I, O, O, O, O, O, O, O, O, O, O, O, O, O, O, O, O, O, O, O] rfl rfl (any_of HT_.out (by kernel_rfl)) (fun _ _ _ h => h) (Or.inl ⟨by rfl, ?_⟩) ?_ ?_
    rotate_left
    · intro w'
      go_simp
      with_reducible rfl
    rotate_left
    · simp only [Act.put, ta_, sz_, ss_, i64_w, i32_w]
      rfl
    refine pure_ (i := 5) (N := some 293) (v := ?_) (a' := ?_) #[I, I, I, I, I, I, O, O, O, O, O, O, O, O, O, O, O, O, O, O, O, O, O, O] rfl rfl (any_of HT_.out (by kernel_rfl)) (fun _ _ _ h => h) (Or.inl ⟨by rfl, ?_⟩) ?_ ?_
    rotate_left
    · intro w'
      go_simp
      with_reducible rfl
    rotate_left
    · simp only [Act.put, ta_, sz_, ss_, i64_w, i32_w]
      rfl
    refine pure_ (i := 6) (N := some 294) (v := ?_) (a' := ?_) #[I, I, I, I, I, I, I, O, O, O, O, O, O, O, O, O, O, O, O, O, O, O, O, O] rfl rfl (any_of HT_.out (by kernel_rfl)) (fun _ _ _ h => h) (Or.inl ⟨by rfl, ?_⟩) ?_ ?_
    rotate_left
    · intro w'
      go_simp
      with_reducible rfl
    rotate_left
    · simp only [Act.put, ta_, sz_, ss_, i64_w, i32_w]
      rfl
    refine pure_ (i := 7) (N := some 295) (v := ?_) (a' := ?_) #[I, I, I, I, I, I, I, I, O, O, O, O, O, O, O, O, O, O, O, O, O, O, O, O] rfl rfl (any_of HT_.out (by kernel_rfl)) (fun _ _ _ h => h) (Or.inl ⟨by rfl, ?_⟩) ?_ ?_
    rotate_left
    · intro w'
      go_simp
      with_reducible rfl
    rotate_left
    · simp only [Act.put, ta_, sz_, ss_, i64_w, i32_w]
      rfl
    refine pure_ (i := 8) (N := some 296) (v := ?_) (a' := ?_) #[I, I, I, I, I, I, I, I, I, O, O, O, O, O, O, O, O, O, O, O, O, O, O, O] rfl rfl (any_of HT_.out (by kernel_rfl)) (fun _ _ _ h => h) (Or.inl ⟨by rfl, ?_⟩) ?_ ?_
    rotate_left
    · intro w'
      go_simp
      with_reducible rfl
    rotate_left
    · simp only [Act.put, ta_, sz_, ss_, i64_w, i32_w]
      rfl
    refine pure_ (i := 9) (N := some 297) (v := ?_) (a' := ?_) #[I, I, I, I, I, I, I, I, I, I, O, O, O, O, O, O, O, O, O, O, O, O, O, O] rfl rfl (any_of HT_.out (by kernel_rfl)) (fun _ _ _ h => h) (Or.inl ⟨by rfl, ?_⟩) ?_ ?_
    rotate_left
    · intro w'
      go_simp
      with_reducible rfl
    rotate_left
    · simp only [Act.put, ta_, sz_, ss_, i64_w, i32_w]
      rfl
    refine pure_ (i := 10) (N := some 298) (v := ?_) (a' := ?_) #[I, I, I, I, I, I, I, I, I, I, I, O, O, O, O, O, O, O, O, O, O, O, O, O] rfl rfl (any_of HT_.out (by kernel_rfl)) (fun _ _ _ h => h) (Or.inl ⟨by rfl, ?_⟩) ?_ ?_
    rotate_left
    · intro w'
      go_simp
      with_reducible rfl
    rotate_left
    · simp only [Act.put, ta_, sz_, ss_, i64_w, i32_w]
      rfl
    refine pure_ (i := 11) (N := some 299) (v := ?_) (a' := ?_) #[I, I, I, I, I, I, I, I, I, I, I, I, O, O, O, O, O, O, O, O, O, O, O, O] rfl rfl (any_of HT_.out (by kernel_rfl)) (fun _ _ _ h => h) (Or.inl ⟨by rfl, ?_⟩) ?_ ?_
    rotate_left
    · intro w'
      go_simp
      with_reducible rfl
    rotate_left
    · simp only [Act.put, ta_, sz_, ss_, i64_w, i32_w]
      rfl
    refine pure_ (i := 12) (N := some 300) (v := ?_) (a' := ?_) #[I, I, I, I, I, I, I, I, I, I, I, I, I, O, O, O, O, O, O, O, O, O, O, O] rfl rfl (any_of HT_.out (by kernel_rfl)) (fun _ _ _ h => h) (Or.inl ⟨by rfl, ?_⟩) ?_ ?_
    rotate_left
    · intro w'
      go_simp
      with_reducible rfl
    rotate_left
    · simp only [Act.put, ta_, sz_, ss_, i64_w, i32_w]
      rfl
    refine pure_ (i := 13) (N := some 301) (v := ?_) (a' := ?_) #[I, I, I, I, I, I, I, I, I, I, I, I, I, I, O, O, O, O, O, O, O, O, O, O] rfl rfl (any_of HT_.out (by kernel_rfl)) (fun _ _ _ h => h) (Or.inl ⟨by rfl, ?_⟩) ?_ ?_
    rotate_left
    · intro w'
      go_simp
      with_reducible rfl
    rotate_left
    · simp only [Act.put, ta_, sz_, ss_, i64_w, i32_w]
      rfl
    refine pure_ (i := 14) (N := some 302) (v := ?_) (a' := ?_) #[I, I, I, I, I, I, I, I, I, I, I, I, I, I, I, O, O, O, O, O, O, O, O, O] rfl rfl (any_of HT_.out (by kernel_rfl)) (fun _ _ _ h => h) (Or.inl ⟨by rfl, ?_⟩) ?_ ?_
    rotate_left
    · intro w'
      go_simp
      with_reducible rfl
    rotate_left
    · simp only [Act.put, ta_, sz_, ss_, i64_w, i32_w]
      rfl
    refine take_ (i := 15) (N := some 303) (v := ?_) (a' := ?_) #[I, I, I, I, I, I, I, I, I, I, I, I, I, I, I, I, O, O, O, O, O, O, O, O] rfl rfl (take_ofW HT_.out HW_.out (by kernel_rfl)) (fun _ _ _ h => h) (Or.inl ⟨by rfl, ?_⟩) hHeld ?_ ?_
    rotate_left
    · rintro w' s0
      have q0 := (blk_cell (blk_below Kag85.out s0) 0).trans rfl
      have q1 := (blk_cell (blk_below Kag85.out s0) 1).trans rfl
      have q2 := (blk_cell (blk_below Kag85.out s0) 2).trans rfl
      go_simp
      with_reducible rfl
    rotate_left
    · simp only [Act.put, ta_, sz_, ss_, i64_w, i32_w]
      rfl
    refine take_ (i := 17) (N := some 305) (v := ?_) (a' := ?_) #[I, I, I, I, I, I, I, I, I, I, I, I, I, I, I, I, O, I, O, O, O, O, O, O] rfl rfl (take_ofW HT_.out HW_.out (by kernel_rfl)) (fun _ _ _ h => h) (Or.inl ⟨by rfl, ?_⟩) hHeld ?_ ?_
    rotate_left
    · rintro w' s0
      have q0 := (blk_cell (blk_below (blk_below Kf84.out b85_.out) s0) 0).trans rfl
      have q1 := (blk_cell (blk_below (blk_below Kf84.out b85_.out) s0) 1).trans rfl
      have q2 := (blk_cell (blk_below (blk_below Kf84.out b85_.out) s0) 2).trans rfl
      go_simp
      with_reducible rfl
    rotate_left
    · simp only [Act.put, ta_, sz_, ss_, i64_w, i32_w]
      rfl
    refine one_ (i := 16) (N := some 304) #[I, I, I, I, I, I, I, I, I, I, I, I, I, I, I, I, I, I, O, O, O, O, O, O] rfl rfl (one_of HT_.out (by kernel_rfl)) (by decide) (fun K hK => ?_)
    have HDq := Aside0.mk hHeld
    refine goes_ Try.func37 (by kernel_rfl) rfl #[.agg #[.int .i64 v1, .slice Aag ag.length cag, .int .i64 sag]] (by rfl) rfl rfl (by simp only [List.map_toArray, List.map_cons, List.map_nil]; rfl) ?_
    refine (cantinglaw02_own.calls fu v1 Aag cag ag sag v1 agw sag _ (Kd.R_reads' (Kd.R_below (Kd.R_below Rag83.out b85_.out) HDq.out)).2.2 (Kd.R_reads' (Kd.R_below (Kd.R_below Rag83.out b85_.out) HDq.out)).2.1 (HK.out.w_agw hv0)).mono ?_
    rintro e wo ⟨vo, rfl, hRo, hBo⟩
    obtain ⟨ARagw, cRagw, rfl, _, _⟩ := Kd.R_reads hRo
    refine ⟨_, rfl, ?_⟩
    have Ragw := Aside0.mk (Kd.R_lower hRo HDq.out.size)
    replace HDq := Aside0.mk (below_then HDq.out HDq.out.size hBo)
    clear hRo hBo hHeld
    refine hK.out _ _ HDq.out (fun hHeld => ?_)
    clear hK K
    refine norm_ (a' := ?_) ?_ ?_
    rotate_left
    · show Act.put _ (some 304) _ = _
      (try simp only [Act.put, ta_, sz_, ss_, i64_w, i32_w])
      rfl
    refine one_ (i := 18) (N := some 306) #[I, I, I, I, I, I, I, I, I, I, I, I, I, I, I, I, I, I, I, O, O, O, O, O] rfl rfl (one_of HT_.out (by kernel_rfl)) (by decide) (fun K hK => ?_)
    have HDq := Aside0.mk hHeld
    clear hHeld
    refine goes_ Try.func36 (by kernel_rfl) rfl #[.agg #[.int .i64 v1, .slice ARagw agw.length cRagw, .int .i64 sag], .agg #[.int .i64 v1, .slice A1 k1.length c1, .int .i64 r1]] (by rfl) rfl rfl (by simp only [List.map_toArray, List.map_cons, List.map_nil]; rfl) ?_
    refine (cantingref02_Same.calls fu v1 ARagw cRagw agw sag v1 A1 c1 k1 r1 true _ (Kd.R_reads' Ragw.out).2.2 (Kd.R_reads' Ragw.out).2.1 (Kd.C_below (Kd.C_below HCf.out HB85.out) HDq.out) hcf (HK.out.s7 hv0)).mono ?_
    rintro e wo ⟨rfl, hBo⟩
    refine ⟨_, rfl, ?_⟩
    replace HDq := Aside0.mk (below_then HDq.out HDq.out.size hBo)
    clear hBo
    refine hK.out _ _ HDq.out (fun hHeld => ?_)
    clear hK K
    refine norm_ (a' := ?_) ?_ ?_
    rotate_left
    · show Act.put _ (some 306) _ = _
      (try simp only [Act.put, ta_, sz_, ss_, i64_w, i32_w])
      rfl
    refine pure_ (i := 19) (N := some 307) (v := ?_) (a' := ?_) #[I, I, I, I, I, I, I, I, I, I, I, I, I, I, I, I, I, I, I, I, O, O, O, O] rfl rfl (any_of HT_.out (by kernel_rfl)) (fun _ _ _ h => h) (Or.inl ⟨by rfl, ?_⟩) ?_ ?_
    rotate_left
    · intro w'
      go_simp
      with_reducible rfl
    rotate_left
    · simp only [Act.put, ta_, sz_, ss_, i64_w, i32_w]
      rfl
    refine pure_ (i := 20) (N := some 308) (v := ?_) (a' := ?_) #[I, I, I, I, I, I, I, I, I, I, I, I, I, I, I, I, I, I, I, I, I, O, O, O] rfl rfl (any_of HT_.out (by kernel_rfl)) (fun _ _ _ h => h) (Or.inl ⟨by rfl, ?_⟩) ?_ ?_
    rotate_left
    · intro w'
      go_simp
      with_reducible rfl
    rotate_left
    · simp only [Act.put, ta_, sz_, ss_, i64_w, i32_w]
      rfl
    refine last_ (i := 21) (N := some 309) #[I, I, I, I, I, I, I, I, I, I, I, I, I, I, I, I, I, I, I, I, I, I, O, O] rfl rfl (one_of HT_.out (by kernel_rfl)) (by decide) (fun K hK => ?_)
    have HDq := Aside0.mk hHeld
    clear hHeld
    refine goes_ Try.func24 (by kernel_rfl) rfl #[] (by rfl) rfl rfl (by simp only [List.map_toArray, List.map_nil]) ?_
    refine (cantinglaw02_awake.calls fu true _ HAW.out).mono ?_
    rintro e wo ⟨rfl, hBo⟩
    refine ⟨_, rfl, ?_⟩
    replace HDq := Aside0.mk (below_then HDq.out HDq.out.size hBo)
    clear hBo
    refine hK.out _ _ ?_
    clear hK K
    refine norm_ (a' := ?_) ?_ ?_
    rotate_left
    · show Act.put _ (some 309) _ = _
      (try simp only [Act.put, ta_, sz_, ss_, i64_w, i32_w])
      rfl
    refine pure_ (i := 22) (N := some 310) (v := ?_) (a' := ?_) #[I, I, I, I, I, I, I, I, I, I, I, I, I, I, I, I, I, I, I, I, I, I, I, O] rfl rfl (any_of HT_.out (by kernel_rfl)) (fun _ _ _ h => h) (Or.inl ⟨by rfl, ?_⟩) ?_ ?_
    rotate_left
    · intro w'
      go_simp
      with_reducible rfl
    rotate_left
    · simp only [Act.put, ta_, sz_, ss_, i64_w, i32_w]
      rfl
    refine pure_ (i := 23) (N := some 8) (v := ?_) (a' := ?_) #[I, I, I, I, I, I, I, I, I, I, I, I, I, I, I, I, I, I, I, I, I, I, I, I] rfl rfl (any_of HT_.out (by kernel_rfl)) (fun _ _ _ h => h) (Or.inl ⟨by rfl, ?_⟩) ?_ ?_
    rotate_left
    · intro w'
      go_simp
      with_reducible rfl
    rotate_left
    · simp only [Act.put, ta_, sz_, ss_, i64_w, i32_w]
      rfl
    refine done_ (done_of HT_.out (by kernel_rfl)) ?_
    obtain ⟨x86, hx86⟩ : ∃ W, W = wo := ⟨_, rfl⟩
    rw [← hx86] at HDq
    rw [← hx86]
    clear hx86
    have HB87 := Aside0.mk (below_then HB85.out (HB85.out).size HDq.out)
    have c87_ := Aside0.mk (below_then b85_.out b85_.out.size HDq.out)
    have Kf87 := Aside0.mk (blk_below Kf84.out c87_.out)
    have Ka87 := Aside0.mk (blk_below Ka84.out c87_.out)
    have Kva87 := Aside0.mk (blk_below Kva84.out c87_.out)
    have Kon87 := Aside0.mk (blk_below Kon84.out c87_.out)
    have Kof87 := Aside0.mk (blk_below Kof84.out c87_.out)
    have Kag87 := Aside0.mk (blk_below Kag85.out HDq.out)
    have Ro187 := Aside0.mk (Kd.R_below Ro184.out c87_.out)
    have Rva87 := Aside0.mk (Kd.R_below Rva84.out c87_.out)
    have Ron87 := Aside0.mk (Kd.R_below Ron84.out c87_.out)
    have Rof87 := Aside0.mk (Kd.R_below Rof84.out c87_.out)
    have Rag87 := Aside0.mk (Kd.R_below Rag83.out c87_.out)
    go_wp2
    go_ret
    exact ⟨by rfl, HB87.out⟩
  refine join_ (σ := (Option Addr × Nat) × (Option Addr × Nat) × Nat × Nat × Nat) 4 #[I, I, I, I, I, O, I, I, I, O, O, O] (fun s => [(43, .agg #[.int .i64 v1, .slice s.1.1 o1.length s.1.2, .int .i64 r1]), (45, .agg #[.int .i64 v2, .slice s.2.1.1 o2.length s.2.1.2, .int .i64 r2]), (9, .pointer (some ⟨s.2.2.1, 0, none⟩)), (10, .pointer (some ⟨s.2.2.2.1, 0, none⟩)), (11, .pointer (some ⟨s.2.2.2.2, 0, none⟩))]) (fun s w' => (AD w w' v1 r1 A1 c1 k1 v2 r2 A2 c2 k2 v3 r3 A3 c3 k3) ∧ (Kd.R k107 107 w' w.heap.size (fun _ => True) (.slice s.1.1 o1.length s.1.2) o1) ∧ (Kd.R k107 107 w' w.heap.size (fun _ => True) (.slice s.2.1.1 o2.length s.2.1.2) o2) ∧ (w'.heap[s.2.2.1]? = some (.cells #[.int .i64 0, .slice none 0 0, .int .i64 0] 28 (0, 0)) ∧ w.heap.size + 3 ≤ s.2.2.1) ∧ (w'.heap[s.2.2.2.1]? = some (.cells #[.int .i64 0, .slice none 0 0, .int .i64 0] 28 (0, 0)) ∧ w.heap.size + 3 ≤ s.2.2.2.1) ∧ (w'.heap[s.2.2.2.2]? = some (.cells #[.int .i64 0, .slice none 0 0, .int .i64 0] 28 (0, 0)) ∧ w.heap.size + 3 ≤ s.2.2.2.2) ∧ (s.2.2.1 ≠ s.2.2.2.1) ∧ (s.2.2.1 ≠ s.2.2.2.2) ∧ (s.2.2.2.1 ≠ s.2.2.2.2)) ?_ (fun h2_678 => ?_)
  · rintro s w' hF
    obtain ⟨D, R1, R2, ⟨B6, G6⟩, ⟨B7, G7⟩, ⟨B8, G8⟩, N67, N68, N78⟩ := hF
    refine norm_ (a' := ?_) ?_ ?_
    rotate_left
    · simp only [putAll, Act.put, ta_, sz_, ss_, i64_w, i32_w]
      rfl
    refine readyN_ [5] HT_.out (by kernel_rfl) (by decide) ?_
    refine stepN_ (N := some 47) #[I, I, I, I, I, I, I, I, I, O, O, O] rfl rfl (by kernel_rfl) (by decide) (fun K hK => ?_) ?_
    · refine goes_ Try.func30 (by kernel_rfl) rfl #[.agg #[.int .i64 v3, .slice A3 k3.length c3, .int .i64 r3]] (by rfl) rfl rfl (by simp only [List.map_toArray, List.map_cons, List.map_nil]; rfl) ?_
      refine (cantinglaw02_of.calls fu v3 A3 c3 k3 r3 v3 o3 r3 _ (Kd.C_below HCh.out D.bel) hch HO3.out).mono ?_
      rintro e w2 ⟨vv, rfl, hR, hB⟩
      obtain ⟨Ao, co, rfl, _, _⟩ := Kd.R_reads hR
      refine ⟨_, rfl, ?_⟩
      refine hK.out _ _ ((D.below hB).cells) (fun _ => ?_)
      exact norm_ (by simp only [putAll, Act.put, ta_, sz_, ss_, i64_w, i32_w] <;> rfl) (h3_678 (s.1, s.2.1, (Ao, co), s.2.2.1, s.2.2.2.1, s.2.2.2.2) w2 ⟨(D.below hB), Kd.R_below R1 hB, Kd.R_below R2 hB, Kd.R_lower hR D.bel.size, ⟨blk_below B6 hB, G6⟩, ⟨blk_below B7 hB, G7⟩, ⟨blk_below B8 hB, G8⟩, N67, N68, N78⟩)
    exact AllReadyL.nil
  refine join_ (σ := (Option Addr × Nat) × (Option Addr × Nat) × (Option Addr × Nat) × Nat × Nat) 4 #[I, I, I, I, I, I, I, I, O, O, O, O] (fun s => [(43, .agg #[.int .i64 v1, .slice s.1.1 o1.length s.1.2, .int .i64 r1]), (45, .agg #[.int .i64 v2, .slice s.2.1.1 o2.length s.2.1.2, .int .i64 r2]), (47, .agg #[.int .i64 v3, .slice s.2.2.1.1 o3.length s.2.2.1.2, .int .i64 r3]), (9, .pointer (some ⟨s.2.2.2.1, 0, none⟩)), (10, .pointer (some ⟨s.2.2.2.2, 0, none⟩))]) (fun s w' => (AD w w' v1 r1 A1 c1 k1 v2 r2 A2 c2 k2 v3 r3 A3 c3 k3) ∧ (Kd.R k107 107 w' w.heap.size (fun _ => True) (.slice s.1.1 o1.length s.1.2) o1) ∧ (Kd.R k107 107 w' w.heap.size (fun _ => True) (.slice s.2.1.1 o2.length s.2.1.2) o2) ∧ (Kd.R k107 107 w' w.heap.size (fun _ => True) (.slice s.2.2.1.1 o3.length s.2.2.1.2) o3) ∧ (w'.heap[s.2.2.2.1]? = some (.cells #[.int .i64 0, .slice none 0 0, .int .i64 0] 28 (0, 0)) ∧ w.heap.size + 3 ≤ s.2.2.2.1) ∧ (w'.heap[s.2.2.2.2]? = some (.cells #[.int .i64 0, .slice none 0 0, .int .i64 0] 28 (0, 0)) ∧ w.heap.size + 3 ≤ s.2.2.2.2) ∧ (s.2.2.2.1 ≠ s.2.2.2.2)) ?_ (fun h3_67 => ?_)
  · rintro s w' hF
    obtain ⟨D, R1, R2, R3, ⟨B6, G6⟩, ⟨B7, G7⟩, N67⟩ := hF
    refine norm_ (a' := ?_) ?_ ?_
    rotate_left
    · simp only [putAll, Act.put, ta_, sz_, ss_, i64_w, i32_w]
      rfl
    refine readyN_ [8] HT_.out (by kernel_rfl) (by decide) ?_
    refine stepN_ (N := some 11) #[I, I, I, I, I, I, I, I, I, O, O, O] rfl rfl (by kernel_rfl) (by decide) (fun K hK => ?_) ?_
    · refine value_ (w1 := ?_) (v := ?_) (by rfl) rfl ?_ ?_
      rotate_left 2
      · go_simp
        constructor
        · rfl
        · rfl
      refine hK.out _ _ ((D.alloc _).cells) (fun _ => ?_)
      exact norm_ (by simp only [putAll, Act.put, ta_, sz_, ss_, i64_w, i32_w] <;> rfl) (h3_678 (s.1, s.2.1, s.2.2.1, s.2.2.2.1, s.2.2.2.2, w'.heap.size) _ ⟨(D.alloc _), Kd.R_alloc R1 _, Kd.R_alloc R2 _, Kd.R_alloc R3 _, ⟨blk_alloc B6 _, G6⟩, ⟨blk_alloc B7 _, G7⟩, ⟨blk_new _ _, D.sz⟩, N67, (Nat.ne_of_lt (blk_lt B6)), (Nat.ne_of_lt (blk_lt B7))⟩)
    exact AllReadyL.nil
  refine join_ (σ := (Option Addr × Nat) × (Option Addr × Nat) × (Option Addr × Nat) × Nat × Nat) 4 #[I, I, I, I, I, I, I, O, I, O, O, O] (fun s => [(43, .agg #[.int .i64 v1, .slice s.1.1 o1.length s.1.2, .int .i64 r1]), (45, .agg #[.int .i64 v2, .slice s.2.1.1 o2.length s.2.1.2, .int .i64 r2]), (47, .agg #[.int .i64 v3, .slice s.2.2.1.1 o3.length s.2.2.1.2, .int .i64 r3]), (9, .pointer (some ⟨s.2.2.2.1, 0, none⟩)), (11, .pointer (some ⟨s.2.2.2.2, 0, none⟩))]) (fun s w' => (AD w w' v1 r1 A1 c1 k1 v2 r2 A2 c2 k2 v3 r3 A3 c3 k3) ∧ (Kd.R k107 107 w' w.heap.size (fun _ => True) (.slice s.1.1 o1.length s.1.2) o1) ∧ (Kd.R k107 107 w' w.heap.size (fun _ => True) (.slice s.2.1.1 o2.length s.2.1.2) o2) ∧ (Kd.R k107 107 w' w.heap.size (fun _ => True) (.slice s.2.2.1.1 o3.length s.2.2.1.2) o3) ∧ (w'.heap[s.2.2.2.1]? = some (.cells #[.int .i64 0, .slice none 0 0, .int .i64 0] 28 (0, 0)) ∧ w.heap.size + 3 ≤ s.2.2.2.1) ∧ (w'.heap[s.2.2.2.2]? = some (.cells #[.int .i64 0, .slice none 0 0, .int .i64 0] 28 (0, 0)) ∧ w.heap.size + 3 ≤ s.2.2.2.2) ∧ (s.2.2.2.1 ≠ s.2.2.2.2)) ?_ (fun h3_68 => ?_)
  · rintro s w' hF
    obtain ⟨D, R1, R2, R3, ⟨B6, G6⟩, ⟨B8, G8⟩, N68⟩ := hF
    refine norm_ (a' := ?_) ?_ ?_
    rotate_left
    · simp only [putAll, Act.put, ta_, sz_, ss_, i64_w, i32_w]
      rfl
    refine readyN_ [7] HT_.out (by kernel_rfl) (by decide) ?_
    refine stepN_ (N := some 10) #[I, I, I, I, I, I, I, I, I, O, O, O] rfl rfl (by kernel_rfl) (by decide) (fun K hK => ?_) ?_
    · refine value_ (w1 := ?_) (v := ?_) (by rfl) rfl ?_ ?_
      rotate_left 2
      · go_simp
        constructor
        · rfl
        · rfl
      refine hK.out _ _ ((D.alloc _).cells) (fun _ => ?_)
      exact norm_ (by simp only [putAll, Act.put, ta_, sz_, ss_, i64_w, i32_w] <;> rfl) (h3_678 (s.1, s.2.1, s.2.2.1, s.2.2.2.1, w'.heap.size, s.2.2.2.2) _ ⟨(D.alloc _), Kd.R_alloc R1 _, Kd.R_alloc R2 _, Kd.R_alloc R3 _, ⟨blk_alloc B6 _, G6⟩, ⟨blk_new _ _, D.sz⟩, ⟨blk_alloc B8 _, G8⟩, (Nat.ne_of_lt (blk_lt B6)), N68, (Nat.ne_of_gt (blk_lt B8))⟩)
    exact AllReadyL.nil
  refine join_ (σ := (Option Addr × Nat) × (Option Addr × Nat) × (Option Addr × Nat) × Nat × Nat) 4 #[I, I, I, I, I, I, O, I, I, O, O, O] (fun s => [(43, .agg #[.int .i64 v1, .slice s.1.1 o1.length s.1.2, .int .i64 r1]), (45, .agg #[.int .i64 v2, .slice s.2.1.1 o2.length s.2.1.2, .int .i64 r2]), (47, .agg #[.int .i64 v3, .slice s.2.2.1.1 o3.length s.2.2.1.2, .int .i64 r3]), (10, .pointer (some ⟨s.2.2.2.1, 0, none⟩)), (11, .pointer (some ⟨s.2.2.2.2, 0, none⟩))]) (fun s w' => (AD w w' v1 r1 A1 c1 k1 v2 r2 A2 c2 k2 v3 r3 A3 c3 k3) ∧ (Kd.R k107 107 w' w.heap.size (fun _ => True) (.slice s.1.1 o1.length s.1.2) o1) ∧ (Kd.R k107 107 w' w.heap.size (fun _ => True) (.slice s.2.1.1 o2.length s.2.1.2) o2) ∧ (Kd.R k107 107 w' w.heap.size (fun _ => True) (.slice s.2.2.1.1 o3.length s.2.2.1.2) o3) ∧ (w'.heap[s.2.2.2.1]? = some (.cells #[.int .i64 0, .slice none 0 0, .int .i64 0] 28 (0, 0)) ∧ w.heap.size + 3 ≤ s.2.2.2.1) ∧ (w'.heap[s.2.2.2.2]? = some (.cells #[.int .i64 0, .slice none 0 0, .int .i64 0] 28 (0, 0)) ∧ w.heap.size + 3 ≤ s.2.2.2.2) ∧ (s.2.2.2.1 ≠ s.2.2.2.2)) ?_ (fun h3_78 => ?_)
  · rintro s w' hF
    obtain ⟨D, R1, R2, R3, ⟨B7, G7⟩, ⟨B8, G8⟩, N78⟩ := hF
    refine norm_ (a' := ?_) ?_ ?_
    rotate_left
    · simp only [putAll, Act.put, ta_, sz_, ss_, i64_w, i32_w]
      rfl
    refine readyN_ [6] HT_.out (by kernel_rfl) (by decide) ?_
    refine stepN_ (N := some 9) #[I, I, I, I, I, I, I, I, I, O, O, O] rfl rfl (by kernel_rfl) (by decide) (fun K hK => ?_) ?_
    · refine value_ (w1 := ?_) (v := ?_) (by rfl) rfl ?_ ?_
      rotate_left 2
      · go_simp
        constructor
        · rfl
        · rfl
      refine hK.out _ _ ((D.alloc _).cells) (fun _ => ?_)
      exact norm_ (by simp only [putAll, Act.put, ta_, sz_, ss_, i64_w, i32_w] <;> rfl) (h3_678 (s.1, s.2.1, s.2.2.1, w'.heap.size, s.2.2.2.1, s.2.2.2.2) _ ⟨(D.alloc _), Kd.R_alloc R1 _, Kd.R_alloc R2 _, Kd.R_alloc R3 _, ⟨blk_new _ _, D.sz⟩, ⟨blk_alloc B7 _, G7⟩, ⟨blk_alloc B8 _, G8⟩, (Nat.ne_of_gt (blk_lt B7)), (Nat.ne_of_gt (blk_lt B8)), N78⟩)
    exact AllReadyL.nil
  refine join_ (σ := (Option Addr × Nat) × Nat × Nat × Nat) 5 #[I, I, I, O, I, O, I, I, I, O, O, O] (fun s => [(43, .agg #[.int .i64 v1, .slice s.1.1 o1.length s.1.2, .int .i64 r1]), (9, .pointer (some ⟨s.2.1, 0, none⟩)), (10, .pointer (some ⟨s.2.2.1, 0, none⟩)), (11, .pointer (some ⟨s.2.2.2, 0, none⟩))]) (fun s w' => (AD w w' v1 r1 A1 c1 k1 v2 r2 A2 c2 k2 v3 r3 A3 c3 k3) ∧ (Kd.R k107 107 w' w.heap.size (fun _ => True) (.slice s.1.1 o1.length s.1.2) o1) ∧ (w'.heap[s.2.1]? = some (.cells #[.int .i64 0, .slice none 0 0, .int .i64 0] 28 (0, 0)) ∧ w.heap.size + 3 ≤ s.2.1) ∧ (w'.heap[s.2.2.1]? = some (.cells #[.int .i64 0, .slice none 0 0, .int .i64 0] 28 (0, 0)) ∧ w.heap.size + 3 ≤ s.2.2.1) ∧ (w'.heap[s.2.2.2]? = some (.cells #[.int .i64 0, .slice none 0 0, .int .i64 0] 28 (0, 0)) ∧ w.heap.size + 3 ≤ s.2.2.2) ∧ (s.2.1 ≠ s.2.2.1) ∧ (s.2.1 ≠ s.2.2.2) ∧ (s.2.2.1 ≠ s.2.2.2)) ?_ (fun h1_678 => ?_)
  · rintro s w' hF
    obtain ⟨D, R1, ⟨B6, G6⟩, ⟨B7, G7⟩, ⟨B8, G8⟩, N67, N68, N78⟩ := hF
    refine norm_ (a' := ?_) ?_ ?_
    rotate_left
    · simp only [putAll, Act.put, ta_, sz_, ss_, i64_w, i32_w]
      rfl
    refine readyN_ [3] HT_.out (by kernel_rfl) (by decide) ?_
    refine stepN_ (N := some 45) #[I, I, I, I, I, O, I, I, I, O, O, O] rfl rfl (by kernel_rfl) (by decide) (fun K hK => ?_) ?_
    · refine goes_ Try.func30 (by kernel_rfl) rfl #[.agg #[.int .i64 v2, .slice A2 k2.length c2, .int .i64 r2]] (by rfl) rfl rfl (by simp only [List.map_toArray, List.map_cons, List.map_nil]; rfl) ?_
      refine (cantinglaw02_of.calls fu v2 A2 c2 k2 r2 v2 o2 r2 _ (Kd.C_below HCg.out D.bel) hcg HO2.out).mono ?_
      rintro e w2 ⟨vv, rfl, hR, hB⟩
      obtain ⟨Ao, co, rfl, _, _⟩ := Kd.R_reads hR
      refine ⟨_, rfl, ?_⟩
      refine hK.out _ _ ((D.below hB).cells) (fun _ => ?_)
      exact norm_ (by simp only [putAll, Act.put, ta_, sz_, ss_, i64_w, i32_w] <;> rfl) (h2_678 (s.1, (Ao, co), s.2.1, s.2.2.1, s.2.2.2) w2 ⟨(D.below hB), Kd.R_below R1 hB, Kd.R_lower hR D.bel.size, ⟨blk_below B6 hB, G6⟩, ⟨blk_below B7 hB, G7⟩, ⟨blk_below B8 hB, G8⟩, N67, N68, N78⟩)
    exact AllReadyL.nil
  refine join_ (σ := (Option Addr × Nat) × (Option Addr × Nat) × Nat × Nat) 5 #[I, I, I, I, I, O, I, I, O, O, O, O] (fun s => [(43, .agg #[.int .i64 v1, .slice s.1.1 o1.length s.1.2, .int .i64 r1]), (45, .agg #[.int .i64 v2, .slice s.2.1.1 o2.length s.2.1.2, .int .i64 r2]), (9, .pointer (some ⟨s.2.2.1, 0, none⟩)), (10, .pointer (some ⟨s.2.2.2, 0, none⟩))]) (fun s w' => (AD w w' v1 r1 A1 c1 k1 v2 r2 A2 c2 k2 v3 r3 A3 c3 k3) ∧ (Kd.R k107 107 w' w.heap.size (fun _ => True) (.slice s.1.1 o1.length s.1.2) o1) ∧ (Kd.R k107 107 w' w.heap.size (fun _ => True) (.slice s.2.1.1 o2.length s.2.1.2) o2) ∧ (w'.heap[s.2.2.1]? = some (.cells #[.int .i64 0, .slice none 0 0, .int .i64 0] 28 (0, 0)) ∧ w.heap.size + 3 ≤ s.2.2.1) ∧ (w'.heap[s.2.2.2]? = some (.cells #[.int .i64 0, .slice none 0 0, .int .i64 0] 28 (0, 0)) ∧ w.heap.size + 3 ≤ s.2.2.2) ∧ (s.2.2.1 ≠ s.2.2.2)) ?_ (fun h2_67 => ?_)
  · rintro s w' hF
    obtain ⟨D, R1, R2, ⟨B6, G6⟩, ⟨B7, G7⟩, N67⟩ := hF
    refine norm_ (a' := ?_) ?_ ?_
    rotate_left
    · simp only [putAll, Act.put, ta_, sz_, ss_, i64_w, i32_w]
      rfl
    refine readyN_ [5, 8] HT_.out (by kernel_rfl) (by decide) ?_
    refine stepN_ (N := some 47) #[I, I, I, I, I, I, I, I, O, O, O, O] rfl rfl (by kernel_rfl) (by decide) (fun K hK => ?_) ?_
    · refine goes_ Try.func30 (by kernel_rfl) rfl #[.agg #[.int .i64 v3, .slice A3 k3.length c3, .int .i64 r3]] (by rfl) rfl rfl (by simp only [List.map_toArray, List.map_cons, List.map_nil]; rfl) ?_
      refine (cantinglaw02_of.calls fu v3 A3 c3 k3 r3 v3 o3 r3 _ (Kd.C_below HCh.out D.bel) hch HO3.out).mono ?_
      rintro e w2 ⟨vv, rfl, hR, hB⟩
      obtain ⟨Ao, co, rfl, _, _⟩ := Kd.R_reads hR
      refine ⟨_, rfl, ?_⟩
      refine hK.out _ _ ((D.below hB).cells) (fun _ => ?_)
      exact norm_ (by simp only [putAll, Act.put, ta_, sz_, ss_, i64_w, i32_w] <;> rfl) (h3_67 (s.1, s.2.1, (Ao, co), s.2.2.1, s.2.2.2) w2 ⟨(D.below hB), Kd.R_below R1 hB, Kd.R_below R2 hB, Kd.R_lower hR D.bel.size, ⟨blk_below B6 hB, G6⟩, ⟨blk_below B7 hB, G7⟩, N67⟩)
    refine stepN_ (N := some 11) #[I, I, I, I, I, O, I, I, I, O, O, O] rfl rfl (by kernel_rfl) (by decide) (fun K hK => ?_) ?_
    · refine value_ (w1 := ?_) (v := ?_) (by rfl) rfl ?_ ?_
      rotate_left 2
      · go_simp
        constructor
        · rfl
        · rfl
      refine hK.out _ _ ((D.alloc _).cells) (fun _ => ?_)
      exact norm_ (by simp only [putAll, Act.put, ta_, sz_, ss_, i64_w, i32_w] <;> rfl) (h2_678 (s.1, s.2.1, s.2.2.1, s.2.2.2, w'.heap.size) _ ⟨(D.alloc _), Kd.R_alloc R1 _, Kd.R_alloc R2 _, ⟨blk_alloc B6 _, G6⟩, ⟨blk_alloc B7 _, G7⟩, ⟨blk_new _ _, D.sz⟩, N67, (Nat.ne_of_lt (blk_lt B6)), (Nat.ne_of_lt (blk_lt B7))⟩)
    exact AllReadyL.nil
  refine join_ (σ := (Option Addr × Nat) × (Option Addr × Nat) × Nat × Nat) 5 #[I, I, I, I, I, O, I, O, I, O, O, O] (fun s => [(43, .agg #[.int .i64 v1, .slice s.1.1 o1.length s.1.2, .int .i64 r1]), (45, .agg #[.int .i64 v2, .slice s.2.1.1 o2.length s.2.1.2, .int .i64 r2]), (9, .pointer (some ⟨s.2.2.1, 0, none⟩)), (11, .pointer (some ⟨s.2.2.2, 0, none⟩))]) (fun s w' => (AD w w' v1 r1 A1 c1 k1 v2 r2 A2 c2 k2 v3 r3 A3 c3 k3) ∧ (Kd.R k107 107 w' w.heap.size (fun _ => True) (.slice s.1.1 o1.length s.1.2) o1) ∧ (Kd.R k107 107 w' w.heap.size (fun _ => True) (.slice s.2.1.1 o2.length s.2.1.2) o2) ∧ (w'.heap[s.2.2.1]? = some (.cells #[.int .i64 0, .slice none 0 0, .int .i64 0] 28 (0, 0)) ∧ w.heap.size + 3 ≤ s.2.2.1) ∧ (w'.heap[s.2.2.2]? = some (.cells #[.int .i64 0, .slice none 0 0, .int .i64 0] 28 (0, 0)) ∧ w.heap.size + 3 ≤ s.2.2.2) ∧ (s.2.2.1 ≠ s.2.2.2)) ?_ (fun h2_68 => ?_)
  · rintro s w' hF
    obtain ⟨D, R1, R2, ⟨B6, G6⟩, ⟨B8, G8⟩, N68⟩ := hF
    refine norm_ (a' := ?_) ?_ ?_
    rotate_left
    · simp only [putAll, Act.put, ta_, sz_, ss_, i64_w, i32_w]
      rfl
    refine readyN_ [5, 7] HT_.out (by kernel_rfl) (by decide) ?_
    refine stepN_ (N := some 47) #[I, I, I, I, I, I, I, O, I, O, O, O] rfl rfl (by kernel_rfl) (by decide) (fun K hK => ?_) ?_
    · refine goes_ Try.func30 (by kernel_rfl) rfl #[.agg #[.int .i64 v3, .slice A3 k3.length c3, .int .i64 r3]] (by rfl) rfl rfl (by simp only [List.map_toArray, List.map_cons, List.map_nil]; rfl) ?_
      refine (cantinglaw02_of.calls fu v3 A3 c3 k3 r3 v3 o3 r3 _ (Kd.C_below HCh.out D.bel) hch HO3.out).mono ?_
      rintro e w2 ⟨vv, rfl, hR, hB⟩
      obtain ⟨Ao, co, rfl, _, _⟩ := Kd.R_reads hR
      refine ⟨_, rfl, ?_⟩
      refine hK.out _ _ ((D.below hB).cells) (fun _ => ?_)
      exact norm_ (by simp only [putAll, Act.put, ta_, sz_, ss_, i64_w, i32_w] <;> rfl) (h3_68 (s.1, s.2.1, (Ao, co), s.2.2.1, s.2.2.2) w2 ⟨(D.below hB), Kd.R_below R1 hB, Kd.R_below R2 hB, Kd.R_lower hR D.bel.size, ⟨blk_below B6 hB, G6⟩, ⟨blk_below B8 hB, G8⟩, N68⟩)
    refine stepN_ (N := some 10) #[I, I, I, I, I, O, I, I, I, O, O, O] rfl rfl (by kernel_rfl) (by decide) (fun K hK => ?_) ?_
    · refine value_ (w1 := ?_) (v := ?_) (by rfl) rfl ?_ ?_
      rotate_left 2
      · go_simp
        constructor
        · rfl
        · rfl
      refine hK.out _ _ ((D.alloc _).cells) (fun _ => ?_)
      exact norm_ (by simp only [putAll, Act.put, ta_, sz_, ss_, i64_w, i32_w] <;> rfl) (h2_678 (s.1, s.2.1, s.2.2.1, w'.heap.size, s.2.2.2) _ ⟨(D.alloc _), Kd.R_alloc R1 _, Kd.R_alloc R2 _, ⟨blk_alloc B6 _, G6⟩, ⟨blk_new _ _, D.sz⟩, ⟨blk_alloc B8 _, G8⟩, (Nat.ne_of_lt (blk_lt B6)), N68, (Nat.ne_of_gt (blk_lt B8))⟩)
    exact AllReadyL.nil
  refine join_ (σ := (Option Addr × Nat) × (Option Addr × Nat) × Nat × Nat) 5 #[I, I, I, I, I, O, O, I, I, O, O, O] (fun s => [(43, .agg #[.int .i64 v1, .slice s.1.1 o1.length s.1.2, .int .i64 r1]), (45, .agg #[.int .i64 v2, .slice s.2.1.1 o2.length s.2.1.2, .int .i64 r2]), (10, .pointer (some ⟨s.2.2.1, 0, none⟩)), (11, .pointer (some ⟨s.2.2.2, 0, none⟩))]) (fun s w' => (AD w w' v1 r1 A1 c1 k1 v2 r2 A2 c2 k2 v3 r3 A3 c3 k3) ∧ (Kd.R k107 107 w' w.heap.size (fun _ => True) (.slice s.1.1 o1.length s.1.2) o1) ∧ (Kd.R k107 107 w' w.heap.size (fun _ => True) (.slice s.2.1.1 o2.length s.2.1.2) o2) ∧ (w'.heap[s.2.2.1]? = some (.cells #[.int .i64 0, .slice none 0 0, .int .i64 0] 28 (0, 0)) ∧ w.heap.size + 3 ≤ s.2.2.1) ∧ (w'.heap[s.2.2.2]? = some (.cells #[.int .i64 0, .slice none 0 0, .int .i64 0] 28 (0, 0)) ∧ w.heap.size + 3 ≤ s.2.2.2) ∧ (s.2.2.1 ≠ s.2.2.2)) ?_ (fun h2_78 => ?_)
  · rintro s w' hF
    obtain ⟨D, R1, R2, ⟨B7, G7⟩, ⟨B8, G8⟩, N78⟩ := hF
    refine norm_ (a' := ?_) ?_ ?_
    rotate_left
    · simp only [putAll, Act.put, ta_, sz_, ss_, i64_w, i32_w]
      rfl
    refine readyN_ [5, 6] HT_.out (by kernel_rfl) (by decide) ?_
    refine stepN_ (N := some 47) #[I, I, I, I, I, I, O, I, I, O, O, O] rfl rfl (by kernel_rfl) (by decide) (fun K hK => ?_) ?_
    · refine goes_ Try.func30 (by kernel_rfl) rfl #[.agg #[.int .i64 v3, .slice A3 k3.length c3, .int .i64 r3]] (by rfl) rfl rfl (by simp only [List.map_toArray, List.map_cons, List.map_nil]; rfl) ?_
      refine (cantinglaw02_of.calls fu v3 A3 c3 k3 r3 v3 o3 r3 _ (Kd.C_below HCh.out D.bel) hch HO3.out).mono ?_
      rintro e w2 ⟨vv, rfl, hR, hB⟩
      obtain ⟨Ao, co, rfl, _, _⟩ := Kd.R_reads hR
      refine ⟨_, rfl, ?_⟩
      refine hK.out _ _ ((D.below hB).cells) (fun _ => ?_)
      exact norm_ (by simp only [putAll, Act.put, ta_, sz_, ss_, i64_w, i32_w] <;> rfl) (h3_78 (s.1, s.2.1, (Ao, co), s.2.2.1, s.2.2.2) w2 ⟨(D.below hB), Kd.R_below R1 hB, Kd.R_below R2 hB, Kd.R_lower hR D.bel.size, ⟨blk_below B7 hB, G7⟩, ⟨blk_below B8 hB, G8⟩, N78⟩)
    refine stepN_ (N := some 9) #[I, I, I, I, I, O, I, I, I, O, O, O] rfl rfl (by kernel_rfl) (by decide) (fun K hK => ?_) ?_
    · refine value_ (w1 := ?_) (v := ?_) (by rfl) rfl ?_ ?_
      rotate_left 2
      · go_simp
        constructor
        · rfl
        · rfl
      refine hK.out _ _ ((D.alloc _).cells) (fun _ => ?_)
      exact norm_ (by simp only [putAll, Act.put, ta_, sz_, ss_, i64_w, i32_w] <;> rfl) (h2_678 (s.1, s.2.1, w'.heap.size, s.2.2.1, s.2.2.2) _ ⟨(D.alloc _), Kd.R_alloc R1 _, Kd.R_alloc R2 _, ⟨blk_new _ _, D.sz⟩, ⟨blk_alloc B7 _, G7⟩, ⟨blk_alloc B8 _, G8⟩, (Nat.ne_of_gt (blk_lt B7)), (Nat.ne_of_gt (blk_lt B8)), N78⟩)
    exact AllReadyL.nil
  refine join_ (σ := (Option Addr × Nat) × (Option Addr × Nat) × (Option Addr × Nat) × Nat) 5 #[I, I, I, I, I, I, I, O, O, O, O, O] (fun s => [(43, .agg #[.int .i64 v1, .slice s.1.1 o1.length s.1.2, .int .i64 r1]), (45, .agg #[.int .i64 v2, .slice s.2.1.1 o2.length s.2.1.2, .int .i64 r2]), (47, .agg #[.int .i64 v3, .slice s.2.2.1.1 o3.length s.2.2.1.2, .int .i64 r3]), (9, .pointer (some ⟨s.2.2.2, 0, none⟩))]) (fun s w' => (AD w w' v1 r1 A1 c1 k1 v2 r2 A2 c2 k2 v3 r3 A3 c3 k3) ∧ (Kd.R k107 107 w' w.heap.size (fun _ => True) (.slice s.1.1 o1.length s.1.2) o1) ∧ (Kd.R k107 107 w' w.heap.size (fun _ => True) (.slice s.2.1.1 o2.length s.2.1.2) o2) ∧ (Kd.R k107 107 w' w.heap.size (fun _ => True) (.slice s.2.2.1.1 o3.length s.2.2.1.2) o3) ∧ (w'.heap[s.2.2.2]? = some (.cells #[.int .i64 0, .slice none 0 0, .int .i64 0] 28 (0, 0)) ∧ w.heap.size + 3 ≤ s.2.2.2)) ?_ (fun h3_6 => ?_)
  · rintro s w' hF
    obtain ⟨D, R1, R2, R3, ⟨B6, G6⟩⟩ := hF
    refine norm_ (a' := ?_) ?_ ?_
    rotate_left
    · simp only [putAll, Act.put, ta_, sz_, ss_, i64_w, i32_w]
      rfl
    refine readyN_ [7, 8] HT_.out (by kernel_rfl) (by decide) ?_
    refine stepN_ (N := some 10) #[I, I, I, I, I, I, I, I, O, O, O, O] rfl rfl (by kernel_rfl) (by decide) (fun K hK => ?_) ?_
    · refine value_ (w1 := ?_) (v := ?_) (by rfl) rfl ?_ ?_
      rotate_left 2
      · go_simp
        constructor
        · rfl
        · rfl
      refine hK.out _ _ ((D.alloc _).cells) (fun _ => ?_)
      exact norm_ (by simp only [putAll, Act.put, ta_, sz_, ss_, i64_w, i32_w] <;> rfl) (h3_67 (s.1, s.2.1, s.2.2.1, s.2.2.2, w'.heap.size) _ ⟨(D.alloc _), Kd.R_alloc R1 _, Kd.R_alloc R2 _, Kd.R_alloc R3 _, ⟨blk_alloc B6 _, G6⟩, ⟨blk_new _ _, D.sz⟩, (Nat.ne_of_lt (blk_lt B6))⟩)
    refine stepN_ (N := some 11) #[I, I, I, I, I, I, I, O, I, O, O, O] rfl rfl (by kernel_rfl) (by decide) (fun K hK => ?_) ?_
    · refine value_ (w1 := ?_) (v := ?_) (by rfl) rfl ?_ ?_
      rotate_left 2
      · go_simp
        constructor
        · rfl
        · rfl
      refine hK.out _ _ ((D.alloc _).cells) (fun _ => ?_)
      exact norm_ (by simp only [putAll, Act.put, ta_, sz_, ss_, i64_w, i32_w] <;> rfl) (h3_68 (s.1, s.2.1, s.2.2.1, s.2.2.2, w'.heap.size) _ ⟨(D.alloc _), Kd.R_alloc R1 _, Kd.R_alloc R2 _, Kd.R_alloc R3 _, ⟨blk_alloc B6 _, G6⟩, ⟨blk_new _ _, D.sz⟩, (Nat.ne_of_lt (blk_lt B6))⟩)
    exact AllReadyL.nil
  refine join_ (σ := (Option Addr × Nat) × (Option Addr × Nat) × (Option Addr × Nat) × Nat) 5 #[I, I, I, I, I, I, O, I, O, O, O, O] (fun s => [(43, .agg #[.int .i64 v1, .slice s.1.1 o1.length s.1.2, .int .i64 r1]), (45, .agg #[.int .i64 v2, .slice s.2.1.1 o2.length s.2.1.2, .int .i64 r2]), (47, .agg #[.int .i64 v3, .slice s.2.2.1.1 o3.length s.2.2.1.2, .int .i64 r3]), (10, .pointer (some ⟨s.2.2.2, 0, none⟩))]) (fun s w' => (AD w w' v1 r1 A1 c1 k1 v2 r2 A2 c2 k2 v3 r3 A3 c3 k3) ∧ (Kd.R k107 107 w' w.heap.size (fun _ => True) (.slice s.1.1 o1.length s.1.2) o1) ∧ (Kd.R k107 107 w' w.heap.size (fun _ => True) (.slice s.2.1.1 o2.length s.2.1.2) o2) ∧ (Kd.R k107 107 w' w.heap.size (fun _ => True) (.slice s.2.2.1.1 o3.length s.2.2.1.2) o3) ∧ (w'.heap[s.2.2.2]? = some (.cells #[.int .i64 0, .slice none 0 0, .int .i64 0] 28 (0, 0)) ∧ w.heap.size + 3 ≤ s.2.2.2)) ?_ (fun h3_7 => ?_)
  · rintro s w' hF
    obtain ⟨D, R1, R2, R3, ⟨B7, G7⟩⟩ := hF
    refine norm_ (a' := ?_) ?_ ?_
    rotate_left
    · simp only [putAll, Act.put, ta_, sz_, ss_, i64_w, i32_w]
      rfl
    refine readyN_ [6, 8] HT_.out (by kernel_rfl) (by decide) ?_
    refine stepN_ (N := some 9) #[I, I, I, I, I, I, I, I, O, O, O, O] rfl rfl (by kernel_rfl) (by decide) (fun K hK => ?_) ?_
    · refine value_ (w1 := ?_) (v := ?_) (by rfl) rfl ?_ ?_
      rotate_left 2
      · go_simp
        constructor
        · rfl
        · rfl
      refine hK.out _ _ ((D.alloc _).cells) (fun _ => ?_)
      exact norm_ (by simp only [putAll, Act.put, ta_, sz_, ss_, i64_w, i32_w] <;> rfl) (h3_67 (s.1, s.2.1, s.2.2.1, w'.heap.size, s.2.2.2) _ ⟨(D.alloc _), Kd.R_alloc R1 _, Kd.R_alloc R2 _, Kd.R_alloc R3 _, ⟨blk_new _ _, D.sz⟩, ⟨blk_alloc B7 _, G7⟩, (Nat.ne_of_gt (blk_lt B7))⟩)
    refine stepN_ (N := some 11) #[I, I, I, I, I, I, O, I, I, O, O, O] rfl rfl (by kernel_rfl) (by decide) (fun K hK => ?_) ?_
    · refine value_ (w1 := ?_) (v := ?_) (by rfl) rfl ?_ ?_
      rotate_left 2
      · go_simp
        constructor
        · rfl
        · rfl
      refine hK.out _ _ ((D.alloc _).cells) (fun _ => ?_)
      exact norm_ (by simp only [putAll, Act.put, ta_, sz_, ss_, i64_w, i32_w] <;> rfl) (h3_78 (s.1, s.2.1, s.2.2.1, s.2.2.2, w'.heap.size) _ ⟨(D.alloc _), Kd.R_alloc R1 _, Kd.R_alloc R2 _, Kd.R_alloc R3 _, ⟨blk_alloc B7 _, G7⟩, ⟨blk_new _ _, D.sz⟩, (Nat.ne_of_lt (blk_lt B7))⟩)
    exact AllReadyL.nil
  refine join_ (σ := (Option Addr × Nat) × (Option Addr × Nat) × (Option Addr × Nat) × Nat) 5 #[I, I, I, I, I, I, O, O, I, O, O, O] (fun s => [(43, .agg #[.int .i64 v1, .slice s.1.1 o1.length s.1.2, .int .i64 r1]), (45, .agg #[.int .i64 v2, .slice s.2.1.1 o2.length s.2.1.2, .int .i64 r2]), (47, .agg #[.int .i64 v3, .slice s.2.2.1.1 o3.length s.2.2.1.2, .int .i64 r3]), (11, .pointer (some ⟨s.2.2.2, 0, none⟩))]) (fun s w' => (AD w w' v1 r1 A1 c1 k1 v2 r2 A2 c2 k2 v3 r3 A3 c3 k3) ∧ (Kd.R k107 107 w' w.heap.size (fun _ => True) (.slice s.1.1 o1.length s.1.2) o1) ∧ (Kd.R k107 107 w' w.heap.size (fun _ => True) (.slice s.2.1.1 o2.length s.2.1.2) o2) ∧ (Kd.R k107 107 w' w.heap.size (fun _ => True) (.slice s.2.2.1.1 o3.length s.2.2.1.2) o3) ∧ (w'.heap[s.2.2.2]? = some (.cells #[.int .i64 0, .slice none 0 0, .int .i64 0] 28 (0, 0)) ∧ w.heap.size + 3 ≤ s.2.2.2)) ?_ (fun h3_8 => ?_)
  · rintro s w' hF
    obtain ⟨D, R1, R2, R3, ⟨B8, G8⟩⟩ := hF
    refine norm_ (a' := ?_) ?_ ?_
    rotate_left
    · simp only [putAll, Act.put, ta_, sz_, ss_, i64_w, i32_w]
      rfl
    refine readyN_ [6, 7] HT_.out (by kernel_rfl) (by decide) ?_
    refine stepN_ (N := some 9) #[I, I, I, I, I, I, I, O, I, O, O, O] rfl rfl (by kernel_rfl) (by decide) (fun K hK => ?_) ?_
    · refine value_ (w1 := ?_) (v := ?_) (by rfl) rfl ?_ ?_
      rotate_left 2
      · go_simp
        constructor
        · rfl
        · rfl
      refine hK.out _ _ ((D.alloc _).cells) (fun _ => ?_)
      exact norm_ (by simp only [putAll, Act.put, ta_, sz_, ss_, i64_w, i32_w] <;> rfl) (h3_68 (s.1, s.2.1, s.2.2.1, w'.heap.size, s.2.2.2) _ ⟨(D.alloc _), Kd.R_alloc R1 _, Kd.R_alloc R2 _, Kd.R_alloc R3 _, ⟨blk_new _ _, D.sz⟩, ⟨blk_alloc B8 _, G8⟩, (Nat.ne_of_gt (blk_lt B8))⟩)
    refine stepN_ (N := some 10) #[I, I, I, I, I, I, O, I, I, O, O, O] rfl rfl (by kernel_rfl) (by decide) (fun K hK => ?_) ?_
    · refine value_ (w1 := ?_) (v := ?_) (by rfl) rfl ?_ ?_
      rotate_left 2
      · go_simp
        constructor
        · rfl
        · rfl
      refine hK.out _ _ ((D.alloc _).cells) (fun _ => ?_)
      exact norm_ (by simp only [putAll, Act.put, ta_, sz_, ss_, i64_w, i32_w] <;> rfl) (h3_78 (s.1, s.2.1, s.2.2.1, w'.heap.size, s.2.2.2) _ ⟨(D.alloc _), Kd.R_alloc R1 _, Kd.R_alloc R2 _, Kd.R_alloc R3 _, ⟨blk_new _ _, D.sz⟩, ⟨blk_alloc B8 _, G8⟩, (Nat.ne_of_gt (blk_lt B8))⟩)
    exact AllReadyL.nil
  refine join_ (σ := Nat × Nat × Nat) 6 #[I, O, I, O, I, O, I, I, I, O, O, O] (fun s => [(9, .pointer (some ⟨s.1, 0, none⟩)), (10, .pointer (some ⟨s.2.1, 0, none⟩)), (11, .pointer (some ⟨s.2.2, 0, none⟩))]) (fun s w' => (AD w w' v1 r1 A1 c1 k1 v2 r2 A2 c2 k2 v3 r3 A3 c3 k3) ∧ (w'.heap[s.1]? = some (.cells #[.int .i64 0, .slice none 0 0, .int .i64 0] 28 (0, 0)) ∧ w.heap.size + 3 ≤ s.1) ∧ (w'.heap[s.2.1]? = some (.cells #[.int .i64 0, .slice none 0 0, .int .i64 0] 28 (0, 0)) ∧ w.heap.size + 3 ≤ s.2.1) ∧ (w'.heap[s.2.2]? = some (.cells #[.int .i64 0, .slice none 0 0, .int .i64 0] 28 (0, 0)) ∧ w.heap.size + 3 ≤ s.2.2) ∧ (s.1 ≠ s.2.1) ∧ (s.1 ≠ s.2.2) ∧ (s.2.1 ≠ s.2.2)) ?_ (fun h0_678 => ?_)
  · rintro s w' hF
    obtain ⟨D, ⟨B6, G6⟩, ⟨B7, G7⟩, ⟨B8, G8⟩, N67, N68, N78⟩ := hF
    refine norm_ (a' := ?_) ?_ ?_
    rotate_left
    · simp only [putAll, Act.put, ta_, sz_, ss_, i64_w, i32_w]
      rfl
    refine readyN_ [1] HT_.out (by kernel_rfl) (by decide) ?_
    refine stepN_ (N := some 43) #[I, I, I, O, I, O, I, I, I, O, O, O] rfl rfl (by kernel_rfl) (by decide) (fun K hK => ?_) ?_
    · refine goes_ Try.func30 (by kernel_rfl) rfl #[.agg #[.int .i64 v1, .slice A1 k1.length c1, .int .i64 r1]] (by rfl) rfl rfl (by simp only [List.map_toArray, List.map_cons, List.map_nil]; rfl) ?_
      refine (cantinglaw02_of.calls fu v1 A1 c1 k1 r1 v1 o1 r1 _ (Kd.C_below HCf.out D.bel) hcf HO1.out).mono ?_
      rintro e w2 ⟨vv, rfl, hR, hB⟩
      obtain ⟨Ao, co, rfl, _, _⟩ := Kd.R_reads hR
      refine ⟨_, rfl, ?_⟩
      refine hK.out _ _ ((D.below hB).cells) (fun _ => ?_)
      exact norm_ (by simp only [putAll, Act.put, ta_, sz_, ss_, i64_w, i32_w] <;> rfl) (h1_678 ((Ao, co), s.1, s.2.1, s.2.2) w2 ⟨(D.below hB), Kd.R_lower hR D.bel.size, ⟨blk_below B6 hB, G6⟩, ⟨blk_below B7 hB, G7⟩, ⟨blk_below B8 hB, G8⟩, N67, N68, N78⟩)
    exact AllReadyL.nil
  refine join_ (σ := (Option Addr × Nat) × Nat × Nat) 6 #[I, I, I, O, I, O, I, I, O, O, O, O] (fun s => [(43, .agg #[.int .i64 v1, .slice s.1.1 o1.length s.1.2, .int .i64 r1]), (9, .pointer (some ⟨s.2.1, 0, none⟩)), (10, .pointer (some ⟨s.2.2, 0, none⟩))]) (fun s w' => (AD w w' v1 r1 A1 c1 k1 v2 r2 A2 c2 k2 v3 r3 A3 c3 k3) ∧ (Kd.R k107 107 w' w.heap.size (fun _ => True) (.slice s.1.1 o1.length s.1.2) o1) ∧ (w'.heap[s.2.1]? = some (.cells #[.int .i64 0, .slice none 0 0, .int .i64 0] 28 (0, 0)) ∧ w.heap.size + 3 ≤ s.2.1) ∧ (w'.heap[s.2.2]? = some (.cells #[.int .i64 0, .slice none 0 0, .int .i64 0] 28 (0, 0)) ∧ w.heap.size + 3 ≤ s.2.2) ∧ (s.2.1 ≠ s.2.2)) ?_ (fun h1_67 => ?_)
  · rintro s w' hF
    obtain ⟨D, R1, ⟨B6, G6⟩, ⟨B7, G7⟩, N67⟩ := hF
    refine norm_ (a' := ?_) ?_ ?_
    rotate_left
    · simp only [putAll, Act.put, ta_, sz_, ss_, i64_w, i32_w]
      rfl
    refine readyN_ [3, 8] HT_.out (by kernel_rfl) (by decide) ?_
    refine stepN_ (N := some 45) #[I, I, I, I, I, O, I, I, O, O, O, O] rfl rfl (by kernel_rfl) (by decide) (fun K hK => ?_) ?_
    · refine goes_ Try.func30 (by kernel_rfl) rfl #[.agg #[.int .i64 v2, .slice A2 k2.length c2, .int .i64 r2]] (by rfl) rfl rfl (by simp only [List.map_toArray, List.map_cons, List.map_nil]; rfl) ?_
      refine (cantinglaw02_of.calls fu v2 A2 c2 k2 r2 v2 o2 r2 _ (Kd.C_below HCg.out D.bel) hcg HO2.out).mono ?_
      rintro e w2 ⟨vv, rfl, hR, hB⟩
      obtain ⟨Ao, co, rfl, _, _⟩ := Kd.R_reads hR
      refine ⟨_, rfl, ?_⟩
      refine hK.out _ _ ((D.below hB).cells) (fun _ => ?_)
      exact norm_ (by simp only [putAll, Act.put, ta_, sz_, ss_, i64_w, i32_w] <;> rfl) (h2_67 (s.1, (Ao, co), s.2.1, s.2.2) w2 ⟨(D.below hB), Kd.R_below R1 hB, Kd.R_lower hR D.bel.size, ⟨blk_below B6 hB, G6⟩, ⟨blk_below B7 hB, G7⟩, N67⟩)
    refine stepN_ (N := some 11) #[I, I, I, O, I, O, I, I, I, O, O, O] rfl rfl (by kernel_rfl) (by decide) (fun K hK => ?_) ?_
    · refine value_ (w1 := ?_) (v := ?_) (by rfl) rfl ?_ ?_
      rotate_left 2
      · go_simp
        constructor
        · rfl
        · rfl
      refine hK.out _ _ ((D.alloc _).cells) (fun _ => ?_)
      exact norm_ (by simp only [putAll, Act.put, ta_, sz_, ss_, i64_w, i32_w] <;> rfl) (h1_678 (s.1, s.2.1, s.2.2, w'.heap.size) _ ⟨(D.alloc _), Kd.R_alloc R1 _, ⟨blk_alloc B6 _, G6⟩, ⟨blk_alloc B7 _, G7⟩, ⟨blk_new _ _, D.sz⟩, N67, (Nat.ne_of_lt (blk_lt B6)), (Nat.ne_of_lt (blk_lt B7))⟩)
    exact AllReadyL.nil
  refine join_ (σ := (Option Addr × Nat) × Nat × Nat) 6 #[I, I, I, O, I, O, I, O, I, O, O, O] (fun s => [(43, .agg #[.int .i64 v1, .slice s.1.1 o1.length s.1.2, .int .i64 r1]), (9, .pointer (some ⟨s.2.1, 0, none⟩)), (11, .pointer (some ⟨s.2.2, 0, none⟩))]) (fun s w' => (AD w w' v1 r1 A1 c1 k1 v2 r2 A2 c2 k2 v3 r3 A3 c3 k3) ∧ (Kd.R k107 107 w' w.heap.size (fun _ => True) (.slice s.1.1 o1.length s.1.2) o1) ∧ (w'.heap[s.2.1]? = some (.cells #[.int .i64 0, .slice none 0 0, .int .i64 0] 28 (0, 0)) ∧ w.heap.size + 3 ≤ s.2.1) ∧ (w'.heap[s.2.2]? = some (.cells #[.int .i64 0, .slice none 0 0, .int .i64 0] 28 (0, 0)) ∧ w.heap.size + 3 ≤ s.2.2) ∧ (s.2.1 ≠ s.2.2)) ?_ (fun h1_68 => ?_)
  · rintro s w' hF
    obtain ⟨D, R1, ⟨B6, G6⟩, ⟨B8, G8⟩, N68⟩ := hF
    refine norm_ (a' := ?_) ?_ ?_
    rotate_left
    · simp only [putAll, Act.put, ta_, sz_, ss_, i64_w, i32_w]
      rfl
    refine readyN_ [3, 7] HT_.out (by kernel_rfl) (by decide) ?_
    refine stepN_ (N := some 45) #[I, I, I, I, I, O, I, O, I, O, O, O] rfl rfl (by kernel_rfl) (by decide) (fun K hK => ?_) ?_
    · refine goes_ Try.func30 (by kernel_rfl) rfl #[.agg #[.int .i64 v2, .slice A2 k2.length c2, .int .i64 r2]] (by rfl) rfl rfl (by simp only [List.map_toArray, List.map_cons, List.map_nil]; rfl) ?_
      refine (cantinglaw02_of.calls fu v2 A2 c2 k2 r2 v2 o2 r2 _ (Kd.C_below HCg.out D.bel) hcg HO2.out).mono ?_
      rintro e w2 ⟨vv, rfl, hR, hB⟩
      obtain ⟨Ao, co, rfl, _, _⟩ := Kd.R_reads hR
      refine ⟨_, rfl, ?_⟩
      refine hK.out _ _ ((D.below hB).cells) (fun _ => ?_)
      exact norm_ (by simp only [putAll, Act.put, ta_, sz_, ss_, i64_w, i32_w] <;> rfl) (h2_68 (s.1, (Ao, co), s.2.1, s.2.2) w2 ⟨(D.below hB), Kd.R_below R1 hB, Kd.R_lower hR D.bel.size, ⟨blk_below B6 hB, G6⟩, ⟨blk_below B8 hB, G8⟩, N68⟩)
    refine stepN_ (N := some 10) #[I, I, I, O, I, O, I, I, I, O, O, O] rfl rfl (by kernel_rfl) (by decide) (fun K hK => ?_) ?_
    · refine value_ (w1 := ?_) (v := ?_) (by rfl) rfl ?_ ?_
      rotate_left 2
      · go_simp
        constructor
        · rfl
        · rfl
      refine hK.out _ _ ((D.alloc _).cells) (fun _ => ?_)
      exact norm_ (by simp only [putAll, Act.put, ta_, sz_, ss_, i64_w, i32_w] <;> rfl) (h1_678 (s.1, s.2.1, w'.heap.size, s.2.2) _ ⟨(D.alloc _), Kd.R_alloc R1 _, ⟨blk_alloc B6 _, G6⟩, ⟨blk_new _ _, D.sz⟩, ⟨blk_alloc B8 _, G8⟩, (Nat.ne_of_lt (blk_lt B6)), N68, (Nat.ne_of_gt (blk_lt B8))⟩)
    exact AllReadyL.nil
  refine join_ (σ := (Option Addr × Nat) × Nat × Nat) 6 #[I, I, I, O, I, O, O, I, I, O, O, O] (fun s => [(43, .agg #[.int .i64 v1, .slice s.1.1 o1.length s.1.2, .int .i64 r1]), (10, .pointer (some ⟨s.2.1, 0, none⟩)), (11, .pointer (some ⟨s.2.2, 0, none⟩))]) (fun s w' => (AD w w' v1 r1 A1 c1 k1 v2 r2 A2 c2 k2 v3 r3 A3 c3 k3) ∧ (Kd.R k107 107 w' w.heap.size (fun _ => True) (.slice s.1.1 o1.length s.1.2) o1) ∧ (w'.heap[s.2.1]? = some (.cells #[.int .i64 0, .slice none 0 0, .int .i64 0] 28 (0, 0)) ∧ w.heap.size + 3 ≤ s.2.1) ∧ (w'.heap[s.2.2]? = some (.cells #[.int .i64 0, .slice none 0 0, .int .i64 0] 28 (0, 0)) ∧ w.heap.size + 3 ≤ s.2.2) ∧ (s.2.1 ≠ s.2.2)) ?_ (fun h1_78 => ?_)
  · rintro s w' hF
    obtain ⟨D, R1, ⟨B7, G7⟩, ⟨B8, G8⟩, N78⟩ := hF
    refine norm_ (a' := ?_) ?_ ?_
    rotate_left
    · simp only [putAll, Act.put, ta_, sz_, ss_, i64_w, i32_w]
      rfl
    refine readyN_ [3, 6] HT_.out (by kernel_rfl) (by decide) ?_
    refine stepN_ (N := some 45) #[I, I, I, I, I, O, O, I, I, O, O, O] rfl rfl (by kernel_rfl) (by decide) (fun K hK => ?_) ?_
    · refine goes_ Try.func30 (by kernel_rfl) rfl #[.agg #[.int .i64 v2, .slice A2 k2.length c2, .int .i64 r2]] (by rfl) rfl rfl (by simp only [List.map_toArray, List.map_cons, List.map_nil]; rfl) ?_
      refine (cantinglaw02_of.calls fu v2 A2 c2 k2 r2 v2 o2 r2 _ (Kd.C_below HCg.out D.bel) hcg HO2.out).mono ?_
      rintro e w2 ⟨vv, rfl, hR, hB⟩
      obtain ⟨Ao, co, rfl, _, _⟩ := Kd.R_reads hR
      refine ⟨_, rfl, ?_⟩
      refine hK.out _ _ ((D.below hB).cells) (fun _ => ?_)
      exact norm_ (by simp only [putAll, Act.put, ta_, sz_, ss_, i64_w, i32_w] <;> rfl) (h2_78 (s.1, (Ao, co), s.2.1, s.2.2) w2 ⟨(D.below hB), Kd.R_below R1 hB, Kd.R_lower hR D.bel.size, ⟨blk_below B7 hB, G7⟩, ⟨blk_below B8 hB, G8⟩, N78⟩)
    refine stepN_ (N := some 9) #[I, I, I, O, I, O, I, I, I, O, O, O] rfl rfl (by kernel_rfl) (by decide) (fun K hK => ?_) ?_
    · refine value_ (w1 := ?_) (v := ?_) (by rfl) rfl ?_ ?_
      rotate_left 2
      · go_simp
        constructor
        · rfl
        · rfl
      refine hK.out _ _ ((D.alloc _).cells) (fun _ => ?_)
      exact norm_ (by simp only [putAll, Act.put, ta_, sz_, ss_, i64_w, i32_w] <;> rfl) (h1_678 (s.1, w'.heap.size, s.2.1, s.2.2) _ ⟨(D.alloc _), Kd.R_alloc R1 _, ⟨blk_new _ _, D.sz⟩, ⟨blk_alloc B7 _, G7⟩, ⟨blk_alloc B8 _, G8⟩, (Nat.ne_of_gt (blk_lt B7)), (Nat.ne_of_gt (blk_lt B8)), N78⟩)
    exact AllReadyL.nil
  refine join_ (σ := (Option Addr × Nat) × (Option Addr × Nat) × Nat) 6 #[I, I, I, I, I, O, I, O, O, O, O, O] (fun s => [(43, .agg #[.int .i64 v1, .slice s.1.1 o1.length s.1.2, .int .i64 r1]), (45, .agg #[.int .i64 v2, .slice s.2.1.1 o2.length s.2.1.2, .int .i64 r2]), (9, .pointer (some ⟨s.2.2, 0, none⟩))]) (fun s w' => (AD w w' v1 r1 A1 c1 k1 v2 r2 A2 c2 k2 v3 r3 A3 c3 k3) ∧ (Kd.R k107 107 w' w.heap.size (fun _ => True) (.slice s.1.1 o1.length s.1.2) o1) ∧ (Kd.R k107 107 w' w.heap.size (fun _ => True) (.slice s.2.1.1 o2.length s.2.1.2) o2) ∧ (w'.heap[s.2.2]? = some (.cells #[.int .i64 0, .slice none 0 0, .int .i64 0] 28 (0, 0)) ∧ w.heap.size + 3 ≤ s.2.2)) ?_ (fun h2_6 => ?_)
  · rintro s w' hF
    obtain ⟨D, R1, R2, ⟨B6, G6⟩⟩ := hF
    refine norm_ (a' := ?_) ?_ ?_
    rotate_left
    · simp only [putAll, Act.put, ta_, sz_, ss_, i64_w, i32_w]
      rfl
    refine readyN_ [5, 7, 8] HT_.out (by kernel_rfl) (by decide) ?_
    refine stepN_ (N := some 47) #[I, I, I, I, I, I, I, O, O, O, O, O] rfl rfl (by kernel_rfl) (by decide) (fun K hK => ?_) ?_
    · refine goes_ Try.func30 (by kernel_rfl) rfl #[.agg #[.int .i64 v3, .slice A3 k3.length c3, .int .i64 r3]] (by rfl) rfl rfl (by simp only [List.map_toArray, List.map_cons, List.map_nil]; rfl) ?_
      refine (cantinglaw02_of.calls fu v3 A3 c3 k3 r3 v3 o3 r3 _ (Kd.C_below HCh.out D.bel) hch HO3.out).mono ?_
      rintro e w2 ⟨vv, rfl, hR, hB⟩
      obtain ⟨Ao, co, rfl, _, _⟩ := Kd.R_reads hR
      refine ⟨_, rfl, ?_⟩
      refine hK.out _ _ ((D.below hB).cells) (fun _ => ?_)
      exact norm_ (by simp only [putAll, Act.put, ta_, sz_, ss_, i64_w, i32_w] <;> rfl) (h3_6 (s.1, s.2.1, (Ao, co), s.2.2) w2 ⟨(D.below hB), Kd.R_below R1 hB, Kd.R_below R2 hB, Kd.R_lower hR D.bel.size, ⟨blk_below B6 hB, G6⟩⟩)
    refine stepN_ (N := some 10) #[I, I, I, I, I, O, I, I, O, O, O, O] rfl rfl (by kernel_rfl) (by decide) (fun K hK => ?_) ?_
    · refine value_ (w1 := ?_) (v := ?_) (by rfl) rfl ?_ ?_
      rotate_left 2
      · go_simp
        constructor
        · rfl
        · rfl
      refine hK.out _ _ ((D.alloc _).cells) (fun _ => ?_)
      exact norm_ (by simp only [putAll, Act.put, ta_, sz_, ss_, i64_w, i32_w] <;> rfl) (h2_67 (s.1, s.2.1, s.2.2, w'.heap.size) _ ⟨(D.alloc _), Kd.R_alloc R1 _, Kd.R_alloc R2 _, ⟨blk_alloc B6 _, G6⟩, ⟨blk_new _ _, D.sz⟩, (Nat.ne_of_lt (blk_lt B6))⟩)
    refine stepN_ (N := some 11) #[I, I, I, I, I, O, I, O, I, O, O, O] rfl rfl (by kernel_rfl) (by decide) (fun K hK => ?_) ?_
    · refine value_ (w1 := ?_) (v := ?_) (by rfl) rfl ?_ ?_
      rotate_left 2
      · go_simp
        constructor
        · rfl
        · rfl
      refine hK.out _ _ ((D.alloc _).cells) (fun _ => ?_)
      exact norm_ (by simp only [putAll, Act.put, ta_, sz_, ss_, i64_w, i32_w] <;> rfl) (h2_68 (s.1, s.2.1, s.2.2, w'.heap.size) _ ⟨(D.alloc _), Kd.R_alloc R1 _, Kd.R_alloc R2 _, ⟨blk_alloc B6 _, G6⟩, ⟨blk_new _ _, D.sz⟩, (Nat.ne_of_lt (blk_lt B6))⟩)
    exact AllReadyL.nil
  refine join_ (σ := (Option Addr × Nat) × (Option Addr × Nat) × Nat) 6 #[I, I, I, I, I, O, O, I, O, O, O, O] (fun s => [(43, .agg #[.int .i64 v1, .slice s.1.1 o1.length s.1.2, .int .i64 r1]), (45, .agg #[.int .i64 v2, .slice s.2.1.1 o2.length s.2.1.2, .int .i64 r2]), (10, .pointer (some ⟨s.2.2, 0, none⟩))]) (fun s w' => (AD w w' v1 r1 A1 c1 k1 v2 r2 A2 c2 k2 v3 r3 A3 c3 k3) ∧ (Kd.R k107 107 w' w.heap.size (fun _ => True) (.slice s.1.1 o1.length s.1.2) o1) ∧ (Kd.R k107 107 w' w.heap.size (fun _ => True) (.slice s.2.1.1 o2.length s.2.1.2) o2) ∧ (w'.heap[s.2.2]? = some (.cells #[.int .i64 0, .slice none 0 0, .int .i64 0] 28 (0, 0)) ∧ w.heap.size + 3 ≤ s.2.2)) ?_ (fun h2_7 => ?_)
  · rintro s w' hF
    obtain ⟨D, R1, R2, ⟨B7, G7⟩⟩ := hF
    refine norm_ (a' := ?_) ?_ ?_
    rotate_left
    · simp only [putAll, Act.put, ta_, sz_, ss_, i64_w, i32_w]
      rfl
    refine readyN_ [5, 6, 8] HT_.out (by kernel_rfl) (by decide) ?_
    refine stepN_ (N := some 47) #[I, I, I, I, I, I, O, I, O, O, O, O] rfl rfl (by kernel_rfl) (by decide) (fun K hK => ?_) ?_
    · refine goes_ Try.func30 (by kernel_rfl) rfl #[.agg #[.int .i64 v3, .slice A3 k3.length c3, .int .i64 r3]] (by rfl) rfl rfl (by simp only [List.map_toArray, List.map_cons, List.map_nil]; rfl) ?_
      refine (cantinglaw02_of.calls fu v3 A3 c3 k3 r3 v3 o3 r3 _ (Kd.C_below HCh.out D.bel) hch HO3.out).mono ?_
      rintro e w2 ⟨vv, rfl, hR, hB⟩
      obtain ⟨Ao, co, rfl, _, _⟩ := Kd.R_reads hR
      refine ⟨_, rfl, ?_⟩
      refine hK.out _ _ ((D.below hB).cells) (fun _ => ?_)
      exact norm_ (by simp only [putAll, Act.put, ta_, sz_, ss_, i64_w, i32_w] <;> rfl) (h3_7 (s.1, s.2.1, (Ao, co), s.2.2) w2 ⟨(D.below hB), Kd.R_below R1 hB, Kd.R_below R2 hB, Kd.R_lower hR D.bel.size, ⟨blk_below B7 hB, G7⟩⟩)
    refine stepN_ (N := some 9) #[I, I, I, I, I, O, I, I, O, O, O, O] rfl rfl (by kernel_rfl) (by decide) (fun K hK => ?_) ?_
    · refine value_ (w1 := ?_) (v := ?_) (by rfl) rfl ?_ ?_
      rotate_left 2
      · go_simp
        constructor
        · rfl
        · rfl
      refine hK.out _ _ ((D.alloc _).cells) (fun _ => ?_)
      exact norm_ (by simp only [putAll, Act.put, ta_, sz_, ss_, i64_w, i32_w] <;> rfl) (h2_67 (s.1, s.2.1, w'.heap.size, s.2.2) _ ⟨(D.alloc _), Kd.R_alloc R1 _, Kd.R_alloc R2 _, ⟨blk_new _ _, D.sz⟩, ⟨blk_alloc B7 _, G7⟩, (Nat.ne_of_gt (blk_lt B7))⟩)
    refine stepN_ (N := some 11) #[I, I, I, I, I, O, O, I, I, O, O, O] rfl rfl (by kernel_rfl) (by decide) (fun K hK => ?_) ?_
    · refine value_ (w1 := ?_) (v := ?_) (by rfl) rfl ?_ ?_
      rotate_left 2
      · go_simp
        constructor
        · rfl
        · rfl
      refine hK.out _ _ ((D.alloc _).cells) (fun _ => ?_)
      exact norm_ (by simp only [putAll, Act.put, ta_, sz_, ss_, i64_w, i32_w] <;> rfl) (h2_78 (s.1, s.2.1, s.2.2, w'.heap.size) _ ⟨(D.alloc _), Kd.R_alloc R1 _, Kd.R_alloc R2 _, ⟨blk_alloc B7 _, G7⟩, ⟨blk_new _ _, D.sz⟩, (Nat.ne_of_lt (blk_lt B7))⟩)
    exact AllReadyL.nil
  refine join_ (σ := (Option Addr × Nat) × (Option Addr × Nat) × Nat) 6 #[I, I, I, I, I, O, O, O, I, O, O, O] (fun s => [(43, .agg #[.int .i64 v1, .slice s.1.1 o1.length s.1.2, .int .i64 r1]), (45, .agg #[.int .i64 v2, .slice s.2.1.1 o2.length s.2.1.2, .int .i64 r2]), (11, .pointer (some ⟨s.2.2, 0, none⟩))]) (fun s w' => (AD w w' v1 r1 A1 c1 k1 v2 r2 A2 c2 k2 v3 r3 A3 c3 k3) ∧ (Kd.R k107 107 w' w.heap.size (fun _ => True) (.slice s.1.1 o1.length s.1.2) o1) ∧ (Kd.R k107 107 w' w.heap.size (fun _ => True) (.slice s.2.1.1 o2.length s.2.1.2) o2) ∧ (w'.heap[s.2.2]? = some (.cells #[.int .i64 0, .slice none 0 0, .int .i64 0] 28 (0, 0)) ∧ w.heap.size + 3 ≤ s.2.2)) ?_ (fun h2_8 => ?_)
  · rintro s w' hF
    obtain ⟨D, R1, R2, ⟨B8, G8⟩⟩ := hF
    refine norm_ (a' := ?_) ?_ ?_
    rotate_left
    · simp only [putAll, Act.put, ta_, sz_, ss_, i64_w, i32_w]
      rfl
    refine readyN_ [5, 6, 7] HT_.out (by kernel_rfl) (by decide) ?_
    refine stepN_ (N := some 47) #[I, I, I, I, I, I, O, O, I, O, O, O] rfl rfl (by kernel_rfl) (by decide) (fun K hK => ?_) ?_
    · refine goes_ Try.func30 (by kernel_rfl) rfl #[.agg #[.int .i64 v3, .slice A3 k3.length c3, .int .i64 r3]] (by rfl) rfl rfl (by simp only [List.map_toArray, List.map_cons, List.map_nil]; rfl) ?_
      refine (cantinglaw02_of.calls fu v3 A3 c3 k3 r3 v3 o3 r3 _ (Kd.C_below HCh.out D.bel) hch HO3.out).mono ?_
      rintro e w2 ⟨vv, rfl, hR, hB⟩
      obtain ⟨Ao, co, rfl, _, _⟩ := Kd.R_reads hR
      refine ⟨_, rfl, ?_⟩
      refine hK.out _ _ ((D.below hB).cells) (fun _ => ?_)
      exact norm_ (by simp only [putAll, Act.put, ta_, sz_, ss_, i64_w, i32_w] <;> rfl) (h3_8 (s.1, s.2.1, (Ao, co), s.2.2) w2 ⟨(D.below hB), Kd.R_below R1 hB, Kd.R_below R2 hB, Kd.R_lower hR D.bel.size, ⟨blk_below B8 hB, G8⟩⟩)
    refine stepN_ (N := some 9) #[I, I, I, I, I, O, I, O, I, O, O, O] rfl rfl (by kernel_rfl) (by decide) (fun K hK => ?_) ?_
    · refine value_ (w1 := ?_) (v := ?_) (by rfl) rfl ?_ ?_
      rotate_left 2
      · go_simp
        constructor
        · rfl
        · rfl
      refine hK.out _ _ ((D.alloc _).cells) (fun _ => ?_)
      exact norm_ (by simp only [putAll, Act.put, ta_, sz_, ss_, i64_w, i32_w] <;> rfl) (h2_68 (s.1, s.2.1, w'.heap.size, s.2.2) _ ⟨(D.alloc _), Kd.R_alloc R1 _, Kd.R_alloc R2 _, ⟨blk_new _ _, D.sz⟩, ⟨blk_alloc B8 _, G8⟩, (Nat.ne_of_gt (blk_lt B8))⟩)
    refine stepN_ (N := some 10) #[I, I, I, I, I, O, O, I, I, O, O, O] rfl rfl (by kernel_rfl) (by decide) (fun K hK => ?_) ?_
    · refine value_ (w1 := ?_) (v := ?_) (by rfl) rfl ?_ ?_
      rotate_left 2
      · go_simp
        constructor
        · rfl
        · rfl
      refine hK.out _ _ ((D.alloc _).cells) (fun _ => ?_)
      exact norm_ (by simp only [putAll, Act.put, ta_, sz_, ss_, i64_w, i32_w] <;> rfl) (h2_78 (s.1, s.2.1, w'.heap.size, s.2.2) _ ⟨(D.alloc _), Kd.R_alloc R1 _, Kd.R_alloc R2 _, ⟨blk_new _ _, D.sz⟩, ⟨blk_alloc B8 _, G8⟩, (Nat.ne_of_gt (blk_lt B8))⟩)
    exact AllReadyL.nil
  refine join_ (σ := (Option Addr × Nat) × (Option Addr × Nat) × (Option Addr × Nat)) 6 #[I, I, I, I, I, I, O, O, O, O, O, O] (fun s => [(43, .agg #[.int .i64 v1, .slice s.1.1 o1.length s.1.2, .int .i64 r1]), (45, .agg #[.int .i64 v2, .slice s.2.1.1 o2.length s.2.1.2, .int .i64 r2]), (47, .agg #[.int .i64 v3, .slice s.2.2.1 o3.length s.2.2.2, .int .i64 r3])]) (fun s w' => (AD w w' v1 r1 A1 c1 k1 v2 r2 A2 c2 k2 v3 r3 A3 c3 k3) ∧ (Kd.R k107 107 w' w.heap.size (fun _ => True) (.slice s.1.1 o1.length s.1.2) o1) ∧ (Kd.R k107 107 w' w.heap.size (fun _ => True) (.slice s.2.1.1 o2.length s.2.1.2) o2) ∧ (Kd.R k107 107 w' w.heap.size (fun _ => True) (.slice s.2.2.1 o3.length s.2.2.2) o3)) ?_ (fun h3_ => ?_)
  · rintro s w' hF
    obtain ⟨D, R1, R2, R3⟩ := hF
    refine norm_ (a' := ?_) ?_ ?_
    rotate_left
    · simp only [putAll, Act.put, ta_, sz_, ss_, i64_w, i32_w]
      rfl
    refine readyN_ [6, 7, 8] HT_.out (by kernel_rfl) (by decide) ?_
    refine stepN_ (N := some 9) #[I, I, I, I, I, I, I, O, O, O, O, O] rfl rfl (by kernel_rfl) (by decide) (fun K hK => ?_) ?_
    · refine value_ (w1 := ?_) (v := ?_) (by rfl) rfl ?_ ?_
      rotate_left 2
      · go_simp
        constructor
        · rfl
        · rfl
      refine hK.out _ _ ((D.alloc _).cells) (fun _ => ?_)
      exact norm_ (by simp only [putAll, Act.put, ta_, sz_, ss_, i64_w, i32_w] <;> rfl) (h3_6 (s.1, s.2.1, s.2.2, w'.heap.size) _ ⟨(D.alloc _), Kd.R_alloc R1 _, Kd.R_alloc R2 _, Kd.R_alloc R3 _, ⟨blk_new _ _, D.sz⟩⟩)
    refine stepN_ (N := some 10) #[I, I, I, I, I, I, O, I, O, O, O, O] rfl rfl (by kernel_rfl) (by decide) (fun K hK => ?_) ?_
    · refine value_ (w1 := ?_) (v := ?_) (by rfl) rfl ?_ ?_
      rotate_left 2
      · go_simp
        constructor
        · rfl
        · rfl
      refine hK.out _ _ ((D.alloc _).cells) (fun _ => ?_)
      exact norm_ (by simp only [putAll, Act.put, ta_, sz_, ss_, i64_w, i32_w] <;> rfl) (h3_7 (s.1, s.2.1, s.2.2, w'.heap.size) _ ⟨(D.alloc _), Kd.R_alloc R1 _, Kd.R_alloc R2 _, Kd.R_alloc R3 _, ⟨blk_new _ _, D.sz⟩⟩)
    refine stepN_ (N := some 11) #[I, I, I, I, I, I, O, O, I, O, O, O] rfl rfl (by kernel_rfl) (by decide) (fun K hK => ?_) ?_
    · refine value_ (w1 := ?_) (v := ?_) (by rfl) rfl ?_ ?_
      rotate_left 2
      · go_simp
        constructor
        · rfl
        · rfl
      refine hK.out _ _ ((D.alloc _).cells) (fun _ => ?_)
      exact norm_ (by simp only [putAll, Act.put, ta_, sz_, ss_, i64_w, i32_w] <;> rfl) (h3_8 (s.1, s.2.1, s.2.2, w'.heap.size) _ ⟨(D.alloc _), Kd.R_alloc R1 _, Kd.R_alloc R2 _, Kd.R_alloc R3 _, ⟨blk_new _ _, D.sz⟩⟩)
    exact AllReadyL.nil
  refine join_ (σ := Nat × Nat) 7 #[I, O, I, O, I, O, I, I, O, O, O, O] (fun s => [(9, .pointer (some ⟨s.1, 0, none⟩)), (10, .pointer (some ⟨s.2, 0, none⟩))]) (fun s w' => (AD w w' v1 r1 A1 c1 k1 v2 r2 A2 c2 k2 v3 r3 A3 c3 k3) ∧ (w'.heap[s.1]? = some (.cells #[.int .i64 0, .slice none 0 0, .int .i64 0] 28 (0, 0)) ∧ w.heap.size + 3 ≤ s.1) ∧ (w'.heap[s.2]? = some (.cells #[.int .i64 0, .slice none 0 0, .int .i64 0] 28 (0, 0)) ∧ w.heap.size + 3 ≤ s.2) ∧ (s.1 ≠ s.2)) ?_ (fun h0_67 => ?_)
  · rintro s w' hF
    obtain ⟨D, ⟨B6, G6⟩, ⟨B7, G7⟩, N67⟩ := hF
    refine norm_ (a' := ?_) ?_ ?_
    rotate_left
    · simp only [putAll, Act.put, ta_, sz_, ss_, i64_w, i32_w]
      rfl
    refine readyN_ [1, 8] HT_.out (by kernel_rfl) (by decide) ?_
    refine stepN_ (N := some 43) #[I, I, I, O, I, O, I, I, O, O, O, O] rfl rfl (by kernel_rfl) (by decide) (fun K hK => ?_) ?_
    · refine goes_ Try.func30 (by kernel_rfl) rfl #[.agg #[.int .i64 v1, .slice A1 k1.length c1, .int .i64 r1]] (by rfl) rfl rfl (by simp only [List.map_toArray, List.map_cons, List.map_nil]; rfl) ?_
      refine (cantinglaw02_of.calls fu v1 A1 c1 k1 r1 v1 o1 r1 _ (Kd.C_below HCf.out D.bel) hcf HO1.out).mono ?_
      rintro e w2 ⟨vv, rfl, hR, hB⟩
      obtain ⟨Ao, co, rfl, _, _⟩ := Kd.R_reads hR
      refine ⟨_, rfl, ?_⟩
      refine hK.out _ _ ((D.below hB).cells) (fun _ => ?_)
      exact norm_ (by simp only [putAll, Act.put, ta_, sz_, ss_, i64_w, i32_w] <;> rfl) (h1_67 ((Ao, co), s.1, s.2) w2 ⟨(D.below hB), Kd.R_lower hR D.bel.size, ⟨blk_below B6 hB, G6⟩, ⟨blk_below B7 hB, G7⟩, N67⟩)
    refine stepN_ (N := some 11) #[I, O, I, O, I, O, I, I, I, O, O, O] rfl rfl (by kernel_rfl) (by decide) (fun K hK => ?_) ?_
    · refine value_ (w1 := ?_) (v := ?_) (by rfl) rfl ?_ ?_
      rotate_left 2
      · go_simp
        constructor
        · rfl
        · rfl
      refine hK.out _ _ ((D.alloc _).cells) (fun _ => ?_)
      exact norm_ (by simp only [putAll, Act.put, ta_, sz_, ss_, i64_w, i32_w] <;> rfl) (h0_678 (s.1, s.2, w'.heap.size) _ ⟨(D.alloc _), ⟨blk_alloc B6 _, G6⟩, ⟨blk_alloc B7 _, G7⟩, ⟨blk_new _ _, D.sz⟩, N67, (Nat.ne_of_lt (blk_lt B6)), (Nat.ne_of_lt (blk_lt B7))⟩)
    exact AllReadyL.nil
  refine join_ (σ := Nat × Nat) 7 #[I, O, I, O, I, O, I, O, I, O, O, O] (fun s => [(9, .pointer (some ⟨s.1, 0, none⟩)), (11, .pointer (some ⟨s.2, 0, none⟩))]) (fun s w' => (AD w w' v1 r1 A1 c1 k1 v2 r2 A2 c2 k2 v3 r3 A3 c3 k3) ∧ (w'.heap[s.1]? = some (.cells #[.int .i64 0, .slice none 0 0, .int .i64 0] 28 (0, 0)) ∧ w.heap.size + 3 ≤ s.1) ∧ (w'.heap[s.2]? = some (.cells #[.int .i64 0, .slice none 0 0, .int .i64 0] 28 (0, 0)) ∧ w.heap.size + 3 ≤ s.2) ∧ (s.1 ≠ s.2)) ?_ (fun h0_68 => ?_)
  · rintro s w' hF
    obtain ⟨D, ⟨B6, G6⟩, ⟨B8, G8⟩, N68⟩ := hF
    refine norm_ (a' := ?_) ?_ ?_
    rotate_left
    · simp only [putAll, Act.put, ta_, sz_, ss_, i64_w, i32_w]
      rfl
    refine readyN_ [1, 7] HT_.out (by kernel_rfl) (by decide) ?_
    refine stepN_ (N := some 43) #[I, I, I, O, I, O, I, O, I, O, O, O] rfl rfl (by kernel_rfl) (by decide) (fun K hK => ?_) ?_
    · refine goes_ Try.func30 (by kernel_rfl) rfl #[.agg #[.int .i64 v1, .slice A1 k1.length c1, .int .i64 r1]] (by rfl) rfl rfl (by simp only [List.map_toArray, List.map_cons, List.map_nil]; rfl) ?_
      refine (cantinglaw02_of.calls fu v1 A1 c1 k1 r1 v1 o1 r1 _ (Kd.C_below HCf.out D.bel) hcf HO1.out).mono ?_
      rintro e w2 ⟨vv, rfl, hR, hB⟩
      obtain ⟨Ao, co, rfl, _, _⟩ := Kd.R_reads hR
      refine ⟨_, rfl, ?_⟩
      refine hK.out _ _ ((D.below hB).cells) (fun _ => ?_)
      exact norm_ (by simp only [putAll, Act.put, ta_, sz_, ss_, i64_w, i32_w] <;> rfl) (h1_68 ((Ao, co), s.1, s.2) w2 ⟨(D.below hB), Kd.R_lower hR D.bel.size, ⟨blk_below B6 hB, G6⟩, ⟨blk_below B8 hB, G8⟩, N68⟩)
    refine stepN_ (N := some 10) #[I, O, I, O, I, O, I, I, I, O, O, O] rfl rfl (by kernel_rfl) (by decide) (fun K hK => ?_) ?_
    · refine value_ (w1 := ?_) (v := ?_) (by rfl) rfl ?_ ?_
      rotate_left 2
      · go_simp
        constructor
        · rfl
        · rfl
      refine hK.out _ _ ((D.alloc _).cells) (fun _ => ?_)
      exact norm_ (by simp only [putAll, Act.put, ta_, sz_, ss_, i64_w, i32_w] <;> rfl) (h0_678 (s.1, w'.heap.size, s.2) _ ⟨(D.alloc _), ⟨blk_alloc B6 _, G6⟩, ⟨blk_new _ _, D.sz⟩, ⟨blk_alloc B8 _, G8⟩, (Nat.ne_of_lt (blk_lt B6)), N68, (Nat.ne_of_gt (blk_lt B8))⟩)
    exact AllReadyL.nil
  refine join_ (σ := Nat × Nat) 7 #[I, O, I, O, I, O, O, I, I, O, O, O] (fun s => [(10, .pointer (some ⟨s.1, 0, none⟩)), (11, .pointer (some ⟨s.2, 0, none⟩))]) (fun s w' => (AD w w' v1 r1 A1 c1 k1 v2 r2 A2 c2 k2 v3 r3 A3 c3 k3) ∧ (w'.heap[s.1]? = some (.cells #[.int .i64 0, .slice none 0 0, .int .i64 0] 28 (0, 0)) ∧ w.heap.size + 3 ≤ s.1) ∧ (w'.heap[s.2]? = some (.cells #[.int .i64 0, .slice none 0 0, .int .i64 0] 28 (0, 0)) ∧ w.heap.size + 3 ≤ s.2) ∧ (s.1 ≠ s.2)) ?_ (fun h0_78 => ?_)
  · rintro s w' hF
    obtain ⟨D, ⟨B7, G7⟩, ⟨B8, G8⟩, N78⟩ := hF
    refine norm_ (a' := ?_) ?_ ?_
    rotate_left
    · simp only [putAll, Act.put, ta_, sz_, ss_, i64_w, i32_w]
      rfl
    refine readyN_ [1, 6] HT_.out (by kernel_rfl) (by decide) ?_
    refine stepN_ (N := some 43) #[I, I, I, O, I, O, O, I, I, O, O, O] rfl rfl (by kernel_rfl) (by decide) (fun K hK => ?_) ?_
    · refine goes_ Try.func30 (by kernel_rfl) rfl #[.agg #[.int .i64 v1, .slice A1 k1.length c1, .int .i64 r1]] (by rfl) rfl rfl (by simp only [List.map_toArray, List.map_cons, List.map_nil]; rfl) ?_
      refine (cantinglaw02_of.calls fu v1 A1 c1 k1 r1 v1 o1 r1 _ (Kd.C_below HCf.out D.bel) hcf HO1.out).mono ?_
      rintro e w2 ⟨vv, rfl, hR, hB⟩
      obtain ⟨Ao, co, rfl, _, _⟩ := Kd.R_reads hR
      refine ⟨_, rfl, ?_⟩
      refine hK.out _ _ ((D.below hB).cells) (fun _ => ?_)
      exact norm_ (by simp only [putAll, Act.put, ta_, sz_, ss_, i64_w, i32_w] <;> rfl) (h1_78 ((Ao, co), s.1, s.2) w2 ⟨(D.below hB), Kd.R_lower hR D.bel.size, ⟨blk_below B7 hB, G7⟩, ⟨blk_below B8 hB, G8⟩, N78⟩)
    refine stepN_ (N := some 9) #[I, O, I, O, I, O, I, I, I, O, O, O] rfl rfl (by kernel_rfl) (by decide) (fun K hK => ?_) ?_
    · refine value_ (w1 := ?_) (v := ?_) (by rfl) rfl ?_ ?_
      rotate_left 2
      · go_simp
        constructor
        · rfl
        · rfl
      refine hK.out _ _ ((D.alloc _).cells) (fun _ => ?_)
      exact norm_ (by simp only [putAll, Act.put, ta_, sz_, ss_, i64_w, i32_w] <;> rfl) (h0_678 (w'.heap.size, s.1, s.2) _ ⟨(D.alloc _), ⟨blk_new _ _, D.sz⟩, ⟨blk_alloc B7 _, G7⟩, ⟨blk_alloc B8 _, G8⟩, (Nat.ne_of_gt (blk_lt B7)), (Nat.ne_of_gt (blk_lt B8)), N78⟩)
    exact AllReadyL.nil
  refine join_ (σ := (Option Addr × Nat) × Nat) 7 #[I, I, I, O, I, O, I, O, O, O, O, O] (fun s => [(43, .agg #[.int .i64 v1, .slice s.1.1 o1.length s.1.2, .int .i64 r1]), (9, .pointer (some ⟨s.2, 0, none⟩))]) (fun s w' => (AD w w' v1 r1 A1 c1 k1 v2 r2 A2 c2 k2 v3 r3 A3 c3 k3) ∧ (Kd.R k107 107 w' w.heap.size (fun _ => True) (.slice s.1.1 o1.length s.1.2) o1) ∧ (w'.heap[s.2]? = some (.cells #[.int .i64 0, .slice none 0 0, .int .i64 0] 28 (0, 0)) ∧ w.heap.size + 3 ≤ s.2)) ?_ (fun h1_6 => ?_)
  · rintro s w' hF
    obtain ⟨D, R1, ⟨B6, G6⟩⟩ := hF
    refine norm_ (a' := ?_) ?_ ?_
    rotate_left
    · simp only [putAll, Act.put, ta_, sz_, ss_, i64_w, i32_w]
      rfl
    refine readyN_ [3, 7, 8] HT_.out (by kernel_rfl) (by decide) ?_
    refine stepN_ (N := some 45) #[I, I, I, I, I, O, I, O, O, O, O, O] rfl rfl (by kernel_rfl) (by decide) (fun K hK => ?_) ?_
    · refine goes_ Try.func30 (by kernel_rfl) rfl #[.agg #[.int .i64 v2, .slice A2 k2.length c2, .int .i64 r2]] (by rfl) rfl rfl (by simp only [List.map_toArray, List.map_cons, List.map_nil]; rfl) ?_
      refine (cantinglaw02_of.calls fu v2 A2 c2 k2 r2 v2 o2 r2 _ (Kd.C_below HCg.out D.bel) hcg HO2.out).mono ?_
      rintro e w2 ⟨vv, rfl, hR, hB⟩
      obtain ⟨Ao, co, rfl, _, _⟩ := Kd.R_reads hR
      refine ⟨_, rfl, ?_⟩
      refine hK.out _ _ ((D.below hB).cells) (fun _ => ?_)
      exact norm_ (by simp only [putAll, Act.put, ta_, sz_, ss_, i64_w, i32_w] <;> rfl) (h2_6 (s.1, (Ao, co), s.2) w2 ⟨(D.below hB), Kd.R_below R1 hB, Kd.R_lower hR D.bel.size, ⟨blk_below B6 hB, G6⟩⟩)
    refine stepN_ (N := some 10) #[I, I, I, O, I, O, I, I, O, O, O, O] rfl rfl (by kernel_rfl) (by decide) (fun K hK => ?_) ?_
    · refine value_ (w1 := ?_) (v := ?_) (by rfl) rfl ?_ ?_
      rotate_left 2
      · go_simp
        constructor
        · rfl
        · rfl
      refine hK.out _ _ ((D.alloc _).cells) (fun _ => ?_)
      exact norm_ (by simp only [putAll, Act.put, ta_, sz_, ss_, i64_w, i32_w] <;> rfl) (h1_67 (s.1, s.2, w'.heap.size) _ ⟨(D.alloc _), Kd.R_alloc R1 _, ⟨blk_alloc B6 _, G6⟩, ⟨blk_new _ _, D.sz⟩, (Nat.ne_of_lt (blk_lt B6))⟩)
    refine stepN_ (N := some 11) #[I, I, I, O, I, O, I, O, I, O, O, O] rfl rfl (by kernel_rfl) (by decide) (fun K hK => ?_) ?_
    · refine value_ (w1 := ?_) (v := ?_) (by rfl) rfl ?_ ?_
      rotate_left 2
      · go_simp
        constructor
        · rfl
        · rfl
      refine hK.out _ _ ((D.alloc _).cells) (fun _ => ?_)
      exact norm_ (by simp only [putAll, Act.put, ta_, sz_, ss_, i64_w, i32_w] <;> rfl) (h1_68 (s.1, s.2, w'.heap.size) _ ⟨(D.alloc _), Kd.R_alloc R1 _, ⟨blk_alloc B6 _, G6⟩, ⟨blk_new _ _, D.sz⟩, (Nat.ne_of_lt (blk_lt B6))⟩)
    exact AllReadyL.nil
  refine join_ (σ := (Option Addr × Nat) × Nat) 7 #[I, I, I, O, I, O, O, I, O, O, O, O] (fun s => [(43, .agg #[.int .i64 v1, .slice s.1.1 o1.length s.1.2, .int .i64 r1]), (10, .pointer (some ⟨s.2, 0, none⟩))]) (fun s w' => (AD w w' v1 r1 A1 c1 k1 v2 r2 A2 c2 k2 v3 r3 A3 c3 k3) ∧ (Kd.R k107 107 w' w.heap.size (fun _ => True) (.slice s.1.1 o1.length s.1.2) o1) ∧ (w'.heap[s.2]? = some (.cells #[.int .i64 0, .slice none 0 0, .int .i64 0] 28 (0, 0)) ∧ w.heap.size + 3 ≤ s.2)) ?_ (fun h1_7 => ?_)
  · rintro s w' hF
    obtain ⟨D, R1, ⟨B7, G7⟩⟩ := hF
    refine norm_ (a' := ?_) ?_ ?_
    rotate_left
    · simp only [putAll, Act.put, ta_, sz_, ss_, i64_w, i32_w]
      rfl
    refine readyN_ [3, 6, 8] HT_.out (by kernel_rfl) (by decide) ?_
    refine stepN_ (N := some 45) #[I, I, I, I, I, O, O, I, O, O, O, O] rfl rfl (by kernel_rfl) (by decide) (fun K hK => ?_) ?_
    · refine goes_ Try.func30 (by kernel_rfl) rfl #[.agg #[.int .i64 v2, .slice A2 k2.length c2, .int .i64 r2]] (by rfl) rfl rfl (by simp only [List.map_toArray, List.map_cons, List.map_nil]; rfl) ?_
      refine (cantinglaw02_of.calls fu v2 A2 c2 k2 r2 v2 o2 r2 _ (Kd.C_below HCg.out D.bel) hcg HO2.out).mono ?_
      rintro e w2 ⟨vv, rfl, hR, hB⟩
      obtain ⟨Ao, co, rfl, _, _⟩ := Kd.R_reads hR
      refine ⟨_, rfl, ?_⟩
      refine hK.out _ _ ((D.below hB).cells) (fun _ => ?_)
      exact norm_ (by simp only [putAll, Act.put, ta_, sz_, ss_, i64_w, i32_w] <;> rfl) (h2_7 (s.1, (Ao, co), s.2) w2 ⟨(D.below hB), Kd.R_below R1 hB, Kd.R_lower hR D.bel.size, ⟨blk_below B7 hB, G7⟩⟩)
    refine stepN_ (N := some 9) #[I, I, I, O, I, O, I, I, O, O, O, O] rfl rfl (by kernel_rfl) (by decide) (fun K hK => ?_) ?_
    · refine value_ (w1 := ?_) (v := ?_) (by rfl) rfl ?_ ?_
      rotate_left 2
      · go_simp
        constructor
        · rfl
        · rfl
      refine hK.out _ _ ((D.alloc _).cells) (fun _ => ?_)
      exact norm_ (by simp only [putAll, Act.put, ta_, sz_, ss_, i64_w, i32_w] <;> rfl) (h1_67 (s.1, w'.heap.size, s.2) _ ⟨(D.alloc _), Kd.R_alloc R1 _, ⟨blk_new _ _, D.sz⟩, ⟨blk_alloc B7 _, G7⟩, (Nat.ne_of_gt (blk_lt B7))⟩)
    refine stepN_ (N := some 11) #[I, I, I, O, I, O, O, I, I, O, O, O] rfl rfl (by kernel_rfl) (by decide) (fun K hK => ?_) ?_
    · refine value_ (w1 := ?_) (v := ?_) (by rfl) rfl ?_ ?_
      rotate_left 2
      · go_simp
        constructor
        · rfl
        · rfl
      refine hK.out _ _ ((D.alloc _).cells) (fun _ => ?_)
      exact norm_ (by simp only [putAll, Act.put, ta_, sz_, ss_, i64_w, i32_w] <;> rfl) (h1_78 (s.1, s.2, w'.heap.size) _ ⟨(D.alloc _), Kd.R_alloc R1 _, ⟨blk_alloc B7 _, G7⟩, ⟨blk_new _ _, D.sz⟩, (Nat.ne_of_lt (blk_lt B7))⟩)
    exact AllReadyL.nil
  refine join_ (σ := (Option Addr × Nat) × Nat) 7 #[I, I, I, O, I, O, O, O, I, O, O, O] (fun s => [(43, .agg #[.int .i64 v1, .slice s.1.1 o1.length s.1.2, .int .i64 r1]), (11, .pointer (some ⟨s.2, 0, none⟩))]) (fun s w' => (AD w w' v1 r1 A1 c1 k1 v2 r2 A2 c2 k2 v3 r3 A3 c3 k3) ∧ (Kd.R k107 107 w' w.heap.size (fun _ => True) (.slice s.1.1 o1.length s.1.2) o1) ∧ (w'.heap[s.2]? = some (.cells #[.int .i64 0, .slice none 0 0, .int .i64 0] 28 (0, 0)) ∧ w.heap.size + 3 ≤ s.2)) ?_ (fun h1_8 => ?_)
  · rintro s w' hF
    obtain ⟨D, R1, ⟨B8, G8⟩⟩ := hF
    refine norm_ (a' := ?_) ?_ ?_
    rotate_left
    · simp only [putAll, Act.put, ta_, sz_, ss_, i64_w, i32_w]
      rfl
    refine readyN_ [3, 6, 7] HT_.out (by kernel_rfl) (by decide) ?_
    refine stepN_ (N := some 45) #[I, I, I, I, I, O, O, O, I, O, O, O] rfl rfl (by kernel_rfl) (by decide) (fun K hK => ?_) ?_
    · refine goes_ Try.func30 (by kernel_rfl) rfl #[.agg #[.int .i64 v2, .slice A2 k2.length c2, .int .i64 r2]] (by rfl) rfl rfl (by simp only [List.map_toArray, List.map_cons, List.map_nil]; rfl) ?_
      refine (cantinglaw02_of.calls fu v2 A2 c2 k2 r2 v2 o2 r2 _ (Kd.C_below HCg.out D.bel) hcg HO2.out).mono ?_
      rintro e w2 ⟨vv, rfl, hR, hB⟩
      obtain ⟨Ao, co, rfl, _, _⟩ := Kd.R_reads hR
      refine ⟨_, rfl, ?_⟩
      refine hK.out _ _ ((D.below hB).cells) (fun _ => ?_)
      exact norm_ (by simp only [putAll, Act.put, ta_, sz_, ss_, i64_w, i32_w] <;> rfl) (h2_8 (s.1, (Ao, co), s.2) w2 ⟨(D.below hB), Kd.R_below R1 hB, Kd.R_lower hR D.bel.size, ⟨blk_below B8 hB, G8⟩⟩)
    refine stepN_ (N := some 9) #[I, I, I, O, I, O, I, O, I, O, O, O] rfl rfl (by kernel_rfl) (by decide) (fun K hK => ?_) ?_
    · refine value_ (w1 := ?_) (v := ?_) (by rfl) rfl ?_ ?_
      rotate_left 2
      · go_simp
        constructor
        · rfl
        · rfl
      refine hK.out _ _ ((D.alloc _).cells) (fun _ => ?_)
      exact norm_ (by simp only [putAll, Act.put, ta_, sz_, ss_, i64_w, i32_w] <;> rfl) (h1_68 (s.1, w'.heap.size, s.2) _ ⟨(D.alloc _), Kd.R_alloc R1 _, ⟨blk_new _ _, D.sz⟩, ⟨blk_alloc B8 _, G8⟩, (Nat.ne_of_gt (blk_lt B8))⟩)
    refine stepN_ (N := some 10) #[I, I, I, O, I, O, O, I, I, O, O, O] rfl rfl (by kernel_rfl) (by decide) (fun K hK => ?_) ?_
    · refine value_ (w1 := ?_) (v := ?_) (by rfl) rfl ?_ ?_
      rotate_left 2
      · go_simp
        constructor
        · rfl
        · rfl
      refine hK.out _ _ ((D.alloc _).cells) (fun _ => ?_)
      exact norm_ (by simp only [putAll, Act.put, ta_, sz_, ss_, i64_w, i32_w] <;> rfl) (h1_78 (s.1, w'.heap.size, s.2) _ ⟨(D.alloc _), Kd.R_alloc R1 _, ⟨blk_new _ _, D.sz⟩, ⟨blk_alloc B8 _, G8⟩, (Nat.ne_of_gt (blk_lt B8))⟩)
    exact AllReadyL.nil
  refine join_ (σ := (Option Addr × Nat) × (Option Addr × Nat)) 7 #[I, I, I, I, I, O, O, O, O, O, O, O] (fun s => [(43, .agg #[.int .i64 v1, .slice s.1.1 o1.length s.1.2, .int .i64 r1]), (45, .agg #[.int .i64 v2, .slice s.2.1 o2.length s.2.2, .int .i64 r2])]) (fun s w' => (AD w w' v1 r1 A1 c1 k1 v2 r2 A2 c2 k2 v3 r3 A3 c3 k3) ∧ (Kd.R k107 107 w' w.heap.size (fun _ => True) (.slice s.1.1 o1.length s.1.2) o1) ∧ (Kd.R k107 107 w' w.heap.size (fun _ => True) (.slice s.2.1 o2.length s.2.2) o2)) ?_ (fun h2_ => ?_)
  · rintro s w' hF
    obtain ⟨D, R1, R2⟩ := hF
    refine norm_ (a' := ?_) ?_ ?_
    rotate_left
    · simp only [putAll, Act.put, ta_, sz_, ss_, i64_w, i32_w]
      rfl
    refine readyN_ [5, 6, 7, 8] HT_.out (by kernel_rfl) (by decide) ?_
    refine stepN_ (N := some 47) #[I, I, I, I, I, I, O, O, O, O, O, O] rfl rfl (by kernel_rfl) (by decide) (fun K hK => ?_) ?_
    · refine goes_ Try.func30 (by kernel_rfl) rfl #[.agg #[.int .i64 v3, .slice A3 k3.length c3, .int .i64 r3]] (by rfl) rfl rfl (by simp only [List.map_toArray, List.map_cons, List.map_nil]; rfl) ?_
      refine (cantinglaw02_of.calls fu v3 A3 c3 k3 r3 v3 o3 r3 _ (Kd.C_below HCh.out D.bel) hch HO3.out).mono ?_
      rintro e w2 ⟨vv, rfl, hR, hB⟩
      obtain ⟨Ao, co, rfl, _, _⟩ := Kd.R_reads hR
      refine ⟨_, rfl, ?_⟩
      refine hK.out _ _ ((D.below hB).cells) (fun _ => ?_)
      exact norm_ (by simp only [putAll, Act.put, ta_, sz_, ss_, i64_w, i32_w] <;> rfl) (h3_ (s.1, s.2, (Ao, co)) w2 ⟨(D.below hB), Kd.R_below R1 hB, Kd.R_below R2 hB, Kd.R_lower hR D.bel.size⟩)
    refine stepN_ (N := some 9) #[I, I, I, I, I, O, I, O, O, O, O, O] rfl rfl (by kernel_rfl) (by decide) (fun K hK => ?_) ?_
    · refine value_ (w1 := ?_) (v := ?_) (by rfl) rfl ?_ ?_
      rotate_left 2
      · go_simp
        constructor
        · rfl
        · rfl
      refine hK.out _ _ ((D.alloc _).cells) (fun _ => ?_)
      exact norm_ (by simp only [putAll, Act.put, ta_, sz_, ss_, i64_w, i32_w] <;> rfl) (h2_6 (s.1, s.2, w'.heap.size) _ ⟨(D.alloc _), Kd.R_alloc R1 _, Kd.R_alloc R2 _, ⟨blk_new _ _, D.sz⟩⟩)
    refine stepN_ (N := some 10) #[I, I, I, I, I, O, O, I, O, O, O, O] rfl rfl (by kernel_rfl) (by decide) (fun K hK => ?_) ?_
    · refine value_ (w1 := ?_) (v := ?_) (by rfl) rfl ?_ ?_
      rotate_left 2
      · go_simp
        constructor
        · rfl
        · rfl
      refine hK.out _ _ ((D.alloc _).cells) (fun _ => ?_)
      exact norm_ (by simp only [putAll, Act.put, ta_, sz_, ss_, i64_w, i32_w] <;> rfl) (h2_7 (s.1, s.2, w'.heap.size) _ ⟨(D.alloc _), Kd.R_alloc R1 _, Kd.R_alloc R2 _, ⟨blk_new _ _, D.sz⟩⟩)
    refine stepN_ (N := some 11) #[I, I, I, I, I, O, O, O, I, O, O, O] rfl rfl (by kernel_rfl) (by decide) (fun K hK => ?_) ?_
    · refine value_ (w1 := ?_) (v := ?_) (by rfl) rfl ?_ ?_
      rotate_left 2
      · go_simp
        constructor
        · rfl
        · rfl
      refine hK.out _ _ ((D.alloc _).cells) (fun _ => ?_)
      exact norm_ (by simp only [putAll, Act.put, ta_, sz_, ss_, i64_w, i32_w] <;> rfl) (h2_8 (s.1, s.2, w'.heap.size) _ ⟨(D.alloc _), Kd.R_alloc R1 _, Kd.R_alloc R2 _, ⟨blk_new _ _, D.sz⟩⟩)
    exact AllReadyL.nil
  refine join_ (σ := Nat) 8 #[I, O, I, O, I, O, I, O, O, O, O, O] (fun s => [(9, .pointer (some ⟨s, 0, none⟩))]) (fun s w' => (AD w w' v1 r1 A1 c1 k1 v2 r2 A2 c2 k2 v3 r3 A3 c3 k3) ∧ (w'.heap[s]? = some (.cells #[.int .i64 0, .slice none 0 0, .int .i64 0] 28 (0, 0)) ∧ w.heap.size + 3 ≤ s)) ?_ (fun h0_6 => ?_)
  · rintro s w' hF
    obtain ⟨D, ⟨B6, G6⟩⟩ := hF
    refine norm_ (a' := ?_) ?_ ?_
    rotate_left
    · simp only [putAll, Act.put, ta_, sz_, ss_, i64_w, i32_w]
      rfl
    refine readyN_ [1, 7, 8] HT_.out (by kernel_rfl) (by decide) ?_
    refine stepN_ (N := some 43) #[I, I, I, O, I, O, I, O, O, O, O, O] rfl rfl (by kernel_rfl) (by decide) (fun K hK => ?_) ?_
    · refine goes_ Try.func30 (by kernel_rfl) rfl #[.agg #[.int .i64 v1, .slice A1 k1.length c1, .int .i64 r1]] (by rfl) rfl rfl (by simp only [List.map_toArray, List.map_cons, List.map_nil]; rfl) ?_
      refine (cantinglaw02_of.calls fu v1 A1 c1 k1 r1 v1 o1 r1 _ (Kd.C_below HCf.out D.bel) hcf HO1.out).mono ?_
      rintro e w2 ⟨vv, rfl, hR, hB⟩
      obtain ⟨Ao, co, rfl, _, _⟩ := Kd.R_reads hR
      refine ⟨_, rfl, ?_⟩
      refine hK.out _ _ ((D.below hB).cells) (fun _ => ?_)
      exact norm_ (by simp only [putAll, Act.put, ta_, sz_, ss_, i64_w, i32_w] <;> rfl) (h1_6 ((Ao, co), s) w2 ⟨(D.below hB), Kd.R_lower hR D.bel.size, ⟨blk_below B6 hB, G6⟩⟩)
    refine stepN_ (N := some 10) #[I, O, I, O, I, O, I, I, O, O, O, O] rfl rfl (by kernel_rfl) (by decide) (fun K hK => ?_) ?_
    · refine value_ (w1 := ?_) (v := ?_) (by rfl) rfl ?_ ?_
      rotate_left 2
      · go_simp
        constructor
        · rfl
        · rfl
      refine hK.out _ _ ((D.alloc _).cells) (fun _ => ?_)
      exact norm_ (by simp only [putAll, Act.put, ta_, sz_, ss_, i64_w, i32_w] <;> rfl) (h0_67 (s, w'.heap.size) _ ⟨(D.alloc _), ⟨blk_alloc B6 _, G6⟩, ⟨blk_new _ _, D.sz⟩, (Nat.ne_of_lt (blk_lt B6))⟩)
    refine stepN_ (N := some 11) #[I, O, I, O, I, O, I, O, I, O, O, O] rfl rfl (by kernel_rfl) (by decide) (fun K hK => ?_) ?_
    · refine value_ (w1 := ?_) (v := ?_) (by rfl) rfl ?_ ?_
      rotate_left 2
      · go_simp
        constructor
        · rfl
        · rfl
      refine hK.out _ _ ((D.alloc _).cells) (fun _ => ?_)
      exact norm_ (by simp only [putAll, Act.put, ta_, sz_, ss_, i64_w, i32_w] <;> rfl) (h0_68 (s, w'.heap.size) _ ⟨(D.alloc _), ⟨blk_alloc B6 _, G6⟩, ⟨blk_new _ _, D.sz⟩, (Nat.ne_of_lt (blk_lt B6))⟩)
    exact AllReadyL.nil
  refine join_ (σ := Nat) 8 #[I, O, I, O, I, O, O, I, O, O, O, O] (fun s => [(10, .pointer (some ⟨s, 0, none⟩))]) (fun s w' => (AD w w' v1 r1 A1 c1 k1 v2 r2 A2 c2 k2 v3 r3 A3 c3 k3) ∧ (w'.heap[s]? = some (.cells #[.int .i64 0, .slice none 0 0, .int .i64 0] 28 (0, 0)) ∧ w.heap.size + 3 ≤ s)) ?_ (fun h0_7 => ?_)
  · rintro s w' hF
    obtain ⟨D, ⟨B7, G7⟩⟩ := hF
    refine norm_ (a' := ?_) ?_ ?_
    rotate_left
    · simp only [putAll, Act.put, ta_, sz_, ss_, i64_w, i32_w]
      rfl
    refine readyN_ [1, 6, 8] HT_.out (by kernel_rfl) (by decide) ?_
    refine stepN_ (N := some 43) #[I, I, I, O, I, O, O, I, O, O, O, O] rfl rfl (by kernel_rfl) (by decide) (fun K hK => ?_) ?_
    · refine goes_ Try.func30 (by kernel_rfl) rfl #[.agg #[.int .i64 v1, .slice A1 k1.length c1, .int .i64 r1]] (by rfl) rfl rfl (by simp only [List.map_toArray, List.map_cons, List.map_nil]; rfl) ?_
      refine (cantinglaw02_of.calls fu v1 A1 c1 k1 r1 v1 o1 r1 _ (Kd.C_below HCf.out D.bel) hcf HO1.out).mono ?_
      rintro e w2 ⟨vv, rfl, hR, hB⟩
      obtain ⟨Ao, co, rfl, _, _⟩ := Kd.R_reads hR
      refine ⟨_, rfl, ?_⟩
      refine hK.out _ _ ((D.below hB).cells) (fun _ => ?_)
      exact norm_ (by simp only [putAll, Act.put, ta_, sz_, ss_, i64_w, i32_w] <;> rfl) (h1_7 ((Ao, co), s) w2 ⟨(D.below hB), Kd.R_lower hR D.bel.size, ⟨blk_below B7 hB, G7⟩⟩)
    refine stepN_ (N := some 9) #[I, O, I, O, I, O, I, I, O, O, O, O] rfl rfl (by kernel_rfl) (by decide) (fun K hK => ?_) ?_
    · refine value_ (w1 := ?_) (v := ?_) (by rfl) rfl ?_ ?_
      rotate_left 2
      · go_simp
        constructor
        · rfl
        · rfl
      refine hK.out _ _ ((D.alloc _).cells) (fun _ => ?_)
      exact norm_ (by simp only [putAll, Act.put, ta_, sz_, ss_, i64_w, i32_w] <;> rfl) (h0_67 (w'.heap.size, s) _ ⟨(D.alloc _), ⟨blk_new _ _, D.sz⟩, ⟨blk_alloc B7 _, G7⟩, (Nat.ne_of_gt (blk_lt B7))⟩)
    refine stepN_ (N := some 11) #[I, O, I, O, I, O, O, I, I, O, O, O] rfl rfl (by kernel_rfl) (by decide) (fun K hK => ?_) ?_
    · refine value_ (w1 := ?_) (v := ?_) (by rfl) rfl ?_ ?_
      rotate_left 2
      · go_simp
        constructor
        · rfl
        · rfl
      refine hK.out _ _ ((D.alloc _).cells) (fun _ => ?_)
      exact norm_ (by simp only [putAll, Act.put, ta_, sz_, ss_, i64_w, i32_w] <;> rfl) (h0_78 (s, w'.heap.size) _ ⟨(D.alloc _), ⟨blk_alloc B7 _, G7⟩, ⟨blk_new _ _, D.sz⟩, (Nat.ne_of_lt (blk_lt B7))⟩)
    exact AllReadyL.nil
  refine join_ (σ := Nat) 8 #[I, O, I, O, I, O, O, O, I, O, O, O] (fun s => [(11, .pointer (some ⟨s, 0, none⟩))]) (fun s w' => (AD w w' v1 r1 A1 c1 k1 v2 r2 A2 c2 k2 v3 r3 A3 c3 k3) ∧ (w'.heap[s]? = some (.cells #[.int .i64 0, .slice none 0 0, .int .i64 0] 28 (0, 0)) ∧ w.heap.size + 3 ≤ s)) ?_ (fun h0_8 => ?_)
  · rintro s w' hF
    obtain ⟨D, ⟨B8, G8⟩⟩ := hF
    refine norm_ (a' := ?_) ?_ ?_
    rotate_left
    · simp only [putAll, Act.put, ta_, sz_, ss_, i64_w, i32_w]
      rfl
    refine readyN_ [1, 6, 7] HT_.out (by kernel_rfl) (by decide) ?_
    refine stepN_ (N := some 43) #[I, I, I, O, I, O, O, O, I, O, O, O] rfl rfl (by kernel_rfl) (by decide) (fun K hK => ?_) ?_
    · refine goes_ Try.func30 (by kernel_rfl) rfl #[.agg #[.int .i64 v1, .slice A1 k1.length c1, .int .i64 r1]] (by rfl) rfl rfl (by simp only [List.map_toArray, List.map_cons, List.map_nil]; rfl) ?_
      refine (cantinglaw02_of.calls fu v1 A1 c1 k1 r1 v1 o1 r1 _ (Kd.C_below HCf.out D.bel) hcf HO1.out).mono ?_
      rintro e w2 ⟨vv, rfl, hR, hB⟩
      obtain ⟨Ao, co, rfl, _, _⟩ := Kd.R_reads hR
      refine ⟨_, rfl, ?_⟩
      refine hK.out _ _ ((D.below hB).cells) (fun _ => ?_)
      exact norm_ (by simp only [putAll, Act.put, ta_, sz_, ss_, i64_w, i32_w] <;> rfl) (h1_8 ((Ao, co), s) w2 ⟨(D.below hB), Kd.R_lower hR D.bel.size, ⟨blk_below B8 hB, G8⟩⟩)
    refine stepN_ (N := some 9) #[I, O, I, O, I, O, I, O, I, O, O, O] rfl rfl (by kernel_rfl) (by decide) (fun K hK => ?_) ?_
    · refine value_ (w1 := ?_) (v := ?_) (by rfl) rfl ?_ ?_
      rotate_left 2
      · go_simp
        constructor
        · rfl
        · rfl
      refine hK.out _ _ ((D.alloc _).cells) (fun _ => ?_)
      exact norm_ (by simp only [putAll, Act.put, ta_, sz_, ss_, i64_w, i32_w] <;> rfl) (h0_68 (w'.heap.size, s) _ ⟨(D.alloc _), ⟨blk_new _ _, D.sz⟩, ⟨blk_alloc B8 _, G8⟩, (Nat.ne_of_gt (blk_lt B8))⟩)
    refine stepN_ (N := some 10) #[I, O, I, O, I, O, O, I, I, O, O, O] rfl rfl (by kernel_rfl) (by decide) (fun K hK => ?_) ?_
    · refine value_ (w1 := ?_) (v := ?_) (by rfl) rfl ?_ ?_
      rotate_left 2
      · go_simp
        constructor
        · rfl
        · rfl
      refine hK.out _ _ ((D.alloc _).cells) (fun _ => ?_)
      exact norm_ (by simp only [putAll, Act.put, ta_, sz_, ss_, i64_w, i32_w] <;> rfl) (h0_78 (w'.heap.size, s) _ ⟨(D.alloc _), ⟨blk_new _ _, D.sz⟩, ⟨blk_alloc B8 _, G8⟩, (Nat.ne_of_gt (blk_lt B8))⟩)
    exact AllReadyL.nil
  refine join_ (σ := (Option Addr × Nat)) 8 #[I, I, I, O, I, O, O, O, O, O, O, O] (fun s => [(43, .agg #[.int .i64 v1, .slice s.1 o1.length s.2, .int .i64 r1])]) (fun s w' => (AD w w' v1 r1 A1 c1 k1 v2 r2 A2 c2 k2 v3 r3 A3 c3 k3) ∧ (Kd.R k107 107 w' w.heap.size (fun _ => True) (.slice s.1 o1.length s.2) o1)) ?_ (fun h1_ => ?_)
  · rintro s w' hF
    obtain ⟨D, R1⟩ := hF
    refine norm_ (a' := ?_) ?_ ?_
    rotate_left
    · simp only [putAll, Act.put, ta_, sz_, ss_, i64_w, i32_w]
      rfl
    refine readyN_ [3, 6, 7, 8] HT_.out (by kernel_rfl) (by decide) ?_
    refine stepN_ (N := some 45) #[I, I, I, I, I, O, O, O, O, O, O, O] rfl rfl (by kernel_rfl) (by decide) (fun K hK => ?_) ?_
    · refine goes_ Try.func30 (by kernel_rfl) rfl #[.agg #[.int .i64 v2, .slice A2 k2.length c2, .int .i64 r2]] (by rfl) rfl rfl (by simp only [List.map_toArray, List.map_cons, List.map_nil]; rfl) ?_
      refine (cantinglaw02_of.calls fu v2 A2 c2 k2 r2 v2 o2 r2 _ (Kd.C_below HCg.out D.bel) hcg HO2.out).mono ?_
      rintro e w2 ⟨vv, rfl, hR, hB⟩
      obtain ⟨Ao, co, rfl, _, _⟩ := Kd.R_reads hR
      refine ⟨_, rfl, ?_⟩
      refine hK.out _ _ ((D.below hB).cells) (fun _ => ?_)
      exact norm_ (by simp only [putAll, Act.put, ta_, sz_, ss_, i64_w, i32_w] <;> rfl) (h2_ (s, (Ao, co)) w2 ⟨(D.below hB), Kd.R_below R1 hB, Kd.R_lower hR D.bel.size⟩)
    refine stepN_ (N := some 9) #[I, I, I, O, I, O, I, O, O, O, O, O] rfl rfl (by kernel_rfl) (by decide) (fun K hK => ?_) ?_
    · refine value_ (w1 := ?_) (v := ?_) (by rfl) rfl ?_ ?_
      rotate_left 2
      · go_simp
        constructor
        · rfl
        · rfl
      refine hK.out _ _ ((D.alloc _).cells) (fun _ => ?_)
      exact norm_ (by simp only [putAll, Act.put, ta_, sz_, ss_, i64_w, i32_w] <;> rfl) (h1_6 (s, w'.heap.size) _ ⟨(D.alloc _), Kd.R_alloc R1 _, ⟨blk_new _ _, D.sz⟩⟩)
    refine stepN_ (N := some 10) #[I, I, I, O, I, O, O, I, O, O, O, O] rfl rfl (by kernel_rfl) (by decide) (fun K hK => ?_) ?_
    · refine value_ (w1 := ?_) (v := ?_) (by rfl) rfl ?_ ?_
      rotate_left 2
      · go_simp
        constructor
        · rfl
        · rfl
      refine hK.out _ _ ((D.alloc _).cells) (fun _ => ?_)
      exact norm_ (by simp only [putAll, Act.put, ta_, sz_, ss_, i64_w, i32_w] <;> rfl) (h1_7 (s, w'.heap.size) _ ⟨(D.alloc _), Kd.R_alloc R1 _, ⟨blk_new _ _, D.sz⟩⟩)
    refine stepN_ (N := some 11) #[I, I, I, O, I, O, O, O, I, O, O, O] rfl rfl (by kernel_rfl) (by decide) (fun K hK => ?_) ?_
    · refine value_ (w1 := ?_) (v := ?_) (by rfl) rfl ?_ ?_
      rotate_left 2
      · go_simp
        constructor
        · rfl
        · rfl
      refine hK.out _ _ ((D.alloc _).cells) (fun _ => ?_)
      exact norm_ (by simp only [putAll, Act.put, ta_, sz_, ss_, i64_w, i32_w] <;> rfl) (h1_8 (s, w'.heap.size) _ ⟨(D.alloc _), Kd.R_alloc R1 _, ⟨blk_new _ _, D.sz⟩⟩)
    exact AllReadyL.nil
  refine join_ (σ := Unit) 9 #[I, O, I, O, I, O, O, O, O, O, O, O] (fun s => []) (fun s w' => (AD w w' v1 r1 A1 c1 k1 v2 r2 A2 c2 k2 v3 r3 A3 c3 k3)) ?_ (fun h0_ => ?_)
  · rintro s w' hF
    have D := hF
    refine norm_ (a' := ?_) ?_ ?_
    rotate_left
    · simp only [putAll, Act.put, ta_, sz_, ss_, i64_w, i32_w]
      rfl
    refine readyN_ [1, 6, 7, 8] HT_.out (by kernel_rfl) (by decide) ?_
    refine stepN_ (N := some 43) #[I, I, I, O, I, O, O, O, O, O, O, O] rfl rfl (by kernel_rfl) (by decide) (fun K hK => ?_) ?_
    · refine goes_ Try.func30 (by kernel_rfl) rfl #[.agg #[.int .i64 v1, .slice A1 k1.length c1, .int .i64 r1]] (by rfl) rfl rfl (by simp only [List.map_toArray, List.map_cons, List.map_nil]; rfl) ?_
      refine (cantinglaw02_of.calls fu v1 A1 c1 k1 r1 v1 o1 r1 _ (Kd.C_below HCf.out D.bel) hcf HO1.out).mono ?_
      rintro e w2 ⟨vv, rfl, hR, hB⟩
      obtain ⟨Ao, co, rfl, _, _⟩ := Kd.R_reads hR
      refine ⟨_, rfl, ?_⟩
      refine hK.out _ _ ((D.below hB).cells) (fun _ => ?_)
      exact norm_ (by simp only [putAll, Act.put, ta_, sz_, ss_, i64_w, i32_w] <;> rfl) (h1_ (Ao, co) w2 ⟨(D.below hB), Kd.R_lower hR D.bel.size⟩)
    refine stepN_ (N := some 9) #[I, O, I, O, I, O, I, O, O, O, O, O] rfl rfl (by kernel_rfl) (by decide) (fun K hK => ?_) ?_
    · refine value_ (w1 := ?_) (v := ?_) (by rfl) rfl ?_ ?_
      rotate_left 2
      · go_simp
        constructor
        · rfl
        · rfl
      refine hK.out _ _ ((D.alloc _).cells) (fun _ => ?_)
      exact norm_ (by simp only [putAll, Act.put, ta_, sz_, ss_, i64_w, i32_w] <;> rfl) (h0_6 w'.heap.size _ ⟨(D.alloc _), ⟨blk_new _ _, D.sz⟩⟩)
    refine stepN_ (N := some 10) #[I, O, I, O, I, O, O, I, O, O, O, O] rfl rfl (by kernel_rfl) (by decide) (fun K hK => ?_) ?_
    · refine value_ (w1 := ?_) (v := ?_) (by rfl) rfl ?_ ?_
      rotate_left 2
      · go_simp
        constructor
        · rfl
        · rfl
      refine hK.out _ _ ((D.alloc _).cells) (fun _ => ?_)
      exact norm_ (by simp only [putAll, Act.put, ta_, sz_, ss_, i64_w, i32_w] <;> rfl) (h0_7 w'.heap.size _ ⟨(D.alloc _), ⟨blk_new _ _, D.sz⟩⟩)
    refine stepN_ (N := some 11) #[I, O, I, O, I, O, O, O, I, O, O, O] rfl rfl (by kernel_rfl) (by decide) (fun K hK => ?_) ?_
    · refine value_ (w1 := ?_) (v := ?_) (by rfl) rfl ?_ ?_
      rotate_left 2
      · go_simp
        constructor
        · rfl
        · rfl
      refine hK.out _ _ ((D.alloc _).cells) (fun _ => ?_)
      exact norm_ (by simp only [putAll, Act.put, ta_, sz_, ss_, i64_w, i32_w] <;> rfl) (h0_8 w'.heap.size _ ⟨(D.alloc _), ⟨blk_new _ _, D.sz⟩⟩)
    exact AllReadyL.nil
  exact norm_ (by rfl) (h0_ () W0.drew (D0.out.below (below_drew (Below.refl _ _))))
end Go.Proofs.Ytlplphgoldkoeaa.HTab
end

section
set_option linter.unusedVariables false
set_option linter.unusedSimpArgs false
namespace Go.Proofs.Ytlplphgoldkoeaa.HTab
open Go.RowKit Go.Proofs.YtlplphgoldkoeaaW.PrintWords Go.Proofs.YtlplphgoldkoeaaW.PrintLast Go.Proofs.YtlplphgoldkoeaaW.PrintMore Go.Proofs.Ytlplphgoldkoeaa.HMap Go.Proofs.Ytlplphgoldkoeaa.X
set_option linter.unusedVariables false
theorem algebra_any (v1 r1 : Int) (A1 : Option Addr) (c1 : Nat) (k1 : List S106) (v2 r2 : Int) (A2 : Option Addr) (c2 : Nat) (k2 : List S106) (v3 r3 : Int) (A3 : Option Addr) (c3 : Nat) (k3 : List S106) (i : Int) (w : World)
    (hC1 : Kd.C k106 w A1 k1.length k1) (hc1 : k1.length ≤ c1) (hC2 : Kd.C k106 w A2 k2.length k2) (hc2 : k2.length ≤ c2) (hC3 : Kd.C k106 w A3 k3.length k3) (hc3 : k3.length ≤ c3) (n1 : k1.length < 10000000000000) (n2 : k2.length < 10000000000000) (n3 : k3.length < 10000000000000) :
    Calls Try.prog 12 #[.agg #[.int .i64 v1, .slice A1 k1.length c1, .int .i64 r1], .agg #[.int .i64 v2, .slice A2 k2.length c2, .int .i64 r2], .agg #[.int .i64 v3, .slice A3 k3.length c3, .int .i64 r3], .int .i64 i] w fun e w' => e = .returned (.bool true) ∧ Below w.heap.size w w' := by
  have o1 := of_f k1 v1 r1 n1 20000 (by omega)
  have o2 := of_f k2 v2 r2 n2 20000 (by omega)
  have o3 := of_f k3 v3 r3 n3 20000 (by omega)
  have haw := awake_f 20000 (by omega)
  by_cases h : VM v1 (ofL k1) r1 ∧ VM v2 (ofL k2) r2 ∧ v2 = v1 ∧ VM v3 (ofL k3) r3 ∧ v3 = v1
  · obtain ⟨h1, h2, e2, h3, e3⟩ := h
    subst v2
    subst v3
    have l1 := (ofL_vm.1 h1).ofL
    have l2 := (ofL_vm.1 h2).ofL
    have l3 := (ofL_vm.1 h3).ofL
    obtain ⟨it, n0, ab, nc, bc, ac, le, nb, nn, no, sit, sn0, sab, snc, sbc, sac, sle, snb, snn, i1, q2, q3, q4, q5, q6, q7, q8, q9, q10, q11, q12, q13, q14, q15, rfl, m1, m2, m3⟩ := algebra_facts h1 h2 h3
    have ok := own_f (ofL k1) (by have := ofL_len k1; rw [l1.1]; simp; omega) v1 r1 20000 (by have := ofL_len k1; omega)
    rw [l1.1, toR_ofR, ← l1.1] at ok
    have oab := own_f ab (by omega) v1 sab 20000 (by omega)
    have oit := own_f it (by omega) v1 sit 20000 (by omega)
    have ole := own_f le (by omega) v1 sle 20000 (by omega)
    have oze := own_f ([] : List S107) (by simp) v1 0 20000 (by simp)
    have sk := same_f k1 (by omega) v1 r1 20000 (by omega)
    have sab' := same_f (ab.map toR) (by simp; omega) v1 sab 20000 (by simp; omega)
    have sit' := same_f (it.map toR) (by simp; omega) v1 sit 20000 (by simp; omega)
    have sle' := same_f (le.map toR) (by simp; omega) v1 sle 20000 (by simp; omega)
    have sze' := same_f (([] : List S107).map toR) (by simp) v1 0 20000 (by simp)
    have ze := (const_at h1.v0 h1.v12).1
    by_cases hv : v1 = 0
    · exact algebra_calls 20000 v1 v1 v1 r1 r2 r3 A1 A2 A3 c1 c2 c3 k1 k2 k3 w hC1 hC2 hC3 hc1 hc2 hc3 i _ _ _ _ it n0 (ofL k1) ab ab nc it bc le ac le nb nn ab [] [] [] [] [] [] k1 (ab.map toR) (ab.map toR) (it.map toR) (it.map toR) (le.map toR) (le.map toR) (ab.map toR) (([] : List S107).map toR) (([] : List S107).map toR) []
        sit sn0 r1 sab sab snc sit sbc sle sac sle snb snn sab 0 0 0 0 0 0 o1 o2 o3 haw rfl
        (Or.inr ⟨rfl, rfl, ⟨i1, q2, q3, q4, q5, q6, q7, q8, q9, q10, q11, q12, q13, q14, q15, ze, ok, oab, oab, oit, oit, ole, ole, oab, oze, oze, sk, sab', sit', sle', sab', sze', fun e => absurd hv e, fun e => absurd hv e, fun e => absurd hv e, fun e => absurd hv e, fun e => absurd hv e, fun e => absurd hv e, fun e => absurd hv e⟩⟩)
    · obtain ⟨wz, j0, j1⟩ := index_at (i := i) h1.v0 hv h1.v12
      obtain ⟨on, of, son, sof, t1, t2, t3, t4⟩ := shannon_facts h1 j0 j1
      exact algebra_calls 20000 v1 v1 v1 r1 r2 r3 A1 A2 A3 c1 c2 c3 k1 k2 k3 w hC1 hC2 hC3 hc1 hc2 hc3 i _ _ _ _ it n0 (ofL k1) ab ab nc it bc le ac le nb nn ab [] [] _ on of (ofL k1) k1 (ab.map toR) (ab.map toR) (it.map toR) (it.map toR) (le.map toR) (le.map toR) (ab.map toR) (([] : List S107).map toR) (([] : List S107).map toR) k1
        sit sn0 r1 sab sab snc sit sbc sle sac sle snb snn sab 0 0 2 son sof r1 o1 o2 o3 haw rfl
        (Or.inr ⟨rfl, rfl, ⟨i1, q2, q3, q4, q5, q6, q7, q8, q9, q10, q11, q12, q13, q14, q15, ze, ok, oab, oab, oit, oit, ole, ole, oab, oze, oze, sk, sab', sit', sle', sab', sze', fun _ => wz, fun _ => t1, fun _ => t2, fun _ => t3, fun _ => t4, fun _ => ok, fun _ => sk⟩⟩)
  · exact algebra_calls 20000 v1 v2 v3 r1 r2 r3 A1 A2 A3 c1 c2 c3 k1 k2 k3 w hC1 hC2 hC3 hc1 hc2 hc3 i _ _ _ _ [] [] [] [] [] [] [] [] [] [] [] [] [] [] [] [] [] [] [] [] [] [] [] [] [] [] [] [] [] [] [] 0 0 0 0 0 0 0 0 0 0 0 0 0 0 0 0 0 0 0 0 o1 o2 o3 haw rfl
      (Or.inl (ite_f_err (by have := ofL_len k1; omega) (by have := ofL_len k2; omega) (by have := ofL_len k3; omega) h))
end Go.Proofs.Ytlplphgoldkoeaa.HTab
end

section
set_option linter.unusedVariables false
set_option linter.unusedSimpArgs false
namespace Go.Proofs.Ytlplphgoldkoeaa.maskAlgebra
open Go.ChangeShapes Go.WideShapes Go.ChangeAt Go.RowKit Go.Proofs.YtlplphgoldkoeaaW.PrintWords Go.Proofs.Ytlplphgoldkoeaa.HTab Go.Proofs.Ytlplphgoldkoeaa.X
open Go.ChangeMaps (open_string shut_string)
set_option linter.unusedVariables false
theorem own : ownKnob Try.prog.godebug = none := by kernel_rfl
theorem laidOut : laidOutB Try.prog = true := by kernel_rfl
set_option maxRecDepth 100000 in
theorem lifted (os : Os) (started : os.Started) (H : Type) (enc : TypeId × Value → H) :
    ReturnsInHanded {} Try.checked os 12 .any (Rows.maskAlgebraSpec.pre6 enc Try.prog Try.f12 Rows.maskAlgebraRow.domain false) (Rows.maskAlgebraSpec.post enc Try.prog Try.f12 false true false false) := by
  refine returnsInHanded_of_change_sized (C := Try.checked) own started (by kernel_rfl) Try.func12
    (ChangeSpec.witness6 (enc := enc) (C := Try.checked) false ⟨#[], #[.agg #[.int .i64 0, .slice none 0 0, .int .i64 0], .agg #[.int .i64 0, .slice none 0 0, .int .i64 0], .agg #[.int .i64 0, .slice none 0 0, .int .i64 0], .int .i64 0], []⟩ 8 (by kernel_rfl) (by kernel_rfl) (by kernel_rfl) (by kernel_rfl)) ?_
  intro W base args ds gs before hval0 hW hcnd hsz0 _
  have hsz : (DataW.weightsEach Try.prog (Try.f12.params.toList ++ Rows.maskAlgebraSpec.plain.varTypes Try.prog) (ds ++ gs)).all (· ≤ reachBytes) = true := hsz0
  have hval : ∀ (j : Nat) t v, Try.f12.params[j]? = some t → args[j]? = some v → Value.okWide Try.prog W .any base t v := hval0
  have hW' := hW
  obtain ⟨p, q, hA0, hV, rfl, hfz, hnd⟩ := hW
  have hA : DataW.TrodAll enc Try.prog W 0 (fun _ => true) true Try.f12.params.toList args.toList ds p := hA0
  rw [Try.params12] at hA hval hsz
  obtain ⟨v0, vs0, d0, ds0, p0, q0, hargs, rfl, rfl, h0, r0⟩ := trodAll_cons hA
  obtain ⟨v1, vs1, d1, ds1, p1, q1, rfl, rfl, rfl, h1, r1⟩ := trodAll_cons r0
  obtain ⟨v2, vs2, d2, ds2, p2, q2, rfl, rfl, rfl, h2, r2⟩ := trodAll_cons r1
  obtain ⟨v3, vs3, d3, ds3, p3, q3, rfl, rfl, rfl, h3, r3⟩ := trodAll_cons r2
  obtain ⟨rfl, rfl, rfl⟩ := trodAll_nil r3
  obtain rfl : args = #[v0, v1, v2, v3] := by cases args; simp_all
  obtain ⟨rfl, rfl⟩ := trodVars_none hV
  have k0 := h0
  have lt0 : ∀ x ∈ p0, x.block < W.heap.size := by obtain ⟨m, hm⟩ := k0; exact DataW.trod_lt m _ _ _ hm
  obtain ⟨n0, A0, c0, l0, r0_, rfl, C0, L0, B0, wn0, wr0⟩ := open_mask (hval 0 33 v0 rfl rfl) h0 hsz (j := 0) rfl rfl
  have k1 := h1
  have lt1 : ∀ x ∈ p1, x.block < W.heap.size := by obtain ⟨m, hm⟩ := k1; exact DataW.trod_lt m _ _ _ hm
  obtain ⟨n1, A1, c1, l1, r1_, rfl, C1, L1, B1, wn1, wr1⟩ := open_mask (hval 1 33 v1 rfl rfl) h1 hsz (j := 1) rfl rfl
  have k2 := h2
  have lt2 : ∀ x ∈ p2, x.block < W.heap.size := by obtain ⟨m, hm⟩ := k2; exact DataW.trod_lt m _ _ _ hm
  obtain ⟨n2, A2, c2, l2, r2_, rfl, C2, L2, B2, wn2, wr2⟩ := open_mask (hval 2 33 v2 rfl rfl) h2 hsz (j := 2) rfl rfl
  obtain ⟨a3, rfl, rfl, rfl, w3⟩ := open_int Try.underlying3 (hval 3 3 v3 rfl rfl) h3
  clear hA0 hval0 hsz0 hsz
  refine ((algebra_any n0 r0_ A0 c0 l0 n1 r1_ A1 c1 l1 n2 r2_ A2 c2 l2 a3 W C0 L0 C1 L1 C2 L2 B0 B1 B2)).mono fun e W' ⟨he, bel⟩ => ?_
  subst he
  exact ⟨_, rfl, _, _, _, [], _, [], hW', trodAll_mk1 (shut_bool Try.underlying4 _), (trodAll_cons_mk (Below.trod laidOut (by kernel_rfl) (of_decide_eq_true (by kernel_rfl)) k0 bel lt0) (trodAll_cons_mk (Below.trod laidOut (by kernel_rfl) (of_decide_eq_true (by kernel_rfl)) k1 bel lt1) (trodAll_cons_mk (Below.trod laidOut (by kernel_rfl) (of_decide_eq_true (by kernel_rfl)) k2 bel lt2) (trodAll_cons_mk (shut_int Try.underlying3 w3) trodAll_mk0)))), rfl, bel.frame _, fun h => by cases h⟩
theorem over : Rows.maskAlgebraRow.holds Try.pinned (OpenSpec.ofChange Rows.maskAlgebraSpec) :=
  OpenClaim.holds_of_wide 12 Try.f12 rfl rfl rfl rfl rfl rfl rfl ⟨rfl, rfl, rfl, rfl, rfl⟩ rfl rfl rfl rfl rfl (by kernel_rfl) Try.func12 (by kernel_rfl)
    (of_decide_eq_true (by kernel_rfl)) (by unfold Func.isWrapper; first | (rw [if_pos (by decide +kernel)]; kernel_rfl) | (rw [if_neg (by decide +kernel)]; exact ⟨rfl, rfl⟩))
    (fun os started H enc _ => lifted os started H enc)
theorem proved : Rows.MaskAlgebraSaid := over
end Go.Proofs.Ytlplphgoldkoeaa.maskAlgebra
namespace Go.Proofs.Ytlplphgoldkoeaa
theorem maskAlgebra_holds : Rows.MaskAlgebraSaid := maskAlgebra.proved
end Go.Proofs.Ytlplphgoldkoeaa
#print axioms Go.Proofs.Ytlplphgoldkoeaa.maskAlgebra_holds
end
