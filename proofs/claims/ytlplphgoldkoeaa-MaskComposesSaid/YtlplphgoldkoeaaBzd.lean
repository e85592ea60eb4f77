/- Lemmas of the masks: part Bzd. -/
import Derived.Test.YtlplphgoldkoeaaBzb
import Derived.Test.YtlplphgoldkoeaaBt
import Derived.Test.YtlplphgoldkoeaaBc
import Derived.Test.YtlplphgoldkoeaaBe
import Derived.Test.YtlplphgoldkoeaaBq
import Derived.Test.YtlplphgoldkoeaaBk
import Derived.Test.YtlplphgoldkoeaaBzc
section
set_option linter.unusedVariables false
set_option linter.unusedSimpArgs false
namespace Go.Proofs.Ytlplphgoldkoeaa.HTab
open Go.RowKit Go.Proofs.YtlplphgoldkoeaaW.PrintWords Go.Proofs.YtlplphgoldkoeaaW.PrintLast Go.Proofs.YtlplphgoldkoeaaW.PrintMore Go.Proofs.Ytlplphgoldkoeaa.HMap Go.Proofs.Ytlplphgoldkoeaa.X
set_option linter.unusedVariables false
set_option linter.unusedSimpArgs false
theorem rdB_at (l : List Bool) (i : Nat) : rdOf false l (i : Int) = l.getD i false := by simp [rdOf]
theorem fill_all {t acc : List Bool} (hl : acc.length = t.length) (ha : acc.take t.length = t.take t.length) : acc = t := by
  rwa [List.take_of_length_le (by omega), List.take_of_length_le (Nat.le_refl _)] at ha
theorem andNot_bit (P e : Nat) (hP : P < 2 ^ 63) (he : e ≤ 60) : Go.bits .andNot .i64 (P : Int) ((2 ^ e : Nat) : Int) = ((setb e false P : Nat) : Int) := by
  have h2 : 2 ^ e < 2 ^ 63 := Nat.pow_lt_pow_right (by decide) (by omega)
  have h3 : (2 : Nat) ^ 63 < 2 ^ 64 := by decide
  have hs : setb e false P = P &&& (2 ^ 64 - (2 ^ e + 1)) := by
    apply Nat.eq_of_testBit_eq
    intro i
    rw [Nat.testBit_and, Nat.testBit_two_pow_sub_succ (by omega)]
    by_cases hi : e = i
    · subst hi
      have := setb_same e false P
      unfold bitN at this
      rw [this, Nat.testBit_two_pow_self]
      simp
    · have := setb_other e i false P hi
      unfold bitN at this
      rw [this, Nat.testBit_two_pow_of_ne hi]
      by_cases h64 : i < 64
      · simp [h64]
      · have : P.testBit i = false := Nat.testBit_lt_two_pow (Nat.lt_of_lt_of_le hP (Nat.pow_le_pow_right (by decide) (by omega)))
        simp [this]
  have hle : P &&& (2 ^ 64 - (2 ^ e + 1)) ≤ P := Nat.and_le_left
  rw [hs]
  show IntKind.i64.wrap ((BitVec.ofInt 64 (P : Int) &&& ~~~BitVec.ofInt 64 ((2 ^ e : Nat) : Int)).toNat : Int) = _
  rw [BitVec.toNat_and, BitVec.toNat_not, BitVec.ofInt_natCast, BitVec.ofInt_natCast, BitVec.toNat_ofNat, BitVec.toNat_ofNat, Nat.mod_eq_of_lt (by omega), Nat.mod_eq_of_lt (by omega), show 2 ^ 64 - 1 - 2 ^ e = 2 ^ 64 - (2 ^ e + 1) by omega]
  refine wraps_i64 _ (Int.natCast_nonneg _) ?_
  have h4 : ((2 ^ 63 : Nat) : Int) = 2 ^ 63 := pow_cast 63
  omega
theorem or_bit (P e : Nat) (hP : P < 2 ^ 63) (he : e ≤ 60) : Go.bits .or .i64 ((setb e false P : Nat) : Int) ((2 ^ e : Nat) : Int) = ((setb e true P : Nat) : Int) := by
  have h2 : 2 ^ e < 2 ^ 63 := Nat.pow_lt_pow_right (by decide) (by omega)
  rw [(Go.bits_nat .i64 63 (by decide) wraps_i64 _ _ (setb_lt e 63 false P (by omega) hP) h2).2]
  congr 1
  apply Nat.eq_of_testBit_eq
  intro i
  rw [Nat.testBit_or]
  by_cases hi : e = i
  · subst hi
    have h1 := setb_same e true P
    unfold bitN at h1
    rw [h1, Nat.testBit_two_pow_self]
    simp
  · have h1 := setb_other e i true P hi
    have h0 := setb_other e i false P hi
    unfold bitN at h1 h0
    rw [h1, h0, Nat.testBit_two_pow_of_ne hi]
    simp
theorem with_any (v i : Int) (P : Nat) (b : Bool) (hP : P < 4096) (i0 : 0 ≤ i) (i1 : i < v) (v12 : v ≤ 12) : cantingref02_with.f v P i b = some ((setb (v - 1 - i).toNat b P : Nat) : Int) := by
  obtain ⟨e, he⟩ : ∃ e : Nat, v - 1 - i = e := ⟨(v - 1 - i).toNat, by omega⟩
  have e1 : wrap64 (wrap64 (v - 1) - i) = e := by unfold wrap64; omega
  have e2 : shl .i64 1 (e : Int) = ((2 ^ e : Nat) : Int) := by
    have := shl1 (k := (e : Int)) (by omega) (by omega)
    rw [this, Int.toNat_natCast, pow_cast]
  have h63 : (2 : Nat) ^ 63 = 9223372036854775808 := by decide
  unfold cantingref02_with.f
  rw [e1, if_pos (by omega), e2, andNot_bit P e (by omega) (by omega), or_bit P e (by omega) (by omega), he, Int.toNat_natCast]
  cases b <;> simp
end Go.Proofs.Ytlplphgoldkoeaa.HTab
end

section
set_option linter.unusedVariables false
set_option linter.unusedSimpArgs false
namespace Go.Proofs.Ytlplphgoldkoeaa.X
open Go.RowKit Go.Proofs.YtlplphgoldkoeaaW.PrintWords Go.Proofs.YtlplphgoldkoeaaW.PrintLast Go.Proofs.YtlplphgoldkoeaaW.PrintMore
attribute [local go_sem] max2_int min2_int max_two min_two max_three min_three max_four min_four   -- for this text's walks alone
set_option linter.unusedVariables false
set_option linter.unusedSimpArgs false
mutual
def cantingref02_Compose.j0 : Nat → Int → Bool → Int → List (S106) → Int → Int → List (S106) → Int → Option (Int × (List (S106)) × Int × Int)
  | 0, _, _, _, _, _, _, _, _ => none
  | k + 1, x1, x25, x677000, x677001, x677002, x678000, x678001, x678002 => if x25 = true then (some (0, ([] : List (S106)), 0, 2)) else ((cantingref02_table.f k x677000 x677001 x677002).bind fun t680 => ((cantingref02_table.f k x678000 x678001 x678002).bind fun t683 => (if 0 ≤ (t680.length : Int) then (if ((t680.length : Int) : Int).toNat ≤ 281474976710656 then ((some (List.replicate ((t680.length : Int) : Int).toNat false : List Bool)).bind fun y686 => (cantingref02_Compose.l0 k x1 t680 t683 y686 (y686.length : Int) 0 x677000 x677001 x677002)) else (none)) else (none))))
def cantingref02_Compose.l0 : Nat → Int → List Bool → List Bool → List Bool → Int → Int → Int → List (S106) → Int → Option (Int × (List (S106)) × Int × Int)
  | 0, _, _, _, _, _, _, _, _, _ => none
  | k + 1, x1, x8, x9, x10, x35, x36, x677000, x677001, x677002 => if x36 < x35 then (if 0 ≤ x36 then (if x36 < (x9.length : Int) then ((cantingref02_with.f x677000 x36 x1 (rdOf false x9 x36)).bind fun t690 => (if 0 ≤ t690 then (if t690 < (x8.length : Int) then (if x36 < (x10.length : Int) then (cantingref02_Compose.l0 k x1 x8 x9 (x10.set (x36 : Int).toNat (rdOf false x8 t690)) x35 (wrap64 (x36 + 1)) x677000 x677001 x677002) else (none)) else (none)) else (none))) else (none)) else (none)) else ((cantingref02_Of.f x677000 x10).bind fun bt693 => (some (bt693.1, bt693.2.1, bt693.2.2, 0)))
end
def cantingref02_Compose.f (k : Nat) (a0_0 : Int) (l0_1 : List (S106)) (a0_2 : Int) (a1 : Int) (a2_0 : Int) (l2_1 : List (S106)) (a2_2 : Int) : Option (Int × (List (S106)) × Int × Int) := (cantingref02_Both.f a0_0 l0_1 a0_2 a2_0 l2_1 a2_2).bind fun t679 => (if t679 = true then (if a1 < 0 then (cantingref02_Compose.j0 k a1 true a0_0 l0_1 a0_2 a2_0 l2_1 a2_2) else (cantingref02_Compose.j0 k a1 (decide (a1 ≥ a0_0)) a0_0 l0_1 a0_2 a2_0 l2_1 a2_2)) else (cantingref02_Compose.j0 k a1 true a0_0 l0_1 a0_2 a2_0 l2_1 a2_2))
theorem cantingref02_Compose.mono_l : ∀ k, (∀ y0 y1 y2 y3 y4 y5 y6 y7, LeO (cantingref02_Compose.j0 k y0 y1 y2 y3 y4 y5 y6 y7) (cantingref02_Compose.j0 (k + 1) y0 y1 y2 y3 y4 y5 y6 y7)) ∧ (∀ y0 y1 y2 y3 y4 y5 y6 y7 y8, LeO (cantingref02_Compose.l0 k y0 y1 y2 y3 y4 y5 y6 y7 y8) (cantingref02_Compose.l0 (k + 1) y0 y1 y2 y3 y4 y5 y6 y7 y8))
  | 0 => ⟨fun _ _ _ _ _ _ _ _ r h => by simp [cantingref02_Compose.j0] at h, fun _ _ _ _ _ _ _ _ _ r h => by simp [cantingref02_Compose.l0] at h⟩
  | k + 1 => by
    obtain ⟨ih0, ih1⟩ := cantingref02_Compose.mono_l k
    refine ⟨?_, ?_⟩
    · intro y0 y1 y2 y3 y4 y5 y6 y7
      unfold cantingref02_Compose.j0
      repeat' first
      | (with_reducible exact ih0 _ _ _ _ _ _ _ _)
      | (with_reducible exact ih1 _ _ _ _ _ _ _ _ _)
      | (with_reducible exact cantingref02_table.mono _ _ _ _)
      | (with_reducible exact LeO.refl _)
      | (with_reducible exact LeO.none _)
      | (with_reducible refine LeO.ite ?_ ?_)
      | (with_reducible refine LeO.bind ?_ (fun _ => ?_))
      | exact ih0 _ _ _ _ _ _ _ _
      | exact ih1 _ _ _ _ _ _ _ _ _
      | exact cantingref02_table.mono _ _ _ _
      | exact LeO.none _
      | refine LeO.ite ?_ ?_
      | refine LeO.bind ?_ (fun _ => ?_)
    · intro y0 y1 y2 y3 y4 y5 y6 y7 y8
      unfold cantingref02_Compose.l0
      repeat' first
      | (with_reducible exact ih0 _ _ _ _ _ _ _ _)
      | (with_reducible exact ih1 _ _ _ _ _ _ _ _ _)
      | (with_reducible exact cantingref02_table.mono _ _ _ _)
      | (with_reducible exact LeO.refl _)
      | (with_reducible exact LeO.none _)
      | (with_reducible refine LeO.ite ?_ ?_)
      | (with_reducible refine LeO.bind ?_ (fun _ => ?_))
      | exact ih0 _ _ _ _ _ _ _ _
      | exact ih1 _ _ _ _ _ _ _ _ _
      | exact cantingref02_table.mono _ _ _ _
      | exact LeO.none _
      | refine LeO.ite ?_ ?_
      | refine LeO.bind ?_ (fun _ => ?_)
theorem cantingref02_Compose.mono : ∀ a0 a1 a2 a3 a4 a5 a6 k, LeO (cantingref02_Compose.f k a0 a1 a2 a3 a4 a5 a6) (cantingref02_Compose.f (k + 1) a0 a1 a2 a3 a4 a5 a6) := by
  intro a0 a1 a2 a3 a4 a5 a6 k
  obtain ⟨ih0, ih1⟩ := cantingref02_Compose.mono_l k
  unfold cantingref02_Compose.f
  repeat' first
      | (with_reducible exact ih0 _ _ _ _ _ _ _ _)
      | (with_reducible exact ih1 _ _ _ _ _ _ _ _ _)
      | (with_reducible exact cantingref02_table.mono _ _ _ _)
      | (with_reducible exact LeO.refl _)
      | (with_reducible exact LeO.none _)
      | (with_reducible refine LeO.ite ?_ ?_)
      | (with_reducible refine LeO.bind ?_ (fun _ => ?_))
      | exact ih0 _ _ _ _ _ _ _ _
      | exact ih1 _ _ _ _ _ _ _ _ _
      | exact cantingref02_table.mono _ _ _ _
      | exact LeO.none _
      | refine LeO.ite ?_ ?_
      | refine LeO.bind ?_ (fun _ => ?_)
def cantingref02_Compose.T8 : Bool × List (List Nat × List Nat) := (true, [([], []), ([], []), ([], []), ([], []), ([3], [3]), ([], []), ([], []), ([], []), ([], []), ([7, 8], [7, 8]), ([9], [9]), ([4, 5, 6, 10], [4, 5, 6, 10]), ([2, 11], [2, 11]), ([12], [12]), ([0, 1, 0, 1, 2, 3, 4, 5, 6, 7, 8, 9, 10, 11, 12, 13], [0, 1]), ([14, 13, 11, 0, 1, 2, 3, 4, 5, 6, 7, 8, 9, 10, 11, 12, 13], [13, 14])])
def cantingref02_Compose.B8 : List Nat := [0, 0, 0, 0, 8, 0, 0, 0, 0, 384, 896, 2040, 4092, 8188, 16383, 32767]
theorem cantingref02_Compose.tab8 : rtab .any (opsOf Try.f54 8) = cantingref02_Compose.T8 := by kernel_rfl
theorem cantingref02_Compose.bits8 : waitsOk cantingref02_Compose.T8.2 cantingref02_Compose.B8 = true := by kernel_rfl
set_option maxHeartbeats 8000000 in
set_option maxRecDepth 100000 in
theorem cantingref02_Compose.calls (k : Nat) (a0_0 : Int) (A0_1 : Option Addr) (c0_1 : Nat) (l0_1 : List (S106)) (a0_2 : Int) (a1 : Int) (a2_0 : Int) (A2_1 : Option Addr) (c2_1 : Nat) (l2_1 : List (S106)) (a2_2 : Int) (r1 : Int) (r2 : List (S106)) (r3 : Int) (r4 : Int) (w : World) (hr0_1 : Kd.C k106 w A0_1 l0_1.length l0_1) (hc0_1 : l0_1.length ≤ c0_1) (hr2_1 : Kd.C k106 w A2_1 l2_1.length l2_1) (hc2_1 : l2_1.length ≤ c2_1) (h : cantingref02_Compose.f k a0_0 l0_1 a0_2 a1 a2_0 l2_1 a2_2 = some (r1, r2, r3, r4)) :
    Calls Try.prog 54 #[.agg #[.int .i64 a0_0, .slice A0_1 l0_1.length c0_1, .int .i64 a0_2], .int .i64 a1, .agg #[.int .i64 a2_0, .slice A2_1 l2_1.length c2_1, .int .i64 a2_2]] w fun e w' => ∃ v1_ : Value, e = .returned (.tuple #[.agg #[.int .i64 r1, v1_, .int .i64 r3], .int .i64 r4]) ∧ Kd.R k106 106 w' w.heap.size (fun _ => True) v1_ r2 ∧ Below w.heap.size w w' := by
  have hu33 := Try.underlying33
  have HR0_1 := Aside0.mk hr0_1
  have HC0_1 := Aside0.mk hc0_1
  clear hr0_1 hc0_1
  have HR2_1 := Aside0.mk hr2_1
  have HC2_1 := Aside0.mk hc2_1
  clear hr2_1 hc2_1
  have HB := Aside0.mk (Below.refl w.heap.size w)
  have H : ((cantingref02_Both.f a0_0 l0_1 a0_2 a2_0 l2_1 a2_2).bind fun t679 => (if t679 = true then (if a1 < 0 then (cantingref02_Compose.j0 k a1 true a0_0 l0_1 a0_2 a2_0 l2_1 a2_2) else (cantingref02_Compose.j0 k a1 (decide (a1 ≥ a0_0)) a0_0 l0_1 a0_2 a2_0 l2_1 a2_2)) else (cantingref02_Compose.j0 k a1 true a0_0 l0_1 a0_2 a2_0 l2_1 a2_2))) = some (r1, r2, r3, r4) := h
  clear h
  have HC4 := Aside0.mk H
  clear H
  go_enter Try.func54, Try.ntmps54
  go_upto_region 1 with (first | ((with_reducible refine gate_dst (N := 3) rfl ?_); refine box_event ?hg (N := 3) ?hd (cs := #[.int .i64 a0_0, .slice A0_1 l0_1.length c0_1, .int .i64 a0_2]) (t := 33) ?hr ?_; (case hd => rfl); (case hg => rfl); (case hr => first | (go_simp; done) | (go_simp; rfl)); intro gb676 hg w5 hbox hb; have n0_ := Aside0.mk (below_step (by repeat (first | (with_reducible first | exact HB.out | apply below_alloc | apply pw_below_drewN | apply below_drew1) | exact HB.out)) hb); have n1_ := Aside0.mk (hbox); have n2_ := Aside0.mk ((by rw [hg]; exact (below_size (by repeat (first | (with_reducible first | exact HB.out | apply below_alloc | apply pw_below_drewN | apply below_drew1) | exact HB.out))) : w.heap.size ≤ gb676)); have n3_ := Aside0.mk ((by rw [hg]; exact (below_size (by repeat (first | (with_reducible first | exact HB.out | apply below_alloc | apply pw_below_drewN | apply below_drew1) | exact HB.out))) : w.heap.size ≤ gb676)); clear HB; have HB := n0_; have BK676 := n1_; have GW676 := n2_; have GE676 := n3_; clear n0_ n1_ n2_ n3_; clear hb hbox hg) | ((with_reducible refine gate_dst (N := 5) rfl ?_); refine box_event ?hg (N := 5) ?hd (cs := #[.int .i64 a2_0, .slice A2_1 l2_1.length c2_1, .int .i64 a2_2]) (t := 33) ?hr ?_; (case hd => rfl); (case hg => rfl); (case hr => first | (go_simp; done) | (go_simp; rfl)); intro gb677 hg w6 hbox hb; have n0_ := Aside0.mk (blk_below (g := gb676) (o := .cells #[.int .i64 a0_0, .slice A0_1 l0_1.length c0_1, .int .i64 a0_2] 33 (0, 0)) (by (with_reducible repeat (first | refine blk_drewN ?_ _ | refine blk_drew ?_ | refine blk_alloc ?_ _)); exact BK676.out) hb); have n1_ := Aside0.mk (below_step (by repeat (first | (with_reducible first | exact HB.out | apply below_alloc | apply pw_below_drewN | apply below_drew1 | refine below_set ?_ GE676.out) | exact HB.out)) hb); have n2_ := Aside0.mk (hbox); have n3_ := Aside0.mk ((by rw [hg]; exact (below_size (by repeat (first | (with_reducible first | exact HB.out | apply below_alloc | apply pw_below_drewN | apply below_drew1 | refine below_set ?_ GE676.out) | exact HB.out))) : w.heap.size ≤ gb677)); have n4_ := Aside0.mk ((by rw [hg]; exact (below_size (by repeat (first | (with_reducible first | exact HB.out | apply below_alloc | apply pw_below_drewN | apply below_drew1 | refine below_set ?_ GE676.out) | exact HB.out))) : w.heap.size ≤ gb677)); have n5_ := Aside0.mk ((by rw [hg]; exact Nat.ne_of_lt (blk_lt (g := gb676) (o := .cells #[.int .i64 a0_0, .slice A0_1 l0_1.length c0_1, .int .i64 a0_2] 33 (0, 0)) (by (with_reducible repeat (first | refine blk_drewN ?_ _ | refine blk_drew ?_ | refine blk_alloc ?_ _)); exact BK676.out)) : gb676 ≠ gb677)); have n6_ := Aside0.mk ((by rw [hg]; exact Nat.ne_of_gt (blk_lt (g := gb676) (o := .cells #[.int .i64 a0_0, .slice A0_1 l0_1.length c0_1, .int .i64 a0_2] 33 (0, 0)) (by (with_reducible repeat (first | refine blk_drewN ?_ _ | refine blk_drew ?_ | refine blk_alloc ?_ _)); exact BK676.out)) : gb677 ≠ gb676)); clear BK676; clear HB; have BK676 := n0_; have HB := n1_; have BK677 := n2_; have GW677 := n3_; have GE677 := n4_; have NB676_677 := n5_; have NB677_676 := n6_; clear n0_ n1_ n2_ n3_ n4_ n5_ n6_; clear hb hbox hg) | ((with_reducible refine gate_dst (N := 6) rfl ?_); refine box_event ?hg (N := 6) ?hd (cs := #[.int .i64 0, .slice none 0 0, .int .i64 0]) (t := 33) ?hr ?_; (case hd => rfl); (case hg => rfl); (case hr => first | (go_simp; done) | (go_simp; rfl)); intro gb678 hg w7 hbox hb; have n0_ := Aside0.mk (blk_below (g := gb676) (o := .cells #[.int .i64 a0_0, .slice A0_1 l0_1.length c0_1, .int .i64 a0_2] 33 (0, 0)) (by (with_reducible repeat (first | refine blk_drewN ?_ _ | refine blk_drew ?_ | refine blk_alloc ?_ _)); exact BK676.out) hb); have n1_ := Aside0.mk (blk_below (g := gb677) (o := .cells #[.int .i64 a2_0, .slice A2_1 l2_1.length c2_1, .int .i64 a2_2] 33 (0, 0)) (by (with_reducible repeat (first | refine blk_drewN ?_ _ | refine blk_drew ?_ | refine blk_alloc ?_ _)); exact BK677.out) hb); have n2_ := Aside0.mk (below_step (by repeat (first | (with_reducible first | exact HB.out | apply below_alloc | apply pw_below_drewN | apply below_drew1 | refine below_set ?_ GE676.out | refine below_set ?_ GE677.out) | exact HB.out)) hb); have n3_ := Aside0.mk (hbox); have n4_ := Aside0.mk ((by rw [hg]; exact (below_size (by repeat (first | (with_reducible first | exact HB.out | apply below_alloc | apply pw_below_drewN | apply below_drew1 | refine below_set ?_ GE676.out | refine below_set ?_ GE677.out) | exact HB.out))) : w.heap.size ≤ gb678)); have n5_ := Aside0.mk ((by rw [hg]; exact (below_size (by repeat (first | (with_reducible first | exact HB.out | apply below_alloc | apply pw_below_drewN | apply below_drew1 | refine below_set ?_ GE676.out | refine below_set ?_ GE677.out) | exact HB.out))) : w.heap.size ≤ gb678)); have n6_ := Aside0.mk ((by rw [hg]; exact Nat.ne_of_lt (blk_lt (g := gb676) (o := .cells #[.int .i64 a0_0, .slice A0_1 l0_1.length c0_1, .int .i64 a0_2] 33 (0, 0)) (by (with_reducible repeat (first | refine blk_drewN ?_ _ | refine blk_drew ?_ | refine blk_alloc ?_ _)); exact BK676.out)) : gb676 ≠ gb678)); have n7_ := Aside0.mk ((by rw [hg]; exact Nat.ne_of_gt (blk_lt (g := gb676) (o := .cells #[.int .i64 a0_0, .slice A0_1 l0_1.length c0_1, .int .i64 a0_2] 33 (0, 0)) (by (with_reducible repeat (first | refine blk_drewN ?_ _ | refine blk_drew ?_ | refine blk_alloc ?_ _)); exact BK676.out)) : gb678 ≠ gb676)); have n8_ := Aside0.mk ((by rw [hg]; exact Nat.ne_of_lt (blk_lt (g := gb677) (o := .cells #[.int .i64 a2_0, .slice A2_1 l2_1.length c2_1, .int .i64 a2_2] 33 (0, 0)) (by (with_reducible repeat (first | refine blk_drewN ?_ _ | refine blk_drew ?_ | refine blk_alloc ?_ _)); exact BK677.out)) : gb677 ≠ gb678)); have n9_ := Aside0.mk ((by rw [hg]; exact Nat.ne_of_gt (blk_lt (g := gb677) (o := .cells #[.int .i64 a2_0, .slice A2_1 l2_1.length c2_1, .int .i64 a2_2] 33 (0, 0)) (by (with_reducible repeat (first | refine blk_drewN ?_ _ | refine blk_drew ?_ | refine blk_alloc ?_ _)); exact BK677.out)) : gb678 ≠ gb677)); clear BK676; clear BK677; clear HB; have BK676 := n0_; have BK677 := n1_; have HB := n2_; have BK678 := n3_; have GW678 := n4_; have GE678 := n5_; have NB676_678 := n6_; have NB678_676 := n7_; have NB677_678 := n8_; have NB678_677 := n9_; clear n0_ n1_ n2_ n3_ n4_ n5_ n6_ n7_ n8_ n9_; clear hb hbox hg))
  (try simp only [Act.put, List.setIfInBounds_toArray, List.set_cons_zero, List.set_cons_succ])
  go_cut [25] (fun v25 wc => ∃ (kq : Nat) (x25_3 : Bool), v25 = .bool x25_3 ∧ Aside0 (cantingref02_Compose.j0 kq a1 x25_3 a0_0 l0_1 a0_2 a2_0 l2_1 a2_2 = some (r1, r2, r3, r4)) ∧ Aside0 (kq ≤ k) ∧ Aside0 (wc.heap[gb676]? = some (.cells #[.int .i64 a0_0, (.slice A0_1 l0_1.length c0_1), .int .i64 a0_2] 33 (0, 0))) ∧ Aside0 (wc.heap[gb677]? = some (.cells #[.int .i64 a2_0, (.slice A2_1 l2_1.length c2_1), .int .i64 a2_2] 33 (0, 0))) ∧ Aside0 (wc.heap[gb678]? = some (.cells #[.int .i64 0, (.slice none 0 0), .int .i64 0] 33 (0, 0))) ∧ Aside0 (Below w.heap.size w wc))
  case first =>
    have H := HC4.out
    clear HC4
    replace H := Option.bind_eq_some_iff.mp H
    obtain ⟨t679, A80, H⟩ := H
    replace H : (if t679 = true then (if a1 < 0 then (cantingref02_Compose.j0 k a1 true a0_0 l0_1 a0_2 a2_0 l2_1 a2_2) else (cantingref02_Compose.j0 k a1 (decide (a1 ≥ a0_0)) a0_0 l0_1 a0_2 a2_0 l2_1 a2_2)) else (cantingref02_Compose.j0 k a1 true a0_0 l0_1 a0_2 a2_0 l2_1 a2_2)) = some (r1, r2, r3, r4) := H
    have A8 := Aside0.mk A80
    clear A80
    by_cases c9 : t679 = true
    · subst c9
      have H1 : (if a1 < 0 then (cantingref02_Compose.j0 k a1 true a0_0 l0_1 a0_2 a2_0 l2_1 a2_2) else (cantingref02_Compose.j0 k a1 (decide (a1 ≥ a0_0)) a0_0 l0_1 a0_2 a2_0 l2_1 a2_2)) = some (r1, r2, r3, r4) := by rw [if_pos rfl] at H; exact H
      clear H
      have H := H1
      clear H1
      by_cases c10 : a1 < 0
      · rw [if_pos c10] at H
        have c10b0 : decide (a1 < 0) = true := decide_eq_true c10
        (try (have c10b0_0 := c10b0; rw [hl10_2] at c10b0_0))
        clear c10
        (first | rw [c10b0] | (simp only [i64_w, i32_w]; rw [c10b0]) | skip)
        have H' := Aside0.mk H
        clear H
        have hnb11 := NB676_677.out
        have hnc11 := NB677_676.out
        have hnb12 := NB676_678.out
        have hnc12 := NB678_676.out
        have hcz13_0 : w7.cell? ⟨gb676, 0, none⟩ = some (.int .i64 a0_0) := (blk_cell BK676.out 0).trans rfl
        have hcz13_1 : w7.cell? ⟨gb676, 1, none⟩ = some (.slice A0_1 l0_1.length c0_1) := (blk_cell BK676.out 1).trans rfl
        have hcz13_2 : w7.cell? ⟨gb676, 2, none⟩ = some (.int .i64 a0_2) := (blk_cell BK676.out 2).trans rfl
        have hfz13_0 := blk_frozen BK676.out 0
        have hfz13_1 := blk_frozen BK676.out 1
        have hfz13_2 := blk_frozen BK676.out 2
        have hnb14 := NB677_678.out
        have hnc14 := NB678_677.out
        have hcz15_0 : w7.cell? ⟨gb677, 0, none⟩ = some (.int .i64 a2_0) := (blk_cell BK677.out 0).trans rfl
        have hcz15_1 : w7.cell? ⟨gb677, 1, none⟩ = some (.slice A2_1 l2_1.length c2_1) := (blk_cell BK677.out 1).trans rfl
        have hcz15_2 : w7.cell? ⟨gb677, 2, none⟩ = some (.int .i64 a2_2) := (blk_cell BK677.out 2).trans rfl
        have hfz15_0 := blk_frozen BK677.out 0
        have hfz15_1 := blk_frozen BK677.out 1
        have hfz15_2 := blk_frozen BK677.out 2
        go_wp2_with (first | ((with_reducible refine gate_callee (f := 102) rfl ?_); refine goesL_ (some 14) rfl rfl Try.func102 (by kernel_rfl) rfl #[.agg #[.int .i64 a0_0, .slice A0_1 l0_1.length c0_1, .int .i64 a0_2], .agg #[.int .i64 a2_0, .slice A2_1 l2_1.length c2_1, .int .i64 a2_2]] rfl (by (try simp only [List.map_toArray, List.map_cons, List.map_nil]); first | done | rfl | (simp only [List.length_drop, List.length_take]; rfl)) ?_; (with_reducible refine (cantingref02_Both.calls a0_0 _ _ l0_1 a0_2 a2_0 _ _ l2_1 a2_2 true _ ?side1 ?side2 ?side3 ?side4 A8.out).mono ?_); (case side1 => repeat (first | exact (Kd.C_below HR0_1.out HB.out) | (with_reducible refine Kd.C_alloc ?_ _) | (with_reducible refine Kd.C_drewN ?_ _) | (with_reducible refine Kd.C_drew ?_))); (case side2 => exact HC0_1.out); (case side3 => repeat (first | exact (Kd.C_below HR2_1.out HB.out) | (with_reducible refine Kd.C_alloc ?_ _) | (with_reducible refine Kd.C_drewN ?_ _) | (with_reducible refine Kd.C_drew ?_))); (case side4 => exact HC2_1.out); rintro e w16 ⟨rfl, hb⟩; refine ⟨_, rfl, ?_⟩; have n0_ := Aside0.mk (blk_below (g := gb676) (o := .cells #[.int .i64 a0_0, .slice A0_1 l0_1.length c0_1, .int .i64 a0_2] 33 (0, 0)) (by (with_reducible repeat (first | refine blk_drewN ?_ _ | refine blk_drew ?_ | refine blk_alloc ?_ _)); exact BK676.out) hb); have n1_ := Aside0.mk (blk_below (g := gb677) (o := .cells #[.int .i64 a2_0, .slice A2_1 l2_1.length c2_1, .int .i64 a2_2] 33 (0, 0)) (by (with_reducible repeat (first | refine blk_drewN ?_ _ | refine blk_drew ?_ | refine blk_alloc ?_ _)); exact BK677.out) hb); have n2_ := Aside0.mk (blk_below (g := gb678) (o := .cells #[.int .i64 0, .slice none 0 0, .int .i64 0] 33 (0, 0)) (by (with_reducible repeat (first | refine blk_drewN ?_ _ | refine blk_drew ?_ | refine blk_alloc ?_ _)); exact BK678.out) hb); have n3_ := Aside0.mk (below_step (by repeat (first | (with_reducible first | exact HB.out | apply below_alloc | apply pw_below_drewN | apply below_drew1 | refine below_set ?_ GE676.out | refine below_set ?_ GE677.out | refine below_set ?_ GE678.out) | exact HB.out)) hb); clear BK676; clear BK677; clear BK678; clear HB; have BK676 := n0_; have BK677 := n1_; have BK678 := n2_; have HB := n3_; clear n0_ n1_ n2_ n3_; (try clear hb); (try clear hb2); (try clear hk); (try clear hi)))
        go_meet
        case rel => exact ⟨_, (true), (by first | rfl | (simp; done) | (simp [*]; done)), H', ⟨by first | omega | exact Nat.le_refl _⟩, ⟨by (with_reducible repeat (first | refine blk_drewN ?_ _ | refine blk_drew ?_ | refine blk_alloc ?_ _)); exact BK676.out⟩, ⟨by (with_reducible repeat (first | refine blk_drewN ?_ _ | refine blk_drew ?_ | refine blk_alloc ?_ _)); exact BK677.out⟩, ⟨by (with_reducible repeat (first | refine blk_drewN ?_ _ | refine blk_drew ?_ | refine blk_alloc ?_ _)); exact BK678.out⟩, ⟨by repeat (first | (with_reducible first | exact HB.out | apply below_alloc | apply pw_below_drewN | apply below_drew1 | refine below_set ?_ GE676.out | refine below_set ?_ GE677.out | refine below_set ?_ GE678.out) | exact HB.out)⟩⟩
      · rw [if_neg c10] at H
        have c10b0 : decide (a1 < 0) = false := decide_eq_false c10
        (try (have c10b0_0 := c10b0; rw [hl10_2] at c10b0_0))
        clear c10
        (first | rw [c10b0] | (simp only [i64_w, i32_w]; rw [c10b0]) | skip)
        have H' := Aside0.mk H
        clear H
        have hnb17 := NB676_677.out
        have hnc17 := NB677_676.out
        have hnb18 := NB676_678.out
        have hnc18 := NB678_676.out
        have hcz19_0 : w7.cell? ⟨gb676, 0, none⟩ = some (.int .i64 a0_0) := (blk_cell BK676.out 0).trans rfl
        have hcz19_1 : w7.cell? ⟨gb676, 1, none⟩ = some (.slice A0_1 l0_1.length c0_1) := (blk_cell BK676.out 1).trans rfl
        have hcz19_2 : w7.cell? ⟨gb676, 2, none⟩ = some (.int .i64 a0_2) := (blk_cell BK676.out 2).trans rfl
        have hfz19_0 := blk_frozen BK676.out 0
        have hfz19_1 := blk_frozen BK676.out 1
        have hfz19_2 := blk_frozen BK676.out 2
        have hnb20 := NB677_678.out
        have hnc20 := NB678_677.out
        have hcz21_0 : w7.cell? ⟨gb677, 0, none⟩ = some (.int .i64 a2_0) := (blk_cell BK677.out 0).trans rfl
        have hcz21_1 : w7.cell? ⟨gb677, 1, none⟩ = some (.slice A2_1 l2_1.length c2_1) := (blk_cell BK677.out 1).trans rfl
        have hcz21_2 : w7.cell? ⟨gb677, 2, none⟩ = some (.int .i64 a2_2) := (blk_cell BK677.out 2).trans rfl
        have hfz21_0 := blk_frozen BK677.out 0
        have hfz21_1 := blk_frozen BK677.out 1
        have hfz21_2 := blk_frozen BK677.out 2
        go_wp2_with (first | ((with_reducible refine gate_callee (f := 102) rfl ?_); refine goesL_ (some 14) rfl rfl Try.func102 (by kernel_rfl) rfl #[.agg #[.int .i64 a0_0, .slice A0_1 l0_1.length c0_1, .int .i64 a0_2], .agg #[.int .i64 a2_0, .slice A2_1 l2_1.length c2_1, .int .i64 a2_2]] rfl (by (try simp only [List.map_toArray, List.map_cons, List.map_nil]); first | done | rfl | (simp only [List.length_drop, List.length_take]; rfl)) ?_; (with_reducible refine (cantingref02_Both.calls a0_0 _ _ l0_1 a0_2 a2_0 _ _ l2_1 a2_2 true _ ?side1 ?side2 ?side3 ?side4 A8.out).mono ?_); (case side1 => repeat (first | exact (Kd.C_below HR0_1.out HB.out) | (with_reducible refine Kd.C_alloc ?_ _) | (with_reducible refine Kd.C_drewN ?_ _) | (with_reducible refine Kd.C_drew ?_))); (case side2 => exact HC0_1.out); (case side3 => repeat (first | exact (Kd.C_below HR2_1.out HB.out) | (with_reducible refine Kd.C_alloc ?_ _) | (with_reducible refine Kd.C_drewN ?_ _) | (with_reducible refine Kd.C_drew ?_))); (case side4 => exact HC2_1.out); rintro e w22 ⟨rfl, hb⟩; refine ⟨_, rfl, ?_⟩; have n0_ := Aside0.mk (blk_below (g := gb676) (o := .cells #[.int .i64 a0_0, .slice A0_1 l0_1.length c0_1, .int .i64 a0_2] 33 (0, 0)) (by (with_reducible repeat (first | refine blk_drewN ?_ _ | refine blk_drew ?_ | refine blk_alloc ?_ _)); exact BK676.out) hb); have n1_ := Aside0.mk (blk_below (g := gb677) (o := .cells #[.int .i64 a2_0, .slice A2_1 l2_1.length c2_1, .int .i64 a2_2] 33 (0, 0)) (by (with_reducible repeat (first | refine blk_drewN ?_ _ | refine blk_drew ?_ | refine blk_alloc ?_ _)); exact BK677.out) hb); have n2_ := Aside0.mk (blk_below (g := gb678) (o := .cells #[.int .i64 0, .slice none 0 0, .int .i64 0] 33 (0, 0)) (by (with_reducible repeat (first | refine blk_drewN ?_ _ | refine blk_drew ?_ | refine blk_alloc ?_ _)); exact BK678.out) hb); have n3_ := Aside0.mk (below_step (by repeat (first | (with_reducible first | exact HB.out | apply below_alloc | apply pw_below_drewN | apply below_drew1 | refine below_set ?_ GE676.out | refine below_set ?_ GE677.out | refine below_set ?_ GE678.out) | exact HB.out)) hb); clear BK676; clear BK677; clear BK678; clear HB; have BK676 := n0_; have BK677 := n1_; have BK678 := n2_; have HB := n3_; clear n0_ n1_ n2_ n3_; (try clear hb); (try clear hb2); (try clear hk); (try clear hi); have hcz23_0 : w22.cell? ⟨gb676, 0, none⟩ = some (.int .i64 a0_0) := (blk_cell BK676.out 0).trans rfl; have hcz23_1 : w22.cell? ⟨gb676, 1, none⟩ = some (.slice A0_1 l0_1.length c0_1) := (blk_cell BK676.out 1).trans rfl; have hcz23_2 : w22.cell? ⟨gb676, 2, none⟩ = some (.int .i64 a0_2) := (blk_cell BK676.out 2).trans rfl; have hfz23_0 := blk_frozen BK676.out 0; have hfz23_1 := blk_frozen BK676.out 1; have hfz23_2 := blk_frozen BK676.out 2))
        go_meet
        case rel => exact ⟨_, (decide (a1 ≥ a0_0)), (by first | rfl | (simp; done) | (simp [*]; done)), H', ⟨by first | omega | exact Nat.le_refl _⟩, ⟨by (with_reducible repeat (first | refine blk_drewN ?_ _ | refine blk_drew ?_ | refine blk_alloc ?_ _)); exact BK676.out⟩, ⟨by (with_reducible repeat (first | refine blk_drewN ?_ _ | refine blk_drew ?_ | refine blk_alloc ?_ _)); exact BK677.out⟩, ⟨by (with_reducible repeat (first | refine blk_drewN ?_ _ | refine blk_drew ?_ | refine blk_alloc ?_ _)); exact BK678.out⟩, ⟨by repeat (first | (with_reducible first | exact HB.out | apply below_alloc | apply pw_below_drewN | apply below_drew1 | refine below_set ?_ GE676.out | refine below_set ?_ GE677.out | refine below_set ?_ GE678.out) | exact HB.out)⟩⟩
    · replace c9 := Bool.eq_false_iff.mpr c9
      subst c9
      have H1 : (cantingref02_Compose.j0 k a1 true a0_0 l0_1 a0_2 a2_0 l2_1 a2_2) = some (r1, r2, r3, r4) := by rw [if_neg (show ¬ (false = true) by decide)] at H; exact H
      clear H
      have H := H1
      clear H1
      have H' := Aside0.mk H
      clear H
      have hnb24 := NB676_677.out
      have hnc24 := NB677_676.out
      have hnb25 := NB676_678.out
      have hnc25 := NB678_676.out
      have hcz26_0 : w7.cell? ⟨gb676, 0, none⟩ = some (.int .i64 a0_0) := (blk_cell BK676.out 0).trans rfl
      have hcz26_1 : w7.cell? ⟨gb676, 1, none⟩ = some (.slice A0_1 l0_1.length c0_1) := (blk_cell BK676.out 1).trans rfl
      have hcz26_2 : w7.cell? ⟨gb676, 2, none⟩ = some (.int .i64 a0_2) := (blk_cell BK676.out 2).trans rfl
      have hfz26_0 := blk_frozen BK676.out 0
      have hfz26_1 := blk_frozen BK676.out 1
      have hfz26_2 := blk_frozen BK676.out 2
      have hnb27 := NB677_678.out
      have hnc27 := NB678_677.out
      have hcz28_0 : w7.cell? ⟨gb677, 0, none⟩ = some (.int .i64 a2_0) := (blk_cell BK677.out 0).trans rfl
      have hcz28_1 : w7.cell? ⟨gb677, 1, none⟩ = some (.slice A2_1 l2_1.length c2_1) := (blk_cell BK677.out 1).trans rfl
      have hcz28_2 : w7.cell? ⟨gb677, 2, none⟩ = some (.int .i64 a2_2) := (blk_cell BK677.out 2).trans rfl
      have hfz28_0 := blk_frozen BK677.out 0
      have hfz28_1 := blk_frozen BK677.out 1
      have hfz28_2 := blk_frozen BK677.out 2
      go_wp2_with (first | ((with_reducible refine gate_callee (f := 102) rfl ?_); refine goesL_ (some 14) rfl rfl Try.func102 (by kernel_rfl) rfl #[.agg #[.int .i64 a0_0, .slice A0_1 l0_1.length c0_1, .int .i64 a0_2], .agg #[.int .i64 a2_0, .slice A2_1 l2_1.length c2_1, .int .i64 a2_2]] rfl (by (try simp only [List.map_toArray, List.map_cons, List.map_nil]); first | done | rfl | (simp only [List.length_drop, List.length_take]; rfl)) ?_; (with_reducible refine (cantingref02_Both.calls a0_0 _ _ l0_1 a0_2 a2_0 _ _ l2_1 a2_2 false _ ?side1 ?side2 ?side3 ?side4 A8.out).mono ?_); (case side1 => repeat (first | exact (Kd.C_below HR0_1.out HB.out) | (with_reducible refine Kd.C_alloc ?_ _) | (with_reducible refine Kd.C_drewN ?_ _) | (with_reducible refine Kd.C_drew ?_))); (case side2 => exact HC0_1.out); (case side3 => repeat (first | exact (Kd.C_below HR2_1.out HB.out) | (with_reducible refine Kd.C_alloc ?_ _) | (with_reducible refine Kd.C_drewN ?_ _) | (with_reducible refine Kd.C_drew ?_))); (case side4 => exact HC2_1.out); rintro e w29 ⟨rfl, hb⟩; refine ⟨_, rfl, ?_⟩; have n0_ := Aside0.mk (blk_below (g := gb676) (o := .cells #[.int .i64 a0_0, .slice A0_1 l0_1.length c0_1, .int .i64 a0_2] 33 (0, 0)) (by (with_reducible repeat (first | refine blk_drewN ?_ _ | refine blk_drew ?_ | refine blk_alloc ?_ _)); exact BK676.out) hb); have n1_ := Aside0.mk (blk_below (g := gb677) (o := .cells #[.int .i64 a2_0, .slice A2_1 l2_1.length c2_1, .int .i64 a2_2] 33 (0, 0)) (by (with_reducible repeat (first | refine blk_drewN ?_ _ | refine blk_drew ?_ | refine blk_alloc ?_ _)); exact BK677.out) hb); have n2_ := Aside0.mk (blk_below (g := gb678) (o := .cells #[.int .i64 0, .slice none 0 0, .int .i64 0] 33 (0, 0)) (by (with_reducible repeat (first | refine blk_drewN ?_ _ | refine blk_drew ?_ | refine blk_alloc ?_ _)); exact BK678.out) hb); have n3_ := Aside0.mk (below_step (by repeat (first | (with_reducible first | exact HB.out | apply below_alloc | apply pw_below_drewN | apply below_drew1 | refine below_set ?_ GE676.out | refine below_set ?_ GE677.out | refine below_set ?_ GE678.out) | exact HB.out)) hb); clear BK676; clear BK677; clear BK678; clear HB; have BK676 := n0_; have BK677 := n1_; have BK678 := n2_; have HB := n3_; clear n0_ n1_ n2_ n3_; (try clear hb); (try clear hb2); (try clear hk); (try clear hi)))
      go_meet
      case rel => exact ⟨_, (true), (by first | rfl | (simp; done) | (simp [*]; done)), H', ⟨by first | omega | exact Nat.le_refl _⟩, ⟨by (with_reducible repeat (first | refine blk_drewN ?_ _ | refine blk_drew ?_ | refine blk_alloc ?_ _)); exact BK676.out⟩, ⟨by (with_reducible repeat (first | refine blk_drewN ?_ _ | refine blk_drew ?_ | refine blk_alloc ?_ _)); exact BK677.out⟩, ⟨by (with_reducible repeat (first | refine blk_drewN ?_ _ | refine blk_drew ?_ | refine blk_alloc ?_ _)); exact BK678.out⟩, ⟨by repeat (first | (with_reducible first | exact HB.out | apply below_alloc | apply pw_below_drewN | apply below_drew1 | refine below_set ?_ GE676.out | refine below_set ?_ GE677.out | refine below_set ?_ GE678.out) | exact HB.out)⟩⟩
  case rest =>
    clear HC4
    try clear c1
    try clear c2
    try clear p2
    try clear c5
    try clear c9
    try clear c10
    try clear c10b0
    try clear c11
    try clear c12
    try clear c14
    try clear c17
    try clear c18
    try clear c20
    try clear c24
    try clear c25
    try clear c27
    try clear hcz13_0
    try clear hcz13_1
    try clear hcz13_2
    try clear hcz15_0
    try clear hcz15_1
    try clear hcz15_2
    try clear hcz19_0
    try clear hcz19_1
    try clear hcz19_2
    try clear hcz21_0
    try clear hcz21_1
    try clear hcz21_2
    try clear hcz23_0
    try clear hcz23_1
    try clear hcz23_2
    try clear hcz26_0
    try clear hcz26_1
    try clear hcz26_2
    try clear hcz28_0
    try clear hcz28_1
    try clear hcz28_2
    try clear hfz13_0
    try clear hfz13_1
    try clear hfz13_2
    try clear hfz15_0
    try clear hfz15_1
    try clear hfz15_2
    try clear hfz19_0
    try clear hfz19_1
    try clear hfz19_2
    try clear hfz21_0
    try clear hfz21_1
    try clear hfz21_2
    try clear hfz23_0
    try clear hfz23_1
    try clear hfz23_2
    try clear hfz26_0
    try clear hfz26_1
    try clear hfz26_2
    try clear hfz28_0
    try clear hfz28_1
    try clear hfz28_2
    obtain ⟨kq, x25_3, rfl, HA, HJ3, BK676, BK677, BK678, HB⟩ := hcut
    cases kq with
    | zero => exact absurd HA.out (by simp [cantingref02_Compose.j0])
    | succ kj3 =>
      have H := HA.out
      clear HA
      simp only [cantingref02_Compose.j0] at H
      by_cases c30 : x25_3 = true
      · subst c30
        have H1 : (some (0, ([] : List (S106)), 0, 2)) = some (r1, r2, r3, r4) := by rw [if_pos rfl] at H; exact H
        clear H
        have H := H1
        clear H1
        simp only [Option.some.injEq, Prod.mk.injEq] at H
        obtain ⟨rfl, rfl, rfl, rfl⟩ := H
        have hnb31 := NB678_676.out
        have hnc31 := NB676_678.out
        have hnb32 := NB678_677.out
        have hnc32 := NB677_678.out
        have hcz33_0 : wc.cell? ⟨gb678, 0, none⟩ = some (.int .i64 0) := (blk_cell BK678.out 0).trans rfl
        have hcz33_1 : wc.cell? ⟨gb678, 1, none⟩ = some (.slice none 0 0) := (blk_cell BK678.out 1).trans rfl
        have hcz33_2 : wc.cell? ⟨gb678, 2, none⟩ = some (.int .i64 0) := (blk_cell BK678.out 2).trans rfl
        have hfz33_0 := blk_frozen BK678.out 0
        have hfz33_1 := blk_frozen BK678.out 1
        have hfz33_2 := blk_frozen BK678.out 2
        go_wp2
        refine bodyPost_ret (results_ct rfl _ _ gb678 33 #[.int .i64 0, .slice none 0 0, .int .i64 0] (0, 0) _ rfl (by (with_reducible repeat (first | refine blk_drewN ?_ _ | refine blk_drew ?_ | refine blk_alloc ?_ _)); refine blk_put (cs := #[.int .i64 0, .slice none 0 0, .int .i64 0]) ?_ 2 _ rfl; (with_reducible repeat (first | refine blk_drewN ?_ _ | refine blk_drew ?_ | refine blk_alloc ?_ _)); refine blk_put (cs := #[.int .i64 0, .slice none 0 0, .int .i64 0]) ?_ 1 _ rfl; (with_reducible repeat (first | refine blk_drewN ?_ _ | refine blk_drew ?_ | refine blk_alloc ?_ _)); refine blk_put (cs := #[.int .i64 0, .slice none 0 0, .int .i64 0]) ?_ 0 _ rfl; (with_reducible repeat (first | refine blk_drewN ?_ _ | refine blk_drew ?_ | refine blk_alloc ?_ _)); exact BK678.out) Try.underlying33 rfl (by kernel_rfl)) rfl ?_
        exact ⟨_, by first | rfl | (simp [errW_none, errW_some] <;> rfl) | (simp [*, errW_none, errW_some] <;> rfl), by first | exact Kd.R_nil _ _ _ _ _ | exact Kd.N_nil _ _ _ _ _ | exact Kd.V_nil _ _ _ _ _ | exact Kd.Q_nil _ _ _ _ _ | exact Kd.S_nil _ _ _ _ _, by repeat (first | (with_reducible first | exact HB.out | apply below_alloc | apply pw_below_drewN | apply below_drew1 | refine below_set ?_ GE676.out | refine below_set ?_ GE677.out | refine below_set ?_ GE678.out) | exact HB.out)⟩
      · replace c30 := Bool.eq_false_iff.mpr c30
        subst c30
        have H1 : ((cantingref02_table.f kj3 a0_0 l0_1 a0_2).bind fun t680 => ((cantingref02_table.f kj3 a2_0 l2_1 a2_2).bind fun t683 => (if 0 ≤ (t680.length : Int) then (if ((t680.length : Int) : Int).toNat ≤ 281474976710656 then ((some (List.replicate ((t680.length : Int) : Int).toNat false : List Bool)).bind fun y686 => (cantingref02_Compose.l0 kj3 a1 t680 t683 y686 (y686.length : Int) 0 a0_0 l0_1 a0_2)) else (none)) else (none)))) = some (r1, r2, r3, r4) := by rw [if_neg (show ¬ (false = true) by decide)] at H; exact H
        clear H
        have H := H1
        clear H1
        replace H := Option.bind_eq_some_iff.mp H
        obtain ⟨t680, A340, H⟩ := H
        replace H : ((cantingref02_table.f kj3 a2_0 l2_1 a2_2).bind fun t683 => (if 0 ≤ (t680.length : Int) then (if ((t680.length : Int) : Int).toNat ≤ 281474976710656 then ((some (List.replicate ((t680.length : Int) : Int).toNat false : List Bool)).bind fun y686 => (cantingref02_Compose.l0 kj3 a1 t680 t683 y686 (y686.length : Int) 0 a0_0 l0_1 a0_2)) else (none)) else (none))) = some (r1, r2, r3, r4) := H
        have A34 := Aside0.mk A340
        clear A340
        replace H := Option.bind_eq_some_iff.mp H
        obtain ⟨t683, A350, H⟩ := H
        replace H : (if 0 ≤ (t680.length : Int) then (if ((t680.length : Int) : Int).toNat ≤ 281474976710656 then ((some (List.replicate ((t680.length : Int) : Int).toNat false : List Bool)).bind fun y686 => (cantingref02_Compose.l0 kj3 a1 t680 t683 y686 (y686.length : Int) 0 a0_0 l0_1 a0_2)) else (none)) else (none)) = some (r1, r2, r3, r4) := H
        have A35 := Aside0.mk A350
        clear A350
        by_cases c36 : 0 ≤ (t680.length : Int)
        · rw [if_pos c36] at H
          have c36b0 := eq_true c36
          (try (have c36b0_0 := c36b0; rw [hl10_2] at c36b0_0))
          have c36b1 : decide (0 ≤ (t680.length : Int)) = true := decide_eq_true c36
          (try (have c36b1_0 := c36b1; rw [hl10_2] at c36b1_0))
          clear c36
          by_cases c37 : ((t680.length : Int) : Int).toNat ≤ 281474976710656
          · rw [if_pos c37] at H
            have c37b0 := eq_true c37
            (try (have c37b0_0 := c37b0; rw [hl10_2] at c37b0_0))
            have c37b1 : decide (((t680.length : Int) : Int).toNat ≤ 281474976710656) = true := decide_eq_true c37
            (try (have c37b1_0 := c37b1; rw [hl10_2] at c37b1_0))
            clear c37
            obtain ⟨y686, hy686⟩ : ∃ y_ : List Bool, y_ = (List.replicate ((t680.length : Int) : Int).toNat false) := ⟨_, rfl⟩
            replace H : (cantingref02_Compose.l0 kj3 a1 t680 t683 y686 (y686.length : Int) 0 a0_0 l0_1 a0_2) = some (r1, r2, r3, r4) := by first | (rw [hy686]; with_reducible exact H) | (have H2_ := (Option.bind_some _ _).symm.trans H; rw [hy686]; with_reducible exact H2_) | (have H2_ := (Option.bind_some _ _).symm.trans H; with_reducible exact H2_) | with_reducible exact H | (rw [hy686]; exact H) | exact H
            have Ny686 := Aside0.mk hy686
            clear hy686
            have H' := Aside0.mk H
            clear H
            try go_wp2
            have n0_ := Aside0.mk (blk_drew BK676.out)
            have n1_ := Aside0.mk (blk_drew BK677.out)
            have n2_ := Aside0.mk (blk_drew BK678.out)
            have n3_ := Aside0.mk (below_drew1 HB.out)
            clear BK676
            clear BK677
            clear BK678
            clear HB
            have BK676 := n0_
            have BK677 := n1_
            have BK678 := n2_
            have HB := n3_
            clear n0_ n1_ n2_ n3_
            refine start_ (n := 6) (S := fun w' => w'.cell? ⟨gb676, 0, none⟩ = some (.int .i64 a0_0) ∧ w'.cell? ⟨gb676, 1, none⟩ = some (.slice A0_1 l0_1.length c0_1) ∧ w'.cell? ⟨gb676, 2, none⟩ = some (.int .i64 a0_2) ∧ w'.cell? ⟨gb677, 0, none⟩ = some (.int .i64 a2_0) ∧ w'.cell? ⟨gb677, 1, none⟩ = some (.slice A2_1 l2_1.length c2_1) ∧ w'.cell? ⟨gb677, 2, none⟩ = some (.int .i64 a2_2)) (ds := []) #[false, false, false, false, false, false] (by kernel_rfl) rfl rfl ⟨(blk_cell BK676.out 0).trans rfl, (blk_cell BK676.out 1).trans rfl, (blk_cell BK676.out 2).trans rfl, (blk_cell BK677.out 0).trans rfl, (blk_cell BK677.out 1).trans rfl, (blk_cell BK677.out 2).trans rfl⟩ (fun hHeld => ?_)
            generalize wc.drew = w38 at BK676 BK677 BK678 HB hHeld ⊢
            refine take_ (i := 0) (N := some 27) (v := ?_) (a' := ?_) #[true, false, false, false, false, false] rfl rfl (by kernel_rfl) (fun _ _ _ h => h) (Or.inl ⟨by rfl, ?_⟩) hHeld ?_ ?_
            rotate_left
            · rintro w' ⟨s0, s1, s2, s3, s4, s5⟩
              go_simp
              with_reducible rfl
            rotate_left
            · simp only [Act.put, List.setIfInBounds_toArray, List.set_cons_zero, List.set_cons_succ, i64_w, i32_w]
              rfl
            refine take_ (i := 2) (N := some 29) (v := ?_) (a' := ?_) #[true, false, true, false, false, false] rfl rfl (by kernel_rfl) (fun _ _ _ h => h) (Or.inl ⟨by rfl, ?_⟩) hHeld ?_ ?_
            rotate_left
            · rintro w' ⟨s0, s1, s2, s3, s4, s5⟩
              go_simp
              with_reducible rfl
            rotate_left
            · simp only [Act.put, List.setIfInBounds_toArray, List.set_cons_zero, List.set_cons_succ, i64_w, i32_w]
              rfl
            refine one_ (i := 1) (N := some 28) #[true, true, true, false, false, false] rfl rfl (by kernel_rfl) (by decide) (fun K hK => ?_)
            refine goes_ Try.func93 (by kernel_rfl) rfl #[.agg #[.int .i64 a0_0, .slice A0_1 l0_1.length c0_1, .int .i64 a0_2]] (by rfl) rfl rfl (by (try simp only [List.map_toArray, List.map_cons, List.map_nil]); first | done | rfl | (simp only [List.length_drop, List.length_take]; rfl)) ?_
            with_reducible refine (cantingref02_table.calls kj3 a0_0 _ _ l0_1 a0_2 t680 _ ?side1 ?side2 A34.out).mono ?_
            (case side1 => repeat (first | exact (Kd.C_below HR0_1.out HB.out) | (with_reducible refine Kd.C_alloc ?_ _) | (with_reducible refine Kd.C_drewN ?_ _) | (with_reducible refine Kd.C_drew ?_)))
            (case side2 => exact HC0_1.out)
            rintro e w39 ⟨v681, rfl, ho0, hb⟩
            refine ⟨_, rfl, ?_⟩
            have n0_ := Aside0.mk (Kd.R_lower ho0 (below_size (by repeat (first | (with_reducible first | exact HB.out | apply below_alloc | apply pw_below_drewN | apply below_drew1 | refine below_set ?_ GE676.out | refine below_set ?_ GE677.out | refine below_set ?_ GE678.out) | exact HB.out))))
            have n1_ := Aside0.mk (blk_below (g := gb676) (o := .cells #[.int .i64 a0_0, .slice A0_1 l0_1.length c0_1, .int .i64 a0_2] 33 (0, 0)) (by (with_reducible repeat (first | refine blk_drewN ?_ _ | refine blk_drew ?_ | refine blk_alloc ?_ _)); exact BK676.out) hb)
            have n2_ := Aside0.mk (blk_below (g := gb677) (o := .cells #[.int .i64 a2_0, .slice A2_1 l2_1.length c2_1, .int .i64 a2_2] 33 (0, 0)) (by (with_reducible repeat (first | refine blk_drewN ?_ _ | refine blk_drew ?_ | refine blk_alloc ?_ _)); exact BK677.out) hb)
            have n3_ := Aside0.mk (blk_below (g := gb678) (o := .cells #[.int .i64 0, .slice none 0 0, .int .i64 0] 33 (0, 0)) (by (with_reducible repeat (first | refine blk_drewN ?_ _ | refine blk_drew ?_ | refine blk_alloc ?_ _)); exact BK678.out) hb)
            have n4_ := Aside0.mk (below_step (by repeat (first | (with_reducible first | exact HB.out | apply below_alloc | apply pw_below_drewN | apply below_drew1 | refine below_set ?_ GE676.out | refine below_set ?_ GE677.out | refine below_set ?_ GE678.out) | exact HB.out)) hb)
            clear BK676
            clear BK677
            clear BK678
            clear HB
            have HO682 := n0_
            have BK676 := n1_
            have BK677 := n2_
            have BK678 := n3_
            have HB := n4_
            clear n0_ n1_ n2_ n3_ n4_
            (try clear hb)
            (try clear hb2)
            (try clear hk)
            (try clear hi)
            (try clear ho0)
            refine hK.out _ _ ⟨(blk_cell BK676.out 0).trans rfl, (blk_cell BK676.out 1).trans rfl, (blk_cell BK676.out 2).trans rfl, (blk_cell BK677.out 0).trans rfl, (blk_cell BK677.out 1).trans rfl, (blk_cell BK677.out 2).trans rfl⟩ (fun hHeld => ?_)
            clear hK K
            refine norm_ (a' := ?_) ?_ ?_
            rotate_left
            · show Act.put _ (some 28) _ = _
              simp only [Act.put, List.setIfInBounds_toArray, List.set_cons_zero, List.set_cons_succ, i64_w, i32_w]
              rfl
            refine one_ (i := 3) (N := some 30) #[true, true, true, true, false, false] rfl rfl (by kernel_rfl) (by decide) (fun K hK => ?_)
            refine goes_ Try.func93 (by kernel_rfl) rfl #[.agg #[.int .i64 a2_0, .slice A2_1 l2_1.length c2_1, .int .i64 a2_2]] (by rfl) rfl rfl (by (try simp only [List.map_toArray, List.map_cons, List.map_nil]); first | done | rfl | (simp only [List.length_drop, List.length_take]; rfl)) ?_
            with_reducible refine (cantingref02_table.calls kj3 a2_0 _ _ l2_1 a2_2 t683 _ ?side1 ?side2 A35.out).mono ?_
            (case side1 => repeat (first | exact (Kd.C_below HR2_1.out HB.out) | (with_reducible refine Kd.C_alloc ?_ _) | (with_reducible refine Kd.C_drewN ?_ _) | (with_reducible refine Kd.C_drew ?_)))
            (case side2 => exact HC2_1.out)
            rintro e w40 ⟨v684, rfl, ho0, hb⟩
            refine ⟨_, rfl, ?_⟩
            have n0_ := Aside0.mk (Kd.R_elder' (by (with_reducible repeat (first | apply Kd.R_alloc | apply Kd.R_drewN | apply Kd.R_drew)); exact HO682.out) (Kd.R_base ho0) hb)
            have n1_ := Aside0.mk (Kd.R_lower (Kd.R_new' ho0 (Kd.R_lt (by (with_reducible repeat (first | apply Kd.R_alloc | apply Kd.R_drewN | apply Kd.R_drew)); exact HO682.out))) (below_size (by repeat (first | (with_reducible first | exact HB.out | apply below_alloc | apply pw_below_drewN | apply below_drew1 | refine below_set ?_ GE676.out | refine below_set ?_ GE677.out | refine below_set ?_ GE678.out) | exact HB.out))))
            have n2_ := Aside0.mk (blk_below (g := gb676) (o := .cells #[.int .i64 a0_0, .slice A0_1 l0_1.length c0_1, .int .i64 a0_2] 33 (0, 0)) (by (with_reducible repeat (first | refine blk_drewN ?_ _ | refine blk_drew ?_ | refine blk_alloc ?_ _)); exact BK676.out) hb)
            have n3_ := Aside0.mk (blk_below (g := gb677) (o := .cells #[.int .i64 a2_0, .slice A2_1 l2_1.length c2_1, .int .i64 a2_2] 33 (0, 0)) (by (with_reducible repeat (first | refine blk_drewN ?_ _ | refine blk_drew ?_ | refine blk_alloc ?_ _)); exact BK677.out) hb)
            have n4_ := Aside0.mk (blk_below (g := gb678) (o := .cells #[.int .i64 0, .slice none 0 0, .int .i64 0] 33 (0, 0)) (by (with_reducible repeat (first | refine blk_drewN ?_ _ | refine blk_drew ?_ | refine blk_alloc ?_ _)); exact BK678.out) hb)
            have n5_ := Aside0.mk (below_step (by repeat (first | (with_reducible first | exact HB.out | apply below_alloc | apply pw_below_drewN | apply below_drew1 | refine below_set ?_ GE676.out | refine below_set ?_ GE677.out | refine below_set ?_ GE678.out) | exact HB.out)) hb)
            clear HO682
            clear BK676
            clear BK677
            clear BK678
            clear HB
            have HO682 := n0_
            have HO685 := n1_
            have BK676 := n2_
            have BK677 := n3_
            have BK678 := n4_
            have HB := n5_
            clear n0_ n1_ n2_ n3_ n4_ n5_
            (try clear hb)
            (try clear hb2)
            (try clear hk)
            (try clear hi)
            (try clear ho0)
            refine hK.out _ _ ⟨(blk_cell BK676.out 0).trans rfl, (blk_cell BK676.out 1).trans rfl, (blk_cell BK676.out 2).trans rfl, (blk_cell BK677.out 0).trans rfl, (blk_cell BK677.out 1).trans rfl, (blk_cell BK677.out 2).trans rfl⟩ (fun hHeld => ?_)
            clear hK K
            refine norm_ (a' := ?_) ?_ ?_
            rotate_left
            · show Act.put _ (some 30) _ = _
              simp only [Act.put, List.setIfInBounds_toArray, List.set_cons_zero, List.set_cons_succ, i64_w, i32_w]
              rfl
            refine pure_ (i := 4) (N := some 8) (v := ?_) (a' := ?_) #[true, true, true, true, true, false] rfl rfl (by kernel_rfl) (fun _ _ _ h => h) (Or.inl ⟨by rfl, ?_⟩) ?_ ?_
            rotate_left
            · intro w'
              go_simp
              with_reducible rfl
            rotate_left
            · simp only [Act.put, List.setIfInBounds_toArray, List.set_cons_zero, List.set_cons_succ, i64_w, i32_w]
              rfl
            refine pure_ (i := 5) (N := some 9) (v := ?_) (a' := ?_) #[true, true, true, true, true, true] rfl rfl (by kernel_rfl) (fun _ _ _ h => h) (Or.inl ⟨by rfl, ?_⟩) ?_ ?_
            rotate_left
            · intro w'
              go_simp
              with_reducible rfl
            rotate_left
            · simp only [Act.put, List.setIfInBounds_toArray, List.set_cons_zero, List.set_cons_succ, i64_w, i32_w]
              rfl
            refine done_ (by kernel_rfl) ?_
            obtain ⟨Ao41, co41, eo41⟩ := Kd.R_slice HO682.out
            subst eo41
            try go_wp2_with (first | ((with_reducible refine gate_dst (N := 33) rfl ?_); refine Kd.R_make Kd.bool _ 4 rfl (N := 33) rfl 47 _ _ rfl (t680.length : Int) rfl rfl Try.underlying47 (.bool false) 1 info4 rfl (by decide) (by omega) false (ok := fun _ => True) (okp := fun _ => True) rfl (fun _ hk => hk) trivial (of_decide_eq_true (by first | (with_reducible assumption) | assumption)) (Nat.le_trans (Nat.mul_le_mul_right _ (of_decide_eq_true (by first | (with_reducible assumption) | assumption) : (t680.length : Int).toNat ≤ 281474976710656)) (by omega)) (Below.refl _ _) (Nat.le_refl _) ?_; intro v687 w42 ho43 hb hg_ hnew_; clear hg_ hnew_; (first | rw [← Ny686.out] at ho43 | (simp only [Int.reduceToNat] at ho43; rw [← Ny686.out] at ho43)); have n0_ := Aside0.mk (Kd.R_elder' (by (with_reducible repeat (first | apply Kd.R_alloc | apply Kd.R_drewN | apply Kd.R_drew)); exact HO682.out) (Kd.R_base ho43) hb); have n1_ := Aside0.mk (Kd.R_elder' (by (with_reducible repeat (first | apply Kd.R_alloc | apply Kd.R_drewN | apply Kd.R_drew)); exact HO685.out) (Kd.R_base ho43) hb); have n2_ := Aside0.mk (Kd.R_lower (Kd.R_new' (Kd.R_new' ho43 (Kd.R_lt (by (with_reducible repeat (first | apply Kd.R_alloc | apply Kd.R_drewN | apply Kd.R_drew)); exact HO682.out))) (Kd.R_lt (by (with_reducible repeat (first | apply Kd.R_alloc | apply Kd.R_drewN | apply Kd.R_drew)); exact HO685.out))) (below_size (by repeat (first | (with_reducible first | exact HB.out | apply below_alloc | apply pw_below_drewN | apply below_drew1 | refine below_set ?_ GE676.out | refine below_set ?_ GE677.out | refine below_set ?_ GE678.out) | exact HB.out)))); have n3_ := Aside0.mk (blk_below (g := gb676) (o := .cells #[.int .i64 a0_0, .slice A0_1 l0_1.length c0_1, .int .i64 a0_2] 33 (0, 0)) (by (with_reducible repeat (first | refine blk_drewN ?_ _ | refine blk_drew ?_ | refine blk_alloc ?_ _)); exact BK676.out) hb); have n4_ := Aside0.mk (blk_below (g := gb677) (o := .cells #[.int .i64 a2_0, .slice A2_1 l2_1.length c2_1, .int .i64 a2_2] 33 (0, 0)) (by (with_reducible repeat (first | refine blk_drewN ?_ _ | refine blk_drew ?_ | refine blk_alloc ?_ _)); exact BK677.out) hb); have n5_ := Aside0.mk (blk_below (g := gb678) (o := .cells #[.int .i64 0, .slice none 0 0, .int .i64 0] 33 (0, 0)) (by (with_reducible repeat (first | refine blk_drewN ?_ _ | refine blk_drew ?_ | refine blk_alloc ?_ _)); exact BK678.out) hb); have n6_ := Aside0.mk (below_step (by repeat (first | (with_reducible first | exact HB.out | apply below_alloc | apply pw_below_drewN | apply below_drew1 | refine below_set ?_ GE676.out | refine below_set ?_ GE677.out | refine below_set ?_ GE678.out) | exact HB.out)) hb); clear HO682; clear HO685; clear BK676; clear BK677; clear BK678; clear HB; have HO682 := n0_; have HO685 := n1_; have HO688 := n2_; have BK676 := n3_; have BK677 := n4_; have BK678 := n5_; have HB := n6_; clear n0_ n1_ n2_ n3_ n4_ n5_ n6_; clear hb ho43; obtain ⟨Ao44, co44, eo44⟩ := Kd.R_slice HO688.out; subst eo44))
            go_loopg [36] kj3 (fun kq v36 w' => ∃ (x10_2 : List Bool) (x36_2 : Int), v36 = .int .i64 x36_2 ∧ Aside0 (cantingref02_Compose.l0 kq a1 t680 t683 x10_2 (y686.length : Int) x36_2 a0_0 l0_1 a0_2 = some (r1, r2, r3, r4)) ∧ Aside0 (kq ≤ kj3) ∧ Aside0 (Kd.R Kd.bool 4 w' w.heap.size (fun k_ => some k_ ≠ (v684 : Value).ownBlock ∧ some k_ ≠ ((.slice Ao44 y686.length co44) : Value).ownBlock) (.slice Ao41 t680.length co41) t680) ∧ Aside0 (Kd.R Kd.bool 4 w' w.heap.size (fun k_ => some k_ ≠ ((.slice Ao41 t680.length co41) : Value).ownBlock ∧ some k_ ≠ ((.slice Ao44 y686.length co44) : Value).ownBlock) v684 t683) ∧ Aside0 (Kd.R Kd.bool 4 w' w.heap.size (fun k_ => some k_ ≠ ((.slice Ao41 t680.length co41) : Value).ownBlock ∧ some k_ ≠ (v684 : Value).ownBlock) (.slice Ao44 y686.length co44) x10_2) ∧ Aside0 (w'.heap[gb676]? = some (.cells #[.int .i64 a0_0, (.slice A0_1 l0_1.length c0_1), .int .i64 a0_2] 33 (0, 0))) ∧ Aside0 (w'.heap[gb677]? = some (.cells #[.int .i64 a2_0, (.slice A2_1 l2_1.length c2_1), .int .i64 a2_2] 33 (0, 0))) ∧ Aside0 (w'.heap[gb678]? = some (.cells #[.int .i64 0, (.slice none 0 0), .int .i64 0] 33 (0, 0))) ∧ Aside0 (Below w.heap.size w w'))
            case atStart => exact ⟨(y686), (0), (by first | rfl | (simp; done) | (simp [*]; done)), H', ⟨Nat.le_refl _⟩, ⟨by (with_reducible repeat (first | apply Kd.R_alloc | apply Kd.R_drewN | apply Kd.R_drew)); exact Kd.R_mono HO682.out (fun _ hk => ⟨hk.1.2, hk.2⟩)⟩, ⟨by (with_reducible repeat (first | apply Kd.R_alloc | apply Kd.R_drewN | apply Kd.R_drew)); exact Kd.R_mono HO685.out (fun _ hk => ⟨hk.1.2, hk.2⟩)⟩, ⟨by (with_reducible repeat (first | apply Kd.R_alloc | apply Kd.R_drewN | apply Kd.R_drew)); exact Kd.R_mono HO688.out (fun _ hk => ⟨hk.1.2, hk.2⟩)⟩, ⟨by (with_reducible repeat (first | refine blk_drewN ?_ _ | refine blk_drew ?_ | refine blk_alloc ?_ _)); exact BK676.out⟩, ⟨by (with_reducible repeat (first | refine blk_drewN ?_ _ | refine blk_drew ?_ | refine blk_alloc ?_ _)); exact BK677.out⟩, ⟨by (with_reducible repeat (first | refine blk_drewN ?_ _ | refine blk_drew ?_ | refine blk_alloc ?_ _)); exact BK678.out⟩, ⟨by repeat (first | (with_reducible first | exact HB.out | apply below_alloc | apply pw_below_drewN | apply below_drew1 | refine below_set ?_ GE676.out | refine below_set ?_ GE677.out | refine below_set ?_ GE678.out) | exact HB.out)⟩⟩
            case round =>
              clear H'
              try clear c1
              try clear c2
              try clear p2
              try clear c3
              try clear c5
              try clear c9
              try clear c10
              try clear c10b0
              try clear c11
              try clear c12
              try clear c14
              try clear c17
              try clear c18
              try clear c20
              try clear c24
              try clear c25
              try clear c27
              try clear c30
              try clear c31
              try clear c32
              try clear c36
              try clear c36b0
              try clear c36b1
              try clear c37
              try clear c37b0
              try clear c37b1
              try clear hcz13_0
              try clear hcz13_1
              try clear hcz13_2
              try clear hcz15_0
              try clear hcz15_1
              try clear hcz15_2
              try clear hcz19_0
              try clear hcz19_1
              try clear hcz19_2
              try clear hcz21_0
              try clear hcz21_1
              try clear hcz21_2
              try clear hcz23_0
              try clear hcz23_1
              try clear hcz23_2
              try clear hcz26_0
              try clear hcz26_1
              try clear hcz26_2
              try clear hcz28_0
              try clear hcz28_1
              try clear hcz28_2
              try clear hcz33_0
              try clear hcz33_1
              try clear hcz33_2
              try clear hfz13_0
              try clear hfz13_1
              try clear hfz13_2
              try clear hfz15_0
              try clear hfz15_1
              try clear hfz15_2
              try clear hfz19_0
              try clear hfz19_1
              try clear hfz19_2
              try clear hfz21_0
              try clear hfz21_1
              try clear hfz21_2
              try clear hfz23_0
              try clear hfz23_1
              try clear hfz23_2
              try clear hfz26_0
              try clear hfz26_1
              try clear hfz26_2
              try clear hfz28_0
              try clear hfz28_1
              try clear hfz28_2
              try clear hfz33_0
              try clear hfz33_1
              try clear hfz33_2
              try clear p2
              obtain ⟨x10_2, x36_2, rfl, HA, HK2, HO_8, HO_9, HO_10, BK676, BK677, BK678, HB⟩ := hrel
              have hl10_2 := (Kd.R_reads' HO_10.out).1
              rw [hl10_2] at HO_10
              (try simp only [hl10_2])
              (try simp only [hl10_2] at BK676)
              (try simp only [hl10_2] at BK677)
              (try simp only [hl10_2] at BK678)
              (try simp only [hl10_2] at HO_8)
              (try simp only [hl10_2] at HO_9)
              cases gk with
              | zero => exact absurd HA.out (by simp [cantingref02_Compose.l0])
              | succ k2 =>
                have H := HA.out
                clear HA
                simp only [cantingref02_Compose.l0] at H
                by_cases c45 : x36_2 < (y686.length : Int)
                · rw [if_pos c45] at H
                  have c45b0 : decide (x36_2 < (y686.length : Int)) = true := decide_eq_true c45
                  (try (have c45b0_0 := c45b0; rw [hl10_2] at c45b0_0))
                  clear c45
                  by_cases c46 : 0 ≤ x36_2
                  · rw [if_pos c46] at H
                    have c46b0 : decide (0 ≤ x36_2) = true := decide_eq_true c46
                    (try (have c46b0_0 := c46b0; rw [hl10_2] at c46b0_0))
                    clear c46
                    by_cases c47 : x36_2 < (t683.length : Int)
                    · rw [if_pos c47] at H
                      have c47b0 : decide (x36_2 < (t683.length : Int)) = true := decide_eq_true c47
                      (try (have c47b0_0 := c47b0; rw [hl10_2] at c47b0_0))
                      clear c47
                      replace H := Option.bind_eq_some_iff.mp H
                      obtain ⟨t690, A480, H⟩ := H
                      replace H : (if 0 ≤ t690 then (if t690 < (t680.length : Int) then (if x36_2 < (x10_2.length : Int) then (cantingref02_Compose.l0 k2 a1 t680 t683 (x10_2.set (x36_2 : Int).toNat (rdOf false t680 t690)) (y686.length : Int) (wrap64 (x36_2 + 1)) a0_0 l0_1 a0_2) else (none)) else (none)) else (none)) = some (r1, r2, r3, r4) := H
                      have A48 := Aside0.mk A480
                      clear A480
                      by_cases c49 : 0 ≤ t690
                      · rw [if_pos c49] at H
                        have c49b0 : decide (0 ≤ t690) = true := decide_eq_true c49
                        (try (have c49b0_0 := c49b0; rw [hl10_2] at c49b0_0))
                        clear c49
                        by_cases c50 : t690 < (t680.length : Int)
                        · rw [if_pos c50] at H
                          have c50b0 : decide (t690 < (t680.length : Int)) = true := decide_eq_true c50
                          (try (have c50b0_0 := c50b0; rw [hl10_2] at c50b0_0))
                          clear c50
                          by_cases c51 : x36_2 < (x10_2.length : Int)
                          · rw [if_pos c51] at H
                            have c51b0 : decide (x36_2 < (x10_2.length : Int)) = true := decide_eq_true c51
                            (try (have c51b0_0 := c51b0; rw [hl10_2] at c51b0_0))
                            clear c51
                            obtain ⟨y692, hy692⟩ : ∃ y_ : List Bool, y_ = (x10_2.set (x36_2 : Int).toNat (rdOf false t680 t690)) := ⟨_, rfl⟩
                            replace H : (cantingref02_Compose.l0 k2 a1 t680 t683 y692 (y686.length : Int) (wrap64 (x36_2 + 1)) a0_0 l0_1 a0_2) = some (r1, r2, r3, r4) := by first | (rw [hy692]; with_reducible exact H) | (have H2_ := (Option.bind_some _ _).symm.trans H; rw [hy692]; with_reducible exact H2_) | (have H2_ := (Option.bind_some _ _).symm.trans H; with_reducible exact H2_) | with_reducible exact H | (rw [hy692]; exact H) | exact H
                            have Ny692 := Aside0.mk hy692
                            clear hy692
                            have H' := Aside0.mk H
                            clear H
                            try go_wp2
                            have n0_ := Aside0.mk (Kd.R_drew HO_8.out)
                            have n1_ := Aside0.mk (Kd.R_drew HO_9.out)
                            have n2_ := Aside0.mk (Kd.R_drew HO_10.out)
                            have n3_ := Aside0.mk (blk_drew BK676.out)
                            have n4_ := Aside0.mk (blk_drew BK677.out)
                            have n5_ := Aside0.mk (blk_drew BK678.out)
                            have n6_ := Aside0.mk (below_drew1 HB.out)
                            clear HO_8
                            clear HO_9
                            clear HO_10
                            clear BK676
                            clear BK677
                            clear BK678
                            clear HB
                            have HO_8 := n0_
                            have HO_9 := n1_
                            have HO_10 := n2_
                            have BK676 := n3_
                            have BK677 := n4_
                            have BK678 := n5_
                            have HB := n6_
                            clear n0_ n1_ n2_ n3_ n4_ n5_ n6_
                            obtain ⟨Ao54, co54, eo54⟩ := Kd.R_slice HO_9.out
                            (first | subst eo54 | (injection eo54 with f1_ f2_ f3_; have f4_ := f1_.symm; have f5_ := f3_.symm; clear f1_ f2_ f3_; subst f4_; subst f5_))
                            have p689 : 0 ≤ (x36_2 : Int) := of_decide_eq_true (by first | (with_reducible assumption) | assumption)
                            have q689 : x36_2 < (t683.length : Int) := of_decide_eq_true (by first | (with_reducible assumption) | assumption)
                            obtain ⟨ad689, e689, hx689_0⟩ := Kd.at_bool (Kd.R_reads' HO_9.out).2.2 x36_2 p689 q689
                            cases e689
                            replace p689 := eq_true p689
                            replace q689 := eq_true q689
                            have p691 : 0 ≤ (t690 : Int) := of_decide_eq_true (by first | (with_reducible assumption) | assumption)
                            have q691 : t690 < (t680.length : Int) := of_decide_eq_true (by first | (with_reducible assumption) | assumption)
                            obtain ⟨ad691, e691, hx691_0⟩ := Kd.at_bool (Kd.R_reads' HO_8.out).2.2 t690 p691 q691
                            cases e691
                            replace p691 := eq_true p691
                            replace q691 := eq_true q691
                            refine start_ (n := 16) (S := fun w' => w'.cell? ⟨gb676, 0, none⟩ = some (.int .i64 a0_0) ∧ w'.cell? ⟨gb676, 1, none⟩ = some (.slice A0_1 l0_1.length c0_1) ∧ w'.cell? ⟨gb676, 2, none⟩ = some (.int .i64 a0_2) ∧ w'.cell? (ad689.add (x36_2).toNat) = some (.bool (rdOf false t683 x36_2)) ∧ w'.cell? (ad691.add (t690).toNat) = some (.bool (rdOf false t680 t690))) (ds := [15]) #[false, false, false, false, false, false, false, false, false, false, false, false, false, false, false, false] (by kernel_rfl) rfl rfl ⟨(blk_cell BK676.out 0).trans rfl, (blk_cell BK676.out 1).trans rfl, (blk_cell BK676.out 2).trans rfl, hx689_0, hx691_0⟩ (fun hHeld => ?_); refine with_tabW cantingref02_Compose.tab8 cantingref02_Compose.bits8 (fun HT_ HW_ => ?_)
                            generalize wr.drew = w53 at HO_8 HO_9 HO_10 BK676 BK677 BK678 HB hx689_0 hx691_0 hHeld ⊢
                            refine pure_ (i := 0) (N := some 39) (v := ?_) (a' := ?_) #[true, false, false, false, false, false, false, false, false, false, false, false, false, false, false, false] rfl rfl (any_of HT_.out (by kernel_rfl)) (fun _ _ _ h => h) (Or.inl ⟨by rfl, ?_⟩) ?_ ?_
                            rotate_left
                            · intro w'
                              go_simp
                              with_reducible rfl
                            rotate_left
                            · simp only [Act.put, List.setIfInBounds_toArray, List.set_cons_zero, List.set_cons_succ, i64_w, i32_w]
                              rfl
                            refine pure_ (i := 1) (N := some 40) (v := ?_) (a' := ?_) #[true, true, false, false, false, false, false, false, false, false, false, false, false, false, false, false] rfl rfl (any_of HT_.out (by kernel_rfl)) (fun _ _ _ h => h) (Or.inl ⟨by rfl, ?_⟩) ?_ ?_
                            rotate_left
                            · intro w'
                              go_simp
                              with_reducible rfl
                            rotate_left
                            · simp only [Act.put, List.setIfInBounds_toArray, List.set_cons_zero, List.set_cons_succ, i64_w, i32_w]
                              rfl
                            refine pure_ (i := 2) (N := some 41) (v := ?_) (a' := ?_) #[true, true, true, false, false, false, false, false, false, false, false, false, false, false, false, false] rfl rfl (any_of HT_.out (by kernel_rfl)) (fun _ _ _ h => h) (Or.inl ⟨by rfl, ?_⟩) ?_ ?_
                            rotate_left
                            · intro w'
                              go_simp
                              with_reducible rfl
                            rotate_left
                            · simp only [Act.put, List.setIfInBounds_toArray, List.set_cons_zero, List.set_cons_succ, i64_w, i32_w]
                              rfl
                            refine pure_ (i := 3) (N := some 42) (v := ?_) (a' := ?_) #[true, true, true, true, false, false, false, false, false, false, false, false, false, false, false, false] rfl rfl (any_of HT_.out (by kernel_rfl)) (fun _ _ _ h => h) (Or.inl ⟨by rfl, ?_⟩) ?_ ?_
                            rotate_left
                            · intro w'
                              go_simp
                              with_reducible rfl
                            rotate_left
                            · simp only [Act.put, List.setIfInBounds_toArray, List.set_cons_zero, List.set_cons_succ, i64_w, i32_w]
                              rfl
                            refine pure_ (i := 5) (N := some 44) (v := ?_) (a' := ?_) #[true, true, true, true, false, true, false, false, false, false, false, false, false, false, false, false] rfl rfl (any_of HT_.out (by kernel_rfl)) (fun _ _ _ h => h) (Or.inl ⟨by rfl, ?_⟩) ?_ ?_
                            rotate_left
                            · intro w'
                              go_simp
                              with_reducible rfl
                            rotate_left
                            · simp only [Act.put, List.setIfInBounds_toArray, List.set_cons_zero, List.set_cons_succ, i64_w, i32_w]
                              rfl
                            refine pure_ (i := 6) (N := some 45) (v := ?_) (a' := ?_) #[true, true, true, true, false, true, true, false, false, false, false, false, false, false, false, false] rfl rfl (any_of HT_.out (by kernel_rfl)) (fun _ _ _ h => h) (Or.inl ⟨by rfl, ?_⟩) ?_ ?_
                            rotate_left
                            · intro w'
                              go_simp
                              with_reducible rfl
                            rotate_left
                            · simp only [Act.put, List.setIfInBounds_toArray, List.set_cons_zero, List.set_cons_succ, i64_w, i32_w]
                              rfl
                            refine pure_ (i := 7) (N := some 46) (v := ?_) (a' := ?_) #[true, true, true, true, false, true, true, true, false, false, false, false, false, false, false, false] rfl rfl (any_of HT_.out (by kernel_rfl)) (fun _ _ _ h => h) (Or.inl ⟨by rfl, ?_⟩) ?_ ?_
                            rotate_left
                            · intro w'
                              go_simp
                              with_reducible rfl
                            rotate_left
                            · simp only [Act.put, List.setIfInBounds_toArray, List.set_cons_zero, List.set_cons_succ, i64_w, i32_w]
                              rfl
                            refine pure_ (i := 8) (N := some 47) (v := ?_) (a' := ?_) #[true, true, true, true, false, true, true, true, true, false, false, false, false, false, false, false] rfl rfl (any_of HT_.out (by kernel_rfl)) (fun _ _ _ h => h) (Or.inl ⟨by rfl, ?_⟩) ?_ ?_
                            rotate_left
                            · intro w'
                              go_simp
                              with_reducible rfl
                            rotate_left
                            · simp only [Act.put, List.setIfInBounds_toArray, List.set_cons_zero, List.set_cons_succ, i64_w, i32_w]
                              rfl
                            refine pure_ (i := 9) (N := some 48) (v := ?_) (a' := ?_) #[true, true, true, true, false, true, true, true, true, true, false, false, false, false, false, false] rfl rfl (any_of HT_.out (by kernel_rfl)) (fun _ _ _ h => h) (Or.inl ⟨by rfl, ?_⟩) ?_ ?_
                            rotate_left
                            · intro w'
                              go_simp
                              with_reducible rfl
                            rotate_left
                            · simp only [Act.put, List.setIfInBounds_toArray, List.set_cons_zero, List.set_cons_succ, i64_w, i32_w]
                              rfl
                            refine take_ (i := 4) (N := some 43) (v := ?_) (a' := ?_) #[true, true, true, true, true, true, true, true, true, true, false, false, false, false, false, false] rfl rfl (take_ofW HT_.out HW_.out (by kernel_rfl)) (fun _ _ _ h => h) (Or.inl ⟨by rfl, ?_⟩) hHeld ?_ ?_
                            rotate_left
                            · rintro w' ⟨s0, s1, s2, s3, s4⟩
                              go_simp
                              with_reducible rfl
                            rotate_left
                            · simp only [Act.put, List.setIfInBounds_toArray, List.set_cons_zero, List.set_cons_succ, i64_w, i32_w]
                              rfl
                            refine take_ (i := 10) (N := some 49) (v := ?_) (a' := ?_) #[true, true, true, true, true, true, true, true, true, true, true, false, false, false, false, false] rfl rfl (take_ofW HT_.out HW_.out (by kernel_rfl)) (fun _ _ _ h => h) (Or.inl ⟨by rfl, ?_⟩) hHeld ?_ ?_
                            rotate_left
                            · rintro w' ⟨s0, s1, s2, s3, s4⟩
                              go_simp
                              with_reducible rfl
                            rotate_left
                            · simp only [Act.put, List.setIfInBounds_toArray, List.set_cons_zero, List.set_cons_succ, i64_w, i32_w]
                              rfl
                            refine one_ (i := 11) (N := some 50) #[true, true, true, true, true, true, true, true, true, true, true, true, false, false, false, false] rfl rfl (one_of HT_.out (by kernel_rfl)) (by decide) (fun K hK => ?_)
                            refine goes_ Try.func106 (by kernel_rfl) rfl #[.int .i64 a0_0, .int .i64 x36_2, .int .i64 a1, .bool (rdOf false t683 x36_2)] (by rfl) rfl rfl (by (try simp only [List.map_toArray, List.map_cons, List.map_nil]); first | done | rfl | (simp only [List.length_drop, List.length_take]; rfl)) ?_
                            with_reducible refine (cantingref02_with.calls a0_0 x36_2 a1 (rdOf false t683 x36_2) t690 _ A48.out).mono ?_
                            rintro e w' ⟨rfl, ⟨nd, rfl⟩⟩
                            refine ⟨_, rfl, ?_⟩
                            have p52 : 0 ≤ (x36_2 : Int) := of_decide_eq_true (by first | (with_reducible assumption) | assumption)
                            have q52 : (x36_2 : Int) < ((x10_2.length : Int) : Int) := of_decide_eq_true (by first | (with_reducible assumption) | assumption)
                            obtain ⟨go52, co52, eo52, gb52, gl52, cl52, HG52⟩ := Kd.R_form HO_10.out (by omega)
                            (first | cases eo52 | (injection eo52 with ea_ en_ ec_; (first | subst ea_ | (injection ea_ with ea_; subst ea_)); subst ec_; clear en_))
                            have GB52 := Aside0.mk gb52
                            have GG52 := Aside0.mk HG52
                            clear gb52 gl52 HG52
                            obtain ⟨hx52_0, hf52_0⟩ := Kd.R_celln false HO_10.out (x36_2 : Int) p52 q52
                            replace p52 := eq_true p52
                            replace q52 := eq_true q52
                            have HP55 := Kd.R_putn HO_10.out (x36_2 : Int) (rdOf false t680 t690)
                            rw [← Ny692.out] at HP55
                            have HQ55 := Aside0.mk HP55
                            clear HP55
                            refine hK.out _ _ ⟨(blk_cell BK676.out 0).trans rfl, (blk_cell BK676.out 1).trans rfl, (blk_cell BK676.out 2).trans rfl, hHeld.2.2.2.1, hHeld.2.2.2.2⟩ (fun hHeld => ?_)
                            clear hK K
                            refine norm_ (a' := ?_) ?_ ?_
                            rotate_left
                            · show Act.put _ (some 50) _ = _
                              simp only [Act.put, List.setIfInBounds_toArray, List.set_cons_zero, List.set_cons_succ, i64_w, i32_w]
                              rfl
                            refine pure_ (i := 12) (N := some 51) (v := ?_) (a' := ?_) #[true, true, true, true, true, true, true, true, true, true, true, true, true, false, false, false] rfl rfl (any_of HT_.out (by kernel_rfl)) (fun _ _ _ h => h) (Or.inl ⟨by rfl, ?_⟩) ?_ ?_
                            rotate_left
                            · intro w'
                              go_simp
                              with_reducible rfl
                            rotate_left
                            · simp only [Act.put, List.setIfInBounds_toArray, List.set_cons_zero, List.set_cons_succ, i64_w, i32_w]
                              rfl
                            refine take_ (i := 13) (N := some 52) (v := ?_) (a' := ?_) #[true, true, true, true, true, true, true, true, true, true, true, true, true, true, false, false] rfl rfl (take_ofW HT_.out HW_.out (by kernel_rfl)) (fun _ _ _ h => h) (Or.inl ⟨by rfl, ?_⟩) hHeld ?_ ?_
                            rotate_left
                            · rintro w' ⟨s0, s1, s2, s3, s4⟩
                              go_simp
                              with_reducible rfl
                            rotate_left
                            · simp only [Act.put, List.setIfInBounds_toArray, List.set_cons_zero, List.set_cons_succ, i64_w, i32_w]
                              rfl
                            refine pure_ (i := 14) (N := some 53) (v := ?_) (a' := ?_) #[true, true, true, true, true, true, true, true, true, true, true, true, true, true, true, false] rfl rfl (any_of HT_.out (by kernel_rfl)) (fun _ _ _ h => h) (Or.inl ⟨by rfl, ?_⟩) ?_ ?_
                            rotate_left
                            · intro w'
                              go_simp
                              with_reducible rfl
                            rotate_left
                            · simp only [Act.put, List.setIfInBounds_toArray, List.set_cons_zero, List.set_cons_succ, i64_w, i32_w]
                              rfl
                            refine last_ (i := 15) (N := none) #[true, true, true, true, true, true, true, true, true, true, true, true, true, true, true, true] rfl rfl (one_of HT_.out (by kernel_rfl)) (by decide) (fun K hK => ?_)
                            refine skip_ (w1 := ?_) (by rfl) rfl ?_ ?_
                            rotate_left
                            · go_simp
                              rfl
                            refine hK.out _ _ ?_
                            clear hK K
                            refine done_ (done_of HT_.out (by kernel_rfl)) ?_
                            try go_wp2
                            (try simp only [← hl10_2])
                            go_roundg k2
                            case measure => have := HJ3.out; have := HK2.out; omega
                            case rel => exact ⟨(y692), (wrap64 (x36_2 + 1)), (by first | rfl | (simp; done) | (simp [*]; done)), H', ⟨by have := HJ3.out; have := HK2.out; omega⟩, ⟨by (try simp only [hl10_2]); (with_reducible repeat (first | apply Kd.R_alloc | apply Kd.R_drewN | apply Kd.R_drew)); exact Kd.R_mono (Kd.R_far (p := ⟨go52, (x36_2 : Int).toNat, none⟩) (Kd.R_mono HO_8.out (fun k_ hk => (⟨hk, fun e_ => hk.2 (by rw [e_]; rfl)⟩ : _ ∧ k_ ≠ go52))) (fun _ hk => hk.2) (.bool (rdOf false t680 t690))) (fun _ hk => ⟨hk.1.1, hk.1.2⟩)⟩, ⟨by (try simp only [hl10_2]); (with_reducible repeat (first | apply Kd.R_alloc | apply Kd.R_drewN | apply Kd.R_drew)); exact Kd.R_mono (Kd.R_far (p := ⟨go52, (x36_2 : Int).toNat, none⟩) (Kd.R_mono HO_9.out (fun k_ hk => (⟨hk, fun e_ => hk.2 (by rw [e_]; rfl)⟩ : _ ∧ k_ ≠ go52))) (fun _ hk => hk.2) (.bool (rdOf false t680 t690))) (fun _ hk => ⟨hk.1.1, hk.1.2⟩)⟩, ⟨by (try simp only [hl10_2]); (with_reducible repeat (first | apply Kd.R_alloc | apply Kd.R_drewN | apply Kd.R_drew)); exact HQ55.out⟩, ⟨by (try simp only [hl10_2]); (with_reducible repeat (first | refine blk_drewN ?_ _ | refine blk_drew ?_ | refine blk_alloc ?_ _)); refine blk_far ?_ (by have h_ := Kd.R_ne HO_10.out BK676.out (by decide); intro e_; exact h_ (by rw [e_]; rfl)) _; (with_reducible repeat (first | refine blk_drewN ?_ _ | refine blk_drew ?_ | refine blk_alloc ?_ _)); exact BK676.out⟩, ⟨by (try simp only [hl10_2]); (with_reducible repeat (first | refine blk_drewN ?_ _ | refine blk_drew ?_ | refine blk_alloc ?_ _)); refine blk_far ?_ (by have h_ := Kd.R_ne HO_10.out BK677.out (by decide); intro e_; exact h_ (by rw [e_]; rfl)) _; (with_reducible repeat (first | refine blk_drewN ?_ _ | refine blk_drew ?_ | refine blk_alloc ?_ _)); exact BK677.out⟩, ⟨by (try simp only [hl10_2]); (with_reducible repeat (first | refine blk_drewN ?_ _ | refine blk_drew ?_ | refine blk_alloc ?_ _)); refine blk_far ?_ (by have h_ := Kd.R_ne HO_10.out BK678.out (by decide); intro e_; exact h_ (by rw [e_]; rfl)) _; (with_reducible repeat (first | refine blk_drewN ?_ _ | refine blk_drew ?_ | refine blk_alloc ?_ _)); exact BK678.out⟩, ⟨by repeat (first | (with_reducible first | exact HB.out | apply below_alloc | apply pw_below_drewN | apply below_drew1 | refine below_set ?_ GB52.out | refine below_set ?_ GE676.out | refine below_set ?_ GE677.out | refine below_set ?_ GE678.out) | exact HB.out)⟩⟩
                          · rw [if_neg c51] at H
                            exact absurd H (by simp)
                        · rw [if_neg c50] at H
                          exact absurd H (by simp)
                      · rw [if_neg c49] at H
                        exact absurd H (by simp)
                    · rw [if_neg c47] at H
                      exact absurd H (by simp)
                  · rw [if_neg c46] at H
                    exact absurd H (by simp)
                · rw [if_neg c45] at H
                  have c45b0 : decide (x36_2 < (y686.length : Int)) = false := decide_eq_false c45
                  (try (have c45b0_0 := c45b0; rw [hl10_2] at c45b0_0))
                  clear c45
                  replace H := Option.bind_eq_some_iff.mp H
                  obtain ⟨⟨t693, t694, t697⟩, A560, H⟩ := H
                  replace H : (some (t693, t694, t697, 0)) = some (r1, r2, r3, r4) := H
                  have A56 := Aside0.mk A560
                  clear A560
                  simp only [Option.some.injEq, Prod.mk.injEq] at H
                  obtain ⟨rfl, rfl, rfl, rfl⟩ := H
                  have hnb57 := NB676_677.out
                  have hnc57 := NB677_676.out
                  have hnb58 := NB676_678.out
                  have hnc58 := NB678_676.out
                  have hcz59_0 : wr.cell? ⟨gb676, 0, none⟩ = some (.int .i64 a0_0) := (blk_cell BK676.out 0).trans rfl
                  have hcz59_1 : wr.cell? ⟨gb676, 1, none⟩ = some (.slice A0_1 l0_1.length c0_1) := (blk_cell BK676.out 1).trans rfl
                  have hcz59_2 : wr.cell? ⟨gb676, 2, none⟩ = some (.int .i64 a0_2) := (blk_cell BK676.out 2).trans rfl
                  have hfz59_0 := blk_frozen BK676.out 0
                  have hfz59_1 := blk_frozen BK676.out 1
                  have hfz59_2 := blk_frozen BK676.out 2
                  go_wp2_with (first | ((with_reducible refine gate_callee (f := 87) rfl ?_); refine goesL_ (some 58) rfl rfl Try.func87 (by kernel_rfl) rfl #[.int .i64 a0_0, .slice Ao44 x10_2.length co44] rfl (by (try simp only [List.map_toArray, List.map_cons, List.map_nil]); first | done | rfl | (simp only [List.length_drop, List.length_take]; rfl)) ?_; (with_reducible refine (cantingref02_Of.calls a0_0 _ _ x10_2 t693 t694 t697 _ ?side1 ?side2 A56.out).mono ?_); (case side1 => repeat (first | exact (Kd.R_reads' HO_10.out).2.2 | (with_reducible refine Kd.C_alloc ?_ _) | (with_reducible refine Kd.C_drewN ?_ _) | (with_reducible refine Kd.C_drew ?_))); (case side2 => exact (Kd.R_reads' HO_10.out).2.1); rintro e w60 ⟨v695, rfl, ho0, hb⟩; refine ⟨_, rfl, ?_⟩; have n0_ := Aside0.mk (Kd.R_below (by (with_reducible repeat (first | apply Kd.R_alloc | apply Kd.R_drewN | apply Kd.R_drew)); exact HO_8.out) hb); have n1_ := Aside0.mk (Kd.R_below (by (with_reducible repeat (first | apply Kd.R_alloc | apply Kd.R_drewN | apply Kd.R_drew)); exact HO_9.out) hb); have n2_ := Aside0.mk (Kd.R_below (by (with_reducible repeat (first | apply Kd.R_alloc | apply Kd.R_drewN | apply Kd.R_drew)); exact HO_10.out) hb); have n3_ := Aside0.mk (Kd.R_lower ho0 (below_size (by repeat (first | (with_reducible first | exact HB.out | apply below_alloc | apply pw_below_drewN | apply below_drew1 | refine below_set ?_ GE676.out | refine below_set ?_ GE677.out | refine below_set ?_ GE678.out) | exact HB.out)))); have n4_ := Aside0.mk (blk_below (g := gb676) (o := .cells #[.int .i64 a0_0, .slice A0_1 l0_1.length c0_1, .int .i64 a0_2] 33 (0, 0)) (by (with_reducible repeat (first | refine blk_drewN ?_ _ | refine blk_drew ?_ | refine blk_alloc ?_ _)); exact BK676.out) hb); have n5_ := Aside0.mk (blk_below (g := gb677) (o := .cells #[.int .i64 a2_0, .slice A2_1 l2_1.length c2_1, .int .i64 a2_2] 33 (0, 0)) (by (with_reducible repeat (first | refine blk_drewN ?_ _ | refine blk_drew ?_ | refine blk_alloc ?_ _)); exact BK677.out) hb); have n6_ := Aside0.mk (blk_below (g := gb678) (o := .cells #[.int .i64 0, .slice none 0 0, .int .i64 0] 33 (0, 0)) (by (with_reducible repeat (first | refine blk_drewN ?_ _ | refine blk_drew ?_ | refine blk_alloc ?_ _)); exact BK678.out) hb); have n7_ := Aside0.mk (below_step (by repeat (first | (with_reducible first | exact HB.out | apply below_alloc | apply pw_below_drewN | apply below_drew1 | refine below_set ?_ GE676.out | refine below_set ?_ GE677.out | refine below_set ?_ GE678.out) | exact HB.out)) hb); clear HO_8; clear HO_9; clear HO_10; clear BK676; clear BK677; clear BK678; clear HB; have HO_8 := n0_; have HO_9 := n1_; have HO_10 := n2_; have HO696 := n3_; have BK676 := n4_; have BK677 := n5_; have BK678 := n6_; have HB := n7_; clear n0_ n1_ n2_ n3_ n4_ n5_ n6_ n7_; (try clear hb); (try clear hb2); (try clear hk); (try clear hi); (try clear ho0); have hnb61 := NB678_677.out; have hnc61 := NB677_678.out; have hcz62_0 : w60.cell? ⟨gb678, 0, none⟩ = some (.int .i64 0) := (blk_cell BK678.out 0).trans rfl; have hcz62_1 : w60.cell? ⟨gb678, 1, none⟩ = some (.slice none 0 0) := (blk_cell BK678.out 1).trans rfl; have hcz62_2 : w60.cell? ⟨gb678, 2, none⟩ = some (.int .i64 0) := (blk_cell BK678.out 2).trans rfl; have hfz62_0 := blk_frozen BK678.out 0; have hfz62_1 := blk_frozen BK678.out 1; have hfz62_2 := blk_frozen BK678.out 2; obtain ⟨Ao63, co63, eo63⟩ := Kd.R_slice HO696.out; subst eo63))
                  refine bodyPost_ret (results_ct rfl _ _ gb678 33 #[.int .i64 t693, .slice Ao63 t694.length co63, .int .i64 t697] (0, 0) _ rfl (by (with_reducible repeat (first | refine blk_drewN ?_ _ | refine blk_drew ?_ | refine blk_alloc ?_ _)); refine blk_put (cs := #[.int .i64 t693, .slice Ao63 t694.length co63, .int .i64 0]) ?_ 2 _ rfl; (with_reducible repeat (first | refine blk_drewN ?_ _ | refine blk_drew ?_ | refine blk_alloc ?_ _)); refine blk_put (cs := #[.int .i64 t693, .slice none 0 0, .int .i64 0]) ?_ 1 _ rfl; (with_reducible repeat (first | refine blk_drewN ?_ _ | refine blk_drew ?_ | refine blk_alloc ?_ _)); refine blk_put (cs := #[.int .i64 0, .slice none 0 0, .int .i64 0]) ?_ 0 _ rfl; (with_reducible repeat (first | refine blk_drewN ?_ _ | refine blk_drew ?_ | refine blk_alloc ?_ _)); exact BK678.out) Try.underlying33 rfl (by kernel_rfl)) rfl ?_
                  exact ⟨_, by first | rfl | (simp [errW_none, errW_some] <;> rfl) | (simp [*, errW_none, errW_some] <;> rfl), by (with_reducible repeat (first | apply Kd.R_alloc | apply Kd.R_drewN | apply Kd.R_drew)); exact Kd.R_mono (Kd.R_far (p := ⟨gb678, 2, none⟩) (Kd.R_far (p := ⟨gb678, 1, none⟩) (Kd.R_far (p := ⟨gb678, 0, none⟩) (Kd.R_types HO696.out BK678.out (by decide)) (fun _ hk => hk.2) (.int .i64 t693)) (fun _ hk => hk.2) (.slice Ao63 t694.length co63)) (fun _ hk => hk.2) (.int .i64 t697)) (fun _ hk => trivial), by repeat (first | (with_reducible first | exact HB.out | apply below_alloc | apply pw_below_drewN | apply below_drew1 | refine below_set ?_ GE676.out | refine below_set ?_ GE677.out | refine below_set ?_ GE678.out) | exact HB.out)⟩
          · rw [if_neg c37] at H
            exact absurd H (by simp)
        · rw [if_neg c36] at H
          exact absurd H (by simp)
end Go.Proofs.Ytlplphgoldkoeaa.X
end

section
set_option linter.unusedVariables false
set_option linter.unusedSimpArgs false
namespace Go.Proofs.Ytlplphgoldkoeaa.HTab
open Go.RowKit Go.Proofs.YtlplphgoldkoeaaW.PrintWords Go.Proofs.YtlplphgoldkoeaaW.PrintLast Go.Proofs.YtlplphgoldkoeaaW.PrintMore Go.Proofs.Ytlplphgoldkoeaa.HMap Go.Proofs.Ytlplphgoldkoeaa.X
set_option linter.unusedVariables false
set_option linter.unusedSimpArgs false
theorem cmpR_l0 (v i : Int) (l : List S106) (r : Int) (a b : List Bool) (v12 : v ≤ 12) (i0 : 0 ≤ i) (i1 : i < v) (ha : a.length = 2 ^ v.toNat) (hb : b.length = 2 ^ v.toNat) : ∀ (d j k : Nat) (acc : List Bool), j + d = a.length → d < k → acc.length = a.length → acc.take j = (cmpL (v - 1 - i).toNat a b).take j →
    cantingref02_Compose.l0 k i a b acc a.length j v l r = (cantingref02_Of.f v (cmpL (v - 1 - i).toNat a b)).bind fun q => some (q.1, q.2.1, q.2.2, 0)
  | 0, j, k, acc, hj, hk, hl, ht => by
    obtain ⟨k, rfl⟩ : ∃ m, k = m + 1 := ⟨k - 1, by omega⟩
    simp only [cantingref02_Compose.l0]
    rw [if_neg (by omega)]
    rw [fill_all (t := cmpL (v - 1 - i).toNat a b) (acc := acc) (by rw [cmpL_len, hl]) (by rw [cmpL_len, ← show j = a.length by omega]; exact ht)]
  | d + 1, j, k, acc, hj, hk, hl, ht => by
    obtain ⟨k, rfl⟩ : ∃ m, k = m + 1 := ⟨k - 1, by omega⟩
    have hN := p12 (k := v.toNat) (by omega)
    have hlt := setb_lt (v - 1 - i).toNat v.toNat (b.getD j false) j (by omega) (by omega)
    simp only [cantingref02_Compose.l0]
    rw [if_pos (by omega), if_pos (by omega), if_pos (by omega), rdB_at, with_any v i j _ (by omega) i0 i1 v12]
    simp only [Option.bind_some]
    rw [if_pos (by omega), if_pos (by omega), if_pos (by omega), wrap_add1 (by omega) (by omega), Int.toNat_natCast, rdB_at]
    have hg := cmpL_get (v - 1 - i).toNat a b j (by omega)
    rw [← hg]
    have := cmpR_l0 v i l r a b v12 i0 i1 ha hb d (j + 1) k (acc.set j ((cmpL (v - 1 - i).toNat a b).getD j false)) (by omega) (by omega) (by simp [hl]) (fill_set _ _ _ (by rw [cmpL_len]; omega) (by rw [cmpL_len, hl]) ht)
    rwa [Int.natCast_add, Int.natCast_one] at this
theorem compose_both (v1 r1 v2 r2 i : Int) (l1 l2 : List S106) (fu : Nat) (hf : 6000 ≤ fu) : ∃ v' l' r' e, mask_Compose.f v1 (ofL l1) r1 i v2 (ofL l2) r2 = some (v', l', r', e) ∧ cantingref02_Compose.f fu v1 l1 r1 i v2 l2 r2 = some (v', l'.map toR, r', e) ∧ l'.length ≤ 4096 := by
  obtain ⟨fu, rfl⟩ : ∃ m, fu = m + 1 := ⟨fu - 1, by omega⟩
  by_cases h : VM v1 (l1.map ofR) r1 ∧ VM v2 (l2.map ofR) r2 ∧ v2 = v1 ∧ 0 ≤ i ∧ i < v1
  · obtain ⟨h1, h2, rfl, i0, i1⟩ := h
    have v12 := h1.v12
    have n1 := h1.ofL.2
    have n2 := h2.ofL.2
    obtain ⟨l', r', q1, q2, q3, q4⟩ := compose_f h1 h2 i0 i1
    refine ⟨v2, l', r', 0, by rw [h1.ofL.1, h2.ofL.1]; exact q1, ?_, by omega⟩
    have hN := p12 (k := v2.toNat) (by omega)
    have t1 := tab_length v2 (l1.map ofR) r1
    have t2 := tab_length v2 (l2.map ofR) r2
    unfold cantingref02_Compose.f
    simp only [cantingref02_Both.f, cantingref02_Valid.f, vmB_true h1, vmB_true h2, Option.bind_some, if_true]
    rw [if_neg (by omega), decide_eq_false (by omega)]
    simp only [cantingref02_Compose.j0, Bool.false_eq_true, if_false]
    rw [table_f v2 l1 r1 v12 (by omega) h1.wf.wo h1.pl fu (by omega)]
    simp only [Option.bind_some]
    rw [table_f v2 l2 r2 v12 (by omega) h2.wf.wo h2.pl fu (by omega)]
    simp only [Option.bind_some]
    rw [if_pos (by omega), if_pos (by omega)]
    have := cmpR_l0 v2 i l1 r1 (tab v2 (l1.map ofR) r1) (tab v2 (l2.map ofR) r2) v12 i0 i1 t1 t2 (tab v2 (l1.map ofR) r1).length 0 fu (List.replicate (tab v2 (l1.map ofR) r1).length false) (by omega) (by omega) (by simp) (by simp)
    rw [Int.ofNat_zero] at this
    simp only [List.length_replicate, Int.toNat_natCast]
    rw [this, q2.of_f q3]
    rfl
  · refine ⟨0, [], 0, 2, compose_f_err (by have := ofL_len l1; omega) (by have := ofL_len l2; omega) (fun q => h ⟨ofL_vm.1 q.1, ofL_vm.1 q.2.1, q.2.2⟩), ?_, by simp⟩
    unfold cantingref02_Compose.f
    simp only [cantingref02_Both.f, cantingref02_Valid.f]
    by_cases e1 : v1 = v2
    · rw [if_pos e1]
      by_cases e2 : VM v1 (l1.map ofR) r1
      · rw [vmB_true e2]
        simp only [Option.bind_some, if_true]
        by_cases e3 : VM v2 (l2.map ofR) r2
        · rw [vmB_true e3]
          simp only [Option.bind_some, if_true]
          by_cases e4 : i < 0
          · rw [if_pos e4]; simp [cantingref02_Compose.j0]
          · rw [if_neg e4, decide_eq_true (by
              apply Classical.byContradiction
              intro q
              exact h ⟨e2, e3, e1.symm, by omega, by omega⟩)]
            simp [cantingref02_Compose.j0]
        · rw [vmB_false e3]
          simp [cantingref02_Compose.j0]
      · rw [vmB_false e2]
        simp [cantingref02_Compose.j0]
    · rw [if_neg e1]
      simp [cantingref02_Compose.j0]
end Go.Proofs.Ytlplphgoldkoeaa.HTab
end
