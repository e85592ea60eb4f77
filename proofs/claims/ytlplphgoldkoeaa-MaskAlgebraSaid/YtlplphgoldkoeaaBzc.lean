/- Lemmas of the masks: part Bzc. -/
import Derived.Test.YtlplphgoldkoeaaBzb
import Derived.Test.YtlplphgoldkoeaaBo
import Derived.Deep.DeepMust
import Derived.Test.YtlplphgoldkoeaaBn
section
set_option linter.unusedVariables false
set_option linter.unusedSimpArgs false
namespace Go.Proofs.Ytlplphgoldkoeaa.HTab
open Go.RowKit Go.Proofs.YtlplphgoldkoeaaW.PrintWords Go.Proofs.YtlplphgoldkoeaaW.PrintLast Go.Proofs.YtlplphgoldkoeaaW.PrintMore Go.Proofs.Ytlplphgoldkoeaa.HMap Go.Proofs.Ytlplphgoldkoeaa.X
open Go.ChangeMaps (setBlock)
set_option linter.unusedVariables false
set_option linter.unusedSimpArgs false
structure Lo (w0 w : World) (t : Nat) (T : TB) (O : Nat → Prop) : Prop where
  bel : Below w0.heap.size w0 w
  tab : ∃ S, Tab w S t T ∧ (∀ k, S k → w0.heap.size ≤ k ∧ k < w.heap.size) ∧ ∀ k, O k → ¬ S k ∧ w0.heap.size ≤ k ∧ k < w.heap.size
section
variable {w0 w : World} {t : Nat} {T : TB} {O : Nat → Prop}
theorem Lo.drew (h : Lo w0 w t T O) : Lo w0 w.drew t T O := by
  obtain ⟨hb, S, hT, hS, ho⟩ := h
  exact ⟨below_drew hb, S, hT.below (below_drew (Below.refl _ _)), hS, ho⟩
theorem Lo.alloc (h : Lo w0 w t T O) (o : Obj) : Lo w0 (w.alloc o) t T (fun k => O k ∨ k = w.heap.size) := by
  obtain ⟨hb, S, hT, hS, ho⟩ := h
  have h1 : Below w.heap.size w (w.alloc o) := below_alloc (Below.refl _ _) o
  refine ⟨below_alloc hb o, S, hT.below h1, fun k hk => ⟨(hS k hk).1, Nat.lt_of_lt_of_le (hS k hk).2 h1.size⟩, fun k hk => ?_⟩
  rcases hk with hk | hk
  · exact ⟨(ho k hk).1, (ho k hk).2.1, Nat.lt_of_lt_of_le (ho k hk).2.2 h1.size⟩
  · subst hk
    exact ⟨fun q => Nat.lt_irrefl _ (hS _ q).2, hb.size, by simp⟩
theorem Lo.set (h : Lo w0 w t T O) (b i : Nat) (v : Value) (hb : O b) : Lo w0 (w.setCell ⟨b, i, none⟩ v) t T O := by
  obtain ⟨hB, S, hT, hS, ho⟩ := h
  have e : (w.setCell ⟨b, i, none⟩ v).heap.size = w.heap.size := setCell_size _ _ _
  refine ⟨below_set hB (ho b hb).2.1, S, hT.move (fun k hk hlt => Below.heap_setCell w ⟨b, i, none⟩ v k (fun q => (ho b hb).1 (by have q2 : k = b := q; rw [← q2]; exact hk))), fun k hk => by rw [e]; exact hS k hk, fun k hk => by rw [e]; exact ho k hk⟩
theorem Lo.load (h : Lo w0 w t T O) (vars root : Int) (A : Option Addr) (c : Nat) (l : List S107) (R : List Int × TB) (hl : T.ns.length + l.length < 1000000000000)
    (hC : Kd.C k107 w0 A l.length l) (hc : l.length ≤ c) (hp : loadP l [0, 1] T = some R) (hroot : 0 ≤ root ∧ root < R.1.length) :
    Calls Try.prog 91 #[.pointer (some ⟨t, 0, none⟩), .agg #[.int .i64 vars, .slice A l.length c, .int .i64 root]] w fun e w' => e = .returned (.int .i64 (rd R.1 root)) ∧ Lo w0 w' t R.2 O ∧ ∀ k, O k → w'.heap[k]? = w.heap[k]? := by
  obtain ⟨hb, S, hT, hS, ho⟩ := h
  refine (load_calls t T vars root A c l R w hT hl (fun w' hf => Kd.C_below hC (hf.to_below hb (fun k hk => (hS k hk).1))) hc hp hroot).mono ?_
  rintro e w' ⟨he, hT', hF⟩
  refine ⟨he, ⟨hF.to_below hb (fun k hk => (hS k hk).1), _, hT'.bound, fun k hk => ⟨hk.1.elim (fun q => (hS k q).1) (fun q => Nat.le_trans hb.size q), hk.2⟩, fun k hk => ⟨fun q => q.1.elim (ho k hk).1 (fun q => by have := (ho k hk).2.2; omega), (ho k hk).2.1, Nat.lt_of_lt_of_le (ho k hk).2.2 hF.size⟩⟩, fun k hk => hF.block k (ho k hk).2.2 (ho k hk).1⟩
theorem Lo.blkNew (h : Lo w0 w t T O) (o : Obj) : (w.alloc o).heap[w.heap.size]? = some o := blk_new w o
theorem Lo.wd (h : Lo w0 w t T O) : ∃ W, W = w := ⟨_, rfl⟩
theorem Lo.sz (h : Lo w0 w t T O) : ∃ g, g = w.heap.size := ⟨_, rfl⟩
theorem Lo.new {w w1 : World} {t : Nat} {T : TB} (hT : Tab w1 (fun k => w.heap.size ≤ k ∧ k < w1.heap.size) t T) (hb : Below w.heap.size w w1) : Lo w w1 t T (fun _ => False) :=
  ⟨hb, _, hT, fun k hk => hk, fun k q => q.elim⟩
end
def tb_Compose_8.T : Bool × List (List Nat × List Nat) := (true, [([], []), ([], []), ([], []), ([1, 2], [1, 2]), ([0, 3, 3], [0, 3]), ([4, 4, 0, 1, 2, 3, 4], [4]), ([5, 0, 1, 2, 3, 4, 5], [])])
def tb_Compose_8.B : List Nat := [0, 0, 0, 6, 15, 31, 63]
theorem tb_Compose_8.tab : rtab .any (opsOf Try.f53 8) = tb_Compose_8.T := by kernel_rfl
theorem tb_Compose_8.bits : waitsOk tb_Compose_8.T.2 tb_Compose_8.B = true := by kernel_rfl
def tb_Compose_4.T : Bool × List (List Nat × List Nat) := (true, [([], []), ([], []), ([0, 1], [0, 1]), ([], []), ([], []), ([3, 4, 2], [3, 4]), ([], []), ([2, 5, 0, 1, 2, 6], [2]), ([6, 5, 7, 0, 1, 2, 3, 4, 5, 6, 7], [5, 6])])
def tb_Compose_4.B : List Nat := [0, 0, 3, 0, 0, 31, 0, 127, 255]
theorem tb_Compose_4.tab : rtab .any (opsOf Try.f53 4) = tb_Compose_4.T := by kernel_rfl
theorem tb_Compose_4.bits : waitsOk tb_Compose_4.T.2 tb_Compose_4.B = true := by kernel_rfl
set_option maxRecDepth 100000 in
set_option maxHeartbeats 4000000 in
theorem compose_invalid (v1 v2 r1 r2 i : Int) (A1 A2 : Option Addr) (c1 c2 : Nat) (l1 l2 : List S107) (w : World) (hC1 : Kd.C k107 w A1 l1.length l1) (hC2 : Kd.C k107 w A2 l2.length l2) (e1 : l1.length ≤ c1) (e2 : l2.length ≤ c2)
    (hv : mask_valid.f 10 [⟨v1, l1, r1⟩, ⟨v2, l2, r2⟩] = some false) :
    Calls Try.prog 53 #[.agg #[.int .i64 v1, .slice A1 l1.length c1, .int .i64 r1], .int .i64 i, .agg #[.int .i64 v2, .slice A2 l2.length c2, .int .i64 r2]] w fun e w' => e = .returned (.tuple #[.agg #[.int .i64 0, .slice none 0 0, .int .i64 0], .int .i64 2]) ∧ Below w.heap.size w w' := by
  have hu := Try.underlying28
  have HC := Aside0.mk (And.intro hC1 hC2)
  have HV := Aside0.mk hv
  clear hC1 hC2 hv
  go_enter Try.func53, Try.ntmps53
  go_wp2_with fail
  obtain ⟨W6, hW6⟩ : ∃ W, W = ((((w.alloc (.cells #[.int .i64 v1, .slice A1 l1.length c1, .int .i64 r1] 28)).alloc (.cells #[.int .i64 i] 3)).alloc (.cells #[.int .i64 v2, .slice A2 l2.length c2, .int .i64 r2] 28)).alloc (.cells #[.int .i64 0, .slice none 0 0, .int .i64 0] 28)).alloc (.cells #[.int .i64 v1, .slice A1 l1.length c1, .int .i64 r1, .int .i64 v2, .slice A2 l2.length c2, .int .i64 r2] 28) := ⟨_, rfl⟩
  have hB6 : Below w.heap.size w W6 := by rw [hW6]; exact below_alloc (below_alloc (below_alloc (below_alloc (below_alloc (Below.refl _ _) _) _) _) _) _
  have hK6 : W6.heap[w.heap.size + 4]? = some (.cells #[.int .i64 v1, .slice A1 l1.length c1, .int .i64 r1, .int .i64 v2, .slice A2 l2.length c2, .int .i64 r2] 28 (0, 0)) := by
    rw [hW6]
    simpa using blk_new ((((w.alloc (.cells #[.int .i64 v1, .slice A1 l1.length c1, .int .i64 r1] 28)).alloc (.cells #[.int .i64 i] 3)).alloc (.cells #[.int .i64 v2, .slice A2 l2.length c2, .int .i64 r2] 28)).alloc (.cells #[.int .i64 0, .slice none 0 0, .int .i64 0] 28)) (.cells #[.int .i64 v1, .slice A1 l1.length c1, .int .i64 r1, .int .i64 v2, .slice A2 l2.length c2, .int .i64 r2] 28)
  have hk6 : W6.heap[w.heap.size + 3]? = some (.cells #[.int .i64 0, .slice none 0 0, .int .i64 0] 28 (0, 0)) := by
    rw [hW6]
    refine blk_alloc ?_ _
    simpa using blk_new (((w.alloc (.cells #[.int .i64 v1, .slice A1 l1.length c1, .int .i64 r1] 28)).alloc (.cells #[.int .i64 i] 3)).alloc (.cells #[.int .i64 v2, .slice A2 l2.length c2, .int .i64 r2] 28)) (.cells #[.int .i64 0, .slice none 0 0, .int .i64 0] 28)
  have hq1 : W6.heap[w.heap.size]? = some (.cells #[.int .i64 v1, .slice A1 l1.length c1, .int .i64 r1] 28 (0, 0)) := by
    rw [hW6]
    exact blk_alloc (blk_alloc (blk_alloc (blk_alloc (blk_new _ _) _) _) _) _
  have hqi : W6.heap[w.heap.size + 1]? = some (.cells #[.int .i64 i] 3 (0, 0)) := by
    rw [hW6]
    refine blk_alloc (blk_alloc (blk_alloc ?_ _) _) _
    simpa using blk_new (w.alloc (.cells #[.int .i64 v1, .slice A1 l1.length c1, .int .i64 r1] 28)) (.cells #[.int .i64 i] 3)
  have hq2 : W6.heap[w.heap.size + 2]? = some (.cells #[.int .i64 v2, .slice A2 l2.length c2, .int .i64 r2] 28 (0, 0)) := by
    rw [hW6]
    refine blk_alloc (blk_alloc ?_ _) _
    simpa using blk_new ((w.alloc (.cells #[.int .i64 v1, .slice A1 l1.length c1, .int .i64 r1] 28)).alloc (.cells #[.int .i64 i] 3)) (.cells #[.int .i64 v2, .slice A2 l2.length c2, .int .i64 r2] 28)
  rw [← hW6]
  clear hW6
  have HB := Aside0.mk hB6
  have HK := Aside0.mk (And.intro hk6 (And.intro hq1 (And.intro hqi hq2)))
  have HT := Aside0.mk (two_C hK6 (Kd.C_below HC.out.1 hB6) e1 (Kd.C_below HC.out.2 hB6) e2)
  clear hB6 hK6 hk6 hq1 hqi hq2
  refine (mask_valid.calls 10 (some ⟨w.heap.size + 4, 0, none⟩) 2 _ false W6 HT.out (Nat.le_refl 2) HV.out).mono ?_
  rintro e w7 ⟨rfl, hB7⟩
  have K7 := Aside0.mk (And.intro (blk_below HK.out.1 hB7) (And.intro (blk_below HK.out.2.1 hB7) (And.intro (blk_below HK.out.2.2.1 hB7) (blk_below HK.out.2.2.2 hB7))))
  have B7 := Aside0.mk (below_then HB.out HB.out.size hB7)
  clear hB7 HB HK HT
  have y0 := (blk_cell K7.out.2.1 0).trans rfl
  have y1 := (blk_cell K7.out.2.2.1 0).trans rfl
  have c0 := (blk_cell K7.out.1 0).trans rfl
  have c1 := (blk_cell K7.out.1 1).trans rfl
  have c2 := (blk_cell K7.out.1 2).trans rfl
  have f0 := blk_frozen K7.out.1 0
  have f1 := blk_frozen K7.out.1 1
  have f2 := blk_frozen K7.out.1 2
  go_wp2
  refine bodyPost_ret (results_ct rfl _ _ (w.heap.size + 3) 28 #[.int .i64 0, .slice none 0 0, .int .i64 0] (0, 0) _ rfl (blk_put (cs := #[.int .i64 0, .slice none 0 0, .int .i64 0]) (blk_put (cs := #[.int .i64 0, .slice none 0 0, .int .i64 0]) (blk_put (cs := #[.int .i64 0, .slice none 0 0, .int .i64 0]) K7.out.1 0 _ rfl) 1 _ rfl) 2 _ rfl) hu rfl (by kernel_rfl)) rfl ?_
  exact ⟨by rfl, below_set (below_set (below_set B7.out (Nat.le_add_right _ 3)) (Nat.le_add_right _ 3)) (Nat.le_add_right _ 3)⟩
set_option maxRecDepth 100000 in
set_option maxHeartbeats 4000000 in
theorem compose_low (v1 v2 r1 r2 i : Int) (A1 A2 : Option Addr) (c1 c2 : Nat) (l1 l2 : List S107) (w : World) (hC1 : Kd.C k107 w A1 l1.length l1) (hC2 : Kd.C k107 w A2 l2.length l2) (e1 : l1.length ≤ c1) (e2 : l2.length ≤ c2)
    (hv : mask_valid.f 10 [⟨v1, l1, r1⟩, ⟨v2, l2, r2⟩] = some true) (hi : i < 0) :
    Calls Try.prog 53 #[.agg #[.int .i64 v1, .slice A1 l1.length c1, .int .i64 r1], .int .i64 i, .agg #[.int .i64 v2, .slice A2 l2.length c2, .int .i64 r2]] w fun e w' => e = .returned (.tuple #[.agg #[.int .i64 0, .slice none 0 0, .int .i64 0], .int .i64 2]) ∧ Below w.heap.size w w' := by
  have hu := Try.underlying28
  have HC := Aside0.mk (And.intro hC1 hC2)
  have HV := Aside0.mk hv
  have q0 : decide (i < 0) = true := decide_eq_true hi
  have q1 : (i < 0) = True := eq_true hi
  clear hC1 hC2 hv
  go_enter Try.func53, Try.ntmps53
  go_wp2_with fail
  obtain ⟨W6, hW6⟩ : ∃ W, W = ((((w.alloc (.cells #[.int .i64 v1, .slice A1 l1.length c1, .int .i64 r1] 28)).alloc (.cells #[.int .i64 i] 3)).alloc (.cells #[.int .i64 v2, .slice A2 l2.length c2, .int .i64 r2] 28)).alloc (.cells #[.int .i64 0, .slice none 0 0, .int .i64 0] 28)).alloc (.cells #[.int .i64 v1, .slice A1 l1.length c1, .int .i64 r1, .int .i64 v2, .slice A2 l2.length c2, .int .i64 r2] 28) := ⟨_, rfl⟩
  have hB6 : Below w.heap.size w W6 := by rw [hW6]; exact below_alloc (below_alloc (below_alloc (below_alloc (below_alloc (Below.refl _ _) _) _) _) _) _
  have hK6 : W6.heap[w.heap.size + 4]? = some (.cells #[.int .i64 v1, .slice A1 l1.length c1, .int .i64 r1, .int .i64 v2, .slice A2 l2.length c2, .int .i64 r2] 28 (0, 0)) := by
    rw [hW6]
    simpa using blk_new ((((w.alloc (.cells #[.int .i64 v1, .slice A1 l1.length c1, .int .i64 r1] 28)).alloc (.cells #[.int .i64 i] 3)).alloc (.cells #[.int .i64 v2, .slice A2 l2.length c2, .int .i64 r2] 28)).alloc (.cells #[.int .i64 0, .slice none 0 0, .int .i64 0] 28)) (.cells #[.int .i64 v1, .slice A1 l1.length c1, .int .i64 r1, .int .i64 v2, .slice A2 l2.length c2, .int .i64 r2] 28)
  have hk6 : W6.heap[w.heap.size + 3]? = some (.cells #[.int .i64 0, .slice none 0 0, .int .i64 0] 28 (0, 0)) := by
    rw [hW6]
    refine blk_alloc ?_ _
    simpa using blk_new (((w.alloc (.cells #[.int .i64 v1, .slice A1 l1.length c1, .int .i64 r1] 28)).alloc (.cells #[.int .i64 i] 3)).alloc (.cells #[.int .i64 v2, .slice A2 l2.length c2, .int .i64 r2] 28)) (.cells #[.int .i64 0, .slice none 0 0, .int .i64 0] 28)
  have hq1 : W6.heap[w.heap.size]? = some (.cells #[.int .i64 v1, .slice A1 l1.length c1, .int .i64 r1] 28 (0, 0)) := by
    rw [hW6]
    exact blk_alloc (blk_alloc (blk_alloc (blk_alloc (blk_new _ _) _) _) _) _
  have hqi : W6.heap[w.heap.size + 1]? = some (.cells #[.int .i64 i] 3 (0, 0)) := by
    rw [hW6]
    refine blk_alloc (blk_alloc (blk_alloc ?_ _) _) _
    simpa using blk_new (w.alloc (.cells #[.int .i64 v1, .slice A1 l1.length c1, .int .i64 r1] 28)) (.cells #[.int .i64 i] 3)
  have hq2 : W6.heap[w.heap.size + 2]? = some (.cells #[.int .i64 v2, .slice A2 l2.length c2, .int .i64 r2] 28 (0, 0)) := by
    rw [hW6]
    refine blk_alloc (blk_alloc ?_ _) _
    simpa using blk_new ((w.alloc (.cells #[.int .i64 v1, .slice A1 l1.length c1, .int .i64 r1] 28)).alloc (.cells #[.int .i64 i] 3)) (.cells #[.int .i64 v2, .slice A2 l2.length c2, .int .i64 r2] 28)
  rw [← hW6]
  clear hW6
  have HB := Aside0.mk hB6
  have HK := Aside0.mk (And.intro hk6 (And.intro hq1 (And.intro hqi hq2)))
  have HT := Aside0.mk (two_C hK6 (Kd.C_below HC.out.1 hB6) e1 (Kd.C_below HC.out.2 hB6) e2)
  clear hB6 hK6 hk6 hq1 hqi hq2
  refine (mask_valid.calls 10 (some ⟨w.heap.size + 4, 0, none⟩) 2 _ true W6 HT.out (Nat.le_refl 2) HV.out).mono ?_
  rintro e w7 ⟨rfl, hB7⟩
  have K7 := Aside0.mk (And.intro (blk_below HK.out.1 hB7) (And.intro (blk_below HK.out.2.1 hB7) (And.intro (blk_below HK.out.2.2.1 hB7) (blk_below HK.out.2.2.2 hB7))))
  have B7 := Aside0.mk (below_then HB.out HB.out.size hB7)
  clear hB7 HB HK HT
  have y0 := (blk_cell K7.out.2.1 0).trans rfl
  have y1 := (blk_cell K7.out.2.2.1 0).trans rfl
  have c0 := (blk_cell K7.out.1 0).trans rfl
  have c1 := (blk_cell K7.out.1 1).trans rfl
  have c2 := (blk_cell K7.out.1 2).trans rfl
  have f0 := blk_frozen K7.out.1 0
  have f1 := blk_frozen K7.out.1 1
  have f2 := blk_frozen K7.out.1 2
  go_wp2
  refine bodyPost_ret (results_ct rfl _ _ (w.heap.size + 3) 28 #[.int .i64 0, .slice none 0 0, .int .i64 0] (0, 0) _ rfl (blk_put (cs := #[.int .i64 0, .slice none 0 0, .int .i64 0]) (blk_put (cs := #[.int .i64 0, .slice none 0 0, .int .i64 0]) (blk_put (cs := #[.int .i64 0, .slice none 0 0, .int .i64 0]) K7.out.1 0 _ rfl) 1 _ rfl) 2 _ rfl) hu rfl (by kernel_rfl)) rfl ?_
  exact ⟨by rfl, below_set (below_set (below_set B7.out (Nat.le_add_right _ 3)) (Nat.le_add_right _ 3)) (Nat.le_add_right _ 3)⟩
set_option maxRecDepth 100000 in
set_option maxHeartbeats 4000000 in
theorem compose_high (v1 v2 r1 r2 i : Int) (A1 A2 : Option Addr) (c1 c2 : Nat) (l1 l2 : List S107) (w : World) (hC1 : Kd.C k107 w A1 l1.length l1) (hC2 : Kd.C k107 w A2 l2.length l2) (e1 : l1.length ≤ c1) (e2 : l2.length ≤ c2)
    (hv : mask_valid.f 10 [⟨v1, l1, r1⟩, ⟨v2, l2, r2⟩] = some true) (h0 : 0 ≤ i) (hi : v1 ≤ i) :
    Calls Try.prog 53 #[.agg #[.int .i64 v1, .slice A1 l1.length c1, .int .i64 r1], .int .i64 i, .agg #[.int .i64 v2, .slice A2 l2.length c2, .int .i64 r2]] w fun e w' => e = .returned (.tuple #[.agg #[.int .i64 0, .slice none 0 0, .int .i64 0], .int .i64 2]) ∧ Below w.heap.size w w' := by
  have hu := Try.underlying28
  have HC := Aside0.mk (And.intro hC1 hC2)
  have HV := Aside0.mk hv
  have q0 : decide (i < 0) = false := decide_eq_false (by omega)
  have q1 : (i < 0) = False := eq_false (by omega)
  have q2 : decide (i ≥ v1) = true := decide_eq_true hi
  have q3 : (v1 ≤ i) = True := eq_true hi
  have q4 : decide (v1 ≤ i) = true := decide_eq_true hi
  clear hC1 hC2 hv
  go_enter Try.func53, Try.ntmps53
  go_wp2_with fail
  obtain ⟨W6, hW6⟩ : ∃ W, W = ((((w.alloc (.cells #[.int .i64 v1, .slice A1 l1.length c1, .int .i64 r1] 28)).alloc (.cells #[.int .i64 i] 3)).alloc (.cells #[.int .i64 v2, .slice A2 l2.length c2, .int .i64 r2] 28)).alloc (.cells #[.int .i64 0, .slice none 0 0, .int .i64 0] 28)).alloc (.cells #[.int .i64 v1, .slice A1 l1.length c1, .int .i64 r1, .int .i64 v2, .slice A2 l2.length c2, .int .i64 r2] 28) := ⟨_, rfl⟩
  have hB6 : Below w.heap.size w W6 := by rw [hW6]; exact below_alloc (below_alloc (below_alloc (below_alloc (below_alloc (Below.refl _ _) _) _) _) _) _
  have hK6 : W6.heap[w.heap.size + 4]? = some (.cells #[.int .i64 v1, .slice A1 l1.length c1, .int .i64 r1, .int .i64 v2, .slice A2 l2.length c2, .int .i64 r2] 28 (0, 0)) := by
    rw [hW6]
    simpa using blk_new ((((w.alloc (.cells #[.int .i64 v1, .slice A1 l1.length c1, .int .i64 r1] 28)).alloc (.cells #[.int .i64 i] 3)).alloc (.cells #[.int .i64 v2, .slice A2 l2.length c2, .int .i64 r2] 28)).alloc (.cells #[.int .i64 0, .slice none 0 0, .int .i64 0] 28)) (.cells #[.int .i64 v1, .slice A1 l1.length c1, .int .i64 r1, .int .i64 v2, .slice A2 l2.length c2, .int .i64 r2] 28)
  have hk6 : W6.heap[w.heap.size + 3]? = some (.cells #[.int .i64 0, .slice none 0 0, .int .i64 0] 28 (0, 0)) := by
    rw [hW6]
    refine blk_alloc ?_ _
    simpa using blk_new (((w.alloc (.cells #[.int .i64 v1, .slice A1 l1.length c1, .int .i64 r1] 28)).alloc (.cells #[.int .i64 i] 3)).alloc (.cells #[.int .i64 v2, .slice A2 l2.length c2, .int .i64 r2] 28)) (.cells #[.int .i64 0, .slice none 0 0, .int .i64 0] 28)
  have hq1 : W6.heap[w.heap.size]? = some (.cells #[.int .i64 v1, .slice A1 l1.length c1, .int .i64 r1] 28 (0, 0)) := by
    rw [hW6]
    exact blk_alloc (blk_alloc (blk_alloc (blk_alloc (blk_new _ _) _) _) _) _
  have hqi : W6.heap[w.heap.size + 1]? = some (.cells #[.int .i64 i] 3 (0, 0)) := by
    rw [hW6]
    refine blk_alloc (blk_alloc (blk_alloc ?_ _) _) _
    simpa using blk_new (w.alloc (.cells #[.int .i64 v1, .slice A1 l1.length c1, .int .i64 r1] 28)) (.cells #[.int .i64 i] 3)
  have hq2 : W6.heap[w.heap.size + 2]? = some (.cells #[.int .i64 v2, .slice A2 l2.length c2, .int .i64 r2] 28 (0, 0)) := by
    rw [hW6]
    refine blk_alloc (blk_alloc ?_ _) _
    simpa using blk_new ((w.alloc (.cells #[.int .i64 v1, .slice A1 l1.length c1, .int .i64 r1] 28)).alloc (.cells #[.int .i64 i] 3)) (.cells #[.int .i64 v2, .slice A2 l2.length c2, .int .i64 r2] 28)
  rw [← hW6]
  clear hW6
  have HB := Aside0.mk hB6
  have HK := Aside0.mk (And.intro hk6 (And.intro hq1 (And.intro hqi hq2)))
  have HT := Aside0.mk (two_C hK6 (Kd.C_below HC.out.1 hB6) e1 (Kd.C_below HC.out.2 hB6) e2)
  clear hB6 hK6 hk6 hq1 hqi hq2
  refine (mask_valid.calls 10 (some ⟨w.heap.size + 4, 0, none⟩) 2 _ true W6 HT.out (Nat.le_refl 2) HV.out).mono ?_
  rintro e w7 ⟨rfl, hB7⟩
  have K7 := Aside0.mk (And.intro (blk_below HK.out.1 hB7) (And.intro (blk_below HK.out.2.1 hB7) (And.intro (blk_below HK.out.2.2.1 hB7) (blk_below HK.out.2.2.2 hB7))))
  have B7 := Aside0.mk (below_then HB.out HB.out.size hB7)
  clear hB7 HB HK HT
  have y0 := (blk_cell K7.out.2.1 0).trans rfl
  have y1 := (blk_cell K7.out.2.2.1 0).trans rfl
  have c0 := (blk_cell K7.out.1 0).trans rfl
  have c1 := (blk_cell K7.out.1 1).trans rfl
  have c2 := (blk_cell K7.out.1 2).trans rfl
  have f0 := blk_frozen K7.out.1 0
  have f1 := blk_frozen K7.out.1 1
  have f2 := blk_frozen K7.out.1 2
  go_wp2
  refine bodyPost_ret (results_ct rfl _ _ (w.heap.size + 3) 28 #[.int .i64 0, .slice none 0 0, .int .i64 0] (0, 0) _ rfl (blk_put (cs := #[.int .i64 0, .slice none 0 0, .int .i64 0]) (blk_put (cs := #[.int .i64 0, .slice none 0 0, .int .i64 0]) (blk_put (cs := #[.int .i64 0, .slice none 0 0, .int .i64 0]) K7.out.1 0 _ rfl) 1 _ rfl) 2 _ rfl) hu rfl (by kernel_rfl)) rfl ?_
  exact ⟨by rfl, below_set (below_set (below_set B7.out (Nat.le_add_right _ 3)) (Nat.le_add_right _ 3)) (Nat.le_add_right _ 3)⟩
set_option maxRecDepth 100000 in
set_option maxHeartbeats 8000000 in
theorem compose_ok (v r1 r2 i : Int) (A1 A2 : Option Addr) (c1 c2 : Nat) (l1 l2 : List S107) (w : World) (hC1 : Kd.C k107 w A1 l1.length l1) (hC2 : Kd.C k107 w A2 l2.length l2) (e1 : l1.length ≤ c1) (e2 : l2.length ≤ c2)
    (hv : mask_valid.f 10 [⟨v, l1, r1⟩, ⟨v, l2, r2⟩] = some true) (i0 : 0 ≤ i) (i1 : i < v) (a b : List Int) (T1 T2 T4 : TB) (p r : Int) (k : Nat) (L4 : SL) (A4 : AL) (s : MS)
    (h1 : loadP l1 [0, 1] (T0 v) = some (a, T1)) (h2 : loadP l2 [0, 1] T1 = some (b, T2)) (h4 : compP i (rd b r2) k T2 [] [] (rd a r1) = some (p, T4, L4, A4)) (h5 : maskP T4 64 M0 p = some (r, s))
    (g1 : 0 ≤ r1 ∧ r1 < a.length) (g2 : 0 ≤ r2 ∧ r2 < b.length) (n1 : 2 + l1.length < 1000000000000) (n2 : T1.ns.length + l2.length < 1000000000000) (n4 : T4.ns.length < 1000000000000) (n5 : s.out.length < 1000000000000) (hv4 : T4.vars = v) :
    Calls Try.prog 53 #[.agg #[.int .i64 v, .slice A1 l1.length c1, .int .i64 r1], .int .i64 i, .agg #[.int .i64 v, .slice A2 l2.length c2, .int .i64 r2]] w fun e w' => ∃ u : Value, e = .returned (.tuple #[.agg #[.int .i64 v, u, .int .i64 r], .int .i64 0]) ∧ Kd.R k107 107 w' w.heap.size (fun _ => True) u s.out ∧ Below w.heap.size w w' := by
  have hu := Try.underlying28
  have HC := Aside0.mk (And.intro hC1 hC2)
  have HV := Aside0.mk hv
  have H1 := Aside0.mk h1
  have H2 := Aside0.mk h2
  have H4 := Aside0.mk h4
  have H5 := Aside0.mk h5
  have G := Aside0.mk (And.intro g1 g2)
  have HV4 := Aside0.mk hv4
  have NN := Aside0.mk (And.intro n1 (And.intro n2 (And.intro n4 n5)))
  have q0 : decide (i < 0) = false := decide_eq_false (by omega)
  have q1 : (i < 0) = False := eq_false (by omega)
  have q2 : decide (i ≥ v) = false := decide_eq_false (by omega)
  have q3 : (v ≤ i) = False := eq_false (by omega)
  have q4 : decide (v ≤ i) = false := decide_eq_false (by omega)
  clear hC1 hC2 hv h1 h2 h4 h5 g1 g2 n1 n2 n4 n5 hv4 i0 i1
  go_enter Try.func53, Try.ntmps53
  go_wp2_with fail
  obtain ⟨W6, hW6⟩ : ∃ W, W = ((((w.alloc (.cells #[.int .i64 v, .slice A1 l1.length c1, .int .i64 r1] 28)).alloc (.cells #[.int .i64 i] 3)).alloc (.cells #[.int .i64 v, .slice A2 l2.length c2, .int .i64 r2] 28)).alloc (.cells #[.int .i64 0, .slice none 0 0, .int .i64 0] 28)).alloc (.cells #[.int .i64 v, .slice A1 l1.length c1, .int .i64 r1, .int .i64 v, .slice A2 l2.length c2, .int .i64 r2] 28) := ⟨_, rfl⟩
  have hB6 : Below w.heap.size w W6 := by rw [hW6]; exact below_alloc (below_alloc (below_alloc (below_alloc (below_alloc (Below.refl _ _) _) _) _) _) _
  have hK6 : W6.heap[w.heap.size + 4]? = some (.cells #[.int .i64 v, .slice A1 l1.length c1, .int .i64 r1, .int .i64 v, .slice A2 l2.length c2, .int .i64 r2] 28 (0, 0)) := by
    rw [hW6]
    simpa using blk_new ((((w.alloc (.cells #[.int .i64 v, .slice A1 l1.length c1, .int .i64 r1] 28)).alloc (.cells #[.int .i64 i] 3)).alloc (.cells #[.int .i64 v, .slice A2 l2.length c2, .int .i64 r2] 28)).alloc (.cells #[.int .i64 0, .slice none 0 0, .int .i64 0] 28)) (.cells #[.int .i64 v, .slice A1 l1.length c1, .int .i64 r1, .int .i64 v, .slice A2 l2.length c2, .int .i64 r2] 28)
  have hk6 : W6.heap[w.heap.size + 3]? = some (.cells #[.int .i64 0, .slice none 0 0, .int .i64 0] 28 (0, 0)) := by
    rw [hW6]
    refine blk_alloc ?_ _
    simpa using blk_new (((w.alloc (.cells #[.int .i64 v, .slice A1 l1.length c1, .int .i64 r1] 28)).alloc (.cells #[.int .i64 i] 3)).alloc (.cells #[.int .i64 v, .slice A2 l2.length c2, .int .i64 r2] 28)) (.cells #[.int .i64 0, .slice none 0 0, .int .i64 0] 28)
  have hq1 : W6.heap[w.heap.size]? = some (.cells #[.int .i64 v, .slice A1 l1.length c1, .int .i64 r1] 28 (0, 0)) := by
    rw [hW6]
    exact blk_alloc (blk_alloc (blk_alloc (blk_alloc (blk_new _ _) _) _) _) _
  have hqi : W6.heap[w.heap.size + 1]? = some (.cells #[.int .i64 i] 3 (0, 0)) := by
    rw [hW6]
    refine blk_alloc (blk_alloc (blk_alloc ?_ _) _) _
    simpa using blk_new (w.alloc (.cells #[.int .i64 v, .slice A1 l1.length c1, .int .i64 r1] 28)) (.cells #[.int .i64 i] 3)
  have hq2 : W6.heap[w.heap.size + 2]? = some (.cells #[.int .i64 v, .slice A2 l2.length c2, .int .i64 r2] 28 (0, 0)) := by
    rw [hW6]
    refine blk_alloc (blk_alloc ?_ _) _
    simpa using blk_new ((w.alloc (.cells #[.int .i64 v, .slice A1 l1.length c1, .int .i64 r1] 28)).alloc (.cells #[.int .i64 i] 3)) (.cells #[.int .i64 v, .slice A2 l2.length c2, .int .i64 r2] 28)
  rw [← hW6]
  clear hW6
  have HB := Aside0.mk hB6
  have HK := Aside0.mk (And.intro hk6 (And.intro hq1 (And.intro hqi hq2)))
  have HT := Aside0.mk (two_C hK6 (Kd.C_below HC.out.1 hB6) e1 (Kd.C_below HC.out.2 hB6) e2)
  clear hB6 hK6 hk6 hq1 hqi hq2
  refine (mask_valid.calls 10 (some ⟨w.heap.size + 4, 0, none⟩) 2 _ true W6 HT.out (Nat.le_refl 2) HV.out).mono ?_
  rintro e w7 ⟨rfl, hB7⟩
  have K7 := Aside0.mk (And.intro (blk_below HK.out.1 hB7) (And.intro (blk_below HK.out.2.1 hB7) (And.intro (blk_below HK.out.2.2.1 hB7) (blk_below HK.out.2.2.2 hB7))))
  have B7 := Aside0.mk (below_then HB.out HB.out.size hB7)
  clear hB7 HB HK HT
  have y0 := (blk_cell K7.out.2.1 0).trans rfl
  have y1 := (blk_cell K7.out.2.2.1 0).trans rfl
  go_wp2_with fail
  refine (newTable_calls v w7).mono ?_
  rintro e w8 ⟨t, rfl, hT8, hB8⟩
  have hLo := (Lo.new hT8 hB8).alloc (.cells #[.pointer (some ⟨t, 0, none⟩)] 109)
  have K8 := Aside0.mk (And.intro (blk_below K7.out.1 hB8) (And.intro (blk_below K7.out.2.1 hB8) (And.intro (blk_below K7.out.2.2.1 hB8) (blk_below K7.out.2.2.2 hB8))))
  have C7 := Aside0.mk (And.intro (Kd.C_below HC.out.1 B7.out) (Kd.C_below HC.out.2 B7.out))
  have S78 := Aside0.mk hB8.size
  clear hT8 hB8 y0 y1
  go_wp2
  obtain ⟨W9, hW9⟩ : ∃ W, W = w8.alloc (.cells #[.pointer (some ⟨t, 0, none⟩)] 109) := ⟨_, rfl⟩
  rw [← hW9] at hLo
  rw [← hW9]
  have hbt : W9.heap[w8.heap.size]? = some (.cells #[.pointer (some ⟨t, 0, none⟩)] 109 (0, 0)) := by rw [hW9]; exact blk_new _ _
  have BT := Aside0.mk hbt
  have K9 := Aside0.mk (show W9.heap[w.heap.size + 3]? = _ ∧ W9.heap[w.heap.size]? = _ ∧ W9.heap[w.heap.size + 1]? = _ ∧ W9.heap[w.heap.size + 2]? = _ from by rw [hW9]; exact ⟨blk_alloc K8.out.1 _, blk_alloc K8.out.2.1 _, blk_alloc K8.out.2.2.1 _, blk_alloc K8.out.2.2.2 _⟩)
  have H := Aside0.mk hLo.drew
  clear hW9 hbt hLo
  have y10 := (blk_cell K9.out.2.1 0).trans rfl
  have y11 := (blk_cell K9.out.2.1 1).trans rfl
  have y12 := (blk_cell K9.out.2.1 2).trans rfl
  have y20 := (blk_cell K9.out.2.2.2 0).trans rfl
  have y21 := (blk_cell K9.out.2.2.2 1).trans rfl
  have y22 := (blk_cell K9.out.2.2.2 2).trans rfl
  have yt := (blk_cell BT.out 0).trans rfl
  replace BT : Aside0 (W9.drew.heap[w8.heap.size]? = some (.cells #[.pointer (some ⟨t, 0, none⟩)] 109 (0, 0))) := ⟨BT.out⟩
  refine start_ (n := 9) (S := fun w' => (w'.cell? ⟨w8.heap.size, 0, none⟩ = some (.pointer (some ⟨t, 0, none⟩))) ∧ (w'.cell? ⟨w.heap.size, 0, none⟩ = some (.int .i64 v)) ∧ (w'.cell? ⟨w.heap.size, 1, none⟩ = some (.slice A1 l1.length c1)) ∧ (w'.cell? ⟨w.heap.size, 2, none⟩ = some (.int .i64 r1)) ∧ (w'.cell? ⟨w.heap.size + 2, 0, none⟩ = some (.int .i64 v)) ∧ (w'.cell? ⟨w.heap.size + 2, 1, none⟩ = some (.slice A2 l2.length c2)) ∧ (w'.cell? ⟨w.heap.size + 2, 2, none⟩ = some (.int .i64 r2))) (ds := [8]) #[false, false, false, false, false, false, false, false, false] (by kernel_rfl) rfl rfl ⟨yt, y10, y11, y12, y20, y21, y22⟩ (fun hHeld => ?_)
  refine with_tabW tb_Compose_4.tab tb_Compose_4.bits (fun HT_ HW_ => ?_)
  refine take_ (i := 0) (N := some 33) (v := ?_) (a' := ?_) #[true, false, false, false, false, false, false, false, false] rfl rfl (take_ofW HT_.out HW_.out (by kernel_rfl)) (fun _ _ _ h => h) (Or.inl ⟨by rfl, ?_⟩) hHeld ?_ ?_
  rotate_left
  · rintro w' ⟨s0, s1, s2, s3, s4, s5, s6⟩
    go_simp
    with_reducible rfl
  rotate_left
  · simp only [Act.put, List.setIfInBounds_toArray, List.set_cons_zero, List.set_cons_succ, i64_w, i32_w]
    rfl
  refine take_ (i := 1) (N := some 34) (v := ?_) (a' := ?_) #[true, true, false, false, false, false, false, false, false] rfl rfl (take_ofW HT_.out HW_.out (by kernel_rfl)) (fun _ _ _ h => h) (Or.inl ⟨by rfl, ?_⟩) hHeld ?_ ?_
  rotate_left
  · rintro w' ⟨s0, s1, s2, s3, s4, s5, s6⟩
    go_simp
    with_reducible rfl
  rotate_left
  · simp only [Act.put, List.setIfInBounds_toArray, List.set_cons_zero, List.set_cons_succ, i64_w, i32_w]
    rfl
  refine take_ (i := 3) (N := some 36) (v := ?_) (a' := ?_) #[true, true, false, true, false, false, false, false, false] rfl rfl (take_ofW HT_.out HW_.out (by kernel_rfl)) (fun _ _ _ h => h) (Or.inl ⟨by rfl, ?_⟩) hHeld ?_ ?_
  rotate_left
  · rintro w' ⟨s0, s1, s2, s3, s4, s5, s6⟩
    go_simp
    with_reducible rfl
  rotate_left
  · simp only [Act.put, List.setIfInBounds_toArray, List.set_cons_zero, List.set_cons_succ, i64_w, i32_w]
    rfl
  refine take_ (i := 4) (N := some 37) (v := ?_) (a' := ?_) #[true, true, false, true, true, false, false, false, false] rfl rfl (take_ofW HT_.out HW_.out (by kernel_rfl)) (fun _ _ _ h => h) (Or.inl ⟨by rfl, ?_⟩) hHeld ?_ ?_
  rotate_left
  · rintro w' ⟨s0, s1, s2, s3, s4, s5, s6⟩
    go_simp
    with_reducible rfl
  rotate_left
  · simp only [Act.put, List.setIfInBounds_toArray, List.set_cons_zero, List.set_cons_succ, i64_w, i32_w]
    rfl
  refine two_ (i := 2) (j := 6) (Ni := some 35) (Nj := some 10) #[true, true, true, true, true, false, false, false, false] #[true, true, false, true, true, false, true, false, false] rfl rfl rfl rfl (two_of HT_.out (by kernel_rfl)) (by decide) (by decide) (fun K hK => ?_) (fun K hK => ?_)
  · refine goes_ Try.func91 (by kernel_rfl) rfl #[.pointer (some ⟨t, 0, none⟩), .agg #[.int .i64 v, .slice A1 l1.length c1, .int .i64 r1]] (by rfl) rfl rfl (by simp only [List.map_toArray, List.map_cons, List.map_nil]; rfl) ?_
    refine (H.out.load v r1 A1 c1 l1 _ NN.out.1 C7.out.1 e1 H1.out G.out.1).mono ?_
    rintro e wl ⟨rfl, hN, hbk⟩
    refine ⟨_, rfl, ?_⟩
    try (replace BW := Aside0.mk ((hbk gw (.inr rfl)).trans BW.out))
    replace BT := Aside0.mk ((hbk w8.heap.size (by first | exact .inr rfl | exact .inl (.inr rfl))).trans BT.out)
    replace H := Aside0.mk hN
    clear hN hbk
    refine hK.out _ _ ⟨(blk_cell BT.out 0).trans rfl, (blk_cell (blk_below K7.out.2.1 H.out.bel) 0).trans rfl, (blk_cell (blk_below K7.out.2.1 H.out.bel) 1).trans rfl, (blk_cell (blk_below K7.out.2.1 H.out.bel) 2).trans rfl, (blk_cell (blk_below K7.out.2.2.2 H.out.bel) 0).trans rfl, (blk_cell (blk_below K7.out.2.2.2 H.out.bel) 1).trans rfl, (blk_cell (blk_below K7.out.2.2.2 H.out.bel) 2).trans rfl⟩ (fun hHeld => ?_)
    clear hK K
    refine norm_ (a' := ?_) ?_ ?_
    rotate_left
    · show Act.put _ (some 35) _ = _
      (try simp only [Act.put, List.setIfInBounds_toArray, List.set_cons_zero, List.set_cons_succ, i64_w, i32_w])
      rfl
    refine two_ (i := 5) (j := 6) (Ni := some 38) (Nj := some 10) #[true, true, true, true, true, true, false, false, false] #[true, true, true, true, true, false, true, false, false] rfl rfl rfl rfl (two_of HT_.out (by kernel_rfl)) (by decide) (by decide) (fun K hK => ?_) (fun K hK => ?_)
    · refine goes_ Try.func91 (by kernel_rfl) rfl #[.pointer (some ⟨t, 0, none⟩), .agg #[.int .i64 v, .slice A2 l2.length c2, .int .i64 r2]] (by rfl) rfl rfl (by simp only [List.map_toArray, List.map_cons, List.map_nil]; rfl) ?_
      refine (H.out.load v r2 A2 c2 l2 _ NN.out.2.1 C7.out.2 e2 H2.out G.out.2).mono ?_
      rintro e wl ⟨rfl, hN, hbk⟩
      refine ⟨_, rfl, ?_⟩
      try (replace BW := Aside0.mk ((hbk gw (.inr rfl)).trans BW.out))
      replace BT := Aside0.mk ((hbk w8.heap.size (by first | exact .inr rfl | exact .inl (.inr rfl))).trans BT.out)
      replace H := Aside0.mk hN
      clear hN hbk
      refine hK.out _ _ ⟨(blk_cell BT.out 0).trans rfl, (blk_cell (blk_below K7.out.2.1 H.out.bel) 0).trans rfl, (blk_cell (blk_below K7.out.2.1 H.out.bel) 1).trans rfl, (blk_cell (blk_below K7.out.2.1 H.out.bel) 2).trans rfl, (blk_cell (blk_below K7.out.2.2.2 H.out.bel) 0).trans rfl, (blk_cell (blk_below K7.out.2.2.2 H.out.bel) 1).trans rfl, (blk_cell (blk_below K7.out.2.2.2 H.out.bel) 2).trans rfl⟩ (fun hHeld => ?_)
      clear hK K
      refine norm_ (a' := ?_) ?_ ?_
      rotate_left
      · show Act.put _ (some 38) _ = _
        (try simp only [Act.put, List.setIfInBounds_toArray, List.set_cons_zero, List.set_cons_succ, i64_w, i32_w])
        rfl
      refine one_ (i := 6) (N := some 10) #[true, true, true, true, true, true, true, false, false] rfl rfl (one_of HT_.out (by kernel_rfl)) (by decide) (fun K hK => ?_)
      refine value_ (w1 := ?_) (v := ?_) (by rfl) rfl ?_ ?_
      rotate_left 2
      · go_simp
        constructor
        · rfl
        · rfl
      obtain ⟨gw, hgw⟩ := H.out.sz
      have BW := Aside0.mk (H.out.blkNew (.cells #[.int .i64 0] 3))
      replace BT := Aside0.mk (blk_alloc BT.out (.cells #[.int .i64 0] 3))
      replace H := Aside0.mk (H.out.alloc (.cells #[.int .i64 0] 3))
      rw [← hgw] at BW H
      first | rw [← hgw] | (replace hgw : gw = W9.heap.size := hgw; rw [← hgw])
      clear hgw
      refine hK.out _ _ ⟨(blk_cell BT.out 0).trans rfl, (blk_cell (blk_below K7.out.2.1 H.out.bel) 0).trans rfl, (blk_cell (blk_below K7.out.2.1 H.out.bel) 1).trans rfl, (blk_cell (blk_below K7.out.2.1 H.out.bel) 2).trans rfl, (blk_cell (blk_below K7.out.2.2.2 H.out.bel) 0).trans rfl, (blk_cell (blk_below K7.out.2.2.2 H.out.bel) 1).trans rfl, (blk_cell (blk_below K7.out.2.2.2 H.out.bel) 2).trans rfl⟩ (fun hHeld => ?_)
      clear hK K
      refine norm_ (a' := ?_) ?_ ?_
      rotate_left
      · show Act.put _ (some 10) _ = _
        (try simp only [Act.put, List.setIfInBounds_toArray, List.set_cons_zero, List.set_cons_succ, i64_w, i32_w])
        rfl
      refine pure_ (i := 7) (N := some 9) (v := ?_) (a' := ?_) #[true, true, true, true, true, true, true, true, false] rfl rfl (any_of HT_.out (by kernel_rfl)) (fun _ _ _ h => h) (Or.inl ⟨by rfl, ?_⟩) ?_ ?_
      rotate_left
      · intro w'
        go_simp
        with_reducible rfl
      rotate_left
      · simp only [Act.put, List.setIfInBounds_toArray, List.set_cons_zero, List.set_cons_succ, i64_w, i32_w]
        rfl
      refine last_ (i := 8) (N := none) #[true, true, true, true, true, true, true, true, true] rfl rfl (one_of HT_.out (by kernel_rfl)) (by decide) (fun K hK => ?_)
      have q0 := (blk_cell BW.out 0).trans rfl
      have fq0 := blk_frozen BW.out 0
      refine skip_ (w1 := ?_) (by rfl) rfl ?_ ?_
      rotate_left
      · go_simp
        rfl
      have BW2 := Aside0.mk (blk_put (cs := #[.int .i64 0]) BW.out 0 (.int .i64 (rd b r2)) rfl)
      have hne : w8.heap.size ≠ gw := fun e => by have h1 := BT.out; rw [e, BW.out] at h1; cases h1
      replace BT := Aside0.mk ((Below.heap_setCell _ ⟨gw, 0, none⟩ (.int .i64 (rd b r2)) w8.heap.size hne).trans BT.out)
      replace H := Aside0.mk (H.out.set gw 0 (.int .i64 (rd b r2)) (.inr rfl))
      clear q0 fq0 BW
      refine hK.out _ _ ?_
      clear hK K
      refine norm_ (a' := ?_) ?_ ?_
      rotate_left
      · rfl
      refine done_ (done_of HT_.out (by kernel_rfl)) ?_
      have hmm := @run_makeMap Try.prog
      obtain ⟨W10, hW10⟩ := H.out.wd
      rw [← hW10] at H BT BW2
      rw [← hW10]
      clear hW10
      go_wp2
      obtain ⟨W15, hW15⟩ : ∃ W, W = ((((W10.alloc (.map #[] 0)).alloc (.map #[] 0)).alloc (.cells #[.map (some W10.heap.size)] 121)).alloc (.cells #[.map (some (W10.heap.size + 1))] 122)).alloc (.cells #[.func (.func 103) #[] #[.pointer (some ⟨w8.heap.size, 0, none⟩), .pointer (some ⟨w.heap.size + 1, 0, none⟩), .pointer (some ⟨W10.heap.size + 3, 0, none⟩), .pointer (some ⟨gw, 0, none⟩), .pointer (some ⟨W10.heap.size + 2, 0, none⟩), .pointer (some ⟨W10.heap.size + 4, 0, none⟩)]] 123) := ⟨_, rfl⟩
      have hB15 : Below W10.heap.size W10 W15 := by rw [hW15]; exact below_alloc (below_alloc (below_alloc (below_alloc (below_alloc (Below.refl _ _) _) _) _) _) _
      have hM1 : MapIs encN (Value.int .i64) W15 W10.heap.size ([] : SL) := by
        rw [hW15]
        exact (MapIs.made encN (Value.int .i64) W10).move (((Below.heap_alloc _ _ _ (by simp <;> omega)).trans (Below.heap_alloc _ _ _ (by simp <;> omega))).trans (((Below.heap_alloc _ _ _ (by simp <;> omega))).trans (Below.heap_alloc _ _ _ (by simp))))
      have hM2 : MapIs (Value.int .i64) (Value.int .i64) W15 (W10.heap.size + 1) ([] : AL) := by
        have hm := MapIs.made (α := Int) (β := Int) (Value.int .i64) (Value.int .i64) (W10.alloc (.map #[] 0))
        rw [show (W10.alloc (.map #[] 0)).heap.size = W10.heap.size + 1 by simp] at hm
        rw [hW15]
        exact hm.move ((Below.heap_alloc _ _ _ (by simp <;> omega)).trans (((Below.heap_alloc _ _ _ (by simp <;> omega))).trans (Below.heap_alloc _ _ _ (by simp))))
      have hk2 : W15.heap[W10.heap.size + 2]? = some (.cells #[.map (some W10.heap.size)] 121 (0, 0)) := by
        rw [hW15]
        refine blk_alloc (blk_alloc ?_ _) _
        simpa using blk_new ((W10.alloc (.map #[] 0)).alloc (.map #[] 0)) (.cells #[.map (some W10.heap.size)] 121)
      have hk3 : W15.heap[W10.heap.size + 3]? = some (.cells #[.map (some (W10.heap.size + 1))] 122 (0, 0)) := by
        rw [hW15]
        refine blk_alloc ?_ _
        simpa using blk_new (((W10.alloc (.map #[] 0)).alloc (.map #[] 0)).alloc (.cells #[.map (some W10.heap.size)] 121)) (.cells #[.map (some (W10.heap.size + 1))] 122)
      have hk4 : W15.heap[W10.heap.size + 4]? = some (.cells #[.func (.func 103) #[] #[.pointer (some ⟨w8.heap.size, 0, none⟩), .pointer (some ⟨w.heap.size + 1, 0, none⟩), .pointer (some ⟨W10.heap.size + 3, 0, none⟩), .pointer (some ⟨gw, 0, none⟩), .pointer (some ⟨W10.heap.size + 2, 0, none⟩), .pointer (some ⟨W10.heap.size + 4, 0, none⟩)]] 123 (0, 0)) := by
        rw [hW15]
        simpa using blk_new ((((W10.alloc (.map #[] 0)).alloc (.map #[] 0)).alloc (.cells #[.map (some W10.heap.size)] 121)).alloc (.cells #[.map (some (W10.heap.size + 1))] 122)) (.cells #[.func (.func 103) #[] #[.pointer (some ⟨w8.heap.size, 0, none⟩), .pointer (some ⟨w.heap.size + 1, 0, none⟩), .pointer (some ⟨W10.heap.size + 3, 0, none⟩), .pointer (some ⟨gw, 0, none⟩), .pointer (some ⟨W10.heap.size + 2, 0, none⟩), .pointer (some ⟨W10.heap.size + 4, 0, none⟩)]] 123)
      rw [← hW15]
      clear hW15 hmm
      obtain ⟨hb0, S, hT, hS, ho⟩ := H.out
      have o1 := ho w8.heap.size (by first | exact .inl (.inr rfl) | exact .inr rfl)
      have o2 := ho gw (.inr rfl)
      have hi7 := blk_lt K7.out.2.2.1
      have hCW := Aside0.mk (show Cw W15 S w8.heap.size (w.heap.size + 1) (W10.heap.size + 3) gw (W10.heap.size + 2) (W10.heap.size + 4) t W10.heap.size (W10.heap.size + 1) i (rd b r2) T2 [] [] from
        ⟨blk_below BT.out hB15, blk_below (blk_below K7.out.2.2.1 hb0) hB15, hk3, blk_below BW2.out hB15, hk2, hk4, ⟨hT.below hB15, hM1, fun q => by have := (hS _ q).2; omega⟩, hM2,
          ⟨o1.1, fun q => by have := (hS _ q).1; omega, fun q => by have := (hS _ q).2; omega, o2.1, fun q => by have := (hS _ q).2; omega, fun q => by have := (hS _ q).2; omega, fun q => by have := (hS _ q).2; omega⟩, by omega⟩)
      have d3 := (blk_cell hk4 0).trans rfl
      have d4 := (blk_cell hCW.out.kt 0).trans rfl
      have B15 := Aside0.mk (below_then hb0 hb0.size hB15)
      have S15 := Aside0.mk (show (∀ k, S k → w7.heap.size ≤ k) ∧ w7.heap.size ≤ W10.heap.size from ⟨fun k hk => (hS k hk).1, hb0.size⟩)
      clear hB15 hM1 hM2 hk2 hk3 hk4 hb0 hT hS ho o1 o2
      refine start_ (n := 7) (S := fun w' => (w'.cell? ⟨W10.heap.size + 4, 0, none⟩ = some (.func (.func 103) #[] #[.pointer (some ⟨w8.heap.size, 0, none⟩), .pointer (some ⟨w.heap.size + 1, 0, none⟩), .pointer (some ⟨W10.heap.size + 3, 0, none⟩), .pointer (some ⟨gw, 0, none⟩), .pointer (some ⟨W10.heap.size + 2, 0, none⟩), .pointer (some ⟨W10.heap.size + 4, 0, none⟩)])) ∧ (w'.cell? ⟨w8.heap.size, 0, none⟩ = some (.pointer (some ⟨t, 0, none⟩)))) (ds := [4, 5]) #[false, false, false, false, false, false, false] (by kernel_rfl) rfl rfl ⟨d3, d4⟩ (fun hHeld => ?_)
      refine with_tabW tb_Compose_8.tab tb_Compose_8.bits (fun HT_ HW_ => ?_)
      refine take_ (i := 0) (N := some 42) (v := ?_) (a' := ?_) #[true, false, false, false, false, false, false] rfl rfl (take_ofW HT_.out HW_.out (by kernel_rfl)) (fun _ _ _ h => h) (Or.inl ⟨by rfl, ?_⟩) hHeld ?_ ?_
      rotate_left
      · rintro w' ⟨s0, s1⟩
        go_simp
        with_reducible rfl
      rotate_left
      · simp only [Act.put, List.setIfInBounds_toArray, List.set_cons_zero, List.set_cons_succ, i64_w, i32_w]
        rfl
      refine take_ (i := 1) (N := some 43) (v := ?_) (a' := ?_) #[true, true, false, false, false, false, false] rfl rfl (take_ofW HT_.out HW_.out (by kernel_rfl)) (fun _ _ _ h => h) (Or.inl ⟨by rfl, ?_⟩) hHeld ?_ ?_
      rotate_left
      · rintro w' ⟨s0, s1⟩
        go_simp
        with_reducible rfl
      rotate_left
      · simp only [Act.put, List.setIfInBounds_toArray, List.set_cons_zero, List.set_cons_succ, i64_w, i32_w]
        rfl
      refine pure_ (i := 2) (N := some 44) (v := ?_) (a' := ?_) #[true, true, true, false, false, false, false] rfl rfl (any_of HT_.out (by kernel_rfl)) (fun _ _ _ h => h) (Or.inl ⟨by rfl, ?_⟩) ?_ ?_
      rotate_left
      · intro w'
        go_simp
        with_reducible rfl
      rotate_left
      · simp only [Act.put, List.setIfInBounds_toArray, List.set_cons_zero, List.set_cons_succ, i64_w, i32_w]
        rfl
      refine one_ (i := 3) (N := some 45) #[true, true, true, true, false, false, false] rfl rfl (one_of HT_.out (by kernel_rfl)) (by decide) (fun K hK => ?_)
      refine goesV_ Try.func103 (by kernel_rfl) rfl #[.int .i64 (rd a r1), .pointer (some ⟨w8.heap.size, 0, none⟩), .pointer (some ⟨w.heap.size + 1, 0, none⟩), .pointer (some ⟨W10.heap.size + 3, 0, none⟩), .pointer (some ⟨gw, 0, none⟩), .pointer (some ⟨W10.heap.size + 2, 0, none⟩), .pointer (some ⟨W10.heap.size + 4, 0, none⟩)] (by rfl) rfl rfl rfl (by simp only [List.map_toArray, List.map_cons, List.map_nil]; rfl) ?_
      refine (comp_calls w8.heap.size (w.heap.size + 1) (W10.heap.size + 3) gw (W10.heap.size + 2) (W10.heap.size + 4) t W10.heap.size (W10.heap.size + 1) i (rd b r2) k S T2 [] [] (rd a r1) p T4 L4 A4 W15.drew (hCW.out.below (below_drew (Below.refl _ _))) H4.out NN.out.2.2.1).mono ?_
      rintro e w16 ⟨rfl, hD, hF⟩
      refine ⟨_, rfl, ?_⟩
      have D16 := Aside0.mk hD
      have B16 := Aside0.mk (show Below w7.heap.size w7 w16 from (Fr.undrew hF).to_below B15.out (fun k q => q.elim (S15.out.1 k) (fun q => by have := S15.out.2; omega)))
      clear hD hF
      refine hK.out _ _ ⟨(blk_cell D16.out.kg 0).trans rfl, (blk_cell D16.out.kt 0).trans rfl⟩ (fun hHeld => ?_)
      clear hK K
      refine norm_ (a' := ?_) ?_ ?_
      rotate_left
      · show Act.put _ (some 45) _ = _
        (try simp only [Act.put, List.setIfInBounds_toArray, List.set_cons_zero, List.set_cons_succ, i64_w, i32_w])
        rfl
      refine last_ (i := 4) (N := some 46) #[true, true, true, true, true, false, false] rfl rfl (one_of HT_.out (by kernel_rfl)) (by decide) (fun K hK => ?_)
      refine goes_ Try.func90 (by kernel_rfl) rfl #[.pointer (some ⟨t, 0, none⟩), .int .i64 p] (by rfl) rfl rfl (by simp only [List.map_toArray, List.map_cons, List.map_nil]; rfl) ?_
      refine (tmask_calls t T4 64 s p r w16 D16.out.it.tab NN.out.2.2.2 H5.out).mono ?_
      rintro e w11 ⟨v11, rfl, hR11, hB11⟩
      obtain ⟨A11, c11, rfl, hc11, hC11⟩ := Kd.R_reads hR11
      rw [HV4.out]
      refine ⟨.agg #[.int .i64 v, .slice A11 s.out.length c11, .int .i64 r], rfl, ?_⟩
      have B11 := Aside0.mk (below_then B7.out B7.out.size (below_then B16.out B16.out.size hB11))
      have K11 := Aside0.mk (blk_below (blk_below K7.out.1 B16.out) hB11)
      have R11 := Aside0.mk (Kd.R_lower hR11 (Nat.le_trans B7.out.size B16.out.size))
      have q0_ := (blk_cell K11.out 0).trans rfl
      have q1_ := (blk_cell K11.out 1).trans rfl
      have q2_ := (blk_cell K11.out 2).trans rfl
      have fq0 := blk_frozen K11.out 0
      have fq1 := blk_frozen K11.out 1
      have fq2 := blk_frozen K11.out 2
      clear hR11 hB11 hC11
      refine hK.out _ _ ?_
      clear hK K
      refine norm_ (a' := ?_) ?_ ?_
      rotate_left
      · show Act.put _ (some 46) _ = _
        (try simp only [Act.put, List.setIfInBounds_toArray, List.set_cons_zero, List.set_cons_succ, i64_w, i32_w])
        rfl
      refine last_ (i := 5) (N := none) #[true, true, true, true, true, true, false] rfl rfl (one_of HT_.out (by kernel_rfl)) (by decide) (fun K hK => ?_)
      refine skip_ (w1 := ?_) (by rfl) rfl ?_ ?_
      rotate_left
      · go_simp
        rfl
      refine hK.out _ _ ?_
      clear hK K
      refine norm_ (a' := ?_) ?_ ?_
      rotate_left
      · rfl
      refine pure_ (i := 6) (N := some 7) (v := ?_) (a' := ?_) #[true, true, true, true, true, true, true] rfl rfl (any_of HT_.out (by kernel_rfl)) (fun _ _ _ h => h) (Or.inl ⟨by rfl, ?_⟩) ?_ ?_
      rotate_left
      · intro w'
        go_simp
        with_reducible rfl
      rotate_left
      · simp only [Act.put, List.setIfInBounds_toArray, List.set_cons_zero, List.set_cons_succ, i64_w, i32_w]
        rfl
      refine done_ (done_of HT_.out (by kernel_rfl)) ?_
      go_wp2
      have N0 := Kd.R_types R11.out K11.out (by decide)
      have N1 := Kd.R_far (p := ⟨w.heap.size + 3, 0, none⟩) N0 (fun _ hk => hk.2) (.int .i64 v)
      have N2 := Kd.R_far (p := ⟨w.heap.size + 3, 1, none⟩) N1 (fun _ hk => hk.2) (.slice A11 s.out.length c11)
      have N3 := Kd.R_far (p := ⟨w.heap.size + 3, 2, none⟩) N2 (fun _ hk => hk.2) (.int .i64 r)
      refine bodyPost_ret (results_ct rfl _ _ (w.heap.size + 3) 28 #[.int .i64 v, .slice A11 s.out.length c11, .int .i64 r] (0, 0) _ rfl ?_ hu rfl (by kernel_rfl)) rfl ?_
      · exact blk_put (cs := #[.int .i64 v, .slice A11 s.out.length c11, .int .i64 0]) (blk_put (cs := #[.int .i64 v, .slice none 0 0, .int .i64 0]) (blk_put (cs := #[.int .i64 0, .slice none 0 0, .int .i64 0]) K11.out 0 _ rfl) 1 _ rfl) 2 _ rfl
      · exact ⟨_, by rfl, Kd.R_mono N3 (fun _ _ => trivial), below_set (below_set (below_set B11.out (Nat.le_add_right _ 3)) (Nat.le_add_right _ 3)) (Nat.le_add_right _ 3)⟩
    · refine value_ (w1 := ?_) (v := ?_) (by rfl) rfl ?_ ?_
      rotate_left 2
      · go_simp
        constructor
        · rfl
        · rfl
      obtain ⟨gw, hgw⟩ := H.out.sz
      have BW := Aside0.mk (H.out.blkNew (.cells #[.int .i64 0] 3))
      replace BT := Aside0.mk (blk_alloc BT.out (.cells #[.int .i64 0] 3))
      replace H := Aside0.mk (H.out.alloc (.cells #[.int .i64 0] 3))
      rw [← hgw] at BW H
      first | rw [← hgw] | (replace hgw : gw = W9.heap.size := hgw; rw [← hgw])
      clear hgw
      refine hK.out _ _ ⟨(blk_cell BT.out 0).trans rfl, (blk_cell (blk_below K7.out.2.1 H.out.bel) 0).trans rfl, (blk_cell (blk_below K7.out.2.1 H.out.bel) 1).trans rfl, (blk_cell (blk_below K7.out.2.1 H.out.bel) 2).trans rfl, (blk_cell (blk_below K7.out.2.2.2 H.out.bel) 0).trans rfl, (blk_cell (blk_below K7.out.2.2.2 H.out.bel) 1).trans rfl, (blk_cell (blk_below K7.out.2.2.2 H.out.bel) 2).trans rfl⟩ (fun hHeld => ?_)
      clear hK K
      refine norm_ (a' := ?_) ?_ ?_
      rotate_left
      · show Act.put _ (some 10) _ = _
        (try simp only [Act.put, List.setIfInBounds_toArray, List.set_cons_zero, List.set_cons_succ, i64_w, i32_w])
        rfl
      refine one_ (i := 5) (N := some 38) #[true, true, true, true, true, true, true, false, false] rfl rfl (one_of HT_.out (by kernel_rfl)) (by decide) (fun K hK => ?_)
      refine goes_ Try.func91 (by kernel_rfl) rfl #[.pointer (some ⟨t, 0, none⟩), .agg #[.int .i64 v, .slice A2 l2.length c2, .int .i64 r2]] (by rfl) rfl rfl (by simp only [List.map_toArray, List.map_cons, List.map_nil]; rfl) ?_
      refine (H.out.load v r2 A2 c2 l2 _ NN.out.2.1 C7.out.2 e2 H2.out G.out.2).mono ?_
      rintro e wl ⟨rfl, hN, hbk⟩
      refine ⟨_, rfl, ?_⟩
      try (replace BW := Aside0.mk ((hbk gw (.inr rfl)).trans BW.out))
      replace BT := Aside0.mk ((hbk w8.heap.size (by first | exact .inr rfl | exact .inl (.inr rfl))).trans BT.out)
      replace H := Aside0.mk hN
      clear hN hbk
      refine hK.out _ _ ⟨(blk_cell BT.out 0).trans rfl, (blk_cell (blk_below K7.out.2.1 H.out.bel) 0).trans rfl, (blk_cell (blk_below K7.out.2.1 H.out.bel) 1).trans rfl, (blk_cell (blk_below K7.out.2.1 H.out.bel) 2).trans rfl, (blk_cell (blk_below K7.out.2.2.2 H.out.bel) 0).trans rfl, (blk_cell (blk_below K7.out.2.2.2 H.out.bel) 1).trans rfl, (blk_cell (blk_below K7.out.2.2.2 H.out.bel) 2).trans rfl⟩ (fun hHeld => ?_)
      clear hK K
      refine norm_ (a' := ?_) ?_ ?_
      rotate_left
      · show Act.put _ (some 38) _ = _
        (try simp only [Act.put, List.setIfInBounds_toArray, List.set_cons_zero, List.set_cons_succ, i64_w, i32_w])
        rfl
      refine pure_ (i := 7) (N := some 9) (v := ?_) (a' := ?_) #[true, true, true, true, true, true, true, true, false] rfl rfl (any_of HT_.out (by kernel_rfl)) (fun _ _ _ h => h) (Or.inl ⟨by rfl, ?_⟩) ?_ ?_
      rotate_left
      · intro w'
        go_simp
        with_reducible rfl
      rotate_left
      · simp only [Act.put, List.setIfInBounds_toArray, List.set_cons_zero, List.set_cons_succ, i64_w, i32_w]
        rfl
      refine last_ (i := 8) (N := none) #[true, true, true, true, true, true, true, true, true] rfl rfl (one_of HT_.out (by kernel_rfl)) (by decide) (fun K hK => ?_)
      have q0 := (blk_cell BW.out 0).trans rfl
      have fq0 := blk_frozen BW.out 0
      refine skip_ (w1 := ?_) (by rfl) rfl ?_ ?_
      rotate_left
      · go_simp
        rfl
      have BW2 := Aside0.mk (blk_put (cs := #[.int .i64 0]) BW.out 0 (.int .i64 (rd b r2)) rfl)
      have hne : w8.heap.size ≠ gw := fun e => by have h1 := BT.out; rw [e, BW.out] at h1; cases h1
      replace BT := Aside0.mk ((Below.heap_setCell _ ⟨gw, 0, none⟩ (.int .i64 (rd b r2)) w8.heap.size hne).trans BT.out)
      replace H := Aside0.mk (H.out.set gw 0 (.int .i64 (rd b r2)) (.inr rfl))
      clear q0 fq0 BW
      refine hK.out _ _ ?_
      clear hK K
      refine norm_ (a' := ?_) ?_ ?_
      rotate_left
      · rfl
      refine done_ (done_of HT_.out (by kernel_rfl)) ?_
      have hmm := @run_makeMap Try.prog
      obtain ⟨W10, hW10⟩ := H.out.wd
      rw [← hW10] at H BT BW2
      rw [← hW10]
      clear hW10
      go_wp2
      obtain ⟨W15, hW15⟩ : ∃ W, W = ((((W10.alloc (.map #[] 0)).alloc (.map #[] 0)).alloc (.cells #[.map (some W10.heap.size)] 121)).alloc (.cells #[.map (some (W10.heap.size + 1))] 122)).alloc (.cells #[.func (.func 103) #[] #[.pointer (some ⟨w8.heap.size, 0, none⟩), .pointer (some ⟨w.heap.size + 1, 0, none⟩), .pointer (some ⟨W10.heap.size + 3, 0, none⟩), .pointer (some ⟨gw, 0, none⟩), .pointer (some ⟨W10.heap.size + 2, 0, none⟩), .pointer (some ⟨W10.heap.size + 4, 0, none⟩)]] 123) := ⟨_, rfl⟩
      have hB15 : Below W10.heap.size W10 W15 := by rw [hW15]; exact below_alloc (below_alloc (below_alloc (below_alloc (below_alloc (Below.refl _ _) _) _) _) _) _
      have hM1 : MapIs encN (Value.int .i64) W15 W10.heap.size ([] : SL) := by
        rw [hW15]
        exact (MapIs.made encN (Value.int .i64) W10).move (((Below.heap_alloc _ _ _ (by simp <;> omega)).trans (Below.heap_alloc _ _ _ (by simp <;> omega))).trans (((Below.heap_alloc _ _ _ (by simp <;> omega))).trans (Below.heap_alloc _ _ _ (by simp))))
      have hM2 : MapIs (Value.int .i64) (Value.int .i64) W15 (W10.heap.size + 1) ([] : AL) := by
        have hm := MapIs.made (α := Int) (β := Int) (Value.int .i64) (Value.int .i64) (W10.alloc (.map #[] 0))
        rw [show (W10.alloc (.map #[] 0)).heap.size = W10.heap.size + 1 by simp] at hm
        rw [hW15]
        exact hm.move ((Below.heap_alloc _ _ _ (by simp <;> omega)).trans (((Below.heap_alloc _ _ _ (by simp <;> omega))).trans (Below.heap_alloc _ _ _ (by simp))))
      have hk2 : W15.heap[W10.heap.size + 2]? = some (.cells #[.map (some W10.heap.size)] 121 (0, 0)) := by
        rw [hW15]
        refine blk_alloc (blk_alloc ?_ _) _
        simpa using blk_new ((W10.alloc (.map #[] 0)).alloc (.map #[] 0)) (.cells #[.map (some W10.heap.size)] 121)
      have hk3 : W15.heap[W10.heap.size + 3]? = some (.cells #[.map (some (W10.heap.size + 1))] 122 (0, 0)) := by
        rw [hW15]
        refine blk_alloc ?_ _
        simpa using blk_new (((W10.alloc (.map #[] 0)).alloc (.map #[] 0)).alloc (.cells #[.map (some W10.heap.size)] 121)) (.cells #[.map (some (W10.heap.size + 1))] 122)
      have hk4 : W15.heap[W10.heap.size + 4]? = some (.cells #[.func (.func 103) #[] #[.pointer (some ⟨w8.heap.size, 0, none⟩), .pointer (some ⟨w.heap.size + 1, 0, none⟩), .pointer (some ⟨W10.heap.size + 3, 0, none⟩), .pointer (some ⟨gw, 0, none⟩), .pointer (some ⟨W10.heap.size + 2, 0, none⟩), .pointer (some ⟨W10.heap.size + 4, 0, none⟩)]] 123 (0, 0)) := by
        rw [hW15]
        simpa using blk_new ((((W10.alloc (.map #[] 0)).alloc (.map #[] 0)).alloc (.cells #[.map (some W10.heap.size)] 121)).alloc (.cells #[.map (some (W10.heap.size + 1))] 122)) (.cells #[.func (.func 103) #[] #[.pointer (some ⟨w8.heap.size, 0, none⟩), .pointer (some ⟨w.heap.size + 1, 0, none⟩), .pointer (some ⟨W10.heap.size + 3, 0, none⟩), .pointer (some ⟨gw, 0, none⟩), .pointer (some ⟨W10.heap.size + 2, 0, none⟩), .pointer (some ⟨W10.heap.size + 4, 0, none⟩)]] 123)
      rw [← hW15]
      clear hW15 hmm
      obtain ⟨hb0, S, hT, hS, ho⟩ := H.out
      have o1 := ho w8.heap.size (by first | exact .inl (.inr rfl) | exact .inr rfl)
      have o2 := ho gw (.inr rfl)
      have hi7 := blk_lt K7.out.2.2.1
      have hCW := Aside0.mk (show Cw W15 S w8.heap.size (w.heap.size + 1) (W10.heap.size + 3) gw (W10.heap.size + 2) (W10.heap.size + 4) t W10.heap.size (W10.heap.size + 1) i (rd b r2) T2 [] [] from
        ⟨blk_below BT.out hB15, blk_below (blk_below K7.out.2.2.1 hb0) hB15, hk3, blk_below BW2.out hB15, hk2, hk4, ⟨hT.below hB15, hM1, fun q => by have := (hS _ q).2; omega⟩, hM2,
          ⟨o1.1, fun q => by have := (hS _ q).1; omega, fun q => by have := (hS _ q).2; omega, o2.1, fun q => by have := (hS _ q).2; omega, fun q => by have := (hS _ q).2; omega, fun q => by have := (hS _ q).2; omega⟩, by omega⟩)
      have d3 := (blk_cell hk4 0).trans rfl
      have d4 := (blk_cell hCW.out.kt 0).trans rfl
      have B15 := Aside0.mk (below_then hb0 hb0.size hB15)
      have S15 := Aside0.mk (show (∀ k, S k → w7.heap.size ≤ k) ∧ w7.heap.size ≤ W10.heap.size from ⟨fun k hk => (hS k hk).1, hb0.size⟩)
      clear hB15 hM1 hM2 hk2 hk3 hk4 hb0 hT hS ho o1 o2
      refine start_ (n := 7) (S := fun w' => (w'.cell? ⟨W10.heap.size + 4, 0, none⟩ = some (.func (.func 103) #[] #[.pointer (some ⟨w8.heap.size, 0, none⟩), .pointer (some ⟨w.heap.size + 1, 0, none⟩), .pointer (some ⟨W10.heap.size + 3, 0, none⟩), .pointer (some ⟨gw, 0, none⟩), .pointer (some ⟨W10.heap.size + 2, 0, none⟩), .pointer (some ⟨W10.heap.size + 4, 0, none⟩)])) ∧ (w'.cell? ⟨w8.heap.size, 0, none⟩ = some (.pointer (some ⟨t, 0, none⟩)))) (ds := [4, 5]) #[false, false, false, false, false, false, false] (by kernel_rfl) rfl rfl ⟨d3, d4⟩ (fun hHeld => ?_)
      refine with_tabW tb_Compose_8.tab tb_Compose_8.bits (fun HT_ HW_ => ?_)
      refine take_ (i := 0) (N := some 42) (v := ?_) (a' := ?_) #[true, false, false, false, false, false, false] rfl rfl (take_ofW HT_.out HW_.out (by kernel_rfl)) (fun _ _ _ h => h) (Or.inl ⟨by rfl, ?_⟩) hHeld ?_ ?_
      rotate_left
      · rintro w' ⟨s0, s1⟩
        go_simp
        with_reducible rfl
      rotate_left
      · simp only [Act.put, List.setIfInBounds_toArray, List.set_cons_zero, List.set_cons_succ, i64_w, i32_w]
        rfl
      refine take_ (i := 1) (N := some 43) (v := ?_) (a' := ?_) #[true, true, false, false, false, false, false] rfl rfl (take_ofW HT_.out HW_.out (by kernel_rfl)) (fun _ _ _ h => h) (Or.inl ⟨by rfl, ?_⟩) hHeld ?_ ?_
      rotate_left
      · rintro w' ⟨s0, s1⟩
        go_simp
        with_reducible rfl
      rotate_left
      · simp only [Act.put, List.setIfInBounds_toArray, List.set_cons_zero, List.set_cons_succ, i64_w, i32_w]
        rfl
      refine pure_ (i := 2) (N := some 44) (v := ?_) (a' := ?_) #[true, true, true, false, false, false, false] rfl rfl (any_of HT_.out (by kernel_rfl)) (fun _ _ _ h => h) (Or.inl ⟨by rfl, ?_⟩) ?_ ?_
      rotate_left
      · intro w'
        go_simp
        with_reducible rfl
      rotate_left
      · simp only [Act.put, List.setIfInBounds_toArray, List.set_cons_zero, List.set_cons_succ, i64_w, i32_w]
        rfl
      refine one_ (i := 3) (N := some 45) #[true, true, true, true, false, false, false] rfl rfl (one_of HT_.out (by kernel_rfl)) (by decide) (fun K hK => ?_)
      refine goesV_ Try.func103 (by kernel_rfl) rfl #[.int .i64 (rd a r1), .pointer (some ⟨w8.heap.size, 0, none⟩), .pointer (some ⟨w.heap.size + 1, 0, none⟩), .pointer (some ⟨W10.heap.size + 3, 0, none⟩), .pointer (some ⟨gw, 0, none⟩), .pointer (some ⟨W10.heap.size + 2, 0, none⟩), .pointer (some ⟨W10.heap.size + 4, 0, none⟩)] (by rfl) rfl rfl rfl (by simp only [List.map_toArray, List.map_cons, List.map_nil]; rfl) ?_
      refine (comp_calls w8.heap.size (w.heap.size + 1) (W10.heap.size + 3) gw (W10.heap.size + 2) (W10.heap.size + 4) t W10.heap.size (W10.heap.size + 1) i (rd b r2) k S T2 [] [] (rd a r1) p T4 L4 A4 W15.drew (hCW.out.below (below_drew (Below.refl _ _))) H4.out NN.out.2.2.1).mono ?_
      rintro e w16 ⟨rfl, hD, hF⟩
      refine ⟨_, rfl, ?_⟩
      have D16 := Aside0.mk hD
      have B16 := Aside0.mk (show Below w7.heap.size w7 w16 from (Fr.undrew hF).to_below B15.out (fun k q => q.elim (S15.out.1 k) (fun q => by have := S15.out.2; omega)))
      clear hD hF
      refine hK.out _ _ ⟨(blk_cell D16.out.kg 0).trans rfl, (blk_cell D16.out.kt 0).trans rfl⟩ (fun hHeld => ?_)
      clear hK K
      refine norm_ (a' := ?_) ?_ ?_
      rotate_left
      · show Act.put _ (some 45) _ = _
        (try simp only [Act.put, List.setIfInBounds_toArray, List.set_cons_zero, List.set_cons_succ, i64_w, i32_w])
        rfl
      refine last_ (i := 4) (N := some 46) #[true, true, true, true, true, false, false] rfl rfl (one_of HT_.out (by kernel_rfl)) (by decide) (fun K hK => ?_)
      refine goes_ Try.func90 (by kernel_rfl) rfl #[.pointer (some ⟨t, 0, none⟩), .int .i64 p] (by rfl) rfl rfl (by simp only [List.map_toArray, List.map_cons, List.map_nil]; rfl) ?_
      refine (tmask_calls t T4 64 s p r w16 D16.out.it.tab NN.out.2.2.2 H5.out).mono ?_
      rintro e w11 ⟨v11, rfl, hR11, hB11⟩
      obtain ⟨A11, c11, rfl, hc11, hC11⟩ := Kd.R_reads hR11
      rw [HV4.out]
      refine ⟨.agg #[.int .i64 v, .slice A11 s.out.length c11, .int .i64 r], rfl, ?_⟩
      have B11 := Aside0.mk (below_then B7.out B7.out.size (below_then B16.out B16.out.size hB11))
      have K11 := Aside0.mk (blk_below (blk_below K7.out.1 B16.out) hB11)
      have R11 := Aside0.mk (Kd.R_lower hR11 (Nat.le_trans B7.out.size B16.out.size))
      have q0_ := (blk_cell K11.out 0).trans rfl
      have q1_ := (blk_cell K11.out 1).trans rfl
      have q2_ := (blk_cell K11.out 2).trans rfl
      have fq0 := blk_frozen K11.out 0
      have fq1 := blk_frozen K11.out 1
      have fq2 := blk_frozen K11.out 2
      clear hR11 hB11 hC11
      refine hK.out _ _ ?_
      clear hK K
      refine norm_ (a' := ?_) ?_ ?_
      rotate_left
      · show Act.put _ (some 46) _ = _
        (try simp only [Act.put, List.setIfInBounds_toArray, List.set_cons_zero, List.set_cons_succ, i64_w, i32_w])
        rfl
      refine last_ (i := 5) (N := none) #[true, true, true, true, true, true, false] rfl rfl (one_of HT_.out (by kernel_rfl)) (by decide) (fun K hK => ?_)
      refine skip_ (w1 := ?_) (by rfl) rfl ?_ ?_
      rotate_left
      · go_simp
        rfl
      refine hK.out _ _ ?_
      clear hK K
      refine norm_ (a' := ?_) ?_ ?_
      rotate_left
      · rfl
      refine pure_ (i := 6) (N := some 7) (v := ?_) (a' := ?_) #[true, true, true, true, true, true, true] rfl rfl (any_of HT_.out (by kernel_rfl)) (fun _ _ _ h => h) (Or.inl ⟨by rfl, ?_⟩) ?_ ?_
      rotate_left
      · intro w'
        go_simp
        with_reducible rfl
      rotate_left
      · simp only [Act.put, List.setIfInBounds_toArray, List.set_cons_zero, List.set_cons_succ, i64_w, i32_w]
        rfl
      refine done_ (done_of HT_.out (by kernel_rfl)) ?_
      go_wp2
      have N0 := Kd.R_types R11.out K11.out (by decide)
      have N1 := Kd.R_far (p := ⟨w.heap.size + 3, 0, none⟩) N0 (fun _ hk => hk.2) (.int .i64 v)
      have N2 := Kd.R_far (p := ⟨w.heap.size + 3, 1, none⟩) N1 (fun _ hk => hk.2) (.slice A11 s.out.length c11)
      have N3 := Kd.R_far (p := ⟨w.heap.size + 3, 2, none⟩) N2 (fun _ hk => hk.2) (.int .i64 r)
      refine bodyPost_ret (results_ct rfl _ _ (w.heap.size + 3) 28 #[.int .i64 v, .slice A11 s.out.length c11, .int .i64 r] (0, 0) _ rfl ?_ hu rfl (by kernel_rfl)) rfl ?_
      · exact blk_put (cs := #[.int .i64 v, .slice A11 s.out.length c11, .int .i64 0]) (blk_put (cs := #[.int .i64 v, .slice none 0 0, .int .i64 0]) (blk_put (cs := #[.int .i64 0, .slice none 0 0, .int .i64 0]) K11.out 0 _ rfl) 1 _ rfl) 2 _ rfl
      · exact ⟨_, by rfl, Kd.R_mono N3 (fun _ _ => trivial), below_set (below_set (below_set B11.out (Nat.le_add_right _ 3)) (Nat.le_add_right _ 3)) (Nat.le_add_right _ 3)⟩
  · refine value_ (w1 := ?_) (v := ?_) (by rfl) rfl ?_ ?_
    rotate_left 2
    · go_simp
      constructor
      · rfl
      · rfl
    obtain ⟨gw, hgw⟩ := H.out.sz
    have BW := Aside0.mk (H.out.blkNew (.cells #[.int .i64 0] 3))
    replace BT := Aside0.mk (blk_alloc BT.out (.cells #[.int .i64 0] 3))
    replace H := Aside0.mk (H.out.alloc (.cells #[.int .i64 0] 3))
    rw [← hgw] at BW H
    first | rw [← hgw] | (replace hgw : gw = W9.heap.size := hgw; rw [← hgw])
    clear hgw
    refine hK.out _ _ ⟨(blk_cell BT.out 0).trans rfl, (blk_cell (blk_below K7.out.2.1 H.out.bel) 0).trans rfl, (blk_cell (blk_below K7.out.2.1 H.out.bel) 1).trans rfl, (blk_cell (blk_below K7.out.2.1 H.out.bel) 2).trans rfl, (blk_cell (blk_below K7.out.2.2.2 H.out.bel) 0).trans rfl, (blk_cell (blk_below K7.out.2.2.2 H.out.bel) 1).trans rfl, (blk_cell (blk_below K7.out.2.2.2 H.out.bel) 2).trans rfl⟩ (fun hHeld => ?_)
    clear hK K
    refine norm_ (a' := ?_) ?_ ?_
    rotate_left
    · show Act.put _ (some 10) _ = _
      (try simp only [Act.put, List.setIfInBounds_toArray, List.set_cons_zero, List.set_cons_succ, i64_w, i32_w])
      rfl
    refine one_ (i := 2) (N := some 35) #[true, true, true, true, true, false, true, false, false] rfl rfl (one_of HT_.out (by kernel_rfl)) (by decide) (fun K hK => ?_)
    refine goes_ Try.func91 (by kernel_rfl) rfl #[.pointer (some ⟨t, 0, none⟩), .agg #[.int .i64 v, .slice A1 l1.length c1, .int .i64 r1]] (by rfl) rfl rfl (by simp only [List.map_toArray, List.map_cons, List.map_nil]; rfl) ?_
    refine (H.out.load v r1 A1 c1 l1 _ NN.out.1 C7.out.1 e1 H1.out G.out.1).mono ?_
    rintro e wl ⟨rfl, hN, hbk⟩
    refine ⟨_, rfl, ?_⟩
    try (replace BW := Aside0.mk ((hbk gw (.inr rfl)).trans BW.out))
    replace BT := Aside0.mk ((hbk w8.heap.size (by first | exact .inr rfl | exact .inl (.inr rfl))).trans BT.out)
    replace H := Aside0.mk hN
    clear hN hbk
    refine hK.out _ _ ⟨(blk_cell BT.out 0).trans rfl, (blk_cell (blk_below K7.out.2.1 H.out.bel) 0).trans rfl, (blk_cell (blk_below K7.out.2.1 H.out.bel) 1).trans rfl, (blk_cell (blk_below K7.out.2.1 H.out.bel) 2).trans rfl, (blk_cell (blk_below K7.out.2.2.2 H.out.bel) 0).trans rfl, (blk_cell (blk_below K7.out.2.2.2 H.out.bel) 1).trans rfl, (blk_cell (blk_below K7.out.2.2.2 H.out.bel) 2).trans rfl⟩ (fun hHeld => ?_)
    clear hK K
    refine norm_ (a' := ?_) ?_ ?_
    rotate_left
    · show Act.put _ (some 35) _ = _
      (try simp only [Act.put, List.setIfInBounds_toArray, List.set_cons_zero, List.set_cons_succ, i64_w, i32_w])
      rfl
    refine one_ (i := 5) (N := some 38) #[true, true, true, true, true, true, true, false, false] rfl rfl (one_of HT_.out (by kernel_rfl)) (by decide) (fun K hK => ?_)
    refine goes_ Try.func91 (by kernel_rfl) rfl #[.pointer (some ⟨t, 0, none⟩), .agg #[.int .i64 v, .slice A2 l2.length c2, .int .i64 r2]] (by rfl) rfl rfl (by simp only [List.map_toArray, List.map_cons, List.map_nil]; rfl) ?_
    refine (H.out.load v r2 A2 c2 l2 _ NN.out.2.1 C7.out.2 e2 H2.out G.out.2).mono ?_
    rintro e wl ⟨rfl, hN, hbk⟩
    refine ⟨_, rfl, ?_⟩
    try (replace BW := Aside0.mk ((hbk gw (.inr rfl)).trans BW.out))
    replace BT := Aside0.mk ((hbk w8.heap.size (by first | exact .inr rfl | exact .inl (.inr rfl))).trans BT.out)
    replace H := Aside0.mk hN
    clear hN hbk
    refine hK.out _ _ ⟨(blk_cell BT.out 0).trans rfl, (blk_cell (blk_below K7.out.2.1 H.out.bel) 0).trans rfl, (blk_cell (blk_below K7.out.2.1 H.out.bel) 1).trans rfl, (blk_cell (blk_below K7.out.2.1 H.out.bel) 2).trans rfl, (blk_cell (blk_below K7.out.2.2.2 H.out.bel) 0).trans rfl, (blk_cell (blk_below K7.out.2.2.2 H.out.bel) 1).trans rfl, (blk_cell (blk_below K7.out.2.2.2 H.out.bel) 2).trans rfl⟩ (fun hHeld => ?_)
    clear hK K
    refine norm_ (a' := ?_) ?_ ?_
    rotate_left
    · show Act.put _ (some 38) _ = _
      (try simp only [Act.put, List.setIfInBounds_toArray, List.set_cons_zero, List.set_cons_succ, i64_w, i32_w])
      rfl
    refine pure_ (i := 7) (N := some 9) (v := ?_) (a' := ?_) #[true, true, true, true, true, true, true, true, false] rfl rfl (any_of HT_.out (by kernel_rfl)) (fun _ _ _ h => h) (Or.inl ⟨by rfl, ?_⟩) ?_ ?_
    rotate_left
    · intro w'
      go_simp
      with_reducible rfl
    rotate_left
    · simp only [Act.put, List.setIfInBounds_toArray, List.set_cons_zero, List.set_cons_succ, i64_w, i32_w]
      rfl
    refine last_ (i := 8) (N := none) #[true, true, true, true, true, true, true, true, true] rfl rfl (one_of HT_.out (by kernel_rfl)) (by decide) (fun K hK => ?_)
    have q0 := (blk_cell BW.out 0).trans rfl
    have fq0 := blk_frozen BW.out 0
    refine skip_ (w1 := ?_) (by rfl) rfl ?_ ?_
    rotate_left
    · go_simp
      rfl
    have BW2 := Aside0.mk (blk_put (cs := #[.int .i64 0]) BW.out 0 (.int .i64 (rd b r2)) rfl)
    have hne : w8.heap.size ≠ gw := fun e => by have h1 := BT.out; rw [e, BW.out] at h1; cases h1
    replace BT := Aside0.mk ((Below.heap_setCell _ ⟨gw, 0, none⟩ (.int .i64 (rd b r2)) w8.heap.size hne).trans BT.out)
    replace H := Aside0.mk (H.out.set gw 0 (.int .i64 (rd b r2)) (.inr rfl))
    clear q0 fq0 BW
    refine hK.out _ _ ?_
    clear hK K
    refine norm_ (a' := ?_) ?_ ?_
    rotate_left
    · rfl
    refine done_ (done_of HT_.out (by kernel_rfl)) ?_
    have hmm := @run_makeMap Try.prog
    obtain ⟨W10, hW10⟩ := H.out.wd
    rw [← hW10] at H BT BW2
    rw [← hW10]
    clear hW10
    go_wp2
    obtain ⟨W15, hW15⟩ : ∃ W, W = ((((W10.alloc (.map #[] 0)).alloc (.map #[] 0)).alloc (.cells #[.map (some W10.heap.size)] 121)).alloc (.cells #[.map (some (W10.heap.size + 1))] 122)).alloc (.cells #[.func (.func 103) #[] #[.pointer (some ⟨w8.heap.size, 0, none⟩), .pointer (some ⟨w.heap.size + 1, 0, none⟩), .pointer (some ⟨W10.heap.size + 3, 0, none⟩), .pointer (some ⟨gw, 0, none⟩), .pointer (some ⟨W10.heap.size + 2, 0, none⟩), .pointer (some ⟨W10.heap.size + 4, 0, none⟩)]] 123) := ⟨_, rfl⟩
    have hB15 : Below W10.heap.size W10 W15 := by rw [hW15]; exact below_alloc (below_alloc (below_alloc (below_alloc (below_alloc (Below.refl _ _) _) _) _) _) _
    have hM1 : MapIs encN (Value.int .i64) W15 W10.heap.size ([] : SL) := by
      rw [hW15]
      exact (MapIs.made encN (Value.int .i64) W10).move (((Below.heap_alloc _ _ _ (by simp <;> omega)).trans (Below.heap_alloc _ _ _ (by simp <;> omega))).trans (((Below.heap_alloc _ _ _ (by simp <;> omega))).trans (Below.heap_alloc _ _ _ (by simp))))
    have hM2 : MapIs (Value.int .i64) (Value.int .i64) W15 (W10.heap.size + 1) ([] : AL) := by
      have hm := MapIs.made (α := Int) (β := Int) (Value.int .i64) (Value.int .i64) (W10.alloc (.map #[] 0))
      rw [show (W10.alloc (.map #[] 0)).heap.size = W10.heap.size + 1 by simp] at hm
      rw [hW15]
      exact hm.move ((Below.heap_alloc _ _ _ (by simp <;> omega)).trans (((Below.heap_alloc _ _ _ (by simp <;> omega))).trans (Below.heap_alloc _ _ _ (by simp))))
    have hk2 : W15.heap[W10.heap.size + 2]? = some (.cells #[.map (some W10.heap.size)] 121 (0, 0)) := by
      rw [hW15]
      refine blk_alloc (blk_alloc ?_ _) _
      simpa using blk_new ((W10.alloc (.map #[] 0)).alloc (.map #[] 0)) (.cells #[.map (some W10.heap.size)] 121)
    have hk3 : W15.heap[W10.heap.size + 3]? = some (.cells #[.map (some (W10.heap.size + 1))] 122 (0, 0)) := by
      rw [hW15]
      refine blk_alloc ?_ _
      simpa using blk_new (((W10.alloc (.map #[] 0)).alloc (.map #[] 0)).alloc (.cells #[.map (some W10.heap.size)] 121)) (.cells #[.map (some (W10.heap.size + 1))] 122)
    have hk4 : W15.heap[W10.heap.size + 4]? = some (.cells #[.func (.func 103) #[] #[.pointer (some ⟨w8.heap.size, 0, none⟩), .pointer (some ⟨w.heap.size + 1, 0, none⟩), .pointer (some ⟨W10.heap.size + 3, 0, none⟩), .pointer (some ⟨gw, 0, none⟩), .pointer (some ⟨W10.heap.size + 2, 0, none⟩), .pointer (some ⟨W10.heap.size + 4, 0, none⟩)]] 123 (0, 0)) := by
      rw [hW15]
      simpa using blk_new ((((W10.alloc (.map #[] 0)).alloc (.map #[] 0)).alloc (.cells #[.map (some W10.heap.size)] 121)).alloc (.cells #[.map (some (W10.heap.size + 1))] 122)) (.cells #[.func (.func 103) #[] #[.pointer (some ⟨w8.heap.size, 0, none⟩), .pointer (some ⟨w.heap.size + 1, 0, none⟩), .pointer (some ⟨W10.heap.size + 3, 0, none⟩), .pointer (some ⟨gw, 0, none⟩), .pointer (some ⟨W10.heap.size + 2, 0, none⟩), .pointer (some ⟨W10.heap.size + 4, 0, none⟩)]] 123)
    rw [← hW15]
    clear hW15 hmm
    obtain ⟨hb0, S, hT, hS, ho⟩ := H.out
    have o1 := ho w8.heap.size (by first | exact .inl (.inr rfl) | exact .inr rfl)
    have o2 := ho gw (.inr rfl)
    have hi7 := blk_lt K7.out.2.2.1
    have hCW := Aside0.mk (show Cw W15 S w8.heap.size (w.heap.size + 1) (W10.heap.size + 3) gw (W10.heap.size + 2) (W10.heap.size + 4) t W10.heap.size (W10.heap.size + 1) i (rd b r2) T2 [] [] from
      ⟨blk_below BT.out hB15, blk_below (blk_below K7.out.2.2.1 hb0) hB15, hk3, blk_below BW2.out hB15, hk2, hk4, ⟨hT.below hB15, hM1, fun q => by have := (hS _ q).2; omega⟩, hM2,
        ⟨o1.1, fun q => by have := (hS _ q).1; omega, fun q => by have := (hS _ q).2; omega, o2.1, fun q => by have := (hS _ q).2; omega, fun q => by have := (hS _ q).2; omega, fun q => by have := (hS _ q).2; omega⟩, by omega⟩)
    have d3 := (blk_cell hk4 0).trans rfl
    have d4 := (blk_cell hCW.out.kt 0).trans rfl
    have B15 := Aside0.mk (below_then hb0 hb0.size hB15)
    have S15 := Aside0.mk (show (∀ k, S k → w7.heap.size ≤ k) ∧ w7.heap.size ≤ W10.heap.size from ⟨fun k hk => (hS k hk).1, hb0.size⟩)
    clear hB15 hM1 hM2 hk2 hk3 hk4 hb0 hT hS ho o1 o2
    refine start_ (n := 7) (S := fun w' => (w'.cell? ⟨W10.heap.size + 4, 0, none⟩ = some (.func (.func 103) #[] #[.pointer (some ⟨w8.heap.size, 0, none⟩), .pointer (some ⟨w.heap.size + 1, 0, none⟩), .pointer (some ⟨W10.heap.size + 3, 0, none⟩), .pointer (some ⟨gw, 0, none⟩), .pointer (some ⟨W10.heap.size + 2, 0, none⟩), .pointer (some ⟨W10.heap.size + 4, 0, none⟩)])) ∧ (w'.cell? ⟨w8.heap.size, 0, none⟩ = some (.pointer (some ⟨t, 0, none⟩)))) (ds := [4, 5]) #[false, false, false, false, false, false, false] (by kernel_rfl) rfl rfl ⟨d3, d4⟩ (fun hHeld => ?_)
    refine with_tabW tb_Compose_8.tab tb_Compose_8.bits (fun HT_ HW_ => ?_)
    refine take_ (i := 0) (N := some 42) (v := ?_) (a' := ?_) #[true, false, false, false, false, false, false] rfl rfl (take_ofW HT_.out HW_.out (by kernel_rfl)) (fun _ _ _ h => h) (Or.inl ⟨by rfl, ?_⟩) hHeld ?_ ?_
    rotate_left
    · rintro w' ⟨s0, s1⟩
      go_simp
      with_reducible rfl
    rotate_left
    · simp only [Act.put, List.setIfInBounds_toArray, List.set_cons_zero, List.set_cons_succ, i64_w, i32_w]
      rfl
    refine take_ (i := 1) (N := some 43) (v := ?_) (a' := ?_) #[true, true, false, false, false, false, false] rfl rfl (take_ofW HT_.out HW_.out (by kernel_rfl)) (fun _ _ _ h => h) (Or.inl ⟨by rfl, ?_⟩) hHeld ?_ ?_
    rotate_left
    · rintro w' ⟨s0, s1⟩
      go_simp
      with_reducible rfl
    rotate_left
    · simp only [Act.put, List.setIfInBounds_toArray, List.set_cons_zero, List.set_cons_succ, i64_w, i32_w]
      rfl
    refine pure_ (i := 2) (N := some 44) (v := ?_) (a' := ?_) #[true, true, true, false, false, false, false] rfl rfl (any_of HT_.out (by kernel_rfl)) (fun _ _ _ h => h) (Or.inl ⟨by rfl, ?_⟩) ?_ ?_
    rotate_left
    · intro w'
      go_simp
      with_reducible rfl
    rotate_left
    · simp only [Act.put, List.setIfInBounds_toArray, List.set_cons_zero, List.set_cons_succ, i64_w, i32_w]
      rfl
    refine one_ (i := 3) (N := some 45) #[true, true, true, true, false, false, false] rfl rfl (one_of HT_.out (by kernel_rfl)) (by decide) (fun K hK => ?_)
    refine goesV_ Try.func103 (by kernel_rfl) rfl #[.int .i64 (rd a r1), .pointer (some ⟨w8.heap.size, 0, none⟩), .pointer (some ⟨w.heap.size + 1, 0, none⟩), .pointer (some ⟨W10.heap.size + 3, 0, none⟩), .pointer (some ⟨gw, 0, none⟩), .pointer (some ⟨W10.heap.size + 2, 0, none⟩), .pointer (some ⟨W10.heap.size + 4, 0, none⟩)] (by rfl) rfl rfl rfl (by simp only [List.map_toArray, List.map_cons, List.map_nil]; rfl) ?_
    refine (comp_calls w8.heap.size (w.heap.size + 1) (W10.heap.size + 3) gw (W10.heap.size + 2) (W10.heap.size + 4) t W10.heap.size (W10.heap.size + 1) i (rd b r2) k S T2 [] [] (rd a r1) p T4 L4 A4 W15.drew (hCW.out.below (below_drew (Below.refl _ _))) H4.out NN.out.2.2.1).mono ?_
    rintro e w16 ⟨rfl, hD, hF⟩
    refine ⟨_, rfl, ?_⟩
    have D16 := Aside0.mk hD
    have B16 := Aside0.mk (show Below w7.heap.size w7 w16 from (Fr.undrew hF).to_below B15.out (fun k q => q.elim (S15.out.1 k) (fun q => by have := S15.out.2; omega)))
    clear hD hF
    refine hK.out _ _ ⟨(blk_cell D16.out.kg 0).trans rfl, (blk_cell D16.out.kt 0).trans rfl⟩ (fun hHeld => ?_)
    clear hK K
    refine norm_ (a' := ?_) ?_ ?_
    rotate_left
    · show Act.put _ (some 45) _ = _
      (try simp only [Act.put, List.setIfInBounds_toArray, List.set_cons_zero, List.set_cons_succ, i64_w, i32_w])
      rfl
    refine last_ (i := 4) (N := some 46) #[true, true, true, true, true, false, false] rfl rfl (one_of HT_.out (by kernel_rfl)) (by decide) (fun K hK => ?_)
    refine goes_ Try.func90 (by kernel_rfl) rfl #[.pointer (some ⟨t, 0, none⟩), .int .i64 p] (by rfl) rfl rfl (by simp only [List.map_toArray, List.map_cons, List.map_nil]; rfl) ?_
    refine (tmask_calls t T4 64 s p r w16 D16.out.it.tab NN.out.2.2.2 H5.out).mono ?_
    rintro e w11 ⟨v11, rfl, hR11, hB11⟩
    obtain ⟨A11, c11, rfl, hc11, hC11⟩ := Kd.R_reads hR11
    rw [HV4.out]
    refine ⟨.agg #[.int .i64 v, .slice A11 s.out.length c11, .int .i64 r], rfl, ?_⟩
    have B11 := Aside0.mk (below_then B7.out B7.out.size (below_then B16.out B16.out.size hB11))
    have K11 := Aside0.mk (blk_below (blk_below K7.out.1 B16.out) hB11)
    have R11 := Aside0.mk (Kd.R_lower hR11 (Nat.le_trans B7.out.size B16.out.size))
    have q0_ := (blk_cell K11.out 0).trans rfl
    have q1_ := (blk_cell K11.out 1).trans rfl
    have q2_ := (blk_cell K11.out 2).trans rfl
    have fq0 := blk_frozen K11.out 0
    have fq1 := blk_frozen K11.out 1
    have fq2 := blk_frozen K11.out 2
    clear hR11 hB11 hC11
    refine hK.out _ _ ?_
    clear hK K
    refine norm_ (a' := ?_) ?_ ?_
    rotate_left
    · show Act.put _ (some 46) _ = _
      (try simp only [Act.put, List.setIfInBounds_toArray, List.set_cons_zero, List.set_cons_succ, i64_w, i32_w])
      rfl
    refine last_ (i := 5) (N := none) #[true, true, true, true, true, true, false] rfl rfl (one_of HT_.out (by kernel_rfl)) (by decide) (fun K hK => ?_)
    refine skip_ (w1 := ?_) (by rfl) rfl ?_ ?_
    rotate_left
    · go_simp
      rfl
    refine hK.out _ _ ?_
    clear hK K
    refine norm_ (a' := ?_) ?_ ?_
    rotate_left
    · rfl
    refine pure_ (i := 6) (N := some 7) (v := ?_) (a' := ?_) #[true, true, true, true, true, true, true] rfl rfl (any_of HT_.out (by kernel_rfl)) (fun _ _ _ h => h) (Or.inl ⟨by rfl, ?_⟩) ?_ ?_
    rotate_left
    · intro w'
      go_simp
      with_reducible rfl
    rotate_left
    · simp only [Act.put, List.setIfInBounds_toArray, List.set_cons_zero, List.set_cons_succ, i64_w, i32_w]
      rfl
    refine done_ (done_of HT_.out (by kernel_rfl)) ?_
    go_wp2
    have N0 := Kd.R_types R11.out K11.out (by decide)
    have N1 := Kd.R_far (p := ⟨w.heap.size + 3, 0, none⟩) N0 (fun _ hk => hk.2) (.int .i64 v)
    have N2 := Kd.R_far (p := ⟨w.heap.size + 3, 1, none⟩) N1 (fun _ hk => hk.2) (.slice A11 s.out.length c11)
    have N3 := Kd.R_far (p := ⟨w.heap.size + 3, 2, none⟩) N2 (fun _ hk => hk.2) (.int .i64 r)
    refine bodyPost_ret (results_ct rfl _ _ (w.heap.size + 3) 28 #[.int .i64 v, .slice A11 s.out.length c11, .int .i64 r] (0, 0) _ rfl ?_ hu rfl (by kernel_rfl)) rfl ?_
    · exact blk_put (cs := #[.int .i64 v, .slice A11 s.out.length c11, .int .i64 0]) (blk_put (cs := #[.int .i64 v, .slice none 0 0, .int .i64 0]) (blk_put (cs := #[.int .i64 0, .slice none 0 0, .int .i64 0]) K11.out 0 _ rfl) 1 _ rfl) 2 _ rfl
    · exact ⟨_, by rfl, Kd.R_mono N3 (fun _ _ => trivial), below_set (below_set (below_set B11.out (Nat.le_add_right _ 3)) (Nat.le_add_right _ 3)) (Nat.le_add_right _ 3)⟩
end Go.Proofs.Ytlplphgoldkoeaa.HTab
end

section
set_option linter.unusedVariables false
set_option linter.unusedSimpArgs false
namespace Go.Proofs.Ytlplphgoldkoeaa.HTab
open Go.RowKit Go.Proofs.YtlplphgoldkoeaaW.PrintWords Go.Proofs.YtlplphgoldkoeaaW.PrintLast Go.Proofs.YtlplphgoldkoeaaW.PrintMore Go.Proofs.Ytlplphgoldkoeaa.HMap Go.Proofs.Ytlplphgoldkoeaa.X
set_option linter.unusedVariables false
set_option linter.unusedSimpArgs false
structure IsCmp (T : TB) (i wi p r : Int) : Prop where
  pp : Pl T p
  pl : Pl T r
  val : ∀ P, HTab.val T r P = HTab.val T p (setb (T.vars - 1 - i).toNat (HTab.val T wi P) P)
theorem IsCmp.ext {T T' : TB} {i wi p r : Int} (h : IsCmp T i wi p r) (hwi : Pl T wi) (hw : WF T) (e : Ext T T') : IsCmp T' i wi p r := by
  refine ⟨e.pl h.pp, e.pl h.pl, fun P => ?_⟩
  rw [e.val hw h.pl, e.val hw hwi, e.val hw h.pp, e.1]
  exact h.val P
def Asked (T : TB) (i wi : Int) (A : AL) : Prop := ∀ p r, HMap.look A p = some r → IsCmp T i wi p r
theorem Asked.ext {T T' : TB} {i wi : Int} {A : AL} (h : Asked T i wi A) (hwi : Pl T wi) (hw : WF T) (e : Ext T T') : Asked T' i wi A := fun p r hr => (h p r hr).ext hwi hw e
theorem Asked.upd {T : TB} {i wi p r : Int} {A : AL} (h : Asked T i wi A) (hI : IsCmp T i wi p r) : Asked T i wi (HMap.upd A p r) := by
  intro q s hs
  by_cases he : q = p
  · subst he
    rw [HMap.look_upd_same] at hs
    injection hs with hs
    rw [← hs]
    exact hI
  · rw [HMap.look_upd_other _ _ _ _ he] at hs
    exact h q s hs
theorem cmp_self {T : TB} {i wi p : Int} (hw : WF T) (hp : Pl T p) (i0 : 0 ≤ i) (i1 : i < T.vars) (h : p < 2 ∨ i < asksP T p) : IsCmp T i wi p p := by
  refine ⟨hp, hp, fun P => ?_⟩
  have ha : i < asksP T p := h.elim (fun h => by rw [asks_lt h]; exact i1) id
  rw [val_below i0 i1 ha]
theorem cmp_plain (i wi : Int) (i0 : 0 ≤ i) : ∀ (k fuel : Nat) (T : TB) (L : SL) (A : AL) (p : Int), WF T → Seen T L → Asked T i wi A → Pl T p → Pl T wi → i < T.vars → T.vars ≤ 12 → T.vars - k ≤ asksP T p → k < fuel →
    ∃ r T' L' A', compP i wi fuel T L A p = some (r, T', L', A') ∧ WF T' ∧ Ext T T' ∧ Seen T' L' ∧ Asked T' i wi A' ∧ IsCmp T' i wi p r ∧ T'.ns.length + 8200 ≤ T.ns.length + 8200 * 2 ^ (k + 1) := by
  intro k
  induction k with
  | zero =>
    intro fuel T L A p hw hS hA hp hwi hi hv12 ha hf
    obtain ⟨fuel, rfl⟩ : ∃ m, fuel = m + 1 := ⟨fuel - 1, by omega⟩
    have h2 := hw.leaf hp (by omega)
    exact ⟨p, T, L, A, by unfold compP; rw [if_pos h2], hw, Ext.refl T, hS, hA, cmp_self hw hp i0 hi (.inl h2), by omega⟩
  | succ k ih =>
    intro fuel T L A p hw hS hA hp hwi hi hv12 ha hf
    obtain ⟨fuel, rfl⟩ : ∃ m, fuel = m + 1 := ⟨fuel - 1, by omega⟩
    have hpow : 2 ^ (k + 1 + 1) = 2 * 2 ^ (k + 1) := by rw [Nat.pow_succ (n := 2) (m := k + 1)]; omega
    have hp1 : 1 ≤ 2 ^ (k + 1) := Nat.two_pow_pos _
    have hlen : T.ns.length + 8200 ≤ T.ns.length + 8200 * 2 ^ (k + 1 + 1) := by omega
    by_cases h2 : p < 2
    · exact ⟨p, T, L, A, by unfold compP; rw [if_pos h2], hw, Ext.refl T, hS, hA, cmp_self hw hp i0 hi (.inl h2), hlen⟩
    by_cases hai : i < asksP T p
    · exact ⟨p, T, L, A, by unfold compP; rw [if_neg h2, if_pos hp.2, if_pos hai], hw, Ext.refl T, hS, hA, cmp_self hw hp i0 hi (.inr hai), hlen⟩
    cases hl : HMap.look A p with
    | some q => exact ⟨q, T, L, A, by unfold compP; rw [if_neg h2, if_pos hp.2, if_neg hai, hl], hw, Ext.refl T, hS, hA, hA p q hl, hlen⟩
    | none =>
      have ok := hw.ok p (by omega) hp.2
      have ap : asksP T p = (getN T p).f0 := asks_ge h2
      obtain ⟨n, hn⟩ : ∃ n, n = getN T p := ⟨_, rfl⟩
      have hrd : rd_T107 T.ns p = n := hn ▸ rfl
      have hvn := fun P => val_node hw (by omega) hp P
      rw [← hn] at ok ap
      simp only [← hn] at hvn
      obtain ⟨k0, k1, k2, k3, k4, k5, k6, k7, k8⟩ := ok
      have pl1 : Pl T n.f1 := ⟨k3, by have := hp.2; omega⟩
      have pl2 : Pl T n.f2 := ⟨k5, by have := hp.2; omega⟩
      have hv0 := hw.vars
      have hp13 := pow_nat_le (show T.vars.toNat + 1 ≤ 13 by omega)
      have h13 : 2 ^ 13 = 8192 := by decide
      by_cases hni : n.f0 = i
      · obtain ⟨r, T1, L1, q1, q2, q3, q4, q5, q6⟩ := ite_plain T.vars.toNat 64 T L wi n.f2 n.f1 hw hS hwi pl2 pl1 (by omega) (by rw [le_min3]; have := hw.asks_nonneg hwi; have := hw.asks_nonneg pl1; have := hw.asks_nonneg pl2; omega) (by omega)
        have hI : IsCmp T1 i wi p r := by
          refine ⟨q3.pl hp, q5.pl, fun P => ?_⟩
          rw [q5.val q2, q3.val hw hwi, q3.val hw pl2, q3.val hw pl1, q3.val hw hp, q3.1, hvn, hni, setb_same]
          rw [val_below i0 hi (by omega), val_below i0 hi (by omega)]
        refine ⟨r, T1, L1, HMap.upd A p r, ?_, q2, q3, q4, (hA.ext hwi hw q3).upd hI, hI, by omega⟩
        unfold compP
        rw [if_neg h2, if_pos hp.2, if_neg hai, hl]
        simp only
        rw [hrd, if_pos hni, q1]
        rfl
      · obtain ⟨r1, T1, L1, A1, a1, a2, a3, a4, a5, a6, a7⟩ := ih fuel T L A n.f1 hw hS hA pl1 hwi hi hv12 (by omega) (by omega)
        obtain ⟨r2, T2, L2, A2, b1, b2, b3, b4, b5, b6, b7⟩ := ih fuel T1 L1 A1 n.f2 a2 a4 a5 (a3.pl pl2) (a3.pl hwi) (by rw [a3.1]; exact hi) (by rw [a3.1]; exact hv12) (by rw [a3.1, a3.asks pl2]; omega) (by omega)
        have e12 := a3.then_ b3
        have v2 : T2.vars = T.vars := e12.1
        have hnode := fun P => val_var b2 (x := n.f0) k0 (by omega) P
        obtain ⟨w3, e3, p3, _, _⟩ := hnode 0
        have hnv := fun P => (hnode P).2.2.2.2
        have hnl := nodeP_len T2 ⟨n.f0, 0, 1⟩
        obtain ⟨nd, hnd⟩ : ∃ nd, nd = nodeP T2 ⟨n.f0, 0, 1⟩ := ⟨_, rfl⟩
        rw [← hnd] at w3 e3 p3 hnl
        simp only [← hnd] at hnv
        have a6' := (a6.ext (a3.pl hwi) a2 b3).ext (e12.pl hwi) b2 e3
        have b6' := b6.ext (e12.pl hwi) b2 e3
        have v3 : nd.2.vars = T.vars := e3.1.trans v2
        obtain ⟨r, T4, L4, q1, q2, q3, q4, q5, q6⟩ := ite_plain T.vars.toNat 64 nd.2 L2 nd.1 r2 r1 w3 (b4.ext b2 e3) p3 b6'.pl a6'.pl (by omega)
          (by rw [le_min3]; have := w3.asks_nonneg p3; have := w3.asks_nonneg b6'.pl; have := w3.asks_nonneg a6'.pl; omega) (by omega)
        have e4 := (e12.then_ e3).then_ q3
        have hI : IsCmp T4 i wi p r := by
          refine ⟨e4.pl hp, q5.pl, fun P => ?_⟩
          have hne : (T.vars - 1 - i).toNat ≠ (T.vars - 1 - n.f0).toNat := by omega
          rw [q5.val q2, q3.val w3 p3, q3.val w3 b6'.pl, q3.val w3 a6'.pl, hnv, b6'.val, a6'.val, e4.val hw hwi, e4.val hw hp, e4.1, v3, v2]
          rw [(e12.then_ e3).val hw hwi, (e12.then_ e3).val hw pl2, (e12.then_ e3).val hw pl1, hvn, setb_other _ _ _ _ hne]
        refine ⟨r, T4, L4, HMap.upd A2 p r, ?_, q2, e4, q4, ((b5.ext (e12.pl hwi) b2 e3).ext ((e12.then_ e3).pl hwi) w3 q3).upd hI, hI, by omega⟩
        unfold compP
        rw [if_neg h2, if_pos hp.2, if_neg hai, hl]
        simp only
        rw [hrd, if_neg hni, a1]
        simp only [Option.bind_some]
        rw [b1]
        simp only [Option.bind_some]
        rw [← hnd, q1]
        rfl
def cmpL (e : Nat) (a b : List Bool) : List Bool := (List.range a.length).map fun P => a.getD (setb e (b.getD P false) P) false
theorem cmpL_len (e : Nat) (a b : List Bool) : (cmpL e a b).length = a.length := by simp [cmpL]
theorem cmpL_get (e : Nat) (a b : List Bool) (P : Nat) (h : P < a.length) : (cmpL e a b).getD P false = a.getD (setb e (b.getD P false) P) false := by
  unfold cmpL
  rw [List.getD_eq_getElem?_getD, List.getElem?_map, List.getElem?_range h]
  rfl
def cmpG (v i : Int) (l1 l2 : List S107) (r1 r2 : Int) : Option (List Int × TB × List Int × TB × Int × TB × SL × AL × Int × MS) :=
  (loadP l1 [0, 1] (T0 v)).bind fun a => (loadP l2 [0, 1] a.2).bind fun b => (compP i (rd b.1 r2) 64 b.2 [] [] (rd a.1 r1)).bind fun d => (maskP d.2.1 64 M0 d.1).bind fun e => some (a.1, a.2, b.1, b.2, d.1, d.2.1, d.2.2.1, d.2.2.2, e.1, e.2)
theorem cmpG_ok {v i : Int} {l1 l2 : List S107} {r1 r2 : Int} (h1 : VM v l1 r1) (h2 : VM v l2 r2) (i0 : 0 ≤ i) (i1 : i < v) :
    ∃ a T1 b T2 p T4 L4 A4 r s, loadP l1 [0, 1] (T0 v) = some (a, T1) ∧ loadP l2 [0, 1] T1 = some (b, T2) ∧ compP i (rd b r2) 64 T2 [] [] (rd a r1) = some (p, T4, L4, A4) ∧ maskP T4 64 M0 p = some (r, s) ∧
      (0 ≤ r1 ∧ r1 < a.length) ∧ (0 ≤ r2 ∧ r2 < b.length) ∧ T1.ns.length ≤ 2 + l1.length ∧ T2.ns.length ≤ T1.ns.length + l2.length ∧ T4.ns.length ≤ T2.ns.length + 100000000 ∧ T4.vars = v ∧
      VM v s.out r ∧ tab v s.out r = cmpL (v - 1 - i).toNat (tab v l1 r1) (tab v l2 r2) ∧ s.out.length ≤ 4095 := by
  have h0 := h1.v0
  have h12 := h1.v12
  obtain ⟨a, T1, a1, a2, a3, a4, a5, a6, a7⟩ := h1.load (WF.t0 v h0) rfl
  have v1 : T1.vars = v := a3.1
  obtain ⟨b, T2, b1, b2, b3, b4, b5, b6, b7⟩ := h2.load a2 v1
  have v2 : T2.vars = v := b3.1.trans v1
  have pa : Pl T2 (rd a r1) := b3.pl a5
  have da : den T2 v.toNat (rd a r1) = tab v l1 r1 := by
    rw [b3.den a2 v.toNat _ (by omega) a5 (by have := a2.asks_nonneg a5; omega)]; exact a6
  obtain ⟨p, T4, L4, A4, i1', i2, i3, i4, i5, i6, i7⟩ := cmp_plain i (rd b r2) i0 v.toNat 64 T2 [] [] (rd a r1) b2 (Seen.nil _) (fun p r h => by simp [HMap.look] at h) pa b5 (by omega) (by omega) (by have := b2.asks_nonneg pa; omega) (by omega)
  have v4 : T4.vars = v := i3.1.trans v2
  obtain ⟨r, s, m1, m2, m3, m4, m5⟩ := mask_VM i2 (by omega) p i6.pl
  rw [v4] at m2 m3
  have hp := pow_nat_le (show v.toNat + 1 ≤ 13 by omega)
  have h13 : 2 ^ 13 = 8192 := by decide
  refine ⟨a, T1, b, T2, p, T4, L4, A4, r, s, a1, b1, i1', m1, a4, b4, a7, b7, by omega, v4, m2, ?_, m4⟩
  refine list_ext (by rw [tab_length, cmpL_len, tab_length]) (fun P hP => ?_)
  rw [tab_length] at hP
  have hl1 := tab_length v l1 r1
  have hv2 : (v - 1 - i).toNat < v.toNat := by omega
  rw [cmpL_get _ _ _ _ (by omega), m3]
  have hs := i6.val P
  unfold val at hs
  rw [v4, Nat.mod_eq_of_lt hP, i3.den b2 v.toNat _ (by omega) b5 (by have := b2.asks_nonneg b5; omega), i3.den b2 v.toNat _ (by omega) pa (by have := b2.asks_nonneg pa; omega), da, b6, Nat.mod_eq_of_lt (setb_lt _ _ _ _ hv2 hP)] at hs
  exact hs
end Go.Proofs.Ytlplphgoldkoeaa.HTab
namespace Go.Proofs.Ytlplphgoldkoeaa.X
open Go.RowKit Go.Proofs.YtlplphgoldkoeaaW.PrintWords Go.Proofs.YtlplphgoldkoeaaW.PrintLast Go.Proofs.YtlplphgoldkoeaaW.PrintMore Go.Proofs.Ytlplphgoldkoeaa.HTab
set_option linter.unusedVariables false
def mask_Compose.f (v1 : Int) (l1 : List (S107)) (r1 : Int) (i : Int) (v2 : Int) (l2 : List (S107)) (r2 : Int) : Option (Int × List (S107) × Int × Int) :=
  if l1.length ≤ 1000000000 ∧ l2.length ≤ 1000000000 then
    if (vmB v1 l1 r1 && (vmB v2 l2 r2 && decide (v2 = v1))) = true then
      if 0 ≤ i ∧ i < v1 then (cmpG v1 i l1 l2 r1 r2).map fun q => (v1, q.2.2.2.2.2.2.2.2.2.out, q.2.2.2.2.2.2.2.2.1, 0)
      else some (0, [], 0, 2)
    else some (0, [], 0, 2)
  else none
theorem mask_Compose.calls (a0_0 : Int) (A0_1 : Option Addr) (c0_1 : Nat) (l0_1 : List (S107)) (a0_2 : Int) (a1 : Int) (a2_0 : Int) (A2_1 : Option Addr) (c2_1 : Nat) (l2_1 : List (S107)) (a2_2 : Int) (r1 : Int) (r2 : List (S107)) (r3 : Int) (r4 : Int) (w : World)
    (hr0_1 : Kd.C k107 w A0_1 l0_1.length l0_1) (hc0_1 : l0_1.length ≤ c0_1) (hr2_1 : Kd.C k107 w A2_1 l2_1.length l2_1) (hc2_1 : l2_1.length ≤ c2_1) (h : mask_Compose.f a0_0 l0_1 a0_2 a1 a2_0 l2_1 a2_2 = some (r1, r2, r3, r4)) :
    Calls Try.prog 53 #[.agg #[.int .i64 a0_0, .slice A0_1 l0_1.length c0_1, .int .i64 a0_2], .int .i64 a1, .agg #[.int .i64 a2_0, .slice A2_1 l2_1.length c2_1, .int .i64 a2_2]] w fun e w' => ∃ v1_ : Value, e = .returned (.tuple #[.agg #[.int .i64 r1, v1_, .int .i64 r3], .int .i64 r4]) ∧ Kd.R k107 107 w' w.heap.size (fun _ => True) v1_ r2 ∧ Below w.heap.size w w' := by
  unfold mask_Compose.f at h
  split at h
  case isFalse => cases h
  rename_i hl
  have hv := valid2_f a0_0 a2_0 a0_2 a2_2 l0_1 l2_1 hl.1 hl.2
  split at h
  · rename_i hb
    rw [hb] at hv
    split at h
    · rename_i hi
      simp only [Bool.and_eq_true, decide_eq_true_eq] at hb
      obtain ⟨q1, q2, rfl⟩ := hb
      obtain ⟨a, T1, b, T2, p, T4, L4, A4, r, s, p1, p2, p4, p5, g1, g2, n1, n2, n4, hv4, p6, p7, p8⟩ := cmpG_ok (vmB_iff.1 q1) (vmB_iff.1 q2) hi.1 hi.2
      unfold cmpG at h
      rw [p1] at h; simp only [Option.bind_some] at h
      rw [p2] at h; simp only [Option.bind_some] at h
      rw [p4] at h; simp only [Option.bind_some] at h
      rw [p5] at h
      simp only [Option.bind_some, Option.map_some, Option.some.injEq, Prod.mk.injEq] at h
      obtain ⟨rfl, rfl, rfl, rfl⟩ := h
      exact compose_ok _ a0_2 a2_2 a1 A0_1 A2_1 c0_1 c2_1 l0_1 l2_1 w hr0_1 hr2_1 hc0_1 hc2_1 hv hi.1 hi.2 a b T1 T2 T4 p r 64 L4 A4 s p1 p2 p4 p5 g1 g2 (by omega) (by omega) (by omega) (by omega) hv4
    · rename_i hi
      simp only [Option.some.injEq, Prod.mk.injEq] at h
      obtain ⟨rfl, rfl, rfl, rfl⟩ := h
      by_cases h0 : a1 < 0
      · refine (compose_low a0_0 a2_0 a0_2 a2_2 a1 A0_1 A2_1 c0_1 c2_1 l0_1 l2_1 w hr0_1 hr2_1 hc0_1 hc2_1 hv h0).mono ?_
        rintro e w' ⟨rfl, hb⟩
        exact ⟨_, rfl, Kd.R_nil _ _ _ _ _, hb⟩
      · refine (compose_high a0_0 a2_0 a0_2 a2_2 a1 A0_1 A2_1 c0_1 c2_1 l0_1 l2_1 w hr0_1 hr2_1 hc0_1 hc2_1 hv (by omega) (by omega)).mono ?_
        rintro e w' ⟨rfl, hb⟩
        exact ⟨_, rfl, Kd.R_nil _ _ _ _ _, hb⟩
  · rename_i hb
    rw [Bool.not_eq_true] at hb
    rw [hb] at hv
    simp only [Option.some.injEq, Prod.mk.injEq] at h
    obtain ⟨rfl, rfl, rfl, rfl⟩ := h
    refine (compose_invalid a0_0 a2_0 a0_2 a2_2 a1 A0_1 A2_1 c0_1 c2_1 l0_1 l2_1 w hr0_1 hr2_1 hc0_1 hc2_1 hv).mono ?_
    rintro e w' ⟨rfl, hb⟩
    exact ⟨_, rfl, Kd.R_nil _ _ _ _ _, hb⟩
end Go.Proofs.Ytlplphgoldkoeaa.X
namespace Go.Proofs.Ytlplphgoldkoeaa.HTab
open Go.RowKit Go.Proofs.YtlplphgoldkoeaaW.PrintWords Go.Proofs.YtlplphgoldkoeaaW.PrintLast Go.Proofs.YtlplphgoldkoeaaW.PrintMore Go.Proofs.Ytlplphgoldkoeaa.HMap Go.Proofs.Ytlplphgoldkoeaa.X
theorem compose_f {v i : Int} {l1 l2 : List S107} {r1 r2 : Int} (h1 : VM v l1 r1) (h2 : VM v l2 r2) (i0 : 0 ≤ i) (i1 : i < v) :
    ∃ l r, mask_Compose.f v l1 r1 i v l2 r2 = some (v, l, r, 0) ∧ VM v l r ∧ tab v l r = cmpL (v - 1 - i).toNat (tab v l1 r1) (tab v l2 r2) ∧ l.length ≤ 4095 := by
  obtain ⟨a, T1, b, T2, p, T4, L4, A4, r, s, q1, q2, q4, q5, _, _, _, _, _, _, q6, q7, q8⟩ := cmpG_ok h1 h2 i0 i1
  refine ⟨s.out, r, ?_, q6, q7, q8⟩
  have n1 := h1.root.2.2
  have n2 := h2.root.2.2
  unfold mask_Compose.f
  rw [if_pos ⟨by omega, by omega⟩, vmB_true h1, vmB_true h2, if_pos (by simp), if_pos ⟨i0, i1⟩]
  unfold cmpG
  rw [q1]; simp only [Option.bind_some]
  rw [q2]; simp only [Option.bind_some]
  rw [q4]; simp only [Option.bind_some]
  rw [q5]
  rfl
end Go.Proofs.Ytlplphgoldkoeaa.HTab
end
