/- Lemmas of the masks: part Bp. -/
import Derived.Test.YtlplphgoldkoeaaBo
import Derived.Deep.DeepMust
import Derived.Test.YtlplphgoldkoeaaBk
section
set_option linter.unusedVariables false
set_option linter.unusedSimpArgs false
namespace Go.Proofs.Ytlplphgoldkoeaa.HTab
open Go.RowKit Go.Proofs.YtlplphgoldkoeaaW.PrintWords Go.Proofs.YtlplphgoldkoeaaW.PrintLast Go.Proofs.YtlplphgoldkoeaaW.PrintMore Go.Proofs.Ytlplphgoldkoeaa.HMap Go.Proofs.Ytlplphgoldkoeaa.X
open Go.ChangeMaps (setBlock)
set_option linter.unusedVariables false
set_option linter.unusedSimpArgs false
def tb_Ite_4.T : Bool × List (List Nat × List Nat) := (true, [([], []), ([], []), ([], []), ([], []), ([2, 3], [2, 3]), ([], []), ([], []), ([5, 6, 4], [5, 6]), ([], []), ([], []), ([8, 9, 7], [8, 9]), ([], []), ([1, 4, 7, 10, 11, 10], [1, 4, 7, 10, 11]), ([0, 12, 12], [0, 12]), ([13, 13, 0, 1, 2, 3, 4, 5, 6, 7, 8, 9, 10, 11, 12, 13], [13]), ([14, 0, 1, 2, 3, 4, 5, 6, 7, 8, 9, 10, 11, 12, 13, 14], [])])
def tb_Ite_4.B : List Nat := [0, 0, 0, 0, 12, 0, 0, 124, 0, 0, 1020, 0, 4094, 8191, 16383, 32767]
theorem tb_Ite_4.tab : rtab .any (opsOf Try.f51 4) = tb_Ite_4.T := by kernel_rfl
theorem tb_Ite_4.bits : waitsOk tb_Ite_4.T.2 tb_Ite_4.B = true := by kernel_rfl
def iteG (v : Int) (l1 l2 l3 : List S107) (r1 r2 r3 : Int) : Option (List Int × TB × List Int × TB × List Int × TB × Int × TB × SL × Int × MS) :=
  (loadP l1 [0, 1] (T0 v)).bind fun a => (loadP l2 [0, 1] a.2).bind fun b => (loadP l3 [0, 1] b.2).bind fun c => (iteP 64 c.2 [] (rd a.1 r1) (rd b.1 r2) (rd c.1 r3)).bind fun d => (maskP d.2.1 64 M0 d.1).bind fun e => some (a.1, a.2, b.1, b.2, c.1, c.2, d.1, d.2.1, d.2.2, e.1, e.2)
set_option maxRecDepth 100000 in
set_option maxHeartbeats 4000000 in
theorem ite_err (v1 v2 v3 r1 r2 r3 : Int) (A1 A2 A3 : Option Addr) (c1 c2 c3 : Nat) (l1 l2 l3 : List S107) (w : World) (hC1 : Kd.C k107 w A1 l1.length l1) (hC2 : Kd.C k107 w A2 l2.length l2) (hC3 : Kd.C k107 w A3 l3.length l3) (e1 : l1.length ≤ c1) (e2 : l2.length ≤ c2) (e3 : l3.length ≤ c3)
    (hv : mask_valid.f 10 [⟨v1, l1, r1⟩, ⟨v2, l2, r2⟩, ⟨v3, l3, r3⟩] = some false) :
    Calls Try.prog 51 #[.agg #[.int .i64 v1, .slice A1 l1.length c1, .int .i64 r1], .agg #[.int .i64 v2, .slice A2 l2.length c2, .int .i64 r2], .agg #[.int .i64 v3, .slice A3 l3.length c3, .int .i64 r3]] w fun e w' => e = .returned (.tuple #[.agg #[.int .i64 0, .slice none 0 0, .int .i64 0], .int .i64 2]) ∧ Below w.heap.size w w' := by
  have hu := Try.underlying28
  have HC := Aside0.mk (And.intro hC1 (And.intro hC2 hC3))
  have HV := Aside0.mk hv
  clear hC1 hC2 hC3 hv
  go_enter Try.func51, Try.ntmps51
  go_wp2_with fail
  obtain ⟨W6, hW6⟩ : ∃ W, W = ((((w.alloc (.cells #[.int .i64 v1, .slice A1 l1.length c1, .int .i64 r1] 28)).alloc (.cells #[.int .i64 v2, .slice A2 l2.length c2, .int .i64 r2] 28)).alloc (.cells #[.int .i64 v3, .slice A3 l3.length c3, .int .i64 r3] 28)).alloc (.cells #[.int .i64 0, .slice none 0 0, .int .i64 0] 28)).alloc (.cells #[.int .i64 v1, .slice A1 l1.length c1, .int .i64 r1, .int .i64 v2, .slice A2 l2.length c2, .int .i64 r2, .int .i64 v3, .slice A3 l3.length c3, .int .i64 r3] 28) := ⟨_, rfl⟩
  have hB6 : Below w.heap.size w W6 := by rw [hW6]; exact below_alloc (below_alloc (below_alloc (below_alloc (below_alloc (Below.refl _ _) _) _) _) _) _
  have hK6 : W6.heap[w.heap.size + 4]? = some (.cells #[.int .i64 v1, .slice A1 l1.length c1, .int .i64 r1, .int .i64 v2, .slice A2 l2.length c2, .int .i64 r2, .int .i64 v3, .slice A3 l3.length c3, .int .i64 r3] 28 (0, 0)) := by
    rw [hW6]
    simpa using blk_new ((((w.alloc (.cells #[.int .i64 v1, .slice A1 l1.length c1, .int .i64 r1] 28)).alloc (.cells #[.int .i64 v2, .slice A2 l2.length c2, .int .i64 r2] 28)).alloc (.cells #[.int .i64 v3, .slice A3 l3.length c3, .int .i64 r3] 28)).alloc (.cells #[.int .i64 0, .slice none 0 0, .int .i64 0] 28)) (.cells #[.int .i64 v1, .slice A1 l1.length c1, .int .i64 r1, .int .i64 v2, .slice A2 l2.length c2, .int .i64 r2, .int .i64 v3, .slice A3 l3.length c3, .int .i64 r3] 28)
  have hk6 : W6.heap[w.heap.size + 3]? = some (.cells #[.int .i64 0, .slice none 0 0, .int .i64 0] 28 (0, 0)) := by
    rw [hW6]
    refine blk_alloc ?_ _
    simpa using blk_new (((w.alloc (.cells #[.int .i64 v1, .slice A1 l1.length c1, .int .i64 r1] 28)).alloc (.cells #[.int .i64 v2, .slice A2 l2.length c2, .int .i64 r2] 28)).alloc (.cells #[.int .i64 v3, .slice A3 l3.length c3, .int .i64 r3] 28)) (.cells #[.int .i64 0, .slice none 0 0, .int .i64 0] 28)
  rw [← hW6]
  clear hW6
  have HB := Aside0.mk hB6
  have HK := Aside0.mk hk6
  have H3 := Aside0.mk (three_C hK6 (Kd.C_below HC.out.1 hB6) e1 (Kd.C_below HC.out.2.1 hB6) e2 (Kd.C_below HC.out.2.2 hB6) e3)
  clear hB6 hK6 hk6
  refine (mask_valid.calls 10 (some ⟨w.heap.size + 4, 0, none⟩) 3 _ false W6 H3.out (Nat.le_refl 3) HV.out).mono ?_
  rintro e w7 ⟨rfl, hB7⟩
  have K7 := Aside0.mk (blk_below HK.out hB7)
  have B7 := Aside0.mk (below_then HB.out HB.out.size hB7)
  clear hB7
  have c0 := (blk_cell K7.out 0).trans rfl
  have c1 := (blk_cell K7.out 1).trans rfl
  have c2 := (blk_cell K7.out 2).trans rfl
  have f0 := blk_frozen K7.out 0
  have f1 := blk_frozen K7.out 1
  have f2 := blk_frozen K7.out 2
  go_wp2
  refine bodyPost_ret (results_ct rfl _ _ (w.heap.size + 3) 28 #[.int .i64 0, .slice none 0 0, .int .i64 0] (0, 0) _ rfl (blk_put (cs := #[.int .i64 0, .slice none 0 0, .int .i64 0]) (blk_put (cs := #[.int .i64 0, .slice none 0 0, .int .i64 0]) (blk_put (cs := #[.int .i64 0, .slice none 0 0, .int .i64 0]) K7.out 0 _ rfl) 1 _ rfl) 2 _ rfl) hu rfl (by kernel_rfl)) rfl ?_
  exact ⟨by rfl, below_set (below_set (below_set B7.out (Nat.le_add_right _ 3)) (Nat.le_add_right _ 3)) (Nat.le_add_right _ 3)⟩
set_option maxRecDepth 100000 in
set_option maxHeartbeats 8000000 in
theorem ite_ok (v r1 r2 r3 : Int) (A1 A2 A3 : Option Addr) (c1 c2 c3 : Nat) (l1 l2 l3 : List S107) (w : World) (hC1 : Kd.C k107 w A1 l1.length l1) (hC2 : Kd.C k107 w A2 l2.length l2) (hC3 : Kd.C k107 w A3 l3.length l3) (e1 : l1.length ≤ c1) (e2 : l2.length ≤ c2) (e3 : l3.length ≤ c3)
    (hv : mask_valid.f 10 [⟨v, l1, r1⟩, ⟨v, l2, r2⟩, ⟨v, l3, r3⟩] = some true) (a b c : List Int) (T1 T2 T3 T4 : TB) (p r : Int) (L4 : SL) (s : MS)
    (h1 : loadP l1 [0, 1] (T0 v) = some (a, T1)) (h2 : loadP l2 [0, 1] T1 = some (b, T2)) (h3 : loadP l3 [0, 1] T2 = some (c, T3)) (h4 : iteP 64 T3 [] (rd a r1) (rd b r2) (rd c r3) = some (p, T4, L4)) (h5 : maskP T4 64 M0 p = some (r, s))
    (g1 : 0 ≤ r1 ∧ r1 < a.length) (g2 : 0 ≤ r2 ∧ r2 < b.length) (g3 : 0 ≤ r3 ∧ r3 < c.length) (n1 : 2 + l1.length < 1000000000000) (n2 : T1.ns.length + l2.length < 1000000000000) (n3 : T2.ns.length + l3.length < 1000000000000) (n4 : T4.ns.length < 1000000000000) (n5 : s.out.length < 1000000000000) (hv4 : T4.vars = v) :
    Calls Try.prog 51 #[.agg #[.int .i64 v, .slice A1 l1.length c1, .int .i64 r1], .agg #[.int .i64 v, .slice A2 l2.length c2, .int .i64 r2], .agg #[.int .i64 v, .slice A3 l3.length c3, .int .i64 r3]] w fun e w' => ∃ u : Value, e = .returned (.tuple #[.agg #[.int .i64 v, u, .int .i64 r], .int .i64 0]) ∧ Kd.R k107 107 w' w.heap.size (fun _ => True) u s.out ∧ Below w.heap.size w w' := by
  have hu := Try.underlying28
  have HC := Aside0.mk (And.intro hC1 (And.intro hC2 hC3))
  have HV := Aside0.mk hv
  have H1 := Aside0.mk h1
  have H2 := Aside0.mk h2
  have H3 := Aside0.mk h3
  have H4 := Aside0.mk h4
  have H5 := Aside0.mk h5
  have G := Aside0.mk (And.intro g1 (And.intro g2 g3))
  have HV4 := Aside0.mk hv4
  have NN := Aside0.mk (And.intro n1 (And.intro n2 (And.intro n3 (And.intro n4 n5))))
  clear hC1 hC2 hC3 hv h1 h2 h3 h4 h5 g1 g2 g3 n1 n2 n3 n4 n5 hv4
  go_enter Try.func51, Try.ntmps51
  go_wp2_with fail
  obtain ⟨W6, hW6⟩ : ∃ W, W = ((((w.alloc (.cells #[.int .i64 v, .slice A1 l1.length c1, .int .i64 r1] 28)).alloc (.cells #[.int .i64 v, .slice A2 l2.length c2, .int .i64 r2] 28)).alloc (.cells #[.int .i64 v, .slice A3 l3.length c3, .int .i64 r3] 28)).alloc (.cells #[.int .i64 0, .slice none 0 0, .int .i64 0] 28)).alloc (.cells #[.int .i64 v, .slice A1 l1.length c1, .int .i64 r1, .int .i64 v, .slice A2 l2.length c2, .int .i64 r2, .int .i64 v, .slice A3 l3.length c3, .int .i64 r3] 28) := ⟨_, rfl⟩
  have hB6 : Below w.heap.size w W6 := by rw [hW6]; exact below_alloc (below_alloc (below_alloc (below_alloc (below_alloc (Below.refl _ _) _) _) _) _) _
  have hK6 : W6.heap[w.heap.size + 4]? = some (.cells #[.int .i64 v, .slice A1 l1.length c1, .int .i64 r1, .int .i64 v, .slice A2 l2.length c2, .int .i64 r2, .int .i64 v, .slice A3 l3.length c3, .int .i64 r3] 28 (0, 0)) := by
    rw [hW6]
    simpa using blk_new ((((w.alloc (.cells #[.int .i64 v, .slice A1 l1.length c1, .int .i64 r1] 28)).alloc (.cells #[.int .i64 v, .slice A2 l2.length c2, .int .i64 r2] 28)).alloc (.cells #[.int .i64 v, .slice A3 l3.length c3, .int .i64 r3] 28)).alloc (.cells #[.int .i64 0, .slice none 0 0, .int .i64 0] 28)) (.cells #[.int .i64 v, .slice A1 l1.length c1, .int .i64 r1, .int .i64 v, .slice A2 l2.length c2, .int .i64 r2, .int .i64 v, .slice A3 l3.length c3, .int .i64 r3] 28)
  have hk6 : W6.heap[w.heap.size + 3]? = some (.cells #[.int .i64 0, .slice none 0 0, .int .i64 0] 28 (0, 0)) := by
    rw [hW6]
    refine blk_alloc ?_ _
    simpa using blk_new (((w.alloc (.cells #[.int .i64 v, .slice A1 l1.length c1, .int .i64 r1] 28)).alloc (.cells #[.int .i64 v, .slice A2 l2.length c2, .int .i64 r2] 28)).alloc (.cells #[.int .i64 v, .slice A3 l3.length c3, .int .i64 r3] 28)) (.cells #[.int .i64 0, .slice none 0 0, .int .i64 0] 28)
  have hq1 : W6.heap[w.heap.size]? = some (.cells #[.int .i64 v, .slice A1 l1.length c1, .int .i64 r1] 28 (0, 0)) := by
    rw [hW6]
    exact (blk_alloc (blk_alloc (blk_alloc (blk_alloc (blk_new _ _) _) _) _) _)
  have hq2 : W6.heap[w.heap.size + 1]? = some (.cells #[.int .i64 v, .slice A2 l2.length c2, .int .i64 r2] 28 (0, 0)) := by
    rw [hW6]
    refine blk_alloc (blk_alloc (blk_alloc (?_) _) _) _
    simpa using blk_new (w.alloc (.cells #[.int .i64 v, .slice A1 l1.length c1, .int .i64 r1] 28)) (.cells #[.int .i64 v, .slice A2 l2.length c2, .int .i64 r2] 28)
  have hq3 : W6.heap[w.heap.size + 2]? = some (.cells #[.int .i64 v, .slice A3 l3.length c3, .int .i64 r3] 28 (0, 0)) := by
    rw [hW6]
    refine blk_alloc (blk_alloc (?_) _) _
    simpa using blk_new ((w.alloc (.cells #[.int .i64 v, .slice A1 l1.length c1, .int .i64 r1] 28)).alloc (.cells #[.int .i64 v, .slice A2 l2.length c2, .int .i64 r2] 28)) (.cells #[.int .i64 v, .slice A3 l3.length c3, .int .i64 r3] 28)
  rw [← hW6]
  clear hW6
  have HB := Aside0.mk hB6
  have HK := Aside0.mk (And.intro hk6 (And.intro hq1 (And.intro hq2 hq3)))
  have HT := Aside0.mk (three_C hK6 (Kd.C_below HC.out.1 hB6) e1 (Kd.C_below HC.out.2.1 hB6) e2 (Kd.C_below HC.out.2.2 hB6) e3)
  clear hB6 hK6 hk6 hq1 hq2 hq3
  refine (mask_valid.calls 10 (some ⟨w.heap.size + 4, 0, none⟩) 3 _ true W6 HT.out (Nat.le_refl 3) HV.out).mono ?_
  rintro e w7 ⟨rfl, hB7⟩
  have K7 := Aside0.mk (And.intro (blk_below HK.out.1 hB7) (And.intro (blk_below HK.out.2.1 hB7) (And.intro (blk_below HK.out.2.2.1 hB7) (blk_below HK.out.2.2.2 hB7))))
  have B7 := Aside0.mk (below_then HB.out HB.out.size hB7)
  clear hB7 HB HK HT
  have y0 := (blk_cell K7.out.2.1 0).trans rfl
  go_wp2_with fail
  refine (newTable_calls v w7).mono ?_
  rintro e w8 ⟨t, rfl, hT8, hB8⟩
  have hLd := Ld.new hT8 hB8
  have K8 := Aside0.mk (And.intro (blk_below K7.out.1 hB8) (And.intro (blk_below K7.out.2.1 hB8) (And.intro (blk_below K7.out.2.2.1 hB8) (blk_below K7.out.2.2.2 hB8))))
  have C7 := Aside0.mk (And.intro (Kd.C_below HC.out.1 B7.out) (And.intro (Kd.C_below HC.out.2.1 B7.out) (Kd.C_below HC.out.2.2 B7.out)))
  clear hT8 hB8 y0
  have y10 := (blk_cell K8.out.2.1 0).trans rfl
  have y11 := (blk_cell K8.out.2.1 1).trans rfl
  have y12 := (blk_cell K8.out.2.1 2).trans rfl
  have y20 := (blk_cell K8.out.2.2.1 0).trans rfl
  have y21 := (blk_cell K8.out.2.2.1 1).trans rfl
  have y22 := (blk_cell K8.out.2.2.1 2).trans rfl
  have y30 := (blk_cell K8.out.2.2.2 0).trans rfl
  have y31 := (blk_cell K8.out.2.2.2 1).trans rfl
  have y32 := (blk_cell K8.out.2.2.2 2).trans rfl
  have H := Aside0.mk hLd.drew
  clear hLd
  go_wp2
  refine start_ (n := 16) (S := fun w' => (w'.cell? ⟨w.heap.size, 0, none⟩ = some (.int .i64 v)) ∧ (w'.cell? ⟨w.heap.size, 1, none⟩ = some (.slice A1 l1.length c1)) ∧ (w'.cell? ⟨w.heap.size, 2, none⟩ = some (.int .i64 r1)) ∧ (w'.cell? ⟨w.heap.size + 1, 0, none⟩ = some (.int .i64 v)) ∧ (w'.cell? ⟨w.heap.size + 1, 1, none⟩ = some (.slice A2 l2.length c2)) ∧ (w'.cell? ⟨w.heap.size + 1, 2, none⟩ = some (.int .i64 r2)) ∧ (w'.cell? ⟨w.heap.size + 2, 0, none⟩ = some (.int .i64 v)) ∧ (w'.cell? ⟨w.heap.size + 2, 1, none⟩ = some (.slice A3 l3.length c3)) ∧ (w'.cell? ⟨w.heap.size + 2, 2, none⟩ = some (.int .i64 r3))) (ds := [12, 13, 14]) #[false, false, false, false, false, false, false, false, false, false, false, false, false, false, false, false] (by kernel_rfl) rfl rfl ⟨y10, y11, y12, y20, y21, y22, y30, y31, y32⟩ (fun hHeld => ?_)
  refine with_tabW tb_Ite_4.tab tb_Ite_4.bits (fun HT_ HW_ => ?_)
  refine pure_ (i := 0) (N := some 19) (v := ?_) (a' := ?_) #[true, false, false, false, false, false, false, false, false, false, false, false, false, false, false, false] rfl rfl (any_of HT_.out (by kernel_rfl)) (fun _ _ _ h => h) (Or.inl ⟨by rfl, ?_⟩) ?_ ?_
  rotate_left
  · intro w'
    go_simp
    with_reducible rfl
  rotate_left
  · simp only [Act.put, List.setIfInBounds_toArray, List.set_cons_zero, List.set_cons_succ, i64_w, i32_w]
    rfl
  refine pure_ (i := 1) (N := some 20) (v := ?_) (a' := ?_) #[true, true, false, false, false, false, false, false, false, false, false, false, false, false, false, false] rfl rfl (any_of HT_.out (by kernel_rfl)) (fun _ _ _ h => h) (Or.inl ⟨by rfl, ?_⟩) ?_ ?_
  rotate_left
  · intro w'
    go_simp
    with_reducible rfl
  rotate_left
  · simp only [Act.put, List.setIfInBounds_toArray, List.set_cons_zero, List.set_cons_succ, i64_w, i32_w]
    rfl
  refine pure_ (i := 2) (N := some 21) (v := ?_) (a' := ?_) #[true, true, true, false, false, false, false, false, false, false, false, false, false, false, false, false] rfl rfl (any_of HT_.out (by kernel_rfl)) (fun _ _ _ h => h) (Or.inl ⟨by rfl, ?_⟩) ?_ ?_
  rotate_left
  · intro w'
    go_simp
    with_reducible rfl
  rotate_left
  · simp only [Act.put, List.setIfInBounds_toArray, List.set_cons_zero, List.set_cons_succ, i64_w, i32_w]
    rfl
  refine take_ (i := 3) (N := some 22) (v := ?_) (a' := ?_) #[true, true, true, true, false, false, false, false, false, false, false, false, false, false, false, false] rfl rfl (take_ofW HT_.out HW_.out (by kernel_rfl)) (fun _ _ _ h => h) (Or.inl ⟨by rfl, ?_⟩) hHeld ?_ ?_
  rotate_left
  · rintro w' ⟨s0, s1, s2, s3, s4, s5, s6, s7, s8⟩
    go_simp
    with_reducible rfl
  rotate_left
  · simp only [Act.put, List.setIfInBounds_toArray, List.set_cons_zero, List.set_cons_succ, i64_w, i32_w]
    rfl
  refine pure_ (i := 5) (N := some 24) (v := ?_) (a' := ?_) #[true, true, true, true, false, true, false, false, false, false, false, false, false, false, false, false] rfl rfl (any_of HT_.out (by kernel_rfl)) (fun _ _ _ h => h) (Or.inl ⟨by rfl, ?_⟩) ?_ ?_
  rotate_left
  · intro w'
    go_simp
    with_reducible rfl
  rotate_left
  · simp only [Act.put, List.setIfInBounds_toArray, List.set_cons_zero, List.set_cons_succ, i64_w, i32_w]
    rfl
  refine take_ (i := 6) (N := some 25) (v := ?_) (a' := ?_) #[true, true, true, true, false, true, true, false, false, false, false, false, false, false, false, false] rfl rfl (take_ofW HT_.out HW_.out (by kernel_rfl)) (fun _ _ _ h => h) (Or.inl ⟨by rfl, ?_⟩) hHeld ?_ ?_
  rotate_left
  · rintro w' ⟨s0, s1, s2, s3, s4, s5, s6, s7, s8⟩
    go_simp
    with_reducible rfl
  rotate_left
  · simp only [Act.put, List.setIfInBounds_toArray, List.set_cons_zero, List.set_cons_succ, i64_w, i32_w]
    rfl
  refine pure_ (i := 8) (N := some 27) (v := ?_) (a' := ?_) #[true, true, true, true, false, true, true, false, true, false, false, false, false, false, false, false] rfl rfl (any_of HT_.out (by kernel_rfl)) (fun _ _ _ h => h) (Or.inl ⟨by rfl, ?_⟩) ?_ ?_
  rotate_left
  · intro w'
    go_simp
    with_reducible rfl
  rotate_left
  · simp only [Act.put, List.setIfInBounds_toArray, List.set_cons_zero, List.set_cons_succ, i64_w, i32_w]
    rfl
  refine take_ (i := 9) (N := some 28) (v := ?_) (a' := ?_) #[true, true, true, true, false, true, true, false, true, true, false, false, false, false, false, false] rfl rfl (take_ofW HT_.out HW_.out (by kernel_rfl)) (fun _ _ _ h => h) (Or.inl ⟨by rfl, ?_⟩) hHeld ?_ ?_
  rotate_left
  · rintro w' ⟨s0, s1, s2, s3, s4, s5, s6, s7, s8⟩
    go_simp
    with_reducible rfl
  rotate_left
  · simp only [Act.put, List.setIfInBounds_toArray, List.set_cons_zero, List.set_cons_succ, i64_w, i32_w]
    rfl
  refine two_ (i := 4) (j := 11) (Ni := some 23) (Nj := some 30) #[true, true, true, true, true, true, true, false, true, true, false, false, false, false, false, false] #[true, true, true, true, false, true, true, false, true, true, false, true, false, false, false, false] rfl rfl rfl rfl (two_of HT_.out (by kernel_rfl)) (by decide) (by decide) (fun K hK => ?_) (fun K hK => ?_)
  · refine goes_ Try.func91 (by kernel_rfl) rfl #[.pointer (some ⟨t, 0, none⟩), .agg #[.int .i64 v, .slice A1 l1.length c1, .int .i64 r1]] (by rfl) rfl rfl (by simp only [List.map_toArray, List.map_cons, List.map_nil]; rfl) ?_
    refine (H.out.load v r1 A1 c1 l1 _ NN.out.1 C7.out.1 e1 H1.out G.out.1).mono ?_
    rintro e w9 ⟨rfl, hN⟩
    refine ⟨_, rfl, ?_⟩
    replace H := Aside0.mk hN
    clear hN
    refine hK.out _ _ ⟨(blk_cell (blk_below K7.out.2.1 H.out.bel) 0).trans rfl, (blk_cell (blk_below K7.out.2.1 H.out.bel) 1).trans rfl, (blk_cell (blk_below K7.out.2.1 H.out.bel) 2).trans rfl, (blk_cell (blk_below K7.out.2.2.1 H.out.bel) 0).trans rfl, (blk_cell (blk_below K7.out.2.2.1 H.out.bel) 1).trans rfl, (blk_cell (blk_below K7.out.2.2.1 H.out.bel) 2).trans rfl, (blk_cell (blk_below K7.out.2.2.2 H.out.bel) 0).trans rfl, (blk_cell (blk_below K7.out.2.2.2 H.out.bel) 1).trans rfl, (blk_cell (blk_below K7.out.2.2.2 H.out.bel) 2).trans rfl⟩ (fun hHeld => ?_)
    clear hK K
    refine norm_ (a' := ?_) ?_ ?_
    rotate_left
    · show Act.put _ (some 23) _ = _
      (try simp only [Act.put, List.setIfInBounds_toArray, List.set_cons_zero, List.set_cons_succ, i64_w, i32_w])
      rfl
    refine two_ (i := 7) (j := 11) (Ni := some 26) (Nj := some 30) #[true, true, true, true, true, true, true, true, true, true, false, false, false, false, false, false] #[true, true, true, true, true, true, true, false, true, true, false, true, false, false, false, false] rfl rfl rfl rfl (two_of HT_.out (by kernel_rfl)) (by decide) (by decide) (fun K hK => ?_) (fun K hK => ?_)
    · refine goes_ Try.func91 (by kernel_rfl) rfl #[.pointer (some ⟨t, 0, none⟩), .agg #[.int .i64 v, .slice A2 l2.length c2, .int .i64 r2]] (by rfl) rfl rfl (by simp only [List.map_toArray, List.map_cons, List.map_nil]; rfl) ?_
      refine (H.out.load v r2 A2 c2 l2 _ NN.out.2.1 C7.out.2.1 e2 H2.out G.out.2.1).mono ?_
      rintro e w9 ⟨rfl, hN⟩
      refine ⟨_, rfl, ?_⟩
      replace H := Aside0.mk hN
      clear hN
      refine hK.out _ _ ⟨(blk_cell (blk_below K7.out.2.1 H.out.bel) 0).trans rfl, (blk_cell (blk_below K7.out.2.1 H.out.bel) 1).trans rfl, (blk_cell (blk_below K7.out.2.1 H.out.bel) 2).trans rfl, (blk_cell (blk_below K7.out.2.2.1 H.out.bel) 0).trans rfl, (blk_cell (blk_below K7.out.2.2.1 H.out.bel) 1).trans rfl, (blk_cell (blk_below K7.out.2.2.1 H.out.bel) 2).trans rfl, (blk_cell (blk_below K7.out.2.2.2 H.out.bel) 0).trans rfl, (blk_cell (blk_below K7.out.2.2.2 H.out.bel) 1).trans rfl, (blk_cell (blk_below K7.out.2.2.2 H.out.bel) 2).trans rfl⟩ (fun hHeld => ?_)
      clear hK K
      refine norm_ (a' := ?_) ?_ ?_
      rotate_left
      · show Act.put _ (some 26) _ = _
        (try simp only [Act.put, List.setIfInBounds_toArray, List.set_cons_zero, List.set_cons_succ, i64_w, i32_w])
        rfl
      refine two_ (i := 10) (j := 11) (Ni := some 29) (Nj := some 30) #[true, true, true, true, true, true, true, true, true, true, true, false, false, false, false, false] #[true, true, true, true, true, true, true, true, true, true, false, true, false, false, false, false] rfl rfl rfl rfl (two_of HT_.out (by kernel_rfl)) (by decide) (by decide) (fun K hK => ?_) (fun K hK => ?_)
      · refine goes_ Try.func91 (by kernel_rfl) rfl #[.pointer (some ⟨t, 0, none⟩), .agg #[.int .i64 v, .slice A3 l3.length c3, .int .i64 r3]] (by rfl) rfl rfl (by simp only [List.map_toArray, List.map_cons, List.map_nil]; rfl) ?_
        refine (H.out.load v r3 A3 c3 l3 _ NN.out.2.2.1 C7.out.2.2 e3 H3.out G.out.2.2).mono ?_
        rintro e w9 ⟨rfl, hN⟩
        refine ⟨_, rfl, ?_⟩
        replace H := Aside0.mk hN
        clear hN
        refine hK.out _ _ ⟨(blk_cell (blk_below K7.out.2.1 H.out.bel) 0).trans rfl, (blk_cell (blk_below K7.out.2.1 H.out.bel) 1).trans rfl, (blk_cell (blk_below K7.out.2.1 H.out.bel) 2).trans rfl, (blk_cell (blk_below K7.out.2.2.1 H.out.bel) 0).trans rfl, (blk_cell (blk_below K7.out.2.2.1 H.out.bel) 1).trans rfl, (blk_cell (blk_below K7.out.2.2.1 H.out.bel) 2).trans rfl, (blk_cell (blk_below K7.out.2.2.2 H.out.bel) 0).trans rfl, (blk_cell (blk_below K7.out.2.2.2 H.out.bel) 1).trans rfl, (blk_cell (blk_below K7.out.2.2.2 H.out.bel) 2).trans rfl⟩ (fun hHeld => ?_)
        clear hK K
        refine norm_ (a' := ?_) ?_ ?_
        rotate_left
        · show Act.put _ (some 29) _ = _
          (try simp only [Act.put, List.setIfInBounds_toArray, List.set_cons_zero, List.set_cons_succ, i64_w, i32_w])
          rfl
        refine one_ (i := 11) (N := some 30) #[true, true, true, true, true, true, true, true, true, true, true, true, false, false, false, false] rfl rfl (one_of HT_.out (by kernel_rfl)) (by decide) (fun K hK => ?_)
        refine value_ (by rfl) rfl rfl ?_
        replace H := Aside0.mk H.out.map_made
        refine hK.out _ _ ⟨(blk_cell (blk_below K7.out.2.1 H.out.bel) 0).trans rfl, (blk_cell (blk_below K7.out.2.1 H.out.bel) 1).trans rfl, (blk_cell (blk_below K7.out.2.1 H.out.bel) 2).trans rfl, (blk_cell (blk_below K7.out.2.2.1 H.out.bel) 0).trans rfl, (blk_cell (blk_below K7.out.2.2.1 H.out.bel) 1).trans rfl, (blk_cell (blk_below K7.out.2.2.1 H.out.bel) 2).trans rfl, (blk_cell (blk_below K7.out.2.2.2 H.out.bel) 0).trans rfl, (blk_cell (blk_below K7.out.2.2.2 H.out.bel) 1).trans rfl, (blk_cell (blk_below K7.out.2.2.2 H.out.bel) 2).trans rfl⟩ (fun hHeld => ?_)
        clear hK K
        refine norm_ (a' := ?_) ?_ ?_
        rotate_left
        · show Act.put _ (some 30) _ = _
          (try simp only [Act.put, List.setIfInBounds_toArray, List.set_cons_zero, List.set_cons_succ, i64_w, i32_w])
          rfl
        refine last_ (i := 12) (N := some 31) #[true, true, true, true, true, true, true, true, true, true, true, true, true, false, false, false] rfl rfl (one_of HT_.out (by kernel_rfl)) (by decide) (fun K hK => ?_)
        refine goes_ Try.func101 (by kernel_rfl) rfl #[.pointer (some ⟨t, 0, none⟩), .int .i64 (rd a r1), .int .i64 (rd b r2), .int .i64 (rd c r3), .map (some _)] (by rfl) rfl rfl (by simp only [List.map_toArray, List.map_cons, List.map_nil]; rfl) ?_
        refine (H.out.ite 64 (rd a r1) (rd b r2) (rd c r3) p T4 L4 H4.out NN.out.2.2.2.1).mono ?_
        rintro e w10 ⟨rfl, hB10, S10, hT10⟩
        refine ⟨_, rfl, ?_⟩
        have B10 := Aside0.mk hB10
        have T10 := Aside0.mk hT10
        clear hB10 hT10
        refine hK.out _ _ ?_
        clear hK K
        refine norm_ (a' := ?_) ?_ ?_
        rotate_left
        · show Act.put _ (some 31) _ = _
          (try simp only [Act.put, List.setIfInBounds_toArray, List.set_cons_zero, List.set_cons_succ, i64_w, i32_w])
          rfl
        refine last_ (i := 13) (N := some 32) #[true, true, true, true, true, true, true, true, true, true, true, true, true, true, false, false] rfl rfl (one_of HT_.out (by kernel_rfl)) (by decide) (fun K hK => ?_)
        refine goes_ Try.func90 (by kernel_rfl) rfl #[.pointer (some ⟨t, 0, none⟩), .int .i64 p] (by rfl) rfl rfl (by simp only [List.map_toArray, List.map_cons, List.map_nil]; rfl) ?_
        refine (tmask_calls t T4 64 s p r w10 T10.out NN.out.2.2.2.2 H5.out).mono ?_
        rintro e w11 ⟨v11, rfl, hR11, hB11⟩
        obtain ⟨A11, c11, rfl, hc11, hC11⟩ := Kd.R_reads hR11
        rw [HV4.out]
        refine ⟨.agg #[.int .i64 v, .slice A11 s.out.length c11, .int .i64 r], rfl, ?_⟩
        have B11 := Aside0.mk (below_then B7.out B7.out.size (below_then B10.out B10.out.size hB11))
        have K11 := Aside0.mk (blk_below (blk_below K7.out.1 B10.out) hB11)
        have R11 := Aside0.mk (Kd.R_lower hR11 (Nat.le_trans B7.out.size B10.out.size))
        have q0 := (blk_cell K11.out 0).trans rfl
        have q1 := (blk_cell K11.out 1).trans rfl
        have q2 := (blk_cell K11.out 2).trans rfl
        have fq0 := blk_frozen K11.out 0
        have fq1 := blk_frozen K11.out 1
        have fq2 := blk_frozen K11.out 2
        clear hR11 hB11 hC11
        refine hK.out _ _ ?_
        clear hK K
        refine norm_ (a' := ?_) ?_ ?_
        rotate_left
        · show Act.put _ (some 32) _ = _
          (try simp only [Act.put, List.setIfInBounds_toArray, List.set_cons_zero, List.set_cons_succ, i64_w, i32_w])
          rfl
        refine last_ (i := 14) (N := none) #[true, true, true, true, true, true, true, true, true, true, true, true, true, true, true, false] rfl rfl (one_of HT_.out (by kernel_rfl)) (by decide) (fun K hK => ?_)
        refine skip_ (w1 := ?_) (by rfl) rfl ?_ ?_
        rotate_left
        · go_simp
          rfl
        refine hK.out _ _ ?_
        clear hK K
        refine norm_ (a' := ?_) ?_ ?_
        rotate_left
        · rfl
        refine pure_ (i := 15) (N := some 7) (v := ?_) (a' := ?_) #[true, true, true, true, true, true, true, true, true, true, true, true, true, true, true, true] rfl rfl (any_of HT_.out (by kernel_rfl)) (fun _ _ _ h => h) (Or.inl ⟨by rfl, ?_⟩) ?_ ?_
        rotate_left
        · intro w'
          go_simp
          with_reducible rfl
        rotate_left
        · simp only [Act.put, List.setIfInBounds_toArray, List.set_cons_zero, List.set_cons_succ, i64_w, i32_w]
          rfl
        refine done_ (done_of HT_.out (by kernel_rfl)) ?_
        go_wp2
        have N0 := Kd.R_types R11.out K11.out (by decide)
        have N1 := Kd.R_far (p := ⟨w.heap.size + 3, 0, none⟩) N0 (fun _ hk => hk.2) (.int .i64 v)
        have N2 := Kd.R_far (p := ⟨w.heap.size + 3, 1, none⟩) N1 (fun _ hk => hk.2) (.slice A11 s.out.length c11)
        have N3 := Kd.R_far (p := ⟨w.heap.size + 3, 2, none⟩) N2 (fun _ hk => hk.2) (.int .i64 r)
        refine bodyPost_ret (results_ct rfl _ _ (w.heap.size + 3) 28 #[.int .i64 v, .slice A11 s.out.length c11, .int .i64 r] (0, 0) _ rfl ?_ hu rfl (by kernel_rfl)) rfl ?_
        · exact blk_put (cs := #[.int .i64 v, .slice A11 s.out.length c11, .int .i64 0]) (blk_put (cs := #[.int .i64 v, .slice none 0 0, .int .i64 0]) (blk_put (cs := #[.int .i64 0, .slice none 0 0, .int .i64 0]) K11.out 0 _ rfl) 1 _ rfl) 2 _ rfl
        · exact ⟨_, by rfl, Kd.R_mono N3 (fun _ _ => trivial), below_set (below_set (below_set B11.out (Nat.le_add_right _ 3)) (Nat.le_add_right _ 3)) (Nat.le_add_right _ 3)⟩
      · refine value_ (by rfl) rfl rfl ?_
        replace H := Aside0.mk H.out.map_made
        refine hK.out _ _ ⟨(blk_cell (blk_below K7.out.2.1 H.out.bel) 0).trans rfl, (blk_cell (blk_below K7.out.2.1 H.out.bel) 1).trans rfl, (blk_cell (blk_below K7.out.2.1 H.out.bel) 2).trans rfl, (blk_cell (blk_below K7.out.2.2.1 H.out.bel) 0).trans rfl, (blk_cell (blk_below K7.out.2.2.1 H.out.bel) 1).trans rfl, (blk_cell (blk_below K7.out.2.2.1 H.out.bel) 2).trans rfl, (blk_cell (blk_below K7.out.2.2.2 H.out.bel) 0).trans rfl, (blk_cell (blk_below K7.out.2.2.2 H.out.bel) 1).trans rfl, (blk_cell (blk_below K7.out.2.2.2 H.out.bel) 2).trans rfl⟩ (fun hHeld => ?_)
        clear hK K
        refine norm_ (a' := ?_) ?_ ?_
        rotate_left
        · show Act.put _ (some 30) _ = _
          (try simp only [Act.put, List.setIfInBounds_toArray, List.set_cons_zero, List.set_cons_succ, i64_w, i32_w])
          rfl
        refine one_ (i := 10) (N := some 29) #[true, true, true, true, true, true, true, true, true, true, true, true, false, false, false, false] rfl rfl (one_of HT_.out (by kernel_rfl)) (by decide) (fun K hK => ?_)
        refine goes_ Try.func91 (by kernel_rfl) rfl #[.pointer (some ⟨t, 0, none⟩), .agg #[.int .i64 v, .slice A3 l3.length c3, .int .i64 r3]] (by rfl) rfl rfl (by simp only [List.map_toArray, List.map_cons, List.map_nil]; rfl) ?_
        refine (H.out.load v r3 A3 c3 l3 _ NN.out.2.2.1 C7.out.2.2 e3 H3.out G.out.2.2).mono ?_
        rintro e w9 ⟨rfl, hN⟩
        refine ⟨_, rfl, ?_⟩
        replace H := Aside0.mk hN
        clear hN
        refine hK.out _ _ ⟨(blk_cell (blk_below K7.out.2.1 H.out.bel) 0).trans rfl, (blk_cell (blk_below K7.out.2.1 H.out.bel) 1).trans rfl, (blk_cell (blk_below K7.out.2.1 H.out.bel) 2).trans rfl, (blk_cell (blk_below K7.out.2.2.1 H.out.bel) 0).trans rfl, (blk_cell (blk_below K7.out.2.2.1 H.out.bel) 1).trans rfl, (blk_cell (blk_below K7.out.2.2.1 H.out.bel) 2).trans rfl, (blk_cell (blk_below K7.out.2.2.2 H.out.bel) 0).trans rfl, (blk_cell (blk_below K7.out.2.2.2 H.out.bel) 1).trans rfl, (blk_cell (blk_below K7.out.2.2.2 H.out.bel) 2).trans rfl⟩ (fun hHeld => ?_)
        clear hK K
        refine norm_ (a' := ?_) ?_ ?_
        rotate_left
        · show Act.put _ (some 29) _ = _
          (try simp only [Act.put, List.setIfInBounds_toArray, List.set_cons_zero, List.set_cons_succ, i64_w, i32_w])
          rfl
        refine last_ (i := 12) (N := some 31) #[true, true, true, true, true, true, true, true, true, true, true, true, true, false, false, false] rfl rfl (one_of HT_.out (by kernel_rfl)) (by decide) (fun K hK => ?_)
        refine goes_ Try.func101 (by kernel_rfl) rfl #[.pointer (some ⟨t, 0, none⟩), .int .i64 (rd a r1), .int .i64 (rd b r2), .int .i64 (rd c r3), .map (some _)] (by rfl) rfl rfl (by simp only [List.map_toArray, List.map_cons, List.map_nil]; rfl) ?_
        refine (H.out.ite 64 (rd a r1) (rd b r2) (rd c r3) p T4 L4 H4.out NN.out.2.2.2.1).mono ?_
        rintro e w10 ⟨rfl, hB10, S10, hT10⟩
        refine ⟨_, rfl, ?_⟩
        have B10 := Aside0.mk hB10
        have T10 := Aside0.mk hT10
        clear hB10 hT10
        refine hK.out _ _ ?_
        clear hK K
        refine norm_ (a' := ?_) ?_ ?_
        rotate_left
        · show Act.put _ (some 31) _ = _
          (try simp only [Act.put, List.setIfInBounds_toArray, List.set_cons_zero, List.set_cons_succ, i64_w, i32_w])
          rfl
        refine last_ (i := 13) (N := some 32) #[true, true, true, true, true, true, true, true, true, true, true, true, true, true, false, false] rfl rfl (one_of HT_.out (by kernel_rfl)) (by decide) (fun K hK => ?_)
        refine goes_ Try.func90 (by kernel_rfl) rfl #[.pointer (some ⟨t, 0, none⟩), .int .i64 p] (by rfl) rfl rfl (by simp only [List.map_toArray, List.map_cons, List.map_nil]; rfl) ?_
        refine (tmask_calls t T4 64 s p r w10 T10.out NN.out.2.2.2.2 H5.out).mono ?_
        rintro e w11 ⟨v11, rfl, hR11, hB11⟩
        obtain ⟨A11, c11, rfl, hc11, hC11⟩ := Kd.R_reads hR11
        rw [HV4.out]
        refine ⟨.agg #[.int .i64 v, .slice A11 s.out.length c11, .int .i64 r], rfl, ?_⟩
        have B11 := Aside0.mk (below_then B7.out B7.out.size (below_then B10.out B10.out.size hB11))
        have K11 := Aside0.mk (blk_below (blk_below K7.out.1 B10.out) hB11)
        have R11 := Aside0.mk (Kd.R_lower hR11 (Nat.le_trans B7.out.size B10.out.size))
        have q0 := (blk_cell K11.out 0).trans rfl
        have q1 := (blk_cell K11.out 1).trans rfl
        have q2 := (blk_cell K11.out 2).trans rfl
        have fq0 := blk_frozen K11.out 0
        have fq1 := blk_frozen K11.out 1
        have fq2 := blk_frozen K11.out 2
        clear hR11 hB11 hC11
        refine hK.out _ _ ?_
        clear hK K
        refine norm_ (a' := ?_) ?_ ?_
        rotate_left
        · show Act.put _ (some 32) _ = _
          (try simp only [Act.put, List.setIfInBounds_toArray, List.set_cons_zero, List.set_cons_succ, i64_w, i32_w])
          rfl
        refine last_ (i := 14) (N := none) #[true, true, true, true, true, true, true, true, true, true, true, true, true, true, true, false] rfl rfl (one_of HT_.out (by kernel_rfl)) (by decide) (fun K hK => ?_)
        refine skip_ (w1 := ?_) (by rfl) rfl ?_ ?_
        rotate_left
        · go_simp
          rfl
        refine hK.out _ _ ?_
        clear hK K
        refine norm_ (a' := ?_) ?_ ?_
        rotate_left
        · rfl
        refine pure_ (i := 15) (N := some 7) (v := ?_) (a' := ?_) #[true, true, true, true, true, true, true, true, true, true, true, true, true, true, true, true] rfl rfl (any_of HT_.out (by kernel_rfl)) (fun _ _ _ h => h) (Or.inl ⟨by rfl, ?_⟩) ?_ ?_
        rotate_left
        · intro w'
          go_simp
          with_reducible rfl
        rotate_left
        · simp only [Act.put, List.setIfInBounds_toArray, List.set_cons_zero, List.set_cons_succ, i64_w, i32_w]
          rfl
        refine done_ (done_of HT_.out (by kernel_rfl)) ?_
        go_wp2
        have N0 := Kd.R_types R11.out K11.out (by decide)
        have N1 := Kd.R_far (p := ⟨w.heap.size + 3, 0, none⟩) N0 (fun _ hk => hk.2) (.int .i64 v)
        have N2 := Kd.R_far (p := ⟨w.heap.size + 3, 1, none⟩) N1 (fun _ hk => hk.2) (.slice A11 s.out.length c11)
        have N3 := Kd.R_far (p := ⟨w.heap.size + 3, 2, none⟩) N2 (fun _ hk => hk.2) (.int .i64 r)
        refine bodyPost_ret (results_ct rfl _ _ (w.heap.size + 3) 28 #[.int .i64 v, .slice A11 s.out.length c11, .int .i64 r] (0, 0) _ rfl ?_ hu rfl (by kernel_rfl)) rfl ?_
        · exact blk_put (cs := #[.int .i64 v, .slice A11 s.out.length c11, .int .i64 0]) (blk_put (cs := #[.int .i64 v, .slice none 0 0, .int .i64 0]) (blk_put (cs := #[.int .i64 0, .slice none 0 0, .int .i64 0]) K11.out 0 _ rfl) 1 _ rfl) 2 _ rfl
        · exact ⟨_, by rfl, Kd.R_mono N3 (fun _ _ => trivial), below_set (below_set (below_set B11.out (Nat.le_add_right _ 3)) (Nat.le_add_right _ 3)) (Nat.le_add_right _ 3)⟩
    · refine value_ (by rfl) rfl rfl ?_
      replace H := Aside0.mk H.out.map_made
      refine hK.out _ _ ⟨(blk_cell (blk_below K7.out.2.1 H.out.bel) 0).trans rfl, (blk_cell (blk_below K7.out.2.1 H.out.bel) 1).trans rfl, (blk_cell (blk_below K7.out.2.1 H.out.bel) 2).trans rfl, (blk_cell (blk_below K7.out.2.2.1 H.out.bel) 0).trans rfl, (blk_cell (blk_below K7.out.2.2.1 H.out.bel) 1).trans rfl, (blk_cell (blk_below K7.out.2.2.1 H.out.bel) 2).trans rfl, (blk_cell (blk_below K7.out.2.2.2 H.out.bel) 0).trans rfl, (blk_cell (blk_below K7.out.2.2.2 H.out.bel) 1).trans rfl, (blk_cell (blk_below K7.out.2.2.2 H.out.bel) 2).trans rfl⟩ (fun hHeld => ?_)
      clear hK K
      refine norm_ (a' := ?_) ?_ ?_
      rotate_left
      · show Act.put _ (some 30) _ = _
        (try simp only [Act.put, List.setIfInBounds_toArray, List.set_cons_zero, List.set_cons_succ, i64_w, i32_w])
        rfl
      refine one_ (i := 7) (N := some 26) #[true, true, true, true, true, true, true, true, true, true, false, true, false, false, false, false] rfl rfl (one_of HT_.out (by kernel_rfl)) (by decide) (fun K hK => ?_)
      refine goes_ Try.func91 (by kernel_rfl) rfl #[.pointer (some ⟨t, 0, none⟩), .agg #[.int .i64 v, .slice A2 l2.length c2, .int .i64 r2]] (by rfl) rfl rfl (by simp only [List.map_toArray, List.map_cons, List.map_nil]; rfl) ?_
      refine (H.out.load v r2 A2 c2 l2 _ NN.out.2.1 C7.out.2.1 e2 H2.out G.out.2.1).mono ?_
      rintro e w9 ⟨rfl, hN⟩
      refine ⟨_, rfl, ?_⟩
      replace H := Aside0.mk hN
      clear hN
      refine hK.out _ _ ⟨(blk_cell (blk_below K7.out.2.1 H.out.bel) 0).trans rfl, (blk_cell (blk_below K7.out.2.1 H.out.bel) 1).trans rfl, (blk_cell (blk_below K7.out.2.1 H.out.bel) 2).trans rfl, (blk_cell (blk_below K7.out.2.2.1 H.out.bel) 0).trans rfl, (blk_cell (blk_below K7.out.2.2.1 H.out.bel) 1).trans rfl, (blk_cell (blk_below K7.out.2.2.1 H.out.bel) 2).trans rfl, (blk_cell (blk_below K7.out.2.2.2 H.out.bel) 0).trans rfl, (blk_cell (blk_below K7.out.2.2.2 H.out.bel) 1).trans rfl, (blk_cell (blk_below K7.out.2.2.2 H.out.bel) 2).trans rfl⟩ (fun hHeld => ?_)
      clear hK K
      refine norm_ (a' := ?_) ?_ ?_
      rotate_left
      · show Act.put _ (some 26) _ = _
        (try simp only [Act.put, List.setIfInBounds_toArray, List.set_cons_zero, List.set_cons_succ, i64_w, i32_w])
        rfl
      refine one_ (i := 10) (N := some 29) #[true, true, true, true, true, true, true, true, true, true, true, true, false, false, false, false] rfl rfl (one_of HT_.out (by kernel_rfl)) (by decide) (fun K hK => ?_)
      refine goes_ Try.func91 (by kernel_rfl) rfl #[.pointer (some ⟨t, 0, none⟩), .agg #[.int .i64 v, .slice A3 l3.length c3, .int .i64 r3]] (by rfl) rfl rfl (by simp only [List.map_toArray, List.map_cons, List.map_nil]; rfl) ?_
      refine (H.out.load v r3 A3 c3 l3 _ NN.out.2.2.1 C7.out.2.2 e3 H3.out G.out.2.2).mono ?_
      rintro e w9 ⟨rfl, hN⟩
      refine ⟨_, rfl, ?_⟩
      replace H := Aside0.mk hN
      clear hN
      refine hK.out _ _ ⟨(blk_cell (blk_below K7.out.2.1 H.out.bel) 0).trans rfl, (blk_cell (blk_below K7.out.2.1 H.out.bel) 1).trans rfl, (blk_cell (blk_below K7.out.2.1 H.out.bel) 2).trans rfl, (blk_cell (blk_below K7.out.2.2.1 H.out.bel) 0).trans rfl, (blk_cell (blk_below K7.out.2.2.1 H.out.bel) 1).trans rfl, (blk_cell (blk_below K7.out.2.2.1 H.out.bel) 2).trans rfl, (blk_cell (blk_below K7.out.2.2.2 H.out.bel) 0).trans rfl, (blk_cell (blk_below K7.out.2.2.2 H.out.bel) 1).trans rfl, (blk_cell (blk_below K7.out.2.2.2 H.out.bel) 2).trans rfl⟩ (fun hHeld => ?_)
      clear hK K
      refine norm_ (a' := ?_) ?_ ?_
      rotate_left
      · show Act.put _ (some 29) _ = _
        (try simp only [Act.put, List.setIfInBounds_toArray, List.set_cons_zero, List.set_cons_succ, i64_w, i32_w])
        rfl
      refine last_ (i := 12) (N := some 31) #[true, true, true, true, true, true, true, true, true, true, true, true, true, false, false, false] rfl rfl (one_of HT_.out (by kernel_rfl)) (by decide) (fun K hK => ?_)
      refine goes_ Try.func101 (by kernel_rfl) rfl #[.pointer (some ⟨t, 0, none⟩), .int .i64 (rd a r1), .int .i64 (rd b r2), .int .i64 (rd c r3), .map (some _)] (by rfl) rfl rfl (by simp only [List.map_toArray, List.map_cons, List.map_nil]; rfl) ?_
      refine (H.out.ite 64 (rd a r1) (rd b r2) (rd c r3) p T4 L4 H4.out NN.out.2.2.2.1).mono ?_
      rintro e w10 ⟨rfl, hB10, S10, hT10⟩
      refine ⟨_, rfl, ?_⟩
      have B10 := Aside0.mk hB10
      have T10 := Aside0.mk hT10
      clear hB10 hT10
      refine hK.out _ _ ?_
      clear hK K
      refine norm_ (a' := ?_) ?_ ?_
      rotate_left
      · show Act.put _ (some 31) _ = _
        (try simp only [Act.put, List.setIfInBounds_toArray, List.set_cons_zero, List.set_cons_succ, i64_w, i32_w])
        rfl
      refine last_ (i := 13) (N := some 32) #[true, true, true, true, true, true, true, true, true, true, true, true, true, true, false, false] rfl rfl (one_of HT_.out (by kernel_rfl)) (by decide) (fun K hK => ?_)
      refine goes_ Try.func90 (by kernel_rfl) rfl #[.pointer (some ⟨t, 0, none⟩), .int .i64 p] (by rfl) rfl rfl (by simp only [List.map_toArray, List.map_cons, List.map_nil]; rfl) ?_
      refine (tmask_calls t T4 64 s p r w10 T10.out NN.out.2.2.2.2 H5.out).mono ?_
      rintro e w11 ⟨v11, rfl, hR11, hB11⟩
      obtain ⟨A11, c11, rfl, hc11, hC11⟩ := Kd.R_reads hR11
      rw [HV4.out]
      refine ⟨.agg #[.int .i64 v, .slice A11 s.out.length c11, .int .i64 r], rfl, ?_⟩
      have B11 := Aside0.mk (below_then B7.out B7.out.size (below_then B10.out B10.out.size hB11))
      have K11 := Aside0.mk (blk_below (blk_below K7.out.1 B10.out) hB11)
      have R11 := Aside0.mk (Kd.R_lower hR11 (Nat.le_trans B7.out.size B10.out.size))
      have q0 := (blk_cell K11.out 0).trans rfl
      have q1 := (blk_cell K11.out 1).trans rfl
      have q2 := (blk_cell K11.out 2).trans rfl
      have fq0 := blk_frozen K11.out 0
      have fq1 := blk_frozen K11.out 1
      have fq2 := blk_frozen K11.out 2
      clear hR11 hB11 hC11
      refine hK.out _ _ ?_
      clear hK K
      refine norm_ (a' := ?_) ?_ ?_
      rotate_left
      · show Act.put _ (some 32) _ = _
        (try simp only [Act.put, List.setIfInBounds_toArray, List.set_cons_zero, List.set_cons_succ, i64_w, i32_w])
        rfl
      refine last_ (i := 14) (N := none) #[true, true, true, true, true, true, true, true, true, true, true, true, true, true, true, false] rfl rfl (one_of HT_.out (by kernel_rfl)) (by decide) (fun K hK => ?_)
      refine skip_ (w1 := ?_) (by rfl) rfl ?_ ?_
      rotate_left
      · go_simp
        rfl
      refine hK.out _ _ ?_
      clear hK K
      refine norm_ (a' := ?_) ?_ ?_
      rotate_left
      · rfl
      refine pure_ (i := 15) (N := some 7) (v := ?_) (a' := ?_) #[true, true, true, true, true, true, true, true, true, true, true, true, true, true, true, true] rfl rfl (any_of HT_.out (by kernel_rfl)) (fun _ _ _ h => h) (Or.inl ⟨by rfl, ?_⟩) ?_ ?_
      rotate_left
      · intro w'
        go_simp
        with_reducible rfl
      rotate_left
      · simp only [Act.put, List.setIfInBounds_toArray, List.set_cons_zero, List.set_cons_succ, i64_w, i32_w]
        rfl
      refine done_ (done_of HT_.out (by kernel_rfl)) ?_
      go_wp2
      have N0 := Kd.R_types R11.out K11.out (by decide)
      have N1 := Kd.R_far (p := ⟨w.heap.size + 3, 0, none⟩) N0 (fun _ hk => hk.2) (.int .i64 v)
      have N2 := Kd.R_far (p := ⟨w.heap.size + 3, 1, none⟩) N1 (fun _ hk => hk.2) (.slice A11 s.out.length c11)
      have N3 := Kd.R_far (p := ⟨w.heap.size + 3, 2, none⟩) N2 (fun _ hk => hk.2) (.int .i64 r)
      refine bodyPost_ret (results_ct rfl _ _ (w.heap.size + 3) 28 #[.int .i64 v, .slice A11 s.out.length c11, .int .i64 r] (0, 0) _ rfl ?_ hu rfl (by kernel_rfl)) rfl ?_
      · exact blk_put (cs := #[.int .i64 v, .slice A11 s.out.length c11, .int .i64 0]) (blk_put (cs := #[.int .i64 v, .slice none 0 0, .int .i64 0]) (blk_put (cs := #[.int .i64 0, .slice none 0 0, .int .i64 0]) K11.out 0 _ rfl) 1 _ rfl) 2 _ rfl
      · exact ⟨_, by rfl, Kd.R_mono N3 (fun _ _ => trivial), below_set (below_set (below_set B11.out (Nat.le_add_right _ 3)) (Nat.le_add_right _ 3)) (Nat.le_add_right _ 3)⟩
  · refine value_ (by rfl) rfl rfl ?_
    replace H := Aside0.mk H.out.map_made
    refine hK.out _ _ ⟨(blk_cell (blk_below K7.out.2.1 H.out.bel) 0).trans rfl, (blk_cell (blk_below K7.out.2.1 H.out.bel) 1).trans rfl, (blk_cell (blk_below K7.out.2.1 H.out.bel) 2).trans rfl, (blk_cell (blk_below K7.out.2.2.1 H.out.bel) 0).trans rfl, (blk_cell (blk_below K7.out.2.2.1 H.out.bel) 1).trans rfl, (blk_cell (blk_below K7.out.2.2.1 H.out.bel) 2).trans rfl, (blk_cell (blk_below K7.out.2.2.2 H.out.bel) 0).trans rfl, (blk_cell (blk_below K7.out.2.2.2 H.out.bel) 1).trans rfl, (blk_cell (blk_below K7.out.2.2.2 H.out.bel) 2).trans rfl⟩ (fun hHeld => ?_)
    clear hK K
    refine norm_ (a' := ?_) ?_ ?_
    rotate_left
    · show Act.put _ (some 30) _ = _
      (try simp only [Act.put, List.setIfInBounds_toArray, List.set_cons_zero, List.set_cons_succ, i64_w, i32_w])
      rfl
    refine one_ (i := 4) (N := some 23) #[true, true, true, true, true, true, true, false, true, true, false, true, false, false, false, false] rfl rfl (one_of HT_.out (by kernel_rfl)) (by decide) (fun K hK => ?_)
    refine goes_ Try.func91 (by kernel_rfl) rfl #[.pointer (some ⟨t, 0, none⟩), .agg #[.int .i64 v, .slice A1 l1.length c1, .int .i64 r1]] (by rfl) rfl rfl (by simp only [List.map_toArray, List.map_cons, List.map_nil]; rfl) ?_
    refine (H.out.load v r1 A1 c1 l1 _ NN.out.1 C7.out.1 e1 H1.out G.out.1).mono ?_
    rintro e w9 ⟨rfl, hN⟩
    refine ⟨_, rfl, ?_⟩
    replace H := Aside0.mk hN
    clear hN
    refine hK.out _ _ ⟨(blk_cell (blk_below K7.out.2.1 H.out.bel) 0).trans rfl, (blk_cell (blk_below K7.out.2.1 H.out.bel) 1).trans rfl, (blk_cell (blk_below K7.out.2.1 H.out.bel) 2).trans rfl, (blk_cell (blk_below K7.out.2.2.1 H.out.bel) 0).trans rfl, (blk_cell (blk_below K7.out.2.2.1 H.out.bel) 1).trans rfl, (blk_cell (blk_below K7.out.2.2.1 H.out.bel) 2).trans rfl, (blk_cell (blk_below K7.out.2.2.2 H.out.bel) 0).trans rfl, (blk_cell (blk_below K7.out.2.2.2 H.out.bel) 1).trans rfl, (blk_cell (blk_below K7.out.2.2.2 H.out.bel) 2).trans rfl⟩ (fun hHeld => ?_)
    clear hK K
    refine norm_ (a' := ?_) ?_ ?_
    rotate_left
    · show Act.put _ (some 23) _ = _
      (try simp only [Act.put, List.setIfInBounds_toArray, List.set_cons_zero, List.set_cons_succ, i64_w, i32_w])
      rfl
    refine one_ (i := 7) (N := some 26) #[true, true, true, true, true, true, true, true, true, true, false, true, false, false, false, false] rfl rfl (one_of HT_.out (by kernel_rfl)) (by decide) (fun K hK => ?_)
    refine goes_ Try.func91 (by kernel_rfl) rfl #[.pointer (some ⟨t, 0, none⟩), .agg #[.int .i64 v, .slice A2 l2.length c2, .int .i64 r2]] (by rfl) rfl rfl (by simp only [List.map_toArray, List.map_cons, List.map_nil]; rfl) ?_
    refine (H.out.load v r2 A2 c2 l2 _ NN.out.2.1 C7.out.2.1 e2 H2.out G.out.2.1).mono ?_
    rintro e w9 ⟨rfl, hN⟩
    refine ⟨_, rfl, ?_⟩
    replace H := Aside0.mk hN
    clear hN
    refine hK.out _ _ ⟨(blk_cell (blk_below K7.out.2.1 H.out.bel) 0).trans rfl, (blk_cell (blk_below K7.out.2.1 H.out.bel) 1).trans rfl, (blk_cell (blk_below K7.out.2.1 H.out.bel) 2).trans rfl, (blk_cell (blk_below K7.out.2.2.1 H.out.bel) 0).trans rfl, (blk_cell (blk_below K7.out.2.2.1 H.out.bel) 1).trans rfl, (blk_cell (blk_below K7.out.2.2.1 H.out.bel) 2).trans rfl, (blk_cell (blk_below K7.out.2.2.2 H.out.bel) 0).trans rfl, (blk_cell (blk_below K7.out.2.2.2 H.out.bel) 1).trans rfl, (blk_cell (blk_below K7.out.2.2.2 H.out.bel) 2).trans rfl⟩ (fun hHeld => ?_)
    clear hK K
    refine norm_ (a' := ?_) ?_ ?_
    rotate_left
    · show Act.put _ (some 26) _ = _
      (try simp only [Act.put, List.setIfInBounds_toArray, List.set_cons_zero, List.set_cons_succ, i64_w, i32_w])
      rfl
    refine one_ (i := 10) (N := some 29) #[true, true, true, true, true, true, true, true, true, true, true, true, false, false, false, false] rfl rfl (one_of HT_.out (by kernel_rfl)) (by decide) (fun K hK => ?_)
    refine goes_ Try.func91 (by kernel_rfl) rfl #[.pointer (some ⟨t, 0, none⟩), .agg #[.int .i64 v, .slice A3 l3.length c3, .int .i64 r3]] (by rfl) rfl rfl (by simp only [List.map_toArray, List.map_cons, List.map_nil]; rfl) ?_
    refine (H.out.load v r3 A3 c3 l3 _ NN.out.2.2.1 C7.out.2.2 e3 H3.out G.out.2.2).mono ?_
    rintro e w9 ⟨rfl, hN⟩
    refine ⟨_, rfl, ?_⟩
    replace H := Aside0.mk hN
    clear hN
    refine hK.out _ _ ⟨(blk_cell (blk_below K7.out.2.1 H.out.bel) 0).trans rfl, (blk_cell (blk_below K7.out.2.1 H.out.bel) 1).trans rfl, (blk_cell (blk_below K7.out.2.1 H.out.bel) 2).trans rfl, (blk_cell (blk_below K7.out.2.2.1 H.out.bel) 0).trans rfl, (blk_cell (blk_below K7.out.2.2.1 H.out.bel) 1).trans rfl, (blk_cell (blk_below K7.out.2.2.1 H.out.bel) 2).trans rfl, (blk_cell (blk_below K7.out.2.2.2 H.out.bel) 0).trans rfl, (blk_cell (blk_below K7.out.2.2.2 H.out.bel) 1).trans rfl, (blk_cell (blk_below K7.out.2.2.2 H.out.bel) 2).trans rfl⟩ (fun hHeld => ?_)
    clear hK K
    refine norm_ (a' := ?_) ?_ ?_
    rotate_left
    · show Act.put _ (some 29) _ = _
      (try simp only [Act.put, List.setIfInBounds_toArray, List.set_cons_zero, List.set_cons_succ, i64_w, i32_w])
      rfl
    refine last_ (i := 12) (N := some 31) #[true, true, true, true, true, true, true, true, true, true, true, true, true, false, false, false] rfl rfl (one_of HT_.out (by kernel_rfl)) (by decide) (fun K hK => ?_)
    refine goes_ Try.func101 (by kernel_rfl) rfl #[.pointer (some ⟨t, 0, none⟩), .int .i64 (rd a r1), .int .i64 (rd b r2), .int .i64 (rd c r3), .map (some _)] (by rfl) rfl rfl (by simp only [List.map_toArray, List.map_cons, List.map_nil]; rfl) ?_
    refine (H.out.ite 64 (rd a r1) (rd b r2) (rd c r3) p T4 L4 H4.out NN.out.2.2.2.1).mono ?_
    rintro e w10 ⟨rfl, hB10, S10, hT10⟩
    refine ⟨_, rfl, ?_⟩
    have B10 := Aside0.mk hB10
    have T10 := Aside0.mk hT10
    clear hB10 hT10
    refine hK.out _ _ ?_
    clear hK K
    refine norm_ (a' := ?_) ?_ ?_
    rotate_left
    · show Act.put _ (some 31) _ = _
      (try simp only [Act.put, List.setIfInBounds_toArray, List.set_cons_zero, List.set_cons_succ, i64_w, i32_w])
      rfl
    refine last_ (i := 13) (N := some 32) #[true, true, true, true, true, true, true, true, true, true, true, true, true, true, false, false] rfl rfl (one_of HT_.out (by kernel_rfl)) (by decide) (fun K hK => ?_)
    refine goes_ Try.func90 (by kernel_rfl) rfl #[.pointer (some ⟨t, 0, none⟩), .int .i64 p] (by rfl) rfl rfl (by simp only [List.map_toArray, List.map_cons, List.map_nil]; rfl) ?_
    refine (tmask_calls t T4 64 s p r w10 T10.out NN.out.2.2.2.2 H5.out).mono ?_
    rintro e w11 ⟨v11, rfl, hR11, hB11⟩
    obtain ⟨A11, c11, rfl, hc11, hC11⟩ := Kd.R_reads hR11
    rw [HV4.out]
    refine ⟨.agg #[.int .i64 v, .slice A11 s.out.length c11, .int .i64 r], rfl, ?_⟩
    have B11 := Aside0.mk (below_then B7.out B7.out.size (below_then B10.out B10.out.size hB11))
    have K11 := Aside0.mk (blk_below (blk_below K7.out.1 B10.out) hB11)
    have R11 := Aside0.mk (Kd.R_lower hR11 (Nat.le_trans B7.out.size B10.out.size))
    have q0 := (blk_cell K11.out 0).trans rfl
    have q1 := (blk_cell K11.out 1).trans rfl
    have q2 := (blk_cell K11.out 2).trans rfl
    have fq0 := blk_frozen K11.out 0
    have fq1 := blk_frozen K11.out 1
    have fq2 := blk_frozen K11.out 2
    clear hR11 hB11 hC11
    refine hK.out _ _ ?_
    clear hK K
    refine norm_ (a' := ?_) ?_ ?_
    rotate_left
    · show Act.put _ (some 32) _ = _
      (try simp only [Act.put, List.setIfInBounds_toArray, List.set_cons_zero, List.set_cons_succ, i64_w, i32_w])
      rfl
    refine last_ (i := 14) (N := none) #[true, true, true, true, true, true, true, true, true, true, true, true, true, true, true, false] rfl rfl (one_of HT_.out (by kernel_rfl)) (by decide) (fun K hK => ?_)
    refine skip_ (w1 := ?_) (by rfl) rfl ?_ ?_
    rotate_left
    · go_simp
      rfl
    refine hK.out _ _ ?_
    clear hK K
    refine norm_ (a' := ?_) ?_ ?_
    rotate_left
    · rfl
    refine pure_ (i := 15) (N := some 7) (v := ?_) (a' := ?_) #[true, true, true, true, true, true, true, true, true, true, true, true, true, true, true, true] rfl rfl (any_of HT_.out (by kernel_rfl)) (fun _ _ _ h => h) (Or.inl ⟨by rfl, ?_⟩) ?_ ?_
    rotate_left
    · intro w'
      go_simp
      with_reducible rfl
    rotate_left
    · simp only [Act.put, List.setIfInBounds_toArray, List.set_cons_zero, List.set_cons_succ, i64_w, i32_w]
      rfl
    refine done_ (done_of HT_.out (by kernel_rfl)) ?_
    go_wp2
    have N0 := Kd.R_types R11.out K11.out (by decide)
    have N1 := Kd.R_far (p := ⟨w.heap.size + 3, 0, none⟩) N0 (fun _ hk => hk.2) (.int .i64 v)
    have N2 := Kd.R_far (p := ⟨w.heap.size + 3, 1, none⟩) N1 (fun _ hk => hk.2) (.slice A11 s.out.length c11)
    have N3 := Kd.R_far (p := ⟨w.heap.size + 3, 2, none⟩) N2 (fun _ hk => hk.2) (.int .i64 r)
    refine bodyPost_ret (results_ct rfl _ _ (w.heap.size + 3) 28 #[.int .i64 v, .slice A11 s.out.length c11, .int .i64 r] (0, 0) _ rfl ?_ hu rfl (by kernel_rfl)) rfl ?_
    · exact blk_put (cs := #[.int .i64 v, .slice A11 s.out.length c11, .int .i64 0]) (blk_put (cs := #[.int .i64 v, .slice none 0 0, .int .i64 0]) (blk_put (cs := #[.int .i64 0, .slice none 0 0, .int .i64 0]) K11.out 0 _ rfl) 1 _ rfl) 2 _ rfl
    · exact ⟨_, by rfl, Kd.R_mono N3 (fun _ _ => trivial), below_set (below_set (below_set B11.out (Nat.le_add_right _ 3)) (Nat.le_add_right _ 3)) (Nat.le_add_right _ 3)⟩
end Go.Proofs.Ytlplphgoldkoeaa.HTab
end

section
set_option linter.unusedVariables false
set_option linter.unusedSimpArgs false
namespace Go.Proofs.Ytlplphgoldkoeaa.HTab
open Go.RowKit Go.Proofs.YtlplphgoldkoeaaW.PrintWords Go.Proofs.YtlplphgoldkoeaaW.PrintLast Go.Proofs.YtlplphgoldkoeaaW.PrintMore Go.Proofs.Ytlplphgoldkoeaa.HMap Go.Proofs.Ytlplphgoldkoeaa.X
set_option linter.unusedVariables false
set_option linter.unusedSimpArgs false
def iteL : List Bool → List Bool → List Bool → List Bool
  | x :: a, y :: b, z :: c => (if x then y else z) :: iteL a b c
  | _, _, _ => []
theorem iteL_append : ∀ (a b c a' b' c' : List Bool), a.length = b.length → a.length = c.length → iteL (a ++ a') (b ++ b') (c ++ c') = iteL a b c ++ iteL a' b' c'
  | [], [], [], a', b', c', _, _ => by simp [iteL]
  | x :: a, y :: b, z :: c, a', b', c', h1, h2 => by
    simp only [List.length_cons, Nat.add_right_cancel_iff] at h1 h2
    simp only [List.cons_append, iteL]
    rw [iteL_append a b c a' b' c' h1 h2]
  | [], _ :: _, _, _, _, _, h, _ => by simp at h
  | [], [], _ :: _, _, _, _, _, h => by simp at h
  | _ :: _, [], _, _, _, _, h, _ => by simp at h
  | _ :: _, _ :: _, [], _, _, _, _, h => by simp at h
theorem iteL_length : ∀ (a b c : List Bool), a.length = b.length → a.length = c.length → (iteL a b c).length = a.length
  | [], [], [], _, _ => rfl
  | x :: a, y :: b, z :: c, h1, h2 => by
    simp only [List.length_cons, Nat.add_right_cancel_iff] at h1 h2
    simp only [iteL, List.length_cons]
    rw [iteL_length a b c h1 h2]
  | [], _ :: _, _, h, _ => by simp at h
  | [], [], _ :: _, _, h => by simp at h
  | _ :: _, [], _, h, _ => by simp at h
  | _ :: _, _ :: _, [], _, h => by simp at h
theorem iteL_same : ∀ (a b : List Bool), a.length = b.length → iteL a b b = b
  | [], [], _ => rfl
  | x :: a, y :: b, h => by
    simp only [List.length_cons, Nat.add_right_cancel_iff] at h
    simp only [iteL]
    rw [iteL_same a b h]
    cases x <;> rfl
  | [], _ :: _, h => by simp at h
  | _ :: _, [], h => by simp at h
theorem iteL_true : ∀ (n : Nat) (b c : List Bool), b.length = n → c.length = n → iteL (List.replicate n true) b c = b
  | 0, [], [], _, _ => rfl
  | n + 1, y :: b, z :: c, h1, h2 => by
    simp only [List.length_cons, Nat.add_right_cancel_iff] at h1 h2
    simp only [List.replicate_succ, iteL, if_true]
    rw [iteL_true n b c h1 h2]
  | 0, _ :: _, _, h, _ => by simp at h
  | 0, [], _ :: _, _, h => by simp at h
  | _ + 1, [], _, h, _ => by simp at h
  | _ + 1, _ :: _, [], _, h => by simp at h
theorem iteL_false : ∀ (n : Nat) (b c : List Bool), b.length = n → c.length = n → iteL (List.replicate n false) b c = c
  | 0, [], [], _, _ => rfl
  | n + 1, y :: b, z :: c, h1, h2 => by
    simp only [List.length_cons, Nat.add_right_cancel_iff] at h1 h2
    simp only [List.replicate_succ, iteL, Bool.false_eq_true, if_false]
    rw [iteL_false n b c h1 h2]
  | 0, _ :: _, _, h, _ => by simp at h
  | 0, [], _ :: _, _, h => by simp at h
  | _ + 1, [], _, h, _ => by simp at h
  | _ + 1, _ :: _, [], _, h => by simp at h
theorem iteL_get : ∀ (a b c : List Bool) (i : Nat), i < a.length → a.length = b.length → a.length = c.length → (iteL a b c).getD i false = (if a.getD i false then b.getD i false else c.getD i false)
  | x :: a, y :: b, z :: c, 0, _, _, _ => by simp [iteL]
  | x :: a, y :: b, z :: c, i + 1, h, h1, h2 => by
    simp only [List.length_cons, Nat.add_right_cancel_iff] at h1 h2
    simp only [iteL, List.getD_cons_succ]
    exact iteL_get a b c i (by simpa using h) h1 h2
  | [], _, _, _, h, _, _ => by simp at h
  | _ :: _, [], _, _, _, h, _ => by simp at h
  | _ :: _, _ :: _, [], _, _, _, h => by simp at h
theorem min3_le (a b c : Int) : min3 a b c ≤ a ∧ min3 a b c ≤ b ∧ min3 a b c ≤ c := by unfold min3; split <;> split <;> omega
theorem le_min3 (z a b c : Int) : z ≤ min3 a b c ↔ z ≤ a ∧ z ≤ b ∧ z ≤ c := by unfold min3; split <;> split <;> omega
structure IsIte (T : TB) (f g h r : Int) : Prop where
  pf : Pl T f
  pg : Pl T g
  ph : Pl T h
  pl : Pl T r
  asks : min3 (asksP T f) (asksP T g) (asksP T h) ≤ asksP T r
  den : ∀ j : Nat, (j : Int) ≤ T.vars → T.vars - j ≤ min3 (asksP T f) (asksP T g) (asksP T h) → den T j r = iteL (den T j f) (den T j g) (den T j h)
theorem IsIte.ext {T T' : TB} {f g h r : Int} (i : IsIte T f g h r) (hw : WF T) (e : Ext T T') : IsIte T' f g h r := by
  have m := min3_le (asksP T f) (asksP T g) (asksP T h)
  refine ⟨e.pl i.pf, e.pl i.pg, e.pl i.ph, e.pl i.pl, ?_, fun j hj ha => ?_⟩
  · rw [e.asks i.pf, e.asks i.pg, e.asks i.ph, e.asks i.pl]; exact i.asks
  · rw [e.1] at hj ha
    rw [e.asks i.pf, e.asks i.pg, e.asks i.ph] at ha
    have := i.asks
    rw [e.den hw j r hj i.pl (by omega), e.den hw j f hj i.pf (by omega), e.den hw j g hj i.pg (by omega), e.den hw j h hj i.ph (by omega)]
    exact i.den j hj ha
def Seen (T : TB) (L : SL) : Prop := ∀ n r, HMap.look L n = some r → IsIte T n.f0 n.f1 n.f2 r
theorem Seen.ext {T T' : TB} {L : SL} (h : Seen T L) (hw : WF T) (e : Ext T T') : Seen T' L := fun n r hn => (h n r hn).ext hw e
theorem den_twice {T : TB} {j : Nat} {p : Int} (h : T.vars - ((j : Int) + 1) < asksP T p) : HTab.den T (j + 1) p = HTab.den T j p ++ HTab.den T j p := by
  rw [den_succ, side_ne (by omega), side_ne (by omega)]
theorem ite_plain : ∀ (k fuel : Nat) (T : TB) (L : SL) (f g h : Int), WF T → Seen T L → Pl T f → Pl T g → Pl T h → (k : Int) ≤ T.vars → T.vars - k ≤ min3 (asksP T f) (asksP T g) (asksP T h) → k < fuel →
    ∃ r T' L', iteP fuel T L f g h = some (r, T', L') ∧ WF T' ∧ Ext T T' ∧ Seen T' L' ∧ IsIte T' f g h r ∧ T'.ns.length + 1 ≤ T.ns.length + 2 ^ (k + 1) := by
  intro k
  induction k with
  | zero =>
    intro fuel T L f g h hw hS hf hg hh hk ha hfu
    obtain ⟨fuel, rfl⟩ : ∃ m, fuel = m + 1 := ⟨fuel - 1, by omega⟩
    have m := min3_le (asksP T f) (asksP T g) (asksP T h)
    have f2 := hw.leaf hf (by omega)
    have f0 := hf.1
    have hlen : T.ns.length + 1 ≤ T.ns.length + 2 ^ (0 + 1) := by simp
    by_cases c1 : f = 1 ∨ g = h
    · refine ⟨g, T, L, by unfold iteP; rw [if_pos c1], hw, Ext.refl T, hS, ⟨hf, hg, hh, hg, m.2.1, fun j hj hja => ?_⟩, hlen⟩
      rcases c1 with rfl | rfl
      · rw [den_leaf hw j 1 hj (by omega)]
        exact (iteL_true _ _ _ (den_length _ _ _) (den_length _ _ _)).symm
      · exact (iteL_same _ _ ((den_length _ _ _).trans (den_length _ _ _).symm)).symm
    · have : f = 0 := by omega
      subst this
      refine ⟨h, T, L, by unfold iteP; rw [if_neg c1, if_pos rfl], hw, Ext.refl T, hS, ⟨hf, hg, hh, hh, m.2.2, fun j hj hja => ?_⟩, hlen⟩
      rw [den_leaf hw j 0 hj (by omega)]
      exact (iteL_false _ _ _ (den_length _ _ _) (den_length _ _ _)).symm
  | succ k ih =>
    intro fuel T L f g h hw hS hf hg hh hk ha hfu
    obtain ⟨fuel, rfl⟩ : ∃ m, fuel = m + 1 := ⟨fuel - 1, by omega⟩
    have m := min3_le (asksP T f) (asksP T g) (asksP T h)
    have f0 := hf.1
    have hpow : 2 ^ (k + 1 + 1) = 2 ^ (k + 1) + 2 ^ (k + 1) := by rw [Nat.pow_succ (n := 2) (m := k + 1)]; omega
    have hp1 : 1 ≤ 2 ^ (k + 1) := Nat.two_pow_pos _
    have hlen : T.ns.length + 1 ≤ T.ns.length + 2 ^ (k + 1 + 1) := by omega
    by_cases c1 : f = 1 ∨ g = h
    · refine ⟨g, T, L, by unfold iteP; rw [if_pos c1], hw, Ext.refl T, hS, ⟨hf, hg, hh, hg, m.2.1, fun j hj hja => ?_⟩, hlen⟩
      rcases c1 with rfl | rfl
      · rw [den_leaf hw j 1 hj (by omega)]
        exact (iteL_true _ _ _ (den_length _ _ _) (den_length _ _ _)).symm
      · exact (iteL_same _ _ ((den_length _ _ _).trans (den_length _ _ _).symm)).symm
    by_cases c2 : f = 0
    · subst c2
      refine ⟨h, T, L, by unfold iteP; rw [if_neg c1, if_pos rfl], hw, Ext.refl T, hS, ⟨hf, hg, hh, hh, m.2.2, fun j hj hja => ?_⟩, hlen⟩
      rw [den_leaf hw j 0 hj (by omega)]
      exact (iteL_false _ _ _ (den_length _ _ _) (den_length _ _ _)).symm
    have f2 : ¬ f < 2 := by omega
    cases hl : HMap.look L ⟨f, g, h⟩ with
    | some p => exact ⟨p, T, L, by unfold iteP; rw [if_neg c1, if_neg c2, hl], hw, Ext.refl T, hS, hS _ _ hl, hlen⟩
    | none =>
      obtain ⟨v, hv⟩ : ∃ v, v = min3 (asksP T f) (asksP T g) (asksP T h) := ⟨_, rfl⟩
      rw [← hv] at m ha
      have hfv : asksP T f < T.vars := by
        rw [asks_ge f2]
        exact (hw.ok f (by omega) hf.2).2.1
      have hv0 : 0 ≤ v := by
        rw [hv, le_min3]
        exact ⟨hw.asks_nonneg hf, hw.asks_nonneg hg, hw.asks_nonneg hh⟩
      have hvv : v < T.vars := by omega
      obtain ⟨k', hk'⟩ : ∃ k' : Nat, T.vars - v = k' + 1 := ⟨(T.vars - v - 1).toNat, by omega⟩
      have hk2 : k' ≤ k := by omega
      have sf0 := hw.side false hf hvv m.1
      have sg0 := hw.side false hg hvv m.2.1
      have sh0 := hw.side false hh hvv m.2.2
      have sf1 := hw.side true hf hvv m.1
      have sg1 := hw.side true hg hvv m.2.1
      have sh1 := hw.side true hh hvv m.2.2
      obtain ⟨r1, T1, L1, i1, w1, e1, S1, I1, n1⟩ := ih fuel T L _ _ _ hw hS sf0.1 sg0.1 sh0.1 (by omega) (by rw [le_min3]; omega) (by omega)
      obtain ⟨r2, T2, L2, i2, w2, e2, S2, I2, n2⟩ := ih fuel T1 L1 (sideP T1 f v true) (sideP T1 g v true) (sideP T1 h v true) w1 S1
        (by rw [e1.side hf]; exact e1.pl sf1.1) (by rw [e1.side hg]; exact e1.pl sg1.1) (by rw [e1.side hh]; exact e1.pl sh1.1) (by rw [e1.1]; omega)
        (by rw [le_min3, e1.side hf, e1.side hg, e1.side hh, e1.asks sf1.1, e1.asks sg1.1, e1.asks sh1.1, e1.1]; omega) (by omega)
      have e12 := e1.then_ e2
      have I1' := I1.ext w1 e2
      have v2 : T2.vars = T.vars := e12.1
      have ar1 : v + 1 ≤ asksP T2 r1 := by
        have := I1'.asks
        rw [e12.asks sf0.1, e12.asks sg0.1, e12.asks sh0.1] at this
        have q := (le_min3 (v + 1) _ _ _).2 ⟨sf0.2, sg0.2, sh0.2⟩
        omega
      have ar2 : v + 1 ≤ asksP T2 r2 := by
        have := I2.asks
        rw [e1.side hf, e1.side hg, e1.side hh, e12.asks sf1.1, e12.asks sg1.1, e12.asks sh1.1] at this
        have q := (le_min3 (v + 1) _ _ _).2 ⟨sf1.2, sg1.2, sh1.2⟩
        omega
      obtain ⟨w3, e3, p3, a3, d3⟩ := w2.node v r1 r2 hv0 (by omega) I1'.pl I2.pl (by omega) (by omega)
      have e123 := e12.then_ e3
      have base : den (nodeP T2 ⟨v, r1, r2⟩).2 (k' + 1) (nodeP T2 ⟨v, r1, r2⟩).1 = iteL (den T (k' + 1) f) (den T (k' + 1) g) (den T (k' + 1) h) := by
        have q1 := I1'.den k' (by omega) (by rw [e12.asks sf0.1, e12.asks sg0.1, e12.asks sh0.1, le_min3]; omega)
        have q2 := I2.den k' (by omega) (by rw [e1.side hf, e1.side hg, e1.side hh, e12.asks sf1.1, e12.asks sg1.1, e12.asks sh1.1, le_min3]; omega)
        rw [e12.den hw k' _ (by omega) sf0.1 (by omega), e12.den hw k' _ (by omega) sg0.1 (by omega), e12.den hw k' _ (by omega) sh0.1 (by omega)] at q1
        rw [e1.side hf, e1.side hg, e1.side hh, e12.den hw k' _ (by omega) sf1.1 (by omega), e12.den hw k' _ (by omega) sg1.1 (by omega), e12.den hw k' _ (by omega) sh1.1 (by omega)] at q2
        rw [d3 k' (by omega), q1, q2, den_succ, den_succ, den_succ, show T.vars - ((k' : Int) + 1) = v by omega]
        rw [iteL_append _ _ _ _ _ _ (by rw [den_length, den_length]) (by rw [den_length, den_length])]
      have hI : IsIte (nodeP T2 ⟨v, r1, r2⟩).2 f g h (nodeP T2 ⟨v, r1, r2⟩).1 := by
        have b3 : (nodeP T2 ⟨v, r1, r2⟩).2.vars = T.vars := e123.1
        refine ⟨e123.pl hf, e123.pl hg, e123.pl hh, p3, ?_, ?_⟩
        · rw [e123.asks hf, e123.asks hg, e123.asks hh, ← hv]; exact a3
        · intro j hj hja
          rw [e123.asks hf, e123.asks hg, e123.asks hh, ← hv, b3] at hja
          rw [b3] at hj
          rw [e123.den hw j f hj hf (by omega), e123.den hw j g hj hg (by omega), e123.den hw j h hj hh (by omega)]
          have up : ∀ d : Nat, ((k' + 1 + d : Nat) : Int) ≤ T.vars → den (nodeP T2 ⟨v, r1, r2⟩).2 (k' + 1 + d) (nodeP T2 ⟨v, r1, r2⟩).1 = iteL (den T (k' + 1 + d) f) (den T (k' + 1 + d) g) (den T (k' + 1 + d) h) := by
            intro d
            induction d with
            | zero => intro _; exact base
            | succ d ihd =>
              intro hd
              show den _ (k' + 1 + d + 1) _ = iteL (den T (k' + 1 + d + 1) f) (den T (k' + 1 + d + 1) g) (den T (k' + 1 + d + 1) h)
              rw [den_twice (by rw [b3]; omega), den_twice (by omega), den_twice (by omega), den_twice (by omega), ihd (by omega)]
              rw [iteL_append _ _ _ _ _ _ (by rw [den_length, den_length]) (by rw [den_length, den_length])]
          have := up (j - (k' + 1)) (by omega)
          rwa [show k' + 1 + (j - (k' + 1)) = j by omega] at this
      have ok0 : okI T f g h v := ⟨.inr hf.2, .inr hg.2, .inr hh.2, hvv⟩
      have ok1 : okI T1 f g h v := ⟨.inr (e1.pl hf).2, .inr (e1.pl hg).2, .inr (e1.pl hh).2, by rw [e1.1]; exact hvv⟩
      refine ⟨(nodeP T2 ⟨v, r1, r2⟩).1, (nodeP T2 ⟨v, r1, r2⟩).2, HMap.upd L2 ⟨f, g, h⟩ (nodeP T2 ⟨v, r1, r2⟩).1, ?_, w3, e123, ?_, hI, ?_⟩
      · unfold iteP
        rw [if_neg c1, if_neg c2, hl]
        simp only
        rw [← hv, if_pos ok0, i1]
        simp only [Option.bind_some]
        rw [if_pos ok1, i2]
        rfl
      · intro n r hn
        by_cases he : n = ⟨f, g, h⟩
        · subst he
          rw [HMap.look_upd_same] at hn
          injection hn with hn
          rw [← hn]
          exact hI
        · rw [HMap.look_upd_other _ _ _ _ he] at hn
          exact (S2 n r hn).ext w2 e3
      · have hnl := nodeP_len T2 ⟨v, r1, r2⟩
        omega
theorem Seen.nil (T : TB) : Seen T [] := fun n r h => by simp [HMap.look] at h
end Go.Proofs.Ytlplphgoldkoeaa.HTab
namespace Go.Proofs.Ytlplphgoldkoeaa.X
open Go.RowKit Go.Proofs.YtlplphgoldkoeaaW.PrintWords Go.Proofs.YtlplphgoldkoeaaW.PrintLast Go.Proofs.YtlplphgoldkoeaaW.PrintMore Go.Proofs.Ytlplphgoldkoeaa.HTab
set_option linter.unusedVariables false
def mask_Ite.f (v1 : Int) (l1 : List (S107)) (r1 : Int) (v2 : Int) (l2 : List (S107)) (r2 : Int) (v3 : Int) (l3 : List (S107)) (r3 : Int) : Option (Int × List (S107) × Int × Int) :=
  if l1.length ≤ 1000000000 ∧ l2.length ≤ 1000000000 ∧ l3.length ≤ 1000000000 then
    if (vmB v1 l1 r1 && (vmB v2 l2 r2 && (decide (v2 = v1) && (vmB v3 l3 r3 && decide (v3 = v1))))) = true then
      (iteG v1 l1 l2 l3 r1 r2 r3).map fun q => (v1, q.2.2.2.2.2.2.2.2.2.2.out, q.2.2.2.2.2.2.2.2.2.1, 0)
    else some (0, [], 0, 2)
  else none
end Go.Proofs.Ytlplphgoldkoeaa.X
namespace Go.Proofs.Ytlplphgoldkoeaa.HTab
open Go.RowKit Go.Proofs.YtlplphgoldkoeaaW.PrintWords Go.Proofs.YtlplphgoldkoeaaW.PrintLast Go.Proofs.YtlplphgoldkoeaaW.PrintMore Go.Proofs.Ytlplphgoldkoeaa.HMap Go.Proofs.Ytlplphgoldkoeaa.X
theorem iteG_ok {v : Int} {l1 l2 l3 : List S107} {r1 r2 r3 : Int} (h1 : VM v l1 r1) (h2 : VM v l2 r2) (h3 : VM v l3 r3) :
    ∃ a T1 b T2 c T3 p T4 L4 r s, loadP l1 [0, 1] (T0 v) = some (a, T1) ∧ loadP l2 [0, 1] T1 = some (b, T2) ∧ loadP l3 [0, 1] T2 = some (c, T3) ∧ iteP 64 T3 [] (rd a r1) (rd b r2) (rd c r3) = some (p, T4, L4) ∧ maskP T4 64 M0 p = some (r, s) ∧
      (0 ≤ r1 ∧ r1 < a.length) ∧ (0 ≤ r2 ∧ r2 < b.length) ∧ (0 ≤ r3 ∧ r3 < c.length) ∧ T1.ns.length ≤ 2 + l1.length ∧ T2.ns.length ≤ T1.ns.length + l2.length ∧ T3.ns.length ≤ T2.ns.length + l3.length ∧ T4.ns.length ≤ T3.ns.length + 8192 ∧ T4.vars = v ∧
      VM v s.out r ∧ tab v s.out r = iteL (tab v l1 r1) (tab v l2 r2) (tab v l3 r3) ∧ s.out.length ≤ 4095 := by
  have h0 := h1.v0
  have h12 := h1.v12
  obtain ⟨a, T1, a1, a2, a3, a4, a5, a6, a7⟩ := h1.load (WF.t0 v h0) rfl
  have v1 : T1.vars = v := a3.1
  obtain ⟨b, T2, b1, b2, b3, b4, b5, b6, b7⟩ := h2.load a2 v1
  have v2 : T2.vars = v := b3.1.trans v1
  obtain ⟨c, T3, c1, c2, c3, c4, c5, c6, c7⟩ := h3.load b2 v2
  have v3 : T3.vars = v := c3.1.trans v2
  have b23 := c3
  have pa : Pl T3 (rd a r1) := (b3.then_ c3).pl a5
  have pb : Pl T3 (rd b r2) := c3.pl b5
  have da : den T3 v.toNat (rd a r1) = tab v l1 r1 := by
    rw [(b3.then_ c3).den a2 v.toNat _ (by omega) a5 (by have := a2.asks_nonneg a5; omega)]; exact a6
  have db : den T3 v.toNat (rd b r2) = tab v l2 r2 := by
    rw [c3.den b2 v.toNat _ (by omega) b5 (by have := b2.asks_nonneg b5; omega)]; exact b6
  obtain ⟨p, T4, L4, i1, i2, i3, i4, i5, i6⟩ := ite_plain v.toNat 64 T3 [] (rd a r1) (rd b r2) (rd c r3) c2 (Seen.nil _) pa pb c5 (by omega) (by rw [le_min3]; have := c2.asks_nonneg pa; have := c2.asks_nonneg pb; have := c2.asks_nonneg c5; omega) (by omega)
  have v4 : T4.vars = v := i3.1.trans v3
  obtain ⟨r, s, m1, m2, m3, m4, m5⟩ := mask_VM i2 (by omega) p i5.pl
  rw [v4] at m2 m3
  have hp := pow_nat_le (show v.toNat + 1 ≤ 13 by omega)
  have h13 : 2 ^ 13 = 8192 := by decide
  refine ⟨a, T1, b, T2, c, T3, p, T4, L4, r, s, a1, b1, c1, i1, m1, a4, b4, c4, a7, b7, c7, by omega, v4, m2, ?_, m4⟩
  have hd := i5.den v.toNat (by omega) (by rw [le_min3, v4]; have := i2.asks_nonneg i5.pf; have := i2.asks_nonneg i5.pg; have := i2.asks_nonneg i5.ph; omega)
  rw [m3, hd, i3.den c2 v.toNat _ (by omega) pa (by have := c2.asks_nonneg pa; omega), i3.den c2 v.toNat _ (by omega) pb (by have := c2.asks_nonneg pb; omega), i3.den c2 v.toNat _ (by omega) c5 (by have := c2.asks_nonneg c5; omega), da, db, c6]
end Go.Proofs.Ytlplphgoldkoeaa.HTab
namespace Go.Proofs.Ytlplphgoldkoeaa.X
open Go.RowKit Go.Proofs.YtlplphgoldkoeaaW.PrintWords Go.Proofs.YtlplphgoldkoeaaW.PrintLast Go.Proofs.YtlplphgoldkoeaaW.PrintMore Go.Proofs.Ytlplphgoldkoeaa.HTab
set_option linter.unusedVariables false
theorem mask_Ite.calls (a0_0 : Int) (A0_1 : Option Addr) (c0_1 : Nat) (l0_1 : List (S107)) (a0_2 : Int) (a1_0 : Int) (A1_1 : Option Addr) (c1_1 : Nat) (l1_1 : List (S107)) (a1_2 : Int) (a2_0 : Int) (A2_1 : Option Addr) (c2_1 : Nat) (l2_1 : List (S107)) (a2_2 : Int) (r1 : Int) (r2 : List (S107)) (r3 : Int) (r4 : Int) (w : World)
    (hr0_1 : Kd.C k107 w A0_1 l0_1.length l0_1) (hc0_1 : l0_1.length ≤ c0_1) (hr1_1 : Kd.C k107 w A1_1 l1_1.length l1_1) (hc1_1 : l1_1.length ≤ c1_1) (hr2_1 : Kd.C k107 w A2_1 l2_1.length l2_1) (hc2_1 : l2_1.length ≤ c2_1) (h : mask_Ite.f a0_0 l0_1 a0_2 a1_0 l1_1 a1_2 a2_0 l2_1 a2_2 = some (r1, r2, r3, r4)) :
    Calls Try.prog 51 #[.agg #[.int .i64 a0_0, .slice A0_1 l0_1.length c0_1, .int .i64 a0_2], .agg #[.int .i64 a1_0, .slice A1_1 l1_1.length c1_1, .int .i64 a1_2], .agg #[.int .i64 a2_0, .slice A2_1 l2_1.length c2_1, .int .i64 a2_2]] w fun e w' => ∃ v1_ : Value, e = .returned (.tuple #[.agg #[.int .i64 r1, v1_, .int .i64 r3], .int .i64 r4]) ∧ Kd.R k107 107 w' w.heap.size (fun _ => True) v1_ r2 ∧ Below w.heap.size w w' := by
  have h0 := h
  unfold mask_Ite.f at h
  split at h
  case isFalse => cases h
  rename_i hl
  have hv := valid3_f a0_0 a1_0 a2_0 a0_2 a1_2 a2_2 l0_1 l1_1 l2_1 hl.1 hl.2.1 hl.2.2
  split at h
  · rename_i hb
    rw [hb] at hv
    simp only [Bool.and_eq_true, decide_eq_true_eq] at hb
    obtain ⟨q1, q2, rfl, q3, rfl⟩ := hb
    obtain ⟨a, T1, b, T2, c, T3, p, T4, L4, r, s, p1, p2, p3, p4, p5, g1, g2, g3, n1, n2, n3, n4, hv4, p6, p7, p8⟩ := iteG_ok (vmB_iff.1 q1) (vmB_iff.1 q2) (vmB_iff.1 q3)
    unfold iteG at h
    rw [p1] at h; simp only [Option.bind_some] at h
    rw [p2] at h; simp only [Option.bind_some] at h
    rw [p3] at h; simp only [Option.bind_some] at h
    rw [p4] at h; simp only [Option.bind_some] at h
    rw [p5] at h
    simp only [Option.bind_some, Option.map_some, Option.some.injEq, Prod.mk.injEq] at h
    obtain ⟨rfl, rfl, rfl, rfl⟩ := h
    exact ite_ok _ a0_2 a1_2 a2_2 A0_1 A1_1 A2_1 c0_1 c1_1 c2_1 l0_1 l1_1 l2_1 w hr0_1 hr1_1 hr2_1 hc0_1 hc1_1 hc2_1 hv a b c T1 T2 T3 T4 p r L4 s p1 p2 p3 p4 p5 g1 g2 g3 (by omega) (by omega) (by omega) (by omega) (by omega) hv4
  · rename_i hb
    rw [Bool.not_eq_true] at hb
    rw [hb] at hv
    simp only [Option.some.injEq, Prod.mk.injEq] at h
    obtain ⟨rfl, rfl, rfl, rfl⟩ := h
    refine (ite_err a0_0 a1_0 a2_0 a0_2 a1_2 a2_2 A0_1 A1_1 A2_1 c0_1 c1_1 c2_1 l0_1 l1_1 l2_1 w hr0_1 hr1_1 hr2_1 hc0_1 hc1_1 hc2_1 hv).mono ?_
    rintro e w' ⟨rfl, hb⟩
    exact ⟨_, rfl, Kd.R_nil _ _ _ _ _, hb⟩
end Go.Proofs.Ytlplphgoldkoeaa.X
end
