/- Lemmas of the masks: part Bze. -/
import Derived.Test.YtlplphgoldkoeaaBf
import Derived.Test.YtlplphgoldkoeaaBh
import Derived.Deep.LoopGhost
import Derived.Deep.DeepMust
import Derived.Lib.SliceRun
import Derived.Test.YtlplphgoldkoeaaBzc
import Derived.Test.YtlplphgoldkoeaaBm
import Derived.Test.YtlplphgoldkoeaaBg
import Derived.Test.YtlplphgoldkoeaaBpa
import Derived.Test.YtlplphgoldkoeaaBc
section
set_option linter.unusedVariables false
set_option linter.unusedSimpArgs false
namespace Go.Proofs.Ytlplphgoldkoeaa.HTab
open Go.RowKit Go.Proofs.YtlplphgoldkoeaaW.PrintWords Go.Proofs.YtlplphgoldkoeaaW.PrintLast Go.Proofs.YtlplphgoldkoeaaW.PrintMore Go.Proofs.Ytlplphgoldkoeaa.HMap Go.Proofs.Ytlplphgoldkoeaa.X
open Go.ChangeMaps (setBlock)
set_option linter.unusedVariables false
set_option linter.unusedSimpArgs false
theorem zeroB (w : World) : (zeroValue 4).run Try.prog w = .ok (.bool false) w := by kernel_rfl
def setM (vars : Int) : List Int → List (Int × Bool) → Bool
  | [], _ => true
  | x :: l, M => if x < 0 ∨ vars ≤ x then false else if (HMap.look M x).getD false then false else setM vars l (HMap.upd M x true)
theorem setM_next (vars : Int) (l : List Int) (M : List (Int × Bool)) (i : Nat) (h : i < l.length) : setM vars (l.drop i) M = (if rd l i < 0 ∨ vars ≤ rd l i then false else if (HMap.look M (rd l i)).getD false then false else setM vars (l.drop (i + 1)) (HMap.upd M (rd l i) true)) := by
  have e : rd l i = l[i] := by simp [rd, h]
  rw [List.drop_eq_getElem_cons h, e]
  rfl
set_option maxRecDepth 100000 in
set_option maxHeartbeats 4000000 in
theorem set_calls (vars : Int) (A : Option Addr) (c : Nat) (l : List Int) (w : World) (hC : Kd.C (Kd.int .i64) w A l.length l) (hc : l.length ≤ c) (hl : l.length < 140737488355000) (B : Bool) (hB : setM vars l [] = B) :
    Calls Try.prog 114 #[.slice A l.length c, .int .i64 vars] w fun e w' => e = .returned (.bool B) ∧ Below w.heap.size w w' := by
  have HC := Aside0.mk hC
  have HB := Aside0.mk (show setM vars (l.drop 0) [] = B from hB)
  have hmm := @run_makeMap Try.prog
  have hb0 : Aside0 (Below w.heap.size w (w.alloc (.map #[] 0))) := ⟨below_alloc (Below.refl _ _) _⟩
  have hm0 : Aside0 (MapIs (Value.int .i64) Value.bool (w.alloc (.map #[] 0)) w.heap.size ([] : List (Int × Bool))) := ⟨MapIs.made _ _ _⟩
  clear hC hB
  go_enter Try.func114, Try.ntmps114
  go_wp2
  clear hmm
  go_loopg [11] (l.length) (fun kq v11 w' => ∃ (i : Nat) (M : List (Int × Bool)), i + kq = l.length ∧ v11 = .int .i64 i ∧ Aside0 (setM vars (l.drop i) M = B) ∧ Aside0 (Below w.heap.size w w') ∧ Aside0 (MapIs (Value.int .i64) Value.bool w' w.heap.size M))
  case atStart => exact ⟨0, [], by omega, rfl, HB, hb0, hm0⟩
  case round =>
    clear hb0 hm0 HB
    obtain ⟨i, M, hi, rfl, HA, HW, HM⟩ := hrel
    by_cases hlt : i < l.length
    · have HA2 := HA.out
      rw [setM_next _ _ _ _ hlt] at HA2
      obtain ⟨ad, e1, x0⟩ := Kd.at_int (Kd.C_below HC.out HW.out) (i : Int) (by omega) (by omega)
      subst e1
      have hd : decide (i < l.length) = true := decide_eq_true hlt
      simp only [Int.toNat_natCast] at x0
      obtain ⟨x, hx⟩ : ∃ x, x = rd l i := ⟨_, rfl⟩
      rw [← hx] at x0 HA2
      obtain ⟨b, hb⟩ : ∃ b, b = (HMap.look M x).getD false := ⟨_, rfl⟩
      have hrun : (Instr.lookup 162 (.map (some w.heap.size)) (.int .i64 x) false).run Try.prog wr = .ok (.bool b) wr := by
        have := run_lookup keyI Try.underlying162 HM.out x false (zeroB _)
        rw [hb]
        cases hlk : HMap.look M x <;> simpa [hlk] using this
      rw [← hb] at HA2
      replace hx := Aside0.mk hx
      replace hb := Aside0.mk hb
      clear HA
      by_cases t0 : x < 0
      · have hB0 : B = false := by rw [← HA2, if_pos (.inl t0)]
        subst hB0
        have s0 : decide (x < 0) = true := decide_eq_true t0
        clear HA2
        go_wp2
        go_ret
        exact ⟨rfl, HW.out⟩
      have s0 : decide (x < 0) = false := decide_eq_false t0
      by_cases t1 : vars ≤ x
      · have hB0 : B = false := by rw [← HA2, if_pos (.inr t1)]
        subst hB0
        have s1 : decide (vars ≤ x) = true := decide_eq_true t1
        have s1' : decide (x ≥ vars) = true := decide_eq_true t1
        clear HA2
        go_wp2
        go_ret
        exact ⟨rfl, HW.out⟩
      have s1 : decide (vars ≤ x) = false := decide_eq_false t1
      have s1' : decide (x ≥ vars) = false := decide_eq_false t1
      rw [if_neg (by omega)] at HA2
      cases b with
      | true =>
        have hB0 : B = false := by rw [← HA2, if_pos rfl]
        subst hB0
        clear HA2
        go_wp2
        go_ret
        exact ⟨rfl, HW.out⟩
      | false =>
        rw [if_neg (by simp)] at HA2
        replace HA2 := Aside0.mk HA2
        obtain ⟨o, ho, hM⟩ := run_mapUpdate keyI Try.underlying162 (w := wr) HM.out x true
        have HM2 := Aside0.mk hM
        clear hM
        go_wp2
        go_roundg (l.length - (i + 1))
        case measure => omega
        case rel => exact ⟨i + 1, HMap.upd M x true, by omega, by go_num, HA2, ⟨⟨HW.out.os, HW.out.tape, HW.out.output, by rw [setBlock_size]; exact HW.out.size, fun j hj => (setBlock_other _ _ _ _ (by omega)).trans (HW.out.block j hj)⟩⟩, HM2⟩
    · have hBt : B = true := by
        have := HA.out
        rw [List.drop_eq_nil_of_le (by omega)] at this
        exact this.symm
      subst hBt
      have hd : decide (i < l.length) = false := decide_eq_false hlt
      go_wp2
      go_ret
      exact ⟨rfl, HW.out⟩
end Go.Proofs.Ytlplphgoldkoeaa.HTab
end

section
set_option linter.unusedVariables false
set_option linter.unusedSimpArgs false
namespace Go.Proofs.Ytlplphgoldkoeaa.HTab
open Go.RowKit Go.Proofs.YtlplphgoldkoeaaW.PrintWords Go.Proofs.YtlplphgoldkoeaaW.PrintLast Go.Proofs.YtlplphgoldkoeaaW.PrintMore Go.Proofs.Ytlplphgoldkoeaa.HMap Go.Proofs.Ytlplphgoldkoeaa.X
set_option linter.unusedVariables false
set_option linter.unusedSimpArgs false
set_option maxRecDepth 100000 in
set_option maxHeartbeats 4000000 in
theorem cloneN_calls (A : Option Addr) (c : Nat) (l : List S107) (w : World) (hC : Kd.C k107 w A l.length l) (hc : l.length ≤ c) (hl : l.length ≤ 1000000000) :
    Calls Try.prog 136 #[.slice A l.length c] w fun e w' => ∃ v, e = .returned v ∧ Kd.R k107 107 w' w.heap.size (fun _ => True) v l ∧ Below w.heap.size w w' := by
  have HC := Aside0.mk hC
  have HL := Aside0.mk hl
  rcases A with _ | ad
  · have h0 : l = [] := by
      rcases Nat.eq_zero_or_pos l.length with h0 | h0
      · exact List.eq_nil_of_length_eq_zero h0
      · obtain ⟨ad, h, _⟩ := hC.2.2 h0
        cases h
    subst h0
    clear hC HC hl HL
    have hnil := fun w => Lib.run_eql_slice_nil (P := Try.prog) w 26 107 none 0 c 0 0 Try.underlying26
    go_enter Try.func136, Try.ntmps136
    go_wp2
    go_ret
    exact ⟨_, rfl, Kd.R_nil _ _ _ _ _, Below.refl _ _⟩
  · clear hC hl
    have hnil := fun w => Lib.run_eql_slice_nil (P := Try.prog) w 26 107 (some ad) l.length c 0 0 Try.underlying26
    go_enter Try.func136, Try.ntmps136
    go_wp2_with (first | ((with_reducible refine gate_dst (N := 5) rfl ?_); refine Kd.R_lit k107 w.heap.size 107 ?hg (N := 5) ?hd (xs := ([] : List S107)) (inner := []) (ok := fun _ => True) (okp := fun _ => True) ?hr ?hp (fun _ hk => hk) trivial (Below.refl _ _) (Nat.le_refl _) (by simp) ?_; (case hd => rfl); (case hg => rfl); (case hr => first | (go_simp; done) | (go_simp; rfl)); (case hp => exact (Reps.none _ _)); intro v5 w5 ho5 hb5 hg5 hn5; have HO5 := Aside0.mk ho5; have HB5 := Aside0.mk hb5; clear ho5 hb5 hg5 hn5) | (at_builtin; refine Kd.R_append_rows k107 (w0 := w) w.heap.size rfl (.tmp 5) (.tmp 6) 26 107 _ 24 rfl Try.underlying26 info107 rfl (by decide) (by decide) v5 [] l _ _ _ (fun _ => True) (fun _ => False) rfl rfl HO5.out (Kd.C_below HC.out HB5.out) (fun _ _ h => h) (fun _ h => h.elim) (fun _ _ => trivial) HB5.out HB5.out.size (by have := HL.out; simp; omega) ?_; intro v7 w7 ho7 hb7 hg7 ha7; have HO7 := Aside0.mk ho7; have HB7 := Aside0.mk hb7; clear ho7 hb7 hg7 ha7) | fail)
    go_ret
    exact ⟨_, rfl, HO7.out, HB7.out⟩
end Go.Proofs.Ytlplphgoldkoeaa.HTab
end

section
set_option linter.unusedVariables false
set_option linter.unusedSimpArgs false
namespace Go.Proofs.Ytlplphgoldkoeaa.HTab
open Go.RowKit Go.Proofs.YtlplphgoldkoeaaW.PrintWords Go.Proofs.YtlplphgoldkoeaaW.PrintLast Go.Proofs.YtlplphgoldkoeaaW.PrintMore Go.Proofs.Ytlplphgoldkoeaa.HMap Go.Proofs.Ytlplphgoldkoeaa.X
open Go.ChangeMaps (setBlock)
set_option linter.unusedVariables false
set_option linter.unusedSimpArgs false
set_option maxRecDepth 100000 in
set_option maxHeartbeats 4000000 in
theorem restrict_invalid (v r i : Int) (b : Bool) (A : Option Addr) (c : Nat) (l : List S107) (w : World) (hC : Kd.C k107 w A l.length l) (hc : l.length ≤ c) (hq : mask_Valid.f v l r = some false) :
    Calls Try.prog 67 #[.agg #[.int .i64 v, .slice A l.length c, .int .i64 r], .int .i64 i, .bool b] w fun e w' => e = .returned (.tuple #[.agg #[.int .i64 0, .slice none 0 0, .int .i64 0], .int .i64 2]) ∧ Below w.heap.size w w' := by
  have hu := Try.underlying28
  have HC := Aside0.mk hC
  have HQ := Aside0.mk hq
  obtain ⟨W2, hW2⟩ : ∃ W, W = (w.alloc (.cells #[.int .i64 v, .slice A l.length c, .int .i64 r] 28)).alloc (.cells #[.int .i64 0, .slice none 0 0, .int .i64 0] 28) := ⟨_, rfl⟩
  have hB2 : Below w.heap.size w W2 := by rw [hW2]; exact below_alloc (below_alloc (Below.refl _ _) _) _
  have hk1 : W2.heap[w.heap.size]? = some (.cells #[.int .i64 v, .slice A l.length c, .int .i64 r] 28 (0, 0)) := by rw [hW2]; exact blk_alloc (blk_new _ _) _
  have hk2 : W2.heap[w.heap.size + 1]? = some (.cells #[.int .i64 0, .slice none 0 0, .int .i64 0] 28 (0, 0)) := by
    rw [hW2]
    simpa using blk_new (w.alloc (.cells #[.int .i64 v, .slice A l.length c, .int .i64 r] 28)) (.cells #[.int .i64 0, .slice none 0 0, .int .i64 0] 28)
  have B2 := Aside0.mk hB2
  have K2 := Aside0.mk (And.intro hk1 hk2)
  clear hC hq hB2 hk1 hk2
  go_enter Try.func67, Try.ntmps67
  go_wp2_with fail
  rw [← hW2]
  clear hW2
  refine (mask_Valid.calls v A c l r false W2 (Kd.C_below HC.out B2.out) hc HQ.out).mono ?_
  rintro e w3 ⟨rfl, hB3⟩
  have B3 := Aside0.mk (below_then B2.out B2.out.size hB3)
  have K3 := Aside0.mk (And.intro (blk_below K2.out.1 hB3) (blk_below K2.out.2 hB3))
  clear hB3
  have y0 := (blk_cell K3.out.1 0).trans rfl
  have c0 := (blk_cell K3.out.2 0).trans rfl
  have c1 := (blk_cell K3.out.2 1).trans rfl
  have c2 := (blk_cell K3.out.2 2).trans rfl
  have f0 := blk_frozen K3.out.2 0
  have f1 := blk_frozen K3.out.2 1
  have f2 := blk_frozen K3.out.2 2
  go_wp2
  refine bodyPost_ret (results_ct rfl _ _ (w.heap.size + 1) 28 #[.int .i64 0, .slice none 0 0, .int .i64 0] (0, 0) _ rfl (blk_put (cs := #[.int .i64 0, .slice none 0 0, .int .i64 0]) (blk_put (cs := #[.int .i64 0, .slice none 0 0, .int .i64 0]) (blk_put (cs := #[.int .i64 0, .slice none 0 0, .int .i64 0]) K3.out.2 0 _ rfl) 1 _ rfl) 2 _ rfl) hu rfl (by kernel_rfl)) rfl ?_
  exact ⟨by rfl, below_set (below_set (below_set B3.out (Nat.le_add_right _ 1)) (Nat.le_add_right _ 1)) (Nat.le_add_right _ 1)⟩
set_option maxRecDepth 100000 in
set_option maxHeartbeats 4000000 in
theorem restrict_low (v r i : Int) (b : Bool) (A : Option Addr) (c : Nat) (l : List S107) (w : World) (hC : Kd.C k107 w A l.length l) (hc : l.length ≤ c) (hq : mask_Valid.f v l r = some true) (hi : i < 0) :
    Calls Try.prog 67 #[.agg #[.int .i64 v, .slice A l.length c, .int .i64 r], .int .i64 i, .bool b] w fun e w' => e = .returned (.tuple #[.agg #[.int .i64 0, .slice none 0 0, .int .i64 0], .int .i64 2]) ∧ Below w.heap.size w w' := by
  have hu := Try.underlying28
  have HC := Aside0.mk hC
  have HQ := Aside0.mk hq
  have q0 : decide (i < 0) = true := decide_eq_true hi
  have q1 : (i < 0) = True := eq_true hi
  obtain ⟨W2, hW2⟩ : ∃ W, W = (w.alloc (.cells #[.int .i64 v, .slice A l.length c, .int .i64 r] 28)).alloc (.cells #[.int .i64 0, .slice none 0 0, .int .i64 0] 28) := ⟨_, rfl⟩
  have hB2 : Below w.heap.size w W2 := by rw [hW2]; exact below_alloc (below_alloc (Below.refl _ _) _) _
  have hk1 : W2.heap[w.heap.size]? = some (.cells #[.int .i64 v, .slice A l.length c, .int .i64 r] 28 (0, 0)) := by rw [hW2]; exact blk_alloc (blk_new _ _) _
  have hk2 : W2.heap[w.heap.size + 1]? = some (.cells #[.int .i64 0, .slice none 0 0, .int .i64 0] 28 (0, 0)) := by
    rw [hW2]
    simpa using blk_new (w.alloc (.cells #[.int .i64 v, .slice A l.length c, .int .i64 r] 28)) (.cells #[.int .i64 0, .slice none 0 0, .int .i64 0] 28)
  have B2 := Aside0.mk hB2
  have K2 := Aside0.mk (And.intro hk1 hk2)
  clear hC hq hB2 hk1 hk2
  go_enter Try.func67, Try.ntmps67
  go_wp2_with fail
  rw [← hW2]
  clear hW2
  refine (mask_Valid.calls v A c l r true W2 (Kd.C_below HC.out B2.out) hc HQ.out).mono ?_
  rintro e w3 ⟨rfl, hB3⟩
  have B3 := Aside0.mk (below_then B2.out B2.out.size hB3)
  have K3 := Aside0.mk (And.intro (blk_below K2.out.1 hB3) (blk_below K2.out.2 hB3))
  clear hB3
  have y0 := (blk_cell K3.out.1 0).trans rfl
  have c0 := (blk_cell K3.out.2 0).trans rfl
  have c1 := (blk_cell K3.out.2 1).trans rfl
  have c2 := (blk_cell K3.out.2 2).trans rfl
  have f0 := blk_frozen K3.out.2 0
  have f1 := blk_frozen K3.out.2 1
  have f2 := blk_frozen K3.out.2 2
  go_wp2
  refine bodyPost_ret (results_ct rfl _ _ (w.heap.size + 1) 28 #[.int .i64 0, .slice none 0 0, .int .i64 0] (0, 0) _ rfl (blk_put (cs := #[.int .i64 0, .slice none 0 0, .int .i64 0]) (blk_put (cs := #[.int .i64 0, .slice none 0 0, .int .i64 0]) (blk_put (cs := #[.int .i64 0, .slice none 0 0, .int .i64 0]) K3.out.2 0 _ rfl) 1 _ rfl) 2 _ rfl) hu rfl (by kernel_rfl)) rfl ?_
  exact ⟨by rfl, below_set (below_set (below_set B3.out (Nat.le_add_right _ 1)) (Nat.le_add_right _ 1)) (Nat.le_add_right _ 1)⟩
set_option maxRecDepth 100000 in
set_option maxHeartbeats 4000000 in
theorem restrict_high (v r i : Int) (b : Bool) (A : Option Addr) (c : Nat) (l : List S107) (w : World) (hC : Kd.C k107 w A l.length l) (hc : l.length ≤ c) (hq : mask_Valid.f v l r = some true) (h0 : 0 ≤ i) (hi : v ≤ i) :
    Calls Try.prog 67 #[.agg #[.int .i64 v, .slice A l.length c, .int .i64 r], .int .i64 i, .bool b] w fun e w' => e = .returned (.tuple #[.agg #[.int .i64 0, .slice none 0 0, .int .i64 0], .int .i64 2]) ∧ Below w.heap.size w w' := by
  have hu := Try.underlying28
  have HC := Aside0.mk hC
  have HQ := Aside0.mk hq
  have q0 : decide (i < 0) = false := decide_eq_false (by omega)
  have q1 : (i < 0) = False := eq_false (by omega)
  have q2 : decide (i ≥ v) = true := decide_eq_true hi
  have q3 : (v ≤ i) = True := eq_true hi
  have q4 : decide (v ≤ i) = true := decide_eq_true hi
  obtain ⟨W2, hW2⟩ : ∃ W, W = (w.alloc (.cells #[.int .i64 v, .slice A l.length c, .int .i64 r] 28)).alloc (.cells #[.int .i64 0, .slice none 0 0, .int .i64 0] 28) := ⟨_, rfl⟩
  have hB2 : Below w.heap.size w W2 := by rw [hW2]; exact below_alloc (below_alloc (Below.refl _ _) _) _
  have hk1 : W2.heap[w.heap.size]? = some (.cells #[.int .i64 v, .slice A l.length c, .int .i64 r] 28 (0, 0)) := by rw [hW2]; exact blk_alloc (blk_new _ _) _
  have hk2 : W2.heap[w.heap.size + 1]? = some (.cells #[.int .i64 0, .slice none 0 0, .int .i64 0] 28 (0, 0)) := by
    rw [hW2]
    simpa using blk_new (w.alloc (.cells #[.int .i64 v, .slice A l.length c, .int .i64 r] 28)) (.cells #[.int .i64 0, .slice none 0 0, .int .i64 0] 28)
  have B2 := Aside0.mk hB2
  have K2 := Aside0.mk (And.intro hk1 hk2)
  clear hC hq hB2 hk1 hk2
  go_enter Try.func67, Try.ntmps67
  go_wp2_with fail
  rw [← hW2]
  clear hW2
  refine (mask_Valid.calls v A c l r true W2 (Kd.C_below HC.out B2.out) hc HQ.out).mono ?_
  rintro e w3 ⟨rfl, hB3⟩
  have B3 := Aside0.mk (below_then B2.out B2.out.size hB3)
  have K3 := Aside0.mk (And.intro (blk_below K2.out.1 hB3) (blk_below K2.out.2 hB3))
  clear hB3
  have y0 := (blk_cell K3.out.1 0).trans rfl
  have c0 := (blk_cell K3.out.2 0).trans rfl
  have c1 := (blk_cell K3.out.2 1).trans rfl
  have c2 := (blk_cell K3.out.2 2).trans rfl
  have f0 := blk_frozen K3.out.2 0
  have f1 := blk_frozen K3.out.2 1
  have f2 := blk_frozen K3.out.2 2
  go_wp2
  refine bodyPost_ret (results_ct rfl _ _ (w.heap.size + 1) 28 #[.int .i64 0, .slice none 0 0, .int .i64 0] (0, 0) _ rfl (blk_put (cs := #[.int .i64 0, .slice none 0 0, .int .i64 0]) (blk_put (cs := #[.int .i64 0, .slice none 0 0, .int .i64 0]) (blk_put (cs := #[.int .i64 0, .slice none 0 0, .int .i64 0]) K3.out.2 0 _ rfl) 1 _ rfl) 2 _ rfl) hu rfl (by kernel_rfl)) rfl ?_
  exact ⟨by rfl, below_set (below_set (below_set B3.out (Nat.le_add_right _ 1)) (Nat.le_add_right _ 1)) (Nat.le_add_right _ 1)⟩
set_option maxRecDepth 100000 in
set_option maxHeartbeats 4000000 in
theorem restrict_ok (v r i : Int) (b : Bool) (A : Option Addr) (c : Nat) (l : List S107) (w : World) (hC : Kd.C k107 w A l.length l) (hc : l.length ≤ c) (hq : mask_Valid.f v l r = some true) (i0 : 0 ≤ i) (i1 : i < v) (q1 : Int) (q2 : List S107) (q3 q4 : Int) (hr : mask_Compose.f v l r i v [] (if b = true then 1 else 0) = some (q1, q2, q3, q4)) :
    Calls Try.prog 67 #[.agg #[.int .i64 v, .slice A l.length c, .int .i64 r], .int .i64 i, .bool b] w fun e w' => ∃ u : Value, e = .returned (.tuple #[.agg #[.int .i64 q1, u, .int .i64 q3], .int .i64 q4]) ∧ Kd.R k107 107 w' w.heap.size (fun _ => True) u q2 ∧ Below w.heap.size w w' := by
  have hu := Try.underlying28
  have HC := Aside0.mk hC
  have HQ := Aside0.mk hq
  have d0 : decide (i < 0) = false := decide_eq_false (by omega)
  have d1 : (i < 0) = False := eq_false (by omega)
  have d2 : decide (i ≥ v) = false := decide_eq_false (by omega)
  have d3 : (v ≤ i) = False := eq_false (by omega)
  have d4 : decide (v ≤ i) = false := decide_eq_false (by omega)
  have HRR := Aside0.mk hr
  clear i0 i1 hr
  obtain ⟨W2, hW2⟩ : ∃ W, W = (w.alloc (.cells #[.int .i64 v, .slice A l.length c, .int .i64 r] 28)).alloc (.cells #[.int .i64 0, .slice none 0 0, .int .i64 0] 28) := ⟨_, rfl⟩
  have hB2 : Below w.heap.size w W2 := by rw [hW2]; exact below_alloc (below_alloc (Below.refl _ _) _) _
  have hk1 : W2.heap[w.heap.size]? = some (.cells #[.int .i64 v, .slice A l.length c, .int .i64 r] 28 (0, 0)) := by rw [hW2]; exact blk_alloc (blk_new _ _) _
  have hk2 : W2.heap[w.heap.size + 1]? = some (.cells #[.int .i64 0, .slice none 0 0, .int .i64 0] 28 (0, 0)) := by
    rw [hW2]
    simpa using blk_new (w.alloc (.cells #[.int .i64 v, .slice A l.length c, .int .i64 r] 28)) (.cells #[.int .i64 0, .slice none 0 0, .int .i64 0] 28)
  have B2 := Aside0.mk hB2
  have K2 := Aside0.mk (And.intro hk1 hk2)
  clear hC hq hB2 hk1 hk2
  go_enter Try.func67, Try.ntmps67
  go_wp2_with fail
  rw [← hW2]
  clear hW2
  refine (mask_Valid.calls v A c l r true W2 (Kd.C_below HC.out B2.out) hc HQ.out).mono ?_
  rintro e w3 ⟨rfl, hB3⟩
  have B3 := Aside0.mk (below_then B2.out B2.out.size hB3)
  have K3 := Aside0.mk (And.intro (blk_below K2.out.1 hB3) (blk_below K2.out.2 hB3))
  clear hB3
  have y0 := (blk_cell K3.out.1 0).trans rfl
  have z0 : ∀ o : Obj, (w3.alloc o).cell? ⟨w.heap.size, 0, none⟩ = some (.int .i64 v) := fun o => pw_cell_below (below_alloc (Below.refl _ _) o) ((blk_cell K3.out.1 0).trans rfl)
  have z1 : ∀ o : Obj, (w3.alloc o).cell? ⟨w.heap.size, 1, none⟩ = some (.slice A l.length c) := fun o => pw_cell_below (below_alloc (Below.refl _ _) o) ((blk_cell K3.out.1 1).trans rfl)
  have z2 : ∀ o : Obj, (w3.alloc o).cell? ⟨w.heap.size, 2, none⟩ = some (.int .i64 r) := fun o => pw_cell_below (below_alloc (Below.refl _ _) o) ((blk_cell K3.out.1 2).trans rfl)
  obtain ⟨W4, hW4⟩ : ∃ W, W = w3.alloc (.cells #[.int .i64 v, .slice none 0 0, .int .i64 (if b = true then 1 else 0)] 28) := ⟨_, rfl⟩
  have B4 := Aside0.mk (show Below w.heap.size w W4 from by rw [hW4]; exact below_alloc B3.out _)
  have K4 := Aside0.mk (show W4.heap[w.heap.size + 1]? = some (.cells #[.int .i64 0, .slice none 0 0, .int .i64 0] 28 (0, 0)) from by rw [hW4]; exact blk_alloc K3.out.2 _)
  clear K3 B3 K2 B2
  cases b
  all_goals
    simp only [if_true, Bool.false_eq_true, if_false] at hW4
    replace HRR := Aside0.mk HRR.out
    simp only [if_true, Bool.false_eq_true, if_false] at HRR
    go_wp2_with fail
    rw [← hW4]
    clear hW4 z0 z1 z2 y0
    refine (mask_Compose.calls v A c l r i v none 0 [] _ q1 q2 q3 q4 W4 (Kd.C_below HC.out B4.out) hc (Kd.C_nil _ _) (Nat.le_refl 0) HRR.out).mono ?_
    rintro e w5 ⟨v5, rfl, hR5, hB5⟩
    obtain ⟨A5, c5, rfl, hc5, hC5⟩ := Kd.R_reads hR5
    have B5 := Aside0.mk (below_then B4.out B4.out.size hB5)
    have K5 := Aside0.mk (blk_below K4.out hB5)
    have R5 := Aside0.mk (Kd.R_lower hR5 B4.out.size)
    have c0_ := (blk_cell K5.out 0).trans rfl
    have c1_ := (blk_cell K5.out 1).trans rfl
    have c2_ := (blk_cell K5.out 2).trans rfl
    have f0 := blk_frozen K5.out 0
    have f1 := blk_frozen K5.out 1
    have f2 := blk_frozen K5.out 2
    clear hR5 hB5 hC5
    go_wp2
    have N0 := Kd.R_types R5.out K5.out (by decide)
    have N1 := Kd.R_far (p := ⟨w.heap.size + 1, 0, none⟩) N0 (fun _ hk => hk.2) (.int .i64 q1)
    have N2 := Kd.R_far (p := ⟨w.heap.size + 1, 1, none⟩) N1 (fun _ hk => hk.2) (.slice A5 q2.length c5)
    have N3 := Kd.R_far (p := ⟨w.heap.size + 1, 2, none⟩) N2 (fun _ hk => hk.2) (.int .i64 q3)
    refine bodyPost_ret (results_ct rfl _ _ (w.heap.size + 1) 28 #[.int .i64 q1, .slice A5 q2.length c5, .int .i64 q3] (0, 0) _ rfl ?_ hu rfl (by kernel_rfl)) rfl ?_
    · exact blk_put (cs := #[.int .i64 q1, .slice A5 q2.length c5, .int .i64 0]) (blk_put (cs := #[.int .i64 q1, .slice none 0 0, .int .i64 0]) (blk_put (cs := #[.int .i64 0, .slice none 0 0, .int .i64 0]) K5.out 0 _ rfl) 1 _ rfl) 2 _ rfl
    · exact ⟨_, by rfl, Kd.R_mono N3 (fun _ _ => trivial), below_set (below_set (below_set B5.out (Nat.le_add_right _ 1)) (Nat.le_add_right _ 1)) (Nat.le_add_right _ 1)⟩
end Go.Proofs.Ytlplphgoldkoeaa.HTab
namespace Go.Proofs.Ytlplphgoldkoeaa.X
open Go.RowKit Go.Proofs.YtlplphgoldkoeaaW.PrintWords Go.Proofs.YtlplphgoldkoeaaW.PrintLast Go.Proofs.YtlplphgoldkoeaaW.PrintMore Go.Proofs.Ytlplphgoldkoeaa.HTab
set_option linter.unusedVariables false
def mask_Restrict.f (v : Int) (l : List (S107)) (r : Int) (i : Int) (b : Bool) : Option (Int × List (S107) × Int × Int) :=
  if l.length ≤ 1000000000 then
    if vmB v l r = true then
      if 0 ≤ i ∧ i < v then mask_Compose.f v l r i v [] (if b = true then 1 else 0)
      else some (0, [], 0, 2)
    else some (0, [], 0, 2)
  else none
theorem mask_Restrict.calls (a0_0 : Int) (A0_1 : Option Addr) (c0_1 : Nat) (l0_1 : List (S107)) (a0_2 : Int) (a1 : Int) (a2 : Bool) (r1 : Int) (r2 : List (S107)) (r3 : Int) (r4 : Int) (w : World) (hr0_1 : Kd.C k107 w A0_1 l0_1.length l0_1) (hc0_1 : l0_1.length ≤ c0_1) (h : mask_Restrict.f a0_0 l0_1 a0_2 a1 a2 = some (r1, r2, r3, r4)) :
    Calls Try.prog 67 #[.agg #[.int .i64 a0_0, .slice A0_1 l0_1.length c0_1, .int .i64 a0_2], .int .i64 a1, .bool a2] w fun e w' => ∃ v1_ : Value, e = .returned (.tuple #[.agg #[.int .i64 r1, v1_, .int .i64 r3], .int .i64 r4]) ∧ Kd.R k107 107 w' w.heap.size (fun _ => True) v1_ r2 ∧ Below w.heap.size w w' := by
  unfold mask_Restrict.f at h
  split at h
  case isFalse => cases h
  rename_i hl
  have hq : mask_Valid.f a0_0 l0_1 a0_2 = some (vmB a0_0 l0_1 a0_2) := by unfold mask_Valid.f; rw [if_pos hl]
  split at h
  · rename_i hb
    rw [hb] at hq
    split at h
    · rename_i hi
      exact restrict_ok a0_0 a0_2 a1 a2 A0_1 c0_1 l0_1 w hr0_1 hc0_1 hq hi.1 hi.2 r1 r2 r3 r4 h
    · rename_i hi
      simp only [Option.some.injEq, Prod.mk.injEq] at h
      obtain ⟨rfl, rfl, rfl, rfl⟩ := h
      by_cases h0 : a1 < 0
      · refine (restrict_low a0_0 a0_2 a1 a2 A0_1 c0_1 l0_1 w hr0_1 hc0_1 hq h0).mono ?_
        rintro e w' ⟨rfl, hb⟩
        exact ⟨_, rfl, Kd.R_nil _ _ _ _ _, hb⟩
      · refine (restrict_high a0_0 a0_2 a1 a2 A0_1 c0_1 l0_1 w hr0_1 hc0_1 hq (by omega) (by omega)).mono ?_
        rintro e w' ⟨rfl, hb⟩
        exact ⟨_, rfl, Kd.R_nil _ _ _ _ _, hb⟩
  · rename_i hb
    rw [Bool.not_eq_true] at hb
    rw [hb] at hq
    simp only [Option.some.injEq, Prod.mk.injEq] at h
    obtain ⟨rfl, rfl, rfl, rfl⟩ := h
    refine (restrict_invalid a0_0 a0_2 a1 a2 A0_1 c0_1 l0_1 w hr0_1 hc0_1 hq).mono ?_
    rintro e w' ⟨rfl, hb⟩
    exact ⟨_, rfl, Kd.R_nil _ _ _ _ _, hb⟩
end Go.Proofs.Ytlplphgoldkoeaa.X
end

section
set_option linter.unusedVariables false
set_option linter.unusedSimpArgs false
namespace Go.Proofs.Ytlplphgoldkoeaa.HTab
open Go.RowKit Go.Proofs.YtlplphgoldkoeaaW.PrintWords Go.Proofs.YtlplphgoldkoeaaW.PrintLast Go.Proofs.YtlplphgoldkoeaaW.PrintMore Go.Proofs.Ytlplphgoldkoeaa.HMap Go.Proofs.Ytlplphgoldkoeaa.X
open Go.ChangeMaps (setBlock)
set_option linter.unusedVariables false
set_option linter.unusedSimpArgs false
set_option linter.unusedSectionVars false
abbrev OpF := Int → List S107 → Int → Int → List S107 → Int → Option (Int × List S107 × Int × Int)
def foldF (opf : OpF) : List Int → Int → List S107 → Int → Option (Int × List S107 × Int)
  | [], v, l, r => some (v, l, r)
  | x :: xs, v, l, r => (mask_Restrict.f v l r x false).bind fun a => (mask_Restrict.f v l r x true).bind fun b => (opf a.1 a.2.1 a.2.2.1 b.1 b.2.1 b.2.2.1).bind fun c => foldF opf xs c.1 c.2.1 c.2.2.1
def OpC (fid : FuncId) (opf : OpF) : Prop := ∀ (W : World) (v1 : Int) (A1 : Option Addr) (c1 : Nat) (l1 : List S107) (r1 v2 : Int) (A2 : Option Addr) (c2 : Nat) (l2 : List S107) (r2 q1 : Int) (q2 : List S107) (q3 q4 : Int), Kd.C k107 W A1 l1.length l1 → l1.length ≤ c1 → Kd.C k107 W A2 l2.length l2 → l2.length ≤ c2 → opf v1 l1 r1 v2 l2 r2 = some (q1, q2, q3, q4) →
  Calls Try.prog fid #[.agg #[.int .i64 v1, .slice A1 l1.length c1, .int .i64 r1], .agg #[.int .i64 v2, .slice A2 l2.length c2, .int .i64 r2]] W fun e w' => ∃ v1_ : Value, e = .returned (.tuple #[.agg #[.int .i64 q1, v1_, .int .i64 q3], .int .i64 q4]) ∧ Kd.R k107 107 w' W.heap.size (fun _ => True) v1_ q2 ∧ Below W.heap.size W w'
def Row2 (w w' : World) (A : Option Addr) (c : Nat) (l : List S107) : Prop := l.length ≤ c ∧ (Kd.C k107 w A l.length l ∨ Kd.R k107 107 w' w.heap.size (fun _ => True) (.slice A l.length c) l)
theorem Row2.C {w w' : World} {A : Option Addr} {c : Nat} {l : List S107} (h : Row2 w w' A c l) (hb : Below w.heap.size w w') : Kd.C k107 w' A l.length l := by
  rcases h.2 with h | h
  · exact Kd.C_below h hb
  · obtain ⟨A2, c2, e, _, hC⟩ := Kd.R_reads h
    injection e with e1
    subst e1
    exact hC
def tb_fold_10.T : Bool × List (List Nat × List Nat) := (true, [([], []), ([0], [0]), ([], []), ([2], [2]), ([3], [3]), ([], []), ([5], [5]), ([1, 4, 6], [1, 4, 6]), ([7, 4, 0, 1, 2, 3, 4, 5, 6, 7], [7]), ([8, 0, 1, 2, 3, 4, 5, 6, 7, 8], [])])
def tb_fold_10.B : List Nat := [0, 1, 0, 4, 12, 0, 32, 127, 255, 511]
theorem tb_fold_10.tab : rtab .any (opsOf Try.f125 10) = tb_fold_10.T := by kernel_rfl
theorem tb_fold_10.bits : waitsOk tb_fold_10.T.2 tb_fold_10.B = true := by kernel_rfl
section
variable {fid : FuncId} {fn : Func} (hfn : Try.prog.funcs[fid]? = some fn) (hname : (fn.name == "runtime.NumGoroutine") = false) (hbody : fn.body.isSome = true)
include hfn hname hbody
set_option maxRecDepth 100000 in
set_option maxHeartbeats 8000000 in
theorem fold_ok (opf : OpF) (hop : OpC fid opf) (v r : Int) (A : Option Addr) (c : Nat) (l : List S107) (As : Option Addr) (cs : Nat) (s : List Int) (w : World) (hC : Kd.C k107 w A l.length l) (hc : l.length ≤ c) (hS : Kd.C (Kd.int .i64) w As s.length s) (hcs : s.length ≤ cs) (hl : s.length < 140737488355000)
    (hq : mask_Valid.f v l r = some true) (hs : setM v s [] = true) (v' : Int) (l' : List S107) (r' : Int) (hf : foldF opf s v l r = some (v', l', r')) (hl' : l'.length ≤ 1000000000) :
    Calls Try.prog 125 #[.agg #[.int .i64 v, .slice A l.length c, .int .i64 r], .slice As s.length cs, .func (.func fid) #[] #[]] w fun e w' => ∃ u : Value, e = .returned (.tuple #[.agg #[.int .i64 v', u, .int .i64 r'], .int .i64 0]) ∧ Kd.R k107 107 w' w.heap.size (fun _ => True) u l' ∧ Below w.heap.size w w' := by
  have hu := Try.underlying28
  have HC := Aside0.mk hC
  have HS := Aside0.mk hS
  have HQ := Aside0.mk hq
  have HE := Aside0.mk hs
  have HF := Aside0.mk (show foldF opf (s.drop 0) v l r = some (v', l', r') from hf)
  have HO := Aside0.mk hop
  have HL := Aside0.mk hl'
  obtain ⟨W2, hW2⟩ : ∃ W, W = (w.alloc (.cells #[.int .i64 v, .slice A l.length c, .int .i64 r] 28)).alloc (.cells #[.int .i64 0, .slice none 0 0, .int .i64 0] 28) := ⟨_, rfl⟩
  have hB2 : Below w.heap.size w W2 := by rw [hW2]; exact below_alloc (below_alloc (Below.refl _ _) _) _
  have hk1 : W2.heap[w.heap.size]? = some (.cells #[.int .i64 v, .slice A l.length c, .int .i64 r] 28 (0, 0)) := by rw [hW2]; exact blk_alloc (blk_new _ _) _
  have hk2 : W2.heap[w.heap.size + 1]? = some (.cells #[.int .i64 0, .slice none 0 0, .int .i64 0] 28 (0, 0)) := by
    rw [hW2]
    simpa using blk_new (w.alloc (.cells #[.int .i64 v, .slice A l.length c, .int .i64 r] 28)) (.cells #[.int .i64 0, .slice none 0 0, .int .i64 0] 28)
  have B2 := Aside0.mk hB2
  have K2 := Aside0.mk (And.intro hk1 hk2)
  clear hC hS hq hs hf hop hl' hB2 hk1 hk2
  go_enter Try.func125, Try.ntmps125
  go_wp2_with fail
  rw [← hW2]
  clear hW2
  refine (mask_Valid.calls v A c l r true W2 (Kd.C_below HC.out B2.out) hc HQ.out).mono ?_
  rintro e w3 ⟨rfl, hB3⟩
  have B3 := Aside0.mk (below_then B2.out B2.out.size hB3)
  have K3 := Aside0.mk (And.intro (blk_below K2.out.1 hB3) (blk_below K2.out.2 hB3))
  clear hB3
  have y0 := (blk_cell K3.out.1 0).trans rfl
  go_wp2_with fail
  refine (set_calls v As cs s w3 (Kd.C_below HS.out B3.out) hcs hl true HE.out).mono ?_
  rintro e w4 ⟨rfl, hB4⟩
  have B4 := Aside0.mk (below_then B3.out B3.out.size hB4)
  have K4 := Aside0.mk (And.intro (blk_below K3.out.1 hB4) (blk_below K3.out.2 hB4))
  have R4 := Aside0.mk (show Row2 w w4 A c l from ⟨hc, .inl HC.out⟩)
  clear hB4 y0 hc
  go_wp2
  go_loopg [27] (s.length) (fun kq v27 w' => ∃ (i : Nat) (v1 : Int) (A1 : Option Addr) (c1 : Nat) (l1 : List S107) (r1 : Int), i + kq = s.length ∧ v27 = .int .i64 i ∧ Aside0 (foldF opf (s.drop i) v1 l1 r1 = some (v', l', r')) ∧ Aside0 (Below w.heap.size w w') ∧ Aside0 (w'.heap[w.heap.size]? = some (.cells #[.int .i64 v1, .slice A1 l1.length c1, .int .i64 r1] 28 (0, 0)) ∧ w'.heap[w.heap.size + 1]? = some (.cells #[.int .i64 0, .slice none 0 0, .int .i64 0] 28 (0, 0))) ∧ Aside0 (Row2 w w' A1 c1 l1))
  case atStart => exact ⟨0, v, A, c, l, r, by omega, rfl, HF, B4, K4, R4⟩
  case round =>
    clear HF B4 K4 R4 B3 K3 B2 K2
    obtain ⟨i, v1, A1, c1, l1, r1, hi, rfl, HA, HW, HK, HR⟩ := hrel
    have y0 := (blk_cell HK.out.1 0).trans rfl
    have y1 := (blk_cell HK.out.1 1).trans rfl
    have y2 := (blk_cell HK.out.1 2).trans rfl
    by_cases hlt : i < s.length
    · have HA2 := HA.out
      have hdr : s.drop i = rd s i :: s.drop (i + 1) := by
        rw [List.drop_eq_getElem_cons hlt]
        simp [rd, hlt]
      rw [hdr] at HA2
      unfold foldF at HA2
      obtain ⟨⟨a1, a2, a3, a4⟩, ha, HA2⟩ := Option.bind_eq_some_iff.1 HA2
      obtain ⟨⟨b1, b2, b3, b4⟩, hb, HA2⟩ := Option.bind_eq_some_iff.1 HA2
      obtain ⟨⟨d1, d2, d3, d4⟩, hd, HA2⟩ := Option.bind_eq_some_iff.1 HA2
      dsimp only at ha hb hd HA2
      obtain ⟨ad, e1, x0⟩ := Kd.at_int (Kd.C_below HS.out HW.out) (i : Int) (by omega) (by omega)
      subst e1
      have hdec : decide (i < s.length) = true := decide_eq_true hlt
      simp only [Int.toNat_natCast] at x0
      obtain ⟨x, hx⟩ : ∃ x, x = rd s i := ⟨_, rfl⟩
      rw [← hx] at x0 ha hb
      have Ha := Aside0.mk ha
      have Hb := Aside0.mk hb
      have Hd := Aside0.mk hd
      replace HA2 := Aside0.mk HA2
      clear HA hdr hx ha hb hd
      go_wp2_with fail
      refine (mask_Restrict.calls v1 A1 c1 l1 r1 x false a1 a2 a3 a4 wr (HR.out.C HW.out) HR.out.1 Ha.out).mono ?_
      rintro e wa ⟨va, rfl, hRa, hBa⟩
      obtain ⟨Aa, ca, rfl, hca, hCa⟩ := Kd.R_reads hRa
      obtain ⟨Wa, hWa⟩ : ∃ W, W = wa.alloc (.cells #[.int .i64 a1, .slice Aa a2.length ca, .int .i64 a3] 28) := ⟨_, rfl⟩
      have Ba := Aside0.mk (show Below w.heap.size w Wa from by rw [hWa]; exact below_alloc (below_then HW.out HW.out.size hBa) _)
      have Ka := Aside0.mk (show Wa.heap[w.heap.size]? = _ ∧ Wa.heap[w.heap.size + 1]? = _ ∧ Wa.heap[wa.heap.size]? = some (.cells #[.int .i64 a1, .slice Aa a2.length ca, .int .i64 a3] 28 (0, 0)) from by rw [hWa]; exact ⟨blk_alloc (blk_below HK.out.1 hBa) _, blk_alloc (blk_below HK.out.2 hBa) _, blk_new _ _⟩)
      have Ca := Aside0.mk (show Kd.C k107 Wa Aa a2.length a2 from by rw [hWa]; exact Kd.C_alloc hCa _)
      have Ra := Aside0.mk (show Row2 w Wa A1 c1 l1 from ⟨HR.out.1, HR.out.2.elim .inl (fun h => .inr (by rw [hWa]; exact Kd.R_alloc (Kd.R_below h (below_then (Below.refl _ _) (Nat.le_refl _) hBa)) _))⟩)
      have z0 : ∀ o : Obj, (wa.alloc o).cell? ⟨w.heap.size, 0, none⟩ = some (.int .i64 v1) := fun o => pw_cell_below (below_alloc (Below.refl _ _) o) ((blk_cell (blk_below HK.out.1 hBa) 0).trans rfl)
      have z1 : ∀ o : Obj, (wa.alloc o).cell? ⟨w.heap.size, 1, none⟩ = some (.slice A1 l1.length c1) := fun o => pw_cell_below (below_alloc (Below.refl _ _) o) ((blk_cell (blk_below HK.out.1 hBa) 1).trans rfl)
      have z2 : ∀ o : Obj, (wa.alloc o).cell? ⟨w.heap.size, 2, none⟩ = some (.int .i64 r1) := fun o => pw_cell_below (below_alloc (Below.refl _ _) o) ((blk_cell (blk_below HK.out.1 hBa) 2).trans rfl)
      clear hRa hBa hCa y0 y1 y2 x0
      go_wp2_with fail
      rw [← hWa]
      clear hWa z0 z1 z2
      refine (mask_Restrict.calls v1 A1 c1 l1 r1 x true b1 b2 b3 b4 Wa (Ra.out.C Ba.out) Ra.out.1 Hb.out).mono ?_
      rintro e wb ⟨vb, rfl, hRb, hBb⟩
      obtain ⟨Ab, cb, rfl, hcb, hCb⟩ := Kd.R_reads hRb
      obtain ⟨Wb, hWb⟩ : ∃ W, W = wb.alloc (.cells #[.int .i64 b1, .slice Ab b2.length cb, .int .i64 b3] 28) := ⟨_, rfl⟩
      have Bb := Aside0.mk (show Below w.heap.size w Wb from by rw [hWb]; exact below_alloc (below_then Ba.out Ba.out.size hBb) _)
      have Kb := Aside0.mk (show Wb.heap[w.heap.size]? = _ ∧ Wb.heap[w.heap.size + 1]? = _ from by rw [hWb]; exact ⟨blk_alloc (blk_below Ka.out.1 hBb) _, blk_alloc (blk_below Ka.out.2.1 hBb) _⟩)
      have Cab := Aside0.mk (show Kd.C k107 Wb Aa a2.length a2 from by rw [hWb]; exact Kd.C_alloc (Kd.C_below Ca.out hBb) _)
      have Cb := Aside0.mk (show Kd.C k107 Wb Ab b2.length b2 from by rw [hWb]; exact Kd.C_alloc hCb _)
      have z0 : ∀ o : Obj, (wb.alloc o).cell? ⟨wa.heap.size, 0, none⟩ = some (.int .i64 a1) := fun o => pw_cell_below (below_alloc (Below.refl _ _) o) ((blk_cell (blk_below Ka.out.2.2 hBb) 0).trans rfl)
      have z1 : ∀ o : Obj, (wb.alloc o).cell? ⟨wa.heap.size, 1, none⟩ = some (.slice Aa a2.length ca) := fun o => pw_cell_below (below_alloc (Below.refl _ _) o) ((blk_cell (blk_below Ka.out.2.2 hBb) 1).trans rfl)
      have z2 : ∀ o : Obj, (wb.alloc o).cell? ⟨wa.heap.size, 2, none⟩ = some (.int .i64 a3) := fun o => pw_cell_below (below_alloc (Below.refl _ _) o) ((blk_cell (blk_below Ka.out.2.2 hBb) 2).trans rfl)
      clear hRb hBb hCb
      go_wp2_with (first | (refine goesVL_ _ rfl rfl hfn hname hbody _ rfl rfl (by simp only [List.map_toArray, List.map_cons, List.map_nil]; rfl) ?_; rw [← hWb]; refine (HO.out Wb a1 Aa ca a2 a3 b1 Ab cb b2 b3 d1 d2 d3 d4 Cab.out hca Cb.out hcb Hd.out).mono ?_; rintro e wc ⟨vc, rfl, hRc, hBc⟩; refine ⟨_, rfl, ?_⟩; obtain ⟨Ac, cc, rfl, hcc, hCc⟩ := Kd.R_reads hRc; have Kc := Aside0.mk (And.intro (blk_below Kb.out.1 hBc) (blk_below Kb.out.2 hBc)); have Bc := Aside0.mk (below_then Bb.out Bb.out.size hBc); have Rc := Aside0.mk (Kd.R_lower hRc Bb.out.size); have q0 := (blk_cell Kc.out.1 0).trans rfl; have q1 := (blk_cell Kc.out.1 1).trans rfl; have q2 := (blk_cell Kc.out.1 2).trans rfl; have f0 := blk_frozen Kc.out.1 0; have f1 := blk_frozen Kc.out.1 1; have f2 := blk_frozen Kc.out.1 2; clear hRc hBc hCc) | fail)
      clear hWb
      have N0 := Kd.R_types Rc.out Kc.out.1 (by decide)
      have N1 := Kd.R_far (p := ⟨w.heap.size, 0, none⟩) N0 (fun _ hk => hk.2) (.int .i64 d1)
      have N2 := Kd.R_far (p := ⟨w.heap.size, 1, none⟩) N1 (fun _ hk => hk.2) (.slice Ac d2.length cc)
      have N3 := Kd.R_far (p := ⟨w.heap.size, 2, none⟩) N2 (fun _ hk => hk.2) (.int .i64 d3)
      go_roundg (s.length - (i + 1))
      case measure => omega
      case rel =>
        refine ⟨i + 1, d1, Ac, cc, d2, d3, by omega, by go_num, HA2, ⟨below_set (below_set (below_set Bc.out (Nat.le_refl _)) (Nat.le_refl _)) (Nat.le_refl _)⟩, ⟨?_, ?_⟩, ⟨hcc, .inr (Kd.R_mono N3 (fun _ _ => trivial))⟩⟩
        · exact blk_put (cs := #[.int .i64 d1, .slice Ac d2.length cc, .int .i64 r1]) (blk_put (cs := #[.int .i64 d1, .slice A1 l1.length c1, .int .i64 r1]) (blk_put (cs := #[.int .i64 v1, .slice A1 l1.length c1, .int .i64 r1]) Kc.out.1 0 _ rfl) 1 _ rfl) 2 _ rfl
        · exact (Below.heap_setCell _ ⟨w.heap.size, 2, none⟩ _ _ (by simp)).trans ((Below.heap_setCell _ ⟨w.heap.size, 1, none⟩ _ _ (by simp)).trans ((Below.heap_setCell _ ⟨w.heap.size, 0, none⟩ _ _ (by simp)).trans Kc.out.2))
    · have HA2 := HA.out
      rw [List.drop_eq_nil_of_le (by omega)] at HA2
      simp only [foldF, Option.some.injEq, Prod.mk.injEq] at HA2
      obtain ⟨rfl, rfl, rfl⟩ := HA2
      have hdec : decide (i < s.length) = false := decide_eq_false hlt
      have CD := Aside0.mk ((HR.out.C HW.out))
      have hcd := HR.out.1
      clear HA
      go_wp2
      have KD := Aside0.mk (And.intro (blk_drew HK.out.1) (blk_drew HK.out.2))
      have BD := Aside0.mk (below_drew HW.out)
      refine start_ (n := 10) (S := fun w' => (w'.cell? ⟨w.heap.size, 0, none⟩ = some (.int .i64 v1)) ∧ (w'.cell? ⟨w.heap.size, 1, none⟩ = some (.slice A1 l1.length c1)) ∧ (w'.cell? ⟨w.heap.size, 2, none⟩ = some (.int .i64 r1))) (ds := [8]) #[false, false, false, false, false, false, false, false, false, false] (by kernel_rfl) rfl rfl ⟨y0, y1, y2⟩ (fun hHeld => ?_)
      refine with_tabW tb_fold_10.tab tb_fold_10.bits (fun HT_ HW_ => ?_)
      refine pure_ (i := 0) (N := some 51) (v := ?_) (a' := ?_) #[true, false, false, false, false, false, false, false, false, false] rfl rfl (any_of HT_.out (by kernel_rfl)) (fun _ _ _ h => h) (Or.inl ⟨by rfl, ?_⟩) ?_ ?_
      rotate_left
      · intro w'
        go_simp
        with_reducible rfl
      rotate_left
      · simp only [Act.put, List.setIfInBounds_toArray, List.set_cons_zero, List.set_cons_succ, i64_w, i32_w]
        rfl
      refine take_ (i := 1) (N := some 52) (v := ?_) (a' := ?_) #[true, true, false, false, false, false, false, false, false, false] rfl rfl (take_ofW HT_.out HW_.out (by kernel_rfl)) (fun _ _ _ h => h) (Or.inl ⟨by rfl, ?_⟩) hHeld ?_ ?_
      rotate_left
      · rintro w' ⟨s0, s1, s2⟩
        go_simp
        with_reducible rfl
      rotate_left
      · simp only [Act.put, List.setIfInBounds_toArray, List.set_cons_zero, List.set_cons_succ, i64_w, i32_w]
        rfl
      refine pure_ (i := 2) (N := some 53) (v := ?_) (a' := ?_) #[true, true, true, false, false, false, false, false, false, false] rfl rfl (any_of HT_.out (by kernel_rfl)) (fun _ _ _ h => h) (Or.inl ⟨by rfl, ?_⟩) ?_ ?_
      rotate_left
      · intro w'
        go_simp
        with_reducible rfl
      rotate_left
      · simp only [Act.put, List.setIfInBounds_toArray, List.set_cons_zero, List.set_cons_succ, i64_w, i32_w]
        rfl
      refine take_ (i := 3) (N := some 54) (v := ?_) (a' := ?_) #[true, true, true, true, false, false, false, false, false, false] rfl rfl (take_ofW HT_.out HW_.out (by kernel_rfl)) (fun _ _ _ h => h) (Or.inl ⟨by rfl, ?_⟩) hHeld ?_ ?_
      rotate_left
      · rintro w' ⟨s0, s1, s2⟩
        go_simp
        with_reducible rfl
      rotate_left
      · simp only [Act.put, List.setIfInBounds_toArray, List.set_cons_zero, List.set_cons_succ, i64_w, i32_w]
        rfl
      refine pure_ (i := 5) (N := some 56) (v := ?_) (a' := ?_) #[true, true, true, true, false, true, false, false, false, false] rfl rfl (any_of HT_.out (by kernel_rfl)) (fun _ _ _ h => h) (Or.inl ⟨by rfl, ?_⟩) ?_ ?_
      rotate_left
      · intro w'
        go_simp
        with_reducible rfl
      rotate_left
      · simp only [Act.put, List.setIfInBounds_toArray, List.set_cons_zero, List.set_cons_succ, i64_w, i32_w]
        rfl
      refine take_ (i := 6) (N := some 57) (v := ?_) (a' := ?_) #[true, true, true, true, false, true, true, false, false, false] rfl rfl (take_ofW HT_.out HW_.out (by kernel_rfl)) (fun _ _ _ h => h) (Or.inl ⟨by rfl, ?_⟩) hHeld ?_ ?_
      rotate_left
      · rintro w' ⟨s0, s1, s2⟩
        go_simp
        with_reducible rfl
      rotate_left
      · simp only [Act.put, List.setIfInBounds_toArray, List.set_cons_zero, List.set_cons_succ, i64_w, i32_w]
        rfl
      refine one_ (i := 4) (N := some 55) #[true, true, true, true, true, true, true, false, false, false] rfl rfl (one_of HT_.out (by kernel_rfl)) (by decide) (fun K hK => ?_)
      refine goes_ Try.func136 (by kernel_rfl) rfl #[.slice A1 l1.length c1] (by rfl) rfl rfl (by simp only [List.map_toArray, List.map_cons, List.map_nil]; rfl) ?_
      refine (cloneN_calls A1 c1 l1 _ (Kd.C_drew CD.out) hcd HL.out).mono ?_
      rintro e w5 ⟨v5, rfl, hR5, hB5⟩
      obtain ⟨A5, c5, rfl, hc5, hC5⟩ := Kd.R_reads hR5
      refine ⟨_, rfl, ?_⟩
      have B5 := Aside0.mk (below_then BD.out BD.out.size hB5)
      have K5 := Aside0.mk (And.intro (blk_below KD.out.1 hB5) (blk_below KD.out.2 hB5))
      have R5 := Aside0.mk (Kd.R_lower hR5 BD.out.size)
      have q0 := (blk_cell K5.out.2 0).trans rfl
      have q1 := (blk_cell K5.out.2 1).trans rfl
      have q2 := (blk_cell K5.out.2 2).trans rfl
      have fq0 := blk_frozen K5.out.2 0
      have fq1 := blk_frozen K5.out.2 1
      have fq2 := blk_frozen K5.out.2 2
      clear hR5 hB5 hC5
      refine hK.out _ _ ⟨(blk_cell K5.out.1 0).trans rfl, (blk_cell K5.out.1 1).trans rfl, (blk_cell K5.out.1 2).trans rfl⟩ (fun hHeld => ?_)
      clear hK K
      refine norm_ (a' := ?_) ?_ ?_
      rotate_left
      · show Act.put _ (some 55) _ = _
        (try simp only [Act.put, List.setIfInBounds_toArray, List.set_cons_zero, List.set_cons_succ, i64_w, i32_w])
        rfl
      refine pure_ (i := 7) (N := some 58) (v := ?_) (a' := ?_) #[true, true, true, true, true, true, true, true, false, false] rfl rfl (any_of HT_.out (by kernel_rfl)) (fun _ _ _ h => h) (Or.inl ⟨by rfl, ?_⟩) ?_ ?_
      rotate_left
      · intro w'
        go_simp
        with_reducible rfl
      rotate_left
      · simp only [Act.put, List.setIfInBounds_toArray, List.set_cons_zero, List.set_cons_succ, i64_w, i32_w]
        rfl
      refine last_ (i := 8) (N := none) #[true, true, true, true, true, true, true, true, true, false] rfl rfl (one_of HT_.out (by kernel_rfl)) (by decide) (fun K hK => ?_)
      refine skip_ (w1 := ?_) (by rfl) rfl ?_ ?_
      rotate_left
      · go_simp
        rfl
      refine hK.out _ _ ?_
      clear hK K
      refine norm_ (a' := ?_) ?_ ?_
      rotate_left
      · rfl
      refine pure_ (i := 9) (N := some 7) (v := ?_) (a' := ?_) #[true, true, true, true, true, true, true, true, true, true] rfl rfl (any_of HT_.out (by kernel_rfl)) (fun _ _ _ h => h) (Or.inl ⟨by rfl, ?_⟩) ?_ ?_
      rotate_left
      · intro w'
        go_simp
        with_reducible rfl
      rotate_left
      · simp only [Act.put, List.setIfInBounds_toArray, List.set_cons_zero, List.set_cons_succ, i64_w, i32_w]
        rfl
      refine done_ (done_of HT_.out (by kernel_rfl)) ?_
      go_wp2
      have N0 := Kd.R_types R5.out K5.out.2 (by decide)
      have N1 := Kd.R_far (p := ⟨w.heap.size + 1, 0, none⟩) N0 (fun _ hk => hk.2) (.int .i64 v1)
      have N2 := Kd.R_far (p := ⟨w.heap.size + 1, 1, none⟩) N1 (fun _ hk => hk.2) (.slice A5 l1.length c5)
      have N3 := Kd.R_far (p := ⟨w.heap.size + 1, 2, none⟩) N2 (fun _ hk => hk.2) (.int .i64 r1)
      refine bodyPost_ret (results_ct rfl _ _ (w.heap.size + 1) 28 #[.int .i64 v1, .slice A5 l1.length c5, .int .i64 r1] (0, 0) _ rfl ?_ hu rfl (by kernel_rfl)) rfl ?_
      · exact blk_put (cs := #[.int .i64 v1, .slice A5 l1.length c5, .int .i64 0]) (blk_put (cs := #[.int .i64 v1, .slice none 0 0, .int .i64 0]) (blk_put (cs := #[.int .i64 0, .slice none 0 0, .int .i64 0]) K5.out.2 0 _ rfl) 1 _ rfl) 2 _ rfl
      · exact ⟨_, by rfl, Kd.R_mono N3 (fun _ _ => trivial), below_set (below_set (below_set B5.out (Nat.le_add_right _ 1)) (Nat.le_add_right _ 1)) (Nat.le_add_right _ 1)⟩
end
end Go.Proofs.Ytlplphgoldkoeaa.HTab
end

section
set_option linter.unusedVariables false
set_option linter.unusedSimpArgs false
namespace Go.Proofs.Ytlplphgoldkoeaa.HTab
open Go.RowKit Go.Proofs.YtlplphgoldkoeaaW.PrintWords Go.Proofs.YtlplphgoldkoeaaW.PrintLast Go.Proofs.YtlplphgoldkoeaaW.PrintMore Go.Proofs.Ytlplphgoldkoeaa.HMap Go.Proofs.Ytlplphgoldkoeaa.X
open Go.ChangeMaps (setBlock)
set_option linter.unusedVariables false
set_option linter.unusedSimpArgs false
set_option maxRecDepth 100000 in
set_option maxHeartbeats 4000000 in
theorem fold_err (fid : FuncId) (v r : Int) (A : Option Addr) (c : Nat) (l : List S107) (As : Option Addr) (cs : Nat) (s : List Int) (w : World) (hC : Kd.C k107 w A l.length l) (hc : l.length ≤ c) (hS : Kd.C (Kd.int .i64) w As s.length s) (hcs : s.length ≤ cs) (hl : s.length < 140737488355000)
    (q : Bool) (hq : mask_Valid.f v l r = some q) (hs : q = true → setM v s [] = false) :
    Calls Try.prog 125 #[.agg #[.int .i64 v, .slice A l.length c, .int .i64 r], .slice As s.length cs, .func (.func fid) #[] #[]] w fun e w' => e = .returned (.tuple #[.agg #[.int .i64 0, .slice none 0 0, .int .i64 0], .int .i64 2]) ∧ Below w.heap.size w w' := by
  have hu := Try.underlying28
  have HC := Aside0.mk hC
  have HS := Aside0.mk hS
  have HQ := Aside0.mk hq
  have HE := Aside0.mk hs
  obtain ⟨W2, hW2⟩ : ∃ W, W = (w.alloc (.cells #[.int .i64 v, .slice A l.length c, .int .i64 r] 28)).alloc (.cells #[.int .i64 0, .slice none 0 0, .int .i64 0] 28) := ⟨_, rfl⟩
  have hB2 : Below w.heap.size w W2 := by rw [hW2]; exact below_alloc (below_alloc (Below.refl _ _) _) _
  have hk1 : W2.heap[w.heap.size]? = some (.cells #[.int .i64 v, .slice A l.length c, .int .i64 r] 28 (0, 0)) := by rw [hW2]; exact blk_alloc (blk_new _ _) _
  have hk2 : W2.heap[w.heap.size + 1]? = some (.cells #[.int .i64 0, .slice none 0 0, .int .i64 0] 28 (0, 0)) := by
    rw [hW2]
    simpa using blk_new (w.alloc (.cells #[.int .i64 v, .slice A l.length c, .int .i64 r] 28)) (.cells #[.int .i64 0, .slice none 0 0, .int .i64 0] 28)
  have B2 := Aside0.mk hB2
  have K2 := Aside0.mk (And.intro hk1 hk2)
  clear hC hS hq hs hB2 hk1 hk2
  cases q
  · go_enter Try.func125, Try.ntmps125
    go_wp2_with fail
    rw [← hW2]
    clear hW2
    refine (mask_Valid.calls v A c l r false W2 (Kd.C_below HC.out B2.out) hc HQ.out).mono ?_
    rintro e w3 ⟨rfl, hB3⟩
    have B3 := Aside0.mk (below_then B2.out B2.out.size hB3)
    have K3 := Aside0.mk (And.intro (blk_below K2.out.1 hB3) (blk_below K2.out.2 hB3))
    clear hB3
    have c0 := (blk_cell K3.out.2 0).trans rfl
    have c1 := (blk_cell K3.out.2 1).trans rfl
    have c2 := (blk_cell K3.out.2 2).trans rfl
    have f0 := blk_frozen K3.out.2 0
    have f1 := blk_frozen K3.out.2 1
    have f2 := blk_frozen K3.out.2 2
    go_wp2
    refine bodyPost_ret (results_ct rfl _ _ (w.heap.size + 1) 28 #[.int .i64 0, .slice none 0 0, .int .i64 0] (0, 0) _ rfl (blk_put (cs := #[.int .i64 0, .slice none 0 0, .int .i64 0]) (blk_put (cs := #[.int .i64 0, .slice none 0 0, .int .i64 0]) (blk_put (cs := #[.int .i64 0, .slice none 0 0, .int .i64 0]) K3.out.2 0 _ rfl) 1 _ rfl) 2 _ rfl) hu rfl (by kernel_rfl)) rfl ?_
    exact ⟨by rfl, below_set (below_set (below_set B3.out (Nat.le_add_right _ 1)) (Nat.le_add_right _ 1)) (Nat.le_add_right _ 1)⟩
  · go_enter Try.func125, Try.ntmps125
    go_wp2_with fail
    rw [← hW2]
    clear hW2
    refine (mask_Valid.calls v A c l r true W2 (Kd.C_below HC.out B2.out) hc HQ.out).mono ?_
    rintro e w3 ⟨rfl, hB3⟩
    have B3 := Aside0.mk (below_then B2.out B2.out.size hB3)
    have K3 := Aside0.mk (And.intro (blk_below K2.out.1 hB3) (blk_below K2.out.2 hB3))
    clear hB3
    have y0 := (blk_cell K3.out.1 0).trans rfl
    go_wp2_with fail
    refine (set_calls v As cs s w3 (Kd.C_below HS.out B3.out) hcs hl false (HE.out (by first | rfl | trivial))).mono ?_
    rintro e w4 ⟨rfl, hB4⟩
    have B4 := Aside0.mk (below_then B3.out B3.out.size hB4)
    have K4 := Aside0.mk (blk_below K3.out.2 hB4)
    clear hB4 y0
    have c0 := (blk_cell K4.out 0).trans rfl
    have c1 := (blk_cell K4.out 1).trans rfl
    have c2 := (blk_cell K4.out 2).trans rfl
    have f0 := blk_frozen K4.out 0
    have f1 := blk_frozen K4.out 1
    have f2 := blk_frozen K4.out 2
    go_wp2
    refine bodyPost_ret (results_ct rfl _ _ (w.heap.size + 1) 28 #[.int .i64 0, .slice none 0 0, .int .i64 0] (0, 0) _ rfl (blk_put (cs := #[.int .i64 0, .slice none 0 0, .int .i64 0]) (blk_put (cs := #[.int .i64 0, .slice none 0 0, .int .i64 0]) (blk_put (cs := #[.int .i64 0, .slice none 0 0, .int .i64 0]) K4.out 0 _ rfl) 1 _ rfl) 2 _ rfl) hu rfl (by kernel_rfl)) rfl ?_
    exact ⟨by rfl, below_set (below_set (below_set B4.out (Nat.le_add_right _ 1)) (Nat.le_add_right _ 1)) (Nat.le_add_right _ 1)⟩
def foldG (opf : OpF) (v : Int) (l : List S107) (r : Int) (s : List Int) : Option (Int × List S107 × Int × Int) :=
  if l.length ≤ 1000000000 ∧ s.length < 140737488355000 then
    if vmB v l r = true ∧ setM v s [] = true then (foldF opf s v l r).bind fun q => if q.2.1.length ≤ 1000000000 then some (q.1, q.2.1, q.2.2, 0) else none
    else some (0, [], 0, 2)
  else none
theorem fold_any {fid : FuncId} {fn : Func} (hfn : Try.prog.funcs[fid]? = some fn) (hname : (fn.name == "runtime.NumGoroutine") = false) (hbody : fn.body.isSome = true) (opf : OpF) (hop : OpC fid opf) (v r : Int) (A : Option Addr) (c : Nat) (l : List S107) (As : Option Addr) (cs : Nat) (s : List Int) (w : World)
    (hC : Kd.C k107 w A l.length l) (hc : l.length ≤ c) (hS : Kd.C (Kd.int .i64) w As s.length s) (hcs : s.length ≤ cs) (r1 : Int) (r2 : List S107) (r3 r4 : Int) (h : foldG opf v l r s = some (r1, r2, r3, r4)) :
    Calls Try.prog 125 #[.agg #[.int .i64 v, .slice A l.length c, .int .i64 r], .slice As s.length cs, .func (.func fid) #[] #[]] w fun e w' => ∃ u : Value, e = .returned (.tuple #[.agg #[.int .i64 r1, u, .int .i64 r3], .int .i64 r4]) ∧ Kd.R k107 107 w' w.heap.size (fun _ => True) u r2 ∧ Below w.heap.size w w' := by
  unfold foldG at h
  split at h
  case isFalse => cases h
  rename_i hl
  have hq : mask_Valid.f v l r = some (vmB v l r) := by unfold mask_Valid.f; rw [if_pos hl.1]
  split at h
  · rename_i hb
    obtain ⟨⟨q1, q2, q3⟩, hf, h⟩ := Option.bind_eq_some_iff.1 h
    dsimp only at h
    split at h
    case isFalse => cases h
    rename_i hl2
    simp only [Option.some.injEq, Prod.mk.injEq] at h
    obtain ⟨rfl, rfl, rfl, rfl⟩ := h
    rw [hb.1] at hq
    exact fold_ok hfn hname hbody opf hop v r A c l As cs s w hC hc hS hcs hl.2 hq hb.2 q1 q2 q3 hf hl2
  · rename_i hb
    simp only [Option.some.injEq, Prod.mk.injEq] at h
    obtain ⟨rfl, rfl, rfl, rfl⟩ := h
    refine (fold_err fid v r A c l As cs s w hC hc hS hcs hl.2 (vmB v l r) hq (fun hv => ?_)).mono ?_
    · cases hm : setM v s []
      · rfl
      · exact absurd ⟨hv, hm⟩ hb
    rintro e w' ⟨rfl, hb⟩
    exact ⟨_, rfl, Kd.R_nil _ _ _ _ _, hb⟩
theorem op_or : OpC 47 mask_Or.f := fun W v1 A1 c1 l1 r1 v2 A2 c2 l2 r2 q1 q2 q3 q4 h1 h2 h3 h4 h => mask_Or.calls v1 A1 c1 l1 r1 v2 A2 c2 l2 r2 q1 q2 q3 q4 W h1 h2 h3 h4 h
theorem op_and : OpC 45 mask_And.f := fun W v1 A1 c1 l1 r1 v2 A2 c2 l2 r2 q1 q2 q3 q4 h1 h2 h3 h4 h => mask_And.calls v1 A1 c1 l1 r1 v2 A2 c2 l2 r2 q1 q2 q3 q4 W h1 h2 h3 h4 h
set_option maxRecDepth 100000 in
set_option maxHeartbeats 4000000 in
theorem exists_calls (v r : Int) (A : Option Addr) (c : Nat) (l : List S107) (As : Option Addr) (cs : Nat) (s : List Int) (w : World) (hC : Kd.C k107 w A l.length l) (hc : l.length ≤ c) (hS : Kd.C (Kd.int .i64) w As s.length s) (hcs : s.length ≤ cs) (r1 : Int) (r2 : List S107) (r3 r4 : Int) (h : foldG mask_Or.f v l r s = some (r1, r2, r3, r4)) :
    Calls Try.prog 74 #[.agg #[.int .i64 v, .slice A l.length c, .int .i64 r], .slice As s.length cs] w fun e w' => ∃ u : Value, e = .returned (.tuple #[.agg #[.int .i64 r1, u, .int .i64 r3], .int .i64 r4]) ∧ Kd.R k107 107 w' w.heap.size (fun _ => True) u r2 ∧ Below w.heap.size w w' := by
  have hu := Try.underlying28
  have HC := Aside0.mk hC
  have HS := Aside0.mk hS
  have HH := Aside0.mk h
  obtain ⟨W2, hW2⟩ : ∃ W, W = (w.alloc (.cells #[.int .i64 v, .slice A l.length c, .int .i64 r] 28)).alloc (.cells #[.int .i64 0, .slice none 0 0, .int .i64 0] 28) := ⟨_, rfl⟩
  have B2 := Aside0.mk (show Below w.heap.size w W2 from by rw [hW2]; exact below_alloc (below_alloc (Below.refl _ _) _) _)
  have hk2 : W2.heap[w.heap.size + 1]? = some (.cells #[.int .i64 0, .slice none 0 0, .int .i64 0] 28 (0, 0)) := by
    rw [hW2]
    simpa using blk_new (w.alloc (.cells #[.int .i64 v, .slice A l.length c, .int .i64 r] 28)) (.cells #[.int .i64 0, .slice none 0 0, .int .i64 0] 28)
  have K2 := Aside0.mk hk2
  clear hC hS h hk2
  go_enter Try.func74, Try.ntmps74
  go_wp2_with fail
  rw [← hW2]
  clear hW2
  refine (fold_any Try.func47 (by kernel_rfl) rfl mask_Or.f op_or v r A c l As cs s W2 (Kd.C_below HC.out B2.out) hc (Kd.C_below HS.out B2.out) hcs r1 r2 r3 r4 HH.out).mono ?_
  rintro e w5 ⟨v5, rfl, hR5, hB5⟩
  obtain ⟨A5, c5, rfl, hc5, hC5⟩ := Kd.R_reads hR5
  have B5 := Aside0.mk (below_then B2.out B2.out.size hB5)
  have K5 := Aside0.mk (blk_below K2.out hB5)
  have R5 := Aside0.mk (Kd.R_lower hR5 B2.out.size)
  have c0_ := (blk_cell K5.out 0).trans rfl
  have c1_ := (blk_cell K5.out 1).trans rfl
  have c2_ := (blk_cell K5.out 2).trans rfl
  have f0 := blk_frozen K5.out 0
  have f1 := blk_frozen K5.out 1
  have f2 := blk_frozen K5.out 2
  clear hR5 hB5 hC5
  go_wp2
  have N0 := Kd.R_types R5.out K5.out (by decide)
  have N1 := Kd.R_far (p := ⟨w.heap.size + 1, 0, none⟩) N0 (fun _ hk => hk.2) (.int .i64 r1)
  have N2 := Kd.R_far (p := ⟨w.heap.size + 1, 1, none⟩) N1 (fun _ hk => hk.2) (.slice A5 r2.length c5)
  have N3 := Kd.R_far (p := ⟨w.heap.size + 1, 2, none⟩) N2 (fun _ hk => hk.2) (.int .i64 r3)
  refine bodyPost_ret (results_ct rfl _ _ (w.heap.size + 1) 28 #[.int .i64 r1, .slice A5 r2.length c5, .int .i64 r3] (0, 0) _ rfl ?_ hu rfl (by kernel_rfl)) rfl ?_
  · exact blk_put (cs := #[.int .i64 r1, .slice A5 r2.length c5, .int .i64 0]) (blk_put (cs := #[.int .i64 r1, .slice none 0 0, .int .i64 0]) (blk_put (cs := #[.int .i64 0, .slice none 0 0, .int .i64 0]) K5.out 0 _ rfl) 1 _ rfl) 2 _ rfl
  · exact ⟨_, by rfl, Kd.R_mono N3 (fun _ _ => trivial), below_set (below_set (below_set B5.out (Nat.le_add_right _ 1)) (Nat.le_add_right _ 1)) (Nat.le_add_right _ 1)⟩
set_option maxRecDepth 100000 in
set_option maxHeartbeats 4000000 in
theorem forall_calls (v r : Int) (A : Option Addr) (c : Nat) (l : List S107) (As : Option Addr) (cs : Nat) (s : List Int) (w : World) (hC : Kd.C k107 w A l.length l) (hc : l.length ≤ c) (hS : Kd.C (Kd.int .i64) w As s.length s) (hcs : s.length ≤ cs) (r1 : Int) (r2 : List S107) (r3 r4 : Int) (h : foldG mask_And.f v l r s = some (r1, r2, r3, r4)) :
    Calls Try.prog 75 #[.agg #[.int .i64 v, .slice A l.length c, .int .i64 r], .slice As s.length cs] w fun e w' => ∃ u : Value, e = .returned (.tuple #[.agg #[.int .i64 r1, u, .int .i64 r3], .int .i64 r4]) ∧ Kd.R k107 107 w' w.heap.size (fun _ => True) u r2 ∧ Below w.heap.size w w' := by
  have hu := Try.underlying28
  have HC := Aside0.mk hC
  have HS := Aside0.mk hS
  have HH := Aside0.mk h
  obtain ⟨W2, hW2⟩ : ∃ W, W = (w.alloc (.cells #[.int .i64 v, .slice A l.length c, .int .i64 r] 28)).alloc (.cells #[.int .i64 0, .slice none 0 0, .int .i64 0] 28) := ⟨_, rfl⟩
  have B2 := Aside0.mk (show Below w.heap.size w W2 from by rw [hW2]; exact below_alloc (below_alloc (Below.refl _ _) _) _)
  have hk2 : W2.heap[w.heap.size + 1]? = some (.cells #[.int .i64 0, .slice none 0 0, .int .i64 0] 28 (0, 0)) := by
    rw [hW2]
    simpa using blk_new (w.alloc (.cells #[.int .i64 v, .slice A l.length c, .int .i64 r] 28)) (.cells #[.int .i64 0, .slice none 0 0, .int .i64 0] 28)
  have K2 := Aside0.mk hk2
  clear hC hS h hk2
  go_enter Try.func75, Try.ntmps75
  go_wp2_with fail
  rw [← hW2]
  clear hW2
  refine (fold_any Try.func45 (by kernel_rfl) rfl mask_And.f op_and v r A c l As cs s W2 (Kd.C_below HC.out B2.out) hc (Kd.C_below HS.out B2.out) hcs r1 r2 r3 r4 HH.out).mono ?_
  rintro e w5 ⟨v5, rfl, hR5, hB5⟩
  obtain ⟨A5, c5, rfl, hc5, hC5⟩ := Kd.R_reads hR5
  have B5 := Aside0.mk (below_then B2.out B2.out.size hB5)
  have K5 := Aside0.mk (blk_below K2.out hB5)
  have R5 := Aside0.mk (Kd.R_lower hR5 B2.out.size)
  have c0_ := (blk_cell K5.out 0).trans rfl
  have c1_ := (blk_cell K5.out 1).trans rfl
  have c2_ := (blk_cell K5.out 2).trans rfl
  have f0 := blk_frozen K5.out 0
  have f1 := blk_frozen K5.out 1
  have f2 := blk_frozen K5.out 2
  clear hR5 hB5 hC5
  go_wp2
  have N0 := Kd.R_types R5.out K5.out (by decide)
  have N1 := Kd.R_far (p := ⟨w.heap.size + 1, 0, none⟩) N0 (fun _ hk => hk.2) (.int .i64 r1)
  have N2 := Kd.R_far (p := ⟨w.heap.size + 1, 1, none⟩) N1 (fun _ hk => hk.2) (.slice A5 r2.length c5)
  have N3 := Kd.R_far (p := ⟨w.heap.size + 1, 2, none⟩) N2 (fun _ hk => hk.2) (.int .i64 r3)
  refine bodyPost_ret (results_ct rfl _ _ (w.heap.size + 1) 28 #[.int .i64 r1, .slice A5 r2.length c5, .int .i64 r3] (0, 0) _ rfl ?_ hu rfl (by kernel_rfl)) rfl ?_
  · exact blk_put (cs := #[.int .i64 r1, .slice A5 r2.length c5, .int .i64 0]) (blk_put (cs := #[.int .i64 r1, .slice none 0 0, .int .i64 0]) (blk_put (cs := #[.int .i64 0, .slice none 0 0, .int .i64 0]) K5.out 0 _ rfl) 1 _ rfl) 2 _ rfl
  · exact ⟨_, by rfl, Kd.R_mono N3 (fun _ _ => trivial), below_set (below_set (below_set B5.out (Nat.le_add_right _ 1)) (Nat.le_add_right _ 1)) (Nat.le_add_right _ 1)⟩
end Go.Proofs.Ytlplphgoldkoeaa.HTab
namespace Go.Proofs.Ytlplphgoldkoeaa.X
open Go.RowKit Go.Proofs.YtlplphgoldkoeaaW.PrintWords Go.Proofs.YtlplphgoldkoeaaW.PrintLast Go.Proofs.YtlplphgoldkoeaaW.PrintMore Go.Proofs.Ytlplphgoldkoeaa.HTab
set_option linter.unusedVariables false
def mask_Exists.f (a0_0 : Int) (l0_1 : List (S107)) (a0_2 : Int) (l1 : List Int) := foldG mask_Or.f a0_0 l0_1 a0_2 l1
theorem mask_Exists.calls (a0_0 : Int) (A0_1 : Option Addr) (c0_1 : Nat) (l0_1 : List (S107)) (a0_2 : Int) (A1 : Option Addr) (c1 : Nat) (l1 : List Int) (r1 : Int) (r2 : List (S107)) (r3 : Int) (r4 : Int) (w : World) (hr0_1 : Kd.C k107 w A0_1 l0_1.length l0_1) (hc0_1 : l0_1.length ≤ c0_1) (hr1 : Kd.C (Kd.int .i64) w A1 l1.length l1) (hc1 : l1.length ≤ c1) (h : mask_Exists.f a0_0 l0_1 a0_2 l1 = some (r1, r2, r3, r4)) :
    Calls Try.prog 74 #[.agg #[.int .i64 a0_0, .slice A0_1 l0_1.length c0_1, .int .i64 a0_2], .slice A1 l1.length c1] w fun e w' => ∃ v1_ : Value, e = .returned (.tuple #[.agg #[.int .i64 r1, v1_, .int .i64 r3], .int .i64 r4]) ∧ Kd.R k107 107 w' w.heap.size (fun _ => True) v1_ r2 ∧ Below w.heap.size w w' :=
  exists_calls a0_0 a0_2 A0_1 c0_1 l0_1 A1 c1 l1 w hr0_1 hc0_1 hr1 hc1 r1 r2 r3 r4 h
def mask_Forall.f (a0_0 : Int) (l0_1 : List (S107)) (a0_2 : Int) (l1 : List Int) := foldG mask_And.f a0_0 l0_1 a0_2 l1
theorem mask_Forall.calls (a0_0 : Int) (A0_1 : Option Addr) (c0_1 : Nat) (l0_1 : List (S107)) (a0_2 : Int) (A1 : Option Addr) (c1 : Nat) (l1 : List Int) (r1 : Int) (r2 : List (S107)) (r3 : Int) (r4 : Int) (w : World) (hr0_1 : Kd.C k107 w A0_1 l0_1.length l0_1) (hc0_1 : l0_1.length ≤ c0_1) (hr1 : Kd.C (Kd.int .i64) w A1 l1.length l1) (hc1 : l1.length ≤ c1) (h : mask_Forall.f a0_0 l0_1 a0_2 l1 = some (r1, r2, r3, r4)) :
    Calls Try.prog 75 #[.agg #[.int .i64 a0_0, .slice A0_1 l0_1.length c0_1, .int .i64 a0_2], .slice A1 l1.length c1] w fun e w' => ∃ v1_ : Value, e = .returned (.tuple #[.agg #[.int .i64 r1, v1_, .int .i64 r3], .int .i64 r4]) ∧ Kd.R k107 107 w' w.heap.size (fun _ => True) v1_ r2 ∧ Below w.heap.size w w' :=
  forall_calls a0_0 a0_2 A0_1 c0_1 l0_1 A1 c1 l1 w hr0_1 hc0_1 hr1 hc1 r1 r2 r3 r4 h
end Go.Proofs.Ytlplphgoldkoeaa.X
end

section
set_option linter.unusedVariables false
set_option linter.unusedSimpArgs false
namespace Go.Proofs.Ytlplphgoldkoeaa.HTab
open Go.RowKit Go.Proofs.YtlplphgoldkoeaaW.PrintWords Go.Proofs.YtlplphgoldkoeaaW.PrintLast Go.Proofs.YtlplphgoldkoeaaW.PrintMore Go.Proofs.Ytlplphgoldkoeaa.X
set_option linter.unusedVariables false
set_option linter.unusedSimpArgs false
set_option maxRecDepth 100000 in
set_option maxHeartbeats 4000000 in
theorem mconst_err (n : Int) (b : Bool) (w : World) (h : n < 0 ∨ 12 < n) :
    Calls Try.prog 25 #[.int .i64 n, .bool b] w fun e w' => e = .returned (.tuple #[.agg #[.int .i64 0, .slice none 0 0, .int .i64 0], .int .i64 2]) ∧ Below w.heap.size w w' := by
  have hu := Try.underlying28
  by_cases h0 : n < 0
  · have d0 : decide (n < 0) = true := decide_eq_true h0
    clear h h0
    go_enter Try.func25, Try.ntmps25
    go_wp2
    refine bodyPost_ret (results_ct rfl _ _ w.heap.size 28 #[.int .i64 0, .slice none 0 0, .int .i64 0] (0, 0) _ rfl (blk_new _ _) hu rfl (by kernel_rfl)) rfl ?_
    exact ⟨by rfl, below_alloc (Below.refl _ _) _⟩
  · have d0 : decide (n < 0) = false := decide_eq_false h0
    have d1 : decide (12 < n) = true := decide_eq_true (by omega)
    clear h h0
    go_enter Try.func25, Try.ntmps25
    go_wp2
    refine bodyPost_ret (results_ct rfl _ _ w.heap.size 28 #[.int .i64 0, .slice none 0 0, .int .i64 0] (0, 0) _ rfl (blk_new _ _) hu rfl (by kernel_rfl)) rfl ?_
    exact ⟨by rfl, below_alloc (Below.refl _ _) _⟩
set_option maxRecDepth 100000 in
set_option maxHeartbeats 4000000 in
theorem mconst_ok (n : Int) (b : Bool) (w : World) (h0 : 0 ≤ n) (h1 : n ≤ 12) :
    Calls Try.prog 25 #[.int .i64 n, .bool b] w fun e w' => e = .returned (.tuple #[.agg #[.int .i64 n, .slice none 0 0, .int .i64 (if b then 1 else 0)], .int .i64 0]) ∧ Below w.heap.size w w' := by
  have hu := Try.underlying28
  have d0 : decide (n < 0) = false := decide_eq_false (by omega)
  have d1 : decide (12 < n) = false := decide_eq_false (by omega)
  clear h0 h1
  cases b
  · go_enter Try.func25, Try.ntmps25
    go_wp2
    refine bodyPost_ret (results_ct rfl _ _ w.heap.size 28 #[.int .i64 n, .slice none 0 0, .int .i64 0] (0, 0) _ rfl (blk_alloc (blk_new _ _) _) hu rfl (by kernel_rfl)) rfl ?_
    exact ⟨by rfl, below_alloc (below_alloc (Below.refl _ _) _) _⟩
  · go_enter Try.func25, Try.ntmps25
    go_wp2
    refine bodyPost_ret (results_ct rfl _ _ w.heap.size 28 #[.int .i64 n, .slice none 0 0, .int .i64 1] (0, 0) _ rfl (blk_alloc (blk_new _ _) _) hu rfl (by kernel_rfl)) rfl ?_
    exact ⟨by rfl, below_alloc (below_alloc (Below.refl _ _) _) _⟩
end Go.Proofs.Ytlplphgoldkoeaa.HTab
namespace Go.Proofs.Ytlplphgoldkoeaa.X
open Go.RowKit Go.Proofs.YtlplphgoldkoeaaW.PrintWords Go.Proofs.YtlplphgoldkoeaaW.PrintLast Go.Proofs.YtlplphgoldkoeaaW.PrintMore Go.Proofs.Ytlplphgoldkoeaa.HTab
set_option linter.unusedVariables false
def mask_Const.f (a0 : Int) (a1 : Bool) : Option (Int × (List (S107)) × Int × Int) := if a0 < 0 ∨ 12 < a0 then some (0, [], 0, 2) else some (a0, [], if a1 then 1 else 0, 0)
theorem mask_Const.calls (a0 : Int) (a1 : Bool) (r1 : Int) (r2 : List (S107)) (r3 : Int) (r4 : Int) (w : World) (h : mask_Const.f a0 a1 = some (r1, r2, r3, r4)) :
    Calls Try.prog 25 #[.int .i64 a0, .bool a1] w fun e w' => ∃ v1_ : Value, e = .returned (.tuple #[.agg #[.int .i64 r1, v1_, .int .i64 r3], .int .i64 r4]) ∧ Kd.R k107 107 w' w.heap.size (fun _ => True) v1_ r2 ∧ Below w.heap.size w w' := by
  unfold mask_Const.f at h
  split at h
  · rename_i hc
    simp only [Option.some.injEq, Prod.mk.injEq] at h
    obtain ⟨rfl, rfl, rfl, rfl⟩ := h
    refine (mconst_err a0 a1 w hc).mono ?_
    rintro e w' ⟨rfl, hb⟩
    exact ⟨_, rfl, Kd.R_nil _ _ _ _ _, hb⟩
  · rename_i hc
    simp only [Option.some.injEq, Prod.mk.injEq] at h
    obtain ⟨rfl, rfl, rfl, rfl⟩ := h
    refine (mconst_ok a0 a1 w (by omega) (by omega)).mono ?_
    rintro e w' ⟨rfl, hb⟩
    exact ⟨_, rfl, Kd.R_nil _ _ _ _ _, hb⟩
end Go.Proofs.Ytlplphgoldkoeaa.X
end
