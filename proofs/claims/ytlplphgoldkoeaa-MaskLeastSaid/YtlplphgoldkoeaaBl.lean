/- Lemmas of the masks: part Bl. -/
import Derived.Test.YtlplphgoldkoeaaBk
import Derived.Test.YtlplphgoldkoeaaBi
import Derived.Deep.LoopGhost
import Derived.Lib.Hide
import Derived.Deep.DeepMust
section
set_option linter.unusedVariables false
set_option linter.unusedSimpArgs false
namespace Go.Proofs.Ytlplphgoldkoeaa.HTab
open Go.RowKit Go.Proofs.YtlplphgoldkoeaaW.PrintWords Go.Proofs.YtlplphgoldkoeaaW.PrintLast Go.Proofs.YtlplphgoldkoeaaW.PrintMore Go.Proofs.Ytlplphgoldkoeaa.HMap Go.Proofs.Ytlplphgoldkoeaa.X
set_option linter.unusedVariables false
set_option linter.unusedSimpArgs false
def tb_RValid_15.T : Bool × List (List Nat × List Nat) := (true, [([], []), ([], []), ([1], [1]), ([], []), ([3], [3]), ([2, 4, 4], [2, 4]), ([0, 5, 5], [0, 5]), ([6, 6, 0, 1, 2, 3, 4, 5, 6], [6])])
def tb_RValid_15.B : List Nat := [0, 0, 2, 0, 8, 30, 63, 127]
theorem tb_RValid_15.tab : rtab .any (opsOf Try.f31 15) = tb_RValid_15.T := by kernel_rfl
theorem tb_RValid_15.bits : waitsOk tb_RValid_15.T.2 tb_RValid_15.B = true := by kernel_rfl
theorem same_dec_l0 (l m : List S106) (hm : m.length = l.length) (hl : l.length < 140737488355000) (v r : Int) : ∀ (d i k : Nat), i + d = l.length → d < k →
    cantingref02_Same.l0 k l l.length i v m r = some (decide (l.drop i = m.drop i))
  | 0, i, k, hi, hk => by
    obtain ⟨k, rfl⟩ : ∃ m, k = m + 1 := ⟨k - 1, by omega⟩
    simp only [cantingref02_Same.l0]
    rw [if_neg (by omega), List.drop_eq_nil_of_le (by omega), List.drop_eq_nil_of_le (by omega)]
    rfl
  | d + 1, i, k, hi, hk => by
    obtain ⟨k, rfl⟩ : ∃ m, k = m + 1 := ⟨k - 1, by omega⟩
    have h1 : i < l.length := by omega
    have h2 : i < m.length := by omega
    simp only [cantingref02_Same.l0]
    rw [if_pos (by omega), if_pos (by omega), if_pos (by omega), if_pos (by omega)]
    have e1 : rd_T106 l i = l[i] := by simp [rd_T106, h1]
    have e2 : rd_T106 m i = m[i] := by simp [rd_T106, h2]
    rw [e1, e2, List.drop_eq_getElem_cons h1, List.drop_eq_getElem_cons h2]
    by_cases he : l[i] = m[i]
    · rw [he, if_neg (by simp), wrap_add1 (by omega) (by omega)]
      have := same_dec_l0 l m hm hl v r d (i + 1) k (by omega) (by omega)
      rw [show ((i + 1 : Nat) : Int) = (i : Int) + 1 by omega] at this
      rw [this]
      congr 1
      rw [decide_eq_decide]
      simp only [List.cons.injEq, true_and]
    · rw [if_pos (by
        cases hx : l[i]; cases hy : m[i]
        rw [hx, hy] at he
        simp only [S106.mk.injEq] at he
        simp only [Bool.or_eq_true, Bool.not_eq_true', beq_eq_false_iff_ne]
        omega)]
      rw [decide_eq_false (fun h => he (List.cons.inj h).1)]
theorem same_dec (l m : List S106) (v r r' : Int) (hl : l.length < 4097) (hm : m.length ≤ 4095) : cantingref02_Same.f 5000 v l r v m r' = some (decide (r = r') && decide (l = m)) := by
  unfold cantingref02_Same.f
  rw [if_pos rfl]
  by_cases hr : r = r'
  · subst hr
    rw [if_pos rfl]
    simp only [cantingref02_Same.j0]
    by_cases he : l.length = m.length
    · rw [if_neg (by simp [he])]
      have := same_dec_l0 l m he.symm (by omega) v r l.length 0 4999 (by omega) (by omega)
      simpa using this
    · rw [if_pos (by simp; omega)]
      rw [decide_eq_false (fun (h : l = m) => he (by rw [h])), Bool.and_false]
  · rw [if_neg hr]
    simp [cantingref02_Same.j0, hr]
def Says (b : Bool) (w : World) (e : Ending) (w' : World) : Prop := e = .returned (.bool b) ∧ Below w.heap.size w w'
set_option maxRecDepth 100000 in
set_option maxHeartbeats 4000000 in
theorem rvalid_head (v r : Int) (A : Option Addr) (c : Nat) (l : List S106) (w : World) (hl : l.length ≤ 9223372036854775807) (h : v < 0 ∨ 12 < v ∨ 4096 ≤ l.length ∨ r < 0 ∨ (l.length : Int) + 1 < r) :
    Calls Try.prog 31 #[.agg #[.int .i64 v, .slice A l.length c, .int .i64 r]] w (Says false w) := by
  by_cases h0 : v < 0
  · have d0 : decide (v < 0) = true := decide_eq_true h0
    clear h
    go_enter Try.func31, Try.ntmps31
    go_wp2
    go_ret
    exact ⟨rfl, below_alloc (Below.refl _ _) _⟩
  have d0 : decide (v < 0) = false := decide_eq_false h0
  by_cases h1 : 12 < v
  · have d1 : decide (12 < v) = true := decide_eq_true h1
    clear h
    go_enter Try.func31, Try.ntmps31
    go_wp2
    go_ret
    exact ⟨rfl, below_alloc (Below.refl _ _) _⟩
  have d1 : decide (12 < v) = false := decide_eq_false h1
  by_cases h2 : 4096 ≤ l.length
  · have d2 : decide (4096 ≤ l.length) = true := decide_eq_true h2
    have d2' : decide ((4096 : Int) ≤ l.length) = true := decide_eq_true (by omega)
    clear h
    go_enter Try.func31, Try.ntmps31
    go_wp2
    go_ret
    exact ⟨rfl, below_alloc (Below.refl _ _) _⟩
  have d2 : decide (4096 ≤ l.length) = false := decide_eq_false h2
  have d2' : decide ((4096 : Int) ≤ l.length) = false := decide_eq_false (by omega)
  by_cases h3 : r < 0
  · have d3 : decide (r < 0) = true := decide_eq_true h3
    clear h
    go_enter Try.func31, Try.ntmps31
    go_wp2
    go_ret
    exact ⟨rfl, below_alloc (Below.refl _ _) _⟩
  have d3 : decide (r < 0) = false := decide_eq_false h3
  have h4 : (l.length : Int) + 1 < r := by omega
  have d4 : decide ((l.length : Int) + 1 < r) = true := decide_eq_true h4
  clear h
  go_enter Try.func31, Try.ntmps31
  go_wp2
  go_ret
  exact ⟨rfl, below_alloc (Below.refl _ _) _⟩
theorem i2_0 (a b : Int) : ∀ w : World, (Instr.index 114 (.agg #[.int .i64 a, .int .i64 b]) (.int .i64 0)).run Try.prog w = .ok (.int .i64 a) w := fun _ => by kernel_rfl
theorem i2_1 (a b : Int) : ∀ w : World, (Instr.index 114 (.agg #[.int .i64 a, .int .i64 b]) (.int .i64 1)).run Try.prog w = .ok (.int .i64 b) w := fun _ => by kernel_rfl
def behJ (x y : Bool) (j : Nat) : Bool := if j = 0 then x && y else if j = 1 then y else true
set_option maxRecDepth 100000 in
set_option maxHeartbeats 4000000 in
theorem rvalid_main (v r : Int) (A : Option Addr) (c : Nat) (l : List S106) (w : World) (hR : Kd.C k106 w A l.length l) (hc : l.length ≤ c) (h0 : 0 ≤ v) (h12 : v ≤ 12) (hlen : l.length < 4096) (hr0 : 0 ≤ r) (hr1 : r ≤ (l.length : Int) + 1)
    (B res : Bool) (hB : allFrom (nodeR v l) l.length 0 = B) (hF : B = false → res = false)
    (hT : B = true → ∃ t r' l', cantingref02_table.f 5000 v l r = some t ∧ t.length ≤ 4096 ∧ cantingref02_Of.f v t = some (v, l', r') ∧ l'.length ≤ 4095 ∧ res = (decide (r = r') && decide (l = l'))) :
    Calls Try.prog 31 #[.agg #[.int .i64 v, .slice A l.length c, .int .i64 r]] w (Says res w) := by
  have d0 : decide (v < 0) = false := decide_eq_false (by omega)
  have d1 : decide (12 < v) = false := decide_eq_false (by omega)
  have d2 : decide (4096 ≤ l.length) = false := decide_eq_false (by omega)
  have d2' : decide ((4096 : Int) ≤ l.length) = false := decide_eq_false (by omega)
  have d3 : decide (r < 0) = false := decide_eq_false (by omega)
  have d4 : decide ((l.length : Int) + 1 < r) = false := decide_eq_false (by omega)
  have HR := Aside0.mk hR
  have HB := Aside0.mk hB
  have HF := Aside0.mk hF
  have HT := Aside0.mk hT
  have hb0 : Aside0 (Below w.heap.size w (w.alloc (.cells #[.int .i64 v, .slice A l.length c, .int .i64 r] 33))) := ⟨below_alloc (Below.refl _ _) _⟩
  have hk0 : Aside0 ((w.alloc (.cells #[.int .i64 v, .slice A l.length c, .int .i64 r] 33)).heap[w.heap.size]? = some (.cells #[.int .i64 v, .slice A l.length c, .int .i64 r] 33 (0, 0))) := ⟨blk_new _ _⟩
  clear hR hB hF hT
  go_enter Try.func31, Try.ntmps31
  go_wp2
  clear d0 d1 d2 d2' d3 d4
  go_loopg [38] (l.length) (fun kq v38 w' => ∃ i : Nat, i + kq = l.length ∧ v38 = .int .i64 i ∧ Aside0 (allFrom (nodeR v l) l.length i = B) ∧ Aside0 (Below w.heap.size w w') ∧ Aside0 (w'.heap[w.heap.size]? = some (.cells #[.int .i64 v, .slice A l.length c, .int .i64 r] 33 (0, 0))))
  case atStart => exact ⟨0, by omega, rfl, HB, hb0, hk0⟩
  case round =>
    clear hb0 hk0
    obtain ⟨i, hi, rfl, HA, HW, HK⟩ := hrel
    have k0 := (blk_cell HK.out 0).trans rfl
    have k1 := (blk_cell HK.out 1).trans rfl
    by_cases hlt : i < l.length
    · have HA2 := HA.out
      rw [allFrom_next _ _ _ hlt] at HA2
      obtain ⟨ad, e1, x0, x1, x2⟩ := at_T106 (Kd.C_below HR.out HW.out) (i : Int) (by omega) (by omega)
      subst e1
      have hd : decide (i < l.length) = true := decide_eq_true hlt
      simp only [Int.toNat_natCast] at x0 x1 x2
      obtain ⟨n, hn⟩ : ∃ n, n = rd_T106 l i := ⟨_, rfl⟩
      rw [← hn] at x0 x1 x2
      have hnode : nodeR v l i = (decide (0 ≤ n.f0) && decide (n.f0 < v) && decide (0 ≤ n.f1) && decide (n.f1 < i + 2) && decide (0 ≤ n.f2) && decide (n.f2 < i + 2) && behindR l n.f0 n.f1 && behindR l n.f0 n.f2) := by rw [hn]; rfl
      rw [hnode] at HA2
      replace HA2 := Aside0.mk HA2
      replace hn := Aside0.mk hn
      have hwa : Aside0 (∀ o, Below w.heap.size w (wr.alloc o)) := ⟨fun o => below_alloc HW.out o⟩
      have k0y : ∀ o : Obj, (wr.alloc o).cell? ⟨w.heap.size, 0, none⟩ = some (.int .i64 v) := fun o => pw_cell_below (below_alloc (Below.refl _ _) o) k0
      clear HA hnode
      by_cases t0 : n.f0 < 0
      · have hB0 : B = false := by rw [← HA2.out]; simp [show ¬ 0 ≤ n.f0 by omega]
        have hr := HF.out hB0
        subst hr
        have s0 : decide (n.f0 < 0) = true := decide_eq_true t0
        clear hB0
        go_wp2
        go_ret
        exact ⟨rfl, hwa.out _⟩
      have s0 : decide (n.f0 < 0) = false := decide_eq_false t0
      by_cases t1 : v ≤ n.f0
      · have hB0 : B = false := by rw [← HA2.out]; simp [show ¬ n.f0 < v by omega]
        have hr := HF.out hB0
        subst hr
        have s1 : decide (v ≤ n.f0) = true := decide_eq_true t1
        clear hB0
        go_wp2
        go_ret
        exact ⟨rfl, hwa.out _⟩
      have s1 : decide (v ≤ n.f0) = false := decide_eq_false t1
      by_cases t2 : n.f1 < 0
      · have hB0 : B = false := by rw [← HA2.out]; simp [show ¬ 0 ≤ n.f1 by omega]
        have hr := HF.out hB0
        subst hr
        have s2 : decide (n.f1 < 0) = true := decide_eq_true t2
        clear hB0
        go_wp2
        go_ret
        exact ⟨rfl, hwa.out _⟩
      have s2 : decide (n.f1 < 0) = false := decide_eq_false t2
      by_cases t3 : (i : Int) + 2 ≤ n.f1
      · have hB0 : B = false := by rw [← HA2.out]; simp [show ¬ n.f1 < (i : Int) + 2 by omega]
        have hr := HF.out hB0
        subst hr
        have s3 : decide ((i : Int) + 2 ≤ n.f1) = true := decide_eq_true t3
        clear hB0
        go_wp2
        go_ret
        exact ⟨rfl, hwa.out _⟩
      have s3 : decide ((i : Int) + 2 ≤ n.f1) = false := decide_eq_false t3
      by_cases t4 : n.f2 < 0
      · have hB0 : B = false := by rw [← HA2.out]; simp [show ¬ 0 ≤ n.f2 by omega]
        have hr := HF.out hB0
        subst hr
        have s4 : decide (n.f2 < 0) = true := decide_eq_true t4
        clear hB0
        go_wp2
        go_ret
        exact ⟨rfl, hwa.out _⟩
      have s4 : decide (n.f2 < 0) = false := decide_eq_false t4
      by_cases t5 : (i : Int) + 2 ≤ n.f2
      · have hB0 : B = false := by rw [← HA2.out]; simp [show ¬ n.f2 < (i : Int) + 2 by omega]
        have hr := HF.out hB0
        subst hr
        have s5 : decide ((i : Int) + 2 ≤ n.f2) = true := decide_eq_true t5
        clear hB0
        go_wp2
        go_ret
        exact ⟨rfl, hwa.out _⟩
      have s5 : decide ((i : Int) + 2 ≤ n.f2) = false := decide_eq_false t5
      have HA3 : Aside0 ((behJ (behindR l n.f0 n.f1) (behindR l n.f0 n.f2) 0 && allFrom (nodeR v l) l.length (i + 1)) = B) := ⟨by
        have := HA2.out
        simp only [show 0 ≤ n.f0 by omega, show n.f0 < v by omega, show 0 ≤ n.f1 by omega, show n.f1 < (i : Int) + 2 by omega, show 0 ≤ n.f2 by omega, show n.f2 < (i : Int) + 2 by omega, decide_true, Bool.true_and] at this
        exact this⟩
      have hkf : Aside0 ((wr.alloc (.cells #[.int .i64 n.f0, .int .i64 n.f1, .int .i64 n.f2] 106)).heap[w.heap.size]? = some (.cells #[.int .i64 v, .slice (some ad) l.length c, .int .i64 r] 33 (0, 0))) := ⟨blk_alloc HK.out _⟩
      have hkn : Aside0 ((wr.alloc (.cells #[.int .i64 n.f0, .int .i64 n.f1, .int .i64 n.f2] 106)).heap[wr.heap.size]? = some (.cells #[.int .i64 n.f0, .int .i64 n.f1, .int .i64 n.f2] 106 (0, 0))) := ⟨blk_new _ _⟩
      have hwb := Aside0.mk (hwa.out (.cells #[.int .i64 n.f0, .int .i64 n.f1, .int .i64 n.f2] 106))
      clear HA2 hwa
      go_wp2
      clear s0 s1 s2 s3 s4 s5 x0 x1 x2 hd k0 k1 k0y
      have i0 := i2_0 n.f1 n.f2
      have i1 := i2_1 n.f1 n.f2
      obtain ⟨W1, hW1⟩ : ∃ W, W = (wr.alloc (.cells #[.int .i64 n.f0, .int .i64 n.f1, .int .i64 n.f2] 106)) := ⟨_, rfl⟩
      rw [← hW1] at hkf hkn hwb
      rw [← hW1]
      clear hW1
      go_loopg [82] 2 (fun kq v82 w' => ∃ j : Nat, j + kq = 2 ∧ v82 = .int .i64 j ∧ Aside0 ((behJ (behindR l n.f0 n.f1) (behindR l n.f0 n.f2) j && allFrom (nodeR v l) l.length (i + 1)) = B) ∧ Aside0 (Below w.heap.size w w') ∧ Aside0 (w'.heap[w.heap.size]? = some (.cells #[.int .i64 v, .slice (some ad) l.length c, .int .i64 r] 33 (0, 0))) ∧ Aside0 (w'.heap[wr.heap.size]? = some (.cells #[.int .i64 n.f0, .int .i64 n.f1, .int .i64 n.f2] 106 (0, 0))))
      case atStart => exact ⟨0, by omega, rfl, HA3, hwb, hkf, hkn⟩
      case round =>
        rename_i wj
        clear hkf hkn hwb HA3 HW HK
        obtain ⟨j, hj, rfl, HJ, HWj, HKj, HNj⟩ := hrel
        have f1 := (blk_cell HKj.out 1).trans rfl
        have m0 := (blk_cell HNj.out 0).trans rfl
        have hj3 : j = 0 ∨ j = 1 ∨ j = 2 := by omega
        rcases hj3 with rfl | rfl | rfl
        · by_cases g1 : 1 < n.f1
          · obtain ⟨ad2, e2, y0, y1, y2⟩ := at_T106 (Kd.C_below HR.out HWj.out) (n.f1 - 2) (by omega) (by omega)
            obtain rfl : ad = ad2 := by injection e2
            have hl0 : decide (1 < n.f1) = true := decide_eq_true g1
            have hs : IntKind.i64.wrap (n.f1 - 2) = n.f1 - 2 := IntWalk.i64_in _ (by omega)
            have hs0 : 0 ≤ n.f1 - 2 := by omega
            have hs1 : n.f1 - 2 < l.length := by omega
            obtain ⟨z, hz⟩ : ∃ z, z = (rd_T106 l (n.f1 - 2)).f0 := ⟨_, rfl⟩
            rw [← hz] at y0
            clear y1 y2
            by_cases g2 : z ≤ n.f0
            · have hB0 : B = false := by
                rw [← HJ.out]
                have : behindR l n.f0 n.f1 = false := by simp [behindR, g1, ← hz, g2]
                simp [behJ, this]
              have hr := HF.out hB0
              subst hr
              have hl1 : decide (z ≤ n.f0) = true := decide_eq_true g2
              clear hB0 hz
              go_wp2
              go_quiet (fail)
              go_wp2
              go_ret
              exact ⟨rfl, pw_below_drewN HWj.out _⟩
            · have hb : Aside0 (behindR l n.f0 n.f1 = true) := ⟨by simp only [behindR, decide_eq_true g1, ← hz, decide_eq_false g2]; rfl⟩
              have hl1 : decide (z ≤ n.f0) = false := decide_eq_false g2
              clear hz
              go_wp2
              go_quiet (fail)
              go_wp2
              go_roundg (gk - 1)
              case measure => omega
              case rel => exact ⟨1, by omega, rfl, ⟨by rw [← HJ.out]; simp [behJ, hb.out]⟩, ⟨pw_below_drewN HWj.out _⟩, ⟨blk_drewN HKj.out _⟩, ⟨blk_drewN HNj.out _⟩⟩
          · have hb : Aside0 (behindR l n.f0 n.f1 = true) := ⟨by simp only [behindR, decide_eq_false g1]; rfl⟩
            have hl0 : decide (1 < n.f1) = false := decide_eq_false g1
            go_wp2
            go_quiet (fail)
            go_wp2
            go_roundg (gk - 1)
            case measure => omega
            case rel => exact ⟨1, by omega, rfl, ⟨by rw [← HJ.out]; simp [behJ, hb.out]⟩, ⟨pw_below_drewN HWj.out _⟩, ⟨blk_drewN HKj.out _⟩, ⟨blk_drewN HNj.out _⟩⟩
        · by_cases g1 : 1 < n.f2
          · obtain ⟨ad2, e2, y0, y1, y2⟩ := at_T106 (Kd.C_below HR.out HWj.out) (n.f2 - 2) (by omega) (by omega)
            obtain rfl : ad = ad2 := by injection e2
            have hl0 : decide (1 < n.f2) = true := decide_eq_true g1
            have hs : IntKind.i64.wrap (n.f2 - 2) = n.f2 - 2 := IntWalk.i64_in _ (by omega)
            have hs0 : 0 ≤ n.f2 - 2 := by omega
            have hs1 : n.f2 - 2 < l.length := by omega
            obtain ⟨z, hz⟩ : ∃ z, z = (rd_T106 l (n.f2 - 2)).f0 := ⟨_, rfl⟩
            rw [← hz] at y0
            clear y1 y2
            by_cases g2 : z ≤ n.f0
            · have hB0 : B = false := by
                rw [← HJ.out]
                have : behindR l n.f0 n.f2 = false := by simp [behindR, g1, ← hz, g2]
                simp [behJ, this]
              have hr := HF.out hB0
              subst hr
              have hl1 : decide (z ≤ n.f0) = true := decide_eq_true g2
              clear hB0 hz
              go_wp2
              go_quiet (fail)
              go_wp2
              go_ret
              exact ⟨rfl, pw_below_drewN HWj.out _⟩
            · have hb : Aside0 (behindR l n.f0 n.f2 = true) := ⟨by simp only [behindR, decide_eq_true g1, ← hz, decide_eq_false g2]; rfl⟩
              have hl1 : decide (z ≤ n.f0) = false := decide_eq_false g2
              clear hz
              go_wp2
              go_quiet (fail)
              go_wp2
              go_roundg (gk - 1)
              case measure => omega
              case rel => exact ⟨2, by omega, rfl, ⟨by rw [← HJ.out]; simp [behJ, hb.out]⟩, ⟨pw_below_drewN HWj.out _⟩, ⟨blk_drewN HKj.out _⟩, ⟨blk_drewN HNj.out _⟩⟩
          · have hb : Aside0 (behindR l n.f0 n.f2 = true) := ⟨by simp only [behindR, decide_eq_false g1]; rfl⟩
            have hl0 : decide (1 < n.f2) = false := decide_eq_false g1
            go_wp2
            go_quiet (fail)
            go_wp2
            go_roundg (gk - 1)
            case measure => omega
            case rel => exact ⟨2, by omega, rfl, ⟨by rw [← HJ.out]; simp [behJ, hb.out]⟩, ⟨pw_below_drewN HWj.out _⟩, ⟨blk_drewN HKj.out _⟩, ⟨blk_drewN HNj.out _⟩⟩
        · go_wp2
          go_roundg (l.length - (i + 1))
          case measure => omega
          case rel => exact ⟨i + 1, by omega, by go_num, ⟨by rw [← HJ.out]; simp [behJ]⟩, HWj, HKj⟩
    · have hBt : B = true := by rw [← HA.out]; exact allFrom_end _ _ _ (by omega)
      obtain ⟨t, r', l', e1, e2, e3, e4, e5⟩ := HT.out hBt
      subst hBt
      have hd : decide (i < l.length) = false := decide_eq_false hlt
      have k2 := (blk_cell HK.out 2).trans rfl
      have HC := Aside0.mk (Kd.C_below HR.out HW.out)
      have E1 := Aside0.mk e1
      have E3 := Aside0.mk e3
      have E5 := Aside0.mk e5
      have E4 := Aside0.mk e4
      clear HA HF HT e1 e3 e5 e4 hlt
      go_wp2
      have KD := Aside0.mk (blk_drew HK.out)
      have BD := Aside0.mk (below_drew HW.out)
      refine start_ (n := 8) (S := fun w' => (w'.cell? ⟨w.heap.size, 0, none⟩ = some (.int .i64 v)) ∧ (w'.cell? ⟨w.heap.size, 1, none⟩ = some (.slice A l.length c)) ∧ (w'.cell? ⟨w.heap.size, 2, none⟩ = some (.int .i64 r))) (ds := [6]) #[false, false, false, false, false, false, false, false] (by kernel_rfl) rfl rfl ⟨k0, k1, k2⟩ (fun hHeld => ?_)
      refine with_tabW tb_RValid_15.tab tb_RValid_15.bits (fun HT_ HW_ => ?_)
      refine take_ (i := 0) (N := some 101) (v := ?_) (a' := ?_) #[true, false, false, false, false, false, false, false] rfl rfl (take_ofW HT_.out HW_.out (by kernel_rfl)) (fun _ _ _ h => h) (Or.inl ⟨by rfl, ?_⟩) hHeld ?_ ?_
      rotate_left
      · rintro w' ⟨s0, s1, s2⟩
        go_simp
        with_reducible rfl
      rotate_left
      · simp only [Act.put, List.setIfInBounds_toArray, List.set_cons_zero, List.set_cons_succ, i64_w, i32_w]
        rfl
      refine pure_ (i := 1) (N := some 102) (v := ?_) (a' := ?_) #[true, true, false, false, false, false, false, false] rfl rfl (any_of HT_.out (by kernel_rfl)) (fun _ _ _ h => h) (Or.inl ⟨by rfl, ?_⟩) ?_ ?_
      rotate_left
      · intro w'
        go_simp
        with_reducible rfl
      rotate_left
      · simp only [Act.put, List.setIfInBounds_toArray, List.set_cons_zero, List.set_cons_succ, i64_w, i32_w]
        rfl
      refine take_ (i := 2) (N := some 103) (v := ?_) (a' := ?_) #[true, true, true, false, false, false, false, false] rfl rfl (take_ofW HT_.out HW_.out (by kernel_rfl)) (fun _ _ _ h => h) (Or.inl ⟨by rfl, ?_⟩) hHeld ?_ ?_
      rotate_left
      · rintro w' ⟨s0, s1, s2⟩
        go_simp
        with_reducible rfl
      rotate_left
      · simp only [Act.put, List.setIfInBounds_toArray, List.set_cons_zero, List.set_cons_succ, i64_w, i32_w]
        rfl
      refine take_ (i := 3) (N := some 104) (v := ?_) (a' := ?_) #[true, true, true, true, false, false, false, false] rfl rfl (take_ofW HT_.out HW_.out (by kernel_rfl)) (fun _ _ _ h => h) (Or.inl ⟨by rfl, ?_⟩) hHeld ?_ ?_
      rotate_left
      · rintro w' ⟨s0, s1, s2⟩
        go_simp
        with_reducible rfl
      rotate_left
      · simp only [Act.put, List.setIfInBounds_toArray, List.set_cons_zero, List.set_cons_succ, i64_w, i32_w]
        rfl
      refine one_ (i := 4) (N := some 105) #[true, true, true, true, true, false, false, false] rfl rfl (one_of HT_.out (by kernel_rfl)) (by decide) (fun K hK => ?_)
      refine goes_ Try.func93 (by kernel_rfl) rfl #[.agg #[.int .i64 v, .slice A l.length c, .int .i64 r]] (by rfl) rfl rfl (by simp only [List.map_toArray, List.map_cons, List.map_nil]; rfl) ?_
      refine (cantingref02_table.calls 5000 v A c l r t _ (Kd.C_drew HC.out) hc E1.out).mono ?_
      rintro e w4 ⟨v4, rfl, hR4, hB4⟩
      obtain ⟨A4, c4, rfl, hc4, hC4⟩ := Kd.R_reads hR4
      refine ⟨_, rfl, ?_⟩
      have K4 := Aside0.mk (blk_below KD.out hB4)
      have B4 := Aside0.mk (below_then BD.out BD.out.size hB4)
      have C4 := Aside0.mk hC4
      clear hR4 hB4 hC4
      refine hK.out _ _ ⟨(blk_cell K4.out 0).trans rfl, (blk_cell K4.out 1).trans rfl, (blk_cell K4.out 2).trans rfl⟩ (fun hHeld => ?_)
      clear hK K
      refine norm_ (a' := ?_) ?_ ?_
      rotate_left
      · show Act.put _ (some 105) _ = _
        (try simp only [Act.put, List.setIfInBounds_toArray, List.set_cons_zero, List.set_cons_succ, i64_w, i32_w])
        rfl
      refine one_ (i := 5) (N := some 106) #[true, true, true, true, true, true, false, false] rfl rfl (one_of HT_.out (by kernel_rfl)) (by decide) (fun K hK => ?_)
      refine goes_ Try.func87 (by kernel_rfl) rfl #[.int .i64 v, .slice A4 t.length c4] (by rfl) rfl rfl (by simp only [List.map_toArray, List.map_cons, List.map_nil]; rfl) ?_
      refine (cantingref02_Of.calls v A4 c4 t v l' r' _ C4.out hc4 E3.out).mono ?_
      rintro e w5 ⟨v5, rfl, hR5, hB5⟩
      obtain ⟨A5, c5, rfl, hc5, hC5⟩ := Kd.R_reads hR5
      refine ⟨_, rfl, ?_⟩
      have K5 := Aside0.mk (blk_below K4.out hB5)
      have B5 := Aside0.mk (below_then B4.out B4.out.size hB5)
      have C5 := Aside0.mk hC5
      have D5 := Aside0.mk (Kd.C_below HR.out B5.out)
      clear hR5 hB5 hC5
      refine hK.out _ _ ⟨(blk_cell K5.out 0).trans rfl, (blk_cell K5.out 1).trans rfl, (blk_cell K5.out 2).trans rfl⟩ (fun hHeld => ?_)
      clear hK K
      refine norm_ (a' := ?_) ?_ ?_
      rotate_left
      · show Act.put _ (some 106) _ = _
        (try simp only [Act.put, List.setIfInBounds_toArray, List.set_cons_zero, List.set_cons_succ, i64_w, i32_w])
        rfl
      refine last_ (i := 6) (N := some 107) #[true, true, true, true, true, true, true, false] rfl rfl (one_of HT_.out (by kernel_rfl)) (by decide) (fun K hK => ?_)
      refine goes_ Try.func36 (by kernel_rfl) rfl #[.agg #[.int .i64 v, .slice A l.length c, .int .i64 r], .agg #[.int .i64 v, .slice A5 l'.length c5, .int .i64 r']] (by rfl) rfl rfl (by simp only [List.map_toArray, List.map_cons, List.map_nil]; rfl) ?_
      refine (cantingref02_Same.calls 5000 v A c l r v A5 c5 l' r' (decide (r = r') && decide (l = l')) _ D5.out hc C5.out hc5 (same_dec l l' v r r' (by omega) E4.out)).mono ?_
      rintro e w6 ⟨rfl, hB6⟩
      refine ⟨_, rfl, ?_⟩
      have B6 := Aside0.mk (below_then B5.out B5.out.size hB6)
      clear hB6
      refine hK.out _ _ ?_
      clear hK K
      refine norm_ (a' := ?_) ?_ ?_
      rotate_left
      · show Act.put _ (some 107) _ = _
        (try simp only [Act.put, List.setIfInBounds_toArray, List.set_cons_zero, List.set_cons_succ, i64_w, i32_w])
        rfl
      refine pure_ (i := 7) (N := some 2) (v := ?_) (a' := ?_) #[true, true, true, true, true, true, true, true] rfl rfl (any_of HT_.out (by kernel_rfl)) (fun _ _ _ h => h) (Or.inl ⟨by rfl, ?_⟩) ?_ ?_
      rotate_left
      · intro w'
        go_simp
        with_reducible rfl
      rotate_left
      · simp only [Act.put, List.setIfInBounds_toArray, List.set_cons_zero, List.set_cons_succ, i64_w, i32_w]
        rfl
      refine done_ (done_of HT_.out (by kernel_rfl)) ?_
      go_wp2
      go_ret
      exact ⟨by rw [E5.out]; rfl, B6.out⟩
end Go.Proofs.Ytlplphgoldkoeaa.HTab
namespace Go.Proofs.Ytlplphgoldkoeaa.X
open Go.RowKit Go.Proofs.YtlplphgoldkoeaaW.PrintWords Go.Proofs.YtlplphgoldkoeaaW.PrintLast Go.Proofs.YtlplphgoldkoeaaW.PrintMore Go.Proofs.Ytlplphgoldkoeaa.HTab
set_option linter.unusedVariables false
def cantingref02_Valid.f (a0_0 : Int) (l0_1 : List (S106)) (a0_2 : Int) : Option Bool := some (vmB a0_0 (l0_1.map ofR) a0_2)
theorem cantingref02_Valid.calls (a0_0 : Int) (A0_1 : Option Addr) (c0_1 : Nat) (l0_1 : List (S106)) (a0_2 : Int) (r : Bool) (w : World) (hr0_1 : Kd.C k106 w A0_1 l0_1.length l0_1) (hc0_1 : l0_1.length ≤ c0_1) (h : cantingref02_Valid.f a0_0 l0_1 a0_2 = some r) :
    Calls Try.prog 31 #[.agg #[.int .i64 a0_0, .slice A0_1 l0_1.length c0_1, .int .i64 a0_2]] w fun e w' => e = .returned (.bool r) ∧ Below w.heap.size w w' := by
  obtain rfl := Option.some.inj h
  by_cases hd : a0_0 < 0 ∨ 12 < a0_0 ∨ 4096 ≤ l0_1.length ∨ a0_2 < 0 ∨ (l0_1.length : Int) + 1 < a0_2
  · have hV : ¬ VM a0_0 (l0_1.map ofR) a0_2 := fun hV => by
      have h1 := hV.v0
      have h2 := hV.v12
      have h3 := hV.root.2.2
      have h4 := (TM_pl _ _ _).1 hV.pl
      rw [List.length_map] at h3 h4
      omega
    rw [vmB_false hV]
    exact rvalid_head a0_0 a0_2 A0_1 c0_1 l0_1 w (Kd.C_max hr0_1) hd
  · refine rvalid_main a0_0 a0_2 A0_1 c0_1 l0_1 w hr0_1 hc0_1 (by omega) (by omega) (by omega) (by omega) (by omega) _ _ rfl (fun hB => ?_) (fun hB => ?_)
    · exact vmB_false (fun hV => by rw [hV.nodesR] at hB; cases hB)
    · exact back_R a0_0 l0_1 a0_2 (by omega) (by omega) (by omega) hB (by omega)
end Go.Proofs.Ytlplphgoldkoeaa.X
end
