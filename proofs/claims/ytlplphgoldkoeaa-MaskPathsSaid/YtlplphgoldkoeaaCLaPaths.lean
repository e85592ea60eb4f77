/- The law MaskPaths holds of the program, for every input that its statement lets in. -/
import Derived.Test.YtlplphgoldkoeaaBn
import Derived.ChangeArms
import Derived.Test.YtlplphgoldkoeaaBzi
import Derived.Test.YtlplphgoldkoeaaBl
import Derived.Test.YtlplphgoldkoeaaBk
import Derived.Test.YtlplphgoldkoeaaBzh
import Derived.Test.YtlplphgoldkoeaaBj
import Derived.Test.YtlplphgoldkoeaaRows
import Derived.WalkKit
import Derived.ProofKit
import Derived.OpenShut
import Derived.ShutString
import Derived.ChangeOld
import Derived.Below
import Derived.SizedLaws
import Derived.Test.YtlplphgoldkoeaaBb
section
set_option linter.unusedVariables false
set_option linter.unusedSimpArgs false
namespace Go.Proofs.Ytlplphgoldkoeaa.HTab
open Go.ChangeShapes Go.WideShapes Go.ChangeAt Go.RowKit Go.Deep Go.Joins Go.Proofs.YtlplphgoldkoeaaW.PrintWords Go.Proofs.Ytlplphgoldkoeaa.X
set_option linter.unusedVariables false
section
variable {H : Type} {enc : TypeId × Value → H} {W : World} {r : Reach} {b0 base : Nat} {sp : Nat → Bool} {held : Bool} {v : Value} {d : DataW H} {ps : List MemPlace} {ts : List TypeId} {ds : List (DataW H)} {j : Nat}
end
end Go.Proofs.Ytlplphgoldkoeaa.HTab
end

section
set_option linter.unusedVariables false
set_option linter.unusedSimpArgs false
namespace Go.Proofs.Ytlplphgoldkoeaa.HTab
open Go.RowKit Go.Proofs.YtlplphgoldkoeaaW.PrintWords Go.Proofs.YtlplphgoldkoeaaW.PrintLast Go.Proofs.YtlplphgoldkoeaaW.PrintMore Go.Proofs.Ytlplphgoldkoeaa.HMap Go.Proofs.Ytlplphgoldkoeaa.X
set_option linter.unusedVariables false
set_option linter.unusedSimpArgs false
theorem pathQ_len (n : Nat) (l : List S106) : ∀ (k : Nat) (p : Int), (pathQ n l k p).length ≤ 2 ^ k
  | 0, p => by simp [pathQ]
  | k + 1, p => by
    have h1 := pathQ_len n l k (rd_T106 l (p - 2)).f1
    have h2 := pathQ_len n l k (rd_T106 l (p - 2)).f2
    have h3 := Nat.two_pow_pos k
    simp only [pathQ]
    rw [Nat.pow_succ]
    split
    · simp; omega
    split
    · simp
    · rw [List.length_append, List.length_map, List.length_map]; omega
theorem rpaths_calls (v r : Int) (A : Option Addr) (c : Nat) (l : List S106) (hT : WF (TM v (l.map ofR))) (hll : l.length ≤ 1000000000) (h12 : v ≤ 12) :
    ∀ (k : Nat) (p : Int) (w : World), Kd.C k106 w A l.length l → Pl (TM v (l.map ofR)) p → v - asksP (TM v (l.map ofR)) p < k → k ≤ 16 →
    Calls Try.prog 113 #[.agg #[.int .i64 v, .slice A l.length c, .int .i64 r], .int .i64 p] w (QPost w v.toNat (pathQ v.toNat l k p))
  | 0, p, w, hC, hp, hk, _ => by
    have := hT.asks_le hp
    rw [TM_vars] at this
    exfalso
    have hk' : v - asksP (TM v (l.map ofR)) p < 0 := hk
    omega
  | k + 1, p, w, hC, hp, hk, hk16 => by
    have v0 : 0 ≤ v := by have := hT.vars; rwa [TM_vars] at this
    have hp0 := hp.1
    by_cases h1 : p < 1
    · obtain rfl : p = 0 := by omega
      have e : pathQ v.toNat l (k + 1) 0 = [] := by simp [pathQ]
      rw [e]
      exact rp_0 v r A c l w hC v0 h12
    by_cases h2 : p = 1
    · subst h2
      have e : pathQ v.toNat l (k + 1) 1 = [List.replicate v.toNat 2] := by simp [pathQ]
      rw [e]
      exact rp_1 v r A c l w hC v0 h12
    · have hpl : p < (TM v (l.map ofR)).ns.length := hp.2
      have hpl2 := hpl
      rw [TM_len, List.length_map] at hpl2
      have hge : 2 ≤ p := by omega
      have hn := rdR_get v l p hge (by omega)
      have ok := hT.ok p hge hpl
      have ha : asksP (TM v (l.map ofR)) p = (getN (TM v (l.map ofR)) p).f0 := asks_ge (by omega)
      rw [TM_vars] at ok
      obtain ⟨k0, k1, _, k3, k4, k5, k6, k7, k8⟩ := ok
      have e : pathQ v.toNat l (k + 1) p = outJ (pathQ v.toNat l k (rd_T106 l (p - 2)).f1) (pathQ v.toNat l k (rd_T106 l (p - 2)).f2) (rd_T106 l (p - 2)).f0.toNat 2 := by
        simp only [pathQ, outJ]
        rw [if_neg h2, if_neg (by omega)]
      rw [e]
      have e0 : (rd_T106 l (p - 2)).f0 = (getN (TM v (l.map ofR)) p).f0 := by rw [hn]; rfl
      have e1 : (rd_T106 l (p - 2)).f1 = (getN (TM v (l.map ofR)) p).f1 := by rw [hn]; rfl
      have e2 : (rd_T106 l (p - 2)).f2 = (getN (TM v (l.map ofR)) p).f2 := by rw [hn]; rfl
      have hlen : ∀ q, (pathQ v.toNat l k q).length ≤ 100000 := fun q => by
        have := pathQ_len v.toNat l k q
        have : 2 ^ k ≤ 2 ^ 16 := Nat.pow_le_pow_right (by omega) (by omega)
        omega
      refine rp_on v r A c l w hC v0 h12 p (rd_T106 l (p - 2)) _ _ hge (by omega) hll rfl (by omega) (by omega) (hlen _) (hlen _) (fun W hW => ?_) (fun W hW => ?_)
      · exact rpaths_calls v r A c l hT hll h12 k _ W (Kd.C_below hC hW) ⟨by omega, by omega⟩ (by rw [e1]; omega) (by omega)
      · exact rpaths_calls v r A c l hT hll h12 k _ W (Kd.C_below hC hW) ⟨by omega, by omega⟩ (by rw [e2]; omega) (by omega)
theorem rows_C {w : World} {base n : Nat} {ok : Nat → Prop} {vO : Value} {ps : List (Nat × Nat)} {xss : List (List Int)} (h : (kP n).R 82 w base ok vO ps) (hr : Rws w base n ps xss) : ∃ A c, vO = .slice A xss.length c ∧ xss.length ≤ c ∧ Kd.C DI w A xss.length xss := by
  obtain ⟨A, c, rfl, hc, hC⟩ := Kd.R_reads h
  rw [hr.1] at hc hC
  refine ⟨A, c, by rw [hr.1], hc, rfl, hC.2.1, fun h0 => ?_⟩
  obtain ⟨ad, hA, hx⟩ := hC.2.2 h0
  refine ⟨ad, hA, fun j x hj => ?_⟩
  obtain ⟨p, hp⟩ : ∃ p, ps[j]? = some p := ⟨_, List.getElem?_eq_getElem (by rw [hr.1]; exact (List.getElem?_eq_some_iff.1 hj).1)⟩
  obtain ⟨cs, h1, h2, h3⟩ := hx j p hp
  obtain ⟨hl, hR⟩ := hr.row hp hj
  have hcs : cs = [.slice (some ⟨p.1, 0, none⟩) n p.2] := h2
  obtain ⟨_, hle, hCx⟩ := Kd.R_reads' hR
  exact ⟨cs, h1, ⟨_, _, by rw [hcs, hl], by rw [hl]; omega, hCx⟩, h3⟩
theorem equalI_same (x : List Int) (hx : x.length < 140737488355328) : ∀ (d i fu : Nat), i + d = x.length → d < fu → slices_Equal_int_int.l0 fu x x x.length i = some true
  | d, i, 0, h1, h2 => by omega
  | 0, i, fu + 1, h1, h2 => by
    simp only [slices_Equal_int_int.l0]
    rw [if_neg (by omega)]
  | d + 1, i, fu + 1, h1, h2 => by
    have wi : wrap64 ((i : Int) + 1) = ((i + 1 : Nat) : Int) := by unfold wrap64; omega
    simp only [slices_Equal_int_int.l0]
    rw [if_pos (by omega), if_pos (by omega), if_pos (by omega), wi]
    simp only [if_true, ite_self]
    rw [if_pos (by omega)]
    exact equalI_same x hx d (i + 1) fu (by omega) (by omega)
theorem equalI_f (x : List Int) (hx : x.length < 140737488355328) (fu : Nat) (hf : x.length < fu) : slices_Equal_int_int.f fu x x = some true := by
  unfold slices_Equal_int_int.f
  rw [if_pos rfl]
  exact equalI_same x hx x.length 0 fu (by omega) hf
theorem row_at {w : World} {A : Option Addr} {l : List (List Int)} (h : Kd.C DI w A l.length l) {i : Nat} {x : List Int} (hi : l[i]? = some x) : ∃ ad Ax cx, A = some ad ∧ w.cell? (ad.add i) = some (.slice Ax x.length cx) ∧ x.length ≤ cx ∧ Kd.C KI w Ax x.length x := by
  obtain ⟨ad, hA, hx⟩ := h.2.2 (by have := (List.getElem?_eq_some_iff.1 hi).1; omega)
  obtain ⟨cs, h1, h2, h3⟩ := hx i x hi
  obtain ⟨Ax, cx, hcs, hle, hC⟩ := h2
  refine ⟨ad, Ax, cx, hA, ?_, hle, hC⟩
  have := h3 0 _ (by rw [hcs]; rfl)
  rw [show DI.sz = 1 from rfl, Nat.mul_one, Nat.add_zero] at this
  exact this
set_option maxRecDepth 100000 in
set_option maxHeartbeats 4000000 in
theorem eqf_calls (l : List (List Int)) (A1 : Option Addr) (c1 : Nat) (A2 : Option Addr) (c2 : Nat) (w : World) (hC1 : Kd.C DI w A1 l.length l) (h1 : l.length ≤ c1) (hC2 : Kd.C DI w A2 l.length l) (h2 : l.length ≤ c2) (hl : l.length ≤ 1000000) (hx : ∀ x ∈ l, x.length < 1000) :
    Calls Try.prog 65 #[.slice A1 l.length c1, .slice A2 l.length c2, .func (.func 66) #[] #[]] w fun e w' => e = .returned (.bool true) ∧ Below w.heap.size w w' := by
  have HC := Aside0.mk (And.intro hC1 hC2)
  have HX := Aside0.mk hx
  have HB := Aside0.mk (Below.refl w.heap.size w)
  clear hC1 hC2 hx
  go_enter Try.func65, Try.ntmps65
  go_wp2
  go_loopg [17] (l.length) (fun kq v17 w' => ∃ i : Nat, i + kq = l.length ∧ v17 = .int .i64 i ∧ Aside0 (Below w.heap.size w w'))
  case atStart => exact ⟨0, by omega, rfl, HB⟩
  case round =>
    clear HB
    obtain ⟨i, hi, rfl, HW⟩ := hrel
    by_cases hlt : i < l.length
    · have hdec : decide (i < l.length) = true := decide_eq_true hlt
      have i0 : ((i : Int) < 0) = False := eq_false (by omega)
      have i1 : ((i : Int) < (l.length : Int)) = True := eq_true (by omega)
      obtain ⟨x, hx⟩ : ∃ x, l[i]? = some x := ⟨_, List.getElem?_eq_getElem hlt⟩
      obtain ⟨ad1, Ax, cx, rfl, x0, hcx, hCx⟩ := row_at (Kd.C_below HC.out.1 HW.out) hx
      obtain ⟨ad2, Ay, cy, rfl, y0, hcy, hCy⟩ := row_at (Kd.C_below HC.out.2 HW.out) hx
      have hxl := HX.out x (List.mem_of_getElem? hx)
      have HE := Aside0.mk (And.intro (And.intro hCx hCy) (equalI_f x (by omega) (x.length + 1) (by omega)))
      clear hCx hCy hxl hx
      go_wp2_with fail
      refine (slices_Equal_int_int.calls (x.length + 1) Ax cx x Ay cy x true wr HE.out.1.1 hcx HE.out.1.2 hcy HE.out.2).mono ?_
      rintro e w2 ⟨rfl, ⟨mm, rfl⟩⟩
      have HW2 := Aside0.mk (pw_below_drewN HW.out mm)
      go_wp2
      go_roundg (l.length - (i + 1))
      case measure => omega
      case rel => exact ⟨i + 1, by omega, by go_num, HW2⟩
    · have hdec : decide (i < l.length) = false := decide_eq_false hlt
      go_wp2
      go_ret
      exact ⟨by rfl, HW.out⟩
set_option maxRecDepth 100000 in
set_option maxHeartbeats 4000000 in
theorem rPaths_err (v r : Int) (A : Option Addr) (c : Nat) (l : List S106) (w : World) (hC : Kd.C k106 w A l.length l) (hc : l.length ≤ c) (hq : cantingref02_Valid.f v l r = some false) :
    Calls Try.prog 64 #[.agg #[.int .i64 v, .slice A l.length c, .int .i64 r]] w fun e w' => e = .returned (.tuple #[.slice none 0 0, .int .i64 2]) ∧ Below w.heap.size w w' := by
  have hu := Try.underlying33
  have HC := Aside0.mk hC
  have HQ := Aside0.mk hq
  obtain ⟨W0, hW0⟩ : ∃ W, W = w.alloc (.cells #[.int .i64 v, .slice A l.length c, .int .i64 r] 33) := ⟨_, rfl⟩
  have HB0 := Aside0.mk (show Below w.heap.size w W0 by rw [hW0]; exact below_alloc (Below.refl _ _) _)
  clear hC hq
  go_enter Try.func64, Try.ntmps64
  go_wp2_with fail
  rw [← hW0]
  clear hW0
  refine (cantingref02_Valid.calls v A c l r false W0 (Kd.C_below HC.out HB0.out) hc HQ.out).mono ?_
  rintro e w1 ⟨rfl, hB1⟩
  have B1 := Aside0.mk (below_then HB0.out HB0.out.size hB1)
  clear hB1
  go_wp2
  go_ret2
  exact ⟨by rfl, B1.out⟩
set_option maxRecDepth 100000 in
set_option maxHeartbeats 4000000 in
theorem rPaths_ok (v r : Int) (A : Option Addr) (c : Nat) (l : List S106) (w : World) (hC : Kd.C k106 w A l.length l) (hc : l.length ≤ c) (hq : cantingref02_Valid.f v l r = some true) (hV : VM v (l.map ofR) r) (hll : l.length ≤ 1000000000) :
    Calls Try.prog 64 #[.agg #[.int .i64 v, .slice A l.length c, .int .i64 r]] w fun e w' => ∃ vO ps, e = .returned (.tuple #[vO, .int .i64 0]) ∧ (kP v.toNat).R 82 w' w.heap.size (fun _ => True) vO ps ∧ Rws w' w.heap.size v.toNat ps (pathQ v.toNat l 13 r) ∧ Below w.heap.size w w' := by
  have hu := Try.underlying33
  have HC := Aside0.mk hC
  have HQ := Aside0.mk hq
  have HV := Aside0.mk hV
  obtain ⟨W0, hW0⟩ : ∃ W, W = w.alloc (.cells #[.int .i64 v, .slice A l.length c, .int .i64 r] 33) := ⟨_, rfl⟩
  have HB0 := Aside0.mk (show Below w.heap.size w W0 by rw [hW0]; exact below_alloc (Below.refl _ _) _)
  have KF0 := Aside0.mk (show W0.heap[w.heap.size]? = some (.cells #[.int .i64 v, .slice A l.length c, .int .i64 r] 33 (0, 0)) by rw [hW0]; exact blk_new _ _)
  clear hC hq hV
  go_enter Try.func64, Try.ntmps64
  go_wp2_with fail
  rw [← hW0]
  clear hW0
  refine (cantingref02_Valid.calls v A c l r true W0 (Kd.C_below HC.out HB0.out) hc HQ.out).mono ?_
  rintro e w1 ⟨rfl, hB1⟩
  have B1 := Aside0.mk (below_then HB0.out HB0.out.size hB1)
  have KF1 := blk_below KF0.out hB1
  have y0 := (blk_cell KF1 0).trans rfl
  have y1 := (blk_cell KF1 1).trans rfl
  have y2 := (blk_cell KF1 2).trans rfl
  clear hB1 KF1
  go_wp2_with fail
  refine (rpaths_calls v r A c l HV.out.wf hll HV.out.v12 13 r w1 (Kd.C_below HC.out B1.out) HV.out.pl (by have := HV.out.wf.asks_nonneg HV.out.pl; have := HV.out.v12; omega) (by omega)).mono ?_
  rintro e w2 ⟨vO, ps, rfl, hH, hR, hB⟩
  have B2 := Aside0.mk (below_then B1.out B1.out.size hB)
  have HH := Aside0.mk (Kd.R_lower (Kd.R_mono hH (fun _ _ => trivial)) B1.out.size : (kP v.toNat).R 82 w2 w.heap.size (fun _ => True) vO ps)
  have HR := Aside0.mk (hR.lower B1.out.size)
  clear hH hR hB
  go_wp2
  go_ret2
  exact ⟨_, ps, by rfl, HH.out, HR.out, B2.out⟩
end Go.Proofs.Ytlplphgoldkoeaa.HTab
end

section
set_option linter.unusedVariables false
set_option linter.unusedSimpArgs false
namespace Go.Proofs.Ytlplphgoldkoeaa.HTab
open Go.RowKit Go.Proofs.YtlplphgoldkoeaaW.PrintWords Go.Proofs.YtlplphgoldkoeaaW.PrintLast Go.Proofs.YtlplphgoldkoeaaW.PrintMore Go.Proofs.Ytlplphgoldkoeaa.HMap Go.Proofs.Ytlplphgoldkoeaa.X
set_option linter.unusedVariables false
set_option linter.unusedSimpArgs false
theorem pathP_set {v : Int} {l : List S107} (hT : WF (TM v l)) : ∀ (k : Nat) (p : Int) (cube : List Int) (j : Nat) (x : Int), Pl (TM v l) p → (j : Int) < asksP (TM v l) p → pathP l k p (cube.set j x) = (pathP l k p cube).map (fun c => c.set j x)
  | 0, p, cube, j, x, hp, hj => by simp [pathP]
  | k + 1, p, cube, j, x, hp, hj => by
    have hp0 := hp.1
    by_cases h1 : p < 1
    · have e : ∀ cu, pathP l (k + 1) p cu = [] := fun cu => by
        simp only [pathP]
        rw [if_neg (by omega), if_pos (by omega)]
      rw [e, e]; rfl
    by_cases h2 : p = 1
    · subst h2
      simp [pathP]
    · have hpl : p < (TM v l).ns.length := hp.2
      have hge : 2 ≤ p := by omega
      have hn := TM_get v l p hge
      have ok := hT.ok p hge hpl
      have ha : asksP (TM v l) p = (getN (TM v l) p).f0 := asks_ge (by omega)
      obtain ⟨n, hnn⟩ : ∃ n, n = getN (TM v l) p := ⟨_, rfl⟩
      rw [← hnn] at ok ha hn
      have e : ∀ cu, pathP l (k + 1) p cu = pathP l k n.f1 (cu.set n.f0.toNat 0) ++ pathP l k n.f2 (cu.set n.f0.toNat 1) := fun cu => by
        simp only [pathP]
        rw [if_neg h2, if_neg (by omega), ← hn]
      obtain ⟨k0, k1, _, k3, k4, k5, k6, k7, k8⟩ := ok
      have s0 : (cube.set j x).set n.f0.toNat 0 = (cube.set n.f0.toNat 0).set j x := List.set_comm _ _ (by omega)
      have s1 : (cube.set j x).set n.f0.toNat 1 = (cube.set n.f0.toNat 1).set j x := List.set_comm _ _ (by omega)
      rw [e, e, List.map_append, s0, s1, pathP_set hT k n.f1 _ j x ⟨k3, by omega⟩ (by omega), pathP_set hT k n.f2 _ j x ⟨k5, by omega⟩ (by omega)]
theorem path_same {v : Int} {l : List S106} (hT : WF (TM v (l.map ofR))) (h : l.length < 1000000000) : ∀ (k : Nat) (p : Int), Pl (TM v (l.map ofR)) p → pathP (l.map ofR) k p (List.replicate v.toNat 2) = pathQ v.toNat l k p
  | 0, p, hp => by simp [pathP, pathQ]
  | k + 1, p, hp => by
    have hp0 := hp.1
    by_cases h1 : p < 1
    · simp only [pathP, pathQ]
      rw [if_neg (by omega), if_pos (by omega), if_neg (by omega), if_pos (by omega)]
    by_cases h2 : p = 1
    · subst h2
      simp [pathP, pathQ]
    · have hpl : p < (TM v (l.map ofR)).ns.length := hp.2
      have hpl2 := hpl
      rw [TM_len, List.length_map] at hpl2
      have hge : 2 ≤ p := by omega
      have hn := TM_get v (l.map ofR) p hge
      have hr := rdR_get v l p hge (by omega)
      have ok := hT.ok p hge hpl
      obtain ⟨n, hnn⟩ : ∃ n, n = getN (TM v (l.map ofR)) p := ⟨_, rfl⟩
      rw [← hnn] at ok hn hr
      obtain ⟨k0, k1, _, k3, k4, k5, k6, k7, k8⟩ := ok
      have e0 : (rd_T106 l (p - 2)).f0 = n.f0 := by rw [hr]; rfl
      have e1 : (rd_T106 l (p - 2)).f1 = n.f1 := by rw [hr]; rfl
      have e2 : (rd_T106 l (p - 2)).f2 = n.f2 := by rw [hr]; rfl
      simp only [pathP, pathQ]
      rw [if_neg h2, if_neg (by omega), if_neg h2, if_neg (by omega), ← hn, e0, e1, e2, pathP_set hT k n.f1 _ _ _ ⟨k3, by omega⟩ (by omega), pathP_set hT k n.f2 _ _ _ ⟨k5, by omega⟩ (by omega), path_same hT h k n.f1 ⟨k3, by omega⟩, path_same hT h k n.f2 ⟨k5, by omega⟩]
theorem pathQ_mem (n : Nat) (l : List S106) : ∀ (k : Nat) (p : Int) (x : List Int), x ∈ pathQ n l k p → x.length = n
  | 0, p, x, h => by simp [pathQ] at h
  | k + 1, p, x, h => by
    simp only [pathQ] at h
    split at h
    · simp only [List.mem_singleton] at h; rw [h, List.length_replicate]
    split at h
    · simp at h
    · rcases List.mem_append.1 h with h | h
      · obtain ⟨y, hy, rfl⟩ := List.mem_map.1 h
        rw [List.length_set]; exact pathQ_mem n l k _ y hy
      · obtain ⟨y, hy, rfl⟩ := List.mem_map.1 h
        rw [List.length_set]; exact pathQ_mem n l k _ y hy
end Go.Proofs.Ytlplphgoldkoeaa.HTab
end

section
set_option linter.unusedVariables false
set_option linter.unusedSimpArgs false
namespace Go.Proofs.Ytlplphgoldkoeaa.HTab
open Go.RowKit Go.Proofs.YtlplphgoldkoeaaW.PrintWords Go.Proofs.YtlplphgoldkoeaaW.PrintLast Go.Proofs.YtlplphgoldkoeaaW.PrintMore Go.Proofs.Ytlplphgoldkoeaa.HMap Go.Proofs.Ytlplphgoldkoeaa.X
set_option linter.unusedVariables false
set_option linter.unusedSimpArgs false
set_option maxRecDepth 100000 in
set_option maxHeartbeats 4000000 in
theorem plaw_calls (fu : Nat) (v r : Int) (A : Option Addr) (c : Nat) (l : List S106) (w : World) (hC : Kd.C k106 w A l.length l) (hc : l.length ≤ c) (o1 : List S107) (ho : cantinglaw02_of.f fu v l r = some (v, o1, r)) (X : List (List Int)) (q : Int) (hp : mask_Paths.f v o1 r = some (X, q))
    (hR : ∀ W, Below w.heap.size w W → Calls Try.prog 64 #[.agg #[.int .i64 v, .slice A l.length c, .int .i64 r]] W fun e W' => ∃ A2 c2, e = .returned (.tuple #[.slice A2 X.length c2, .int .i64 q]) ∧ X.length ≤ c2 ∧ Kd.C DI W' A2 X.length X ∧ Below W.heap.size W W')
    (hl : X.length ≤ 1000000) (hx : ∀ x ∈ X, x.length < 1000) (haw : cantinglaw02_awake.f fu = some true) :
    Calls Try.prog 11 #[.agg #[.int .i64 v, .slice A l.length c, .int .i64 r]] w fun e w' => e = .returned (.bool true) ∧ Below w.heap.size w w' := by
  have hu := Try.underlying33
  have HC := Aside0.mk hC
  have HO := Aside0.mk ho
  have HP := Aside0.mk hp
  have HR := Aside0.mk hR
  have HX := Aside0.mk hx
  have HAW := Aside0.mk haw
  obtain ⟨W0, hW0⟩ : ∃ W, W = w.alloc (.cells #[.int .i64 v, .slice A l.length c, .int .i64 r] 33) := ⟨_, rfl⟩
  have HB0 := Aside0.mk (show Below w.heap.size w W0 by rw [hW0]; exact below_alloc (Below.refl _ _) _)
  have KF0 := Aside0.mk (show W0.heap[w.heap.size]? = some (.cells #[.int .i64 v, .slice A l.length c, .int .i64 r] 33 (0, 0)) by rw [hW0]; exact blk_new _ _)
  clear hC ho hp hR hx haw
  go_enter Try.func11, Try.ntmps11
  go_wp2_with fail
  rw [← hW0]
  clear hW0
  refine (cantinglaw02_of.calls fu v A c l r v o1 r W0 (Kd.C_below HC.out HB0.out) hc HO.out).mono ?_
  rintro e w1 ⟨v1, rfl, hR1, hB1⟩
  obtain ⟨A1, c1, rfl, hc1, hC1⟩ := Kd.R_reads hR1
  have B1 := Aside0.mk (below_then HB0.out HB0.out.size hB1)
  have KF1 := Aside0.mk (blk_below KF0.out hB1)
  have C1 := Aside0.mk hC1
  clear hR1 hB1 hC1
  go_wp2_with fail
  refine (mask_Paths.calls v A1 c1 o1 r X q w1 C1.out hc1 HP.out).mono ?_
  rintro e w2 ⟨v2, rfl, hR2, hB2⟩
  obtain ⟨A2, c2, rfl, hc2, hC2⟩ := Kd.R_reads (Kd.S_R hR2)
  have B2 := Aside0.mk (below_then B1.out B1.out.size hB2)
  have KF2 := blk_below KF1.out hB2
  have C2 := Aside0.mk hC2
  have y0 := (blk_cell KF2 0).trans rfl
  have y1 := (blk_cell KF2 1).trans rfl
  have y2 := (blk_cell KF2 2).trans rfl
  clear hR2 hB2 hC2 KF2
  go_wp2_with fail
  refine (HR.out w2 B2.out).mono ?_
  rintro e w3 ⟨A3, c3, rfl, hc3, hC3, hB3⟩
  have B3 := Aside0.mk (below_then B2.out B2.out.size hB3)
  have C2' := Aside0.mk (Kd.C_below C2.out hB3)
  have C3 := Aside0.mk hC3
  clear hB3 hC3 y0 y1 y2
  go_wp2_with fail
  refine (eqf_calls X A2 c2 A3 c3 w3 C2'.out hc2 C3.out hc3 hl HX.out).mono ?_
  rintro e w4 ⟨rfl, hB4⟩
  have D4 := Aside0.mk (below_then B3.out B3.out.size hB4)
  clear hB4
  go_wp2_with fail
  refine (cantinglaw02_awake.calls fu true w4 HAW.out).mono ?_
  rintro e w5 ⟨rfl, hB5⟩
  have D5 := Aside0.mk (below_then D4.out D4.out.size hB5)
  clear hB5
  go_wp2
  go_ret
  exact ⟨by rfl, D5.out⟩
theorem paths_any (v r : Int) (A : Option Addr) (c : Nat) (l : List S106) (w : World) (hC : Kd.C k106 w A l.length l) (hc : l.length ≤ c) (hl : l.length < 10000000000000) :
    Calls Try.prog 11 #[.agg #[.int .i64 v, .slice A l.length c, .int .i64 r]] w fun e w' => e = .returned (.bool true) ∧ Below w.heap.size w w' := by
  have ho := of_f l v r hl 20000 (by omega)
  have haw := awake_f 20000 (by omega)
  have hol := ofL_len l
  by_cases h : VM v (ofL l) r
  · have hV := ofL_vm.1 h
    have hk := hV.ofL
    rw [hk.1] at ho
    have v0 := hV.v0
    have hlen := pathQ_len v.toNat l 13 r
    have hpow : (2 : Nat) ^ 13 = 8192 := by decide
    have hs := path_same hV.wf (by omega) 13 r hV.pl
    refine plaw_calls 20000 v r A c l w hC hc (l.map ofR) ho (pathQ v.toNat l 13 r) 0 ?_ (fun W hW => ?_) (by omega) (fun x hx => by rw [pathQ_mem v.toNat l 13 r x hx]; have := hV.v12; omega) haw
    · unfold mask_Paths.f
      rw [if_pos (by simp; omega), if_pos (vmB_iff.2 hV), hs, if_pos (by omega)]
    · refine (rPaths_ok v r A c l W (Kd.C_below hC hW) hc ?_ hV (by omega)).mono ?_
      · unfold cantingref02_Valid.f
        rw [vmB_iff.2 hV]
      · rintro e W' ⟨vO, ps, rfl, hH, hR, hB⟩
        obtain ⟨A2, c2, rfl, hc2, hC2⟩ := rows_C hH hR
        exact ⟨A2, c2, rfl, hc2, hC2, hB⟩
  · refine plaw_calls 20000 v r A c l w hC hc (ofL l) ho [] 2 ?_ (fun W hW => ?_) (by simp) (fun x hx => by simp at hx) haw
    · unfold mask_Paths.f
      rw [if_pos (by omega), if_neg (fun q => h (vmB_iff.1 q))]
    · refine (rPaths_err v r A c l W (Kd.C_below hC hW) hc ?_).mono ?_
      · unfold cantingref02_Valid.f
        rw [Bool.eq_false_iff.2 (fun q => h (ofL_vm.2 (vmB_iff.1 q)))]
      · rintro e W' ⟨rfl, hB⟩
        exact ⟨none, 0, rfl, by simp, ⟨rfl, by simp, fun h => absurd h (by simp)⟩, hB⟩
end Go.Proofs.Ytlplphgoldkoeaa.HTab
end

section
set_option linter.unusedVariables false
set_option linter.unusedSimpArgs false
namespace Go.Proofs.Ytlplphgoldkoeaa.maskPaths
open Go.ChangeShapes Go.WideShapes Go.ChangeAt Go.RowKit Go.Proofs.YtlplphgoldkoeaaW.PrintWords Go.Proofs.Ytlplphgoldkoeaa.HTab Go.Proofs.Ytlplphgoldkoeaa.X
open Go.ChangeMaps (open_string shut_string)
set_option linter.unusedVariables false
theorem own : ownKnob Try.prog.godebug = none := by kernel_rfl
theorem laidOut : laidOutB Try.prog = true := by kernel_rfl
set_option maxRecDepth 100000 in
theorem lifted (os : Os) (started : os.Started) (H : Type) (enc : TypeId × Value → H) :
    ReturnsInHanded {} Try.checked os 11 .any (Rows.maskPathsSpec.pre6 enc Try.prog Try.f11 Rows.maskPathsRow.domain false) (Rows.maskPathsSpec.post enc Try.prog Try.f11 false true false false) := by
  refine returnsInHanded_of_change_sized (C := Try.checked) own started (by kernel_rfl) Try.func11
    (ChangeSpec.witness6 (enc := enc) (C := Try.checked) false ⟨#[], #[.agg #[.int .i64 0, .slice none 0 0, .int .i64 0]], []⟩ 8 (by kernel_rfl) (by kernel_rfl) (by kernel_rfl) (by kernel_rfl)) ?_
  intro W base args ds gs before hval0 hW hcnd hsz0 _
  have hsz : (DataW.weightsEach Try.prog (Try.f11.params.toList ++ Rows.maskPathsSpec.plain.varTypes Try.prog) (ds ++ gs)).all (· ≤ reachBytes) = true := hsz0
  have hval : ∀ (j : Nat) t v, Try.f11.params[j]? = some t → args[j]? = some v → Value.okWide Try.prog W .any base t v := hval0
  have hW' := hW
  obtain ⟨p, q, hA0, hV, rfl, hfz, hnd⟩ := hW
  have hA : DataW.TrodAll enc Try.prog W 0 (fun _ => true) true Try.f11.params.toList args.toList ds p := hA0
  rw [Try.params11] at hA hval hsz
  obtain ⟨v0, vs0, d0, ds0, p0, q0, hargs, rfl, rfl, h0, r0⟩ := trodAll_cons hA
  obtain ⟨rfl, rfl, rfl⟩ := trodAll_nil r0
  obtain rfl : args = #[v0] := by cases args; simp_all
  obtain ⟨rfl, rfl⟩ := trodVars_none hV
  have k0 := h0
  have lt0 : ∀ x ∈ p0, x.block < W.heap.size := by obtain ⟨m, hm⟩ := k0; exact DataW.trod_lt m _ _ _ hm
  obtain ⟨n0, A0, c0, l0, r0_, rfl, C0, L0, B0, wn0, wr0⟩ := open_mask (hval 0 33 v0 rfl rfl) h0 hsz (j := 0) rfl rfl
  clear hA0 hval0 hsz0 hsz
  refine ((paths_any n0 r0_ A0 c0 l0 W C0 L0 B0)).mono fun e W' ⟨he, bel⟩ => ?_
  subst he
  exact ⟨_, rfl, _, _, _, [], _, [], hW', trodAll_mk1 (shut_bool Try.underlying4 _), (trodAll_cons_mk (Below.trod laidOut (by kernel_rfl) (of_decide_eq_true (by kernel_rfl)) k0 bel lt0) trodAll_mk0), rfl, bel.frame _, fun h => by cases h⟩
theorem over : Rows.maskPathsRow.holds Try.pinned (OpenSpec.ofChange Rows.maskPathsSpec) :=
  OpenClaim.holds_of_wide 11 Try.f11 rfl rfl rfl rfl rfl rfl rfl ⟨rfl, rfl, rfl, rfl, rfl⟩ rfl rfl rfl rfl rfl (by kernel_rfl) Try.func11 (by kernel_rfl)
    (of_decide_eq_true (by kernel_rfl)) (by unfold Func.isWrapper; first | (rw [if_pos (by decide +kernel)]; kernel_rfl) | (rw [if_neg (by decide +kernel)]; exact ⟨rfl, rfl⟩))
    (fun os started H enc _ => lifted os started H enc)
theorem proved : Rows.MaskPathsSaid := over
end Go.Proofs.Ytlplphgoldkoeaa.maskPaths
namespace Go.Proofs.Ytlplphgoldkoeaa
theorem maskPaths_holds : Rows.MaskPathsSaid := maskPaths.proved
end Go.Proofs.Ytlplphgoldkoeaa
#print axioms Go.Proofs.Ytlplphgoldkoeaa.maskPaths_holds
end
