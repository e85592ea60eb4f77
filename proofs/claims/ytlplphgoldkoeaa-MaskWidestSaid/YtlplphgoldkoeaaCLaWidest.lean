/- The law MaskWidest holds of the program, for every input that its statement lets in. -/
import Derived.Test.YtlplphgoldkoeaaBn
import Derived.ChangeArms
import Derived.Test.YtlplphgoldkoeaaBc
import Derived.Test.YtlplphgoldkoeaaBzl
import Derived.Test.YtlplphgoldkoeaaBj
import Derived.Test.YtlplphgoldkoeaaBza
import Derived.Test.YtlplphgoldkoeaaBzm
import Derived.Test.YtlplphgoldkoeaaBzj
import Derived.Test.YtlplphgoldkoeaaRows
import Derived.WalkKit
import Derived.ProofKit
import Derived.OpenShut
import Derived.ShutString
import Derived.ChangeOld
import Derived.Below
import Derived.SizedLaws
import Derived.Test.YtlplphgoldkoeaaBb
section
set_option linter.unusedVariables false
set_option linter.unusedSimpArgs false
namespace Go.Proofs.Ytlplphgoldkoeaa.HTab
open Go.ChangeShapes Go.WideShapes Go.ChangeAt Go.RowKit Go.Deep Go.Joins Go.Proofs.YtlplphgoldkoeaaW.PrintWords Go.Proofs.Ytlplphgoldkoeaa.X
set_option linter.unusedVariables false
set_option maxRecDepth 100000 in
theorem open_row1 {β : Type} (enc1 : β → Value) (h1 : ∀ x, (enc1 x).oneCell' = true) (dec : Option Value → β) (hdec : ∀ b, dec (some (enc1 b)) = b) (Q : β → Prop) {H : Type} {enc : TypeId × Value → H} {W : World} {r : Reach} {b0 base : Nat} {sp : Nat → Bool} {held : Bool} {v : Value} {d : DataW H} {ps : List MemPlace} {ts : List TypeId} {ds : List (DataW H)} {j : Nat} {t e : TypeId} {B : Nat}
    (hu : Try.prog.underlying t = some (.slice e)) (hone : Try.prog.cellsOf e = 1) (hB : Try.prog.bytesOf e = B) (hel : ∀ n cs x, DataW.trod enc Try.prog W base sp held n e cs = some x → ∃ b, cs = [enc1 b] ∧ Q b)
    (hval : Value.okWide Try.prog W r b0 t v) (hd : DataW.Trod enc Try.prog W base sp held t v d ps)
    (hsz : (DataW.weightsEach Try.prog ts ds).all (· ≤ reachBytes) = true) (htj : ts[j]? = some t) (hdj : ds[j]? = some d) :
    ∃ (A : Option Addr) (c : Nat) (l : List β), v = .slice A l.length c ∧ Kd.C (Kd.scalar enc1 h1) W A l.length l ∧ l.length ≤ c ∧ l.length * B ≤ 140737488351232 ∧ ∀ b ∈ l, Q b := by
  obtain ⟨a0, len0, cap0, rfl⟩ := okWide_slice hu hval
  obtain ⟨fuel, hf⟩ := hd
  rcases open_slice hu hf with ⟨hc, hx⟩ | ⟨a, len, cap, m, n, D, Pl, hcs, hb, hl, hm, hmm, hx, hi⟩
  · simp [Value.cells] at hc
    obtain ⟨rfl, rfl, rfl⟩ := hc
    exact ⟨none, 0, [], rfl, Kd.C_nil _ _, Nat.le_refl _, by simp, by simp⟩
  · simp [Value.cells] at hcs
    obtain ⟨rfl, rfl, rfl⟩ := hcs
    obtain ⟨l, hll⟩ : ∃ l : List β, l = (List.range len0).map fun i => dec (W.cell? (a.add i)) := ⟨_, rfl⟩
    have hlen : l.length = len0 := by rw [hll]; simp
    have hlm : len0 ≤ m := by rw [hmm]; split <;> omega
    have hcell : ∀ i, i < len0 → ∃ b, W.cell? (a.add i) = some (enc1 b) ∧ Q b := fun i hil => by
      obtain ⟨cs', h2, h3⟩ := hi i (by omega)
      rw [hone, Nat.mul_one] at h2
      obtain ⟨b, rfl, hq⟩ := hel _ _ _ h3
      obtain ⟨_, hcl, hat⟩ := World.cells?_some h2
      have := hat 0 (by omega)
      refine ⟨b, ?_, hq⟩
      have h4 : (a.add i).add 0 = a.add i := by unfold Addr.add; split <;> simp_all
      rw [h4] at this
      simpa using this
    have hsize : len0 * B ≤ reachBytes := by
      have hd2 : d = .slice ((List.range len0).map D) ((List.range (m - len0)).map fun j => D (len0 + j)) := by
        have := congrArg (·.1) hx
        simpa using this
      rw [hd2] at hdj
      have := sized_slice hsz htj hdj hu
      rw [hB] at this
      refine Nat.le_trans (Nat.mul_le_mul_right _ ?_) this
      simp
    have hr : reachBytes = 140737488351232 := rfl
    refine ⟨some a, cap0, l, by rw [hlen], ?_, by omega, by rw [hlen]; omega, fun b hb => ?_⟩
    · unfold maxLen at hm
      refine ⟨rfl, by omega, fun hp => ⟨a, rfl, fun i p hp2 => ?_⟩⟩
      have hil : i < len0 := by
        have := (List.getElem?_eq_some_iff.1 hp2).1
        omega
      obtain ⟨b, hc1, _⟩ := hcell i hil
      have hpe : p = b := by
        rw [hll, List.getElem?_map, List.getElem?_range hil] at hp2
        have : dec (W.cell? (a.add i)) = p := by simpa using hp2
        rw [← this, hc1, hdec]
      subst hpe
      refine ⟨[enc1 p], rfl, rfl, fun q u hq => ?_⟩
      match q, hq with
      | 0, hq =>
        simp only [List.getElem?_cons_zero, Option.some.injEq] at hq
        rw [← hq, show (Kd.scalar enc1 h1).sz = 1 from rfl, Nat.mul_one, Nat.add_zero]
        exact hc1
      | q + 1, hq => simp at hq
    · rw [hll] at hb
      obtain ⟨i, hi1, rfl⟩ := List.mem_map.1 hb
      obtain ⟨b, hc1, hq⟩ := hcell i (List.mem_range.1 hi1)
      rw [hc1, hdec]
      exact hq
section
variable {H : Type} {enc : TypeId × Value → H} {W : World} {r : Reach} {b0 base : Nat} {sp : Nat → Bool} {held : Bool} {v : Value} {d : DataW H} {ps : List MemPlace} {ts : List TypeId} {ds : List (DataW H)} {j : Nat}
set_option maxRecDepth 100000 in
theorem open_ints_ (hval : Value.okWide Try.prog W r b0 82 v) (hd : DataW.Trod enc Try.prog W base sp held 82 v d ps) (hsz : (DataW.weightsEach Try.prog ts ds).all (· ≤ reachBytes) = true) (htj : ts[j]? = some 82) (hdj : ds[j]? = some d) :
    ∃ (A : Option Addr) (c : Nat) (l : List Int), v = .slice A l.length c ∧ Kd.C (Kd.int .i64) W A l.length l ∧ l.length ≤ c ∧ l.length * 8 ≤ 140737488351232 ∧ ∀ n ∈ l, (Lit.int .i64 n).wf = true :=
  open_row1 (Value.int .i64) (fun _ => rfl) intAt (fun _ => rfl) (fun n => (Lit.int .i64 n).wf = true) Try.underlying82 (by kernel_rfl) (B := 8) (by kernel_rfl) (fun n cs x h => by
    obtain ⟨b, e, _, w⟩ := DataW.trod_int Try.underlying3 h
    exact ⟨b, e, w⟩) hval hd hsz htj hdj
end
end Go.Proofs.Ytlplphgoldkoeaa.HTab
end

section
set_option linter.unusedVariables false
set_option linter.unusedSimpArgs false
namespace Go.Proofs.Ytlplphgoldkoeaa.X
open Go.RowKit Go.Proofs.YtlplphgoldkoeaaW.PrintWords Go.Proofs.YtlplphgoldkoeaaW.PrintLast Go.Proofs.YtlplphgoldkoeaaW.PrintMore
attribute [local go_sem] max2_int min2_int max_two min_two max_three min_three max_four min_four   -- for this text's walks alone
set_option linter.unusedVariables false
set_option linter.unusedSimpArgs false
mutual
def cantinglaw02_MaskWidest.j0 : Nat → List Int → List Int → Int → Bool → Int → List (S106) → Int → Option (Bool)
  | 0, _, _, _, _, _, _, _ => none
  | k + 1, x1, x5, x6, x36, x1287000, x1287001, x1287002 => if x36 = true then (if x6 = 0 then (if (x1.length : Int) = x1287000 then (some false) else ((cantinglaw02_awake.f k).bind fun t1296 => (some t1296))) else ((cantinglaw02_awake.f k).bind fun t1297 => (some t1297))) else (cantinglaw02_MaskWidest.l0 k x1 x5 0 0 x1 (x1.length : Int) 0 x1287000 x1287001 x1287002)
def cantinglaw02_MaskWidest.l0 : Nat → List Int → List Int → Int → Int → List Int → Int → Int → Int → List (S106) → Int → Option (Bool)
  | 0, _, _, _, _, _, _, _, _, _, _ => none
  | k + 1, x1, x5, x7, x8, x49, x50, x51, x1287000, x1287001, x1287002 => if x51 < x50 then (if 0 ≤ x51 then (if x51 < (x49.length : Int) then (if (rd x49 x51) < 0 then (cantinglaw02_MaskWidest.j2 k x1 x5 x7 x8 x51 (rd x49 x51) x49 x50 x51 true x1287000 x1287001 x1287002) else (cantinglaw02_MaskWidest.j2 k x1 x5 x7 x8 x51 (rd x49 x51) x49 x50 x51 (decide ((rd x49 x51) > 2)) x1287000 x1287001 x1287002)) else (none)) else (none)) else (if 0 ≤ x1287000 then (cantinglaw02_MaskWidest.l1 k x1 x5 x7 x8 true (shl .i64 1 x1287000) 0 x1287000 x1287001 x1287002) else (none))
def cantinglaw02_MaskWidest.j2 : Nat → List Int → List Int → Int → Int → Int → Int → List Int → Int → Int → Bool → Int → List (S106) → Int → Option (Bool)
  | 0, _, _, _, _, _, _, _, _, _, _, _, _, _ => none
  | k + 1, x1, x5, x7, x8, x9, x10, x49, x50, x51, x61, x1287000, x1287001, x1287002 => if x61 = true then ((cantinglaw02_awake.f k).bind fun t1299 => (some t1299)) else (if x10 = 2 then (if 0 ≤ x9 then (if x9 < (x5.length : Int) then (if (rd x5 x9) = 2 then (cantinglaw02_MaskWidest.l0 k x1 x5 (wrap64 (x7 + 1)) (wrap64 (x8 + 1)) x49 x50 (wrap64 (x51 + 1)) x1287000 x1287001 x1287002) else (cantinglaw02_MaskWidest.l0 k x1 x5 (wrap64 (x7 + 1)) x8 x49 x50 (wrap64 (x51 + 1)) x1287000 x1287001 x1287002)) else (none)) else (none)) else (if 0 ≤ x9 then (if x9 < (x5.length : Int) then (if (rd x5 x9) = 2 then (cantinglaw02_MaskWidest.l0 k x1 x5 x7 (wrap64 (x8 + 1)) x49 x50 (wrap64 (x51 + 1)) x1287000 x1287001 x1287002) else (cantinglaw02_MaskWidest.l0 k x1 x5 x7 x8 x49 x50 (wrap64 (x51 + 1)) x1287000 x1287001 x1287002)) else (none)) else (none)))
def cantinglaw02_MaskWidest.l1 : Nat → List Int → List Int → Int → Int → Bool → Int → Int → Int → List (S106) → Int → Option (Bool)
  | 0, _, _, _, _, _, _, _, _, _, _ => none
  | k + 1, x1, x5, x7, x8, x11, x77, x78, x1287000, x1287001, x1287002 => if x78 < x77 then ((cantinglaw02_of.f k x1287000 x1287001 x1287002).bind fun bt1306 => ((mask_At.f k bt1306.1 bt1306.2.1 bt1306.2.2 x78).bind fun bt1311 => (if bt1311.2 = 0 then ((cantinglaw02_inside.f k x1287000 x78 x5).bind fun t1313 => (if t1313 = true then (if bt1311.1 = true then (if x11 = true then (cantinglaw02_MaskWidest.l1 k x1 x5 x7 x8 true x77 (wrap64 (x78 + 1)) x1287000 x1287001 x1287002) else (cantinglaw02_MaskWidest.l1 k x1 x5 x7 x8 false x77 (wrap64 (x78 + 1)) x1287000 x1287001 x1287002)) else (some false)) else (if x11 = true then (if bt1311.1 = true then (cantinglaw02_MaskWidest.l1 k x1 x5 x7 x8 true x77 (wrap64 (x78 + 1)) x1287000 x1287001 x1287002) else ((cantinglaw02_inside.f k x1287000 x78 x1).bind fun t1314 => (cantinglaw02_MaskWidest.l1 k x1 x5 x7 x8 (!t1314) x77 (wrap64 (x78 + 1)) x1287000 x1287001 x1287002))) else (cantinglaw02_MaskWidest.l1 k x1 x5 x7 x8 false x77 (wrap64 (x78 + 1)) x1287000 x1287001 x1287002)))) else (some false)))) else (if x11 = true then (if x7 < x8 then ((cantinglaw02_awake.f k).bind fun t1302 => (some t1302)) else (if x7 = x8 then ((slices_Compare_int_int.f k x5 x1).bind fun t1303 => (if t1303 ≤ 0 then ((cantinglaw02_awake.f k).bind fun t1304 => (some t1304)) else (some false))) else (some false))) else ((cantinglaw02_awake.f k).bind fun t1305 => (some t1305)))
end
def cantinglaw02_MaskWidest.f (k : Nat) (a0_0 : Int) (l0_1 : List (S106)) (a0_2 : Int) (l1 : List Int) : Option (Bool) := (cantinglaw02_of.f k a0_0 l0_1 a0_2).bind fun bt1287 => ((mask_Least.f bt1287.1 bt1287.2.1 bt1287.2.2).bind fun bt1292 => (if bt1292.2 = 0 then (if (l1.length : Int) = a0_0 then (cantinglaw02_MaskWidest.j0 k l1 bt1292.1 bt1292.2 ((bt1292.1.length : Int) != a0_0) a0_0 l0_1 a0_2) else (cantinglaw02_MaskWidest.j0 k l1 bt1292.1 bt1292.2 true a0_0 l0_1 a0_2)) else (cantinglaw02_MaskWidest.j0 k l1 bt1292.1 bt1292.2 true a0_0 l0_1 a0_2)))
theorem cantinglaw02_MaskWidest.mono_l : ∀ k, (∀ y0 y1 y2 y3 y4 y5 y6, LeO (cantinglaw02_MaskWidest.j0 k y0 y1 y2 y3 y4 y5 y6) (cantinglaw02_MaskWidest.j0 (k + 1) y0 y1 y2 y3 y4 y5 y6)) ∧ (∀ y0 y1 y2 y3 y4 y5 y6 y7 y8 y9, LeO (cantinglaw02_MaskWidest.l0 k y0 y1 y2 y3 y4 y5 y6 y7 y8 y9) (cantinglaw02_MaskWidest.l0 (k + 1) y0 y1 y2 y3 y4 y5 y6 y7 y8 y9)) ∧ (∀ y0 y1 y2 y3 y4 y5 y6 y7 y8 y9 y10 y11 y12, LeO (cantinglaw02_MaskWidest.j2 k y0 y1 y2 y3 y4 y5 y6 y7 y8 y9 y10 y11 y12) (cantinglaw02_MaskWidest.j2 (k + 1) y0 y1 y2 y3 y4 y5 y6 y7 y8 y9 y10 y11 y12)) ∧ (∀ y0 y1 y2 y3 y4 y5 y6 y7 y8 y9, LeO (cantinglaw02_MaskWidest.l1 k y0 y1 y2 y3 y4 y5 y6 y7 y8 y9) (cantinglaw02_MaskWidest.l1 (k + 1) y0 y1 y2 y3 y4 y5 y6 y7 y8 y9))
  | 0 => ⟨fun _ _ _ _ _ _ _ r h => by simp [cantinglaw02_MaskWidest.j0] at h, fun _ _ _ _ _ _ _ _ _ _ r h => by simp [cantinglaw02_MaskWidest.l0] at h, fun _ _ _ _ _ _ _ _ _ _ _ _ _ r h => by simp [cantinglaw02_MaskWidest.j2] at h, fun _ _ _ _ _ _ _ _ _ _ r h => by simp [cantinglaw02_MaskWidest.l1] at h⟩
  | k + 1 => by
    obtain ⟨ih0, ih1, ih2, ih3⟩ := cantinglaw02_MaskWidest.mono_l k
    refine ⟨?_, ?_, ?_, ?_⟩
    · intro y0 y1 y2 y3 y4 y5 y6
      unfold cantinglaw02_MaskWidest.j0
      repeat' first
      | (with_reducible exact ih0 _ _ _ _ _ _ _)
      | (with_reducible exact ih1 _ _ _ _ _ _ _ _ _ _)
      | (with_reducible exact ih2 _ _ _ _ _ _ _ _ _ _ _ _ _)
      | (with_reducible exact ih3 _ _ _ _ _ _ _ _ _ _)
      | (with_reducible exact cantinglaw02_awake.mono _)
      | (with_reducible exact cantinglaw02_inside.mono _ _ _ _)
      | (with_reducible exact cantinglaw02_of.mono _ _ _ _)
      | (with_reducible exact mask_At.mono _ _ _ _ _)
      | (with_reducible exact slices_Compare_int_int.mono _ _ _)
      | (with_reducible exact LeO.refl _)
      | (with_reducible exact LeO.none _)
      | (with_reducible refine LeO.ite ?_ ?_)
      | (with_reducible refine LeO.bind ?_ (fun _ => ?_))
      | exact ih0 _ _ _ _ _ _ _
      | exact ih1 _ _ _ _ _ _ _ _ _ _
      | exact ih2 _ _ _ _ _ _ _ _ _ _ _ _ _
      | exact ih3 _ _ _ _ _ _ _ _ _ _
      | exact cantinglaw02_awake.mono _
      | exact cantinglaw02_inside.mono _ _ _ _
      | exact cantinglaw02_of.mono _ _ _ _
      | exact mask_At.mono _ _ _ _ _
      | exact slices_Compare_int_int.mono _ _ _
      | exact LeO.none _
      | refine LeO.ite ?_ ?_
      | refine LeO.bind ?_ (fun _ => ?_)
    · intro y0 y1 y2 y3 y4 y5 y6 y7 y8 y9
      unfold cantinglaw02_MaskWidest.l0
      repeat' first
      | (with_reducible exact ih0 _ _ _ _ _ _ _)
      | (with_reducible exact ih1 _ _ _ _ _ _ _ _ _ _)
      | (with_reducible exact ih2 _ _ _ _ _ _ _ _ _ _ _ _ _)
      | (with_reducible exact ih3 _ _ _ _ _ _ _ _ _ _)
      | (with_reducible exact cantinglaw02_awake.mono _)
      | (with_reducible exact cantinglaw02_inside.mono _ _ _ _)
      | (with_reducible exact cantinglaw02_of.mono _ _ _ _)
      | (with_reducible exact mask_At.mono _ _ _ _ _)
      | (with_reducible exact slices_Compare_int_int.mono _ _ _)
      | (with_reducible exact LeO.refl _)
      | (with_reducible exact LeO.none _)
      | (with_reducible refine LeO.ite ?_ ?_)
      | (with_reducible refine LeO.bind ?_ (fun _ => ?_))
      | exact ih0 _ _ _ _ _ _ _
      | exact ih1 _ _ _ _ _ _ _ _ _ _
      | exact ih2 _ _ _ _ _ _ _ _ _ _ _ _ _
      | exact ih3 _ _ _ _ _ _ _ _ _ _
      | exact cantinglaw02_awake.mono _
      | exact cantinglaw02_inside.mono _ _ _ _
      | exact cantinglaw02_of.mono _ _ _ _
      | exact mask_At.mono _ _ _ _ _
      | exact slices_Compare_int_int.mono _ _ _
      | exact LeO.none _
      | refine LeO.ite ?_ ?_
      | refine LeO.bind ?_ (fun _ => ?_)
    · intro y0 y1 y2 y3 y4 y5 y6 y7 y8 y9 y10 y11 y12
      unfold cantinglaw02_MaskWidest.j2
      repeat' first
      | (with_reducible exact ih0 _ _ _ _ _ _ _)
      | (with_reducible exact ih1 _ _ _ _ _ _ _ _ _ _)
      | (with_reducible exact ih2 _ _ _ _ _ _ _ _ _ _ _ _ _)
      | (with_reducible exact ih3 _ _ _ _ _ _ _ _ _ _)
      | (with_reducible exact cantinglaw02_awake.mono _)
      | (with_reducible exact cantinglaw02_inside.mono _ _ _ _)
      | (with_reducible exact cantinglaw02_of.mono _ _ _ _)
      | (with_reducible exact mask_At.mono _ _ _ _ _)
      | (with_reducible exact slices_Compare_int_int.mono _ _ _)
      | (with_reducible exact LeO.refl _)
      | (with_reducible exact LeO.none _)
      | (with_reducible refine LeO.ite ?_ ?_)
      | (with_reducible refine LeO.bind ?_ (fun _ => ?_))
      | exact ih0 _ _ _ _ _ _ _
      | exact ih1 _ _ _ _ _ _ _ _ _ _
      | exact ih2 _ _ _ _ _ _ _ _ _ _ _ _ _
      | exact ih3 _ _ _ _ _ _ _ _ _ _
      | exact cantinglaw02_awake.mono _
      | exact cantinglaw02_inside.mono _ _ _ _
      | exact cantinglaw02_of.mono _ _ _ _
      | exact mask_At.mono _ _ _ _ _
      | exact slices_Compare_int_int.mono _ _ _
      | exact LeO.none _
      | refine LeO.ite ?_ ?_
      | refine LeO.bind ?_ (fun _ => ?_)
    · intro y0 y1 y2 y3 y4 y5 y6 y7 y8 y9
      unfold cantinglaw02_MaskWidest.l1
      repeat' first
      | (with_reducible exact ih0 _ _ _ _ _ _ _)
      | (with_reducible exact ih1 _ _ _ _ _ _ _ _ _ _)
      | (with_reducible exact ih2 _ _ _ _ _ _ _ _ _ _ _ _ _)
      | (with_reducible exact ih3 _ _ _ _ _ _ _ _ _ _)
      | (with_reducible exact cantinglaw02_awake.mono _)
      | (with_reducible exact cantinglaw02_inside.mono _ _ _ _)
      | (with_reducible exact cantinglaw02_of.mono _ _ _ _)
      | (with_reducible exact mask_At.mono _ _ _ _ _)
      | (with_reducible exact slices_Compare_int_int.mono _ _ _)
      | (with_reducible exact LeO.refl _)
      | (with_reducible exact LeO.none _)
      | (with_reducible refine LeO.ite ?_ ?_)
      | (with_reducible refine LeO.bind ?_ (fun _ => ?_))
      | exact ih0 _ _ _ _ _ _ _
      | exact ih1 _ _ _ _ _ _ _ _ _ _
      | exact ih2 _ _ _ _ _ _ _ _ _ _ _ _ _
      | exact ih3 _ _ _ _ _ _ _ _ _ _
      | exact cantinglaw02_awake.mono _
      | exact cantinglaw02_inside.mono _ _ _ _
      | exact cantinglaw02_of.mono _ _ _ _
      | exact mask_At.mono _ _ _ _ _
      | exact slices_Compare_int_int.mono _ _ _
      | exact LeO.none _
      | refine LeO.ite ?_ ?_
      | refine LeO.bind ?_ (fun _ => ?_)
theorem cantinglaw02_MaskWidest.mono : ∀ a0 a1 a2 a3 k, LeO (cantinglaw02_MaskWidest.f k a0 a1 a2 a3) (cantinglaw02_MaskWidest.f (k + 1) a0 a1 a2 a3) := by
  intro a0 a1 a2 a3 k
  obtain ⟨ih0, ih1, ih2, ih3⟩ := cantinglaw02_MaskWidest.mono_l k
  unfold cantinglaw02_MaskWidest.f
  repeat' first
      | (with_reducible exact ih0 _ _ _ _ _ _ _)
      | (with_reducible exact ih1 _ _ _ _ _ _ _ _ _ _)
      | (with_reducible exact ih2 _ _ _ _ _ _ _ _ _ _ _ _ _)
      | (with_reducible exact ih3 _ _ _ _ _ _ _ _ _ _)
      | (with_reducible exact cantinglaw02_awake.mono _)
      | (with_reducible exact cantinglaw02_inside.mono _ _ _ _)
      | (with_reducible exact cantinglaw02_of.mono _ _ _ _)
      | (with_reducible exact mask_At.mono _ _ _ _ _)
      | (with_reducible exact slices_Compare_int_int.mono _ _ _)
      | (with_reducible exact LeO.refl _)
      | (with_reducible exact LeO.none _)
      | (with_reducible refine LeO.ite ?_ ?_)
      | (with_reducible refine LeO.bind ?_ (fun _ => ?_))
      | exact ih0 _ _ _ _ _ _ _
      | exact ih1 _ _ _ _ _ _ _ _ _ _
      | exact ih2 _ _ _ _ _ _ _ _ _ _ _ _ _
      | exact ih3 _ _ _ _ _ _ _ _ _ _
      | exact cantinglaw02_awake.mono _
      | exact cantinglaw02_inside.mono _ _ _ _
      | exact cantinglaw02_of.mono _ _ _ _
      | exact mask_At.mono _ _ _ _ _
      | exact slices_Compare_int_int.mono _ _ _
      | exact LeO.none _
      | refine LeO.ite ?_ ?_
      | refine LeO.bind ?_ (fun _ => ?_)
set_option maxHeartbeats 8000000 in
set_option maxRecDepth 100000 in
theorem cantinglaw02_MaskWidest.calls (k : Nat) (a0_0 : Int) (A0_1 : Option Addr) (c0_1 : Nat) (l0_1 : List (S106)) (a0_2 : Int) (A1 : Option Addr) (c1 : Nat) (l1 : List Int) (r : Bool) (w : World) (hr0_1 : Kd.C k106 w A0_1 l0_1.length l0_1) (hc0_1 : l0_1.length ≤ c0_1) (hr1 : Kd.C (Kd.int .i64) w A1 l1.length l1) (hc1 : l1.length ≤ c1) (h : cantinglaw02_MaskWidest.f k a0_0 l0_1 a0_2 l1 = some r) :
    Calls Try.prog 16 #[.agg #[.int .i64 a0_0, .slice A0_1 l0_1.length c0_1, .int .i64 a0_2], .slice A1 l1.length c1] w fun e w' => e = .returned (.bool r) ∧ Below w.heap.size w w' := by
  have hu33 := Try.underlying33
  have HR0_1 := Aside0.mk hr0_1
  have HC0_1 := Aside0.mk hc0_1
  clear hr0_1 hc0_1
  have HR1 := Aside0.mk hr1
  have HC1 := Aside0.mk hc1
  clear hr1 hc1
  have HB := Aside0.mk (Below.refl w.heap.size w)
  have H : ((cantinglaw02_of.f k a0_0 l0_1 a0_2).bind fun bt1287 => ((mask_Least.f bt1287.1 bt1287.2.1 bt1287.2.2).bind fun bt1292 => (if bt1292.2 = 0 then (if (l1.length : Int) = a0_0 then (cantinglaw02_MaskWidest.j0 k l1 bt1292.1 bt1292.2 ((bt1292.1.length : Int) != a0_0) a0_0 l0_1 a0_2) else (cantinglaw02_MaskWidest.j0 k l1 bt1292.1 bt1292.2 true a0_0 l0_1 a0_2)) else (cantinglaw02_MaskWidest.j0 k l1 bt1292.1 bt1292.2 true a0_0 l0_1 a0_2)))) = some r := h
  clear h
  replace H := Option.bind_eq_some_iff.mp H
  obtain ⟨⟨t1287, t1288, t1291⟩, A30, H⟩ := H
  replace H : ((mask_Least.f t1287 t1288 t1291).bind fun bt1292 => (if bt1292.2 = 0 then (if (l1.length : Int) = a0_0 then (cantinglaw02_MaskWidest.j0 k l1 bt1292.1 bt1292.2 ((bt1292.1.length : Int) != a0_0) a0_0 l0_1 a0_2) else (cantinglaw02_MaskWidest.j0 k l1 bt1292.1 bt1292.2 true a0_0 l0_1 a0_2)) else (cantinglaw02_MaskWidest.j0 k l1 bt1292.1 bt1292.2 true a0_0 l0_1 a0_2))) = some r := H
  have A3 := Aside0.mk A30
  clear A30
  replace H := Option.bind_eq_some_iff.mp H
  obtain ⟨⟨t1292, t1295⟩, A40, H⟩ := H
  replace H : (if t1295 = 0 then (if (l1.length : Int) = a0_0 then (cantinglaw02_MaskWidest.j0 k l1 t1292 t1295 ((t1292.length : Int) != a0_0) a0_0 l0_1 a0_2) else (cantinglaw02_MaskWidest.j0 k l1 t1292 t1295 true a0_0 l0_1 a0_2)) else (cantinglaw02_MaskWidest.j0 k l1 t1292 t1295 true a0_0 l0_1 a0_2)) = some r := H
  have A4 := Aside0.mk A40
  clear A40
  have HC5 := Aside0.mk H
  clear H
  go_enter Try.func16, Try.ntmps16
  go_upto_region 2 with (first | ((with_reducible refine gate_dst (N := 2) rfl ?_); (try (refine gate_guard (by rfl) ?_; dsimp only)); refine box_event ?hg (N := 2) ?hd (cs := #[.int .i64 a0_0, .slice A0_1 l0_1.length c0_1, .int .i64 a0_2]) (t := 33) ?hr ?_; (case hd => rfl); (case hg => rfl); (case hr => first | (go_simp; done) | (go_simp; rfl)); intro gb1286 hg w6 hbox hb; have n0_ := Aside0.mk (below_step (by repeat (first | (with_reducible first | exact HB.out | apply below_alloc | apply pw_below_drewN | apply below_drew1) | exact HB.out)) hb); have n1_ := Aside0.mk (hbox); have n2_ := Aside0.mk ((by rw [hg]; exact (below_size (by repeat (first | (with_reducible first | exact HB.out | apply below_alloc | apply pw_below_drewN | apply below_drew1) | exact HB.out))) : w.heap.size ≤ gb1286)); have n3_ := Aside0.mk ((by rw [hg]; exact (below_size (by repeat (first | (with_reducible first | exact HB.out | apply below_alloc | apply pw_below_drewN | apply below_drew1) | exact HB.out))) : w.heap.size ≤ gb1286)); clear HB; have HB := n0_; have BK1286 := n1_; have GW1286 := n2_; have GE1286 := n3_; clear n0_ n1_ n2_ n3_; clear hb hbox hg; have hcz7_0 : w6.cell? ⟨gb1286, 0, none⟩ = some (.int .i64 a0_0) := (blk_cell BK1286.out 0).trans rfl; have hcz7_1 : w6.cell? ⟨gb1286, 1, none⟩ = some (.slice A0_1 l0_1.length c0_1) := (blk_cell BK1286.out 1).trans rfl; have hcz7_2 : w6.cell? ⟨gb1286, 2, none⟩ = some (.int .i64 a0_2) := (blk_cell BK1286.out 2).trans rfl; have hfz7_0 := blk_frozen BK1286.out 0; have hfz7_1 := blk_frozen BK1286.out 1; have hfz7_2 := blk_frozen BK1286.out 2) | ((with_reducible refine gate_callee (f := 30) rfl ?_); refine goesL_ (some 17) rfl rfl Try.func30 (by kernel_rfl) rfl #[.agg #[.int .i64 a0_0, .slice A0_1 l0_1.length c0_1, .int .i64 a0_2]] rfl (by (try simp only [List.map_toArray, List.map_cons, List.map_nil]); first | done | rfl | (simp only [List.length_drop, List.length_take]; rfl)) ?_; (with_reducible refine (cantinglaw02_of.calls k a0_0 _ _ l0_1 a0_2 t1287 t1288 t1291 _ ?side1 ?side2 A3.out).mono ?_); (case side1 => repeat (first | exact (Kd.C_below HR0_1.out HB.out) | (with_reducible refine Kd.C_alloc ?_ _) | (with_reducible refine Kd.C_drewN ?_ _) | (with_reducible refine Kd.C_drew ?_))); (case side2 => exact HC0_1.out); rintro e w8 ⟨v1289, rfl, ho0, hb⟩; refine ⟨_, rfl, ?_⟩; have n0_ := Aside0.mk (Kd.R_lower ho0 (below_size (by repeat (first | (with_reducible first | exact HB.out | apply below_alloc | apply pw_below_drewN | apply below_drew1 | refine below_set ?_ GE1286.out) | exact HB.out)))); have n1_ := Aside0.mk (blk_below (g := gb1286) (o := .cells #[.int .i64 a0_0, .slice A0_1 l0_1.length c0_1, .int .i64 a0_2] 33 (0, 0)) (by (with_reducible repeat (first | refine blk_drewN ?_ _ | refine blk_drew ?_ | refine blk_alloc ?_ _)); exact BK1286.out) hb); have n2_ := Aside0.mk (below_step (by repeat (first | (with_reducible first | exact HB.out | apply below_alloc | apply pw_below_drewN | apply below_drew1 | refine below_set ?_ GE1286.out) | exact HB.out)) hb); clear BK1286; clear HB; have HO1290 := n0_; have BK1286 := n1_; have HB := n2_; clear n0_ n1_ n2_; (try clear hb); (try clear hb2); (try clear hk); (try clear hi); (try clear ho0); obtain ⟨Ao9, co9, eo9⟩ := Kd.R_slice HO1290.out; subst eo9) | ((with_reducible refine gate_callee (f := 72) rfl ?_); refine goesL_ (some 18) rfl rfl Try.func72 (by kernel_rfl) rfl #[.agg #[.int .i64 t1287, .slice Ao9 t1288.length co9, .int .i64 t1291]] rfl (by (try simp only [List.map_toArray, List.map_cons, List.map_nil]); first | done | rfl | (simp only [List.length_drop, List.length_take]; rfl)) ?_; (with_reducible refine (mask_Least.calls t1287 _ _ t1288 t1291 t1292 t1295 _ ?side1 ?side2 A4.out).mono ?_); (case side1 => repeat (first | exact (Kd.R_reads' HO1290.out).2.2 | (with_reducible refine Kd.C_alloc ?_ _) | (with_reducible refine Kd.C_drewN ?_ _) | (with_reducible refine Kd.C_drew ?_))); (case side2 => exact (Kd.R_reads' HO1290.out).2.1); rintro e w10 ⟨v1293, rfl, ho0, hb⟩; refine ⟨_, rfl, ?_⟩; have n0_ := Aside0.mk (Kd.R_below (by (with_reducible repeat (first | apply Kd.R_alloc | apply Kd.R_drewN | apply Kd.R_drew)); exact HO1290.out) hb); have n1_ := Aside0.mk (Kd.R_lower ho0 (below_size (by repeat (first | (with_reducible first | exact HB.out | apply below_alloc | apply pw_below_drewN | apply below_drew1 | refine below_set ?_ GE1286.out) | exact HB.out)))); have n2_ := Aside0.mk (blk_below (g := gb1286) (o := .cells #[.int .i64 a0_0, .slice A0_1 l0_1.length c0_1, .int .i64 a0_2] 33 (0, 0)) (by (with_reducible repeat (first | refine blk_drewN ?_ _ | refine blk_drew ?_ | refine blk_alloc ?_ _)); exact BK1286.out) hb); have n3_ := Aside0.mk (below_step (by repeat (first | (with_reducible first | exact HB.out | apply below_alloc | apply pw_below_drewN | apply below_drew1 | refine below_set ?_ GE1286.out) | exact HB.out)) hb); clear HO1290; clear BK1286; clear HB; have HO1290 := n0_; have HO1294 := n1_; have BK1286 := n2_; have HB := n3_; clear n0_ n1_ n2_ n3_; (try clear hb); (try clear hb2); (try clear hk); (try clear hi); (try clear ho0)))
  (try simp only [Act.put, List.setIfInBounds_toArray, List.set_cons_zero, List.set_cons_succ])
  go_cut [36] (fun v36 wc => ∃ (kq : Nat) (x36_4 : Bool), v36 = .bool x36_4 ∧ Aside0 (cantinglaw02_MaskWidest.j0 kq l1 t1292 t1295 x36_4 a0_0 l0_1 a0_2 = some r) ∧ Aside0 (kq ≤ k) ∧ Aside0 (Kd.R (Kd.int .i64) 3 wc w.heap.size (fun _ => True) v1293 t1292) ∧ Aside0 (wc.heap[gb1286]? = some (.cells #[.int .i64 a0_0, (.slice A0_1 l0_1.length c0_1), .int .i64 a0_2] 33 (0, 0))) ∧ Aside0 (Below w.heap.size w wc))
  case first =>
    have H := HC5.out
    clear HC5
    by_cases c11 : t1295 = 0
    · rw [if_pos c11] at H
      have c11b0 : (t1295 == 0) = true := beq_iff_eq.mpr c11
      have c11b1 : (t1295 != 0) = false := bne_eq_false_iff_eq.mpr c11
      clear c11
      (first | rw [c11b0] | (simp only [i64_w, i32_w]; rw [c11b0]) | skip)
      by_cases c12 : (l1.length : Int) = a0_0
      · rw [if_pos c12] at H
        have c12b0 : ((l1.length : Int) == a0_0) = true := beq_iff_eq.mpr c12
        have c12b1 : ((l1.length : Int) != a0_0) = false := bne_eq_false_iff_eq.mpr c12
        clear c12
        have H' := Aside0.mk H
        clear H
        have hcz13_0 : w10.cell? ⟨gb1286, 0, none⟩ = some (.int .i64 a0_0) := (blk_cell BK1286.out 0).trans rfl
        have hcz13_1 : w10.cell? ⟨gb1286, 1, none⟩ = some (.slice A0_1 l0_1.length c0_1) := (blk_cell BK1286.out 1).trans rfl
        have hcz13_2 : w10.cell? ⟨gb1286, 2, none⟩ = some (.int .i64 a0_2) := (blk_cell BK1286.out 2).trans rfl
        have hfz13_0 := blk_frozen BK1286.out 0
        have hfz13_1 := blk_frozen BK1286.out 1
        have hfz13_2 := blk_frozen BK1286.out 2
        obtain ⟨Ao14, co14, eo14⟩ := Kd.R_slice HO1294.out
        subst eo14
        go_wp2
        go_meet
        case rel => exact ⟨_, (((t1292.length : Int) != a0_0)), (by first | rfl | (simp; done) | (simp [*]; done)), H', ⟨by first | omega | exact Nat.le_refl _⟩, ⟨by (with_reducible repeat (first | apply Kd.R_alloc | apply Kd.R_drewN | apply Kd.R_drew)); exact HO1294.out⟩, ⟨by (with_reducible repeat (first | refine blk_drewN ?_ _ | refine blk_drew ?_ | refine blk_alloc ?_ _)); exact BK1286.out⟩, ⟨by repeat (first | (with_reducible first | exact HB.out | apply below_alloc | apply pw_below_drewN | apply below_drew1 | refine below_set ?_ GE1286.out) | exact HB.out)⟩⟩
      · rw [if_neg c12] at H
        have c12b0 : ((l1.length : Int) == a0_0) = false := beq_eq_false_iff_ne.mpr c12
        have c12b1 : ((l1.length : Int) != a0_0) = true := bne_iff_ne.mpr c12
        have H' := Aside0.mk H
        clear H
        have hcz15_0 : w10.cell? ⟨gb1286, 0, none⟩ = some (.int .i64 a0_0) := (blk_cell BK1286.out 0).trans rfl
        have hcz15_1 : w10.cell? ⟨gb1286, 1, none⟩ = some (.slice A0_1 l0_1.length c0_1) := (blk_cell BK1286.out 1).trans rfl
        have hcz15_2 : w10.cell? ⟨gb1286, 2, none⟩ = some (.int .i64 a0_2) := (blk_cell BK1286.out 2).trans rfl
        have hfz15_0 := blk_frozen BK1286.out 0
        have hfz15_1 := blk_frozen BK1286.out 1
        have hfz15_2 := blk_frozen BK1286.out 2
        go_wp2
        go_meet
        case rel => exact ⟨_, (true), (by first | rfl | (simp; done) | (simp [*]; done)), H', ⟨by first | omega | exact Nat.le_refl _⟩, ⟨by (with_reducible repeat (first | apply Kd.R_alloc | apply Kd.R_drewN | apply Kd.R_drew)); exact HO1294.out⟩, ⟨by (with_reducible repeat (first | refine blk_drewN ?_ _ | refine blk_drew ?_ | refine blk_alloc ?_ _)); exact BK1286.out⟩, ⟨by repeat (first | (with_reducible first | exact HB.out | apply below_alloc | apply pw_below_drewN | apply below_drew1 | refine below_set ?_ GE1286.out) | exact HB.out)⟩⟩
    · rw [if_neg c11] at H
      have c11b0 : (t1295 == 0) = false := beq_eq_false_iff_ne.mpr c11
      have c11b1 : (t1295 != 0) = true := bne_iff_ne.mpr c11
      (first | rw [c11b0] | (simp only [i64_w, i32_w]; rw [c11b0]) | skip)
      have H' := Aside0.mk H
      clear H
      go_wp2
      go_meet
      case rel => exact ⟨_, (true), (by first | rfl | (simp; done) | (simp [*]; done)), H', ⟨by first | omega | exact Nat.le_refl _⟩, ⟨by (with_reducible repeat (first | apply Kd.R_alloc | apply Kd.R_drewN | apply Kd.R_drew)); exact HO1294.out⟩, ⟨by (with_reducible repeat (first | refine blk_drewN ?_ _ | refine blk_drew ?_ | refine blk_alloc ?_ _)); exact BK1286.out⟩, ⟨by repeat (first | (with_reducible first | exact HB.out | apply below_alloc | apply pw_below_drewN | apply below_drew1 | refine below_set ?_ GE1286.out) | exact HB.out)⟩⟩
  case rest =>
    clear HC5
    try clear c1
    try clear p2
    try clear c3
    try clear c7
    try clear c11
    try clear c11b0
    try clear c11b1
    try clear c12
    try clear c12b0
    try clear c12b1
    try clear hcz13_0
    try clear hcz13_1
    try clear hcz13_2
    try clear hcz15_0
    try clear hcz15_1
    try clear hcz15_2
    try clear hcz7_0
    try clear hcz7_1
    try clear hcz7_2
    try clear hfz13_0
    try clear hfz13_1
    try clear hfz13_2
    try clear hfz15_0
    try clear hfz15_1
    try clear hfz15_2
    try clear hfz7_0
    try clear hfz7_1
    try clear hfz7_2
    obtain ⟨kq, x36_4, rfl, HA, HJ4, HO_5, BK1286, HB⟩ := hcut
    cases kq with
    | zero => exact absurd HA.out (by simp [cantinglaw02_MaskWidest.j0])
    | succ kj4 =>
      have H := HA.out
      clear HA
      simp only [cantinglaw02_MaskWidest.j0] at H
      by_cases c16 : x36_4 = true
      · subst c16
        have H1 : (if t1295 = 0 then (if (l1.length : Int) = a0_0 then (some false) else ((cantinglaw02_awake.f kj4).bind fun t1296 => (some t1296))) else ((cantinglaw02_awake.f kj4).bind fun t1297 => (some t1297))) = some r := by rw [if_pos rfl] at H; exact H
        clear H
        have H := H1
        clear H1
        by_cases c17 : t1295 = 0
        · rw [if_pos c17] at H
          have c17b0 : (t1295 == 0) = true := beq_iff_eq.mpr c17
          have c17b1 : (t1295 != 0) = false := bne_eq_false_iff_eq.mpr c17
          clear c17
          by_cases c18 : (l1.length : Int) = a0_0
          · rw [if_pos c18] at H
            have c18b0 : ((l1.length : Int) == a0_0) = true := beq_iff_eq.mpr c18
            have c18b1 : ((l1.length : Int) != a0_0) = false := bne_eq_false_iff_eq.mpr c18
            clear c18
            obtain rfl := Option.some.inj H
            have hcz19_0 : wc.cell? ⟨gb1286, 0, none⟩ = some (.int .i64 a0_0) := (blk_cell BK1286.out 0).trans rfl
            have hcz19_1 : wc.cell? ⟨gb1286, 1, none⟩ = some (.slice A0_1 l0_1.length c0_1) := (blk_cell BK1286.out 1).trans rfl
            have hcz19_2 : wc.cell? ⟨gb1286, 2, none⟩ = some (.int .i64 a0_2) := (blk_cell BK1286.out 2).trans rfl
            have hfz19_0 := blk_frozen BK1286.out 0
            have hfz19_1 := blk_frozen BK1286.out 1
            have hfz19_2 := blk_frozen BK1286.out 2
            go_wp2
            go_ret
            exact ⟨by first | rfl | (simp [errW_none, errW_some] <;> rfl) | (simp [*, errW_none, errW_some] <;> rfl), by repeat (first | (with_reducible first | exact HB.out | apply below_alloc | apply pw_below_drewN | apply below_drew1 | refine below_set ?_ GE1286.out) | exact HB.out)⟩
          · rw [if_neg c18] at H
            have c18b0 : ((l1.length : Int) == a0_0) = false := beq_eq_false_iff_ne.mpr c18
            have c18b1 : ((l1.length : Int) != a0_0) = true := bne_iff_ne.mpr c18
            replace H := Option.bind_eq_some_iff.mp H
            obtain ⟨t1296, A200, H⟩ := H
            replace H : (some t1296) = some r := H
            have A20 := Aside0.mk A200
            clear A200
            obtain rfl := Option.some.inj H
            have hcz21_0 : wc.cell? ⟨gb1286, 0, none⟩ = some (.int .i64 a0_0) := (blk_cell BK1286.out 0).trans rfl
            have hcz21_1 : wc.cell? ⟨gb1286, 1, none⟩ = some (.slice A0_1 l0_1.length c0_1) := (blk_cell BK1286.out 1).trans rfl
            have hcz21_2 : wc.cell? ⟨gb1286, 2, none⟩ = some (.int .i64 a0_2) := (blk_cell BK1286.out 2).trans rfl
            have hfz21_0 := blk_frozen BK1286.out 0
            have hfz21_1 := blk_frozen BK1286.out 1
            have hfz21_2 := blk_frozen BK1286.out 2
            go_wp2_with (first | (go_at_call 24; (with_reducible refine (cantinglaw02_awake.calls kj4  t1296 _ A20.out).mono ?_); rintro e w22 ⟨rfl, hb⟩; have n0_ := Aside0.mk (Kd.R_below (by (with_reducible repeat (first | apply Kd.R_alloc | apply Kd.R_drewN | apply Kd.R_drew)); exact HO_5.out) hb); have n1_ := Aside0.mk (blk_below (g := gb1286) (o := .cells #[.int .i64 a0_0, .slice A0_1 l0_1.length c0_1, .int .i64 a0_2] 33 (0, 0)) (by (with_reducible repeat (first | refine blk_drewN ?_ _ | refine blk_drew ?_ | refine blk_alloc ?_ _)); exact BK1286.out) hb); have n2_ := Aside0.mk (below_step (by repeat (first | (with_reducible first | exact HB.out | apply below_alloc | apply pw_below_drewN | apply below_drew1 | refine below_set ?_ GE1286.out) | exact HB.out)) hb); clear HO_5; clear BK1286; clear HB; have HO_5 := n0_; have BK1286 := n1_; have HB := n2_; clear n0_ n1_ n2_; (try clear hb); (try clear hb2); (try clear hk); (try clear hi)))
            go_ret
            exact ⟨by first | rfl | (simp [errW_none, errW_some] <;> rfl) | (simp [*, errW_none, errW_some] <;> rfl), by repeat (first | (with_reducible first | exact HB.out | apply below_alloc | apply pw_below_drewN | apply below_drew1 | refine below_set ?_ GE1286.out) | exact HB.out)⟩
        · rw [if_neg c17] at H
          have c17b0 : (t1295 == 0) = false := beq_eq_false_iff_ne.mpr c17
          have c17b1 : (t1295 != 0) = true := bne_iff_ne.mpr c17
          replace H := Option.bind_eq_some_iff.mp H
          obtain ⟨t1297, A230, H⟩ := H
          replace H : (some t1297) = some r := H
          have A23 := Aside0.mk A230
          clear A230
          obtain rfl := Option.some.inj H
          go_wp2_with (first | (go_at_call 24; (with_reducible refine (cantinglaw02_awake.calls kj4  t1297 _ A23.out).mono ?_); rintro e w24 ⟨rfl, hb⟩; have n0_ := Aside0.mk (Kd.R_below (by (with_reducible repeat (first | apply Kd.R_alloc | apply Kd.R_drewN | apply Kd.R_drew)); exact HO_5.out) hb); have n1_ := Aside0.mk (blk_below (g := gb1286) (o := .cells #[.int .i64 a0_0, .slice A0_1 l0_1.length c0_1, .int .i64 a0_2] 33 (0, 0)) (by (with_reducible repeat (first | refine blk_drewN ?_ _ | refine blk_drew ?_ | refine blk_alloc ?_ _)); exact BK1286.out) hb); have n2_ := Aside0.mk (below_step (by repeat (first | (with_reducible first | exact HB.out | apply below_alloc | apply pw_below_drewN | apply below_drew1 | refine below_set ?_ GE1286.out) | exact HB.out)) hb); clear HO_5; clear BK1286; clear HB; have HO_5 := n0_; have BK1286 := n1_; have HB := n2_; clear n0_ n1_ n2_; (try clear hb); (try clear hb2); (try clear hk); (try clear hi)))
          go_ret
          exact ⟨by first | rfl | (simp [errW_none, errW_some] <;> rfl) | (simp [*, errW_none, errW_some] <;> rfl), by repeat (first | (with_reducible first | exact HB.out | apply below_alloc | apply pw_below_drewN | apply below_drew1 | refine below_set ?_ GE1286.out) | exact HB.out)⟩
      · replace c16 := Bool.eq_false_iff.mpr c16
        subst c16
        have H1 : (cantinglaw02_MaskWidest.l0 kj4 l1 t1292 0 0 l1 (l1.length : Int) 0 a0_0 l0_1 a0_2) = some r := by rw [if_neg (show ¬ (false = true) by decide)] at H; exact H
        clear H
        have H := H1
        clear H1
        have H' := Aside0.mk H
        clear H
        go_wp2
        go_loopg [7, 8, 51] kj4 (fun kq v7 v8 v51 w' => ∃ (x7_2 : Int) (x8_2 : Int) (x51_2 : Int), v7 = .int .i64 x7_2 ∧ v8 = .int .i64 x8_2 ∧ v51 = .int .i64 x51_2 ∧ Aside0 (cantinglaw02_MaskWidest.l0 kq l1 t1292 x7_2 x8_2 l1 (l1.length : Int) x51_2 a0_0 l0_1 a0_2 = some r) ∧ Aside0 (kq ≤ kj4) ∧ Aside0 (Kd.R (Kd.int .i64) 3 w' w.heap.size (fun _ => True) v1293 t1292) ∧ Aside0 (w'.heap[gb1286]? = some (.cells #[.int .i64 a0_0, (.slice A0_1 l0_1.length c0_1), .int .i64 a0_2] 33 (0, 0))) ∧ Aside0 (Below w.heap.size w w'))
        case atStart => exact ⟨(0), (0), (0), (by first | rfl | (simp; done) | (simp [*]; done)), (by first | rfl | (simp; done) | (simp [*]; done)), (by first | rfl | (simp; done) | (simp [*]; done)), H', ⟨Nat.le_refl _⟩, ⟨by (with_reducible repeat (first | apply Kd.R_alloc | apply Kd.R_drewN | apply Kd.R_drew)); exact HO_5.out⟩, ⟨by (with_reducible repeat (first | refine blk_drewN ?_ _ | refine blk_drew ?_ | refine blk_alloc ?_ _)); exact BK1286.out⟩, ⟨by repeat (first | (with_reducible first | exact HB.out | apply below_alloc | apply pw_below_drewN | apply below_drew1 | refine below_set ?_ GE1286.out) | exact HB.out)⟩⟩
        case round =>
          clear H'
          try clear c1
          try clear p2
          try clear c3
          try clear c7
          try clear c11
          try clear c11b0
          try clear c11b1
          try clear c12
          try clear c12b0
          try clear c12b1
          try clear c16
          try clear c17
          try clear c17b0
          try clear c17b1
          try clear c18
          try clear c18b0
          try clear c18b1
          try clear hcz13_0
          try clear hcz13_1
          try clear hcz13_2
          try clear hcz15_0
          try clear hcz15_1
          try clear hcz15_2
          try clear hcz19_0
          try clear hcz19_1
          try clear hcz19_2
          try clear hcz21_0
          try clear hcz21_1
          try clear hcz21_2
          try clear hcz7_0
          try clear hcz7_1
          try clear hcz7_2
          try clear hfz13_0
          try clear hfz13_1
          try clear hfz13_2
          try clear hfz15_0
          try clear hfz15_1
          try clear hfz15_2
          try clear hfz19_0
          try clear hfz19_1
          try clear hfz19_2
          try clear hfz21_0
          try clear hfz21_1
          try clear hfz21_2
          try clear hfz7_0
          try clear hfz7_1
          try clear hfz7_2
          try clear p2
          obtain ⟨x7_2, x8_2, x51_2, rfl, rfl, rfl, HA, HK2, HO_5, BK1286, HB⟩ := hrel
          cases gk with
          | zero => exact absurd HA.out (by simp [cantinglaw02_MaskWidest.l0])
          | succ k2 =>
            have H := HA.out
            clear HA
            simp only [cantinglaw02_MaskWidest.l0] at H
            by_cases c25 : x51_2 < (l1.length : Int)
            · rw [if_pos c25] at H
              have c25b0 : decide (x51_2 < (l1.length : Int)) = true := decide_eq_true c25
              clear c25
              by_cases c26 : 0 ≤ x51_2
              · rw [if_pos c26] at H
                have c26b0 : decide (0 ≤ x51_2) = true := decide_eq_true c26
                clear c26
                by_cases c27 : x51_2 < (l1.length : Int)
                · rw [if_pos c27] at H
                  have c27b0 : decide (x51_2 < (l1.length : Int)) = true := decide_eq_true c27
                  clear c27
                  have HC28 := Aside0.mk H
                  clear H
                  have p1298 : 0 ≤ (x51_2 : Int) := of_decide_eq_true (by first | (with_reducible assumption) | assumption)
                  have q1298 : x51_2 < (l1.length : Int) := of_decide_eq_true (by first | (with_reducible assumption) | assumption)
                  obtain ⟨ad1298, e1298, hx1298_0⟩ := Kd.at_int HR1.out x51_2 p1298 q1298
                  cases e1298
                  replace hx1298_0 := (HB.out.cell (World.block_lt_of_cell? w _ hx1298_0)).trans hx1298_0
                  replace p1298 := eq_true p1298
                  replace q1298 := eq_true q1298
                  go_upto_region 8 with (fail)
                  go_cut [61] (fun v61 wc => ∃ (kq : Nat) (x61_27 : Bool), v61 = .bool x61_27 ∧ Aside0 (cantinglaw02_MaskWidest.j2 kq l1 t1292 x7_2 x8_2 x51_2 (rd l1 x51_2) l1 (l1.length : Int) x51_2 x61_27 a0_0 l0_1 a0_2 = some r) ∧ Aside0 (kq ≤ k2) ∧ Aside0 (Kd.R (Kd.int .i64) 3 wc w.heap.size (fun _ => True) v1293 t1292) ∧ Aside0 (wc.heap[gb1286]? = some (.cells #[.int .i64 a0_0, (.slice A0_1 l0_1.length c0_1), .int .i64 a0_2] 33 (0, 0))) ∧ Aside0 (Below w.heap.size w wc))
                  case first =>
                    have H := HC28.out
                    clear HC28
                    by_cases c29 : (rd l1 x51_2) < 0
                    · rw [if_pos c29] at H
                      have c29b0 : decide ((rd l1 x51_2) < 0) = true := decide_eq_true c29
                      clear c29
                      (first | rw [c29b0] | (simp only [i64_w, i32_w]; rw [c29b0]) | skip)
                      have H' := Aside0.mk H
                      clear H
                      go_wp2
                      go_meet
                      case rel => exact ⟨_, (true), (by first | rfl | (simp; done) | (simp [*]; done)), H', ⟨by have := HJ4.out; have := HK2.out; first | omega | exact Nat.le_refl _⟩, ⟨by (with_reducible repeat (first | apply Kd.R_alloc | apply Kd.R_drewN | apply Kd.R_drew)); exact HO_5.out⟩, ⟨by (with_reducible repeat (first | refine blk_drewN ?_ _ | refine blk_drew ?_ | refine blk_alloc ?_ _)); exact BK1286.out⟩, ⟨by repeat (first | (with_reducible first | exact HB.out | apply below_alloc | apply pw_below_drewN | apply below_drew1 | refine below_set ?_ GE1286.out) | exact HB.out)⟩⟩
                    · rw [if_neg c29] at H
                      have c29b0 : decide ((rd l1 x51_2) < 0) = false := decide_eq_false c29
                      clear c29
                      (first | rw [c29b0] | (simp only [i64_w, i32_w]; rw [c29b0]) | skip)
                      have H' := Aside0.mk H
                      clear H
                      go_wp2
                      go_meet
                      case rel => exact ⟨_, (decide ((rd l1 x51_2) > 2)), (by first | rfl | (simp; done) | (simp [*]; done)), H', ⟨by have := HJ4.out; have := HK2.out; first | omega | exact Nat.le_refl _⟩, ⟨by (with_reducible repeat (first | apply Kd.R_alloc | apply Kd.R_drewN | apply Kd.R_drew)); exact HO_5.out⟩, ⟨by (with_reducible repeat (first | refine blk_drewN ?_ _ | refine blk_drew ?_ | refine blk_alloc ?_ _)); exact BK1286.out⟩, ⟨by repeat (first | (with_reducible first | exact HB.out | apply below_alloc | apply pw_below_drewN | apply below_drew1 | refine below_set ?_ GE1286.out) | exact HB.out)⟩⟩
                  case rest =>
                    clear HC28
                    try clear c1
                    try clear p1
                    try clear q1
                    try clear hx1
                    try clear c2
                    try clear p2
                    try clear c3
                    try clear c7
                    try clear c11
                    try clear c11b0
                    try clear c11b1
                    try clear c12
                    try clear c12b0
                    try clear c12b1
                    try clear p12
                    try clear q12
                    try clear hx12
                    try clear c16
                    try clear c17
                    try clear c17b0
                    try clear c17b1
                    try clear c18
                    try clear c18b0
                    try clear c18b1
                    try clear c25
                    try clear c25b0
                    try clear c26
                    try clear c26b0
                    try clear c27
                    try clear c27b0
                    try clear c29
                    try clear c29b0
                    try clear hcz13_0
                    try clear hcz13_1
                    try clear hcz13_2
                    try clear hcz15_0
                    try clear hcz15_1
                    try clear hcz15_2
                    try clear hcz19_0
                    try clear hcz19_1
                    try clear hcz19_2
                    try clear hcz21_0
                    try clear hcz21_1
                    try clear hcz21_2
                    try clear hcz7_0
                    try clear hcz7_1
                    try clear hcz7_2
                    try clear hfz13_0
                    try clear hfz13_1
                    try clear hfz13_2
                    try clear hfz15_0
                    try clear hfz15_1
                    try clear hfz15_2
                    try clear hfz19_0
                    try clear hfz19_1
                    try clear hfz19_2
                    try clear hfz21_0
                    try clear hfz21_1
                    try clear hfz21_2
                    try clear hfz7_0
                    try clear hfz7_1
                    try clear hfz7_2
                    try clear hx1298_0
                    try clear p1298
                    try clear p2
                    try clear q1298
                    obtain ⟨kq, x61_27, rfl, HA, HJ27, HO_5, BK1286, HB⟩ := hcut
                    cases kq with
                    | zero => exact absurd HA.out (by simp [cantinglaw02_MaskWidest.j2])
                    | succ kj27 =>
                      have H := HA.out
                      clear HA
                      simp only [cantinglaw02_MaskWidest.j2] at H
                      by_cases c30 : x61_27 = true
                      · subst c30
                        have H1 : ((cantinglaw02_awake.f kj27).bind fun t1299 => (some t1299)) = some r := by rw [if_pos rfl] at H; exact H
                        clear H
                        have H := H1
                        clear H1
                        replace H := Option.bind_eq_some_iff.mp H
                        obtain ⟨t1299, A310, H⟩ := H
                        replace H : (some t1299) = some r := H
                        have A31 := Aside0.mk A310
                        clear A310
                        obtain rfl := Option.some.inj H
                        go_wp2_with (first | ((with_reducible refine gate_callee (f := 24) rfl ?_); refine goesL_ (some 62) rfl rfl Try.func24 (by kernel_rfl) rfl #[] rfl (by (try simp only [List.map_toArray, List.map_cons, List.map_nil]); first | done | rfl | (simp only [List.length_drop, List.length_take]; rfl)) ?_; (with_reducible refine (cantinglaw02_awake.calls kj27  t1299 _ A31.out).mono ?_); rintro e w32 ⟨rfl, hb⟩; refine ⟨_, rfl, ?_⟩; have n0_ := Aside0.mk (Kd.R_below (by (with_reducible repeat (first | apply Kd.R_alloc | apply Kd.R_drewN | apply Kd.R_drew)); exact HO_5.out) hb); have n1_ := Aside0.mk (blk_below (g := gb1286) (o := .cells #[.int .i64 a0_0, .slice A0_1 l0_1.length c0_1, .int .i64 a0_2] 33 (0, 0)) (by (with_reducible repeat (first | refine blk_drewN ?_ _ | refine blk_drew ?_ | refine blk_alloc ?_ _)); exact BK1286.out) hb); have n2_ := Aside0.mk (below_step (by repeat (first | (with_reducible first | exact HB.out | apply below_alloc | apply pw_below_drewN | apply below_drew1 | refine below_set ?_ GE1286.out) | exact HB.out)) hb); clear HO_5; clear BK1286; clear HB; have HO_5 := n0_; have BK1286 := n1_; have HB := n2_; clear n0_ n1_ n2_; (try clear hb); (try clear hb2); (try clear hk); (try clear hi)))
                        go_ret
                        exact ⟨by first | rfl | (simp [errW_none, errW_some] <;> rfl) | (simp [*, errW_none, errW_some] <;> rfl), by repeat (first | (with_reducible first | exact HB.out | apply below_alloc | apply pw_below_drewN | apply below_drew1 | refine below_set ?_ GE1286.out) | exact HB.out)⟩
                      · replace c30 := Bool.eq_false_iff.mpr c30
                        subst c30
                        have H1 : (if (rd l1 x51_2) = 2 then (if 0 ≤ x51_2 then (if x51_2 < (t1292.length : Int) then (if (rd t1292 x51_2) = 2 then (cantinglaw02_MaskWidest.l0 kj27 l1 t1292 (wrap64 (x7_2 + 1)) (wrap64 (x8_2 + 1)) l1 (l1.length : Int) (wrap64 (x51_2 + 1)) a0_0 l0_1 a0_2) else (cantinglaw02_MaskWidest.l0 kj27 l1 t1292 (wrap64 (x7_2 + 1)) x8_2 l1 (l1.length : Int) (wrap64 (x51_2 + 1)) a0_0 l0_1 a0_2)) else (none)) else (none)) else (if 0 ≤ x51_2 then (if x51_2 < (t1292.length : Int) then (if (rd t1292 x51_2) = 2 then (cantinglaw02_MaskWidest.l0 kj27 l1 t1292 x7_2 (wrap64 (x8_2 + 1)) l1 (l1.length : Int) (wrap64 (x51_2 + 1)) a0_0 l0_1 a0_2) else (cantinglaw02_MaskWidest.l0 kj27 l1 t1292 x7_2 x8_2 l1 (l1.length : Int) (wrap64 (x51_2 + 1)) a0_0 l0_1 a0_2)) else (none)) else (none))) = some r := by rw [if_neg (show ¬ (false = true) by decide)] at H; exact H
                        clear H
                        have H := H1
                        clear H1
                        by_cases c33 : (rd l1 x51_2) = 2
                        · rw [if_pos c33] at H
                          have c33b0 : ((rd l1 x51_2) == 2) = true := beq_iff_eq.mpr c33
                          have c33b1 : ((rd l1 x51_2) != 2) = false := bne_eq_false_iff_eq.mpr c33
                          clear c33
                          by_cases c34 : 0 ≤ x51_2
                          · rw [if_pos c34] at H
                            have c34b0 : decide (0 ≤ x51_2) = true := decide_eq_true c34
                            clear c34
                            by_cases c35 : x51_2 < (t1292.length : Int)
                            · rw [if_pos c35] at H
                              have c35b0 : decide (x51_2 < (t1292.length : Int)) = true := decide_eq_true c35
                              clear c35
                              by_cases c36 : (rd t1292 x51_2) = 2
                              · rw [if_pos c36] at H
                                have c36b0 : ((rd t1292 x51_2) == 2) = true := beq_iff_eq.mpr c36
                                have c36b1 : ((rd t1292 x51_2) != 2) = false := bne_eq_false_iff_eq.mpr c36
                                clear c36
                                have H' := Aside0.mk H
                                clear H
                                obtain ⟨Ao37, co37, eo37⟩ := Kd.R_slice HO_5.out
                                subst eo37
                                have p1300 : 0 ≤ (x51_2 : Int) := of_decide_eq_true (by first | (with_reducible assumption) | assumption)
                                have q1300 : x51_2 < (t1292.length : Int) := of_decide_eq_true (by first | (with_reducible assumption) | assumption)
                                obtain ⟨ad1300, e1300, hx1300_0⟩ := Kd.at_int (Kd.R_reads' HO_5.out).2.2 x51_2 p1300 q1300
                                cases e1300
                                replace p1300 := eq_true p1300
                                replace q1300 := eq_true q1300
                                go_wp2
                                go_roundg kj27
                                case measure => have := HJ4.out; have := HK2.out; have := HJ27.out; omega
                                case rel => exact ⟨(wrap64 (x7_2 + 1)), (wrap64 (x8_2 + 1)), (wrap64 (x51_2 + 1)), (by first | rfl | (simp; done) | (simp [*]; done)), (by first | rfl | (simp; done) | (simp [*]; done)), (by first | rfl | (simp; done) | (simp [*]; done)), H', ⟨by have := HJ4.out; have := HK2.out; have := HJ27.out; omega⟩, ⟨by (with_reducible repeat (first | apply Kd.R_alloc | apply Kd.R_drewN | apply Kd.R_drew)); exact HO_5.out⟩, ⟨by (with_reducible repeat (first | refine blk_drewN ?_ _ | refine blk_drew ?_ | refine blk_alloc ?_ _)); exact BK1286.out⟩, ⟨by repeat (first | (with_reducible first | exact HB.out | apply below_alloc | apply pw_below_drewN | apply below_drew1 | refine below_set ?_ GE1286.out) | exact HB.out)⟩⟩
                              · rw [if_neg c36] at H
                                have c36b0 : ((rd t1292 x51_2) == 2) = false := beq_eq_false_iff_ne.mpr c36
                                have c36b1 : ((rd t1292 x51_2) != 2) = true := bne_iff_ne.mpr c36
                                have H' := Aside0.mk H
                                clear H
                                obtain ⟨Ao38, co38, eo38⟩ := Kd.R_slice HO_5.out
                                subst eo38
                                have p1300 : 0 ≤ (x51_2 : Int) := of_decide_eq_true (by first | (with_reducible assumption) | assumption)
                                have q1300 : x51_2 < (t1292.length : Int) := of_decide_eq_true (by first | (with_reducible assumption) | assumption)
                                obtain ⟨ad1300, e1300, hx1300_0⟩ := Kd.at_int (Kd.R_reads' HO_5.out).2.2 x51_2 p1300 q1300
                                cases e1300
                                replace p1300 := eq_true p1300
                                replace q1300 := eq_true q1300
                                go_wp2
                                go_roundg kj27
                                case measure => have := HJ4.out; have := HK2.out; have := HJ27.out; omega
                                case rel => exact ⟨(wrap64 (x7_2 + 1)), (x8_2), (wrap64 (x51_2 + 1)), (by first | rfl | (simp; done) | (simp [*]; done)), (by first | rfl | (simp; done) | (simp [*]; done)), (by first | rfl | (simp; done) | (simp [*]; done)), H', ⟨by have := HJ4.out; have := HK2.out; have := HJ27.out; omega⟩, ⟨by (with_reducible repeat (first | apply Kd.R_alloc | apply Kd.R_drewN | apply Kd.R_drew)); exact HO_5.out⟩, ⟨by (with_reducible repeat (first | refine blk_drewN ?_ _ | refine blk_drew ?_ | refine blk_alloc ?_ _)); exact BK1286.out⟩, ⟨by repeat (first | (with_reducible first | exact HB.out | apply below_alloc | apply pw_below_drewN | apply below_drew1 | refine below_set ?_ GE1286.out) | exact HB.out)⟩⟩
                            · rw [if_neg c35] at H
                              exact absurd H (by simp)
                          · rw [if_neg c34] at H
                            exact absurd H (by simp)
                        · rw [if_neg c33] at H
                          have c33b0 : ((rd l1 x51_2) == 2) = false := beq_eq_false_iff_ne.mpr c33
                          have c33b1 : ((rd l1 x51_2) != 2) = true := bne_iff_ne.mpr c33
                          by_cases c39 : 0 ≤ x51_2
                          · rw [if_pos c39] at H
                            have c39b0 : decide (0 ≤ x51_2) = true := decide_eq_true c39
                            clear c39
                            by_cases c40 : x51_2 < (t1292.length : Int)
                            · rw [if_pos c40] at H
                              have c40b0 : decide (x51_2 < (t1292.length : Int)) = true := decide_eq_true c40
                              clear c40
                              by_cases c41 : (rd t1292 x51_2) = 2
                              · rw [if_pos c41] at H
                                have c41b0 : ((rd t1292 x51_2) == 2) = true := beq_iff_eq.mpr c41
                                have c41b1 : ((rd t1292 x51_2) != 2) = false := bne_eq_false_iff_eq.mpr c41
                                clear c41
                                have H' := Aside0.mk H
                                clear H
                                obtain ⟨Ao42, co42, eo42⟩ := Kd.R_slice HO_5.out
                                subst eo42
                                have p1301 : 0 ≤ (x51_2 : Int) := of_decide_eq_true (by first | (with_reducible assumption) | assumption)
                                have q1301 : x51_2 < (t1292.length : Int) := of_decide_eq_true (by first | (with_reducible assumption) | assumption)
                                obtain ⟨ad1301, e1301, hx1301_0⟩ := Kd.at_int (Kd.R_reads' HO_5.out).2.2 x51_2 p1301 q1301
                                cases e1301
                                replace p1301 := eq_true p1301
                                replace q1301 := eq_true q1301
                                go_wp2
                                go_roundg kj27
                                case measure => have := HJ4.out; have := HK2.out; have := HJ27.out; omega
                                case rel => exact ⟨(x7_2), (wrap64 (x8_2 + 1)), (wrap64 (x51_2 + 1)), (by first | rfl | (simp; done) | (simp [*]; done)), (by first | rfl | (simp; done) | (simp [*]; done)), (by first | rfl | (simp; done) | (simp [*]; done)), H', ⟨by have := HJ4.out; have := HK2.out; have := HJ27.out; omega⟩, ⟨by (with_reducible repeat (first | apply Kd.R_alloc | apply Kd.R_drewN | apply Kd.R_drew)); exact HO_5.out⟩, ⟨by (with_reducible repeat (first | refine blk_drewN ?_ _ | refine blk_drew ?_ | refine blk_alloc ?_ _)); exact BK1286.out⟩, ⟨by repeat (first | (with_reducible first | exact HB.out | apply below_alloc | apply pw_below_drewN | apply below_drew1 | refine below_set ?_ GE1286.out) | exact HB.out)⟩⟩
                              · rw [if_neg c41] at H
                                have c41b0 : ((rd t1292 x51_2) == 2) = false := beq_eq_false_iff_ne.mpr c41
                                have c41b1 : ((rd t1292 x51_2) != 2) = true := bne_iff_ne.mpr c41
                                have H' := Aside0.mk H
                                clear H
                                obtain ⟨Ao43, co43, eo43⟩ := Kd.R_slice HO_5.out
                                subst eo43
                                have p1301 : 0 ≤ (x51_2 : Int) := of_decide_eq_true (by first | (with_reducible assumption) | assumption)
                                have q1301 : x51_2 < (t1292.length : Int) := of_decide_eq_true (by first | (with_reducible assumption) | assumption)
                                obtain ⟨ad1301, e1301, hx1301_0⟩ := Kd.at_int (Kd.R_reads' HO_5.out).2.2 x51_2 p1301 q1301
                                cases e1301
                                replace p1301 := eq_true p1301
                                replace q1301 := eq_true q1301
                                go_wp2
                                go_roundg kj27
                                case measure => have := HJ4.out; have := HK2.out; have := HJ27.out; omega
                                case rel => exact ⟨(x7_2), (x8_2), (wrap64 (x51_2 + 1)), (by first | rfl | (simp; done) | (simp [*]; done)), (by first | rfl | (simp; done) | (simp [*]; done)), (by first | rfl | (simp; done) | (simp [*]; done)), H', ⟨by have := HJ4.out; have := HK2.out; have := HJ27.out; omega⟩, ⟨by (with_reducible repeat (first | apply Kd.R_alloc | apply Kd.R_drewN | apply Kd.R_drew)); exact HO_5.out⟩, ⟨by (with_reducible repeat (first | refine blk_drewN ?_ _ | refine blk_drew ?_ | refine blk_alloc ?_ _)); exact BK1286.out⟩, ⟨by repeat (first | (with_reducible first | exact HB.out | apply below_alloc | apply pw_below_drewN | apply below_drew1 | refine below_set ?_ GE1286.out) | exact HB.out)⟩⟩
                            · rw [if_neg c40] at H
                              exact absurd H (by simp)
                          · rw [if_neg c39] at H
                            exact absurd H (by simp)
                · rw [if_neg c27] at H
                  exact absurd H (by simp)
              · rw [if_neg c26] at H
                exact absurd H (by simp)
            · rw [if_neg c25] at H
              have c25b0 : decide (x51_2 < (l1.length : Int)) = false := decide_eq_false c25
              clear c25
              by_cases c44 : 0 ≤ a0_0
              · rw [if_pos c44] at H
                have c44b0 := eq_true c44
                have c44b1 : decide (0 ≤ a0_0) = true := decide_eq_true c44
                clear c44
                obtain ⟨ji45, hji45⟩ : ∃ j_ : Int, (shl .i64 1 a0_0) = j_ := ⟨_, rfl⟩
                replace H : (cantinglaw02_MaskWidest.l1 k2 l1 t1292 x7_2 x8_2 true ji45 0 a0_0 l0_1 a0_2) = some r := by first | (rw [hji45] at H; exact H) | (simp only [hji45] at H ⊢; exact H)
                have hji45_ : (IntKind.i64.wrap (1 * 2 ^ min a0_0.toNat 64)) = ji45 := hji45
                have hji45z : a0_0 ≤ 64 → (IntKind.i64.wrap (1 * 2 ^ a0_0.toNat)) = ji45 := shl_small hji45
                have hji45u : (IntKind.i64.wrap (2 ^ min a0_0.toNat 64)) = ji45 := by have h_ := hji45_; rw [Int.one_mul] at h_; exact h_
                have hji45v : a0_0 ≤ 64 → (IntKind.i64.wrap (2 ^ a0_0.toNat)) = ji45 := fun hle_ => by have h_ := hji45z hle_; rw [Int.one_mul] at h_; exact h_
                have hji45y : (wrap64 (1 * 2 ^ min a0_0.toNat 64)) = ji45 := (i64_w _).symm.trans hji45_
                have hji45x : a0_0 ≤ 64 → (wrap64 (1 * 2 ^ a0_0.toNat)) = ji45 := fun h_ => (i64_w _).symm.trans (hji45z h_)
                have H' := Aside0.mk H
                clear H
                have hcz46_0 : wr.cell? ⟨gb1286, 0, none⟩ = some (.int .i64 a0_0) := (blk_cell BK1286.out 0).trans rfl
                have hcz46_1 : wr.cell? ⟨gb1286, 1, none⟩ = some (.slice A0_1 l0_1.length c0_1) := (blk_cell BK1286.out 1).trans rfl
                have hcz46_2 : wr.cell? ⟨gb1286, 2, none⟩ = some (.int .i64 a0_2) := (blk_cell BK1286.out 2).trans rfl
                have hfz46_0 := blk_frozen BK1286.out 0
                have hfz46_1 := blk_frozen BK1286.out 1
                have hfz46_2 := blk_frozen BK1286.out 2
                go_wp2
                go_loopg [11, 78] k2 (fun kq v11 v78 w' => ∃ (x11_3 : Bool) (x78_3 : Int), v11 = .bool x11_3 ∧ v78 = .int .i64 x78_3 ∧ Aside0 (cantinglaw02_MaskWidest.l1 kq l1 t1292 x7_2 x8_2 x11_3 ji45 x78_3 a0_0 l0_1 a0_2 = some r) ∧ Aside0 (kq ≤ k2) ∧ Aside0 (Kd.R (Kd.int .i64) 3 w' w.heap.size (fun _ => True) v1293 t1292) ∧ Aside0 (w'.heap[gb1286]? = some (.cells #[.int .i64 a0_0, (.slice A0_1 l0_1.length c0_1), .int .i64 a0_2] 33 (0, 0))) ∧ Aside0 (Below w.heap.size w w'))
                case atStart => exact ⟨(true), (0), (by first | rfl | (simp; done) | (simp [*]; done)), (by first | rfl | (simp; done) | (simp [*]; done)), H', ⟨Nat.le_refl _⟩, ⟨by (with_reducible repeat (first | apply Kd.R_alloc | apply Kd.R_drewN | apply Kd.R_drew)); exact HO_5.out⟩, ⟨by (with_reducible repeat (first | refine blk_drewN ?_ _ | refine blk_drew ?_ | refine blk_alloc ?_ _)); exact BK1286.out⟩, ⟨by repeat (first | (with_reducible first | exact HB.out | apply below_alloc | apply pw_below_drewN | apply below_drew1 | refine below_set ?_ GE1286.out) | exact HB.out)⟩⟩
                case round =>
                  clear H'
                  try clear c1
                  try clear p1
                  try clear q1
                  try clear hx1
                  try clear c2
                  try clear p2
                  try clear c3
                  try clear c4
                  try clear p6
                  try clear c7
                  try clear c11
                  try clear c11b0
                  try clear c11b1
                  try clear c12
                  try clear c12b0
                  try clear c12b1
                  try clear p12
                  try clear q12
                  try clear hx12
                  try clear p13
                  try clear q13
                  try clear hx13
                  try clear c16
                  try clear c17
                  try clear c17b0
                  try clear c17b1
                  try clear c18
                  try clear c18b0
                  try clear c18b1
                  try clear c24
                  try clear c25
                  try clear c25b0
                  try clear c26
                  try clear c26b0
                  try clear c27
                  try clear c27b0
                  try clear c29
                  try clear c29b0
                  try clear c30
                  try clear c33
                  try clear c33b0
                  try clear c33b1
                  try clear c34
                  try clear c34b0
                  try clear c35
                  try clear c35b0
                  try clear c36
                  try clear c36b0
                  try clear c36b1
                  try clear c39
                  try clear c39b0
                  try clear c40
                  try clear c40b0
                  try clear c41
                  try clear c41b0
                  try clear c41b1
                  try clear c44
                  try clear c44b0
                  try clear c44b1
                  try clear hcz13_0
                  try clear hcz13_1
                  try clear hcz13_2
                  try clear hcz15_0
                  try clear hcz15_1
                  try clear hcz15_2
                  try clear hcz19_0
                  try clear hcz19_1
                  try clear hcz19_2
                  try clear hcz21_0
                  try clear hcz21_1
                  try clear hcz21_2
                  try clear hcz46_0
                  try clear hcz46_1
                  try clear hcz46_2
                  try clear hcz7_0
                  try clear hcz7_1
                  try clear hcz7_2
                  try clear hfz13_0
                  try clear hfz13_1
                  try clear hfz13_2
                  try clear hfz15_0
                  try clear hfz15_1
                  try clear hfz15_2
                  try clear hfz19_0
                  try clear hfz19_1
                  try clear hfz19_2
                  try clear hfz21_0
                  try clear hfz21_1
                  try clear hfz21_2
                  try clear hfz46_0
                  try clear hfz46_1
                  try clear hfz46_2
                  try clear hfz7_0
                  try clear hfz7_1
                  try clear hfz7_2
                  try clear hx1298_0
                  try clear hx1300_0
                  try clear hx1301_0
                  try clear p1
                  try clear p12
                  try clear p1298
                  try clear p1300
                  try clear p1301
                  try clear p2
                  try clear q1
                  try clear q12
                  try clear q1298
                  try clear q1300
                  try clear q1301
                  obtain ⟨x11_3, x78_3, rfl, rfl, HA, HK3, HO_5, BK1286, HB⟩ := hrel
                  cases gk with
                  | zero => exact absurd HA.out (by simp [cantinglaw02_MaskWidest.l1])
                  | succ k3 =>
                    have H := HA.out
                    clear HA
                    simp only [cantinglaw02_MaskWidest.l1] at H
                    by_cases c47 : x78_3 < ji45
                    · rw [if_pos c47] at H
                      have c47b0 : decide (x78_3 < ji45) = true := decide_eq_true c47
                      clear c47
                      replace H := Option.bind_eq_some_iff.mp H
                      obtain ⟨⟨t1306, t1307, t1310⟩, A480, H⟩ := H
                      replace H : ((mask_At.f k3 t1306 t1307 t1310 x78_3).bind fun bt1311 => (if bt1311.2 = 0 then ((cantinglaw02_inside.f k3 a0_0 x78_3 t1292).bind fun t1313 => (if t1313 = true then (if bt1311.1 = true then (if x11_3 = true then (cantinglaw02_MaskWidest.l1 k3 l1 t1292 x7_2 x8_2 true ji45 (wrap64 (x78_3 + 1)) a0_0 l0_1 a0_2) else (cantinglaw02_MaskWidest.l1 k3 l1 t1292 x7_2 x8_2 false ji45 (wrap64 (x78_3 + 1)) a0_0 l0_1 a0_2)) else (some false)) else (if x11_3 = true then (if bt1311.1 = true then (cantinglaw02_MaskWidest.l1 k3 l1 t1292 x7_2 x8_2 true ji45 (wrap64 (x78_3 + 1)) a0_0 l0_1 a0_2) else ((cantinglaw02_inside.f k3 a0_0 x78_3 l1).bind fun t1314 => (cantinglaw02_MaskWidest.l1 k3 l1 t1292 x7_2 x8_2 (!t1314) ji45 (wrap64 (x78_3 + 1)) a0_0 l0_1 a0_2))) else (cantinglaw02_MaskWidest.l1 k3 l1 t1292 x7_2 x8_2 false ji45 (wrap64 (x78_3 + 1)) a0_0 l0_1 a0_2)))) else (some false))) = some r := H
                      have A48 := Aside0.mk A480
                      clear A480
                      replace H := Option.bind_eq_some_iff.mp H
                      obtain ⟨⟨t1311, t1312⟩, A490, H⟩ := H
                      replace H : (if t1312 = 0 then ((cantinglaw02_inside.f k3 a0_0 x78_3 t1292).bind fun t1313 => (if t1313 = true then (if t1311 = true then (if x11_3 = true then (cantinglaw02_MaskWidest.l1 k3 l1 t1292 x7_2 x8_2 true ji45 (wrap64 (x78_3 + 1)) a0_0 l0_1 a0_2) else (cantinglaw02_MaskWidest.l1 k3 l1 t1292 x7_2 x8_2 false ji45 (wrap64 (x78_3 + 1)) a0_0 l0_1 a0_2)) else (some false)) else (if x11_3 = true then (if t1311 = true then (cantinglaw02_MaskWidest.l1 k3 l1 t1292 x7_2 x8_2 true ji45 (wrap64 (x78_3 + 1)) a0_0 l0_1 a0_2) else ((cantinglaw02_inside.f k3 a0_0 x78_3 l1).bind fun t1314 => (cantinglaw02_MaskWidest.l1 k3 l1 t1292 x7_2 x8_2 (!t1314) ji45 (wrap64 (x78_3 + 1)) a0_0 l0_1 a0_2))) else (cantinglaw02_MaskWidest.l1 k3 l1 t1292 x7_2 x8_2 false ji45 (wrap64 (x78_3 + 1)) a0_0 l0_1 a0_2)))) else (some false)) = some r := H
                      have A49 := Aside0.mk A490
                      clear A490
                      by_cases c50 : t1312 = 0
                      · rw [if_pos c50] at H
                        have c50b0 : (t1312 == 0) = true := beq_iff_eq.mpr c50
                        have c50b1 : (t1312 != 0) = false := bne_eq_false_iff_eq.mpr c50
                        clear c50
                        replace H := Option.bind_eq_some_iff.mp H
                        obtain ⟨t1313, A510, H⟩ := H
                        replace H : (if t1313 = true then (if t1311 = true then (if x11_3 = true then (cantinglaw02_MaskWidest.l1 k3 l1 t1292 x7_2 x8_2 true ji45 (wrap64 (x78_3 + 1)) a0_0 l0_1 a0_2) else (cantinglaw02_MaskWidest.l1 k3 l1 t1292 x7_2 x8_2 false ji45 (wrap64 (x78_3 + 1)) a0_0 l0_1 a0_2)) else (some false)) else (if x11_3 = true then (if t1311 = true then (cantinglaw02_MaskWidest.l1 k3 l1 t1292 x7_2 x8_2 true ji45 (wrap64 (x78_3 + 1)) a0_0 l0_1 a0_2) else ((cantinglaw02_inside.f k3 a0_0 x78_3 l1).bind fun t1314 => (cantinglaw02_MaskWidest.l1 k3 l1 t1292 x7_2 x8_2 (!t1314) ji45 (wrap64 (x78_3 + 1)) a0_0 l0_1 a0_2))) else (cantinglaw02_MaskWidest.l1 k3 l1 t1292 x7_2 x8_2 false ji45 (wrap64 (x78_3 + 1)) a0_0 l0_1 a0_2))) = some r := H
                        have A51 := Aside0.mk A510
                        clear A510
                        by_cases c52 : t1313 = true
                        · subst c52
                          have H1 : (if t1311 = true then (if x11_3 = true then (cantinglaw02_MaskWidest.l1 k3 l1 t1292 x7_2 x8_2 true ji45 (wrap64 (x78_3 + 1)) a0_0 l0_1 a0_2) else (cantinglaw02_MaskWidest.l1 k3 l1 t1292 x7_2 x8_2 false ji45 (wrap64 (x78_3 + 1)) a0_0 l0_1 a0_2)) else (some false)) = some r := by rw [if_pos rfl] at H; exact H
                          clear H
                          have H := H1
                          clear H1
                          by_cases c53 : t1311 = true
                          · subst c53
                            have H1 : (if x11_3 = true then (cantinglaw02_MaskWidest.l1 k3 l1 t1292 x7_2 x8_2 true ji45 (wrap64 (x78_3 + 1)) a0_0 l0_1 a0_2) else (cantinglaw02_MaskWidest.l1 k3 l1 t1292 x7_2 x8_2 false ji45 (wrap64 (x78_3 + 1)) a0_0 l0_1 a0_2)) = some r := by rw [if_pos rfl] at H; exact H
                            clear H
                            have H := H1
                            clear H1
                            by_cases c54 : x11_3 = true
                            · subst c54
                              have H1 : (cantinglaw02_MaskWidest.l1 k3 l1 t1292 x7_2 x8_2 true ji45 (wrap64 (x78_3 + 1)) a0_0 l0_1 a0_2) = some r := by rw [if_pos rfl] at H; exact H
                              clear H
                              have H := H1
                              clear H1
                              have H' := Aside0.mk H
                              clear H
                              have hcz55_0 : wr.cell? ⟨gb1286, 0, none⟩ = some (.int .i64 a0_0) := (blk_cell BK1286.out 0).trans rfl
                              have hcz55_1 : wr.cell? ⟨gb1286, 1, none⟩ = some (.slice A0_1 l0_1.length c0_1) := (blk_cell BK1286.out 1).trans rfl
                              have hcz55_2 : wr.cell? ⟨gb1286, 2, none⟩ = some (.int .i64 a0_2) := (blk_cell BK1286.out 2).trans rfl
                              have hfz55_0 := blk_frozen BK1286.out 0
                              have hfz55_1 := blk_frozen BK1286.out 1
                              have hfz55_2 := blk_frozen BK1286.out 2
                              go_wp2_with (first | ((with_reducible refine gate_callee (f := 30) rfl ?_); refine goesL_ (some 83) rfl rfl Try.func30 (by kernel_rfl) rfl #[.agg #[.int .i64 a0_0, .slice A0_1 l0_1.length c0_1, .int .i64 a0_2]] rfl (by (try simp only [List.map_toArray, List.map_cons, List.map_nil]); first | done | rfl | (simp only [List.length_drop, List.length_take]; rfl)) ?_; (with_reducible refine (cantinglaw02_of.calls k3 a0_0 _ _ l0_1 a0_2 t1306 t1307 t1310 _ ?side1 ?side2 A48.out).mono ?_); (case side1 => repeat (first | exact (Kd.C_below HR0_1.out HB.out) | (with_reducible refine Kd.C_alloc ?_ _) | (with_reducible refine Kd.C_drewN ?_ _) | (with_reducible refine Kd.C_drew ?_))); (case side2 => exact HC0_1.out); rintro e w56 ⟨v1308, rfl, ho0, hb⟩; refine ⟨_, rfl, ?_⟩; have n0_ := Aside0.mk (Kd.R_below (by (with_reducible repeat (first | apply Kd.R_alloc | apply Kd.R_drewN | apply Kd.R_drew)); exact HO_5.out) hb); have n1_ := Aside0.mk (Kd.R_lower ho0 (below_size (by repeat (first | (with_reducible first | exact HB.out | apply below_alloc | apply pw_below_drewN | apply below_drew1 | refine below_set ?_ GE1286.out) | exact HB.out)))); have n2_ := Aside0.mk (blk_below (g := gb1286) (o := .cells #[.int .i64 a0_0, .slice A0_1 l0_1.length c0_1, .int .i64 a0_2] 33 (0, 0)) (by (with_reducible repeat (first | refine blk_drewN ?_ _ | refine blk_drew ?_ | refine blk_alloc ?_ _)); exact BK1286.out) hb); have n3_ := Aside0.mk (below_step (by repeat (first | (with_reducible first | exact HB.out | apply below_alloc | apply pw_below_drewN | apply below_drew1 | refine below_set ?_ GE1286.out) | exact HB.out)) hb); clear HO_5; clear BK1286; clear HB; have HO_5 := n0_; have HO1309 := n1_; have BK1286 := n2_; have HB := n3_; clear n0_ n1_ n2_ n3_; (try clear hb); (try clear hb2); (try clear hk); (try clear hi); (try clear ho0); obtain ⟨Ao57, co57, eo57⟩ := Kd.R_slice HO1309.out; subst eo57) | ((with_reducible refine gate_callee (f := 56) rfl ?_); refine goesL_ (some 85) rfl rfl Try.func56 (by kernel_rfl) rfl #[.agg #[.int .i64 t1306, .slice Ao57 t1307.length co57, .int .i64 t1310], .int .i64 x78_3] rfl (by (try simp only [List.map_toArray, List.map_cons, List.map_nil]); first | done | rfl | (simp only [List.length_drop, List.length_take]; rfl)) ?_; (with_reducible refine (mask_At.calls k3 t1306 _ _ t1307 t1310 x78_3 true t1312 _ ?side1 ?side2 A49.out).mono ?_); (case side1 => repeat (first | exact (Kd.R_reads' HO1309.out).2.2 | (with_reducible refine Kd.C_alloc ?_ _) | (with_reducible refine Kd.C_drewN ?_ _) | (with_reducible refine Kd.C_drew ?_))); (case side2 => exact (Kd.R_reads' HO1309.out).2.1); rintro e w58 ⟨rfl, hb⟩; refine ⟨_, rfl, ?_⟩; have n0_ := Aside0.mk (Kd.R_below (by (with_reducible repeat (first | apply Kd.R_alloc | apply Kd.R_drewN | apply Kd.R_drew)); exact HO_5.out) hb); have n1_ := Aside0.mk (Kd.R_below (by (with_reducible repeat (first | apply Kd.R_alloc | apply Kd.R_drewN | apply Kd.R_drew)); exact HO1309.out) hb); have n2_ := Aside0.mk (blk_below (g := gb1286) (o := .cells #[.int .i64 a0_0, .slice A0_1 l0_1.length c0_1, .int .i64 a0_2] 33 (0, 0)) (by (with_reducible repeat (first | refine blk_drewN ?_ _ | refine blk_drew ?_ | refine blk_alloc ?_ _)); exact BK1286.out) hb); have n3_ := Aside0.mk (below_step (by repeat (first | (with_reducible first | exact HB.out | apply below_alloc | apply pw_below_drewN | apply below_drew1 | refine below_set ?_ GE1286.out) | exact HB.out)) hb); clear HO_5; clear HO1309; clear BK1286; clear HB; have HO_5 := n0_; have HO1309 := n1_; have BK1286 := n2_; have HB := n3_; clear n0_ n1_ n2_ n3_; (try clear hb); (try clear hb2); (try clear hk); (try clear hi); have hcz59_0 : w58.cell? ⟨gb1286, 0, none⟩ = some (.int .i64 a0_0) := (blk_cell BK1286.out 0).trans rfl; have hcz59_1 : w58.cell? ⟨gb1286, 1, none⟩ = some (.slice A0_1 l0_1.length c0_1) := (blk_cell BK1286.out 1).trans rfl; have hcz59_2 : w58.cell? ⟨gb1286, 2, none⟩ = some (.int .i64 a0_2) := (blk_cell BK1286.out 2).trans rfl; have hfz59_0 := blk_frozen BK1286.out 0; have hfz59_1 := blk_frozen BK1286.out 1; have hfz59_2 := blk_frozen BK1286.out 2; obtain ⟨Ao60, co60, eo60⟩ := Kd.R_slice HO_5.out; subst eo60) | (go_at_call 78; (with_reducible refine (cantinglaw02_inside.calls k3 a0_0 x78_3 _ _ t1292 true _ ?side1 ?side2 A51.out).mono ?_); (case side1 => repeat (first | exact (Kd.R_reads' HO_5.out).2.2 | (with_reducible refine Kd.C_alloc ?_ _) | (with_reducible refine Kd.C_drewN ?_ _) | (with_reducible refine Kd.C_drew ?_))); (case side2 => exact (Kd.R_reads' HO_5.out).2.1); rintro e w' ⟨rfl, ⟨nd, rfl⟩⟩))
                              go_roundg k3
                              case measure => have := HJ4.out; have := HK2.out; have := HK3.out; omega
                              case rel => exact ⟨(true), (wrap64 (x78_3 + 1)), (by first | rfl | (simp; done) | (simp [*]; done)), (by first | rfl | (simp; done) | (simp [*]; done)), H', ⟨by have := HJ4.out; have := HK2.out; have := HK3.out; omega⟩, ⟨by (with_reducible repeat (first | apply Kd.R_alloc | apply Kd.R_drewN | apply Kd.R_drew)); exact HO_5.out⟩, ⟨by (with_reducible repeat (first | refine blk_drewN ?_ _ | refine blk_drew ?_ | refine blk_alloc ?_ _)); exact BK1286.out⟩, ⟨by repeat (first | (with_reducible first | exact HB.out | apply below_alloc | apply pw_below_drewN | apply below_drew1 | refine below_set ?_ GE1286.out) | exact HB.out)⟩⟩
                            · replace c54 := Bool.eq_false_iff.mpr c54
                              subst c54
                              have H1 : (cantinglaw02_MaskWidest.l1 k3 l1 t1292 x7_2 x8_2 false ji45 (wrap64 (x78_3 + 1)) a0_0 l0_1 a0_2) = some r := by rw [if_neg (show ¬ (false = true) by decide)] at H; exact H
                              clear H
                              have H := H1
                              clear H1
                              have H' := Aside0.mk H
                              clear H
                              have hcz61_0 : wr.cell? ⟨gb1286, 0, none⟩ = some (.int .i64 a0_0) := (blk_cell BK1286.out 0).trans rfl
                              have hcz61_1 : wr.cell? ⟨gb1286, 1, none⟩ = some (.slice A0_1 l0_1.length c0_1) := (blk_cell BK1286.out 1).trans rfl
                              have hcz61_2 : wr.cell? ⟨gb1286, 2, none⟩ = some (.int .i64 a0_2) := (blk_cell BK1286.out 2).trans rfl
                              have hfz61_0 := blk_frozen BK1286.out 0
                              have hfz61_1 := blk_frozen BK1286.out 1
                              have hfz61_2 := blk_frozen BK1286.out 2
                              go_wp2_with (first | ((with_reducible refine gate_callee (f := 30) rfl ?_); refine goesL_ (some 83) rfl rfl Try.func30 (by kernel_rfl) rfl #[.agg #[.int .i64 a0_0, .slice A0_1 l0_1.length c0_1, .int .i64 a0_2]] rfl (by (try simp only [List.map_toArray, List.map_cons, List.map_nil]); first | done | rfl | (simp only [List.length_drop, List.length_take]; rfl)) ?_; (with_reducible refine (cantinglaw02_of.calls k3 a0_0 _ _ l0_1 a0_2 t1306 t1307 t1310 _ ?side1 ?side2 A48.out).mono ?_); (case side1 => repeat (first | exact (Kd.C_below HR0_1.out HB.out) | (with_reducible refine Kd.C_alloc ?_ _) | (with_reducible refine Kd.C_drewN ?_ _) | (with_reducible refine Kd.C_drew ?_))); (case side2 => exact HC0_1.out); rintro e w62 ⟨v1308, rfl, ho0, hb⟩; refine ⟨_, rfl, ?_⟩; have n0_ := Aside0.mk (Kd.R_below (by (with_reducible repeat (first | apply Kd.R_alloc | apply Kd.R_drewN | apply Kd.R_drew)); exact HO_5.out) hb); have n1_ := Aside0.mk (Kd.R_lower ho0 (below_size (by repeat (first | (with_reducible first | exact HB.out | apply below_alloc | apply pw_below_drewN | apply below_drew1 | refine below_set ?_ GE1286.out) | exact HB.out)))); have n2_ := Aside0.mk (blk_below (g := gb1286) (o := .cells #[.int .i64 a0_0, .slice A0_1 l0_1.length c0_1, .int .i64 a0_2] 33 (0, 0)) (by (with_reducible repeat (first | refine blk_drewN ?_ _ | refine blk_drew ?_ | refine blk_alloc ?_ _)); exact BK1286.out) hb); have n3_ := Aside0.mk (below_step (by repeat (first | (with_reducible first | exact HB.out | apply below_alloc | apply pw_below_drewN | apply below_drew1 | refine below_set ?_ GE1286.out) | exact HB.out)) hb); clear HO_5; clear BK1286; clear HB; have HO_5 := n0_; have HO1309 := n1_; have BK1286 := n2_; have HB := n3_; clear n0_ n1_ n2_ n3_; (try clear hb); (try clear hb2); (try clear hk); (try clear hi); (try clear ho0); obtain ⟨Ao63, co63, eo63⟩ := Kd.R_slice HO1309.out; subst eo63) | ((with_reducible refine gate_callee (f := 56) rfl ?_); refine goesL_ (some 85) rfl rfl Try.func56 (by kernel_rfl) rfl #[.agg #[.int .i64 t1306, .slice Ao63 t1307.length co63, .int .i64 t1310], .int .i64 x78_3] rfl (by (try simp only [List.map_toArray, List.map_cons, List.map_nil]); first | done | rfl | (simp only [List.length_drop, List.length_take]; rfl)) ?_; (with_reducible refine (mask_At.calls k3 t1306 _ _ t1307 t1310 x78_3 true t1312 _ ?side1 ?side2 A49.out).mono ?_); (case side1 => repeat (first | exact (Kd.R_reads' HO1309.out).2.2 | (with_reducible refine Kd.C_alloc ?_ _) | (with_reducible refine Kd.C_drewN ?_ _) | (with_reducible refine Kd.C_drew ?_))); (case side2 => exact (Kd.R_reads' HO1309.out).2.1); rintro e w64 ⟨rfl, hb⟩; refine ⟨_, rfl, ?_⟩; have n0_ := Aside0.mk (Kd.R_below (by (with_reducible repeat (first | apply Kd.R_alloc | apply Kd.R_drewN | apply Kd.R_drew)); exact HO_5.out) hb); have n1_ := Aside0.mk (Kd.R_below (by (with_reducible repeat (first | apply Kd.R_alloc | apply Kd.R_drewN | apply Kd.R_drew)); exact HO1309.out) hb); have n2_ := Aside0.mk (blk_below (g := gb1286) (o := .cells #[.int .i64 a0_0, .slice A0_1 l0_1.length c0_1, .int .i64 a0_2] 33 (0, 0)) (by (with_reducible repeat (first | refine blk_drewN ?_ _ | refine blk_drew ?_ | refine blk_alloc ?_ _)); exact BK1286.out) hb); have n3_ := Aside0.mk (below_step (by repeat (first | (with_reducible first | exact HB.out | apply below_alloc | apply pw_below_drewN | apply below_drew1 | refine below_set ?_ GE1286.out) | exact HB.out)) hb); clear HO_5; clear HO1309; clear BK1286; clear HB; have HO_5 := n0_; have HO1309 := n1_; have BK1286 := n2_; have HB := n3_; clear n0_ n1_ n2_ n3_; (try clear hb); (try clear hb2); (try clear hk); (try clear hi); have hcz65_0 : w64.cell? ⟨gb1286, 0, none⟩ = some (.int .i64 a0_0) := (blk_cell BK1286.out 0).trans rfl; have hcz65_1 : w64.cell? ⟨gb1286, 1, none⟩ = some (.slice A0_1 l0_1.length c0_1) := (blk_cell BK1286.out 1).trans rfl; have hcz65_2 : w64.cell? ⟨gb1286, 2, none⟩ = some (.int .i64 a0_2) := (blk_cell BK1286.out 2).trans rfl; have hfz65_0 := blk_frozen BK1286.out 0; have hfz65_1 := blk_frozen BK1286.out 1; have hfz65_2 := blk_frozen BK1286.out 2; obtain ⟨Ao66, co66, eo66⟩ := Kd.R_slice HO_5.out; subst eo66) | (go_at_call 78; (with_reducible refine (cantinglaw02_inside.calls k3 a0_0 x78_3 _ _ t1292 true _ ?side1 ?side2 A51.out).mono ?_); (case side1 => repeat (first | exact (Kd.R_reads' HO_5.out).2.2 | (with_reducible refine Kd.C_alloc ?_ _) | (with_reducible refine Kd.C_drewN ?_ _) | (with_reducible refine Kd.C_drew ?_))); (case side2 => exact (Kd.R_reads' HO_5.out).2.1); rintro e w' ⟨rfl, ⟨nd, rfl⟩⟩))
                              go_roundg k3
                              case measure => have := HJ4.out; have := HK2.out; have := HK3.out; omega
                              case rel => exact ⟨(false), (wrap64 (x78_3 + 1)), (by first | rfl | (simp; done) | (simp [*]; done)), (by first | rfl | (simp; done) | (simp [*]; done)), H', ⟨by have := HJ4.out; have := HK2.out; have := HK3.out; omega⟩, ⟨by (with_reducible repeat (first | apply Kd.R_alloc | apply Kd.R_drewN | apply Kd.R_drew)); exact HO_5.out⟩, ⟨by (with_reducible repeat (first | refine blk_drewN ?_ _ | refine blk_drew ?_ | refine blk_alloc ?_ _)); exact BK1286.out⟩, ⟨by repeat (first | (with_reducible first | exact HB.out | apply below_alloc | apply pw_below_drewN | apply below_drew1 | refine below_set ?_ GE1286.out) | exact HB.out)⟩⟩
                          · replace c53 := Bool.eq_false_iff.mpr c53
                            subst c53
                            have H1 : (some false) = some r := by rw [if_neg (show ¬ (false = true) by decide)] at H; exact H
                            clear H
                            have H := H1
                            clear H1
                            obtain rfl := Option.some.inj H
                            have hcz67_0 : wr.cell? ⟨gb1286, 0, none⟩ = some (.int .i64 a0_0) := (blk_cell BK1286.out 0).trans rfl
                            have hcz67_1 : wr.cell? ⟨gb1286, 1, none⟩ = some (.slice A0_1 l0_1.length c0_1) := (blk_cell BK1286.out 1).trans rfl
                            have hcz67_2 : wr.cell? ⟨gb1286, 2, none⟩ = some (.int .i64 a0_2) := (blk_cell BK1286.out 2).trans rfl
                            have hfz67_0 := blk_frozen BK1286.out 0
                            have hfz67_1 := blk_frozen BK1286.out 1
                            have hfz67_2 := blk_frozen BK1286.out 2
                            go_wp2_with (first | ((with_reducible refine gate_callee (f := 30) rfl ?_); refine goesL_ (some 83) rfl rfl Try.func30 (by kernel_rfl) rfl #[.agg #[.int .i64 a0_0, .slice A0_1 l0_1.length c0_1, .int .i64 a0_2]] rfl (by (try simp only [List.map_toArray, List.map_cons, List.map_nil]); first | done | rfl | (simp only [List.length_drop, List.length_take]; rfl)) ?_; (with_reducible refine (cantinglaw02_of.calls k3 a0_0 _ _ l0_1 a0_2 t1306 t1307 t1310 _ ?side1 ?side2 A48.out).mono ?_); (case side1 => repeat (first | exact (Kd.C_below HR0_1.out HB.out) | (with_reducible refine Kd.C_alloc ?_ _) | (with_reducible refine Kd.C_drewN ?_ _) | (with_reducible refine Kd.C_drew ?_))); (case side2 => exact HC0_1.out); rintro e w68 ⟨v1308, rfl, ho0, hb⟩; refine ⟨_, rfl, ?_⟩; have n0_ := Aside0.mk (Kd.R_below (by (with_reducible repeat (first | apply Kd.R_alloc | apply Kd.R_drewN | apply Kd.R_drew)); exact HO_5.out) hb); have n1_ := Aside0.mk (Kd.R_lower ho0 (below_size (by repeat (first | (with_reducible first | exact HB.out | apply below_alloc | apply pw_below_drewN | apply below_drew1 | refine below_set ?_ GE1286.out) | exact HB.out)))); have n2_ := Aside0.mk (blk_below (g := gb1286) (o := .cells #[.int .i64 a0_0, .slice A0_1 l0_1.length c0_1, .int .i64 a0_2] 33 (0, 0)) (by (with_reducible repeat (first | refine blk_drewN ?_ _ | refine blk_drew ?_ | refine blk_alloc ?_ _)); exact BK1286.out) hb); have n3_ := Aside0.mk (below_step (by repeat (first | (with_reducible first | exact HB.out | apply below_alloc | apply pw_below_drewN | apply below_drew1 | refine below_set ?_ GE1286.out) | exact HB.out)) hb); clear HO_5; clear BK1286; clear HB; have HO_5 := n0_; have HO1309 := n1_; have BK1286 := n2_; have HB := n3_; clear n0_ n1_ n2_ n3_; (try clear hb); (try clear hb2); (try clear hk); (try clear hi); (try clear ho0); obtain ⟨Ao69, co69, eo69⟩ := Kd.R_slice HO1309.out; subst eo69) | ((with_reducible refine gate_callee (f := 56) rfl ?_); refine goesL_ (some 85) rfl rfl Try.func56 (by kernel_rfl) rfl #[.agg #[.int .i64 t1306, .slice Ao69 t1307.length co69, .int .i64 t1310], .int .i64 x78_3] rfl (by (try simp only [List.map_toArray, List.map_cons, List.map_nil]); first | done | rfl | (simp only [List.length_drop, List.length_take]; rfl)) ?_; (with_reducible refine (mask_At.calls k3 t1306 _ _ t1307 t1310 x78_3 false t1312 _ ?side1 ?side2 A49.out).mono ?_); (case side1 => repeat (first | exact (Kd.R_reads' HO1309.out).2.2 | (with_reducible refine Kd.C_alloc ?_ _) | (with_reducible refine Kd.C_drewN ?_ _) | (with_reducible refine Kd.C_drew ?_))); (case side2 => exact (Kd.R_reads' HO1309.out).2.1); rintro e w70 ⟨rfl, hb⟩; refine ⟨_, rfl, ?_⟩; have n0_ := Aside0.mk (Kd.R_below (by (with_reducible repeat (first | apply Kd.R_alloc | apply Kd.R_drewN | apply Kd.R_drew)); exact HO_5.out) hb); have n1_ := Aside0.mk (Kd.R_below (by (with_reducible repeat (first | apply Kd.R_alloc | apply Kd.R_drewN | apply Kd.R_drew)); exact HO1309.out) hb); have n2_ := Aside0.mk (blk_below (g := gb1286) (o := .cells #[.int .i64 a0_0, .slice A0_1 l0_1.length c0_1, .int .i64 a0_2] 33 (0, 0)) (by (with_reducible repeat (first | refine blk_drewN ?_ _ | refine blk_drew ?_ | refine blk_alloc ?_ _)); exact BK1286.out) hb); have n3_ := Aside0.mk (below_step (by repeat (first | (with_reducible first | exact HB.out | apply below_alloc | apply pw_below_drewN | apply below_drew1 | refine below_set ?_ GE1286.out) | exact HB.out)) hb); clear HO_5; clear HO1309; clear BK1286; clear HB; have HO_5 := n0_; have HO1309 := n1_; have BK1286 := n2_; have HB := n3_; clear n0_ n1_ n2_ n3_; (try clear hb); (try clear hb2); (try clear hk); (try clear hi); have hcz71_0 : w70.cell? ⟨gb1286, 0, none⟩ = some (.int .i64 a0_0) := (blk_cell BK1286.out 0).trans rfl; have hcz71_1 : w70.cell? ⟨gb1286, 1, none⟩ = some (.slice A0_1 l0_1.length c0_1) := (blk_cell BK1286.out 1).trans rfl; have hcz71_2 : w70.cell? ⟨gb1286, 2, none⟩ = some (.int .i64 a0_2) := (blk_cell BK1286.out 2).trans rfl; have hfz71_0 := blk_frozen BK1286.out 0; have hfz71_1 := blk_frozen BK1286.out 1; have hfz71_2 := blk_frozen BK1286.out 2; obtain ⟨Ao72, co72, eo72⟩ := Kd.R_slice HO_5.out; subst eo72) | (go_at_call 78; (with_reducible refine (cantinglaw02_inside.calls k3 a0_0 x78_3 _ _ t1292 true _ ?side1 ?side2 A51.out).mono ?_); (case side1 => repeat (first | exact (Kd.R_reads' HO_5.out).2.2 | (with_reducible refine Kd.C_alloc ?_ _) | (with_reducible refine Kd.C_drewN ?_ _) | (with_reducible refine Kd.C_drew ?_))); (case side2 => exact (Kd.R_reads' HO_5.out).2.1); rintro e w' ⟨rfl, ⟨nd, rfl⟩⟩))
                            go_ret
                            exact ⟨by first | rfl | (simp [errW_none, errW_some] <;> rfl) | (simp only [← hji45]; first | rfl | (simp [errW_none, errW_some] <;> rfl)) | (simp [*, errW_none, errW_some] <;> rfl), by repeat (first | (with_reducible first | exact HB.out | apply below_alloc | apply pw_below_drewN | apply below_drew1 | refine below_set ?_ GE1286.out) | exact HB.out)⟩
                        · replace c52 := Bool.eq_false_iff.mpr c52
                          subst c52
                          have H1 : (if x11_3 = true then (if t1311 = true then (cantinglaw02_MaskWidest.l1 k3 l1 t1292 x7_2 x8_2 true ji45 (wrap64 (x78_3 + 1)) a0_0 l0_1 a0_2) else ((cantinglaw02_inside.f k3 a0_0 x78_3 l1).bind fun t1314 => (cantinglaw02_MaskWidest.l1 k3 l1 t1292 x7_2 x8_2 (!t1314) ji45 (wrap64 (x78_3 + 1)) a0_0 l0_1 a0_2))) else (cantinglaw02_MaskWidest.l1 k3 l1 t1292 x7_2 x8_2 false ji45 (wrap64 (x78_3 + 1)) a0_0 l0_1 a0_2)) = some r := by rw [if_neg (show ¬ (false = true) by decide)] at H; exact H
                          clear H
                          have H := H1
                          clear H1
                          by_cases c73 : x11_3 = true
                          · subst c73
                            have H1 : (if t1311 = true then (cantinglaw02_MaskWidest.l1 k3 l1 t1292 x7_2 x8_2 true ji45 (wrap64 (x78_3 + 1)) a0_0 l0_1 a0_2) else ((cantinglaw02_inside.f k3 a0_0 x78_3 l1).bind fun t1314 => (cantinglaw02_MaskWidest.l1 k3 l1 t1292 x7_2 x8_2 (!t1314) ji45 (wrap64 (x78_3 + 1)) a0_0 l0_1 a0_2))) = some r := by rw [if_pos rfl] at H; exact H
                            clear H
                            have H := H1
                            clear H1
                            by_cases c74 : t1311 = true
                            · subst c74
                              have H1 : (cantinglaw02_MaskWidest.l1 k3 l1 t1292 x7_2 x8_2 true ji45 (wrap64 (x78_3 + 1)) a0_0 l0_1 a0_2) = some r := by rw [if_pos rfl] at H; exact H
                              clear H
                              have H := H1
                              clear H1
                              have H' := Aside0.mk H
                              clear H
                              have hcz75_0 : wr.cell? ⟨gb1286, 0, none⟩ = some (.int .i64 a0_0) := (blk_cell BK1286.out 0).trans rfl
                              have hcz75_1 : wr.cell? ⟨gb1286, 1, none⟩ = some (.slice A0_1 l0_1.length c0_1) := (blk_cell BK1286.out 1).trans rfl
                              have hcz75_2 : wr.cell? ⟨gb1286, 2, none⟩ = some (.int .i64 a0_2) := (blk_cell BK1286.out 2).trans rfl
                              have hfz75_0 := blk_frozen BK1286.out 0
                              have hfz75_1 := blk_frozen BK1286.out 1
                              have hfz75_2 := blk_frozen BK1286.out 2
                              go_wp2_with (first | ((with_reducible refine gate_callee (f := 30) rfl ?_); refine goesL_ (some 83) rfl rfl Try.func30 (by kernel_rfl) rfl #[.agg #[.int .i64 a0_0, .slice A0_1 l0_1.length c0_1, .int .i64 a0_2]] rfl (by (try simp only [List.map_toArray, List.map_cons, List.map_nil]); first | done | rfl | (simp only [List.length_drop, List.length_take]; rfl)) ?_; (with_reducible refine (cantinglaw02_of.calls k3 a0_0 _ _ l0_1 a0_2 t1306 t1307 t1310 _ ?side1 ?side2 A48.out).mono ?_); (case side1 => repeat (first | exact (Kd.C_below HR0_1.out HB.out) | (with_reducible refine Kd.C_alloc ?_ _) | (with_reducible refine Kd.C_drewN ?_ _) | (with_reducible refine Kd.C_drew ?_))); (case side2 => exact HC0_1.out); rintro e w76 ⟨v1308, rfl, ho0, hb⟩; refine ⟨_, rfl, ?_⟩; have n0_ := Aside0.mk (Kd.R_below (by (with_reducible repeat (first | apply Kd.R_alloc | apply Kd.R_drewN | apply Kd.R_drew)); exact HO_5.out) hb); have n1_ := Aside0.mk (Kd.R_lower ho0 (below_size (by repeat (first | (with_reducible first | exact HB.out | apply below_alloc | apply pw_below_drewN | apply below_drew1 | refine below_set ?_ GE1286.out) | exact HB.out)))); have n2_ := Aside0.mk (blk_below (g := gb1286) (o := .cells #[.int .i64 a0_0, .slice A0_1 l0_1.length c0_1, .int .i64 a0_2] 33 (0, 0)) (by (with_reducible repeat (first | refine blk_drewN ?_ _ | refine blk_drew ?_ | refine blk_alloc ?_ _)); exact BK1286.out) hb); have n3_ := Aside0.mk (below_step (by repeat (first | (with_reducible first | exact HB.out | apply below_alloc | apply pw_below_drewN | apply below_drew1 | refine below_set ?_ GE1286.out) | exact HB.out)) hb); clear HO_5; clear BK1286; clear HB; have HO_5 := n0_; have HO1309 := n1_; have BK1286 := n2_; have HB := n3_; clear n0_ n1_ n2_ n3_; (try clear hb); (try clear hb2); (try clear hk); (try clear hi); (try clear ho0); obtain ⟨Ao77, co77, eo77⟩ := Kd.R_slice HO1309.out; subst eo77) | ((with_reducible refine gate_callee (f := 56) rfl ?_); refine goesL_ (some 85) rfl rfl Try.func56 (by kernel_rfl) rfl #[.agg #[.int .i64 t1306, .slice Ao77 t1307.length co77, .int .i64 t1310], .int .i64 x78_3] rfl (by (try simp only [List.map_toArray, List.map_cons, List.map_nil]); first | done | rfl | (simp only [List.length_drop, List.length_take]; rfl)) ?_; (with_reducible refine (mask_At.calls k3 t1306 _ _ t1307 t1310 x78_3 true t1312 _ ?side1 ?side2 A49.out).mono ?_); (case side1 => repeat (first | exact (Kd.R_reads' HO1309.out).2.2 | (with_reducible refine Kd.C_alloc ?_ _) | (with_reducible refine Kd.C_drewN ?_ _) | (with_reducible refine Kd.C_drew ?_))); (case side2 => exact (Kd.R_reads' HO1309.out).2.1); rintro e w78 ⟨rfl, hb⟩; refine ⟨_, rfl, ?_⟩; have n0_ := Aside0.mk (Kd.R_below (by (with_reducible repeat (first | apply Kd.R_alloc | apply Kd.R_drewN | apply Kd.R_drew)); exact HO_5.out) hb); have n1_ := Aside0.mk (Kd.R_below (by (with_reducible repeat (first | apply Kd.R_alloc | apply Kd.R_drewN | apply Kd.R_drew)); exact HO1309.out) hb); have n2_ := Aside0.mk (blk_below (g := gb1286) (o := .cells #[.int .i64 a0_0, .slice A0_1 l0_1.length c0_1, .int .i64 a0_2] 33 (0, 0)) (by (with_reducible repeat (first | refine blk_drewN ?_ _ | refine blk_drew ?_ | refine blk_alloc ?_ _)); exact BK1286.out) hb); have n3_ := Aside0.mk (below_step (by repeat (first | (with_reducible first | exact HB.out | apply below_alloc | apply pw_below_drewN | apply below_drew1 | refine below_set ?_ GE1286.out) | exact HB.out)) hb); clear HO_5; clear HO1309; clear BK1286; clear HB; have HO_5 := n0_; have HO1309 := n1_; have BK1286 := n2_; have HB := n3_; clear n0_ n1_ n2_ n3_; (try clear hb); (try clear hb2); (try clear hk); (try clear hi); have hcz79_0 : w78.cell? ⟨gb1286, 0, none⟩ = some (.int .i64 a0_0) := (blk_cell BK1286.out 0).trans rfl; have hcz79_1 : w78.cell? ⟨gb1286, 1, none⟩ = some (.slice A0_1 l0_1.length c0_1) := (blk_cell BK1286.out 1).trans rfl; have hcz79_2 : w78.cell? ⟨gb1286, 2, none⟩ = some (.int .i64 a0_2) := (blk_cell BK1286.out 2).trans rfl; have hfz79_0 := blk_frozen BK1286.out 0; have hfz79_1 := blk_frozen BK1286.out 1; have hfz79_2 := blk_frozen BK1286.out 2; obtain ⟨Ao80, co80, eo80⟩ := Kd.R_slice HO_5.out; subst eo80) | (go_at_call 78; (with_reducible refine (cantinglaw02_inside.calls k3 a0_0 x78_3 _ _ t1292 false _ ?side1 ?side2 A51.out).mono ?_); (case side1 => repeat (first | exact (Kd.R_reads' HO_5.out).2.2 | (with_reducible refine Kd.C_alloc ?_ _) | (with_reducible refine Kd.C_drewN ?_ _) | (with_reducible refine Kd.C_drew ?_))); (case side2 => exact (Kd.R_reads' HO_5.out).2.1); rintro e w' ⟨rfl, ⟨nd, rfl⟩⟩))
                              go_roundg k3
                              case measure => have := HJ4.out; have := HK2.out; have := HK3.out; omega
                              case rel => exact ⟨(true), (wrap64 (x78_3 + 1)), (by first | rfl | (simp; done) | (simp [*]; done)), (by first | rfl | (simp; done) | (simp [*]; done)), H', ⟨by have := HJ4.out; have := HK2.out; have := HK3.out; omega⟩, ⟨by (with_reducible repeat (first | apply Kd.R_alloc | apply Kd.R_drewN | apply Kd.R_drew)); exact HO_5.out⟩, ⟨by (with_reducible repeat (first | refine blk_drewN ?_ _ | refine blk_drew ?_ | refine blk_alloc ?_ _)); exact BK1286.out⟩, ⟨by repeat (first | (with_reducible first | exact HB.out | apply below_alloc | apply pw_below_drewN | apply below_drew1 | refine below_set ?_ GE1286.out) | exact HB.out)⟩⟩
                            · replace c74 := Bool.eq_false_iff.mpr c74
                              subst c74
                              have H1 : ((cantinglaw02_inside.f k3 a0_0 x78_3 l1).bind fun t1314 => (cantinglaw02_MaskWidest.l1 k3 l1 t1292 x7_2 x8_2 (!t1314) ji45 (wrap64 (x78_3 + 1)) a0_0 l0_1 a0_2)) = some r := by rw [if_neg (show ¬ (false = true) by decide)] at H; exact H
                              clear H
                              have H := H1
                              clear H1
                              replace H := Option.bind_eq_some_iff.mp H
                              obtain ⟨t1314, A810, H⟩ := H
                              replace H : (cantinglaw02_MaskWidest.l1 k3 l1 t1292 x7_2 x8_2 (!t1314) ji45 (wrap64 (x78_3 + 1)) a0_0 l0_1 a0_2) = some r := H
                              have A81 := Aside0.mk A810
                              clear A810
                              have H' := Aside0.mk H
                              clear H
                              have hcz82_0 : wr.cell? ⟨gb1286, 0, none⟩ = some (.int .i64 a0_0) := (blk_cell BK1286.out 0).trans rfl
                              have hcz82_1 : wr.cell? ⟨gb1286, 1, none⟩ = some (.slice A0_1 l0_1.length c0_1) := (blk_cell BK1286.out 1).trans rfl
                              have hcz82_2 : wr.cell? ⟨gb1286, 2, none⟩ = some (.int .i64 a0_2) := (blk_cell BK1286.out 2).trans rfl
                              have hfz82_0 := blk_frozen BK1286.out 0
                              have hfz82_1 := blk_frozen BK1286.out 1
                              have hfz82_2 := blk_frozen BK1286.out 2
                              go_wp2_with (first | ((with_reducible refine gate_callee (f := 30) rfl ?_); refine goesL_ (some 83) rfl rfl Try.func30 (by kernel_rfl) rfl #[.agg #[.int .i64 a0_0, .slice A0_1 l0_1.length c0_1, .int .i64 a0_2]] rfl (by (try simp only [List.map_toArray, List.map_cons, List.map_nil]); first | done | rfl | (simp only [List.length_drop, List.length_take]; rfl)) ?_; (with_reducible refine (cantinglaw02_of.calls k3 a0_0 _ _ l0_1 a0_2 t1306 t1307 t1310 _ ?side1 ?side2 A48.out).mono ?_); (case side1 => repeat (first | exact (Kd.C_below HR0_1.out HB.out) | (with_reducible refine Kd.C_alloc ?_ _) | (with_reducible refine Kd.C_drewN ?_ _) | (with_reducible refine Kd.C_drew ?_))); (case side2 => exact HC0_1.out); rintro e w83 ⟨v1308, rfl, ho0, hb⟩; refine ⟨_, rfl, ?_⟩; have n0_ := Aside0.mk (Kd.R_below (by (with_reducible repeat (first | apply Kd.R_alloc | apply Kd.R_drewN | apply Kd.R_drew)); exact HO_5.out) hb); have n1_ := Aside0.mk (Kd.R_lower ho0 (below_size (by repeat (first | (with_reducible first | exact HB.out | apply below_alloc | apply pw_below_drewN | apply below_drew1 | refine below_set ?_ GE1286.out) | exact HB.out)))); have n2_ := Aside0.mk (blk_below (g := gb1286) (o := .cells #[.int .i64 a0_0, .slice A0_1 l0_1.length c0_1, .int .i64 a0_2] 33 (0, 0)) (by (with_reducible repeat (first | refine blk_drewN ?_ _ | refine blk_drew ?_ | refine blk_alloc ?_ _)); exact BK1286.out) hb); have n3_ := Aside0.mk (below_step (by repeat (first | (with_reducible first | exact HB.out | apply below_alloc | apply pw_below_drewN | apply below_drew1 | refine below_set ?_ GE1286.out) | exact HB.out)) hb); clear HO_5; clear BK1286; clear HB; have HO_5 := n0_; have HO1309 := n1_; have BK1286 := n2_; have HB := n3_; clear n0_ n1_ n2_ n3_; (try clear hb); (try clear hb2); (try clear hk); (try clear hi); (try clear ho0); obtain ⟨Ao84, co84, eo84⟩ := Kd.R_slice HO1309.out; subst eo84) | ((with_reducible refine gate_callee (f := 56) rfl ?_); refine goesL_ (some 85) rfl rfl Try.func56 (by kernel_rfl) rfl #[.agg #[.int .i64 t1306, .slice Ao84 t1307.length co84, .int .i64 t1310], .int .i64 x78_3] rfl (by (try simp only [List.map_toArray, List.map_cons, List.map_nil]); first | done | rfl | (simp only [List.length_drop, List.length_take]; rfl)) ?_; (with_reducible refine (mask_At.calls k3 t1306 _ _ t1307 t1310 x78_3 false t1312 _ ?side1 ?side2 A49.out).mono ?_); (case side1 => repeat (first | exact (Kd.R_reads' HO1309.out).2.2 | (with_reducible refine Kd.C_alloc ?_ _) | (with_reducible refine Kd.C_drewN ?_ _) | (with_reducible refine Kd.C_drew ?_))); (case side2 => exact (Kd.R_reads' HO1309.out).2.1); rintro e w85 ⟨rfl, hb⟩; refine ⟨_, rfl, ?_⟩; have n0_ := Aside0.mk (Kd.R_below (by (with_reducible repeat (first | apply Kd.R_alloc | apply Kd.R_drewN | apply Kd.R_drew)); exact HO_5.out) hb); have n1_ := Aside0.mk (Kd.R_below (by (with_reducible repeat (first | apply Kd.R_alloc | apply Kd.R_drewN | apply Kd.R_drew)); exact HO1309.out) hb); have n2_ := Aside0.mk (blk_below (g := gb1286) (o := .cells #[.int .i64 a0_0, .slice A0_1 l0_1.length c0_1, .int .i64 a0_2] 33 (0, 0)) (by (with_reducible repeat (first | refine blk_drewN ?_ _ | refine blk_drew ?_ | refine blk_alloc ?_ _)); exact BK1286.out) hb); have n3_ := Aside0.mk (below_step (by repeat (first | (with_reducible first | exact HB.out | apply below_alloc | apply pw_below_drewN | apply below_drew1 | refine below_set ?_ GE1286.out) | exact HB.out)) hb); clear HO_5; clear HO1309; clear BK1286; clear HB; have HO_5 := n0_; have HO1309 := n1_; have BK1286 := n2_; have HB := n3_; clear n0_ n1_ n2_ n3_; (try clear hb); (try clear hb2); (try clear hk); (try clear hi); have hcz86_0 : w85.cell? ⟨gb1286, 0, none⟩ = some (.int .i64 a0_0) := (blk_cell BK1286.out 0).trans rfl; have hcz86_1 : w85.cell? ⟨gb1286, 1, none⟩ = some (.slice A0_1 l0_1.length c0_1) := (blk_cell BK1286.out 1).trans rfl; have hcz86_2 : w85.cell? ⟨gb1286, 2, none⟩ = some (.int .i64 a0_2) := (blk_cell BK1286.out 2).trans rfl; have hfz86_0 := blk_frozen BK1286.out 0; have hfz86_1 := blk_frozen BK1286.out 1; have hfz86_2 := blk_frozen BK1286.out 2; obtain ⟨Ao87, co87, eo87⟩ := Kd.R_slice HO_5.out; subst eo87) | (go_at_call 78; (with_reducible refine (cantinglaw02_inside.calls k3 a0_0 x78_3 _ _ t1292 false _ ?side1 ?side2 A51.out).mono ?_); (case side1 => repeat (first | exact (Kd.R_reads' HO_5.out).2.2 | (with_reducible refine Kd.C_alloc ?_ _) | (with_reducible refine Kd.C_drewN ?_ _) | (with_reducible refine Kd.C_drew ?_))); (case side2 => exact (Kd.R_reads' HO_5.out).2.1); rintro e w' ⟨rfl, ⟨nd, rfl⟩⟩) | (go_at_call 78; (with_reducible refine (cantinglaw02_inside.calls k3 a0_0 x78_3 _ _ l1 t1314 _ ?side1 ?side2 A81.out).mono ?_); (case side1 => repeat (first | exact (Kd.C_below HR1.out (by repeat (first | (with_reducible first | exact HB.out | apply below_alloc | apply pw_below_drewN | apply below_drew1 | refine below_set ?_ GE1286.out) | exact HB.out))) | (with_reducible refine Kd.C_alloc ?_ _) | (with_reducible refine Kd.C_drewN ?_ _) | (with_reducible refine Kd.C_drew ?_))); (case side2 => exact HC1.out); rintro e w' ⟨rfl, ⟨nd, rfl⟩⟩))
                              go_roundg k3
                              case measure => have := HJ4.out; have := HK2.out; have := HK3.out; omega
                              case rel => exact ⟨(!t1314), (wrap64 (x78_3 + 1)), (by first | rfl | (simp; done) | (simp [*]; done)), (by first | rfl | (simp; done) | (simp [*]; done)), H', ⟨by have := HJ4.out; have := HK2.out; have := HK3.out; omega⟩, ⟨by (with_reducible repeat (first | apply Kd.R_alloc | apply Kd.R_drewN | apply Kd.R_drew)); exact HO_5.out⟩, ⟨by (with_reducible repeat (first | refine blk_drewN ?_ _ | refine blk_drew ?_ | refine blk_alloc ?_ _)); exact BK1286.out⟩, ⟨by repeat (first | (with_reducible first | exact HB.out | apply below_alloc | apply pw_below_drewN | apply below_drew1 | refine below_set ?_ GE1286.out) | exact HB.out)⟩⟩
                          · replace c73 := Bool.eq_false_iff.mpr c73
                            subst c73
                            have H1 : (cantinglaw02_MaskWidest.l1 k3 l1 t1292 x7_2 x8_2 false ji45 (wrap64 (x78_3 + 1)) a0_0 l0_1 a0_2) = some r := by rw [if_neg (show ¬ (false = true) by decide)] at H; exact H
                            clear H
                            have H := H1
                            clear H1
                            have H' := Aside0.mk H
                            clear H
                            have hcz88_0 : wr.cell? ⟨gb1286, 0, none⟩ = some (.int .i64 a0_0) := (blk_cell BK1286.out 0).trans rfl
                            have hcz88_1 : wr.cell? ⟨gb1286, 1, none⟩ = some (.slice A0_1 l0_1.length c0_1) := (blk_cell BK1286.out 1).trans rfl
                            have hcz88_2 : wr.cell? ⟨gb1286, 2, none⟩ = some (.int .i64 a0_2) := (blk_cell BK1286.out 2).trans rfl
                            have hfz88_0 := blk_frozen BK1286.out 0
                            have hfz88_1 := blk_frozen BK1286.out 1
                            have hfz88_2 := blk_frozen BK1286.out 2
                            go_wp2_with (first | ((with_reducible refine gate_callee (f := 30) rfl ?_); refine goesL_ (some 83) rfl rfl Try.func30 (by kernel_rfl) rfl #[.agg #[.int .i64 a0_0, .slice A0_1 l0_1.length c0_1, .int .i64 a0_2]] rfl (by (try simp only [List.map_toArray, List.map_cons, List.map_nil]); first | done | rfl | (simp only [List.length_drop, List.length_take]; rfl)) ?_; (with_reducible refine (cantinglaw02_of.calls k3 a0_0 _ _ l0_1 a0_2 t1306 t1307 t1310 _ ?side1 ?side2 A48.out).mono ?_); (case side1 => repeat (first | exact (Kd.C_below HR0_1.out HB.out) | (with_reducible refine Kd.C_alloc ?_ _) | (with_reducible refine Kd.C_drewN ?_ _) | (with_reducible refine Kd.C_drew ?_))); (case side2 => exact HC0_1.out); rintro e w89 ⟨v1308, rfl, ho0, hb⟩; refine ⟨_, rfl, ?_⟩; have n0_ := Aside0.mk (Kd.R_below (by (with_reducible repeat (first | apply Kd.R_alloc | apply Kd.R_drewN | apply Kd.R_drew)); exact HO_5.out) hb); have n1_ := Aside0.mk (Kd.R_lower ho0 (below_size (by repeat (first | (with_reducible first | exact HB.out | apply below_alloc | apply pw_below_drewN | apply below_drew1 | refine below_set ?_ GE1286.out) | exact HB.out)))); have n2_ := Aside0.mk (blk_below (g := gb1286) (o := .cells #[.int .i64 a0_0, .slice A0_1 l0_1.length c0_1, .int .i64 a0_2] 33 (0, 0)) (by (with_reducible repeat (first | refine blk_drewN ?_ _ | refine blk_drew ?_ | refine blk_alloc ?_ _)); exact BK1286.out) hb); have n3_ := Aside0.mk (below_step (by repeat (first | (with_reducible first | exact HB.out | apply below_alloc | apply pw_below_drewN | apply below_drew1 | refine below_set ?_ GE1286.out) | exact HB.out)) hb); clear HO_5; clear BK1286; clear HB; have HO_5 := n0_; have HO1309 := n1_; have BK1286 := n2_; have HB := n3_; clear n0_ n1_ n2_ n3_; (try clear hb); (try clear hb2); (try clear hk); (try clear hi); (try clear ho0); obtain ⟨Ao90, co90, eo90⟩ := Kd.R_slice HO1309.out; subst eo90) | ((with_reducible refine gate_callee (f := 56) rfl ?_); refine goesL_ (some 85) rfl rfl Try.func56 (by kernel_rfl) rfl #[.agg #[.int .i64 t1306, .slice Ao90 t1307.length co90, .int .i64 t1310], .int .i64 x78_3] rfl (by (try simp only [List.map_toArray, List.map_cons, List.map_nil]); first | done | rfl | (simp only [List.length_drop, List.length_take]; rfl)) ?_; (with_reducible refine (mask_At.calls k3 t1306 _ _ t1307 t1310 x78_3 t1311 t1312 _ ?side1 ?side2 A49.out).mono ?_); (case side1 => repeat (first | exact (Kd.R_reads' HO1309.out).2.2 | (with_reducible refine Kd.C_alloc ?_ _) | (with_reducible refine Kd.C_drewN ?_ _) | (with_reducible refine Kd.C_drew ?_))); (case side2 => exact (Kd.R_reads' HO1309.out).2.1); rintro e w91 ⟨rfl, hb⟩; refine ⟨_, rfl, ?_⟩; have n0_ := Aside0.mk (Kd.R_below (by (with_reducible repeat (first | apply Kd.R_alloc | apply Kd.R_drewN | apply Kd.R_drew)); exact HO_5.out) hb); have n1_ := Aside0.mk (Kd.R_below (by (with_reducible repeat (first | apply Kd.R_alloc | apply Kd.R_drewN | apply Kd.R_drew)); exact HO1309.out) hb); have n2_ := Aside0.mk (blk_below (g := gb1286) (o := .cells #[.int .i64 a0_0, .slice A0_1 l0_1.length c0_1, .int .i64 a0_2] 33 (0, 0)) (by (with_reducible repeat (first | refine blk_drewN ?_ _ | refine blk_drew ?_ | refine blk_alloc ?_ _)); exact BK1286.out) hb); have n3_ := Aside0.mk (below_step (by repeat (first | (with_reducible first | exact HB.out | apply below_alloc | apply pw_below_drewN | apply below_drew1 | refine below_set ?_ GE1286.out) | exact HB.out)) hb); clear HO_5; clear HO1309; clear BK1286; clear HB; have HO_5 := n0_; have HO1309 := n1_; have BK1286 := n2_; have HB := n3_; clear n0_ n1_ n2_ n3_; (try clear hb); (try clear hb2); (try clear hk); (try clear hi); have hcz92_0 : w91.cell? ⟨gb1286, 0, none⟩ = some (.int .i64 a0_0) := (blk_cell BK1286.out 0).trans rfl; have hcz92_1 : w91.cell? ⟨gb1286, 1, none⟩ = some (.slice A0_1 l0_1.length c0_1) := (blk_cell BK1286.out 1).trans rfl; have hcz92_2 : w91.cell? ⟨gb1286, 2, none⟩ = some (.int .i64 a0_2) := (blk_cell BK1286.out 2).trans rfl; have hfz92_0 := blk_frozen BK1286.out 0; have hfz92_1 := blk_frozen BK1286.out 1; have hfz92_2 := blk_frozen BK1286.out 2; obtain ⟨Ao93, co93, eo93⟩ := Kd.R_slice HO_5.out; subst eo93) | (go_at_call 78; (with_reducible refine (cantinglaw02_inside.calls k3 a0_0 x78_3 _ _ t1292 false _ ?side1 ?side2 A51.out).mono ?_); (case side1 => repeat (first | exact (Kd.R_reads' HO_5.out).2.2 | (with_reducible refine Kd.C_alloc ?_ _) | (with_reducible refine Kd.C_drewN ?_ _) | (with_reducible refine Kd.C_drew ?_))); (case side2 => exact (Kd.R_reads' HO_5.out).2.1); rintro e w' ⟨rfl, ⟨nd, rfl⟩⟩))
                            go_roundg k3
                            case measure => have := HJ4.out; have := HK2.out; have := HK3.out; omega
                            case rel => exact ⟨(false), (wrap64 (x78_3 + 1)), (by first | rfl | (simp; done) | (simp [*]; done)), (by first | rfl | (simp; done) | (simp [*]; done)), H', ⟨by have := HJ4.out; have := HK2.out; have := HK3.out; omega⟩, ⟨by (with_reducible repeat (first | apply Kd.R_alloc | apply Kd.R_drewN | apply Kd.R_drew)); exact HO_5.out⟩, ⟨by (with_reducible repeat (first | refine blk_drewN ?_ _ | refine blk_drew ?_ | refine blk_alloc ?_ _)); exact BK1286.out⟩, ⟨by repeat (first | (with_reducible first | exact HB.out | apply below_alloc | apply pw_below_drewN | apply below_drew1 | refine below_set ?_ GE1286.out) | exact HB.out)⟩⟩
                      · rw [if_neg c50] at H
                        have c50b0 : (t1312 == 0) = false := beq_eq_false_iff_ne.mpr c50
                        have c50b1 : (t1312 != 0) = true := bne_iff_ne.mpr c50
                        obtain rfl := Option.some.inj H
                        have hcz94_0 : wr.cell? ⟨gb1286, 0, none⟩ = some (.int .i64 a0_0) := (blk_cell BK1286.out 0).trans rfl
                        have hcz94_1 : wr.cell? ⟨gb1286, 1, none⟩ = some (.slice A0_1 l0_1.length c0_1) := (blk_cell BK1286.out 1).trans rfl
                        have hcz94_2 : wr.cell? ⟨gb1286, 2, none⟩ = some (.int .i64 a0_2) := (blk_cell BK1286.out 2).trans rfl
                        have hfz94_0 := blk_frozen BK1286.out 0
                        have hfz94_1 := blk_frozen BK1286.out 1
                        have hfz94_2 := blk_frozen BK1286.out 2
                        go_wp2_with (first | ((with_reducible refine gate_callee (f := 30) rfl ?_); refine goesL_ (some 83) rfl rfl Try.func30 (by kernel_rfl) rfl #[.agg #[.int .i64 a0_0, .slice A0_1 l0_1.length c0_1, .int .i64 a0_2]] rfl (by (try simp only [List.map_toArray, List.map_cons, List.map_nil]); first | done | rfl | (simp only [List.length_drop, List.length_take]; rfl)) ?_; (with_reducible refine (cantinglaw02_of.calls k3 a0_0 _ _ l0_1 a0_2 t1306 t1307 t1310 _ ?side1 ?side2 A48.out).mono ?_); (case side1 => repeat (first | exact (Kd.C_below HR0_1.out HB.out) | (with_reducible refine Kd.C_alloc ?_ _) | (with_reducible refine Kd.C_drewN ?_ _) | (with_reducible refine Kd.C_drew ?_))); (case side2 => exact HC0_1.out); rintro e w95 ⟨v1308, rfl, ho0, hb⟩; refine ⟨_, rfl, ?_⟩; have n0_ := Aside0.mk (Kd.R_below (by (with_reducible repeat (first | apply Kd.R_alloc | apply Kd.R_drewN | apply Kd.R_drew)); exact HO_5.out) hb); have n1_ := Aside0.mk (Kd.R_lower ho0 (below_size (by repeat (first | (with_reducible first | exact HB.out | apply below_alloc | apply pw_below_drewN | apply below_drew1 | refine below_set ?_ GE1286.out) | exact HB.out)))); have n2_ := Aside0.mk (blk_below (g := gb1286) (o := .cells #[.int .i64 a0_0, .slice A0_1 l0_1.length c0_1, .int .i64 a0_2] 33 (0, 0)) (by (with_reducible repeat (first | refine blk_drewN ?_ _ | refine blk_drew ?_ | refine blk_alloc ?_ _)); exact BK1286.out) hb); have n3_ := Aside0.mk (below_step (by repeat (first | (with_reducible first | exact HB.out | apply below_alloc | apply pw_below_drewN | apply below_drew1 | refine below_set ?_ GE1286.out) | exact HB.out)) hb); clear HO_5; clear BK1286; clear HB; have HO_5 := n0_; have HO1309 := n1_; have BK1286 := n2_; have HB := n3_; clear n0_ n1_ n2_ n3_; (try clear hb); (try clear hb2); (try clear hk); (try clear hi); (try clear ho0); obtain ⟨Ao96, co96, eo96⟩ := Kd.R_slice HO1309.out; subst eo96) | ((with_reducible refine gate_callee (f := 56) rfl ?_); refine goesL_ (some 85) rfl rfl Try.func56 (by kernel_rfl) rfl #[.agg #[.int .i64 t1306, .slice Ao96 t1307.length co96, .int .i64 t1310], .int .i64 x78_3] rfl (by (try simp only [List.map_toArray, List.map_cons, List.map_nil]); first | done | rfl | (simp only [List.length_drop, List.length_take]; rfl)) ?_; (with_reducible refine (mask_At.calls k3 t1306 _ _ t1307 t1310 x78_3 t1311 t1312 _ ?side1 ?side2 A49.out).mono ?_); (case side1 => repeat (first | exact (Kd.R_reads' HO1309.out).2.2 | (with_reducible refine Kd.C_alloc ?_ _) | (with_reducible refine Kd.C_drewN ?_ _) | (with_reducible refine Kd.C_drew ?_))); (case side2 => exact (Kd.R_reads' HO1309.out).2.1); rintro e w97 ⟨rfl, hb⟩; refine ⟨_, rfl, ?_⟩; have n0_ := Aside0.mk (Kd.R_below (by (with_reducible repeat (first | apply Kd.R_alloc | apply Kd.R_drewN | apply Kd.R_drew)); exact HO_5.out) hb); have n1_ := Aside0.mk (Kd.R_below (by (with_reducible repeat (first | apply Kd.R_alloc | apply Kd.R_drewN | apply Kd.R_drew)); exact HO1309.out) hb); have n2_ := Aside0.mk (blk_below (g := gb1286) (o := .cells #[.int .i64 a0_0, .slice A0_1 l0_1.length c0_1, .int .i64 a0_2] 33 (0, 0)) (by (with_reducible repeat (first | refine blk_drewN ?_ _ | refine blk_drew ?_ | refine blk_alloc ?_ _)); exact BK1286.out) hb); have n3_ := Aside0.mk (below_step (by repeat (first | (with_reducible first | exact HB.out | apply below_alloc | apply pw_below_drewN | apply below_drew1 | refine below_set ?_ GE1286.out) | exact HB.out)) hb); clear HO_5; clear HO1309; clear BK1286; clear HB; have HO_5 := n0_; have HO1309 := n1_; have BK1286 := n2_; have HB := n3_; clear n0_ n1_ n2_ n3_; (try clear hb); (try clear hb2); (try clear hk); (try clear hi)))
                        go_ret
                        exact ⟨by first | rfl | (simp [errW_none, errW_some] <;> rfl) | (simp only [← hji45]; first | rfl | (simp [errW_none, errW_some] <;> rfl)) | (simp [*, errW_none, errW_some] <;> rfl), by repeat (first | (with_reducible first | exact HB.out | apply below_alloc | apply pw_below_drewN | apply below_drew1 | refine below_set ?_ GE1286.out) | exact HB.out)⟩
                    · rw [if_neg c47] at H
                      have c47b0 : decide (x78_3 < ji45) = false := decide_eq_false c47
                      clear c47
                      by_cases c98 : x11_3 = true
                      · subst c98
                        have H1 : (if x7_2 < x8_2 then ((cantinglaw02_awake.f k3).bind fun t1302 => (some t1302)) else (if x7_2 = x8_2 then ((slices_Compare_int_int.f k3 t1292 l1).bind fun t1303 => (if t1303 ≤ 0 then ((cantinglaw02_awake.f k3).bind fun t1304 => (some t1304)) else (some false))) else (some false))) = some r := by rw [if_pos rfl] at H; exact H
                        clear H
                        have H := H1
                        clear H1
                        by_cases c99 : x7_2 < x8_2
                        · rw [if_pos c99] at H
                          have c99b0 : decide (x7_2 < x8_2) = true := decide_eq_true c99
                          clear c99
                          replace H := Option.bind_eq_some_iff.mp H
                          obtain ⟨t1302, A1000, H⟩ := H
                          replace H : (some t1302) = some r := H
                          have A100 := Aside0.mk A1000
                          clear A1000
                          obtain rfl := Option.some.inj H
                          go_wp2_with (first | (go_at_call 24; (with_reducible refine (cantinglaw02_awake.calls k3  t1302 _ A100.out).mono ?_); rintro e w101 ⟨rfl, hb⟩; have n0_ := Aside0.mk (Kd.R_below (by (with_reducible repeat (first | apply Kd.R_alloc | apply Kd.R_drewN | apply Kd.R_drew)); exact HO_5.out) hb); have n1_ := Aside0.mk (blk_below (g := gb1286) (o := .cells #[.int .i64 a0_0, .slice A0_1 l0_1.length c0_1, .int .i64 a0_2] 33 (0, 0)) (by (with_reducible repeat (first | refine blk_drewN ?_ _ | refine blk_drew ?_ | refine blk_alloc ?_ _)); exact BK1286.out) hb); have n2_ := Aside0.mk (below_step (by repeat (first | (with_reducible first | exact HB.out | apply below_alloc | apply pw_below_drewN | apply below_drew1 | refine below_set ?_ GE1286.out) | exact HB.out)) hb); clear HO_5; clear BK1286; clear HB; have HO_5 := n0_; have BK1286 := n1_; have HB := n2_; clear n0_ n1_ n2_; (try clear hb); (try clear hb2); (try clear hk); (try clear hi)))
                          go_ret
                          exact ⟨by first | rfl | (simp [errW_none, errW_some] <;> rfl) | (simp only [← hji45]; first | rfl | (simp [errW_none, errW_some] <;> rfl)) | (simp [*, errW_none, errW_some] <;> rfl), by repeat (first | (with_reducible first | exact HB.out | apply below_alloc | apply pw_below_drewN | apply below_drew1 | refine below_set ?_ GE1286.out) | exact HB.out)⟩
                        · rw [if_neg c99] at H
                          have c99b0 : decide (x7_2 < x8_2) = false := decide_eq_false c99
                          clear c99
                          by_cases c102 : x7_2 = x8_2
                          · rw [if_pos c102] at H
                            have c102b0 : (x7_2 == x8_2) = true := beq_iff_eq.mpr c102
                            have c102b1 : (x7_2 != x8_2) = false := bne_eq_false_iff_eq.mpr c102
                            clear c102
                            replace H := Option.bind_eq_some_iff.mp H
                            obtain ⟨t1303, A1030, H⟩ := H
                            replace H : (if t1303 ≤ 0 then ((cantinglaw02_awake.f k3).bind fun t1304 => (some t1304)) else (some false)) = some r := H
                            have A103 := Aside0.mk A1030
                            clear A1030
                            by_cases c104 : t1303 ≤ 0
                            · rw [if_pos c104] at H
                              have c104b0 : decide (t1303 ≤ 0) = true := decide_eq_true c104
                              clear c104
                              replace H := Option.bind_eq_some_iff.mp H
                              obtain ⟨t1304, A1050, H⟩ := H
                              replace H : (some t1304) = some r := H
                              have A105 := Aside0.mk A1050
                              clear A1050
                              obtain rfl := Option.some.inj H
                              obtain ⟨Ao106, co106, eo106⟩ := Kd.R_slice HO_5.out
                              subst eo106
                              go_wp2_with (first | (go_at_call 79; (with_reducible refine (slices_Compare_int_int.calls k3 _ _ t1292 _ _ l1 t1303 _ ?side1 ?side2 ?side3 ?side4 A103.out).mono ?_); (case side1 => repeat (first | exact (Kd.R_reads' HO_5.out).2.2 | (with_reducible refine Kd.C_alloc ?_ _) | (with_reducible refine Kd.C_drewN ?_ _) | (with_reducible refine Kd.C_drew ?_))); (case side2 => exact (Kd.R_reads' HO_5.out).2.1); (case side3 => repeat (first | exact (Kd.C_below HR1.out HB.out) | (with_reducible refine Kd.C_alloc ?_ _) | (with_reducible refine Kd.C_drewN ?_ _) | (with_reducible refine Kd.C_drew ?_))); (case side4 => exact HC1.out); rintro e w' ⟨rfl, ⟨nd, rfl⟩⟩) | (go_at_call 24; (with_reducible refine (cantinglaw02_awake.calls k3  t1304 _ A105.out).mono ?_); rintro e w107 ⟨rfl, hb⟩; have n0_ := Aside0.mk (Kd.R_below (by (with_reducible repeat (first | apply Kd.R_alloc | apply Kd.R_drewN | apply Kd.R_drew)); exact HO_5.out) hb); have n1_ := Aside0.mk (blk_below (g := gb1286) (o := .cells #[.int .i64 a0_0, .slice A0_1 l0_1.length c0_1, .int .i64 a0_2] 33 (0, 0)) (by (with_reducible repeat (first | refine blk_drewN ?_ _ | refine blk_drew ?_ | refine blk_alloc ?_ _)); exact BK1286.out) hb); have n2_ := Aside0.mk (below_step (by repeat (first | (with_reducible first | exact HB.out | apply below_alloc | apply pw_below_drewN | apply below_drew1 | refine below_set ?_ GE1286.out) | exact HB.out)) hb); clear HO_5; clear BK1286; clear HB; have HO_5 := n0_; have BK1286 := n1_; have HB := n2_; clear n0_ n1_ n2_; (try clear hb); (try clear hb2); (try clear hk); (try clear hi)))
                              go_ret
                              exact ⟨by first | rfl | (simp [errW_none, errW_some] <;> rfl) | (simp only [← hji45]; first | rfl | (simp [errW_none, errW_some] <;> rfl)) | (simp [*, errW_none, errW_some] <;> rfl), by repeat (first | (with_reducible first | exact HB.out | apply below_alloc | apply pw_below_drewN | apply below_drew1 | refine below_set ?_ GE1286.out) | exact HB.out)⟩
                            · rw [if_neg c104] at H
                              have c104b0 : decide (t1303 ≤ 0) = false := decide_eq_false c104
                              clear c104
                              obtain rfl := Option.some.inj H
                              obtain ⟨Ao108, co108, eo108⟩ := Kd.R_slice HO_5.out
                              subst eo108
                              go_wp2_with (first | (go_at_call 79; (with_reducible refine (slices_Compare_int_int.calls k3 _ _ t1292 _ _ l1 t1303 _ ?side1 ?side2 ?side3 ?side4 A103.out).mono ?_); (case side1 => repeat (first | exact (Kd.R_reads' HO_5.out).2.2 | (with_reducible refine Kd.C_alloc ?_ _) | (with_reducible refine Kd.C_drewN ?_ _) | (with_reducible refine Kd.C_drew ?_))); (case side2 => exact (Kd.R_reads' HO_5.out).2.1); (case side3 => repeat (first | exact (Kd.C_below HR1.out HB.out) | (with_reducible refine Kd.C_alloc ?_ _) | (with_reducible refine Kd.C_drewN ?_ _) | (with_reducible refine Kd.C_drew ?_))); (case side4 => exact HC1.out); rintro e w' ⟨rfl, ⟨nd, rfl⟩⟩))
                              go_ret
                              exact ⟨by first | rfl | (simp [errW_none, errW_some] <;> rfl) | (simp only [← hji45]; first | rfl | (simp [errW_none, errW_some] <;> rfl)) | (simp [*, errW_none, errW_some] <;> rfl), by repeat (first | (with_reducible first | exact HB.out | apply below_alloc | apply pw_below_drewN | apply below_drew1 | refine below_set ?_ GE1286.out) | exact HB.out)⟩
                          · rw [if_neg c102] at H
                            have c102b0 : (x7_2 == x8_2) = false := beq_eq_false_iff_ne.mpr c102
                            have c102b1 : (x7_2 != x8_2) = true := bne_iff_ne.mpr c102
                            obtain rfl := Option.some.inj H
                            go_wp2
                            go_ret
                            exact ⟨by first | rfl | (simp [errW_none, errW_some] <;> rfl) | (simp only [← hji45]; first | rfl | (simp [errW_none, errW_some] <;> rfl)) | (simp [*, errW_none, errW_some] <;> rfl), by repeat (first | (with_reducible first | exact HB.out | apply below_alloc | apply pw_below_drewN | apply below_drew1 | refine below_set ?_ GE1286.out) | exact HB.out)⟩
                      · replace c98 := Bool.eq_false_iff.mpr c98
                        subst c98
                        have H1 : ((cantinglaw02_awake.f k3).bind fun t1305 => (some t1305)) = some r := by rw [if_neg (show ¬ (false = true) by decide)] at H; exact H
                        clear H
                        have H := H1
                        clear H1
                        replace H := Option.bind_eq_some_iff.mp H
                        obtain ⟨t1305, A1090, H⟩ := H
                        replace H : (some t1305) = some r := H
                        have A109 := Aside0.mk A1090
                        clear A1090
                        obtain rfl := Option.some.inj H
                        go_wp2_with (first | (go_at_call 24; (with_reducible refine (cantinglaw02_awake.calls k3  t1305 _ A109.out).mono ?_); rintro e w110 ⟨rfl, hb⟩; have n0_ := Aside0.mk (Kd.R_below (by (with_reducible repeat (first | apply Kd.R_alloc | apply Kd.R_drewN | apply Kd.R_drew)); exact HO_5.out) hb); have n1_ := Aside0.mk (blk_below (g := gb1286) (o := .cells #[.int .i64 a0_0, .slice A0_1 l0_1.length c0_1, .int .i64 a0_2] 33 (0, 0)) (by (with_reducible repeat (first | refine blk_drewN ?_ _ | refine blk_drew ?_ | refine blk_alloc ?_ _)); exact BK1286.out) hb); have n2_ := Aside0.mk (below_step (by repeat (first | (with_reducible first | exact HB.out | apply below_alloc | apply pw_below_drewN | apply below_drew1 | refine below_set ?_ GE1286.out) | exact HB.out)) hb); clear HO_5; clear BK1286; clear HB; have HO_5 := n0_; have BK1286 := n1_; have HB := n2_; clear n0_ n1_ n2_; (try clear hb); (try clear hb2); (try clear hk); (try clear hi)))
                        go_ret
                        exact ⟨by first | rfl | (simp [errW_none, errW_some] <;> rfl) | (simp only [← hji45]; first | rfl | (simp [errW_none, errW_some] <;> rfl)) | (simp [*, errW_none, errW_some] <;> rfl), by repeat (first | (with_reducible first | exact HB.out | apply below_alloc | apply pw_below_drewN | apply below_drew1 | refine below_set ?_ GE1286.out) | exact HB.out)⟩
              · rw [if_neg c44] at H
                exact absurd H (by simp)
end Go.Proofs.Ytlplphgoldkoeaa.X
end

section
set_option linter.unusedVariables false
set_option linter.unusedSimpArgs false
namespace Go.Proofs.Ytlplphgoldkoeaa.HTab
open Go.RowKit Go.Proofs.YtlplphgoldkoeaaW.PrintWords Go.Proofs.YtlplphgoldkoeaaW.PrintLast Go.Proofs.YtlplphgoldkoeaaW.PrintMore Go.Proofs.Ytlplphgoldkoeaa.HMap Go.Proofs.Ytlplphgoldkoeaa.X
set_option linter.unusedVariables false
set_option linter.unusedSimpArgs false
theorem cmpL_le : ∀ a b : List Int, lexLt b a = false → cmpL a b ≤ 0
  | [], [], h => by simp [cmpL]
  | [], y :: b, h => by simp [cmpL]
  | x :: a, [], h => by simp [lexLt] at h
  | x :: a, y :: b, h => by
    simp only [lexLt, Bool.or_eq_false_iff, decide_eq_false_iff_not, Bool.and_eq_false_iff, beq_eq_false_iff_ne, ne_eq] at h
    simp only [cmpL]
    split
    · omega
    · rw [if_neg (by omega)]
      exact cmpL_le a b (h.2.resolve_left (by omega))
theorem insL_mem (n P : Nat) : ∀ (c : List Int) (i : Nat), c.length + i = n → insL n P i c = memP c P
  | [], i, h => rfl
  | x :: c, i, h => by
    simp only [List.length_cons] at h
    simp only [insL, memP]
    rw [insL_mem n P c (i + 1) (by omega), show n - 1 - i = c.length by omega]
theorem VM.point {v r : Int} {l : List S107} (h : VM v l r) (hr : r ≠ 0) : ∃ P, P < 2 ^ v.toNat ∧ (tab v l r).getD P false = true := by
  by_cases hq : ∃ P, P < 2 ^ v.toNat ∧ (tab v l r).getD P false = true
  · exact hq
  · exfalso
    have e : tab v l r = tab v [] 0 := by
      have hc := tab_const (n := v) h.v0 false
      simp only [Bool.false_eq_true, if_false] at hc
      rw [hc]
      apply List.ext_getElem
      · rw [tab_length, List.length_replicate]
      · intro i h1 h2
        rw [tab_length] at h1
        rw [List.getElem_replicate]
        cases hb : (tab v l r)[i]'(by rw [tab_length]; exact h1) with
        | false => rfl
        | true => exact absurd ⟨i, h1, by rw [List.getD, List.getElem?_eq_getElem (by rw [tab_length]; exact h1), hb]; rfl⟩ hq
    have h0 := VM.const (n := v) h.v0 h.v12 false
    simp only [Bool.false_eq_true, if_false] at h0
    exact hr (h.same h0 e).2
theorem least_f {v r : Int} {l : List S107} (h : VM v l r) (hr : r ≠ 0) : ∃ a, bestT v.toNat (tab v l r) = some a ∧ mask_Least.f v l r = some (a.2, 0) := by
  obtain ⟨P, hP, ht⟩ := h.point hr
  obtain ⟨a, ha⟩ := best_some v.toNat (tab v l r) P (tab_length _ _ _) hP ht
  have hn := h.root.2.2
  refine ⟨a, ha, ?_⟩
  unfold mask_Least.f
  rw [if_pos (by omega), if_pos (vmB_true h), if_neg hr, ha]
  rfl
theorem least_f0 {v : Int} {l : List S107} (h : VM v l 0) : mask_Least.f v l 0 = some ([], 7) := by
  have hn := h.root.2.2
  unfold mask_Least.f
  rw [if_pos (by omega), if_pos (vmB_true h), if_pos rfl]
theorem least_f2 {v r : Int} {l : List S107} (h : ¬ VM v l r) (hl : l.length ≤ 1000000000) : mask_Least.f v l r = some ([], 2) := by
  unfold mask_Least.f
  rw [if_pos hl, if_neg (fun q => h (vmB_iff.1 q))]
section
variable {v r : Int} {k1 : List S106} (h : VM v (k1.map ofR) r) (a : Int × List Int) (ha : bestT v.toNat (tab v (k1.map ofR) r) = some a) (cube : List Int) (hc : (cube.length : Int) = v)
include h ha hc
set_option maxHeartbeats 4000000 in
theorem widest_l1 (hd : Dig cube) : ∀ (d P fu : Nat) (wi : Bool), P + d = 2 ^ v.toNat → d + 6000 < fu → (wi = true → ∀ Q, Q < P → memP cube Q = true → (tab v (k1.map ofR) r).getD Q false = true) →
    cantinglaw02_MaskWidest.l1 fu cube a.2 (freeC cube) (freeC a.2) wi (2 ^ v.toNat) P v k1 r = some true
  | d, P, 0, wi, h1, h2, h3 => by omega
  | 0, P, fu + 1, wi, h1, h2, h3 => by
    have hc2 := pow_cast v.toNat
    have v0 := h.v0
    have v12 := h.v12
    simp only [cantinglaw02_MaskWidest.l1]
    rw [if_neg (by omega), awake_f fu (by omega)]
    cases wi with
    | false => simp
    | true =>
      obtain ⟨i1, i2, i3, i4⟩ := best_in _ _ a (tab_length _ _ _) ha
      have hl : cube.length = v.toNat := by omega
      obtain ⟨b, hb, hle⟩ := best_max v.toNat (tab v (k1.map ofR) r) cube (tab_length _ _ _) hl hd (fun Q hQ hm => h3 rfl Q (by rw [hl] at hQ; omega) hm)
      rw [ha] at hb
      injection hb with hb
      subst hb
      rw [compareI_f a.2 cube (by omega) (by omega) fu (by omega)]
      simp only [if_true, Option.bind_some]
      rcases hle with hle | ⟨hle, hx⟩
      · rw [if_pos (by dsimp only at hle; omega)]
      · have := cmpL_le _ _ hx
        dsimp only at hle this
        rw [if_neg (by omega), if_pos (by omega), if_pos this]
  | d + 1, P, fu + 1, wi, h1, h2, h3 => by
    have v0 := h.v0
    have v12 := h.v12
    have hp := p12 (k := v.toNat) (by omega)
    have hc2 := pow_cast v.toNat
    have hol := ofL_len k1
    have ho := of_f k1 v r (by have := h.ofL.2; omega) fu (by omega)
    rw [h.ofL.1] at ho
    have hP : P < 2 ^ v.toNat := by omega
    have hat : mask_At.f fu v (k1.map ofR) r (P : Int) = some ((tab v (k1.map ofR) r).getD P false, 0) := by
      unfold mask_At.f mask_Valid.f
      rw [vmB_true h, if_pos (by have := h.root.2.2; omega)]
      simp only [Option.bind_some, if_true]
      rw [if_neg (by omega), if_pos v0, shl1 v0 v12, if_neg (by omega), holds_f v (k1.map ofR) r v12 (by have := h.root.2.2; omega) h.wf.wo h.pl P hP fu (by omega)]
      rfl
    obtain ⟨i1, i2, i3, i4⟩ := best_in _ _ a (tab_length _ _ _) ha
    have s1 := inside_f v P (by omega) v12 a.2 (by omega) fu (by omega)
    have s2 := inside_f v P (by omega) v12 cube hc fu (by omega)
    rw [insL_mem _ _ _ _ (by omega)] at s1 s2
    have ih := fun (w2 : Bool) (hw : w2 = true → ∀ Q, Q < P + 1 → memP cube Q = true → (tab v (k1.map ofR) r).getD Q false = true) => widest_l1 hd d (P + 1) fu w2 (by omega) (by omega) hw
    have i3' := i3 P (by rw [i1]; exact hP)
    simp only [cantinglaw02_MaskWidest.l1]
    rw [if_pos (by omega), ho]
    simp only [Option.bind_some]
    rw [hat]
    simp only [Option.bind_some, if_true]
    rw [s1, s2, show wrap64 ((P : Int) + 1) = ((P + 1 : Nat) : Int) by unfold wrap64; omega]
    simp only [Option.bind_some]
    have step : ∀ Q, Q < P + 1 → Q < P ∨ Q = P := fun Q hQ => by omega
    cases hm : memP a.2 P with
    | true =>
      rw [i3' hm]
      simp only [if_true]
      cases wi with
      | true =>
        simp only [if_true]
        refine ih true (fun _ Q hQ hq => ?_)
        rcases step Q hQ with q | q
        · exact h3 rfl Q q hq
        · rw [q]; exact i3' hm
      | false =>
        simp only [Bool.false_eq_true, if_false]
        exact ih false (fun q => by cases q)
    | false =>
      simp only [Bool.false_eq_true, if_false]
      cases wi with
      | false =>
        simp only [Bool.false_eq_true, if_false]
        exact ih false (fun q => by cases q)
      | true =>
        simp only [if_true]
        cases hb : (tab v (k1.map ofR) r).getD P false with
        | true =>
          simp only [if_true]
          refine ih true (fun _ Q hQ hq => ?_)
          rcases step Q hQ with q | q
          · exact h3 rfl Q q hq
          · rw [q]; exact hb
        | false =>
          simp only [Bool.false_eq_true, if_false]
          refine ih _ (fun hn Q hQ hq => ?_)
          rcases step Q hQ with q | q
          · exact h3 rfl Q q hq
          · rw [q] at hq
            rw [hq] at hn
            cases hn
set_option maxHeartbeats 4000000 in
theorem widest_l0 : ∀ (d i fu : Nat) (x y : Int), i + d = cube.length → 2 * d + 12000 < fu → (∀ u ∈ cube.take i, u = 0 ∨ u = 1 ∨ u = 2) → 0 ≤ x → x ≤ i → 0 ≤ y → y ≤ i → x + freeC (cube.drop i) = freeC cube → y + freeC (a.2.drop i) = freeC a.2 →
    cantinglaw02_MaskWidest.l0 fu cube a.2 x y cube cube.length i v k1 r = some true
  | d, i, 0, x, y, h1, h2, h3, x0, x1, y0, y1, h4, h5 => by omega
  | 0, i, fu + 1, x, y, h1, h2, h3, x0, x1, y0, y1, h4, h5 => by
    have v0 := h.v0
    have v12 := h.v12
    obtain ⟨i1, i2, i3, i4⟩ := best_in _ _ a (tab_length _ _ _) ha
    simp only [cantinglaw02_MaskWidest.l0]
    rw [if_neg (by omega), if_pos v0, shl1 v0 v12]
    rw [List.drop_eq_nil_of_le (by omega)] at h4 h5
    simp only [freeC, Int.add_zero] at h4 h5
    rw [List.take_of_length_le (by omega)] at h3
    have hp := p12 (k := v.toNat) (by omega)
    rw [h4, h5]
    exact widest_l1 h a ha cube hc h3 (2 ^ v.toNat) 0 fu true (by omega) (by omega) (fun _ Q hQ => by omega)
  | d + 1, i, fu + 1, x, y, h1, h2, h3, x0, x1, y0, y1, h4, h5 => by
    have v0 := h.v0
    have v12 := h.v12
    obtain ⟨i1, i2, i3, i4⟩ := best_in _ _ a (tab_length _ _ _) ha
    have hi : i < cube.length := by omega
    have hi2 : i < a.2.length := by omega
    obtain ⟨g, rfl⟩ : ∃ g, fu = g + 1 := ⟨fu - 1, by omega⟩
    have r1 : rd cube (i : Int) = cube[i] := by simp [rd, hi]
    have r2 : rd a.2 (i : Int) = a.2[i] := by simp [rd, hi2]
    rw [List.drop_eq_getElem_cons hi] at h4
    rw [List.drop_eq_getElem_cons hi2] at h5
    simp only [freeC] at h4 h5
    have aw := awake_f g (by omega)
    simp only [cantinglaw02_MaskWidest.l0]
    rw [if_pos (by omega), if_pos (by omega), if_pos (by omega), r1]
    by_cases hlo : cube[i] < 0
    · rw [if_pos hlo]
      simp only [cantinglaw02_MaskWidest.j2]
      rw [aw]; rfl
    rw [if_neg hlo]
    by_cases hhi : cube[i] > 2
    · rw [decide_eq_true hhi]
      simp only [cantinglaw02_MaskWidest.j2]
      rw [aw]; rfl
    rw [decide_eq_false hhi]
    simp only [cantinglaw02_MaskWidest.j2, Bool.false_eq_true, if_false]
    have h3' : ∀ u ∈ cube.take (i + 1), u = 0 ∨ u = 1 ∨ u = 2 := fun u hu => by
      rw [List.take_succ_eq_append_getElem hi] at hu
      rcases List.mem_append.1 hu with hu | hu
      · exact h3 u hu
      · rw [List.mem_singleton] at hu; omega
    have ih := fun (x y : Int) => widest_l0 d (i + 1) g x y (by omega) (by omega) h3'
    have wx : Hid (wrap64 (x + 1) = x + 1) := Lib.hid (wrap_add1 x0 (by omega))
    have wy : Hid (wrap64 (y + 1) = y + 1) := Lib.hid (wrap_add1 y0 (by omega))
    have wi : Hid (wrap64 ((i : Int) + 1) = ((i + 1 : Nat) : Int)) := Lib.hid (by unfold wrap64; omega)
    by_cases q1 : cube[i] = 2
    · rw [if_pos q1] at h4 ⊢
      rw [if_pos (by omega), if_pos (by omega), r2, wi.out, wx.out]
      by_cases q2 : a.2[i] = 2
      · rw [if_pos q2] at h5 ⊢
        rw [wy.out]
        exact ih _ _ (by omega) (by omega) (by omega) (by omega) (by omega) (by omega)
      · rw [if_neg q2] at h5 ⊢
        exact ih _ _ (by omega) (by omega) (by omega) (by omega) (by omega) (by omega)
    · rw [if_neg q1] at h4 ⊢
      rw [if_pos (by omega), if_pos (by omega), r2, wi.out]
      by_cases q2 : a.2[i] = 2
      · rw [if_pos q2] at h5 ⊢
        rw [wy.out]
        exact ih _ _ (by omega) (by omega) (by omega) (by omega) (by omega) (by omega)
      · rw [if_neg q2] at h5 ⊢
        exact ih _ _ (by omega) (by omega) (by omega) (by omega) (by omega) (by omega)
end
theorem widest_k (v r : Int) (k1 : List S106) (cube : List Int) (hk1 : k1.length < 10000000000000) (K : Nat) (hK : 19000 ≤ K) : cantinglaw02_MaskWidest.f (K + 1) v k1 r cube = some true := by
  have ho := of_f k1 v r hk1 (K + 1) (by omega)
  have hol := ofL_len k1
  have aw := awake_f K (by omega)
  unfold cantinglaw02_MaskWidest.f
  rw [ho]
  simp only [Option.bind_some]
  by_cases h : VM v (ofL k1) r
  · have hV := ofL_vm.1 h
    have v0 := h.v0
    have hk := hV.ofL
    by_cases hr : r = 0
    · subst hr
      rw [least_f0 h]
      simp only [Option.bind_some]
      rw [if_neg (by omega)]
      simp only [cantinglaw02_MaskWidest.j0]
      simp [aw]
    · rw [hk.1]
      obtain ⟨a, ha, hf⟩ := least_f hV hr
      obtain ⟨i1, i2, i3, i4⟩ := best_in _ _ a (tab_length _ _ _) ha
      rw [hf]
      simp only [Option.bind_some, if_true]
      by_cases hc : (cube.length : Int) = v
      · rw [if_pos hc]
        have e : ((a.2.length : Int) != v) = false := by simp; omega
        rw [e]
        simp only [cantinglaw02_MaskWidest.j0, Bool.false_eq_true, if_false]
        have v12 := h.v12
        exact widest_l0 hV a ha cube hc cube.length 0 K 0 0 (by omega) (by omega) (fun u hu => by simp at hu) (by omega) (by omega) (by omega) (by omega) (by simp) (by simp)
      · rw [if_neg hc]
        simp only [cantinglaw02_MaskWidest.j0, if_true]
        rw [if_neg hc, aw]
        rfl
  · rw [least_f2 h (by omega)]
    simp only [Option.bind_some]
    rw [if_neg (by omega)]
    simp only [cantinglaw02_MaskWidest.j0]
    simp [aw]
theorem widest_f (v r : Int) (k1 : List S106) (cube : List Int) (hk1 : k1.length < 10000000000000) : cantinglaw02_MaskWidest.f 20000 v k1 r cube = some true := widest_k v r k1 cube hk1 19999 (by omega)
end Go.Proofs.Ytlplphgoldkoeaa.HTab
end

section
set_option linter.unusedVariables false
set_option linter.unusedSimpArgs false
namespace Go.Proofs.Ytlplphgoldkoeaa.maskWidest
open Go.ChangeShapes Go.WideShapes Go.ChangeAt Go.RowKit Go.Proofs.YtlplphgoldkoeaaW.PrintWords Go.Proofs.Ytlplphgoldkoeaa.HTab Go.Proofs.Ytlplphgoldkoeaa.X
open Go.ChangeMaps (open_string shut_string)
set_option linter.unusedVariables false
theorem own : ownKnob Try.prog.godebug = none := by kernel_rfl
theorem laidOut : laidOutB Try.prog = true := by kernel_rfl
set_option maxRecDepth 100000 in
theorem lifted (os : Os) (started : os.Started) (H : Type) (enc : TypeId × Value → H) :
    ReturnsInHanded {} Try.checked os 16 .any (Rows.maskWidestSpec.pre6 enc Try.prog Try.f16 Rows.maskWidestRow.domain false) (Rows.maskWidestSpec.post enc Try.prog Try.f16 false true false false) := by
  refine returnsInHanded_of_change_sized (C := Try.checked) own started (by kernel_rfl) Try.func16
    (ChangeSpec.witness6 (enc := enc) (C := Try.checked) false ⟨#[], #[.agg #[.int .i64 0, .slice none 0 0, .int .i64 0], .slice none 0 0], []⟩ 8 (by kernel_rfl) (by kernel_rfl) (by kernel_rfl) (by kernel_rfl)) ?_
  intro W base args ds gs before hval0 hW hcnd hsz0 _
  have hsz : (DataW.weightsEach Try.prog (Try.f16.params.toList ++ Rows.maskWidestSpec.plain.varTypes Try.prog) (ds ++ gs)).all (· ≤ reachBytes) = true := hsz0
  have hval : ∀ (j : Nat) t v, Try.f16.params[j]? = some t → args[j]? = some v → Value.okWide Try.prog W .any base t v := hval0
  have hW' := hW
  obtain ⟨p, q, hA0, hV, rfl, hfz, hnd⟩ := hW
  have hA : DataW.TrodAll enc Try.prog W 0 (fun _ => true) true Try.f16.params.toList args.toList ds p := hA0
  rw [Try.params16] at hA hval hsz
  obtain ⟨v0, vs0, d0, ds0, p0, q0, hargs, rfl, rfl, h0, r0⟩ := trodAll_cons hA
  obtain ⟨v1, vs1, d1, ds1, p1, q1, rfl, rfl, rfl, h1, r1⟩ := trodAll_cons r0
  obtain ⟨rfl, rfl, rfl⟩ := trodAll_nil r1
  obtain rfl : args = #[v0, v1] := by cases args; simp_all
  obtain ⟨rfl, rfl⟩ := trodVars_none hV
  have k0 := h0
  have lt0 : ∀ x ∈ p0, x.block < W.heap.size := by obtain ⟨m, hm⟩ := k0; exact DataW.trod_lt m _ _ _ hm
  obtain ⟨n0, A0, c0, l0, r0_, rfl, C0, L0, B0, wn0, wr0⟩ := open_mask (hval 0 33 v0 rfl rfl) h0 hsz (j := 0) rfl rfl
  have k1 := h1
  have lt1 : ∀ x ∈ p1, x.block < W.heap.size := by obtain ⟨m, hm⟩ := k1; exact DataW.trod_lt m _ _ _ hm
  obtain ⟨A1, c1, l1, rfl, C1, L1, B1, w1⟩ := open_ints_ (hval 1 82 v1 rfl rfl) h1 hsz (j := 1) rfl rfl
  clear hA0 hval0 hsz0 hsz
  refine ((cantinglaw02_MaskWidest.calls 20000 n0 A0 c0 l0 r0_ A1 c1 l1 true W C0 L0 C1 L1 (widest_f n0 r0_ l0 l1 B0))).mono fun e W' ⟨he, bel⟩ => ?_
  subst he
  exact ⟨_, rfl, _, _, _, [], _, [], hW', trodAll_mk1 (shut_bool Try.underlying4 _), (trodAll_cons_mk (Below.trod laidOut (by kernel_rfl) (of_decide_eq_true (by kernel_rfl)) k0 bel lt0) (trodAll_cons_mk (Below.trod laidOut (by kernel_rfl) (of_decide_eq_true (by kernel_rfl)) k1 bel lt1) trodAll_mk0)), rfl, bel.frame _, fun h => by cases h⟩
theorem over : Rows.maskWidestRow.holds Try.pinned (OpenSpec.ofChange Rows.maskWidestSpec) :=
  OpenClaim.holds_of_wide 16 Try.f16 rfl rfl rfl rfl rfl rfl rfl ⟨rfl, rfl, rfl, rfl, rfl⟩ rfl rfl rfl rfl rfl (by kernel_rfl) Try.func16 (by kernel_rfl)
    (of_decide_eq_true (by kernel_rfl)) (by unfold Func.isWrapper; first | (rw [if_pos (by decide +kernel)]; kernel_rfl) | (rw [if_neg (by decide +kernel)]; exact ⟨rfl, rfl⟩))
    (fun os started H enc _ => lifted os started H enc)
theorem proved : Rows.MaskWidestSaid := over
end Go.Proofs.Ytlplphgoldkoeaa.maskWidest
namespace Go.Proofs.Ytlplphgoldkoeaa
theorem maskWidest_holds : Rows.MaskWidestSaid := maskWidest.proved
end Go.Proofs.Ytlplphgoldkoeaa
#print axioms Go.Proofs.Ytlplphgoldkoeaa.maskWidest_holds
end
