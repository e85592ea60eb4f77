/- The law WaxModular holds of the program, for every input that its statement lets in. -/
import Derived.Test.YtbamanjedfccpaaBj
import Derived.Test.YtbamanjedfccpaaBq
import Derived.Test.YtbamanjedfccpaaBt
import Derived.Test.YtbamanjedfccpaaBs
import Derived.Laws.BitsLemmas
import Derived.Test.YtbamanjedfccpaaBc
import Derived.Test.YtbamanjedfccpaaBn
import Derived.Test.YtbamanjedfccpaaBi
import Derived.Test.YtbamanjedfccpaaRows
import Derived.WalkKit
import Derived.ProofKit
import Derived.OpenShut
import Derived.ShutString
import Derived.ChangeOld
import Derived.Below
import Derived.SizedLaws
import Derived.Test.YtbamanjedfccpaaBb
section
set_option linter.unusedVariables false
set_option linter.unusedSimpArgs false
namespace Go.Proofs.Ytbamanjedfccpaa.HTab
open Go.ChangeShapes Go.WideShapes Go.ChangeAt Go.RowKit Go.Deep Go.Joins Go.Proofs.YtbamanjedfccpaaW.PrintWords Go.Proofs.Ytbamanjedfccpaa.X
set_option linter.unusedVariables false
theorem array6 {α : Type} {cs : Array α} (h : cs.size = 6) : ∃ c0 c1 c2 c3 c4 c5, cs = #[c0, c1, c2, c3, c4, c5] := by
  obtain ⟨l⟩ := cs
  match l, h with
  | [c0, c1, c2, c3, c4, c5], _ => exact ⟨c0, c1, c2, c3, c4, c5, rfl⟩
section
variable {H : Type} {enc : TypeId × Value → H} {W : World} {r : Reach} {b0 base : Nat} {sp : Nat → Bool} {held : Bool}
theorem trod_struct6 {P : Program} {t : TypeId} {f0 f1 f2 f3 f4 f5 : Field} {fuel : Nat} {cs : List Value} {x : DataW H × List MemPlace} (ht : P.underlying t = some (.struct #[f0, f1, f2, f3, f4, f5])) (h : DataW.trod enc P W base sp held fuel t cs = some x) :
    ∃ y0 y1 y2 y3 y4 y5 n, DataW.trod enc P W base sp held n f0.type ((cs.drop f0.offset).take (P.cellsOf f0.type)) = some y0 ∧
      DataW.trod enc P W base sp held n f1.type ((cs.drop f1.offset).take (P.cellsOf f1.type)) = some y1 ∧ DataW.trod enc P W base sp held n f2.type ((cs.drop f2.offset).take (P.cellsOf f2.type)) = some y2 ∧
      DataW.trod enc P W base sp held n f3.type ((cs.drop f3.offset).take (P.cellsOf f3.type)) = some y3 ∧ DataW.trod enc P W base sp held n f4.type ((cs.drop f4.offset).take (P.cellsOf f4.type)) = some y4 ∧ DataW.trod enc P W base sp held n f5.type ((cs.drop f5.offset).take (P.cellsOf f5.type)) = some y5 := by
  obtain ⟨xs, n, _, rfl, hl, hlen, hf⟩ := DataW.trod_struct ht h
  match xs, hlen with
  | [y0, y1, y2, y3, y4, y5], _ => exact ⟨y0, y1, y2, y3, y4, y5, n, by simpa using hf 0 f0 rfl, by simpa using hf 1 f1 rfl, by simpa using hf 2 f2 rfl, by simpa using hf 3 f3 rfl, by simpa using hf 4 f4 rfl, by simpa using hf 5 f5 rfl⟩
theorem open_agg6 {P : Program} {t : TypeId} {f0 f1 f2 f3 f4 f5 : Field} {v : Value} {d : DataW H} {p : List MemPlace} (hs : P.underlying t = some (.struct #[f0, f1, f2, f3, f4, f5])) (hone : oneCellFields P #[f0, f1, f2, f3, f4, f5] = true) (hC : P.cellsOf t = 6)
    (hv : Value.okWide P W r b0 t v) (h : DataW.Trod enc P W base sp held t v d p) :
    ∃ (v0 v1 v2 v3 v4 v5 : Value) (y0 y1 y2 y3 y4 y5 : DataW H × List MemPlace) (n : Nat), v = .agg #[v0, v1, v2, v3, v4, v5] ∧
      DataW.trod enc P W base sp held n f0.type [v0] = some y0 ∧ DataW.trod enc P W base sp held n f1.type [v1] = some y1 ∧ DataW.trod enc P W base sp held n f2.type [v2] = some y2 ∧ DataW.trod enc P W base sp held n f3.type [v3] = some y3 ∧ DataW.trod enc P W base sp held n f4.type [v4] = some y4 ∧ DataW.trod enc P W base sp held n f5.type [v5] = some y5 := by
  obtain ⟨cs, rfl, hsz⟩ := okWide_struct hs hv
  obtain ⟨c0, c1, c2, c3, c4, c5, rfl⟩ := array6 (hsz.trans hC)
  obtain ⟨fuel, hf⟩ := h
  obtain ⟨y0, y1, y2, y3, y4, y5, n, h0, h1, h2, h3, h4, h5⟩ := trod_struct6 hs hf
  obtain ⟨o0, k0⟩ := hone_of hone 0 f0 rfl
  obtain ⟨o1, k1⟩ := hone_of hone 1 f1 rfl
  obtain ⟨o2, k2⟩ := hone_of hone 2 f2 rfl
  obtain ⟨o3, k3⟩ := hone_of hone 3 f3 rfl
  obtain ⟨o4, k4⟩ := hone_of hone 4 f4 rfl
  obtain ⟨o5, k5⟩ := hone_of hone 5 f5 rfl
  exact ⟨c0, c1, c2, c3, c4, c5, y0, y1, y2, y3, y4, y5, n, rfl, by simpa [Value.cells, o0, k0] using h0, by simpa [Value.cells, o1, k1] using h1, by simpa [Value.cells, o2, k2] using h2, by simpa [Value.cells, o3, k3] using h3, by simpa [Value.cells, o4, k4] using h4, by simpa [Value.cells, o5, k5] using h5⟩
theorem field_ints {n : Nat} {v : Value} {y : DataW H × List MemPlace} (h : DataW.trod enc Try.prog W base sp held n 40 [v] = some y) : ∃ (A : Option Addr) (c : Nat) (l : List Int), v = .slice A l.length c ∧ Kd.C (Kd.int .i64) W A l.length l ∧ l.length ≤ c := by
  rcases open_slice Try.underlying40 h with ⟨hc, hx⟩ | ⟨a, len, cap, m, n', D, Pl, hcs, hb, hl, hm, hmm, hx, hi⟩
  · simp only [List.cons.injEq, and_true] at hc
    exact ⟨none, 0, [], hc, Kd.C_nil _ _, Nat.le_refl _⟩
  · simp only [List.cons.injEq, and_true] at hcs
    obtain ⟨l, hll⟩ : ∃ l : List Int, l = (List.range len).map fun i => intAt (W.cell? (a.add i)) := ⟨_, rfl⟩
    have hlen : l.length = len := by rw [hll]; simp
    have hlm : len ≤ m := by rw [hmm]; split <;> omega
    have hone : Try.prog.cellsOf 3 = 1 := by kernel_rfl
    have hcell : ∀ i, i < len → ∃ b : Int, W.cell? (a.add i) = some (.int .i64 b) := fun i hil => by
      obtain ⟨cs', h2, h3⟩ := hi i (by omega)
      rw [hone, Nat.mul_one] at h2
      obtain ⟨b, e, _, _⟩ := DataW.trod_int Try.underlying3 h3
      subst e
      obtain ⟨_, hcl, hat⟩ := World.cells?_some h2
      have := hat 0 (by omega)
      refine ⟨b, ?_⟩
      have h4 : (a.add i).add 0 = a.add i := by unfold Addr.add; split <;> simp_all
      rw [h4] at this
      simpa using this
    refine ⟨some a, cap, l, by rw [hcs, hlen], ?_, by omega⟩
    unfold maxLen at hm
    refine ⟨rfl, by omega, fun hp => ⟨a, rfl, fun i p hp2 => ?_⟩⟩
    have hil : i < len := by
      have := (List.getElem?_eq_some_iff.1 hp2).1
      omega
    obtain ⟨b, hc1⟩ := hcell i hil
    have hpe : p = b := by
      rw [hll, List.getElem?_map, List.getElem?_range hil] at hp2
      have : intAt (W.cell? (a.add i)) = p := by simpa using hp2
      rw [← this, hc1]
      rfl
    subst hpe
    refine ⟨[.int .i64 p], rfl, rfl, fun q u hq => ?_⟩
    match q, hq with
    | 0, hq =>
      simp only [List.getElem?_cons_zero, Option.some.injEq] at hq
      rw [← hq, show (Kd.int .i64).sz = 1 from rfl, Nat.mul_one, Nat.add_zero]
      exact hc1
    | q + 1, hq => simp at hq
set_option maxRecDepth 100000 in
theorem open_cloth {v : Value} {d : DataW H} {ps : List MemPlace} (hval : Value.okWide Try.prog W r b0 61 v) (hd : DataW.Trod enc Try.prog W base sp held 61 v d ps) :
    ∃ (w h : Int) (A2 : Option Addr) (c2 : Nat) (l2 : List Int) (A3 : Option Addr) (c3 : Nat) (l3 : List Int) (A4 : Option Addr) (c4 : Nat) (l4 : List Int) (A5 : Option Addr) (c5 : Nat) (l5 : List Int),
      v = .agg #[.int .i64 w, .int .i64 h, .slice A2 l2.length c2, .slice A3 l3.length c3, .slice A4 l4.length c4, .slice A5 l5.length c5] ∧ (Kd.C (Kd.int .i64) W A2 l2.length l2 ∧ l2.length ≤ c2) ∧ (Kd.C (Kd.int .i64) W A3 l3.length l3 ∧ l3.length ≤ c3) ∧ (Kd.C (Kd.int .i64) W A4 l4.length l4 ∧ l4.length ≤ c4) ∧ (Kd.C (Kd.int .i64) W A5 l5.length l5 ∧ l5.length ≤ c5) ∧ (Lit.int .i64 w).wf = true ∧ (Lit.int .i64 h).wf = true := by
  obtain ⟨v0, v1, v2, v3, v4, v5, y0, y1, y2, y3, y4, y5, n, rfl, h0, h1, h2, h3, h4, h5⟩ := open_agg6 Try.underlying61 (by kernel_rfl) (by kernel_rfl) hval hd
  obtain ⟨n0, e0, _, w0⟩ := DataW.trod_int Try.underlying3 h0
  obtain ⟨n1, e1, _, w1⟩ := DataW.trod_int Try.underlying3 h1
  simp only [List.cons.injEq, and_true] at e0 e1
  subst e0 e1
  obtain ⟨A2, c2, l2, rfl, q2, b2⟩ := field_ints h2
  obtain ⟨A3, c3, l3, rfl, q3, b3⟩ := field_ints h3
  obtain ⟨A4, c4, l4, rfl, q4, b4⟩ := field_ints h4
  obtain ⟨A5, c5, l5, rfl, q5, b5⟩ := field_ints h5
  exact ⟨n0, n1, A2, c2, l2, A3, c3, l3, A4, c4, l4, A5, c5, l5, rfl, ⟨q2, b2⟩, ⟨q3, b3⟩, ⟨q4, b4⟩, ⟨q5, b5⟩, w0, w1⟩
end
end Go.Proofs.Ytbamanjedfccpaa.HTab
end

section
set_option linter.unusedVariables false
set_option linter.unusedSimpArgs false
namespace Go.Proofs.Ytbamanjedfccpaa.HTab
open Go.RowKit Go.Proofs.YtbamanjedfccpaaW.PrintWords Go.Proofs.YtbamanjedfccpaaW.PrintLast Go.Proofs.YtbamanjedfccpaaW.PrintMore Go.Proofs.Ytbamanjedfccpaa.X
set_option linter.unusedVariables false
set_option linter.unusedSimpArgs false
theorem few_f (l : List Int) : cantinglaw07_few.f l = some (l.take 50) := by
  have e : (mn (l.length : Int) 50).toNat = min 50 l.length := by unfold mn; split <;> omega
  have h : mn (l.length : Int) 50 ≤ (l.length : Int) ∧ 0 ≤ mn (l.length : Int) 50 := by unfold mn; split <;> omega
  unfold cantinglaw07_few.f slices_Clone_int_int.f
  rw [if_pos h.2, if_pos h.1, e, if_pos (by rw [List.length_take]; omega)]
  have : l.take (min 50 l.length) = l.take 50 := by
    rcases Nat.le_total 50 l.length with q | q
    · rw [Nat.min_eq_left q]
    · rw [Nat.min_eq_right q, List.take_of_length_le (Nat.le_refl _), List.take_of_length_le q]
  rw [this]
  rfl
theorem cloth_f (W H : Int) (l2 l3 l4 l5 : List Int) : cantinglaw07_cloth.f W H l2 l3 l4 l5 = some (W, H, l2.take 50, l3.take 50, l4.take 50, l5.take 50) := by
  unfold cantinglaw07_cloth.f
  rw [few_f, few_f, few_f, few_f]
  rfl
def pairR (W : Int) (right : List Int) (i : Nat) : S100 := ⟨(i : Int) / (W - 1) * W + (i : Int) % (W - 1), (i : Int) / (W - 1) * W + (i : Int) % (W - 1) + 1, rd right (i : Int)⟩
def pairD (W : Int) (down : List Int) (i : Nat) : S100 := ⟨(i : Int), (i : Int) + W, rd down (i : Int)⟩
def pairsL (W : Int) (right down : List Int) : List S100 := (List.range right.length).map (pairR W right) ++ (List.range down.length).map (pairD W down)
structure ClOK (W H : Int) (l2 l3 l4 l5 : List Int) : Prop where
  w : 1 ≤ W ∧ W ≤ 6
  h : 1 ≤ H ∧ H ≤ 6
  n : 1 ≤ W * H ∧ W * H ≤ 36
  n2 : (l2.length : Int) = W * H
  n3 : (l3.length : Int) = W * H
  n4 : (l4.length : Int) = W * H - H
  n5 : (l5.length : Int) = W * H - W
  b2 : ∀ x ∈ l2, 0 ≤ x ∧ x ≤ 1000
  b3 : ∀ x ∈ l3, 0 ≤ x ∧ x ≤ 1000
  b4 : ∀ x ∈ l4, 0 ≤ x ∧ x ≤ 1000
  b5 : ∀ x ∈ l5, 0 ≤ x ∧ x ≤ 1000
theorem okL_iff (l : List Int) (n : Int) (h : okL l n = true) : (l.length : Int) = n ∧ ∀ x ∈ l, 0 ≤ x ∧ x ≤ 1000 := by
  unfold okL at h
  rw [Bool.and_eq_true, Bool.not_eq_true', decide_eq_true_eq, List.any_eq_false] at h
  refine ⟨h.1, fun x hx => ?_⟩
  have := h.2 x hx
  unfold badI at this
  rw [Bool.or_eq_true, decide_eq_true_eq, decide_eq_true_eq] at this
  omega
theorem cvB_ok {W H : Int} {l2 l3 l4 l5 : List Int} (h : cvB W H l2 l3 l4 l5 = true) : ClOK W H l2 l3 l4 l5 := by
  unfold cvB at h
  simp only [Bool.and_eq_true, decide_eq_true_eq] at h
  obtain ⟨⟨hw, hh⟩, h2, h3, h4, h5⟩ := h
  have hn : 1 ≤ W * H ∧ W * H ≤ 36 := by
    have h1 : W = 1 ∨ W = 2 ∨ W = 3 ∨ W = 4 ∨ W = 5 ∨ W = 6 := by omega
    rcases h1 with h1 | h1 | h1 | h1 | h1 | h1 <;> rw [h1] <;> omega
  have q2 := okL_iff _ _ h2
  have q3 := okL_iff _ _ h3
  have q4 := okL_iff _ _ h4
  have q5 := okL_iff _ _ h5
  exact ⟨hw, hh, hn, q2.1, q3.1, q4.1, q5.1, q2.2, q3.2, q4.2, q5.2⟩
theorem rd_in {l : List Int} (h : ∀ x ∈ l, 0 ≤ x ∧ x ≤ 1000) (i : Int) : 0 ≤ rd l i ∧ rd l i ≤ 1000 := by
  unfold rd
  rw [List.getD_eq_getElem?_getD]
  cases hq : l[i.toNat]? with
  | none => simp
  | some x => exact h x (List.mem_of_getElem? hq)
section
variable {W H : Int} {l2 l3 l4 l5 : List Int} (hc : ClOK W H l2 l3 l4 l5)
include hc
theorem right_in (i : Nat) (hi : i < l4.length) : 2 ≤ W ∧ 0 ≤ (i : Int) / (W - 1) * W + (i : Int) % (W - 1) ∧ (i : Int) / (W - 1) * W + (i : Int) % (W - 1) + 1 < W * H := by
  have hw := hc.w
  have hh := hc.h
  have h4 := hc.n4
  have h1 : W = 1 ∨ W = 2 ∨ W = 3 ∨ W = 4 ∨ W = 5 ∨ W = 6 := by omega
  rcases h1 with h1 | h1 | h1 | h1 | h1 | h1 <;> subst h1 <;> omega
theorem down_in (i : Nat) (hi : i < l5.length) : (i : Int) + W < W * H := by
  have h5 := hc.n5
  omega
theorem lens_le : l4.length ≤ 36 ∧ l5.length ≤ 36 := by
  have h4 := hc.n4
  have h5 := hc.n5
  have := hc.n
  have := hc.w
  have := hc.h
  omega
theorem pairs_l1 : ∀ (d i fu : Nat), i + d = l5.length → d < fu → wax_Cloth_pairs.l1 fu ((List.range l4.length).map (pairR W l4) ++ (List.range i).map (pairD W l5)) l5 l5.length i W H l2 l3 l4 l5 = some (pairsL W l4 l5)
  | d, i, 0, h, hf => by omega
  | 0, i, fu + 1, h, hf => by
    obtain rfl : i = l5.length := by omega
    simp only [wax_Cloth_pairs.l1]
    rw [if_neg (by omega)]
    rfl
  | d + 1, i, fu + 1, h, hf => by
    have ih := pairs_l1 d (i + 1) fu (by omega) (by omega)
    have hl := lens_le hc
    have hw := hc.w
    simp only [wax_Cloth_pairs.l1]
    rw [if_pos (by omega), if_pos (by omega), if_pos (by omega), if_pos (by simp; omega), show wrap64 ((i : Int) + 1) = ((i + 1 : Nat) : Int) from wrap_add1 (by omega) (by omega), show wrap64 ((i : Int) + W) = (i : Int) + W from wrap_id (by omega) (by omega)]
    rw [List.range_succ, List.map_append, ← List.append_assoc] at ih
    exact ih
theorem pairs_l0 : ∀ (d i fu : Nat), i + d = l4.length → d + l5.length + 2 ≤ fu → wax_Cloth_pairs.l0 fu ((List.range i).map (pairR W l4)) l4 l4.length i W H l2 l3 l4 l5 = some (pairsL W l4 l5)
  | d, i, 0, h, hf => by omega
  | 0, i, fu + 1, h, hf => by
    obtain rfl : i = l4.length := by omega
    have := pairs_l1 hc l5.length 0 fu (by omega) (by omega)
    simp only [wax_Cloth_pairs.l0]
    rw [if_neg (by omega)]
    rw [List.range_zero, List.map_nil, List.append_nil] at this
    exact this
  | d + 1, i, fu + 1, h, hf => by
    have ih := pairs_l0 d (i + 1) fu (by omega) (by omega)
    have hl := lens_le hc
    have hw := hc.w
    have hr := right_in hc i (by omega)
    have hn := hc.n
    have e0 : wrap64 (W - 1) = W - 1 := wrap_id (by omega) (by omega)
    have i0 : (0 : Int) ≤ (i : Int) := by omega
    have q1 : 0 ≤ (i : Int) / (W - 1) ∧ (i : Int) / (W - 1) ≤ 36 := ⟨Int.ediv_nonneg i0 (by clear e0; omega), Int.le_trans (Int.ediv_le_self _ i0) (by clear e0; omega)⟩
    have q2 : 0 ≤ (i : Int) % (W - 1) ∧ (i : Int) % (W - 1) < W - 1 := ⟨Int.emod_nonneg _ (by clear e0; omega), Int.emod_lt_of_pos _ (by clear e0; omega)⟩
    have q3 : 0 ≤ (i : Int) / (W - 1) * W := Int.mul_nonneg q1.1 (by clear e0; omega)
    simp only [wax_Cloth_pairs.l0]
    rw [e0, Int.tdiv_eq_ediv_of_nonneg i0, Int.tmod_eq_emod_of_nonneg i0]
    clear e0
    rw [show wrap64 ((i : Int) / (W - 1)) = (i : Int) / (W - 1) from wrap_id (by omega) (by omega), show wrap64 ((i : Int) / (W - 1) * W) = (i : Int) / (W - 1) * W from wrap_id (by omega) (by omega), show wrap64 ((i : Int) / (W - 1) * W + (i : Int) % (W - 1)) = (i : Int) / (W - 1) * W + (i : Int) % (W - 1) from wrap_id (by omega) (by omega), show wrap64 ((i : Int) / (W - 1) * W + (i : Int) % (W - 1) + 1) = (i : Int) / (W - 1) * W + (i : Int) % (W - 1) + 1 from wrap_id (by omega) (by omega)]
    rw [if_pos (by omega), if_pos (by omega), if_pos (by omega), if_neg (by omega), if_pos (by simp; omega), show wrap64 ((i : Int) + 1) = ((i + 1 : Nat) : Int) from wrap_add1 (by omega) (by omega)]
    rw [List.range_succ, List.map_append] at ih
    exact ih
theorem pairs_f (fu : Nat) (hf : 100 ≤ fu) : wax_Cloth_pairs.f fu W H l2 l3 l4 l5 = some (pairsL W l4 l5) := by
  have hl := lens_le hc
  have := pairs_l0 hc l4.length 0 fu (by omega) (by omega)
  exact this
theorem pairs_in : ∀ p ∈ pairsL W l4 l5, 0 ≤ p.f0 ∧ p.f0 < W * H ∧ 0 ≤ p.f1 ∧ p.f1 < W * H ∧ 0 ≤ p.f2 ∧ p.f2 ≤ 1000 := fun p hp => by
  unfold pairsL at hp
  rcases List.mem_append.1 hp with hp | hp
  · obtain ⟨i, hi, rfl⟩ := List.mem_map.1 hp
    have := right_in hc i (List.mem_range.1 hi)
    have hb := rd_in hc.b4 (i : Int)
    unfold pairR
    dsimp only
    omega
  · obtain ⟨i, hi, rfl⟩ := List.mem_map.1 hp
    have := down_in hc i (List.mem_range.1 hi)
    have hb := rd_in hc.b5 (i : Int)
    have hw := hc.w
    unfold pairD
    dsimp only
    omega
theorem pairs_len : (pairsL W l4 l5).length ≤ 72 := by
  have hl := lens_le hc
  unfold pairsL
  simp
  omega
end
def cellE (l2 l3 : List Int) (r : Int) (S : List Bool) (i : Int) : Int := if rdOf false S i then rd l3 i + r else rd l2 i
def pairE (S : List Bool) : List S100 → Int
  | [] => 0
  | p :: l => (if (rdOf false S p.f0 != rdOf false S p.f1) = true then p.f2 else 0) + pairE S l
def enE (W H : Int) (l2 l3 l4 l5 : List Int) (r : Int) (S : List Bool) : Int := sumF (cellE l2 l3 r S) (W * H).toNat + pairE S (pairsL W l4 l5)
theorem pairE_in (S : List Bool) : ∀ l : List S100, (∀ p ∈ l, 0 ≤ p.f2 ∧ p.f2 ≤ 1000) → 0 ≤ pairE S l ∧ pairE S l ≤ 1000 * l.length
  | [], _ => by simp [pairE]
  | p :: l, h => by
    have ih := pairE_in S l (fun q hq => h q (List.mem_cons_of_mem _ hq))
    have hp := h p (List.mem_cons_self ..)
    simp only [pairE, List.length_cons]
    split <;> omega
theorem sumF_in {h : Int → Int} {C : Int} : ∀ n : Nat, (∀ v : Int, 0 ≤ v → v < n → -C ≤ h v ∧ h v ≤ C) → -(C * n) ≤ sumF h n ∧ sumF h n ≤ C * n
  | 0, _ => by simp [sumF]
  | n + 1, hh => by
    have ih := sumF_in n (fun v v0 v1 => hh v v0 (by omega))
    have h0 := hh n (by omega) (by omega)
    have e : C * ((n + 1 : Nat) : Int) = C * n + C := by rw [Int.natCast_add, Int.mul_add]; simp
    simp only [sumF]
    rw [e]
    omega
section
variable {W H : Int} {l2 l3 l4 l5 : List Int} (hc : ClOK W H l2 l3 l4 l5) {r : Int} (hr : -10000 ≤ r ∧ r ≤ 10000) (S : List Bool)
include hc hr
theorem cell_in (i : Int) : -11000 ≤ cellE l2 l3 r S i ∧ cellE l2 l3 r S i ≤ 11000 := by
  have h2 := rd_in hc.b2 i
  have h3 := rd_in hc.b3 i
  unfold cellE
  split <;> omega
theorem en_in : -1000000 ≤ enE W H l2 l3 l4 l5 r S ∧ enE W H l2 l3 l4 l5 r S ≤ 1000000 := by
  have h1 := sumF_in (W * H).toNat (fun v _ _ => cell_in hc hr S v)
  have h2 := pairE_in S (pairsL W l4 l5) (fun p hp => (pairs_in hc p hp).2.2.2.2)
  have h3 := pairs_len hc
  have hn := hc.n
  have e : ((W * H).toNat : Int) = W * H := Int.toNat_of_nonneg (by omega)
  rw [e] at h1
  unfold enE
  omega
omit hr in
theorem energy_l1 (n : Nat) (hS : S.length = n) (hn : (n : Int) = W * H) : ∀ (d i fu : Nat) (x : Int), i + d = (pairsL W l4 l5).length → d < fu → -500000 ≤ x → x + 1000 * d ≤ 600000 → wax_Energy.l1 fu S x (pairsL W l4 l5) (pairsL W l4 l5).length i = some (x + pairE S ((pairsL W l4 l5).drop i), 0)
  | d, i, 0, x, h, hf, x0, x1 => by omega
  | 0, i, fu + 1, x, h, hf, x0, x1 => by
    simp only [wax_Energy.l1]
    rw [if_neg (by omega), List.drop_eq_nil_of_le (by omega)]
    simp [pairE]
  | d + 1, i, fu + 1, x, h, hf, x0, x1 => by
    have hi : i < (pairsL W l4 l5).length := by omega
    have hrd : rd_T100 (pairsL W l4 l5) (i : Int) = (pairsL W l4 l5)[i] := by simp [rd_T100, hi]
    have hp := pairs_in hc _ (List.getElem_mem hi)
    have hpl := pairs_len hc
    obtain ⟨p, hpe⟩ : ∃ p, p = (pairsL W l4 l5)[i] := ⟨_, rfl⟩
    have ih := fun (x : Int) => energy_l1 n hS hn d (i + 1) fu x (by omega) (by omega)
    simp only [wax_Energy.l1]
    rw [if_pos (by omega), if_pos (by omega), if_pos (by omega), hrd, List.drop_eq_getElem_cons hi, ← hpe]
    rw [← hpe] at hp
    rw [if_pos hp.1, if_pos (by omega), if_pos hp.2.2.1, if_pos (by omega), show wrap64 ((i : Int) + 1) = ((i + 1 : Nat) : Int) from wrap_add1 (by omega) (by omega)]
    simp only [pairE]
    by_cases c : (rdOf false S p.f0 != rdOf false S p.f1) = true
    · rw [if_pos c, if_pos c, show wrap64 (x + p.f2) = x + p.f2 from wrap_id (by omega) (by omega), ih (x + p.f2) (by omega) (by omega), Int.add_assoc]
    · rw [if_neg c, if_neg c, ih x x0 (by omega), Int.zero_add]
theorem energy_l0 (n : Nat) (hS : S.length = n) (hn : (n : Int) = W * H) : ∀ (d i g : Nat), i + d = n → wax_Energy.l0 (g + d + 1) r S (sumF (cellE l2 l3 r S) i) S n i W H l2 l3 l4 l5 = (wax_Cloth_pairs.f g W H l2 l3 l4 l5).bind fun P => wax_Energy.l1 g S (sumF (cellE l2 l3 r S) n) P P.length 0
  | 0, i, g, h => by
    obtain rfl : i = n := by omega
    rw [Nat.add_zero, wax_Energy.l0]
    rw [if_neg (by omega)]
  | d + 1, i, g, h => by
    have ih := energy_l0 n hS hn d (i + 1) g (by omega)
    have hN := hc.n
    have h2 := hc.n2
    have h3 := hc.n3
    have hs := sumF_in i (fun v _ _ => cell_in hc hr S v)
    have hci := cell_in hc hr S (i : Int)
    have hb2 := rd_in hc.b2 (i : Int)
    have hb3 := rd_in hc.b3 (i : Int)
    simp only [sumF] at ih
    rw [show g + (d + 1) + 1 = (g + d + 1) + 1 by omega, wax_Energy.l0]
    rw [if_pos (by omega), if_pos (by omega), if_pos (by omega), show wrap64 ((i : Int) + 1) = ((i + 1 : Nat) : Int) from wrap_add1 (by omega) (by omega)]
    cases hq : rdOf false S (i : Int) with
    | true =>
      have e : cellE l2 l3 r S i = rd l3 i + r := by unfold cellE; rw [if_pos hq]
      rw [e] at ih hci
      rw [if_pos rfl, if_pos (by omega), show wrap64 (rd l3 (i : Int) + r) = rd l3 (i : Int) + r from wrap_id (by omega) (by omega), show wrap64 (sumF (cellE l2 l3 r S) i + (rd l3 (i : Int) + r)) = sumF (cellE l2 l3 r S) i + (rd l3 (i : Int) + r) from wrap_id (by omega) (by omega)]
      exact ih
    | false =>
      have e : cellE l2 l3 r S i = rd l2 i := by unfold cellE; rw [if_neg (by rw [hq]; decide)]
      rw [e] at ih hci
      rw [if_neg (by decide), if_pos (by omega), show wrap64 (sumF (cellE l2 l3 r S) i + rd l2 (i : Int)) = sumF (cellE l2 l3 r S) i + rd l2 (i : Int) from wrap_id (by omega) (by omega)]
      exact ih
end
theorem energy_f {W H : Int} {l2 l3 l4 l5 : List Int} (hv : cvB W H l2 l3 l4 l5 = true) {r : Int} (hr : -10000 ≤ r ∧ r ≤ 10000) (S : List Bool) (hS : (S.length : Int) = W * H) (fu : Nat) (hf : 300 ≤ fu) : wax_Energy.f fu W H l2 l3 l4 l5 r S = some (enE W H l2 l3 l4 l5 r S, 0) := by
  have hc := cvB_ok hv
  have hN := hc.n
  obtain ⟨n, hn⟩ : ∃ n : Nat, S.length = n := ⟨_, rfl⟩
  have hnn : (n : Int) = W * H := by omega
  have e : (W * H).toNat = n := by omega
  obtain ⟨g, rfl⟩ : ∃ g, fu = g + n + 1 + 1 := ⟨fu - n - 2, by omega⟩
  have h0 := energy_l0 hc hr S n hn hnn n 0 g (by omega)
  have hs := sumF_in n (fun v _ _ => cell_in hc hr S v)
  have h1 := energy_l1 hc S n hn hnn (pairsL W l4 l5).length 0 g (sumF (cellE l2 l3 r S) n) (by omega) (by have := pairs_len hc; omega) (by omega) (by have := pairs_len hc; omega)
  unfold wax_Energy.f wax_Cloth_valid.f
  rw [hv, Option.bind_some, if_pos rfl, if_neg (by omega), decide_eq_false (show ¬ r > 10000 by omega)]
  simp only [wax_Energy.j0, Bool.false_eq_true, if_false]
  rw [show wrap64 (W * H) = W * H from wrap_id (by omega) (by omega), if_pos hS, hn]
  refine h0.trans ?_
  rw [pairs_f hc g (by omega), Option.bind_some]
  refine h1.trans ?_
  unfold enE
  rw [e, List.drop_zero]
theorem energy_err {W H : Int} {l2 l3 l4 l5 : List Int} {r : Int} (h : ¬ (cvB W H l2 l3 l4 l5 = true ∧ -10000 ≤ r ∧ r ≤ 10000)) (S : List Bool) (fu : Nat) (hf : 1 ≤ fu) : wax_Energy.f fu W H l2 l3 l4 l5 r S = some (0, 2) := by
  obtain ⟨fu, rfl⟩ : ∃ g, fu = g + 1 := ⟨fu - 1, by omega⟩
  unfold wax_Energy.f wax_Cloth_valid.f
  rw [Option.bind_some]
  by_cases hv : cvB W H l2 l3 l4 l5 = true
  · have h2 : ¬ (-10000 ≤ r ∧ r ≤ 10000) := fun q => h ⟨hv, q⟩
    rw [if_pos hv]
    by_cases h1 : r < -10000
    · rw [if_pos h1]; simp only [wax_Energy.j0, if_true]
    · rw [if_neg h1, decide_eq_true (show r > 10000 by omega)]
      simp only [wax_Energy.j0, if_true]
  · rw [if_neg hv]; simp only [wax_Energy.j0, if_true]
theorem energy_size {W H : Int} {l2 l3 l4 l5 : List Int} (hv : cvB W H l2 l3 l4 l5 = true) {r : Int} (hr : -10000 ≤ r ∧ r ≤ 10000) (S : List Bool) (hS : ¬ (S.length : Int) = W * H) (fu : Nat) (hf : 1 ≤ fu) : wax_Energy.f fu W H l2 l3 l4 l5 r S = some (0, 3) := by
  have hc := cvB_ok hv
  have hN := hc.n
  obtain ⟨fu, rfl⟩ : ∃ g, fu = g + 1 := ⟨fu - 1, by omega⟩
  unfold wax_Energy.f wax_Cloth_valid.f
  rw [hv, Option.bind_some, if_pos rfl, if_neg (by omega), decide_eq_false (show ¬ r > 10000 by omega)]
  simp only [wax_Energy.j0, Bool.false_eq_true, if_false]
  rw [show wrap64 (W * H) = W * H from wrap_id (by omega) (by omega), if_neg hS]
end Go.Proofs.Ytbamanjedfccpaa.HTab
end

section
set_option linter.unusedVariables false
set_option linter.unusedSimpArgs false
namespace Go.Proofs.Ytbamanjedfccpaa.HTab
open Go.RowKit Go.Proofs.YtbamanjedfccpaaW.PrintWords Go.Proofs.YtbamanjedfccpaaW.PrintLast Go.Proofs.YtbamanjedfccpaaW.PrintMore Go.Proofs.Ytbamanjedfccpaa.X
set_option linter.unusedVariables false
set_option linter.unusedSimpArgs false
section
variable (N : Nat) (hN2 : 2 ≤ N) (hN : N ≤ 12) (l : List S34) (hl : l.length ≤ 160) (hg : GoodR N l)
include hN2 hN hl hg
end
end Go.Proofs.Ytbamanjedfccpaa.HTab
end

section
set_option linter.unusedVariables false
set_option linter.unusedSimpArgs false
namespace Go.Proofs.Ytbamanjedfccpaa.X
open Go.RowKit Go.Proofs.YtbamanjedfccpaaW.PrintWords Go.Proofs.YtbamanjedfccpaaW.PrintLast Go.Proofs.YtbamanjedfccpaaW.PrintMore
attribute [local go_sem] max2_int min2_int max_two min_two max_three min_three max_four min_four   -- for this text's walks alone
set_option linter.unusedVariables false
set_option linter.unusedSimpArgs false
end Go.Proofs.Ytbamanjedfccpaa.X
end

section
set_option linter.unusedVariables false
set_option linter.unusedSimpArgs false
namespace Go.Proofs.Ytbamanjedfccpaa.HTab
open Go.RowKit Go.Proofs.YtbamanjedfccpaaW.PrintWords Go.Proofs.YtbamanjedfccpaaW.PrintLast Go.Proofs.YtbamanjedfccpaaW.PrintMore Go.Proofs.Ytbamanjedfccpaa.X
set_option linter.unusedVariables false
set_option linter.unusedSimpArgs false
def shortL (xs : List (List Bool)) : Prop := xs.length ≤ 10000 ∧ ∀ S ∈ xs, S.length ≤ 1000
instance (xs : List (List Bool)) : Decidable (shortL xs) := inferInstanceAs (Decidable (_ ∧ _))
end Go.Proofs.Ytbamanjedfccpaa.HTab
namespace Go.Proofs.Ytbamanjedfccpaa.X
open Go.RowKit Go.Proofs.YtbamanjedfccpaaW.PrintWords Go.Proofs.YtbamanjedfccpaaW.PrintLast Go.Proofs.YtbamanjedfccpaaW.PrintMore Go.Proofs.Ytbamanjedfccpaa.HTab
end Go.Proofs.Ytbamanjedfccpaa.X
end

section
set_option linter.unusedVariables false
set_option linter.unusedSimpArgs false
namespace Go.Proofs.Ytbamanjedfccpaa.X
open Go.RowKit Go.Proofs.YtbamanjedfccpaaW.PrintWords Go.Proofs.YtbamanjedfccpaaW.PrintLast Go.Proofs.YtbamanjedfccpaaW.PrintMore
attribute [local go_sem] max2_int min2_int max_two min_two max_three min_three max_four min_four   -- for this text's walks alone
set_option linter.unusedVariables false
set_option linter.unusedSimpArgs false
end Go.Proofs.Ytbamanjedfccpaa.X
end

section
set_option linter.unusedVariables false
set_option linter.unusedSimpArgs false
namespace Go.Proofs.Ytbamanjedfccpaa.HTab
open Go.RowKit Go.Proofs.YtbamanjedfccpaaW.PrintWords Go.Proofs.YtbamanjedfccpaaW.PrintLast Go.Proofs.YtbamanjedfccpaaW.PrintMore Go.Proofs.Ytbamanjedfccpaa.X
set_option linter.unusedVariables false
set_option linter.unusedSimpArgs false
def andP (a b : List Bool) (i : Nat) : List Bool := (List.range i).map fun (k : Nat) => rdOf false a (k : Int) && rdOf false b (k : Int)
def orP (a b : List Bool) (i : Nat) : List Bool := (List.range i).map fun (k : Nat) => rdOf false a (k : Int) || rdOf false b (k : Int)
theorem andP_succ (a b : List Bool) (i : Nat) : andP a b (i + 1) = andP a b i ++ [rdOf false a (i : Int) && rdOf false b (i : Int)] := by unfold andP; rw [List.range_succ, List.map_append]; rfl
theorem orP_succ (a b : List Bool) (i : Nat) : orP a b (i + 1) = orP a b i ++ [rdOf false a (i : Int) || rdOf false b (i : Int)] := by unfold orP; rw [List.range_succ, List.map_append]; rfl
theorem andP_len (a b : List Bool) (i : Nat) : (andP a b i).length = i := by simp [andP]
theorem orP_len (a b : List Bool) (i : Nat) : (orP a b i).length = i := by simp [orP]
theorem andP_rd (a b : List Bool) (N : Nat) (x : Int) (x0 : 0 ≤ x) (x1 : x < N) : rdOf false (andP a b N) x = (rdOf false a x && rdOf false b x) := by
  obtain ⟨n, rfl⟩ : ∃ n : Nat, x = n := ⟨x.toNat, by omega⟩
  have h : n < N := by omega
  have e : rdOf false (andP a b N) (n : Int) = (andP a b N).getD n false := by simp [rdOf]
  rw [e]
  simp [andP, h]
theorem orP_rd (a b : List Bool) (N : Nat) (x : Int) (x0 : 0 ≤ x) (x1 : x < N) : rdOf false (orP a b N) x = (rdOf false a x || rdOf false b x) := by
  obtain ⟨n, rfl⟩ : ∃ n : Nat, x = n := ⟨x.toNat, by omega⟩
  have h : n < N := by omega
  have e : rdOf false (orP a b N) (n : Int) = (orP a b N).getD n false := by simp [rdOf]
  rw [e]
  simp [orP, h]
end Go.Proofs.Ytbamanjedfccpaa.HTab
end

section
set_option linter.unusedVariables false
set_option linter.unusedSimpArgs false
namespace Go.Proofs.Ytbamanjedfccpaa.X
open Go.RowKit Go.Proofs.YtbamanjedfccpaaW.PrintWords Go.Proofs.YtbamanjedfccpaaW.PrintLast Go.Proofs.YtbamanjedfccpaaW.PrintMore
attribute [local go_sem] max2_int min2_int max_two min_two max_three min_three max_four min_four   -- for this text's walks alone
set_option linter.unusedVariables false
set_option linter.unusedSimpArgs false
mutual
def cantinglaw07_WaxModular.j0 : Nat → Int → List Bool → List Bool → Int → Int → Int → Int → Bool → Int → Int → List Int → List Int → List Int → List Int → Option (Bool)
  | 0, _, _, _, _, _, _, _, _, _, _, _, _, _, _ => none
  | k + 1, x1, x2, x3, x9, x10, x11, x12, x47, x477000, x477001, x477002, x477003, x477004, x477005 => if x47 = true then (if x10 = 0 then (if x12 = 0 then (some false) else ((cantinglaw07_awake.f).bind fun t509 => (some t509))) else ((cantinglaw07_awake.f).bind fun t510 => (some t510))) else (cantinglaw07_WaxModular.l0 k x1 x3 x9 x11 ([] : List Bool) ([] : List Bool) x2 (x2.length : Int) 0 x477000 x477001 x477002 x477003 x477004 x477005)
def cantinglaw07_WaxModular.l0 : Nat → Int → List Bool → Int → Int → List Bool → List Bool → List Bool → Int → Int → Int → Int → List Int → List Int → List Int → List Int → Option (Bool)
  | 0, _, _, _, _, _, _, _, _, _, _, _, _, _, _, _ => none
  | k + 1, x1, x3, x9, x11, x13, x14, x57, x58, x59, x477000, x477001, x477002, x477003, x477004, x477005 => if x59 < x58 then (if 0 ≤ x59 then (if x59 < (x57.length : Int) then (if rdOf false x57 x59 = true then (if x59 < (x3.length : Int) then (if x13.length < 140737488355328 then (if x14.length < 140737488355328 then (cantinglaw07_WaxModular.l0 k x1 x3 x9 x11 (x13 ++ [rdOf false x3 x59]) (x14 ++ [true]) x57 x58 (wrap64 (x59 + 1)) x477000 x477001 x477002 x477003 x477004 x477005) else (none)) else (none)) else (none)) else (if x13.length < 140737488355328 then (if x59 < (x3.length : Int) then (if x14.length < 140737488355328 then (cantinglaw07_WaxModular.l0 k x1 x3 x9 x11 (x13 ++ [false]) (x14 ++ [rdOf false x3 x59]) x57 x58 (wrap64 (x59 + 1)) x477000 x477001 x477002 x477003 x477004 x477005) else (none)) else (none)) else (none))) else (none)) else (none)) else ((cantinglaw07_cloth.f x477000 x477001 x477002 x477003 x477004 x477005).bind fun bt526 => ((wax_Energy.f k bt526.1 bt526.2.1 bt526.2.2.1 bt526.2.2.2.1 bt526.2.2.2.2.1 bt526.2.2.2.2.2 x1 x13).bind fun bt540 => ((cantinglaw07_cloth.f x477000 x477001 x477002 x477003 x477004 x477005).bind fun bt542 => ((wax_Energy.f k bt542.1 bt542.2.1 bt542.2.2.1 bt542.2.2.2.1 bt542.2.2.2.2.1 bt542.2.2.2.2.2 x1 x14).bind fun bt556 => (if bt540.2 = 0 then (if bt556.2 = 0 then (if (wrap64 (bt540.1 + bt556.1)) ≤ (wrap64 (x9 + x11)) then ((cantinglaw07_awake.f).bind fun t558 => (some t558)) else (some false)) else (some false)) else (some false))))))
end
def cantinglaw07_WaxModular.f (k : Nat) (a0_0 : Int) (a0_1 : Int) (l0_2 : List Int) (l0_3 : List Int) (l0_4 : List Int) (l0_5 : List Int) (a1 : Int) (l2 : List Bool) (l3 : List Bool) : Option (Bool) := (cantinglaw07_cloth.f a0_0 a0_1 l0_2 l0_3 l0_4 l0_5).bind fun bt477 => ((wax_Energy.f k bt477.1 bt477.2.1 bt477.2.2.1 bt477.2.2.2.1 bt477.2.2.2.2.1 bt477.2.2.2.2.2 a1 l2).bind fun bt491 => ((cantinglaw07_cloth.f a0_0 a0_1 l0_2 l0_3 l0_4 l0_5).bind fun bt493 => ((wax_Energy.f k bt493.1 bt493.2.1 bt493.2.2.1 bt493.2.2.2.1 bt493.2.2.2.2.1 bt493.2.2.2.2.2 a1 l3).bind fun bt507 => (if bt491.2 = 0 then (if bt507.2 = 0 then (cantinglaw07_WaxModular.j0 k a1 l2 l3 bt491.1 bt491.2 bt507.1 bt507.2 ((l2.length : Int) != (l3.length : Int)) a0_0 a0_1 l0_2 l0_3 l0_4 l0_5) else (cantinglaw07_WaxModular.j0 k a1 l2 l3 bt491.1 bt491.2 bt507.1 bt507.2 true a0_0 a0_1 l0_2 l0_3 l0_4 l0_5)) else (cantinglaw07_WaxModular.j0 k a1 l2 l3 bt491.1 bt491.2 bt507.1 bt507.2 true a0_0 a0_1 l0_2 l0_3 l0_4 l0_5)))))
set_option maxHeartbeats 8000000 in
set_option maxRecDepth 100000 in
theorem cantinglaw07_WaxModular.calls (k : Nat) (a0_0 : Int) (a0_1 : Int) (A0_2 : Option Addr) (c0_2 : Nat) (l0_2 : List Int) (A0_3 : Option Addr) (c0_3 : Nat) (l0_3 : List Int) (A0_4 : Option Addr) (c0_4 : Nat) (l0_4 : List Int) (A0_5 : Option Addr) (c0_5 : Nat) (l0_5 : List Int) (a1 : Int) (A2 : Option Addr) (c2 : Nat) (l2 : List Bool) (A3 : Option Addr) (c3 : Nat) (l3 : List Bool) (r : Bool) (w : World) (hr0_2 : Kd.C (Kd.int .i64) w A0_2 l0_2.length l0_2) (hc0_2 : l0_2.length ≤ c0_2) (hr0_3 : Kd.C (Kd.int .i64) w A0_3 l0_3.length l0_3) (hc0_3 : l0_3.length ≤ c0_3) (hr0_4 : Kd.C (Kd.int .i64) w A0_4 l0_4.length l0_4) (hc0_4 : l0_4.length ≤ c0_4) (hr0_5 : Kd.C (Kd.int .i64) w A0_5 l0_5.length l0_5) (hc0_5 : l0_5.length ≤ c0_5) (hr2 : Kd.C Kd.bool w A2 l2.length l2) (hc2 : l2.length ≤ c2) (hr3 : Kd.C Kd.bool w A3 l3.length l3) (hc3 : l3.length ≤ c3) (h : cantinglaw07_WaxModular.f k a0_0 a0_1 l0_2 l0_3 l0_4 l0_5 a1 l2 l3 = some r) :
    Calls Try.prog 9 #[.agg #[.int .i64 a0_0, .int .i64 a0_1, .slice A0_2 l0_2.length c0_2, .slice A0_3 l0_3.length c0_3, .slice A0_4 l0_4.length c0_4, .slice A0_5 l0_5.length c0_5], .int .i64 a1, .slice A2 l2.length c2, .slice A3 l3.length c3] w fun e w' => e = .returned (.bool r) ∧ Below w.heap.size w w' := by
  have hu61 := Try.underlying61
  have HR0_2 := Aside0.mk hr0_2
  have HC0_2 := Aside0.mk hc0_2
  clear hr0_2 hc0_2
  have HR0_3 := Aside0.mk hr0_3
  have HC0_3 := Aside0.mk hc0_3
  clear hr0_3 hc0_3
  have HR0_4 := Aside0.mk hr0_4
  have HC0_4 := Aside0.mk hc0_4
  clear hr0_4 hc0_4
  have HR0_5 := Aside0.mk hr0_5
  have HC0_5 := Aside0.mk hc0_5
  clear hr0_5 hc0_5
  have HR2 := Aside0.mk hr2
  have HC2 := Aside0.mk hc2
  clear hr2 hc2
  have HR3 := Aside0.mk hr3
  have HC3 := Aside0.mk hc3
  clear hr3 hc3
  have HB := Aside0.mk (Below.refl w.heap.size w)
  have H : ((cantinglaw07_cloth.f a0_0 a0_1 l0_2 l0_3 l0_4 l0_5).bind fun bt477 => ((wax_Energy.f k bt477.1 bt477.2.1 bt477.2.2.1 bt477.2.2.2.1 bt477.2.2.2.2.1 bt477.2.2.2.2.2 a1 l2).bind fun bt491 => ((cantinglaw07_cloth.f a0_0 a0_1 l0_2 l0_3 l0_4 l0_5).bind fun bt493 => ((wax_Energy.f k bt493.1 bt493.2.1 bt493.2.2.1 bt493.2.2.2.1 bt493.2.2.2.2.1 bt493.2.2.2.2.2 a1 l3).bind fun bt507 => (if bt491.2 = 0 then (if bt507.2 = 0 then (cantinglaw07_WaxModular.j0 k a1 l2 l3 bt491.1 bt491.2 bt507.1 bt507.2 ((l2.length : Int) != (l3.length : Int)) a0_0 a0_1 l0_2 l0_3 l0_4 l0_5) else (cantinglaw07_WaxModular.j0 k a1 l2 l3 bt491.1 bt491.2 bt507.1 bt507.2 true a0_0 a0_1 l0_2 l0_3 l0_4 l0_5)) else (cantinglaw07_WaxModular.j0 k a1 l2 l3 bt491.1 bt491.2 bt507.1 bt507.2 true a0_0 a0_1 l0_2 l0_3 l0_4 l0_5)))))) = some r := h
  clear h
  replace H := Option.bind_eq_some_iff.mp H
  obtain ⟨⟨t477, t478, t479, t482, t485, t488⟩, A50, H⟩ := H
  replace H : ((wax_Energy.f k t477 t478 t479 t482 t485 t488 a1 l2).bind fun bt491 => ((cantinglaw07_cloth.f a0_0 a0_1 l0_2 l0_3 l0_4 l0_5).bind fun bt493 => ((wax_Energy.f k bt493.1 bt493.2.1 bt493.2.2.1 bt493.2.2.2.1 bt493.2.2.2.2.1 bt493.2.2.2.2.2 a1 l3).bind fun bt507 => (if bt491.2 = 0 then (if bt507.2 = 0 then (cantinglaw07_WaxModular.j0 k a1 l2 l3 bt491.1 bt491.2 bt507.1 bt507.2 ((l2.length : Int) != (l3.length : Int)) a0_0 a0_1 l0_2 l0_3 l0_4 l0_5) else (cantinglaw07_WaxModular.j0 k a1 l2 l3 bt491.1 bt491.2 bt507.1 bt507.2 true a0_0 a0_1 l0_2 l0_3 l0_4 l0_5)) else (cantinglaw07_WaxModular.j0 k a1 l2 l3 bt491.1 bt491.2 bt507.1 bt507.2 true a0_0 a0_1 l0_2 l0_3 l0_4 l0_5))))) = some r := H
  have A5 := Aside0.mk A50
  clear A50
  replace H := Option.bind_eq_some_iff.mp H
  obtain ⟨⟨t491, t492⟩, A60, H⟩ := H
  replace H : ((cantinglaw07_cloth.f a0_0 a0_1 l0_2 l0_3 l0_4 l0_5).bind fun bt493 => ((wax_Energy.f k bt493.1 bt493.2.1 bt493.2.2.1 bt493.2.2.2.1 bt493.2.2.2.2.1 bt493.2.2.2.2.2 a1 l3).bind fun bt507 => (if t492 = 0 then (if bt507.2 = 0 then (cantinglaw07_WaxModular.j0 k a1 l2 l3 t491 t492 bt507.1 bt507.2 ((l2.length : Int) != (l3.length : Int)) a0_0 a0_1 l0_2 l0_3 l0_4 l0_5) else (cantinglaw07_WaxModular.j0 k a1 l2 l3 t491 t492 bt507.1 bt507.2 true a0_0 a0_1 l0_2 l0_3 l0_4 l0_5)) else (cantinglaw07_WaxModular.j0 k a1 l2 l3 t491 t492 bt507.1 bt507.2 true a0_0 a0_1 l0_2 l0_3 l0_4 l0_5)))) = some r := H
  have A6 := Aside0.mk A60
  clear A60
  replace H := Option.bind_eq_some_iff.mp H
  obtain ⟨⟨t493, t494, t495, t498, t501, t504⟩, A70, H⟩ := H
  replace H : ((wax_Energy.f k t493 t494 t495 t498 t501 t504 a1 l3).bind fun bt507 => (if t492 = 0 then (if bt507.2 = 0 then (cantinglaw07_WaxModular.j0 k a1 l2 l3 t491 t492 bt507.1 bt507.2 ((l2.length : Int) != (l3.length : Int)) a0_0 a0_1 l0_2 l0_3 l0_4 l0_5) else (cantinglaw07_WaxModular.j0 k a1 l2 l3 t491 t492 bt507.1 bt507.2 true a0_0 a0_1 l0_2 l0_3 l0_4 l0_5)) else (cantinglaw07_WaxModular.j0 k a1 l2 l3 t491 t492 bt507.1 bt507.2 true a0_0 a0_1 l0_2 l0_3 l0_4 l0_5))) = some r := H
  have A7 := Aside0.mk A70
  clear A70
  replace H := Option.bind_eq_some_iff.mp H
  obtain ⟨⟨t507, t508⟩, A80, H⟩ := H
  replace H : (if t492 = 0 then (if t508 = 0 then (cantinglaw07_WaxModular.j0 k a1 l2 l3 t491 t492 t507 t508 ((l2.length : Int) != (l3.length : Int)) a0_0 a0_1 l0_2 l0_3 l0_4 l0_5) else (cantinglaw07_WaxModular.j0 k a1 l2 l3 t491 t492 t507 t508 true a0_0 a0_1 l0_2 l0_3 l0_4 l0_5)) else (cantinglaw07_WaxModular.j0 k a1 l2 l3 t491 t492 t507 t508 true a0_0 a0_1 l0_2 l0_3 l0_4 l0_5)) = some r := H
  have A8 := Aside0.mk A80
  clear A80
  have HC9 := Aside0.mk H
  clear H
  go_enter Try.func9, Try.ntmps9
  go_upto_region 3 with (first | ((with_reducible refine gate_dst (N := 4) rfl ?_); (try (refine gate_guard (by rfl) ?_; dsimp only)); refine box_event ?hg (N := 4) ?hd (cs := #[.int .i64 a0_0, .int .i64 a0_1, .slice A0_2 l0_2.length c0_2, .slice A0_3 l0_3.length c0_3, .slice A0_4 l0_4.length c0_4, .slice A0_5 l0_5.length c0_5]) (t := 61) ?hr ?_; (case hd => rfl); (case hg => rfl); (case hr => first | (go_simp; done) | (go_simp; rfl)); intro gb476 hg w10 hbox hb; have n0_ := Aside0.mk (below_step (by repeat (first | (with_reducible first | exact HB.out | apply below_alloc | apply pw_below_drewN | apply below_drew1) | exact HB.out)) hb); have n1_ := Aside0.mk (hbox); have n2_ := Aside0.mk ((by rw [hg]; exact (below_size (by repeat (first | (with_reducible first | exact HB.out | apply below_alloc | apply pw_below_drewN | apply below_drew1) | exact HB.out))) : w.heap.size ≤ gb476)); have n3_ := Aside0.mk ((by rw [hg]; exact (below_size (by repeat (first | (with_reducible first | exact HB.out | apply below_alloc | apply pw_below_drewN | apply below_drew1) | exact HB.out))) : w.heap.size ≤ gb476)); clear HB; have HB := n0_; have BK476 := n1_; have GW476 := n2_; have GE476 := n3_; clear n0_ n1_ n2_ n3_; clear hb hbox hg; have hcz11_0 : w10.cell? ⟨gb476, 0, none⟩ = some (.int .i64 a0_0) := (blk_cell BK476.out 0).trans rfl; have hcz11_1 : w10.cell? ⟨gb476, 1, none⟩ = some (.int .i64 a0_1) := (blk_cell BK476.out 1).trans rfl; have hcz11_2 : w10.cell? ⟨gb476, 2, none⟩ = some (.slice A0_2 l0_2.length c0_2) := (blk_cell BK476.out 2).trans rfl; have hcz11_3 : w10.cell? ⟨gb476, 3, none⟩ = some (.slice A0_3 l0_3.length c0_3) := (blk_cell BK476.out 3).trans rfl; have hcz11_4 : w10.cell? ⟨gb476, 4, none⟩ = some (.slice A0_4 l0_4.length c0_4) := (blk_cell BK476.out 4).trans rfl; have hcz11_5 : w10.cell? ⟨gb476, 5, none⟩ = some (.slice A0_5 l0_5.length c0_5) := (blk_cell BK476.out 5).trans rfl; have hfz11_0 := blk_frozen BK476.out 0; have hfz11_1 := blk_frozen BK476.out 1; have hfz11_2 := blk_frozen BK476.out 2; have hfz11_3 := blk_frozen BK476.out 3; have hfz11_4 := blk_frozen BK476.out 4; have hfz11_5 := blk_frozen BK476.out 5) | ((with_reducible refine gate_callee (f := 32) rfl ?_); refine goesL_ (some 21) rfl rfl Try.func32 (by kernel_rfl) rfl #[.agg #[.int .i64 a0_0, .int .i64 a0_1, .slice A0_2 l0_2.length c0_2, .slice A0_3 l0_3.length c0_3, .slice A0_4 l0_4.length c0_4, .slice A0_5 l0_5.length c0_5]] rfl (by (try simp only [List.map_toArray, List.map_cons, List.map_nil]); first | done | rfl | (simp only [List.length_drop, List.length_take]; rfl)) ?_; (with_reducible refine (cantinglaw07_cloth.calls a0_0 a0_1 _ _ l0_2 _ _ l0_3 _ _ l0_4 _ _ l0_5 t477 t478 t479 t482 t485 t488 _ ?side1 ?side2 ?side3 ?side4 ?side5 ?side6 ?side7 ?side8 A5.out).mono ?_); (case side1 => repeat (first | exact (Kd.C_below HR0_2.out HB.out) | (with_reducible refine Kd.C_alloc ?_ _) | (with_reducible refine Kd.C_drewN ?_ _) | (with_reducible refine Kd.C_drew ?_))); (case side2 => exact HC0_2.out); (case side3 => repeat (first | exact (Kd.C_below HR0_3.out HB.out) | (with_reducible refine Kd.C_alloc ?_ _) | (with_reducible refine Kd.C_drewN ?_ _) | (with_reducible refine Kd.C_drew ?_))); (case side4 => exact HC0_3.out); (case side5 => repeat (first | exact (Kd.C_below HR0_4.out HB.out) | (with_reducible refine Kd.C_alloc ?_ _) | (with_reducible refine Kd.C_drewN ?_ _) | (with_reducible refine Kd.C_drew ?_))); (case side6 => exact HC0_4.out); (case side7 => repeat (first | exact (Kd.C_below HR0_5.out HB.out) | (with_reducible refine Kd.C_alloc ?_ _) | (with_reducible refine Kd.C_drewN ?_ _) | (with_reducible refine Kd.C_drew ?_))); (case side8 => exact HC0_5.out); rintro e w12 ⟨v480, v483, v486, v489, rfl, ho0, ho1, ho2, ho3, hb⟩; refine ⟨_, rfl, ?_⟩; have n0_ := Aside0.mk (Kd.R_lower ho0 (below_size (by repeat (first | (with_reducible first | exact HB.out | apply below_alloc | apply pw_below_drewN | apply below_drew1 | refine below_set ?_ GE476.out) | exact HB.out)))); have n1_ := Aside0.mk (Kd.R_lower ho1 (below_size (by repeat (first | (with_reducible first | exact HB.out | apply below_alloc | apply pw_below_drewN | apply below_drew1 | refine below_set ?_ GE476.out) | exact HB.out)))); have n2_ := Aside0.mk (Kd.R_lower ho2 (below_size (by repeat (first | (with_reducible first | exact HB.out | apply below_alloc | apply pw_below_drewN | apply below_drew1 | refine below_set ?_ GE476.out) | exact HB.out)))); have n3_ := Aside0.mk (Kd.R_lower ho3 (below_size (by repeat (first | (with_reducible first | exact HB.out | apply below_alloc | apply pw_below_drewN | apply below_drew1 | refine below_set ?_ GE476.out) | exact HB.out)))); have n4_ := Aside0.mk (blk_below (g := gb476) (o := .cells #[.int .i64 a0_0, .int .i64 a0_1, .slice A0_2 l0_2.length c0_2, .slice A0_3 l0_3.length c0_3, .slice A0_4 l0_4.length c0_4, .slice A0_5 l0_5.length c0_5] 61 (0, 0)) (by (with_reducible repeat (first | refine blk_drewN ?_ _ | refine blk_drew ?_ | refine blk_alloc ?_ _)); exact BK476.out) hb); have n5_ := Aside0.mk (below_step (by repeat (first | (with_reducible first | exact HB.out | apply below_alloc | apply pw_below_drewN | apply below_drew1 | refine below_set ?_ GE476.out) | exact HB.out)) hb); clear BK476; clear HB; have HO481 := n0_; have HO484 := n1_; have HO487 := n2_; have HO490 := n3_; have BK476 := n4_; have HB := n5_; clear n0_ n1_ n2_ n3_ n4_ n5_; (try clear hb); (try clear hb2); (try clear hk); (try clear hi); (try clear ho0); (try clear ho1); (try clear ho2); (try clear ho3); obtain ⟨Ao13, co13, eo13⟩ := Kd.R_slice HO481.out; subst eo13; obtain ⟨Ao14, co14, eo14⟩ := Kd.R_slice HO484.out; subst eo14; obtain ⟨Ao15, co15, eo15⟩ := Kd.R_slice HO487.out; subst eo15; obtain ⟨Ao16, co16, eo16⟩ := Kd.R_slice HO490.out; subst eo16) | ((with_reducible refine gate_callee (f := 31) rfl ?_); refine goesL_ (some 24) rfl rfl Try.func31 (by kernel_rfl) rfl #[.agg #[.int .i64 t477, .int .i64 t478, .slice Ao13 t479.length co13, .slice Ao14 t482.length co14, .slice Ao15 t485.length co15, .slice Ao16 t488.length co16], .int .i64 a1, .slice A2 l2.length c2] rfl (by (try simp only [List.map_toArray, List.map_cons, List.map_nil]); first | done | rfl | (simp only [List.length_drop, List.length_take]; rfl)) ?_; (with_reducible refine (wax_Energy.calls k t477 t478 _ _ t479 _ _ t482 _ _ t485 _ _ t488 a1 _ _ l2 t491 t492 _ ?side1 ?side2 ?side3 ?side4 ?side5 ?side6 ?side7 ?side8 ?side9 ?side10 A6.out).mono ?_); (case side1 => repeat (first | exact (Kd.R_reads' HO481.out).2.2 | (with_reducible refine Kd.C_alloc ?_ _) | (with_reducible refine Kd.C_drewN ?_ _) | (with_reducible refine Kd.C_drew ?_))); (case side2 => exact (Kd.R_reads' HO481.out).2.1); (case side3 => repeat (first | exact (Kd.R_reads' HO484.out).2.2 | (with_reducible refine Kd.C_alloc ?_ _) | (with_reducible refine Kd.C_drewN ?_ _) | (with_reducible refine Kd.C_drew ?_))); (case side4 => exact (Kd.R_reads' HO484.out).2.1); (case side5 => repeat (first | exact (Kd.R_reads' HO487.out).2.2 | (with_reducible refine Kd.C_alloc ?_ _) | (with_reducible refine Kd.C_drewN ?_ _) | (with_reducible refine Kd.C_drew ?_))); (case side6 => exact (Kd.R_reads' HO487.out).2.1); (case side7 => repeat (first | exact (Kd.R_reads' HO490.out).2.2 | (with_reducible refine Kd.C_alloc ?_ _) | (with_reducible refine Kd.C_drewN ?_ _) | (with_reducible refine Kd.C_drew ?_))); (case side8 => exact (Kd.R_reads' HO490.out).2.1); (case side9 => repeat (first | exact (Kd.C_below HR2.out HB.out) | (with_reducible refine Kd.C_alloc ?_ _) | (with_reducible refine Kd.C_drewN ?_ _) | (with_reducible refine Kd.C_drew ?_))); (case side10 => exact HC2.out); rintro e w17 ⟨rfl, hb⟩; refine ⟨_, rfl, ?_⟩; have n0_ := Aside0.mk (Kd.R_below (by (with_reducible repeat (first | apply Kd.R_alloc | apply Kd.R_drewN | apply Kd.R_drew)); exact HO481.out) hb); have n1_ := Aside0.mk (Kd.R_below (by (with_reducible repeat (first | apply Kd.R_alloc | apply Kd.R_drewN | apply Kd.R_drew)); exact HO484.out) hb); have n2_ := Aside0.mk (Kd.R_below (by (with_reducible repeat (first | apply Kd.R_alloc | apply Kd.R_drewN | apply Kd.R_drew)); exact HO487.out) hb); have n3_ := Aside0.mk (Kd.R_below (by (with_reducible repeat (first | apply Kd.R_alloc | apply Kd.R_drewN | apply Kd.R_drew)); exact HO490.out) hb); have n4_ := Aside0.mk (blk_below (g := gb476) (o := .cells #[.int .i64 a0_0, .int .i64 a0_1, .slice A0_2 l0_2.length c0_2, .slice A0_3 l0_3.length c0_3, .slice A0_4 l0_4.length c0_4, .slice A0_5 l0_5.length c0_5] 61 (0, 0)) (by (with_reducible repeat (first | refine blk_drewN ?_ _ | refine blk_drew ?_ | refine blk_alloc ?_ _)); exact BK476.out) hb); have n5_ := Aside0.mk (below_step (by repeat (first | (with_reducible first | exact HB.out | apply below_alloc | apply pw_below_drewN | apply below_drew1 | refine below_set ?_ GE476.out) | exact HB.out)) hb); clear HO481; clear HO484; clear HO487; clear HO490; clear BK476; clear HB; have HO481 := n0_; have HO484 := n1_; have HO487 := n2_; have HO490 := n3_; have BK476 := n4_; have HB := n5_; clear n0_ n1_ n2_ n3_ n4_ n5_; (try clear hb); (try clear hb2); (try clear hk); (try clear hi); have hcz18_0 : w17.cell? ⟨gb476, 0, none⟩ = some (.int .i64 a0_0) := (blk_cell BK476.out 0).trans rfl; have hcz18_1 : w17.cell? ⟨gb476, 1, none⟩ = some (.int .i64 a0_1) := (blk_cell BK476.out 1).trans rfl; have hcz18_2 : w17.cell? ⟨gb476, 2, none⟩ = some (.slice A0_2 l0_2.length c0_2) := (blk_cell BK476.out 2).trans rfl; have hcz18_3 : w17.cell? ⟨gb476, 3, none⟩ = some (.slice A0_3 l0_3.length c0_3) := (blk_cell BK476.out 3).trans rfl; have hcz18_4 : w17.cell? ⟨gb476, 4, none⟩ = some (.slice A0_4 l0_4.length c0_4) := (blk_cell BK476.out 4).trans rfl; have hcz18_5 : w17.cell? ⟨gb476, 5, none⟩ = some (.slice A0_5 l0_5.length c0_5) := (blk_cell BK476.out 5).trans rfl; have hfz18_0 := blk_frozen BK476.out 0; have hfz18_1 := blk_frozen BK476.out 1; have hfz18_2 := blk_frozen BK476.out 2; have hfz18_3 := blk_frozen BK476.out 3; have hfz18_4 := blk_frozen BK476.out 4; have hfz18_5 := blk_frozen BK476.out 5) | ((with_reducible refine gate_callee (f := 32) rfl ?_); refine goesL_ (some 29) rfl rfl Try.func32 (by kernel_rfl) rfl #[.agg #[.int .i64 a0_0, .int .i64 a0_1, .slice A0_2 l0_2.length c0_2, .slice A0_3 l0_3.length c0_3, .slice A0_4 l0_4.length c0_4, .slice A0_5 l0_5.length c0_5]] rfl (by (try simp only [List.map_toArray, List.map_cons, List.map_nil]); first | done | rfl | (simp only [List.length_drop, List.length_take]; rfl)) ?_; (with_reducible refine (cantinglaw07_cloth.calls a0_0 a0_1 _ _ l0_2 _ _ l0_3 _ _ l0_4 _ _ l0_5 t493 t494 t495 t498 t501 t504 _ ?side1 ?side2 ?side3 ?side4 ?side5 ?side6 ?side7 ?side8 A7.out).mono ?_); (case side1 => repeat (first | exact (Kd.C_below HR0_2.out HB.out) | (with_reducible refine Kd.C_alloc ?_ _) | (with_reducible refine Kd.C_drewN ?_ _) | (with_reducible refine Kd.C_drew ?_))); (case side2 => exact HC0_2.out); (case side3 => repeat (first | exact (Kd.C_below HR0_3.out HB.out) | (with_reducible refine Kd.C_alloc ?_ _) | (with_reducible refine Kd.C_drewN ?_ _) | (with_reducible refine Kd.C_drew ?_))); (case side4 => exact HC0_3.out); (case side5 => repeat (first | exact (Kd.C_below HR0_4.out HB.out) | (with_reducible refine Kd.C_alloc ?_ _) | (with_reducible refine Kd.C_drewN ?_ _) | (with_reducible refine Kd.C_drew ?_))); (case side6 => exact HC0_4.out); (case side7 => repeat (first | exact (Kd.C_below HR0_5.out HB.out) | (with_reducible refine Kd.C_alloc ?_ _) | (with_reducible refine Kd.C_drewN ?_ _) | (with_reducible refine Kd.C_drew ?_))); (case side8 => exact HC0_5.out); rintro e w19 ⟨v496, v499, v502, v505, rfl, ho0, ho1, ho2, ho3, hb⟩; refine ⟨_, rfl, ?_⟩; have n0_ := Aside0.mk (Kd.R_mono (Kd.R_told (Kd.R_told (Kd.R_told (Kd.R_told (Kd.R_old (by (with_reducible repeat (first | apply Kd.R_alloc | apply Kd.R_drewN | apply Kd.R_drew)); exact HO481.out) hb) (Kd.R_base ho0)) (Kd.R_base ho1)) (Kd.R_base ho2)) (Kd.R_base ho3)) (fun _ h_ => h_.1)); have n1_ := Aside0.mk (Kd.R_mono (Kd.R_told (Kd.R_told (Kd.R_told (Kd.R_told (Kd.R_old (by (with_reducible repeat (first | apply Kd.R_alloc | apply Kd.R_drewN | apply Kd.R_drew)); exact HO484.out) hb) (Kd.R_base ho0)) (Kd.R_base ho1)) (Kd.R_base ho2)) (Kd.R_base ho3)) (fun _ h_ => h_.1)); have n2_ := Aside0.mk (Kd.R_mono (Kd.R_told (Kd.R_told (Kd.R_told (Kd.R_told (Kd.R_old (by (with_reducible repeat (first | apply Kd.R_alloc | apply Kd.R_drewN | apply Kd.R_drew)); exact HO487.out) hb) (Kd.R_base ho0)) (Kd.R_base ho1)) (Kd.R_base ho2)) (Kd.R_base ho3)) (fun _ h_ => h_.1)); have n3_ := Aside0.mk (Kd.R_mono (Kd.R_told (Kd.R_told (Kd.R_told (Kd.R_told (Kd.R_old (by (with_reducible repeat (first | apply Kd.R_alloc | apply Kd.R_drewN | apply Kd.R_drew)); exact HO490.out) hb) (Kd.R_base ho0)) (Kd.R_base ho1)) (Kd.R_base ho2)) (Kd.R_base ho3)) (fun _ h_ => h_.1)); have n4_ := Aside0.mk (Kd.R_lower (Kd.R_new' (Kd.R_new' (Kd.R_new' (Kd.R_new' ho0 (Kd.R_lt (by (with_reducible repeat (first | apply Kd.R_alloc | apply Kd.R_drewN | apply Kd.R_drew)); exact HO481.out))) (Kd.R_lt (by (with_reducible repeat (first | apply Kd.R_alloc | apply Kd.R_drewN | apply Kd.R_drew)); exact HO484.out))) (Kd.R_lt (by (with_reducible repeat (first | apply Kd.R_alloc | apply Kd.R_drewN | apply Kd.R_drew)); exact HO487.out))) (Kd.R_lt (by (with_reducible repeat (first | apply Kd.R_alloc | apply Kd.R_drewN | apply Kd.R_drew)); exact HO490.out))) (below_size (by repeat (first | (with_reducible first | exact HB.out | apply below_alloc | apply pw_below_drewN | apply below_drew1 | refine below_set ?_ GE476.out) | exact HB.out)))); have n5_ := Aside0.mk (Kd.R_lower (Kd.R_new' (Kd.R_new' (Kd.R_new' (Kd.R_new' ho1 (Kd.R_lt (by (with_reducible repeat (first | apply Kd.R_alloc | apply Kd.R_drewN | apply Kd.R_drew)); exact HO481.out))) (Kd.R_lt (by (with_reducible repeat (first | apply Kd.R_alloc | apply Kd.R_drewN | apply Kd.R_drew)); exact HO484.out))) (Kd.R_lt (by (with_reducible repeat (first | apply Kd.R_alloc | apply Kd.R_drewN | apply Kd.R_drew)); exact HO487.out))) (Kd.R_lt (by (with_reducible repeat (first | apply Kd.R_alloc | apply Kd.R_drewN | apply Kd.R_drew)); exact HO490.out))) (below_size (by repeat (first | (with_reducible first | exact HB.out | apply below_alloc | apply pw_below_drewN | apply below_drew1 | refine below_set ?_ GE476.out) | exact HB.out)))); have n6_ := Aside0.mk (Kd.R_lower (Kd.R_new' (Kd.R_new' (Kd.R_new' (Kd.R_new' ho2 (Kd.R_lt (by (with_reducible repeat (first | apply Kd.R_alloc | apply Kd.R_drewN | apply Kd.R_drew)); exact HO481.out))) (Kd.R_lt (by (with_reducible repeat (first | apply Kd.R_alloc | apply Kd.R_drewN | apply Kd.R_drew)); exact HO484.out))) (Kd.R_lt (by (with_reducible repeat (first | apply Kd.R_alloc | apply Kd.R_drewN | apply Kd.R_drew)); exact HO487.out))) (Kd.R_lt (by (with_reducible repeat (first | apply Kd.R_alloc | apply Kd.R_drewN | apply Kd.R_drew)); exact HO490.out))) (below_size (by repeat (first | (with_reducible first | exact HB.out | apply below_alloc | apply pw_below_drewN | apply below_drew1 | refine below_set ?_ GE476.out) | exact HB.out)))); have n7_ := Aside0.mk (Kd.R_lower (Kd.R_new' (Kd.R_new' (Kd.R_new' (Kd.R_new' ho3 (Kd.R_lt (by (with_reducible repeat (first | apply Kd.R_alloc | apply Kd.R_drewN | apply Kd.R_drew)); exact HO481.out))) (Kd.R_lt (by (with_reducible repeat (first | apply Kd.R_alloc | apply Kd.R_drewN | apply Kd.R_drew)); exact HO484.out))) (Kd.R_lt (by (with_reducible repeat (first | apply Kd.R_alloc | apply Kd.R_drewN | apply Kd.R_drew)); exact HO487.out))) (Kd.R_lt (by (with_reducible repeat (first | apply Kd.R_alloc | apply Kd.R_drewN | apply Kd.R_drew)); exact HO490.out))) (below_size (by repeat (first | (with_reducible first | exact HB.out | apply below_alloc | apply pw_below_drewN | apply below_drew1 | refine below_set ?_ GE476.out) | exact HB.out)))); have n8_ := Aside0.mk (blk_below (g := gb476) (o := .cells #[.int .i64 a0_0, .int .i64 a0_1, .slice A0_2 l0_2.length c0_2, .slice A0_3 l0_3.length c0_3, .slice A0_4 l0_4.length c0_4, .slice A0_5 l0_5.length c0_5] 61 (0, 0)) (by (with_reducible repeat (first | refine blk_drewN ?_ _ | refine blk_drew ?_ | refine blk_alloc ?_ _)); exact BK476.out) hb); have n9_ := Aside0.mk (below_step (by repeat (first | (with_reducible first | exact HB.out | apply below_alloc | apply pw_below_drewN | apply below_drew1 | refine below_set ?_ GE476.out) | exact HB.out)) hb); clear HO481; clear HO484; clear HO487; clear HO490; clear BK476; clear HB; have HO481 := n0_; have HO484 := n1_; have HO487 := n2_; have HO490 := n3_; have HO497 := n4_; have HO500 := n5_; have HO503 := n6_; have HO506 := n7_; have BK476 := n8_; have HB := n9_; clear n0_ n1_ n2_ n3_ n4_ n5_ n6_ n7_ n8_ n9_; (try clear hb); (try clear hb2); (try clear hk); (try clear hi); (try clear ho0); (try clear ho1); (try clear ho2); (try clear ho3); obtain ⟨Ao20, co20, eo20⟩ := Kd.R_slice HO497.out; subst eo20; obtain ⟨Ao21, co21, eo21⟩ := Kd.R_slice HO500.out; subst eo21; obtain ⟨Ao22, co22, eo22⟩ := Kd.R_slice HO503.out; subst eo22; obtain ⟨Ao23, co23, eo23⟩ := Kd.R_slice HO506.out; subst eo23) | ((with_reducible refine gate_callee (f := 31) rfl ?_); refine goesL_ (some 32) rfl rfl Try.func31 (by kernel_rfl) rfl #[.agg #[.int .i64 t493, .int .i64 t494, .slice Ao20 t495.length co20, .slice Ao21 t498.length co21, .slice Ao22 t501.length co22, .slice Ao23 t504.length co23], .int .i64 a1, .slice A3 l3.length c3] rfl (by (try simp only [List.map_toArray, List.map_cons, List.map_nil]); first | done | rfl | (simp only [List.length_drop, List.length_take]; rfl)) ?_; (with_reducible refine (wax_Energy.calls k t493 t494 _ _ t495 _ _ t498 _ _ t501 _ _ t504 a1 _ _ l3 t507 t508 _ ?side1 ?side2 ?side3 ?side4 ?side5 ?side6 ?side7 ?side8 ?side9 ?side10 A8.out).mono ?_); (case side1 => repeat (first | exact (Kd.R_reads' HO497.out).2.2 | (with_reducible refine Kd.C_alloc ?_ _) | (with_reducible refine Kd.C_drewN ?_ _) | (with_reducible refine Kd.C_drew ?_))); (case side2 => exact (Kd.R_reads' HO497.out).2.1); (case side3 => repeat (first | exact (Kd.R_reads' HO500.out).2.2 | (with_reducible refine Kd.C_alloc ?_ _) | (with_reducible refine Kd.C_drewN ?_ _) | (with_reducible refine Kd.C_drew ?_))); (case side4 => exact (Kd.R_reads' HO500.out).2.1); (case side5 => repeat (first | exact (Kd.R_reads' HO503.out).2.2 | (with_reducible refine Kd.C_alloc ?_ _) | (with_reducible refine Kd.C_drewN ?_ _) | (with_reducible refine Kd.C_drew ?_))); (case side6 => exact (Kd.R_reads' HO503.out).2.1); (case side7 => repeat (first | exact (Kd.R_reads' HO506.out).2.2 | (with_reducible refine Kd.C_alloc ?_ _) | (with_reducible refine Kd.C_drewN ?_ _) | (with_reducible refine Kd.C_drew ?_))); (case side8 => exact (Kd.R_reads' HO506.out).2.1); (case side9 => repeat (first | exact (Kd.C_below HR3.out HB.out) | (with_reducible refine Kd.C_alloc ?_ _) | (with_reducible refine Kd.C_drewN ?_ _) | (with_reducible refine Kd.C_drew ?_))); (case side10 => exact HC3.out); rintro e w24 ⟨rfl, hb⟩; refine ⟨_, rfl, ?_⟩; have n0_ := Aside0.mk (Kd.R_below (by (with_reducible repeat (first | apply Kd.R_alloc | apply Kd.R_drewN | apply Kd.R_drew)); exact HO481.out) hb); have n1_ := Aside0.mk (Kd.R_below (by (with_reducible repeat (first | apply Kd.R_alloc | apply Kd.R_drewN | apply Kd.R_drew)); exact HO484.out) hb); have n2_ := Aside0.mk (Kd.R_below (by (with_reducible repeat (first | apply Kd.R_alloc | apply Kd.R_drewN | apply Kd.R_drew)); exact HO487.out) hb); have n3_ := Aside0.mk (Kd.R_below (by (with_reducible repeat (first | apply Kd.R_alloc | apply Kd.R_drewN | apply Kd.R_drew)); exact HO490.out) hb); have n4_ := Aside0.mk (Kd.R_below (by (with_reducible repeat (first | apply Kd.R_alloc | apply Kd.R_drewN | apply Kd.R_drew)); exact HO497.out) hb); have n5_ := Aside0.mk (Kd.R_below (by (with_reducible repeat (first | apply Kd.R_alloc | apply Kd.R_drewN | apply Kd.R_drew)); exact HO500.out) hb); have n6_ := Aside0.mk (Kd.R_below (by (with_reducible repeat (first | apply Kd.R_alloc | apply Kd.R_drewN | apply Kd.R_drew)); exact HO503.out) hb); have n7_ := Aside0.mk (Kd.R_below (by (with_reducible repeat (first | apply Kd.R_alloc | apply Kd.R_drewN | apply Kd.R_drew)); exact HO506.out) hb); have n8_ := Aside0.mk (blk_below (g := gb476) (o := .cells #[.int .i64 a0_0, .int .i64 a0_1, .slice A0_2 l0_2.length c0_2, .slice A0_3 l0_3.length c0_3, .slice A0_4 l0_4.length c0_4, .slice A0_5 l0_5.length c0_5] 61 (0, 0)) (by (with_reducible repeat (first | refine blk_drewN ?_ _ | refine blk_drew ?_ | refine blk_alloc ?_ _)); exact BK476.out) hb); have n9_ := Aside0.mk (below_step (by repeat (first | (with_reducible first | exact HB.out | apply below_alloc | apply pw_below_drewN | apply below_drew1 | refine below_set ?_ GE476.out) | exact HB.out)) hb); clear HO481; clear HO484; clear HO487; clear HO490; clear HO497; clear HO500; clear HO503; clear HO506; clear BK476; clear HB; have HO481 := n0_; have HO484 := n1_; have HO487 := n2_; have HO490 := n3_; have HO497 := n4_; have HO500 := n5_; have HO503 := n6_; have HO506 := n7_; have BK476 := n8_; have HB := n9_; clear n0_ n1_ n2_ n3_ n4_ n5_ n6_ n7_ n8_ n9_; (try clear hb); (try clear hb2); (try clear hk); (try clear hi)))
  (try simp only [Act.put, List.setIfInBounds_toArray, List.set_cons_zero, List.set_cons_succ])
  go_cut [47] (fun v47 wc => ∃ (kq : Nat) (x47_8 : Bool), v47 = .bool x47_8 ∧ Aside0 (cantinglaw07_WaxModular.j0 kq a1 l2 l3 t491 t492 t507 t508 x47_8 a0_0 a0_1 l0_2 l0_3 l0_4 l0_5 = some r) ∧ Aside0 (kq ≤ k) ∧ Aside0 (wc.heap[gb476]? = some (.cells #[.int .i64 a0_0, .int .i64 a0_1, (.slice A0_2 l0_2.length c0_2), (.slice A0_3 l0_3.length c0_3), (.slice A0_4 l0_4.length c0_4), (.slice A0_5 l0_5.length c0_5)] 61 (0, 0))) ∧ Aside0 (Below w.heap.size w wc))
  case first =>
    have H := HC9.out
    clear HC9
    by_cases c25 : t492 = 0
    · rw [if_pos c25] at H
      have c25b0 : (t492 == 0) = true := beq_iff_eq.mpr c25
      have c25b1 : (t492 != 0) = false := bne_eq_false_iff_eq.mpr c25
      clear c25
      (first | rw [c25b0] | (simp only [i64_w, i32_w]; rw [c25b0]) | skip)
      by_cases c26 : t508 = 0
      · rw [if_pos c26] at H
        have c26b0 : (t508 == 0) = true := beq_iff_eq.mpr c26
        have c26b1 : (t508 != 0) = false := bne_eq_false_iff_eq.mpr c26
        clear c26
        have H' := Aside0.mk H
        clear H
        go_wp2
        go_meet
        case rel => exact ⟨_, (((l2.length : Int) != (l3.length : Int))), (by first | rfl | (simp; done) | (simp [*]; done)), H', ⟨by first | omega | exact Nat.le_refl _⟩, ⟨by (with_reducible repeat (first | refine blk_drewN ?_ _ | refine blk_drew ?_ | refine blk_alloc ?_ _)); exact BK476.out⟩, ⟨by repeat (first | (with_reducible first | exact HB.out | apply below_alloc | apply pw_below_drewN | apply below_drew1 | refine below_set ?_ GE476.out) | exact HB.out)⟩⟩
      · rw [if_neg c26] at H
        have c26b0 : (t508 == 0) = false := beq_eq_false_iff_ne.mpr c26
        have c26b1 : (t508 != 0) = true := bne_iff_ne.mpr c26
        have H' := Aside0.mk H
        clear H
        go_wp2
        go_meet
        case rel => exact ⟨_, (true), (by first | rfl | (simp; done) | (simp [*]; done)), H', ⟨by first | omega | exact Nat.le_refl _⟩, ⟨by (with_reducible repeat (first | refine blk_drewN ?_ _ | refine blk_drew ?_ | refine blk_alloc ?_ _)); exact BK476.out⟩, ⟨by repeat (first | (with_reducible first | exact HB.out | apply below_alloc | apply pw_below_drewN | apply below_drew1 | refine below_set ?_ GE476.out) | exact HB.out)⟩⟩
    · rw [if_neg c25] at H
      have c25b0 : (t492 == 0) = false := beq_eq_false_iff_ne.mpr c25
      have c25b1 : (t492 != 0) = true := bne_iff_ne.mpr c25
      (first | rw [c25b0] | (simp only [i64_w, i32_w]; rw [c25b0]) | skip)
      have H' := Aside0.mk H
      clear H
      go_wp2
      go_meet
      case rel => exact ⟨_, (true), (by first | rfl | (simp; done) | (simp [*]; done)), H', ⟨by first | omega | exact Nat.le_refl _⟩, ⟨by (with_reducible repeat (first | refine blk_drewN ?_ _ | refine blk_drew ?_ | refine blk_alloc ?_ _)); exact BK476.out⟩, ⟨by repeat (first | (with_reducible first | exact HB.out | apply below_alloc | apply pw_below_drewN | apply below_drew1 | refine below_set ?_ GE476.out) | exact HB.out)⟩⟩
  case rest =>
    clear HC9
    try clear c2
    try clear p2
    try clear c3
    try clear c9
    try clear c25
    try clear c25b0
    try clear c25b1
    try clear c26
    try clear c26b0
    try clear c26b1
    try clear hcz11_0
    try clear hcz11_1
    try clear hcz11_2
    try clear hcz11_3
    try clear hcz11_4
    try clear hcz11_5
    try clear hcz18_0
    try clear hcz18_1
    try clear hcz18_2
    try clear hcz18_3
    try clear hcz18_4
    try clear hcz18_5
    try clear hfz11_0
    try clear hfz11_1
    try clear hfz11_2
    try clear hfz11_3
    try clear hfz11_4
    try clear hfz11_5
    try clear hfz18_0
    try clear hfz18_1
    try clear hfz18_2
    try clear hfz18_3
    try clear hfz18_4
    try clear hfz18_5
    obtain ⟨kq, x47_8, rfl, HA, HJ8, BK476, HB⟩ := hcut
    cases kq with
    | zero => exact absurd HA.out (by simp [cantinglaw07_WaxModular.j0])
    | succ kj8 =>
      have H := HA.out
      clear HA
      simp only [cantinglaw07_WaxModular.j0] at H
      by_cases c27 : x47_8 = true
      · subst c27
        have H1 : (if t492 = 0 then (if t508 = 0 then (some false) else ((cantinglaw07_awake.f).bind fun t509 => (some t509))) else ((cantinglaw07_awake.f).bind fun t510 => (some t510))) = some r := by rw [if_pos rfl] at H; exact H
        clear H
        have H := H1
        clear H1
        by_cases c28 : t492 = 0
        · rw [if_pos c28] at H
          have c28b0 : (t492 == 0) = true := beq_iff_eq.mpr c28
          have c28b1 : (t492 != 0) = false := bne_eq_false_iff_eq.mpr c28
          clear c28
          by_cases c29 : t508 = 0
          · rw [if_pos c29] at H
            have c29b0 : (t508 == 0) = true := beq_iff_eq.mpr c29
            have c29b1 : (t508 != 0) = false := bne_eq_false_iff_eq.mpr c29
            clear c29
            obtain rfl := Option.some.inj H
            go_wp2
            go_ret
            exact ⟨by first | rfl | (simp [errW_none, errW_some] <;> rfl) | (simp [*, errW_none, errW_some] <;> rfl), by repeat (first | (with_reducible first | exact HB.out | apply below_alloc | apply pw_below_drewN | apply below_drew1 | refine below_set ?_ GE476.out) | exact HB.out)⟩
          · rw [if_neg c29] at H
            have c29b0 : (t508 == 0) = false := beq_eq_false_iff_ne.mpr c29
            have c29b1 : (t508 != 0) = true := bne_iff_ne.mpr c29
            replace H := Option.bind_eq_some_iff.mp H
            obtain ⟨t509, A300, H⟩ := H
            replace H : (some t509) = some r := H
            have A30 := Aside0.mk A300
            clear A300
            obtain rfl := Option.some.inj H
            go_wp2_with (first | (go_at_call 18; (with_reducible refine (cantinglaw07_awake.calls  t509 _ A30.out).mono ?_); rintro e w31 ⟨rfl, hb⟩; have n0_ := Aside0.mk (blk_below (g := gb476) (o := .cells #[.int .i64 a0_0, .int .i64 a0_1, .slice A0_2 l0_2.length c0_2, .slice A0_3 l0_3.length c0_3, .slice A0_4 l0_4.length c0_4, .slice A0_5 l0_5.length c0_5] 61 (0, 0)) (by (with_reducible repeat (first | refine blk_drewN ?_ _ | refine blk_drew ?_ | refine blk_alloc ?_ _)); exact BK476.out) hb); have n1_ := Aside0.mk (below_step (by repeat (first | (with_reducible first | exact HB.out | apply below_alloc | apply pw_below_drewN | apply below_drew1 | refine below_set ?_ GE476.out) | exact HB.out)) hb); clear BK476; clear HB; have BK476 := n0_; have HB := n1_; clear n0_ n1_; (try clear hb); (try clear hb2); (try clear hk); (try clear hi)))
            go_ret
            exact ⟨by first | rfl | (simp [errW_none, errW_some] <;> rfl) | (simp [*, errW_none, errW_some] <;> rfl), by repeat (first | (with_reducible first | exact HB.out | apply below_alloc | apply pw_below_drewN | apply below_drew1 | refine below_set ?_ GE476.out) | exact HB.out)⟩
        · rw [if_neg c28] at H
          have c28b0 : (t492 == 0) = false := beq_eq_false_iff_ne.mpr c28
          have c28b1 : (t492 != 0) = true := bne_iff_ne.mpr c28
          replace H := Option.bind_eq_some_iff.mp H
          obtain ⟨t510, A320, H⟩ := H
          replace H : (some t510) = some r := H
          have A32 := Aside0.mk A320
          clear A320
          obtain rfl := Option.some.inj H
          go_wp2_with (first | (go_at_call 18; (with_reducible refine (cantinglaw07_awake.calls  t510 _ A32.out).mono ?_); rintro e w33 ⟨rfl, hb⟩; have n0_ := Aside0.mk (blk_below (g := gb476) (o := .cells #[.int .i64 a0_0, .int .i64 a0_1, .slice A0_2 l0_2.length c0_2, .slice A0_3 l0_3.length c0_3, .slice A0_4 l0_4.length c0_4, .slice A0_5 l0_5.length c0_5] 61 (0, 0)) (by (with_reducible repeat (first | refine blk_drewN ?_ _ | refine blk_drew ?_ | refine blk_alloc ?_ _)); exact BK476.out) hb); have n1_ := Aside0.mk (below_step (by repeat (first | (with_reducible first | exact HB.out | apply below_alloc | apply pw_below_drewN | apply below_drew1 | refine below_set ?_ GE476.out) | exact HB.out)) hb); clear BK476; clear HB; have BK476 := n0_; have HB := n1_; clear n0_ n1_; (try clear hb); (try clear hb2); (try clear hk); (try clear hi)))
          go_ret
          exact ⟨by first | rfl | (simp [errW_none, errW_some] <;> rfl) | (simp [*, errW_none, errW_some] <;> rfl), by repeat (first | (with_reducible first | exact HB.out | apply below_alloc | apply pw_below_drewN | apply below_drew1 | refine below_set ?_ GE476.out) | exact HB.out)⟩
      · replace c27 := Bool.eq_false_iff.mpr c27
        subst c27
        have H1 : (cantinglaw07_WaxModular.l0 kj8 a1 l3 t491 t507 ([] : List Bool) ([] : List Bool) l2 (l2.length : Int) 0 a0_0 a0_1 l0_2 l0_3 l0_4 l0_5) = some r := by rw [if_neg (show ¬ (false = true) by decide)] at H; exact H
        clear H
        have H := H1
        clear H1
        have H' := Aside0.mk H
        clear H
        go_wp2
        go_loopg [13, 14, 59] kj8 (fun kq v13 v14 v59 w' => ∃ (x13_2 : List Bool) (x14_2 : List Bool) (x59_2 : Int), v59 = .int .i64 x59_2 ∧ Aside0 (cantinglaw07_WaxModular.l0 kq a1 l3 t491 t507 x13_2 x14_2 l2 (l2.length : Int) x59_2 a0_0 a0_1 l0_2 l0_3 l0_4 l0_5 = some r) ∧ Aside0 (kq ≤ kj8) ∧ Aside0 (Kd.R Kd.bool 4 w' w.heap.size (fun k_ => some k_ ≠ (v14 : Value).ownBlock) v13 x13_2) ∧ Aside0 (Kd.R Kd.bool 4 w' w.heap.size (fun k_ => some k_ ≠ (v13 : Value).ownBlock) v14 x14_2) ∧ Aside0 (w'.heap[gb476]? = some (.cells #[.int .i64 a0_0, .int .i64 a0_1, (.slice A0_2 l0_2.length c0_2), (.slice A0_3 l0_3.length c0_3), (.slice A0_4 l0_4.length c0_4), (.slice A0_5 l0_5.length c0_5)] 61 (0, 0))) ∧ Aside0 (Below w.heap.size w w'))
        case atStart => exact ⟨(([] : List Bool)), (([] : List Bool)), (0), (by first | rfl | (simp; done) | (simp [*]; done)), H', ⟨Nat.le_refl _⟩, ⟨by first | exact Kd.R_nil _ _ _ _ _ | exact Kd.N_nil _ _ _ _ _ | exact Kd.V_nil _ _ _ _ _ | exact Kd.Q_nil _ _ _ _ _ | exact Kd.S_nil _ _ _ _ _⟩, ⟨by first | exact Kd.R_nil _ _ _ _ _ | exact Kd.N_nil _ _ _ _ _ | exact Kd.V_nil _ _ _ _ _ | exact Kd.Q_nil _ _ _ _ _ | exact Kd.S_nil _ _ _ _ _⟩, ⟨by (with_reducible repeat (first | refine blk_drewN ?_ _ | refine blk_drew ?_ | refine blk_alloc ?_ _)); exact BK476.out⟩, ⟨by repeat (first | (with_reducible first | exact HB.out | apply below_alloc | apply pw_below_drewN | apply below_drew1 | refine below_set ?_ GE476.out) | exact HB.out)⟩⟩
        case round =>
          clear H'
          try clear c2
          try clear p2
          try clear c3
          try clear c9
          try clear c25
          try clear c25b0
          try clear c25b1
          try clear c26
          try clear c26b0
          try clear c26b1
          try clear c27
          try clear c28
          try clear c28b0
          try clear c28b1
          try clear c29
          try clear c29b0
          try clear c29b1
          try clear c31
          try clear c32
          try clear hcz11_0
          try clear hcz11_1
          try clear hcz11_2
          try clear hcz11_3
          try clear hcz11_4
          try clear hcz11_5
          try clear hcz18_0
          try clear hcz18_1
          try clear hcz18_2
          try clear hcz18_3
          try clear hcz18_4
          try clear hcz18_5
          try clear hfz11_0
          try clear hfz11_1
          try clear hfz11_2
          try clear hfz11_3
          try clear hfz11_4
          try clear hfz11_5
          try clear hfz18_0
          try clear hfz18_1
          try clear hfz18_2
          try clear hfz18_3
          try clear hfz18_4
          try clear hfz18_5
          try clear p2
          obtain ⟨x13_2, x14_2, x59_2, rfl, HA, HK2, HO_13, HO_14, BK476, HB⟩ := hrel
          cases gk with
          | zero => exact absurd HA.out (by simp [cantinglaw07_WaxModular.l0])
          | succ k2 =>
            have H := HA.out
            clear HA
            simp only [cantinglaw07_WaxModular.l0] at H
            by_cases c34 : x59_2 < (l2.length : Int)
            · rw [if_pos c34] at H
              have c34b0 : decide (x59_2 < (l2.length : Int)) = true := decide_eq_true c34
              clear c34
              by_cases c35 : 0 ≤ x59_2
              · rw [if_pos c35] at H
                have c35b0 : decide (0 ≤ x59_2) = true := decide_eq_true c35
                clear c35
                by_cases c36 : x59_2 < (l2.length : Int)
                · rw [if_pos c36] at H
                  have c36b0 : decide (x59_2 < (l2.length : Int)) = true := decide_eq_true c36
                  clear c36
                  obtain ⟨bq37, hbq37⟩ : ∃ b_ : Bool, b_ = (rdOf false l2 x59_2) := ⟨_, rfl⟩
                  replace H : (if bq37 = true then (if x59_2 < (l3.length : Int) then (if x13_2.length < 140737488355328 then (if x14_2.length < 140737488355328 then (cantinglaw07_WaxModular.l0 k2 a1 l3 t491 t507 (x13_2 ++ [rdOf false l3 x59_2]) (x14_2 ++ [true]) l2 (l2.length : Int) (wrap64 (x59_2 + 1)) a0_0 a0_1 l0_2 l0_3 l0_4 l0_5) else (none)) else (none)) else (none)) else (if x13_2.length < 140737488355328 then (if x59_2 < (l3.length : Int) then (if x14_2.length < 140737488355328 then (cantinglaw07_WaxModular.l0 k2 a1 l3 t491 t507 (x13_2 ++ [false]) (x14_2 ++ [rdOf false l3 x59_2]) l2 (l2.length : Int) (wrap64 (x59_2 + 1)) a0_0 a0_1 l0_2 l0_3 l0_4 l0_5) else (none)) else (none)) else (none))) = some r := by rw [← hbq37] at H; exact H
                  have Nbq37 := Aside0.mk hbq37
                  clear hbq37
                  by_cases c38 : bq37 = true
                  · subst c38
                    have H1 : (if x59_2 < (l3.length : Int) then (if x13_2.length < 140737488355328 then (if x14_2.length < 140737488355328 then (cantinglaw07_WaxModular.l0 k2 a1 l3 t491 t507 (x13_2 ++ [rdOf false l3 x59_2]) (x14_2 ++ [true]) l2 (l2.length : Int) (wrap64 (x59_2 + 1)) a0_0 a0_1 l0_2 l0_3 l0_4 l0_5) else (none)) else (none)) else (none)) = some r := by rw [if_pos rfl] at H; exact H
                    clear H
                    have H := H1
                    clear H1
                    by_cases c39 : x59_2 < (l3.length : Int)
                    · rw [if_pos c39] at H
                      have c39b0 : decide (x59_2 < (l3.length : Int)) = true := decide_eq_true c39
                      clear c39
                      by_cases c40 : x13_2.length < 140737488355328
                      · rw [if_pos c40] at H
                        have LMc40 := Aside0.mk c40
                        clear c40
                        obtain ⟨y513, hy513⟩ : ∃ y_ : List Bool, y_ = (x13_2 ++ [rdOf false l3 x59_2]) := ⟨_, rfl⟩
                        replace H : (if x14_2.length < 140737488355328 then (cantinglaw07_WaxModular.l0 k2 a1 l3 t491 t507 y513 (x14_2 ++ [true]) l2 (l2.length : Int) (wrap64 (x59_2 + 1)) a0_0 a0_1 l0_2 l0_3 l0_4 l0_5) else (none)) = some r := by first | (rw [hy513]; with_reducible exact H) | (have H2_ := (Option.bind_some _ _).symm.trans H; rw [hy513]; with_reducible exact H2_) | (have H2_ := (Option.bind_some _ _).symm.trans H; with_reducible exact H2_) | with_reducible exact H | (rw [hy513]; exact H) | exact H
                        have Ny513 := Aside0.mk hy513
                        clear hy513
                        by_cases c41 : x14_2.length < 140737488355328
                        · rw [if_pos c41] at H
                          have LMc41 := Aside0.mk c41
                          clear c41
                          obtain ⟨y516, hy516⟩ : ∃ y_ : List Bool, y_ = (x14_2 ++ [true]) := ⟨_, rfl⟩
                          replace H : (cantinglaw07_WaxModular.l0 k2 a1 l3 t491 t507 y513 y516 l2 (l2.length : Int) (wrap64 (x59_2 + 1)) a0_0 a0_1 l0_2 l0_3 l0_4 l0_5) = some r := by first | (rw [hy516]; with_reducible exact H) | (have H2_ := (Option.bind_some _ _).symm.trans H; rw [hy516]; with_reducible exact H2_) | (have H2_ := (Option.bind_some _ _).symm.trans H; with_reducible exact H2_) | with_reducible exact H | (rw [hy516]; exact H) | exact H
                          have Ny516 := Aside0.mk hy516
                          clear hy516
                          have H' := Aside0.mk H
                          clear H
                          have p511 : 0 ≤ (x59_2 : Int) := of_decide_eq_true (by first | (with_reducible assumption) | assumption)
                          have q511 : x59_2 < (l2.length : Int) := of_decide_eq_true (by first | (with_reducible assumption) | assumption)
                          obtain ⟨ad511, e511, hx511_0⟩ := Kd.at_bool HR2.out x59_2 p511 q511
                          (try rw [← Nbq37.out] at hx511_0)
                          (try rw [← Nbq37.out] at hw511_0)
                          cases e511
                          replace hx511_0 := (HB.out.cell (World.block_lt_of_cell? w _ hx511_0)).trans hx511_0
                          replace p511 := eq_true p511
                          replace q511 := eq_true q511
                          have p512 : 0 ≤ (x59_2 : Int) := of_decide_eq_true (by first | (with_reducible assumption) | assumption)
                          have q512 : x59_2 < (l3.length : Int) := of_decide_eq_true (by first | (with_reducible assumption) | assumption)
                          obtain ⟨ad512, e512, hx512_0⟩ := Kd.at_bool HR3.out x59_2 p512 q512
                          (try rw [← Nbq37.out] at hx512_0)
                          (try rw [← Nbq37.out] at hw512_0)
                          cases e512
                          replace hx512_0 := (HB.out.cell (World.block_lt_of_cell? w _ hx512_0)).trans hx512_0
                          replace p512 := eq_true p512
                          replace q512 := eq_true q512
                          go_wp2_with (first | ((with_reducible refine gate_builtin (b := .append) (xs := #[.tmp 64, .tmp 72]) rfl ?_); (try (refine gate_guard (by rfl) ?_; dsimp only)); at_builtin; refine Kd.R_append Kd.bool (w0 := w) w.heap.size rfl (.tmp 64) (.tmp 72) 45 4 (.bool false) 1 rfl Try.underlying45 info4 rfl (by decide) (by omega) u13 x13_2 (rdOf false l3 x59_2) [.bool (rdOf false l3 x59_2)] (fun k_ => some k_ ≠ (u14 : Value).ownBlock) (fun _ => False) rfl rfl ?aP (fun _ hk => hk.elim) ?aF ?aO ?aB ?aS ?aL ?_; (case aP => exact rfl); (case aB => exact (by repeat (first | (with_reducible first | exact HB.out | apply below_alloc | apply pw_below_drewN | apply below_drew1 | refine below_set ?_ GE476.out) | exact HB.out))); (case aF => exact (fun k_ hk => Kd.fresh' (Kd.R_lt (by (with_reducible repeat (first | apply Kd.R_alloc | apply Kd.R_drewN | apply Kd.R_drew)); exact HO_14.out)) k_ hk)); (case aO => exact (by (with_reducible repeat (first | apply Kd.R_alloc | apply Kd.R_drewN | apply Kd.R_drew)); exact HO_13.out)); (case aS => exact (below_size (by repeat (first | (with_reducible first | exact HB.out | apply below_alloc | apply pw_below_drewN | apply below_drew1 | refine below_set ?_ GE476.out) | exact HB.out)))); (case aL => have := LMc40.out; omega); intro v514 w42 ho hb hg hat; rw [← Ny513.out] at ho; have n0_ := Aside0.mk (Kd.R_after (ok := (fun _ => True)) (by (with_reducible repeat (first | apply Kd.R_alloc | apply Kd.R_drewN | apply Kd.R_drew)); exact Kd.R_mono HO_14.out (fun _ hk => ⟨trivial, hk⟩)) hg hat); have n1_ := Aside0.mk (blk_grown (g := gb476) (o := .cells #[.int .i64 a0_0, .int .i64 a0_1, .slice A0_2 l0_2.length c0_2, .slice A0_3 l0_3.length c0_3, .slice A0_4 l0_4.length c0_4, .slice A0_5 l0_5.length c0_5] 61 (0, 0)) (by (with_reducible repeat (first | refine blk_drewN ?_ _ | refine blk_drew ?_ | refine blk_alloc ?_ _)); exact BK476.out) hg (Kd.R_ne HO_13.out BK476.out (by decide))); have n2_ := Aside0.mk (hb); have n3_ := Aside0.mk (ho); clear HO_14; clear BK476; clear HB; clear HO_13; have HO_14 := n0_; have BK476 := n1_; have HB := n2_; have HO515 := n3_; clear n0_ n1_ n2_ n3_; clear ho hb hg hat) | ((with_reducible refine gate_builtin (b := .append) (xs := #[.tmp 74, .tmp 82]) rfl ?_); (try (refine gate_guard (by rfl) ?_; dsimp only)); at_builtin; refine Kd.R_append Kd.bool (w0 := w) w.heap.size rfl (.tmp 74) (.tmp 82) 45 4 (.bool false) 1 rfl Try.underlying45 info4 rfl (by decide) (by omega) u14 x14_2 true [.bool true] (fun k_ => some k_ ≠ (v514 : Value).ownBlock) (fun _ => False) rfl rfl ?aP (fun _ hk => hk.elim) ?aF ?aO ?aB ?aS ?aL ?_; (case aP => exact rfl); (case aB => exact (by repeat (first | (with_reducible first | exact HB.out | apply below_alloc | apply pw_below_drewN | apply below_drew1 | refine below_set ?_ GE476.out) | exact HB.out))); (case aF => exact (fun k_ hk => Kd.fresh' (Kd.R_lt (by (with_reducible repeat (first | apply Kd.R_alloc | apply Kd.R_drewN | apply Kd.R_drew)); exact HO515.out)) k_ hk)); (case aO => exact (by (with_reducible repeat (first | apply Kd.R_alloc | apply Kd.R_drewN | apply Kd.R_drew)); exact Kd.R_mono HO_14.out (fun _ hk => hk.2))); (case aS => exact (below_size (by repeat (first | (with_reducible first | exact HB.out | apply below_alloc | apply pw_below_drewN | apply below_drew1 | refine below_set ?_ GE476.out) | exact HB.out)))); (case aL => have := LMc41.out; omega); intro v517 w43 ho hb hg hat; rw [← Ny516.out] at ho; have n0_ := Aside0.mk (blk_grown (g := gb476) (o := .cells #[.int .i64 a0_0, .int .i64 a0_1, .slice A0_2 l0_2.length c0_2, .slice A0_3 l0_3.length c0_3, .slice A0_4 l0_4.length c0_4, .slice A0_5 l0_5.length c0_5] 61 (0, 0)) (by (with_reducible repeat (first | refine blk_drewN ?_ _ | refine blk_drew ?_ | refine blk_alloc ?_ _)); exact BK476.out) hg (Kd.R_ne HO_14.out BK476.out (by decide))); have n1_ := Aside0.mk (Kd.R_after (ok := (fun _ => True)) (by (with_reducible repeat (first | apply Kd.R_alloc | apply Kd.R_drewN | apply Kd.R_drew)); exact Kd.R_mono HO515.out (fun _ hk => ⟨trivial, hk⟩)) hg hat); have n2_ := Aside0.mk (hb); have n3_ := Aside0.mk (ho); clear BK476; clear HO515; clear HB; clear HO_14; have BK476 := n0_; have HO515 := n1_; have HB := n2_; have HO518 := n3_; clear n0_ n1_ n2_ n3_; clear ho hb hg hat))
                          go_roundg k2
                          case measure => have := HJ8.out; have := HK2.out; omega
                          case rel => exact ⟨(y513), (y516), (wrap64 (x59_2 + 1)), (by first | rfl | (simp; done) | (simp [*]; done)), H', ⟨by have := HJ8.out; have := HK2.out; omega⟩, ⟨by (with_reducible repeat (first | apply Kd.R_alloc | apply Kd.R_drewN | apply Kd.R_drew)); exact Kd.R_mono HO515.out (fun _ hk => hk.2)⟩, ⟨by (with_reducible repeat (first | apply Kd.R_alloc | apply Kd.R_drewN | apply Kd.R_drew)); exact HO518.out⟩, ⟨by (with_reducible repeat (first | refine blk_drewN ?_ _ | refine blk_drew ?_ | refine blk_alloc ?_ _)); exact BK476.out⟩, ⟨by repeat (first | (with_reducible first | exact HB.out | apply below_alloc | apply pw_below_drewN | apply below_drew1 | refine below_set ?_ GE476.out) | exact HB.out)⟩⟩
                        · rw [if_neg c41] at H
                          exact absurd H (by simp)
                      · rw [if_neg c40] at H
                        exact absurd H (by simp)
                    · rw [if_neg c39] at H
                      exact absurd H (by simp)
                  · replace c38 := Bool.eq_false_iff.mpr c38
                    subst c38
                    have H1 : (if x13_2.length < 140737488355328 then (if x59_2 < (l3.length : Int) then (if x14_2.length < 140737488355328 then (cantinglaw07_WaxModular.l0 k2 a1 l3 t491 t507 (x13_2 ++ [false]) (x14_2 ++ [rdOf false l3 x59_2]) l2 (l2.length : Int) (wrap64 (x59_2 + 1)) a0_0 a0_1 l0_2 l0_3 l0_4 l0_5) else (none)) else (none)) else (none)) = some r := by rw [if_neg (show ¬ (false = true) by decide)] at H; exact H
                    clear H
                    have H := H1
                    clear H1
                    by_cases c44 : x13_2.length < 140737488355328
                    · rw [if_pos c44] at H
                      have LMc44 := Aside0.mk c44
                      clear c44
                      obtain ⟨y519, hy519⟩ : ∃ y_ : List Bool, y_ = (x13_2 ++ [false]) := ⟨_, rfl⟩
                      replace H : (if x59_2 < (l3.length : Int) then (if x14_2.length < 140737488355328 then (cantinglaw07_WaxModular.l0 k2 a1 l3 t491 t507 y519 (x14_2 ++ [rdOf false l3 x59_2]) l2 (l2.length : Int) (wrap64 (x59_2 + 1)) a0_0 a0_1 l0_2 l0_3 l0_4 l0_5) else (none)) else (none)) = some r := by first | (rw [hy519]; with_reducible exact H) | (have H2_ := (Option.bind_some _ _).symm.trans H; rw [hy519]; with_reducible exact H2_) | (have H2_ := (Option.bind_some _ _).symm.trans H; with_reducible exact H2_) | with_reducible exact H | (rw [hy519]; exact H) | exact H
                      have Ny519 := Aside0.mk hy519
                      clear hy519
                      by_cases c45 : x59_2 < (l3.length : Int)
                      · rw [if_pos c45] at H
                        have c45b0 : decide (x59_2 < (l3.length : Int)) = true := decide_eq_true c45
                        clear c45
                        by_cases c46 : x14_2.length < 140737488355328
                        · rw [if_pos c46] at H
                          have LMc46 := Aside0.mk c46
                          clear c46
                          obtain ⟨y523, hy523⟩ : ∃ y_ : List Bool, y_ = (x14_2 ++ [rdOf false l3 x59_2]) := ⟨_, rfl⟩
                          replace H : (cantinglaw07_WaxModular.l0 k2 a1 l3 t491 t507 y519 y523 l2 (l2.length : Int) (wrap64 (x59_2 + 1)) a0_0 a0_1 l0_2 l0_3 l0_4 l0_5) = some r := by first | (rw [hy523]; with_reducible exact H) | (have H2_ := (Option.bind_some _ _).symm.trans H; rw [hy523]; with_reducible exact H2_) | (have H2_ := (Option.bind_some _ _).symm.trans H; with_reducible exact H2_) | with_reducible exact H | (rw [hy523]; exact H) | exact H
                          have Ny523 := Aside0.mk hy523
                          clear hy523
                          have H' := Aside0.mk H
                          clear H
                          have p511 : 0 ≤ (x59_2 : Int) := of_decide_eq_true (by first | (with_reducible assumption) | assumption)
                          have q511 : x59_2 < (l2.length : Int) := of_decide_eq_true (by first | (with_reducible assumption) | assumption)
                          obtain ⟨ad511, e511, hx511_0⟩ := Kd.at_bool HR2.out x59_2 p511 q511
                          (try rw [← Nbq37.out] at hx511_0)
                          (try rw [← Nbq37.out] at hw511_0)
                          cases e511
                          replace hx511_0 := (HB.out.cell (World.block_lt_of_cell? w _ hx511_0)).trans hx511_0
                          replace p511 := eq_true p511
                          replace q511 := eq_true q511
                          go_wp2_with (first | ((with_reducible refine gate_builtin (b := .append) (xs := #[.tmp 64, .tmp 72]) rfl ?_); (try (refine gate_guard (by rfl) ?_; dsimp only)); at_builtin; refine Kd.R_append Kd.bool (w0 := w) w.heap.size rfl (.tmp 64) (.tmp 72) 45 4 (.bool false) 1 rfl Try.underlying45 info4 rfl (by decide) (by omega) u13 x13_2 false [.bool false] (fun k_ => some k_ ≠ (u14 : Value).ownBlock) (fun _ => False) rfl rfl ?aP (fun _ hk => hk.elim) ?aF ?aO ?aB ?aS ?aL ?_; (case aP => exact rfl); (case aB => exact (by repeat (first | (with_reducible first | exact HB.out | apply below_alloc | apply pw_below_drewN | apply below_drew1 | refine below_set ?_ GE476.out) | exact HB.out))); (case aF => exact (fun k_ hk => Kd.fresh' (Kd.R_lt (by (with_reducible repeat (first | apply Kd.R_alloc | apply Kd.R_drewN | apply Kd.R_drew)); exact HO_14.out)) k_ hk)); (case aO => exact (by (with_reducible repeat (first | apply Kd.R_alloc | apply Kd.R_drewN | apply Kd.R_drew)); exact HO_13.out)); (case aS => exact (below_size (by repeat (first | (with_reducible first | exact HB.out | apply below_alloc | apply pw_below_drewN | apply below_drew1 | refine below_set ?_ GE476.out) | exact HB.out)))); (case aL => have := LMc44.out; omega); intro v520 w47 ho hb hg hat; rw [← Ny519.out] at ho; have n0_ := Aside0.mk (Kd.R_after (ok := (fun _ => True)) (by (with_reducible repeat (first | apply Kd.R_alloc | apply Kd.R_drewN | apply Kd.R_drew)); exact Kd.R_mono HO_14.out (fun _ hk => ⟨trivial, hk⟩)) hg hat); have n1_ := Aside0.mk (blk_grown (g := gb476) (o := .cells #[.int .i64 a0_0, .int .i64 a0_1, .slice A0_2 l0_2.length c0_2, .slice A0_3 l0_3.length c0_3, .slice A0_4 l0_4.length c0_4, .slice A0_5 l0_5.length c0_5] 61 (0, 0)) (by (with_reducible repeat (first | refine blk_drewN ?_ _ | refine blk_drew ?_ | refine blk_alloc ?_ _)); exact BK476.out) hg (Kd.R_ne HO_13.out BK476.out (by decide))); have n2_ := Aside0.mk (hb); have n3_ := Aside0.mk (ho); clear HO_14; clear BK476; clear HB; clear HO_13; have HO_14 := n0_; have BK476 := n1_; have HB := n2_; have HO521 := n3_; clear n0_ n1_ n2_ n3_; clear ho hb hg hat; have p522 : 0 ≤ (x59_2 : Int) := of_decide_eq_true (by first | (with_reducible assumption) | assumption); have q522 : x59_2 < (l3.length : Int) := of_decide_eq_true (by first | (with_reducible assumption) | assumption); obtain ⟨ad522, e522, hx522_0⟩ := Kd.at_bool HR3.out x59_2 p522 q522; (try rw [← Nbq37.out] at hx522_0); cases e522; replace hx522_0 := (HB.out.cell (World.block_lt_of_cell? w _ hx522_0)).trans hx522_0; replace p522 := eq_true p522; replace q522 := eq_true q522) | ((with_reducible refine gate_builtin (b := .append) (xs := #[.tmp 74, .tmp 82]) rfl ?_); (try (refine gate_guard (by rfl) ?_; dsimp only)); at_builtin; refine Kd.R_append Kd.bool (w0 := w) w.heap.size rfl (.tmp 74) (.tmp 82) 45 4 (.bool false) 1 rfl Try.underlying45 info4 rfl (by decide) (by omega) u14 x14_2 (rdOf false l3 x59_2) [.bool (rdOf false l3 x59_2)] (fun k_ => some k_ ≠ (v520 : Value).ownBlock) (fun _ => False) rfl rfl ?aP (fun _ hk => hk.elim) ?aF ?aO ?aB ?aS ?aL ?_; (case aP => exact rfl); (case aB => exact (by repeat (first | (with_reducible first | exact HB.out | apply below_alloc | apply pw_below_drewN | apply below_drew1 | refine below_set ?_ GE476.out) | exact HB.out))); (case aF => exact (fun k_ hk => Kd.fresh' (Kd.R_lt (by (with_reducible repeat (first | apply Kd.R_alloc | apply Kd.R_drewN | apply Kd.R_drew)); exact HO521.out)) k_ hk)); (case aO => exact (by (with_reducible repeat (first | apply Kd.R_alloc | apply Kd.R_drewN | apply Kd.R_drew)); exact Kd.R_mono HO_14.out (fun _ hk => hk.2))); (case aS => exact (below_size (by repeat (first | (with_reducible first | exact HB.out | apply below_alloc | apply pw_below_drewN | apply below_drew1 | refine below_set ?_ GE476.out) | exact HB.out)))); (case aL => have := LMc46.out; omega); intro v524 w48 ho hb hg hat; rw [← Ny523.out] at ho; have n0_ := Aside0.mk (blk_grown (g := gb476) (o := .cells #[.int .i64 a0_0, .int .i64 a0_1, .slice A0_2 l0_2.length c0_2, .slice A0_3 l0_3.length c0_3, .slice A0_4 l0_4.length c0_4, .slice A0_5 l0_5.length c0_5] 61 (0, 0)) (by (with_reducible repeat (first | refine blk_drewN ?_ _ | refine blk_drew ?_ | refine blk_alloc ?_ _)); exact BK476.out) hg (Kd.R_ne HO_14.out BK476.out (by decide))); have n1_ := Aside0.mk (Kd.R_after (ok := (fun _ => True)) (by (with_reducible repeat (first | apply Kd.R_alloc | apply Kd.R_drewN | apply Kd.R_drew)); exact Kd.R_mono HO521.out (fun _ hk => ⟨trivial, hk⟩)) hg hat); have n2_ := Aside0.mk (hb); have n3_ := Aside0.mk (ho); clear BK476; clear HO521; clear HB; clear HO_14; have BK476 := n0_; have HO521 := n1_; have HB := n2_; have HO525 := n3_; clear n0_ n1_ n2_ n3_; clear ho hb hg hat))
                          go_roundg k2
                          case measure => have := HJ8.out; have := HK2.out; omega
                          case rel => exact ⟨(y519), (y523), (wrap64 (x59_2 + 1)), (by first | rfl | (simp; done) | (simp [*]; done)), H', ⟨by have := HJ8.out; have := HK2.out; omega⟩, ⟨by (with_reducible repeat (first | apply Kd.R_alloc | apply Kd.R_drewN | apply Kd.R_drew)); exact Kd.R_mono HO521.out (fun _ hk => hk.2)⟩, ⟨by (with_reducible repeat (first | apply Kd.R_alloc | apply Kd.R_drewN | apply Kd.R_drew)); exact HO525.out⟩, ⟨by (with_reducible repeat (first | refine blk_drewN ?_ _ | refine blk_drew ?_ | refine blk_alloc ?_ _)); exact BK476.out⟩, ⟨by repeat (first | (with_reducible first | exact HB.out | apply below_alloc | apply pw_below_drewN | apply below_drew1 | refine below_set ?_ GE476.out) | exact HB.out)⟩⟩
                        · rw [if_neg c46] at H
                          exact absurd H (by simp)
                      · rw [if_neg c45] at H
                        exact absurd H (by simp)
                    · rw [if_neg c44] at H
                      exact absurd H (by simp)
                · rw [if_neg c36] at H
                  exact absurd H (by simp)
              · rw [if_neg c35] at H
                exact absurd H (by simp)
            · rw [if_neg c34] at H
              have c34b0 : decide (x59_2 < (l2.length : Int)) = false := decide_eq_false c34
              clear c34
              replace H := Option.bind_eq_some_iff.mp H
              obtain ⟨⟨t526, t527, t528, t531, t534, t537⟩, A490, H⟩ := H
              replace H : ((wax_Energy.f k2 t526 t527 t528 t531 t534 t537 a1 x13_2).bind fun bt540 => ((cantinglaw07_cloth.f a0_0 a0_1 l0_2 l0_3 l0_4 l0_5).bind fun bt542 => ((wax_Energy.f k2 bt542.1 bt542.2.1 bt542.2.2.1 bt542.2.2.2.1 bt542.2.2.2.2.1 bt542.2.2.2.2.2 a1 x14_2).bind fun bt556 => (if bt540.2 = 0 then (if bt556.2 = 0 then (if (wrap64 (bt540.1 + bt556.1)) ≤ (wrap64 (t491 + t507)) then ((cantinglaw07_awake.f).bind fun t558 => (some t558)) else (some false)) else (some false)) else (some false))))) = some r := H
              have A49 := Aside0.mk A490
              clear A490
              replace H := Option.bind_eq_some_iff.mp H
              obtain ⟨⟨t540, t541⟩, A500, H⟩ := H
              replace H : ((cantinglaw07_cloth.f a0_0 a0_1 l0_2 l0_3 l0_4 l0_5).bind fun bt542 => ((wax_Energy.f k2 bt542.1 bt542.2.1 bt542.2.2.1 bt542.2.2.2.1 bt542.2.2.2.2.1 bt542.2.2.2.2.2 a1 x14_2).bind fun bt556 => (if t541 = 0 then (if bt556.2 = 0 then (if (wrap64 (t540 + bt556.1)) ≤ (wrap64 (t491 + t507)) then ((cantinglaw07_awake.f).bind fun t558 => (some t558)) else (some false)) else (some false)) else (some false)))) = some r := H
              have A50 := Aside0.mk A500
              clear A500
              replace H := Option.bind_eq_some_iff.mp H
              obtain ⟨⟨t542, t543, t544, t547, t550, t553⟩, A510, H⟩ := H
              replace H : ((wax_Energy.f k2 t542 t543 t544 t547 t550 t553 a1 x14_2).bind fun bt556 => (if t541 = 0 then (if bt556.2 = 0 then (if (wrap64 (t540 + bt556.1)) ≤ (wrap64 (t491 + t507)) then ((cantinglaw07_awake.f).bind fun t558 => (some t558)) else (some false)) else (some false)) else (some false))) = some r := H
              have A51 := Aside0.mk A510
              clear A510
              replace H := Option.bind_eq_some_iff.mp H
              obtain ⟨⟨t556, t557⟩, A520, H⟩ := H
              replace H : (if t541 = 0 then (if t557 = 0 then (if (wrap64 (t540 + t556)) ≤ (wrap64 (t491 + t507)) then ((cantinglaw07_awake.f).bind fun t558 => (some t558)) else (some false)) else (some false)) else (some false)) = some r := H
              have A52 := Aside0.mk A520
              clear A520
              by_cases c53 : t541 = 0
              · rw [if_pos c53] at H
                have c53b0 : (t541 == 0) = true := beq_iff_eq.mpr c53
                have c53b1 : (t541 != 0) = false := bne_eq_false_iff_eq.mpr c53
                clear c53
                by_cases c54 : t557 = 0
                · rw [if_pos c54] at H
                  have c54b0 : (t557 == 0) = true := beq_iff_eq.mpr c54
                  have c54b1 : (t557 != 0) = false := bne_eq_false_iff_eq.mpr c54
                  clear c54
                  by_cases c55 : (wrap64 (t540 + t556)) ≤ (wrap64 (t491 + t507))
                  · rw [if_pos c55] at H
                    have c55b0 : decide ((wrap64 (t540 + t556)) ≤ (wrap64 (t491 + t507))) = true := decide_eq_true c55
                    clear c55
                    replace H := Option.bind_eq_some_iff.mp H
                    obtain ⟨t558, A560, H⟩ := H
                    replace H : (some t558) = some r := H
                    have A56 := Aside0.mk A560
                    clear A560
                    obtain rfl := Option.some.inj H
                    have hcz57_0 : wr.cell? ⟨gb476, 0, none⟩ = some (.int .i64 a0_0) := (blk_cell BK476.out 0).trans rfl
                    have hcz57_1 : wr.cell? ⟨gb476, 1, none⟩ = some (.int .i64 a0_1) := (blk_cell BK476.out 1).trans rfl
                    have hcz57_2 : wr.cell? ⟨gb476, 2, none⟩ = some (.slice A0_2 l0_2.length c0_2) := (blk_cell BK476.out 2).trans rfl
                    have hcz57_3 : wr.cell? ⟨gb476, 3, none⟩ = some (.slice A0_3 l0_3.length c0_3) := (blk_cell BK476.out 3).trans rfl
                    have hcz57_4 : wr.cell? ⟨gb476, 4, none⟩ = some (.slice A0_4 l0_4.length c0_4) := (blk_cell BK476.out 4).trans rfl
                    have hcz57_5 : wr.cell? ⟨gb476, 5, none⟩ = some (.slice A0_5 l0_5.length c0_5) := (blk_cell BK476.out 5).trans rfl
                    have hfz57_0 := blk_frozen BK476.out 0
                    have hfz57_1 := blk_frozen BK476.out 1
                    have hfz57_2 := blk_frozen BK476.out 2
                    have hfz57_3 := blk_frozen BK476.out 3
                    have hfz57_4 := blk_frozen BK476.out 4
                    have hfz57_5 := blk_frozen BK476.out 5
                    go_wp2_with (first | ((with_reducible refine gate_callee (f := 32) rfl ?_); refine goesL_ (some 87) rfl rfl Try.func32 (by kernel_rfl) rfl #[.agg #[.int .i64 a0_0, .int .i64 a0_1, .slice A0_2 l0_2.length c0_2, .slice A0_3 l0_3.length c0_3, .slice A0_4 l0_4.length c0_4, .slice A0_5 l0_5.length c0_5]] rfl (by (try simp only [List.map_toArray, List.map_cons, List.map_nil]); first | done | rfl | (simp only [List.length_drop, List.length_take]; rfl)) ?_; (with_reducible refine (cantinglaw07_cloth.calls a0_0 a0_1 _ _ l0_2 _ _ l0_3 _ _ l0_4 _ _ l0_5 t526 t527 t528 t531 t534 t537 _ ?side1 ?side2 ?side3 ?side4 ?side5 ?side6 ?side7 ?side8 A49.out).mono ?_); (case side1 => repeat (first | exact (Kd.C_below HR0_2.out HB.out) | (with_reducible refine Kd.C_alloc ?_ _) | (with_reducible refine Kd.C_drewN ?_ _) | (with_reducible refine Kd.C_drew ?_))); (case side2 => exact HC0_2.out); (case side3 => repeat (first | exact (Kd.C_below HR0_3.out HB.out) | (with_reducible refine Kd.C_alloc ?_ _) | (with_reducible refine Kd.C_drewN ?_ _) | (with_reducible refine Kd.C_drew ?_))); (case side4 => exact HC0_3.out); (case side5 => repeat (first | exact (Kd.C_below HR0_4.out HB.out) | (with_reducible refine Kd.C_alloc ?_ _) | (with_reducible refine Kd.C_drewN ?_ _) | (with_reducible refine Kd.C_drew ?_))); (case side6 => exact HC0_4.out); (case side7 => repeat (first | exact (Kd.C_below HR0_5.out HB.out) | (with_reducible refine Kd.C_alloc ?_ _) | (with_reducible refine Kd.C_drewN ?_ _) | (with_reducible refine Kd.C_drew ?_))); (case side8 => exact HC0_5.out); rintro e w58 ⟨v529, v532, v535, v538, rfl, ho0, ho1, ho2, ho3, hb⟩; refine ⟨_, rfl, ?_⟩; have n0_ := Aside0.mk (Kd.R_below (by (with_reducible repeat (first | apply Kd.R_alloc | apply Kd.R_drewN | apply Kd.R_drew)); exact HO_13.out) hb); have n1_ := Aside0.mk (Kd.R_below (by (with_reducible repeat (first | apply Kd.R_alloc | apply Kd.R_drewN | apply Kd.R_drew)); exact HO_14.out) hb); have n2_ := Aside0.mk (Kd.R_lower ho0 (below_size (by repeat (first | (with_reducible first | exact HB.out | apply below_alloc | apply pw_below_drewN | apply below_drew1 | refine below_set ?_ GE476.out) | exact HB.out)))); have n3_ := Aside0.mk (Kd.R_lower ho1 (below_size (by repeat (first | (with_reducible first | exact HB.out | apply below_alloc | apply pw_below_drewN | apply below_drew1 | refine below_set ?_ GE476.out) | exact HB.out)))); have n4_ := Aside0.mk (Kd.R_lower ho2 (below_size (by repeat (first | (with_reducible first | exact HB.out | apply below_alloc | apply pw_below_drewN | apply below_drew1 | refine below_set ?_ GE476.out) | exact HB.out)))); have n5_ := Aside0.mk (Kd.R_lower ho3 (below_size (by repeat (first | (with_reducible first | exact HB.out | apply below_alloc | apply pw_below_drewN | apply below_drew1 | refine below_set ?_ GE476.out) | exact HB.out)))); have n6_ := Aside0.mk (blk_below (g := gb476) (o := .cells #[.int .i64 a0_0, .int .i64 a0_1, .slice A0_2 l0_2.length c0_2, .slice A0_3 l0_3.length c0_3, .slice A0_4 l0_4.length c0_4, .slice A0_5 l0_5.length c0_5] 61 (0, 0)) (by (with_reducible repeat (first | refine blk_drewN ?_ _ | refine blk_drew ?_ | refine blk_alloc ?_ _)); exact BK476.out) hb); have n7_ := Aside0.mk (below_step (by repeat (first | (with_reducible first | exact HB.out | apply below_alloc | apply pw_below_drewN | apply below_drew1 | refine below_set ?_ GE476.out) | exact HB.out)) hb); clear HO_13; clear HO_14; clear BK476; clear HB; have HO_13 := n0_; have HO_14 := n1_; have HO530 := n2_; have HO533 := n3_; have HO536 := n4_; have HO539 := n5_; have BK476 := n6_; have HB := n7_; clear n0_ n1_ n2_ n3_ n4_ n5_ n6_ n7_; (try clear hb); (try clear hb2); (try clear hk); (try clear hi); (try clear ho0); (try clear ho1); (try clear ho2); (try clear ho3); obtain ⟨Ao59, co59, eo59⟩ := Kd.R_slice HO530.out; subst eo59; obtain ⟨Ao60, co60, eo60⟩ := Kd.R_slice HO533.out; subst eo60; obtain ⟨Ao61, co61, eo61⟩ := Kd.R_slice HO536.out; subst eo61; obtain ⟨Ao62, co62, eo62⟩ := Kd.R_slice HO539.out; subst eo62; obtain ⟨Ao63, co63, eo63⟩ := Kd.R_slice HO_13.out; subst eo63) | ((with_reducible refine gate_callee (f := 31) rfl ?_); refine goesL_ (some 90) rfl rfl Try.func31 (by kernel_rfl) rfl #[.agg #[.int .i64 t526, .int .i64 t527, .slice Ao59 t528.length co59, .slice Ao60 t531.length co60, .slice Ao61 t534.length co61, .slice Ao62 t537.length co62], .int .i64 a1, .slice Ao63 x13_2.length co63] rfl (by (try simp only [List.map_toArray, List.map_cons, List.map_nil]); first | done | rfl | (simp only [List.length_drop, List.length_take]; rfl)) ?_; (with_reducible refine (wax_Energy.calls k2 t526 t527 _ _ t528 _ _ t531 _ _ t534 _ _ t537 a1 _ _ x13_2 t540 t541 _ ?side1 ?side2 ?side3 ?side4 ?side5 ?side6 ?side7 ?side8 ?side9 ?side10 A50.out).mono ?_); (case side1 => repeat (first | exact (Kd.R_reads' HO530.out).2.2 | (with_reducible refine Kd.C_alloc ?_ _) | (with_reducible refine Kd.C_drewN ?_ _) | (with_reducible refine Kd.C_drew ?_))); (case side2 => exact (Kd.R_reads' HO530.out).2.1); (case side3 => repeat (first | exact (Kd.R_reads' HO533.out).2.2 | (with_reducible refine Kd.C_alloc ?_ _) | (with_reducible refine Kd.C_drewN ?_ _) | (with_reducible refine Kd.C_drew ?_))); (case side4 => exact (Kd.R_reads' HO533.out).2.1); (case side5 => repeat (first | exact (Kd.R_reads' HO536.out).2.2 | (with_reducible refine Kd.C_alloc ?_ _) | (with_reducible refine Kd.C_drewN ?_ _) | (with_reducible refine Kd.C_drew ?_))); (case side6 => exact (Kd.R_reads' HO536.out).2.1); (case side7 => repeat (first | exact (Kd.R_reads' HO539.out).2.2 | (with_reducible refine Kd.C_alloc ?_ _) | (with_reducible refine Kd.C_drewN ?_ _) | (with_reducible refine Kd.C_drew ?_))); (case side8 => exact (Kd.R_reads' HO539.out).2.1); (case side9 => repeat (first | exact (Kd.R_reads' HO_13.out).2.2 | (with_reducible refine Kd.C_alloc ?_ _) | (with_reducible refine Kd.C_drewN ?_ _) | (with_reducible refine Kd.C_drew ?_))); (case side10 => exact (Kd.R_reads' HO_13.out).2.1); rintro e w64 ⟨rfl, hb⟩; refine ⟨_, rfl, ?_⟩; have n0_ := Aside0.mk (Kd.R_below (by (with_reducible repeat (first | apply Kd.R_alloc | apply Kd.R_drewN | apply Kd.R_drew)); exact HO_13.out) hb); have n1_ := Aside0.mk (Kd.R_below (by (with_reducible repeat (first | apply Kd.R_alloc | apply Kd.R_drewN | apply Kd.R_drew)); exact HO_14.out) hb); have n2_ := Aside0.mk (Kd.R_below (by (with_reducible repeat (first | apply Kd.R_alloc | apply Kd.R_drewN | apply Kd.R_drew)); exact HO530.out) hb); have n3_ := Aside0.mk (Kd.R_below (by (with_reducible repeat (first | apply Kd.R_alloc | apply Kd.R_drewN | apply Kd.R_drew)); exact HO533.out) hb); have n4_ := Aside0.mk (Kd.R_below (by (with_reducible repeat (first | apply Kd.R_alloc | apply Kd.R_drewN | apply Kd.R_drew)); exact HO536.out) hb); have n5_ := Aside0.mk (Kd.R_below (by (with_reducible repeat (first | apply Kd.R_alloc | apply Kd.R_drewN | apply Kd.R_drew)); exact HO539.out) hb); have n6_ := Aside0.mk (blk_below (g := gb476) (o := .cells #[.int .i64 a0_0, .int .i64 a0_1, .slice A0_2 l0_2.length c0_2, .slice A0_3 l0_3.length c0_3, .slice A0_4 l0_4.length c0_4, .slice A0_5 l0_5.length c0_5] 61 (0, 0)) (by (with_reducible repeat (first | refine blk_drewN ?_ _ | refine blk_drew ?_ | refine blk_alloc ?_ _)); exact BK476.out) hb); have n7_ := Aside0.mk (below_step (by repeat (first | (with_reducible first | exact HB.out | apply below_alloc | apply pw_below_drewN | apply below_drew1 | refine below_set ?_ GE476.out) | exact HB.out)) hb); clear HO_13; clear HO_14; clear HO530; clear HO533; clear HO536; clear HO539; clear BK476; clear HB; have HO_13 := n0_; have HO_14 := n1_; have HO530 := n2_; have HO533 := n3_; have HO536 := n4_; have HO539 := n5_; have BK476 := n6_; have HB := n7_; clear n0_ n1_ n2_ n3_ n4_ n5_ n6_ n7_; (try clear hb); (try clear hb2); (try clear hk); (try clear hi); have hcz65_0 : w64.cell? ⟨gb476, 0, none⟩ = some (.int .i64 a0_0) := (blk_cell BK476.out 0).trans rfl; have hcz65_1 : w64.cell? ⟨gb476, 1, none⟩ = some (.int .i64 a0_1) := (blk_cell BK476.out 1).trans rfl; have hcz65_2 : w64.cell? ⟨gb476, 2, none⟩ = some (.slice A0_2 l0_2.length c0_2) := (blk_cell BK476.out 2).trans rfl; have hcz65_3 : w64.cell? ⟨gb476, 3, none⟩ = some (.slice A0_3 l0_3.length c0_3) := (blk_cell BK476.out 3).trans rfl; have hcz65_4 : w64.cell? ⟨gb476, 4, none⟩ = some (.slice A0_4 l0_4.length c0_4) := (blk_cell BK476.out 4).trans rfl; have hcz65_5 : w64.cell? ⟨gb476, 5, none⟩ = some (.slice A0_5 l0_5.length c0_5) := (blk_cell BK476.out 5).trans rfl; have hfz65_0 := blk_frozen BK476.out 0; have hfz65_1 := blk_frozen BK476.out 1; have hfz65_2 := blk_frozen BK476.out 2; have hfz65_3 := blk_frozen BK476.out 3; have hfz65_4 := blk_frozen BK476.out 4; have hfz65_5 := blk_frozen BK476.out 5) | ((with_reducible refine gate_callee (f := 32) rfl ?_); refine goesL_ (some 95) rfl rfl Try.func32 (by kernel_rfl) rfl #[.agg #[.int .i64 a0_0, .int .i64 a0_1, .slice A0_2 l0_2.length c0_2, .slice A0_3 l0_3.length c0_3, .slice A0_4 l0_4.length c0_4, .slice A0_5 l0_5.length c0_5]] rfl (by (try simp only [List.map_toArray, List.map_cons, List.map_nil]); first | done | rfl | (simp only [List.length_drop, List.length_take]; rfl)) ?_; (with_reducible refine (cantinglaw07_cloth.calls a0_0 a0_1 _ _ l0_2 _ _ l0_3 _ _ l0_4 _ _ l0_5 t542 t543 t544 t547 t550 t553 _ ?side1 ?side2 ?side3 ?side4 ?side5 ?side6 ?side7 ?side8 A51.out).mono ?_); (case side1 => repeat (first | exact (Kd.C_below HR0_2.out HB.out) | (with_reducible refine Kd.C_alloc ?_ _) | (with_reducible refine Kd.C_drewN ?_ _) | (with_reducible refine Kd.C_drew ?_))); (case side2 => exact HC0_2.out); (case side3 => repeat (first | exact (Kd.C_below HR0_3.out HB.out) | (with_reducible refine Kd.C_alloc ?_ _) | (with_reducible refine Kd.C_drewN ?_ _) | (with_reducible refine Kd.C_drew ?_))); (case side4 => exact HC0_3.out); (case side5 => repeat (first | exact (Kd.C_below HR0_4.out HB.out) | (with_reducible refine Kd.C_alloc ?_ _) | (with_reducible refine Kd.C_drewN ?_ _) | (with_reducible refine Kd.C_drew ?_))); (case side6 => exact HC0_4.out); (case side7 => repeat (first | exact (Kd.C_below HR0_5.out HB.out) | (with_reducible refine Kd.C_alloc ?_ _) | (with_reducible refine Kd.C_drewN ?_ _) | (with_reducible refine Kd.C_drew ?_))); (case side8 => exact HC0_5.out); rintro e w66 ⟨v545, v548, v551, v554, rfl, ho0, ho1, ho2, ho3, hb⟩; refine ⟨_, rfl, ?_⟩; have n0_ := Aside0.mk (Kd.R_below (by (with_reducible repeat (first | apply Kd.R_alloc | apply Kd.R_drewN | apply Kd.R_drew)); exact HO_13.out) hb); have n1_ := Aside0.mk (Kd.R_below (by (with_reducible repeat (first | apply Kd.R_alloc | apply Kd.R_drewN | apply Kd.R_drew)); exact HO_14.out) hb); have n2_ := Aside0.mk (Kd.R_mono (Kd.R_told (Kd.R_told (Kd.R_told (Kd.R_told (Kd.R_old (by (with_reducible repeat (first | apply Kd.R_alloc | apply Kd.R_drewN | apply Kd.R_drew)); exact HO530.out) hb) (Kd.R_base ho0)) (Kd.R_base ho1)) (Kd.R_base ho2)) (Kd.R_base ho3)) (fun _ h_ => h_.1)); have n3_ := Aside0.mk (Kd.R_mono (Kd.R_told (Kd.R_told (Kd.R_told (Kd.R_told (Kd.R_old (by (with_reducible repeat (first | apply Kd.R_alloc | apply Kd.R_drewN | apply Kd.R_drew)); exact HO533.out) hb) (Kd.R_base ho0)) (Kd.R_base ho1)) (Kd.R_base ho2)) (Kd.R_base ho3)) (fun _ h_ => h_.1)); have n4_ := Aside0.mk (Kd.R_mono (Kd.R_told (Kd.R_told (Kd.R_told (Kd.R_told (Kd.R_old (by (with_reducible repeat (first | apply Kd.R_alloc | apply Kd.R_drewN | apply Kd.R_drew)); exact HO536.out) hb) (Kd.R_base ho0)) (Kd.R_base ho1)) (Kd.R_base ho2)) (Kd.R_base ho3)) (fun _ h_ => h_.1)); have n5_ := Aside0.mk (Kd.R_mono (Kd.R_told (Kd.R_told (Kd.R_told (Kd.R_told (Kd.R_old (by (with_reducible repeat (first | apply Kd.R_alloc | apply Kd.R_drewN | apply Kd.R_drew)); exact HO539.out) hb) (Kd.R_base ho0)) (Kd.R_base ho1)) (Kd.R_base ho2)) (Kd.R_base ho3)) (fun _ h_ => h_.1)); have n6_ := Aside0.mk (Kd.R_lower (Kd.R_new' (Kd.R_new' (Kd.R_new' (Kd.R_new' ho0 (Kd.R_lt (by (with_reducible repeat (first | apply Kd.R_alloc | apply Kd.R_drewN | apply Kd.R_drew)); exact HO530.out))) (Kd.R_lt (by (with_reducible repeat (first | apply Kd.R_alloc | apply Kd.R_drewN | apply Kd.R_drew)); exact HO533.out))) (Kd.R_lt (by (with_reducible repeat (first | apply Kd.R_alloc | apply Kd.R_drewN | apply Kd.R_drew)); exact HO536.out))) (Kd.R_lt (by (with_reducible repeat (first | apply Kd.R_alloc | apply Kd.R_drewN | apply Kd.R_drew)); exact HO539.out))) (below_size (by repeat (first | (with_reducible first | exact HB.out | apply below_alloc | apply pw_below_drewN | apply below_drew1 | refine below_set ?_ GE476.out) | exact HB.out)))); have n7_ := Aside0.mk (Kd.R_lower (Kd.R_new' (Kd.R_new' (Kd.R_new' (Kd.R_new' ho1 (Kd.R_lt (by (with_reducible repeat (first | apply Kd.R_alloc | apply Kd.R_drewN | apply Kd.R_drew)); exact HO530.out))) (Kd.R_lt (by (with_reducible repeat (first | apply Kd.R_alloc | apply Kd.R_drewN | apply Kd.R_drew)); exact HO533.out))) (Kd.R_lt (by (with_reducible repeat (first | apply Kd.R_alloc | apply Kd.R_drewN | apply Kd.R_drew)); exact HO536.out))) (Kd.R_lt (by (with_reducible repeat (first | apply Kd.R_alloc | apply Kd.R_drewN | apply Kd.R_drew)); exact HO539.out))) (below_size (by repeat (first | (with_reducible first | exact HB.out | apply below_alloc | apply pw_below_drewN | apply below_drew1 | refine below_set ?_ GE476.out) | exact HB.out)))); have n8_ := Aside0.mk (Kd.R_lower (Kd.R_new' (Kd.R_new' (Kd.R_new' (Kd.R_new' ho2 (Kd.R_lt (by (with_reducible repeat (first | apply Kd.R_alloc | apply Kd.R_drewN | apply Kd.R_drew)); exact HO530.out))) (Kd.R_lt (by (with_reducible repeat (first | apply Kd.R_alloc | apply Kd.R_drewN | apply Kd.R_drew)); exact HO533.out))) (Kd.R_lt (by (with_reducible repeat (first | apply Kd.R_alloc | apply Kd.R_drewN | apply Kd.R_drew)); exact HO536.out))) (Kd.R_lt (by (with_reducible repeat (first | apply Kd.R_alloc | apply Kd.R_drewN | apply Kd.R_drew)); exact HO539.out))) (below_size (by repeat (first | (with_reducible first | exact HB.out | apply below_alloc | apply pw_below_drewN | apply below_drew1 | refine below_set ?_ GE476.out) | exact HB.out)))); have n9_ := Aside0.mk (Kd.R_lower (Kd.R_new' (Kd.R_new' (Kd.R_new' (Kd.R_new' ho3 (Kd.R_lt (by (with_reducible repeat (first | apply Kd.R_alloc | apply Kd.R_drewN | apply Kd.R_drew)); exact HO530.out))) (Kd.R_lt (by (with_reducible repeat (first | apply Kd.R_alloc | apply Kd.R_drewN | apply Kd.R_drew)); exact HO533.out))) (Kd.R_lt (by (with_reducible repeat (first | apply Kd.R_alloc | apply Kd.R_drewN | apply Kd.R_drew)); exact HO536.out))) (Kd.R_lt (by (with_reducible repeat (first | apply Kd.R_alloc | apply Kd.R_drewN | apply Kd.R_drew)); exact HO539.out))) (below_size (by repeat (first | (with_reducible first | exact HB.out | apply below_alloc | apply pw_below_drewN | apply below_drew1 | refine below_set ?_ GE476.out) | exact HB.out)))); have n10_ := Aside0.mk (blk_below (g := gb476) (o := .cells #[.int .i64 a0_0, .int .i64 a0_1, .slice A0_2 l0_2.length c0_2, .slice A0_3 l0_3.length c0_3, .slice A0_4 l0_4.length c0_4, .slice A0_5 l0_5.length c0_5] 61 (0, 0)) (by (with_reducible repeat (first | refine blk_drewN ?_ _ | refine blk_drew ?_ | refine blk_alloc ?_ _)); exact BK476.out) hb); have n11_ := Aside0.mk (below_step (by repeat (first | (with_reducible first | exact HB.out | apply below_alloc | apply pw_below_drewN | apply below_drew1 | refine below_set ?_ GE476.out) | exact HB.out)) hb); clear HO_13; clear HO_14; clear HO530; clear HO533; clear HO536; clear HO539; clear BK476; clear HB; have HO_13 := n0_; have HO_14 := n1_; have HO530 := n2_; have HO533 := n3_; have HO536 := n4_; have HO539 := n5_; have HO546 := n6_; have HO549 := n7_; have HO552 := n8_; have HO555 := n9_; have BK476 := n10_; have HB := n11_; clear n0_ n1_ n2_ n3_ n4_ n5_ n6_ n7_ n8_ n9_ n10_ n11_; (try clear hb); (try clear hb2); (try clear hk); (try clear hi); (try clear ho0); (try clear ho1); (try clear ho2); (try clear ho3); obtain ⟨Ao67, co67, eo67⟩ := Kd.R_slice HO546.out; subst eo67; obtain ⟨Ao68, co68, eo68⟩ := Kd.R_slice HO549.out; subst eo68; obtain ⟨Ao69, co69, eo69⟩ := Kd.R_slice HO552.out; subst eo69; obtain ⟨Ao70, co70, eo70⟩ := Kd.R_slice HO555.out; subst eo70; obtain ⟨Ao71, co71, eo71⟩ := Kd.R_slice HO_14.out; subst eo71) | ((with_reducible refine gate_callee (f := 31) rfl ?_); refine goesL_ (some 98) rfl rfl Try.func31 (by kernel_rfl) rfl #[.agg #[.int .i64 t542, .int .i64 t543, .slice Ao67 t544.length co67, .slice Ao68 t547.length co68, .slice Ao69 t550.length co69, .slice Ao70 t553.length co70], .int .i64 a1, .slice Ao71 x14_2.length co71] rfl (by (try simp only [List.map_toArray, List.map_cons, List.map_nil]); first | done | rfl | (simp only [List.length_drop, List.length_take]; rfl)) ?_; (with_reducible refine (wax_Energy.calls k2 t542 t543 _ _ t544 _ _ t547 _ _ t550 _ _ t553 a1 _ _ x14_2 t556 t557 _ ?side1 ?side2 ?side3 ?side4 ?side5 ?side6 ?side7 ?side8 ?side9 ?side10 A52.out).mono ?_); (case side1 => repeat (first | exact (Kd.R_reads' HO546.out).2.2 | (with_reducible refine Kd.C_alloc ?_ _) | (with_reducible refine Kd.C_drewN ?_ _) | (with_reducible refine Kd.C_drew ?_))); (case side2 => exact (Kd.R_reads' HO546.out).2.1); (case side3 => repeat (first | exact (Kd.R_reads' HO549.out).2.2 | (with_reducible refine Kd.C_alloc ?_ _) | (with_reducible refine Kd.C_drewN ?_ _) | (with_reducible refine Kd.C_drew ?_))); (case side4 => exact (Kd.R_reads' HO549.out).2.1); (case side5 => repeat (first | exact (Kd.R_reads' HO552.out).2.2 | (with_reducible refine Kd.C_alloc ?_ _) | (with_reducible refine Kd.C_drewN ?_ _) | (with_reducible refine Kd.C_drew ?_))); (case side6 => exact (Kd.R_reads' HO552.out).2.1); (case side7 => repeat (first | exact (Kd.R_reads' HO555.out).2.2 | (with_reducible refine Kd.C_alloc ?_ _) | (with_reducible refine Kd.C_drewN ?_ _) | (with_reducible refine Kd.C_drew ?_))); (case side8 => exact (Kd.R_reads' HO555.out).2.1); (case side9 => repeat (first | exact (Kd.R_reads' HO_14.out).2.2 | (with_reducible refine Kd.C_alloc ?_ _) | (with_reducible refine Kd.C_drewN ?_ _) | (with_reducible refine Kd.C_drew ?_))); (case side10 => exact (Kd.R_reads' HO_14.out).2.1); rintro e w72 ⟨rfl, hb⟩; refine ⟨_, rfl, ?_⟩; have n0_ := Aside0.mk (Kd.R_below (by (with_reducible repeat (first | apply Kd.R_alloc | apply Kd.R_drewN | apply Kd.R_drew)); exact HO_13.out) hb); have n1_ := Aside0.mk (Kd.R_below (by (with_reducible repeat (first | apply Kd.R_alloc | apply Kd.R_drewN | apply Kd.R_drew)); exact HO_14.out) hb); have n2_ := Aside0.mk (Kd.R_below (by (with_reducible repeat (first | apply Kd.R_alloc | apply Kd.R_drewN | apply Kd.R_drew)); exact HO530.out) hb); have n3_ := Aside0.mk (Kd.R_below (by (with_reducible repeat (first | apply Kd.R_alloc | apply Kd.R_drewN | apply Kd.R_drew)); exact HO533.out) hb); have n4_ := Aside0.mk (Kd.R_below (by (with_reducible repeat (first | apply Kd.R_alloc | apply Kd.R_drewN | apply Kd.R_drew)); exact HO536.out) hb); have n5_ := Aside0.mk (Kd.R_below (by (with_reducible repeat (first | apply Kd.R_alloc | apply Kd.R_drewN | apply Kd.R_drew)); exact HO539.out) hb); have n6_ := Aside0.mk (Kd.R_below (by (with_reducible repeat (first | apply Kd.R_alloc | apply Kd.R_drewN | apply Kd.R_drew)); exact HO546.out) hb); have n7_ := Aside0.mk (Kd.R_below (by (with_reducible repeat (first | apply Kd.R_alloc | apply Kd.R_drewN | apply Kd.R_drew)); exact HO549.out) hb); have n8_ := Aside0.mk (Kd.R_below (by (with_reducible repeat (first | apply Kd.R_alloc | apply Kd.R_drewN | apply Kd.R_drew)); exact HO552.out) hb); have n9_ := Aside0.mk (Kd.R_below (by (with_reducible repeat (first | apply Kd.R_alloc | apply Kd.R_drewN | apply Kd.R_drew)); exact HO555.out) hb); have n10_ := Aside0.mk (blk_below (g := gb476) (o := .cells #[.int .i64 a0_0, .int .i64 a0_1, .slice A0_2 l0_2.length c0_2, .slice A0_3 l0_3.length c0_3, .slice A0_4 l0_4.length c0_4, .slice A0_5 l0_5.length c0_5] 61 (0, 0)) (by (with_reducible repeat (first | refine blk_drewN ?_ _ | refine blk_drew ?_ | refine blk_alloc ?_ _)); exact BK476.out) hb); have n11_ := Aside0.mk (below_step (by repeat (first | (with_reducible first | exact HB.out | apply below_alloc | apply pw_below_drewN | apply below_drew1 | refine below_set ?_ GE476.out) | exact HB.out)) hb); clear HO_13; clear HO_14; clear HO530; clear HO533; clear HO536; clear HO539; clear HO546; clear HO549; clear HO552; clear HO555; clear BK476; clear HB; have HO_13 := n0_; have HO_14 := n1_; have HO530 := n2_; have HO533 := n3_; have HO536 := n4_; have HO539 := n5_; have HO546 := n6_; have HO549 := n7_; have HO552 := n8_; have HO555 := n9_; have BK476 := n10_; have HB := n11_; clear n0_ n1_ n2_ n3_ n4_ n5_ n6_ n7_ n8_ n9_ n10_ n11_; (try clear hb); (try clear hb2); (try clear hk); (try clear hi)) | (go_at_call 18; (with_reducible refine (cantinglaw07_awake.calls  t558 _ A56.out).mono ?_); rintro e w73 ⟨rfl, hb⟩; have n0_ := Aside0.mk (Kd.R_below (by (with_reducible repeat (first | apply Kd.R_alloc | apply Kd.R_drewN | apply Kd.R_drew)); exact HO_13.out) hb); have n1_ := Aside0.mk (Kd.R_below (by (with_reducible repeat (first | apply Kd.R_alloc | apply Kd.R_drewN | apply Kd.R_drew)); exact HO_14.out) hb); have n2_ := Aside0.mk (Kd.R_below (by (with_reducible repeat (first | apply Kd.R_alloc | apply Kd.R_drewN | apply Kd.R_drew)); exact HO530.out) hb); have n3_ := Aside0.mk (Kd.R_below (by (with_reducible repeat (first | apply Kd.R_alloc | apply Kd.R_drewN | apply Kd.R_drew)); exact HO533.out) hb); have n4_ := Aside0.mk (Kd.R_below (by (with_reducible repeat (first | apply Kd.R_alloc | apply Kd.R_drewN | apply Kd.R_drew)); exact HO536.out) hb); have n5_ := Aside0.mk (Kd.R_below (by (with_reducible repeat (first | apply Kd.R_alloc | apply Kd.R_drewN | apply Kd.R_drew)); exact HO539.out) hb); have n6_ := Aside0.mk (Kd.R_below (by (with_reducible repeat (first | apply Kd.R_alloc | apply Kd.R_drewN | apply Kd.R_drew)); exact HO546.out) hb); have n7_ := Aside0.mk (Kd.R_below (by (with_reducible repeat (first | apply Kd.R_alloc | apply Kd.R_drewN | apply Kd.R_drew)); exact HO549.out) hb); have n8_ := Aside0.mk (Kd.R_below (by (with_reducible repeat (first | apply Kd.R_alloc | apply Kd.R_drewN | apply Kd.R_drew)); exact HO552.out) hb); have n9_ := Aside0.mk (Kd.R_below (by (with_reducible repeat (first | apply Kd.R_alloc | apply Kd.R_drewN | apply Kd.R_drew)); exact HO555.out) hb); have n10_ := Aside0.mk (blk_below (g := gb476) (o := .cells #[.int .i64 a0_0, .int .i64 a0_1, .slice A0_2 l0_2.length c0_2, .slice A0_3 l0_3.length c0_3, .slice A0_4 l0_4.length c0_4, .slice A0_5 l0_5.length c0_5] 61 (0, 0)) (by (with_reducible repeat (first | refine blk_drewN ?_ _ | refine blk_drew ?_ | refine blk_alloc ?_ _)); exact BK476.out) hb); have n11_ := Aside0.mk (below_step (by repeat (first | (with_reducible first | exact HB.out | apply below_alloc | apply pw_below_drewN | apply below_drew1 | refine below_set ?_ GE476.out) | exact HB.out)) hb); clear HO_13; clear HO_14; clear HO530; clear HO533; clear HO536; clear HO539; clear HO546; clear HO549; clear HO552; clear HO555; clear BK476; clear HB; have HO_13 := n0_; have HO_14 := n1_; have HO530 := n2_; have HO533 := n3_; have HO536 := n4_; have HO539 := n5_; have HO546 := n6_; have HO549 := n7_; have HO552 := n8_; have HO555 := n9_; have BK476 := n10_; have HB := n11_; clear n0_ n1_ n2_ n3_ n4_ n5_ n6_ n7_ n8_ n9_ n10_ n11_; (try clear hb); (try clear hb2); (try clear hk); (try clear hi)))
                    go_ret
                    exact ⟨by first | rfl | (simp [errW_none, errW_some] <;> rfl) | (simp [*, errW_none, errW_some] <;> rfl), by repeat (first | (with_reducible first | exact HB.out | apply below_alloc | apply pw_below_drewN | apply below_drew1 | refine below_set ?_ GE476.out) | exact HB.out)⟩
                  · rw [if_neg c55] at H
                    have c55b0 : decide ((wrap64 (t540 + t556)) ≤ (wrap64 (t491 + t507))) = false := decide_eq_false c55
                    clear c55
                    obtain rfl := Option.some.inj H
                    have hcz74_0 : wr.cell? ⟨gb476, 0, none⟩ = some (.int .i64 a0_0) := (blk_cell BK476.out 0).trans rfl
                    have hcz74_1 : wr.cell? ⟨gb476, 1, none⟩ = some (.int .i64 a0_1) := (blk_cell BK476.out 1).trans rfl
                    have hcz74_2 : wr.cell? ⟨gb476, 2, none⟩ = some (.slice A0_2 l0_2.length c0_2) := (blk_cell BK476.out 2).trans rfl
                    have hcz74_3 : wr.cell? ⟨gb476, 3, none⟩ = some (.slice A0_3 l0_3.length c0_3) := (blk_cell BK476.out 3).trans rfl
                    have hcz74_4 : wr.cell? ⟨gb476, 4, none⟩ = some (.slice A0_4 l0_4.length c0_4) := (blk_cell BK476.out 4).trans rfl
                    have hcz74_5 : wr.cell? ⟨gb476, 5, none⟩ = some (.slice A0_5 l0_5.length c0_5) := (blk_cell BK476.out 5).trans rfl
                    have hfz74_0 := blk_frozen BK476.out 0
                    have hfz74_1 := blk_frozen BK476.out 1
                    have hfz74_2 := blk_frozen BK476.out 2
                    have hfz74_3 := blk_frozen BK476.out 3
                    have hfz74_4 := blk_frozen BK476.out 4
                    have hfz74_5 := blk_frozen BK476.out 5
                    go_wp2_with (first | ((with_reducible refine gate_callee (f := 32) rfl ?_); refine goesL_ (some 87) rfl rfl Try.func32 (by kernel_rfl) rfl #[.agg #[.int .i64 a0_0, .int .i64 a0_1, .slice A0_2 l0_2.length c0_2, .slice A0_3 l0_3.length c0_3, .slice A0_4 l0_4.length c0_4, .slice A0_5 l0_5.length c0_5]] rfl (by (try simp only [List.map_toArray, List.map_cons, List.map_nil]); first | done | rfl | (simp only [List.length_drop, List.length_take]; rfl)) ?_; (with_reducible refine (cantinglaw07_cloth.calls a0_0 a0_1 _ _ l0_2 _ _ l0_3 _ _ l0_4 _ _ l0_5 t526 t527 t528 t531 t534 t537 _ ?side1 ?side2 ?side3 ?side4 ?side5 ?side6 ?side7 ?side8 A49.out).mono ?_); (case side1 => repeat (first | exact (Kd.C_below HR0_2.out HB.out) | (with_reducible refine Kd.C_alloc ?_ _) | (with_reducible refine Kd.C_drewN ?_ _) | (with_reducible refine Kd.C_drew ?_))); (case side2 => exact HC0_2.out); (case side3 => repeat (first | exact (Kd.C_below HR0_3.out HB.out) | (with_reducible refine Kd.C_alloc ?_ _) | (with_reducible refine Kd.C_drewN ?_ _) | (with_reducible refine Kd.C_drew ?_))); (case side4 => exact HC0_3.out); (case side5 => repeat (first | exact (Kd.C_below HR0_4.out HB.out) | (with_reducible refine Kd.C_alloc ?_ _) | (with_reducible refine Kd.C_drewN ?_ _) | (with_reducible refine Kd.C_drew ?_))); (case side6 => exact HC0_4.out); (case side7 => repeat (first | exact (Kd.C_below HR0_5.out HB.out) | (with_reducible refine Kd.C_alloc ?_ _) | (with_reducible refine Kd.C_drewN ?_ _) | (with_reducible refine Kd.C_drew ?_))); (case side8 => exact HC0_5.out); rintro e w75 ⟨v529, v532, v535, v538, rfl, ho0, ho1, ho2, ho3, hb⟩; refine ⟨_, rfl, ?_⟩; have n0_ := Aside0.mk (Kd.R_below (by (with_reducible repeat (first | apply Kd.R_alloc | apply Kd.R_drewN | apply Kd.R_drew)); exact HO_13.out) hb); have n1_ := Aside0.mk (Kd.R_below (by (with_reducible repeat (first | apply Kd.R_alloc | apply Kd.R_drewN | apply Kd.R_drew)); exact HO_14.out) hb); have n2_ := Aside0.mk (Kd.R_lower ho0 (below_size (by repeat (first | (with_reducible first | exact HB.out | apply below_alloc | apply pw_below_drewN | apply below_drew1 | refine below_set ?_ GE476.out) | exact HB.out)))); have n3_ := Aside0.mk (Kd.R_lower ho1 (below_size (by repeat (first | (with_reducible first | exact HB.out | apply below_alloc | apply pw_below_drewN | apply below_drew1 | refine below_set ?_ GE476.out) | exact HB.out)))); have n4_ := Aside0.mk (Kd.R_lower ho2 (below_size (by repeat (first | (with_reducible first | exact HB.out | apply below_alloc | apply pw_below_drewN | apply below_drew1 | refine below_set ?_ GE476.out) | exact HB.out)))); have n5_ := Aside0.mk (Kd.R_lower ho3 (below_size (by repeat (first | (with_reducible first | exact HB.out | apply below_alloc | apply pw_below_drewN | apply below_drew1 | refine below_set ?_ GE476.out) | exact HB.out)))); have n6_ := Aside0.mk (blk_below (g := gb476) (o := .cells #[.int .i64 a0_0, .int .i64 a0_1, .slice A0_2 l0_2.length c0_2, .slice A0_3 l0_3.length c0_3, .slice A0_4 l0_4.length c0_4, .slice A0_5 l0_5.length c0_5] 61 (0, 0)) (by (with_reducible repeat (first | refine blk_drewN ?_ _ | refine blk_drew ?_ | refine blk_alloc ?_ _)); exact BK476.out) hb); have n7_ := Aside0.mk (below_step (by repeat (first | (with_reducible first | exact HB.out | apply below_alloc | apply pw_below_drewN | apply below_drew1 | refine below_set ?_ GE476.out) | exact HB.out)) hb); clear HO_13; clear HO_14; clear BK476; clear HB; have HO_13 := n0_; have HO_14 := n1_; have HO530 := n2_; have HO533 := n3_; have HO536 := n4_; have HO539 := n5_; have BK476 := n6_; have HB := n7_; clear n0_ n1_ n2_ n3_ n4_ n5_ n6_ n7_; (try clear hb); (try clear hb2); (try clear hk); (try clear hi); (try clear ho0); (try clear ho1); (try clear ho2); (try clear ho3); obtain ⟨Ao76, co76, eo76⟩ := Kd.R_slice HO530.out; subst eo76; obtain ⟨Ao77, co77, eo77⟩ := Kd.R_slice HO533.out; subst eo77; obtain ⟨Ao78, co78, eo78⟩ := Kd.R_slice HO536.out; subst eo78; obtain ⟨Ao79, co79, eo79⟩ := Kd.R_slice HO539.out; subst eo79; obtain ⟨Ao80, co80, eo80⟩ := Kd.R_slice HO_13.out; subst eo80) | ((with_reducible refine gate_callee (f := 31) rfl ?_); refine goesL_ (some 90) rfl rfl Try.func31 (by kernel_rfl) rfl #[.agg #[.int .i64 t526, .int .i64 t527, .slice Ao76 t528.length co76, .slice Ao77 t531.length co77, .slice Ao78 t534.length co78, .slice Ao79 t537.length co79], .int .i64 a1, .slice Ao80 x13_2.length co80] rfl (by (try simp only [List.map_toArray, List.map_cons, List.map_nil]); first | done | rfl | (simp only [List.length_drop, List.length_take]; rfl)) ?_; (with_reducible refine (wax_Energy.calls k2 t526 t527 _ _ t528 _ _ t531 _ _ t534 _ _ t537 a1 _ _ x13_2 t540 t541 _ ?side1 ?side2 ?side3 ?side4 ?side5 ?side6 ?side7 ?side8 ?side9 ?side10 A50.out).mono ?_); (case side1 => repeat (first | exact (Kd.R_reads' HO530.out).2.2 | (with_reducible refine Kd.C_alloc ?_ _) | (with_reducible refine Kd.C_drewN ?_ _) | (with_reducible refine Kd.C_drew ?_))); (case side2 => exact (Kd.R_reads' HO530.out).2.1); (case side3 => repeat (first | exact (Kd.R_reads' HO533.out).2.2 | (with_reducible refine Kd.C_alloc ?_ _) | (with_reducible refine Kd.C_drewN ?_ _) | (with_reducible refine Kd.C_drew ?_))); (case side4 => exact (Kd.R_reads' HO533.out).2.1); (case side5 => repeat (first | exact (Kd.R_reads' HO536.out).2.2 | (with_reducible refine Kd.C_alloc ?_ _) | (with_reducible refine Kd.C_drewN ?_ _) | (with_reducible refine Kd.C_drew ?_))); (case side6 => exact (Kd.R_reads' HO536.out).2.1); (case side7 => repeat (first | exact (Kd.R_reads' HO539.out).2.2 | (with_reducible refine Kd.C_alloc ?_ _) | (with_reducible refine Kd.C_drewN ?_ _) | (with_reducible refine Kd.C_drew ?_))); (case side8 => exact (Kd.R_reads' HO539.out).2.1); (case side9 => repeat (first | exact (Kd.R_reads' HO_13.out).2.2 | (with_reducible refine Kd.C_alloc ?_ _) | (with_reducible refine Kd.C_drewN ?_ _) | (with_reducible refine Kd.C_drew ?_))); (case side10 => exact (Kd.R_reads' HO_13.out).2.1); rintro e w81 ⟨rfl, hb⟩; refine ⟨_, rfl, ?_⟩; have n0_ := Aside0.mk (Kd.R_below (by (with_reducible repeat (first | apply Kd.R_alloc | apply Kd.R_drewN | apply Kd.R_drew)); exact HO_13.out) hb); have n1_ := Aside0.mk (Kd.R_below (by (with_reducible repeat (first | apply Kd.R_alloc | apply Kd.R_drewN | apply Kd.R_drew)); exact HO_14.out) hb); have n2_ := Aside0.mk (Kd.R_below (by (with_reducible repeat (first | apply Kd.R_alloc | apply Kd.R_drewN | apply Kd.R_drew)); exact HO530.out) hb); have n3_ := Aside0.mk (Kd.R_below (by (with_reducible repeat (first | apply Kd.R_alloc | apply Kd.R_drewN | apply Kd.R_drew)); exact HO533.out) hb); have n4_ := Aside0.mk (Kd.R_below (by (with_reducible repeat (first | apply Kd.R_alloc | apply Kd.R_drewN | apply Kd.R_drew)); exact HO536.out) hb); have n5_ := Aside0.mk (Kd.R_below (by (with_reducible repeat (first | apply Kd.R_alloc | apply Kd.R_drewN | apply Kd.R_drew)); exact HO539.out) hb); have n6_ := Aside0.mk (blk_below (g := gb476) (o := .cells #[.int .i64 a0_0, .int .i64 a0_1, .slice A0_2 l0_2.length c0_2, .slice A0_3 l0_3.length c0_3, .slice A0_4 l0_4.length c0_4, .slice A0_5 l0_5.length c0_5] 61 (0, 0)) (by (with_reducible repeat (first | refine blk_drewN ?_ _ | refine blk_drew ?_ | refine blk_alloc ?_ _)); exact BK476.out) hb); have n7_ := Aside0.mk (below_step (by repeat (first | (with_reducible first | exact HB.out | apply below_alloc | apply pw_below_drewN | apply below_drew1 | refine below_set ?_ GE476.out) | exact HB.out)) hb); clear HO_13; clear HO_14; clear HO530; clear HO533; clear HO536; clear HO539; clear BK476; clear HB; have HO_13 := n0_; have HO_14 := n1_; have HO530 := n2_; have HO533 := n3_; have HO536 := n4_; have HO539 := n5_; have BK476 := n6_; have HB := n7_; clear n0_ n1_ n2_ n3_ n4_ n5_ n6_ n7_; (try clear hb); (try clear hb2); (try clear hk); (try clear hi); have hcz82_0 : w81.cell? ⟨gb476, 0, none⟩ = some (.int .i64 a0_0) := (blk_cell BK476.out 0).trans rfl; have hcz82_1 : w81.cell? ⟨gb476, 1, none⟩ = some (.int .i64 a0_1) := (blk_cell BK476.out 1).trans rfl; have hcz82_2 : w81.cell? ⟨gb476, 2, none⟩ = some (.slice A0_2 l0_2.length c0_2) := (blk_cell BK476.out 2).trans rfl; have hcz82_3 : w81.cell? ⟨gb476, 3, none⟩ = some (.slice A0_3 l0_3.length c0_3) := (blk_cell BK476.out 3).trans rfl; have hcz82_4 : w81.cell? ⟨gb476, 4, none⟩ = some (.slice A0_4 l0_4.length c0_4) := (blk_cell BK476.out 4).trans rfl; have hcz82_5 : w81.cell? ⟨gb476, 5, none⟩ = some (.slice A0_5 l0_5.length c0_5) := (blk_cell BK476.out 5).trans rfl; have hfz82_0 := blk_frozen BK476.out 0; have hfz82_1 := blk_frozen BK476.out 1; have hfz82_2 := blk_frozen BK476.out 2; have hfz82_3 := blk_frozen BK476.out 3; have hfz82_4 := blk_frozen BK476.out 4; have hfz82_5 := blk_frozen BK476.out 5) | ((with_reducible refine gate_callee (f := 32) rfl ?_); refine goesL_ (some 95) rfl rfl Try.func32 (by kernel_rfl) rfl #[.agg #[.int .i64 a0_0, .int .i64 a0_1, .slice A0_2 l0_2.length c0_2, .slice A0_3 l0_3.length c0_3, .slice A0_4 l0_4.length c0_4, .slice A0_5 l0_5.length c0_5]] rfl (by (try simp only [List.map_toArray, List.map_cons, List.map_nil]); first | done | rfl | (simp only [List.length_drop, List.length_take]; rfl)) ?_; (with_reducible refine (cantinglaw07_cloth.calls a0_0 a0_1 _ _ l0_2 _ _ l0_3 _ _ l0_4 _ _ l0_5 t542 t543 t544 t547 t550 t553 _ ?side1 ?side2 ?side3 ?side4 ?side5 ?side6 ?side7 ?side8 A51.out).mono ?_); (case side1 => repeat (first | exact (Kd.C_below HR0_2.out HB.out) | (with_reducible refine Kd.C_alloc ?_ _) | (with_reducible refine Kd.C_drewN ?_ _) | (with_reducible refine Kd.C_drew ?_))); (case side2 => exact HC0_2.out); (case side3 => repeat (first | exact (Kd.C_below HR0_3.out HB.out) | (with_reducible refine Kd.C_alloc ?_ _) | (with_reducible refine Kd.C_drewN ?_ _) | (with_reducible refine Kd.C_drew ?_))); (case side4 => exact HC0_3.out); (case side5 => repeat (first | exact (Kd.C_below HR0_4.out HB.out) | (with_reducible refine Kd.C_alloc ?_ _) | (with_reducible refine Kd.C_drewN ?_ _) | (with_reducible refine Kd.C_drew ?_))); (case side6 => exact HC0_4.out); (case side7 => repeat (first | exact (Kd.C_below HR0_5.out HB.out) | (with_reducible refine Kd.C_alloc ?_ _) | (with_reducible refine Kd.C_drewN ?_ _) | (with_reducible refine Kd.C_drew ?_))); (case side8 => exact HC0_5.out); rintro e w83 ⟨v545, v548, v551, v554, rfl, ho0, ho1, ho2, ho3, hb⟩; refine ⟨_, rfl, ?_⟩; have n0_ := Aside0.mk (Kd.R_below (by (with_reducible repeat (first | apply Kd.R_alloc | apply Kd.R_drewN | apply Kd.R_drew)); exact HO_13.out) hb); have n1_ := Aside0.mk (Kd.R_below (by (with_reducible repeat (first | apply Kd.R_alloc | apply Kd.R_drewN | apply Kd.R_drew)); exact HO_14.out) hb); have n2_ := Aside0.mk (Kd.R_mono (Kd.R_told (Kd.R_told (Kd.R_told (Kd.R_told (Kd.R_old (by (with_reducible repeat (first | apply Kd.R_alloc | apply Kd.R_drewN | apply Kd.R_drew)); exact HO530.out) hb) (Kd.R_base ho0)) (Kd.R_base ho1)) (Kd.R_base ho2)) (Kd.R_base ho3)) (fun _ h_ => h_.1)); have n3_ := Aside0.mk (Kd.R_mono (Kd.R_told (Kd.R_told (Kd.R_told (Kd.R_told (Kd.R_old (by (with_reducible repeat (first | apply Kd.R_alloc | apply Kd.R_drewN | apply Kd.R_drew)); exact HO533.out) hb) (Kd.R_base ho0)) (Kd.R_base ho1)) (Kd.R_base ho2)) (Kd.R_base ho3)) (fun _ h_ => h_.1)); have n4_ := Aside0.mk (Kd.R_mono (Kd.R_told (Kd.R_told (Kd.R_told (Kd.R_told (Kd.R_old (by (with_reducible repeat (first | apply Kd.R_alloc | apply Kd.R_drewN | apply Kd.R_drew)); exact HO536.out) hb) (Kd.R_base ho0)) (Kd.R_base ho1)) (Kd.R_base ho2)) (Kd.R_base ho3)) (fun _ h_ => h_.1)); have n5_ := Aside0.mk (Kd.R_mono (Kd.R_told (Kd.R_told (Kd.R_told (Kd.R_told (Kd.R_old (by (with_reducible repeat (first | apply Kd.R_alloc | apply Kd.R_drewN | apply Kd.R_drew)); exact HO539.out) hb) (Kd.R_base ho0)) (Kd.R_base ho1)) (Kd.R_base ho2)) (Kd.R_base ho3)) (fun _ h_ => h_.1)); have n6_ := Aside0.mk (Kd.R_lower (Kd.R_new' (Kd.R_new' (Kd.R_new' (Kd.R_new' ho0 (Kd.R_lt (by (with_reducible repeat (first | apply Kd.R_alloc | apply Kd.R_drewN | apply Kd.R_drew)); exact HO530.out))) (Kd.R_lt (by (with_reducible repeat (first | apply Kd.R_alloc | apply Kd.R_drewN | apply Kd.R_drew)); exact HO533.out))) (Kd.R_lt (by (with_reducible repeat (first | apply Kd.R_alloc | apply Kd.R_drewN | apply Kd.R_drew)); exact HO536.out))) (Kd.R_lt (by (with_reducible repeat (first | apply Kd.R_alloc | apply Kd.R_drewN | apply Kd.R_drew)); exact HO539.out))) (below_size (by repeat (first | (with_reducible first | exact HB.out | apply below_alloc | apply pw_below_drewN | apply below_drew1 | refine below_set ?_ GE476.out) | exact HB.out)))); have n7_ := Aside0.mk (Kd.R_lower (Kd.R_new' (Kd.R_new' (Kd.R_new' (Kd.R_new' ho1 (Kd.R_lt (by (with_reducible repeat (first | apply Kd.R_alloc | apply Kd.R_drewN | apply Kd.R_drew)); exact HO530.out))) (Kd.R_lt (by (with_reducible repeat (first | apply Kd.R_alloc | apply Kd.R_drewN | apply Kd.R_drew)); exact HO533.out))) (Kd.R_lt (by (with_reducible repeat (first | apply Kd.R_alloc | apply Kd.R_drewN | apply Kd.R_drew)); exact HO536.out))) (Kd.R_lt (by (with_reducible repeat (first | apply Kd.R_alloc | apply Kd.R_drewN | apply Kd.R_drew)); exact HO539.out))) (below_size (by repeat (first | (with_reducible first | exact HB.out | apply below_alloc | apply pw_below_drewN | apply below_drew1 | refine below_set ?_ GE476.out) | exact HB.out)))); have n8_ := Aside0.mk (Kd.R_lower (Kd.R_new' (Kd.R_new' (Kd.R_new' (Kd.R_new' ho2 (Kd.R_lt (by (with_reducible repeat (first | apply Kd.R_alloc | apply Kd.R_drewN | apply Kd.R_drew)); exact HO530.out))) (Kd.R_lt (by (with_reducible repeat (first | apply Kd.R_alloc | apply Kd.R_drewN | apply Kd.R_drew)); exact HO533.out))) (Kd.R_lt (by (with_reducible repeat (first | apply Kd.R_alloc | apply Kd.R_drewN | apply Kd.R_drew)); exact HO536.out))) (Kd.R_lt (by (with_reducible repeat (first | apply Kd.R_alloc | apply Kd.R_drewN | apply Kd.R_drew)); exact HO539.out))) (below_size (by repeat (first | (with_reducible first | exact HB.out | apply below_alloc | apply pw_below_drewN | apply below_drew1 | refine below_set ?_ GE476.out) | exact HB.out)))); have n9_ := Aside0.mk (Kd.R_lower (Kd.R_new' (Kd.R_new' (Kd.R_new' (Kd.R_new' ho3 (Kd.R_lt (by (with_reducible repeat (first | apply Kd.R_alloc | apply Kd.R_drewN | apply Kd.R_drew)); exact HO530.out))) (Kd.R_lt (by (with_reducible repeat (first | apply Kd.R_alloc | apply Kd.R_drewN | apply Kd.R_drew)); exact HO533.out))) (Kd.R_lt (by (with_reducible repeat (first | apply Kd.R_alloc | apply Kd.R_drewN | apply Kd.R_drew)); exact HO536.out))) (Kd.R_lt (by (with_reducible repeat (first | apply Kd.R_alloc | apply Kd.R_drewN | apply Kd.R_drew)); exact HO539.out))) (below_size (by repeat (first | (with_reducible first | exact HB.out | apply below_alloc | apply pw_below_drewN | apply below_drew1 | refine below_set ?_ GE476.out) | exact HB.out)))); have n10_ := Aside0.mk (blk_below (g := gb476) (o := .cells #[.int .i64 a0_0, .int .i64 a0_1, .slice A0_2 l0_2.length c0_2, .slice A0_3 l0_3.length c0_3, .slice A0_4 l0_4.length c0_4, .slice A0_5 l0_5.length c0_5] 61 (0, 0)) (by (with_reducible repeat (first | refine blk_drewN ?_ _ | refine blk_drew ?_ | refine blk_alloc ?_ _)); exact BK476.out) hb); have n11_ := Aside0.mk (below_step (by repeat (first | (with_reducible first | exact HB.out | apply below_alloc | apply pw_below_drewN | apply below_drew1 | refine below_set ?_ GE476.out) | exact HB.out)) hb); clear HO_13; clear HO_14; clear HO530; clear HO533; clear HO536; clear HO539; clear BK476; clear HB; have HO_13 := n0_; have HO_14 := n1_; have HO530 := n2_; have HO533 := n3_; have HO536 := n4_; have HO539 := n5_; have HO546 := n6_; have HO549 := n7_; have HO552 := n8_; have HO555 := n9_; have BK476 := n10_; have HB := n11_; clear n0_ n1_ n2_ n3_ n4_ n5_ n6_ n7_ n8_ n9_ n10_ n11_; (try clear hb); (try clear hb2); (try clear hk); (try clear hi); (try clear ho0); (try clear ho1); (try clear ho2); (try clear ho3); obtain ⟨Ao84, co84, eo84⟩ := Kd.R_slice HO546.out; subst eo84; obtain ⟨Ao85, co85, eo85⟩ := Kd.R_slice HO549.out; subst eo85; obtain ⟨Ao86, co86, eo86⟩ := Kd.R_slice HO552.out; subst eo86; obtain ⟨Ao87, co87, eo87⟩ := Kd.R_slice HO555.out; subst eo87; obtain ⟨Ao88, co88, eo88⟩ := Kd.R_slice HO_14.out; subst eo88) | ((with_reducible refine gate_callee (f := 31) rfl ?_); refine goesL_ (some 98) rfl rfl Try.func31 (by kernel_rfl) rfl #[.agg #[.int .i64 t542, .int .i64 t543, .slice Ao84 t544.length co84, .slice Ao85 t547.length co85, .slice Ao86 t550.length co86, .slice Ao87 t553.length co87], .int .i64 a1, .slice Ao88 x14_2.length co88] rfl (by (try simp only [List.map_toArray, List.map_cons, List.map_nil]); first | done | rfl | (simp only [List.length_drop, List.length_take]; rfl)) ?_; (with_reducible refine (wax_Energy.calls k2 t542 t543 _ _ t544 _ _ t547 _ _ t550 _ _ t553 a1 _ _ x14_2 t556 t557 _ ?side1 ?side2 ?side3 ?side4 ?side5 ?side6 ?side7 ?side8 ?side9 ?side10 A52.out).mono ?_); (case side1 => repeat (first | exact (Kd.R_reads' HO546.out).2.2 | (with_reducible refine Kd.C_alloc ?_ _) | (with_reducible refine Kd.C_drewN ?_ _) | (with_reducible refine Kd.C_drew ?_))); (case side2 => exact (Kd.R_reads' HO546.out).2.1); (case side3 => repeat (first | exact (Kd.R_reads' HO549.out).2.2 | (with_reducible refine Kd.C_alloc ?_ _) | (with_reducible refine Kd.C_drewN ?_ _) | (with_reducible refine Kd.C_drew ?_))); (case side4 => exact (Kd.R_reads' HO549.out).2.1); (case side5 => repeat (first | exact (Kd.R_reads' HO552.out).2.2 | (with_reducible refine Kd.C_alloc ?_ _) | (with_reducible refine Kd.C_drewN ?_ _) | (with_reducible refine Kd.C_drew ?_))); (case side6 => exact (Kd.R_reads' HO552.out).2.1); (case side7 => repeat (first | exact (Kd.R_reads' HO555.out).2.2 | (with_reducible refine Kd.C_alloc ?_ _) | (with_reducible refine Kd.C_drewN ?_ _) | (with_reducible refine Kd.C_drew ?_))); (case side8 => exact (Kd.R_reads' HO555.out).2.1); (case side9 => repeat (first | exact (Kd.R_reads' HO_14.out).2.2 | (with_reducible refine Kd.C_alloc ?_ _) | (with_reducible refine Kd.C_drewN ?_ _) | (with_reducible refine Kd.C_drew ?_))); (case side10 => exact (Kd.R_reads' HO_14.out).2.1); rintro e w89 ⟨rfl, hb⟩; refine ⟨_, rfl, ?_⟩; have n0_ := Aside0.mk (Kd.R_below (by (with_reducible repeat (first | apply Kd.R_alloc | apply Kd.R_drewN | apply Kd.R_drew)); exact HO_13.out) hb); have n1_ := Aside0.mk (Kd.R_below (by (with_reducible repeat (first | apply Kd.R_alloc | apply Kd.R_drewN | apply Kd.R_drew)); exact HO_14.out) hb); have n2_ := Aside0.mk (Kd.R_below (by (with_reducible repeat (first | apply Kd.R_alloc | apply Kd.R_drewN | apply Kd.R_drew)); exact HO530.out) hb); have n3_ := Aside0.mk (Kd.R_below (by (with_reducible repeat (first | apply Kd.R_alloc | apply Kd.R_drewN | apply Kd.R_drew)); exact HO533.out) hb); have n4_ := Aside0.mk (Kd.R_below (by (with_reducible repeat (first | apply Kd.R_alloc | apply Kd.R_drewN | apply Kd.R_drew)); exact HO536.out) hb); have n5_ := Aside0.mk (Kd.R_below (by (with_reducible repeat (first | apply Kd.R_alloc | apply Kd.R_drewN | apply Kd.R_drew)); exact HO539.out) hb); have n6_ := Aside0.mk (Kd.R_below (by (with_reducible repeat (first | apply Kd.R_alloc | apply Kd.R_drewN | apply Kd.R_drew)); exact HO546.out) hb); have n7_ := Aside0.mk (Kd.R_below (by (with_reducible repeat (first | apply Kd.R_alloc | apply Kd.R_drewN | apply Kd.R_drew)); exact HO549.out) hb); have n8_ := Aside0.mk (Kd.R_below (by (with_reducible repeat (first | apply Kd.R_alloc | apply Kd.R_drewN | apply Kd.R_drew)); exact HO552.out) hb); have n9_ := Aside0.mk (Kd.R_below (by (with_reducible repeat (first | apply Kd.R_alloc | apply Kd.R_drewN | apply Kd.R_drew)); exact HO555.out) hb); have n10_ := Aside0.mk (blk_below (g := gb476) (o := .cells #[.int .i64 a0_0, .int .i64 a0_1, .slice A0_2 l0_2.length c0_2, .slice A0_3 l0_3.length c0_3, .slice A0_4 l0_4.length c0_4, .slice A0_5 l0_5.length c0_5] 61 (0, 0)) (by (with_reducible repeat (first | refine blk_drewN ?_ _ | refine blk_drew ?_ | refine blk_alloc ?_ _)); exact BK476.out) hb); have n11_ := Aside0.mk (below_step (by repeat (first | (with_reducible first | exact HB.out | apply below_alloc | apply pw_below_drewN | apply below_drew1 | refine below_set ?_ GE476.out) | exact HB.out)) hb); clear HO_13; clear HO_14; clear HO530; clear HO533; clear HO536; clear HO539; clear HO546; clear HO549; clear HO552; clear HO555; clear BK476; clear HB; have HO_13 := n0_; have HO_14 := n1_; have HO530 := n2_; have HO533 := n3_; have HO536 := n4_; have HO539 := n5_; have HO546 := n6_; have HO549 := n7_; have HO552 := n8_; have HO555 := n9_; have BK476 := n10_; have HB := n11_; clear n0_ n1_ n2_ n3_ n4_ n5_ n6_ n7_ n8_ n9_ n10_ n11_; (try clear hb); (try clear hb2); (try clear hk); (try clear hi)))
                    go_ret
                    exact ⟨by first | rfl | (simp [errW_none, errW_some] <;> rfl) | (simp [*, errW_none, errW_some] <;> rfl), by repeat (first | (with_reducible first | exact HB.out | apply below_alloc | apply pw_below_drewN | apply below_drew1 | refine below_set ?_ GE476.out) | exact HB.out)⟩
                · rw [if_neg c54] at H
                  have c54b0 : (t557 == 0) = false := beq_eq_false_iff_ne.mpr c54
                  have c54b1 : (t557 != 0) = true := bne_iff_ne.mpr c54
                  obtain rfl := Option.some.inj H
                  have hcz90_0 : wr.cell? ⟨gb476, 0, none⟩ = some (.int .i64 a0_0) := (blk_cell BK476.out 0).trans rfl
                  have hcz90_1 : wr.cell? ⟨gb476, 1, none⟩ = some (.int .i64 a0_1) := (blk_cell BK476.out 1).trans rfl
                  have hcz90_2 : wr.cell? ⟨gb476, 2, none⟩ = some (.slice A0_2 l0_2.length c0_2) := (blk_cell BK476.out 2).trans rfl
                  have hcz90_3 : wr.cell? ⟨gb476, 3, none⟩ = some (.slice A0_3 l0_3.length c0_3) := (blk_cell BK476.out 3).trans rfl
                  have hcz90_4 : wr.cell? ⟨gb476, 4, none⟩ = some (.slice A0_4 l0_4.length c0_4) := (blk_cell BK476.out 4).trans rfl
                  have hcz90_5 : wr.cell? ⟨gb476, 5, none⟩ = some (.slice A0_5 l0_5.length c0_5) := (blk_cell BK476.out 5).trans rfl
                  have hfz90_0 := blk_frozen BK476.out 0
                  have hfz90_1 := blk_frozen BK476.out 1
                  have hfz90_2 := blk_frozen BK476.out 2
                  have hfz90_3 := blk_frozen BK476.out 3
                  have hfz90_4 := blk_frozen BK476.out 4
                  have hfz90_5 := blk_frozen BK476.out 5
                  go_wp2_with (first | ((with_reducible refine gate_callee (f := 32) rfl ?_); refine goesL_ (some 87) rfl rfl Try.func32 (by kernel_rfl) rfl #[.agg #[.int .i64 a0_0, .int .i64 a0_1, .slice A0_2 l0_2.length c0_2, .slice A0_3 l0_3.length c0_3, .slice A0_4 l0_4.length c0_4, .slice A0_5 l0_5.length c0_5]] rfl (by (try simp only [List.map_toArray, List.map_cons, List.map_nil]); first | done | rfl | (simp only [List.length_drop, List.length_take]; rfl)) ?_; (with_reducible refine (cantinglaw07_cloth.calls a0_0 a0_1 _ _ l0_2 _ _ l0_3 _ _ l0_4 _ _ l0_5 t526 t527 t528 t531 t534 t537 _ ?side1 ?side2 ?side3 ?side4 ?side5 ?side6 ?side7 ?side8 A49.out).mono ?_); (case side1 => repeat (first | exact (Kd.C_below HR0_2.out HB.out) | (with_reducible refine Kd.C_alloc ?_ _) | (with_reducible refine Kd.C_drewN ?_ _) | (with_reducible refine Kd.C_drew ?_))); (case side2 => exact HC0_2.out); (case side3 => repeat (first | exact (Kd.C_below HR0_3.out HB.out) | (with_reducible refine Kd.C_alloc ?_ _) | (with_reducible refine Kd.C_drewN ?_ _) | (with_reducible refine Kd.C_drew ?_))); (case side4 => exact HC0_3.out); (case side5 => repeat (first | exact (Kd.C_below HR0_4.out HB.out) | (with_reducible refine Kd.C_alloc ?_ _) | (with_reducible refine Kd.C_drewN ?_ _) | (with_reducible refine Kd.C_drew ?_))); (case side6 => exact HC0_4.out); (case side7 => repeat (first | exact (Kd.C_below HR0_5.out HB.out) | (with_reducible refine Kd.C_alloc ?_ _) | (with_reducible refine Kd.C_drewN ?_ _) | (with_reducible refine Kd.C_drew ?_))); (case side8 => exact HC0_5.out); rintro e w91 ⟨v529, v532, v535, v538, rfl, ho0, ho1, ho2, ho3, hb⟩; refine ⟨_, rfl, ?_⟩; have n0_ := Aside0.mk (Kd.R_below (by (with_reducible repeat (first | apply Kd.R_alloc | apply Kd.R_drewN | apply Kd.R_drew)); exact HO_13.out) hb); have n1_ := Aside0.mk (Kd.R_below (by (with_reducible repeat (first | apply Kd.R_alloc | apply Kd.R_drewN | apply Kd.R_drew)); exact HO_14.out) hb); have n2_ := Aside0.mk (Kd.R_lower ho0 (below_size (by repeat (first | (with_reducible first | exact HB.out | apply below_alloc | apply pw_below_drewN | apply below_drew1 | refine below_set ?_ GE476.out) | exact HB.out)))); have n3_ := Aside0.mk (Kd.R_lower ho1 (below_size (by repeat (first | (with_reducible first | exact HB.out | apply below_alloc | apply pw_below_drewN | apply below_drew1 | refine below_set ?_ GE476.out) | exact HB.out)))); have n4_ := Aside0.mk (Kd.R_lower ho2 (below_size (by repeat (first | (with_reducible first | exact HB.out | apply below_alloc | apply pw_below_drewN | apply below_drew1 | refine below_set ?_ GE476.out) | exact HB.out)))); have n5_ := Aside0.mk (Kd.R_lower ho3 (below_size (by repeat (first | (with_reducible first | exact HB.out | apply below_alloc | apply pw_below_drewN | apply below_drew1 | refine below_set ?_ GE476.out) | exact HB.out)))); have n6_ := Aside0.mk (blk_below (g := gb476) (o := .cells #[.int .i64 a0_0, .int .i64 a0_1, .slice A0_2 l0_2.length c0_2, .slice A0_3 l0_3.length c0_3, .slice A0_4 l0_4.length c0_4, .slice A0_5 l0_5.length c0_5] 61 (0, 0)) (by (with_reducible repeat (first | refine blk_drewN ?_ _ | refine blk_drew ?_ | refine blk_alloc ?_ _)); exact BK476.out) hb); have n7_ := Aside0.mk (below_step (by repeat (first | (with_reducible first | exact HB.out | apply below_alloc | apply pw_below_drewN | apply below_drew1 | refine below_set ?_ GE476.out) | exact HB.out)) hb); clear HO_13; clear HO_14; clear BK476; clear HB; have HO_13 := n0_; have HO_14 := n1_; have HO530 := n2_; have HO533 := n3_; have HO536 := n4_; have HO539 := n5_; have BK476 := n6_; have HB := n7_; clear n0_ n1_ n2_ n3_ n4_ n5_ n6_ n7_; (try clear hb); (try clear hb2); (try clear hk); (try clear hi); (try clear ho0); (try clear ho1); (try clear ho2); (try clear ho3); obtain ⟨Ao92, co92, eo92⟩ := Kd.R_slice HO530.out; subst eo92; obtain ⟨Ao93, co93, eo93⟩ := Kd.R_slice HO533.out; subst eo93; obtain ⟨Ao94, co94, eo94⟩ := Kd.R_slice HO536.out; subst eo94; obtain ⟨Ao95, co95, eo95⟩ := Kd.R_slice HO539.out; subst eo95; obtain ⟨Ao96, co96, eo96⟩ := Kd.R_slice HO_13.out; subst eo96) | ((with_reducible refine gate_callee (f := 31) rfl ?_); refine goesL_ (some 90) rfl rfl Try.func31 (by kernel_rfl) rfl #[.agg #[.int .i64 t526, .int .i64 t527, .slice Ao92 t528.length co92, .slice Ao93 t531.length co93, .slice Ao94 t534.length co94, .slice Ao95 t537.length co95], .int .i64 a1, .slice Ao96 x13_2.length co96] rfl (by (try simp only [List.map_toArray, List.map_cons, List.map_nil]); first | done | rfl | (simp only [List.length_drop, List.length_take]; rfl)) ?_; (with_reducible refine (wax_Energy.calls k2 t526 t527 _ _ t528 _ _ t531 _ _ t534 _ _ t537 a1 _ _ x13_2 t540 t541 _ ?side1 ?side2 ?side3 ?side4 ?side5 ?side6 ?side7 ?side8 ?side9 ?side10 A50.out).mono ?_); (case side1 => repeat (first | exact (Kd.R_reads' HO530.out).2.2 | (with_reducible refine Kd.C_alloc ?_ _) | (with_reducible refine Kd.C_drewN ?_ _) | (with_reducible refine Kd.C_drew ?_))); (case side2 => exact (Kd.R_reads' HO530.out).2.1); (case side3 => repeat (first | exact (Kd.R_reads' HO533.out).2.2 | (with_reducible refine Kd.C_alloc ?_ _) | (with_reducible refine Kd.C_drewN ?_ _) | (with_reducible refine Kd.C_drew ?_))); (case side4 => exact (Kd.R_reads' HO533.out).2.1); (case side5 => repeat (first | exact (Kd.R_reads' HO536.out).2.2 | (with_reducible refine Kd.C_alloc ?_ _) | (with_reducible refine Kd.C_drewN ?_ _) | (with_reducible refine Kd.C_drew ?_))); (case side6 => exact (Kd.R_reads' HO536.out).2.1); (case side7 => repeat (first | exact (Kd.R_reads' HO539.out).2.2 | (with_reducible refine Kd.C_alloc ?_ _) | (with_reducible refine Kd.C_drewN ?_ _) | (with_reducible refine Kd.C_drew ?_))); (case side8 => exact (Kd.R_reads' HO539.out).2.1); (case side9 => repeat (first | exact (Kd.R_reads' HO_13.out).2.2 | (with_reducible refine Kd.C_alloc ?_ _) | (with_reducible refine Kd.C_drewN ?_ _) | (with_reducible refine Kd.C_drew ?_))); (case side10 => exact (Kd.R_reads' HO_13.out).2.1); rintro e w97 ⟨rfl, hb⟩; refine ⟨_, rfl, ?_⟩; have n0_ := Aside0.mk (Kd.R_below (by (with_reducible repeat (first | apply Kd.R_alloc | apply Kd.R_drewN | apply Kd.R_drew)); exact HO_13.out) hb); have n1_ := Aside0.mk (Kd.R_below (by (with_reducible repeat (first | apply Kd.R_alloc | apply Kd.R_drewN | apply Kd.R_drew)); exact HO_14.out) hb); have n2_ := Aside0.mk (Kd.R_below (by (with_reducible repeat (first | apply Kd.R_alloc | apply Kd.R_drewN | apply Kd.R_drew)); exact HO530.out) hb); have n3_ := Aside0.mk (Kd.R_below (by (with_reducible repeat (first | apply Kd.R_alloc | apply Kd.R_drewN | apply Kd.R_drew)); exact HO533.out) hb); have n4_ := Aside0.mk (Kd.R_below (by (with_reducible repeat (first | apply Kd.R_alloc | apply Kd.R_drewN | apply Kd.R_drew)); exact HO536.out) hb); have n5_ := Aside0.mk (Kd.R_below (by (with_reducible repeat (first | apply Kd.R_alloc | apply Kd.R_drewN | apply Kd.R_drew)); exact HO539.out) hb); have n6_ := Aside0.mk (blk_below (g := gb476) (o := .cells #[.int .i64 a0_0, .int .i64 a0_1, .slice A0_2 l0_2.length c0_2, .slice A0_3 l0_3.length c0_3, .slice A0_4 l0_4.length c0_4, .slice A0_5 l0_5.length c0_5] 61 (0, 0)) (by (with_reducible repeat (first | refine blk_drewN ?_ _ | refine blk_drew ?_ | refine blk_alloc ?_ _)); exact BK476.out) hb); have n7_ := Aside0.mk (below_step (by repeat (first | (with_reducible first | exact HB.out | apply below_alloc | apply pw_below_drewN | apply below_drew1 | refine below_set ?_ GE476.out) | exact HB.out)) hb); clear HO_13; clear HO_14; clear HO530; clear HO533; clear HO536; clear HO539; clear BK476; clear HB; have HO_13 := n0_; have HO_14 := n1_; have HO530 := n2_; have HO533 := n3_; have HO536 := n4_; have HO539 := n5_; have BK476 := n6_; have HB := n7_; clear n0_ n1_ n2_ n3_ n4_ n5_ n6_ n7_; (try clear hb); (try clear hb2); (try clear hk); (try clear hi); have hcz98_0 : w97.cell? ⟨gb476, 0, none⟩ = some (.int .i64 a0_0) := (blk_cell BK476.out 0).trans rfl; have hcz98_1 : w97.cell? ⟨gb476, 1, none⟩ = some (.int .i64 a0_1) := (blk_cell BK476.out 1).trans rfl; have hcz98_2 : w97.cell? ⟨gb476, 2, none⟩ = some (.slice A0_2 l0_2.length c0_2) := (blk_cell BK476.out 2).trans rfl; have hcz98_3 : w97.cell? ⟨gb476, 3, none⟩ = some (.slice A0_3 l0_3.length c0_3) := (blk_cell BK476.out 3).trans rfl; have hcz98_4 : w97.cell? ⟨gb476, 4, none⟩ = some (.slice A0_4 l0_4.length c0_4) := (blk_cell BK476.out 4).trans rfl; have hcz98_5 : w97.cell? ⟨gb476, 5, none⟩ = some (.slice A0_5 l0_5.length c0_5) := (blk_cell BK476.out 5).trans rfl; have hfz98_0 := blk_frozen BK476.out 0; have hfz98_1 := blk_frozen BK476.out 1; have hfz98_2 := blk_frozen BK476.out 2; have hfz98_3 := blk_frozen BK476.out 3; have hfz98_4 := blk_frozen BK476.out 4; have hfz98_5 := blk_frozen BK476.out 5) | ((with_reducible refine gate_callee (f := 32) rfl ?_); refine goesL_ (some 95) rfl rfl Try.func32 (by kernel_rfl) rfl #[.agg #[.int .i64 a0_0, .int .i64 a0_1, .slice A0_2 l0_2.length c0_2, .slice A0_3 l0_3.length c0_3, .slice A0_4 l0_4.length c0_4, .slice A0_5 l0_5.length c0_5]] rfl (by (try simp only [List.map_toArray, List.map_cons, List.map_nil]); first | done | rfl | (simp only [List.length_drop, List.length_take]; rfl)) ?_; (with_reducible refine (cantinglaw07_cloth.calls a0_0 a0_1 _ _ l0_2 _ _ l0_3 _ _ l0_4 _ _ l0_5 t542 t543 t544 t547 t550 t553 _ ?side1 ?side2 ?side3 ?side4 ?side5 ?side6 ?side7 ?side8 A51.out).mono ?_); (case side1 => repeat (first | exact (Kd.C_below HR0_2.out HB.out) | (with_reducible refine Kd.C_alloc ?_ _) | (with_reducible refine Kd.C_drewN ?_ _) | (with_reducible refine Kd.C_drew ?_))); (case side2 => exact HC0_2.out); (case side3 => repeat (first | exact (Kd.C_below HR0_3.out HB.out) | (with_reducible refine Kd.C_alloc ?_ _) | (with_reducible refine Kd.C_drewN ?_ _) | (with_reducible refine Kd.C_drew ?_))); (case side4 => exact HC0_3.out); (case side5 => repeat (first | exact (Kd.C_below HR0_4.out HB.out) | (with_reducible refine Kd.C_alloc ?_ _) | (with_reducible refine Kd.C_drewN ?_ _) | (with_reducible refine Kd.C_drew ?_))); (case side6 => exact HC0_4.out); (case side7 => repeat (first | exact (Kd.C_below HR0_5.out HB.out) | (with_reducible refine Kd.C_alloc ?_ _) | (with_reducible refine Kd.C_drewN ?_ _) | (with_reducible refine Kd.C_drew ?_))); (case side8 => exact HC0_5.out); rintro e w99 ⟨v545, v548, v551, v554, rfl, ho0, ho1, ho2, ho3, hb⟩; refine ⟨_, rfl, ?_⟩; have n0_ := Aside0.mk (Kd.R_below (by (with_reducible repeat (first | apply Kd.R_alloc | apply Kd.R_drewN | apply Kd.R_drew)); exact HO_13.out) hb); have n1_ := Aside0.mk (Kd.R_below (by (with_reducible repeat (first | apply Kd.R_alloc | apply Kd.R_drewN | apply Kd.R_drew)); exact HO_14.out) hb); have n2_ := Aside0.mk (Kd.R_mono (Kd.R_told (Kd.R_told (Kd.R_told (Kd.R_told (Kd.R_old (by (with_reducible repeat (first | apply Kd.R_alloc | apply Kd.R_drewN | apply Kd.R_drew)); exact HO530.out) hb) (Kd.R_base ho0)) (Kd.R_base ho1)) (Kd.R_base ho2)) (Kd.R_base ho3)) (fun _ h_ => h_.1)); have n3_ := Aside0.mk (Kd.R_mono (Kd.R_told (Kd.R_told (Kd.R_told (Kd.R_told (Kd.R_old (by (with_reducible repeat (first | apply Kd.R_alloc | apply Kd.R_drewN | apply Kd.R_drew)); exact HO533.out) hb) (Kd.R_base ho0)) (Kd.R_base ho1)) (Kd.R_base ho2)) (Kd.R_base ho3)) (fun _ h_ => h_.1)); have n4_ := Aside0.mk (Kd.R_mono (Kd.R_told (Kd.R_told (Kd.R_told (Kd.R_told (Kd.R_old (by (with_reducible repeat (first | apply Kd.R_alloc | apply Kd.R_drewN | apply Kd.R_drew)); exact HO536.out) hb) (Kd.R_base ho0)) (Kd.R_base ho1)) (Kd.R_base ho2)) (Kd.R_base ho3)) (fun _ h_ => h_.1)); have n5_ := Aside0.mk (Kd.R_mono (Kd.R_told (Kd.R_told (Kd.R_told (Kd.R_told (Kd.R_old (by (with_reducible repeat (first | apply Kd.R_alloc | apply Kd.R_drewN | apply Kd.R_drew)); exact HO539.out) hb) (Kd.R_base ho0)) (Kd.R_base ho1)) (Kd.R_base ho2)) (Kd.R_base ho3)) (fun _ h_ => h_.1)); have n6_ := Aside0.mk (Kd.R_lower (Kd.R_new' (Kd.R_new' (Kd.R_new' (Kd.R_new' ho0 (Kd.R_lt (by (with_reducible repeat (first | apply Kd.R_alloc | apply Kd.R_drewN | apply Kd.R_drew)); exact HO530.out))) (Kd.R_lt (by (with_reducible repeat (first | apply Kd.R_alloc | apply Kd.R_drewN | apply Kd.R_drew)); exact HO533.out))) (Kd.R_lt (by (with_reducible repeat (first | apply Kd.R_alloc | apply Kd.R_drewN | apply Kd.R_drew)); exact HO536.out))) (Kd.R_lt (by (with_reducible repeat (first | apply Kd.R_alloc | apply Kd.R_drewN | apply Kd.R_drew)); exact HO539.out))) (below_size (by repeat (first | (with_reducible first | exact HB.out | apply below_alloc | apply pw_below_drewN | apply below_drew1 | refine below_set ?_ GE476.out) | exact HB.out)))); have n7_ := Aside0.mk (Kd.R_lower (Kd.R_new' (Kd.R_new' (Kd.R_new' (Kd.R_new' ho1 (Kd.R_lt (by (with_reducible repeat (first | apply Kd.R_alloc | apply Kd.R_drewN | apply Kd.R_drew)); exact HO530.out))) (Kd.R_lt (by (with_reducible repeat (first | apply Kd.R_alloc | apply Kd.R_drewN | apply Kd.R_drew)); exact HO533.out))) (Kd.R_lt (by (with_reducible repeat (first | apply Kd.R_alloc | apply Kd.R_drewN | apply Kd.R_drew)); exact HO536.out))) (Kd.R_lt (by (with_reducible repeat (first | apply Kd.R_alloc | apply Kd.R_drewN | apply Kd.R_drew)); exact HO539.out))) (below_size (by repeat (first | (with_reducible first | exact HB.out | apply below_alloc | apply pw_below_drewN | apply below_drew1 | refine below_set ?_ GE476.out) | exact HB.out)))); have n8_ := Aside0.mk (Kd.R_lower (Kd.R_new' (Kd.R_new' (Kd.R_new' (Kd.R_new' ho2 (Kd.R_lt (by (with_reducible repeat (first | apply Kd.R_alloc | apply Kd.R_drewN | apply Kd.R_drew)); exact HO530.out))) (Kd.R_lt (by (with_reducible repeat (first | apply Kd.R_alloc | apply Kd.R_drewN | apply Kd.R_drew)); exact HO533.out))) (Kd.R_lt (by (with_reducible repeat (first | apply Kd.R_alloc | apply Kd.R_drewN | apply Kd.R_drew)); exact HO536.out))) (Kd.R_lt (by (with_reducible repeat (first | apply Kd.R_alloc | apply Kd.R_drewN | apply Kd.R_drew)); exact HO539.out))) (below_size (by repeat (first | (with_reducible first | exact HB.out | apply below_alloc | apply pw_below_drewN | apply below_drew1 | refine below_set ?_ GE476.out) | exact HB.out)))); have n9_ := Aside0.mk (Kd.R_lower (Kd.R_new' (Kd.R_new' (Kd.R_new' (Kd.R_new' ho3 (Kd.R_lt (by (with_reducible repeat (first | apply Kd.R_alloc | apply Kd.R_drewN | apply Kd.R_drew)); exact HO530.out))) (Kd.R_lt (by (with_reducible repeat (first | apply Kd.R_alloc | apply Kd.R_drewN | apply Kd.R_drew)); exact HO533.out))) (Kd.R_lt (by (with_reducible repeat (first | apply Kd.R_alloc | apply Kd.R_drewN | apply Kd.R_drew)); exact HO536.out))) (Kd.R_lt (by (with_reducible repeat (first | apply Kd.R_alloc | apply Kd.R_drewN | apply Kd.R_drew)); exact HO539.out))) (below_size (by repeat (first | (with_reducible first | exact HB.out | apply below_alloc | apply pw_below_drewN | apply below_drew1 | refine below_set ?_ GE476.out) | exact HB.out)))); have n10_ := Aside0.mk (blk_below (g := gb476) (o := .cells #[.int .i64 a0_0, .int .i64 a0_1, .slice A0_2 l0_2.length c0_2, .slice A0_3 l0_3.length c0_3, .slice A0_4 l0_4.length c0_4, .slice A0_5 l0_5.length c0_5] 61 (0, 0)) (by (with_reducible repeat (first | refine blk_drewN ?_ _ | refine blk_drew ?_ | refine blk_alloc ?_ _)); exact BK476.out) hb); have n11_ := Aside0.mk (below_step (by repeat (first | (with_reducible first | exact HB.out | apply below_alloc | apply pw_below_drewN | apply below_drew1 | refine below_set ?_ GE476.out) | exact HB.out)) hb); clear HO_13; clear HO_14; clear HO530; clear HO533; clear HO536; clear HO539; clear BK476; clear HB; have HO_13 := n0_; have HO_14 := n1_; have HO530 := n2_; have HO533 := n3_; have HO536 := n4_; have HO539 := n5_; have HO546 := n6_; have HO549 := n7_; have HO552 := n8_; have HO555 := n9_; have BK476 := n10_; have HB := n11_; clear n0_ n1_ n2_ n3_ n4_ n5_ n6_ n7_ n8_ n9_ n10_ n11_; (try clear hb); (try clear hb2); (try clear hk); (try clear hi); (try clear ho0); (try clear ho1); (try clear ho2); (try clear ho3); obtain ⟨Ao100, co100, eo100⟩ := Kd.R_slice HO546.out; subst eo100; obtain ⟨Ao101, co101, eo101⟩ := Kd.R_slice HO549.out; subst eo101; obtain ⟨Ao102, co102, eo102⟩ := Kd.R_slice HO552.out; subst eo102; obtain ⟨Ao103, co103, eo103⟩ := Kd.R_slice HO555.out; subst eo103; obtain ⟨Ao104, co104, eo104⟩ := Kd.R_slice HO_14.out; subst eo104) | ((with_reducible refine gate_callee (f := 31) rfl ?_); refine goesL_ (some 98) rfl rfl Try.func31 (by kernel_rfl) rfl #[.agg #[.int .i64 t542, .int .i64 t543, .slice Ao100 t544.length co100, .slice Ao101 t547.length co101, .slice Ao102 t550.length co102, .slice Ao103 t553.length co103], .int .i64 a1, .slice Ao104 x14_2.length co104] rfl (by (try simp only [List.map_toArray, List.map_cons, List.map_nil]); first | done | rfl | (simp only [List.length_drop, List.length_take]; rfl)) ?_; (with_reducible refine (wax_Energy.calls k2 t542 t543 _ _ t544 _ _ t547 _ _ t550 _ _ t553 a1 _ _ x14_2 t556 t557 _ ?side1 ?side2 ?side3 ?side4 ?side5 ?side6 ?side7 ?side8 ?side9 ?side10 A52.out).mono ?_); (case side1 => repeat (first | exact (Kd.R_reads' HO546.out).2.2 | (with_reducible refine Kd.C_alloc ?_ _) | (with_reducible refine Kd.C_drewN ?_ _) | (with_reducible refine Kd.C_drew ?_))); (case side2 => exact (Kd.R_reads' HO546.out).2.1); (case side3 => repeat (first | exact (Kd.R_reads' HO549.out).2.2 | (with_reducible refine Kd.C_alloc ?_ _) | (with_reducible refine Kd.C_drewN ?_ _) | (with_reducible refine Kd.C_drew ?_))); (case side4 => exact (Kd.R_reads' HO549.out).2.1); (case side5 => repeat (first | exact (Kd.R_reads' HO552.out).2.2 | (with_reducible refine Kd.C_alloc ?_ _) | (with_reducible refine Kd.C_drewN ?_ _) | (with_reducible refine Kd.C_drew ?_))); (case side6 => exact (Kd.R_reads' HO552.out).2.1); (case side7 => repeat (first | exact (Kd.R_reads' HO555.out).2.2 | (with_reducible refine Kd.C_alloc ?_ _) | (with_reducible refine Kd.C_drewN ?_ _) | (with_reducible refine Kd.C_drew ?_))); (case side8 => exact (Kd.R_reads' HO555.out).2.1); (case side9 => repeat (first | exact (Kd.R_reads' HO_14.out).2.2 | (with_reducible refine Kd.C_alloc ?_ _) | (with_reducible refine Kd.C_drewN ?_ _) | (with_reducible refine Kd.C_drew ?_))); (case side10 => exact (Kd.R_reads' HO_14.out).2.1); rintro e w105 ⟨rfl, hb⟩; refine ⟨_, rfl, ?_⟩; have n0_ := Aside0.mk (Kd.R_below (by (with_reducible repeat (first | apply Kd.R_alloc | apply Kd.R_drewN | apply Kd.R_drew)); exact HO_13.out) hb); have n1_ := Aside0.mk (Kd.R_below (by (with_reducible repeat (first | apply Kd.R_alloc | apply Kd.R_drewN | apply Kd.R_drew)); exact HO_14.out) hb); have n2_ := Aside0.mk (Kd.R_below (by (with_reducible repeat (first | apply Kd.R_alloc | apply Kd.R_drewN | apply Kd.R_drew)); exact HO530.out) hb); have n3_ := Aside0.mk (Kd.R_below (by (with_reducible repeat (first | apply Kd.R_alloc | apply Kd.R_drewN | apply Kd.R_drew)); exact HO533.out) hb); have n4_ := Aside0.mk (Kd.R_below (by (with_reducible repeat (first | apply Kd.R_alloc | apply Kd.R_drewN | apply Kd.R_drew)); exact HO536.out) hb); have n5_ := Aside0.mk (Kd.R_below (by (with_reducible repeat (first | apply Kd.R_alloc | apply Kd.R_drewN | apply Kd.R_drew)); exact HO539.out) hb); have n6_ := Aside0.mk (Kd.R_below (by (with_reducible repeat (first | apply Kd.R_alloc | apply Kd.R_drewN | apply Kd.R_drew)); exact HO546.out) hb); have n7_ := Aside0.mk (Kd.R_below (by (with_reducible repeat (first | apply Kd.R_alloc | apply Kd.R_drewN | apply Kd.R_drew)); exact HO549.out) hb); have n8_ := Aside0.mk (Kd.R_below (by (with_reducible repeat (first | apply Kd.R_alloc | apply Kd.R_drewN | apply Kd.R_drew)); exact HO552.out) hb); have n9_ := Aside0.mk (Kd.R_below (by (with_reducible repeat (first | apply Kd.R_alloc | apply Kd.R_drewN | apply Kd.R_drew)); exact HO555.out) hb); have n10_ := Aside0.mk (blk_below (g := gb476) (o := .cells #[.int .i64 a0_0, .int .i64 a0_1, .slice A0_2 l0_2.length c0_2, .slice A0_3 l0_3.length c0_3, .slice A0_4 l0_4.length c0_4, .slice A0_5 l0_5.length c0_5] 61 (0, 0)) (by (with_reducible repeat (first | refine blk_drewN ?_ _ | refine blk_drew ?_ | refine blk_alloc ?_ _)); exact BK476.out) hb); have n11_ := Aside0.mk (below_step (by repeat (first | (with_reducible first | exact HB.out | apply below_alloc | apply pw_below_drewN | apply below_drew1 | refine below_set ?_ GE476.out) | exact HB.out)) hb); clear HO_13; clear HO_14; clear HO530; clear HO533; clear HO536; clear HO539; clear HO546; clear HO549; clear HO552; clear HO555; clear BK476; clear HB; have HO_13 := n0_; have HO_14 := n1_; have HO530 := n2_; have HO533 := n3_; have HO536 := n4_; have HO539 := n5_; have HO546 := n6_; have HO549 := n7_; have HO552 := n8_; have HO555 := n9_; have BK476 := n10_; have HB := n11_; clear n0_ n1_ n2_ n3_ n4_ n5_ n6_ n7_ n8_ n9_ n10_ n11_; (try clear hb); (try clear hb2); (try clear hk); (try clear hi)))
                  go_ret
                  exact ⟨by first | rfl | (simp [errW_none, errW_some] <;> rfl) | (simp [*, errW_none, errW_some] <;> rfl), by repeat (first | (with_reducible first | exact HB.out | apply below_alloc | apply pw_below_drewN | apply below_drew1 | refine below_set ?_ GE476.out) | exact HB.out)⟩
              · rw [if_neg c53] at H
                have c53b0 : (t541 == 0) = false := beq_eq_false_iff_ne.mpr c53
                have c53b1 : (t541 != 0) = true := bne_iff_ne.mpr c53
                obtain rfl := Option.some.inj H
                have hcz106_0 : wr.cell? ⟨gb476, 0, none⟩ = some (.int .i64 a0_0) := (blk_cell BK476.out 0).trans rfl
                have hcz106_1 : wr.cell? ⟨gb476, 1, none⟩ = some (.int .i64 a0_1) := (blk_cell BK476.out 1).trans rfl
                have hcz106_2 : wr.cell? ⟨gb476, 2, none⟩ = some (.slice A0_2 l0_2.length c0_2) := (blk_cell BK476.out 2).trans rfl
                have hcz106_3 : wr.cell? ⟨gb476, 3, none⟩ = some (.slice A0_3 l0_3.length c0_3) := (blk_cell BK476.out 3).trans rfl
                have hcz106_4 : wr.cell? ⟨gb476, 4, none⟩ = some (.slice A0_4 l0_4.length c0_4) := (blk_cell BK476.out 4).trans rfl
                have hcz106_5 : wr.cell? ⟨gb476, 5, none⟩ = some (.slice A0_5 l0_5.length c0_5) := (blk_cell BK476.out 5).trans rfl
                have hfz106_0 := blk_frozen BK476.out 0
                have hfz106_1 := blk_frozen BK476.out 1
                have hfz106_2 := blk_frozen BK476.out 2
                have hfz106_3 := blk_frozen BK476.out 3
                have hfz106_4 := blk_frozen BK476.out 4
                have hfz106_5 := blk_frozen BK476.out 5
                go_wp2_with (first | ((with_reducible refine gate_callee (f := 32) rfl ?_); refine goesL_ (some 87) rfl rfl Try.func32 (by kernel_rfl) rfl #[.agg #[.int .i64 a0_0, .int .i64 a0_1, .slice A0_2 l0_2.length c0_2, .slice A0_3 l0_3.length c0_3, .slice A0_4 l0_4.length c0_4, .slice A0_5 l0_5.length c0_5]] rfl (by (try simp only [List.map_toArray, List.map_cons, List.map_nil]); first | done | rfl | (simp only [List.length_drop, List.length_take]; rfl)) ?_; (with_reducible refine (cantinglaw07_cloth.calls a0_0 a0_1 _ _ l0_2 _ _ l0_3 _ _ l0_4 _ _ l0_5 t526 t527 t528 t531 t534 t537 _ ?side1 ?side2 ?side3 ?side4 ?side5 ?side6 ?side7 ?side8 A49.out).mono ?_); (case side1 => repeat (first | exact (Kd.C_below HR0_2.out HB.out) | (with_reducible refine Kd.C_alloc ?_ _) | (with_reducible refine Kd.C_drewN ?_ _) | (with_reducible refine Kd.C_drew ?_))); (case side2 => exact HC0_2.out); (case side3 => repeat (first | exact (Kd.C_below HR0_3.out HB.out) | (with_reducible refine Kd.C_alloc ?_ _) | (with_reducible refine Kd.C_drewN ?_ _) | (with_reducible refine Kd.C_drew ?_))); (case side4 => exact HC0_3.out); (case side5 => repeat (first | exact (Kd.C_below HR0_4.out HB.out) | (with_reducible refine Kd.C_alloc ?_ _) | (with_reducible refine Kd.C_drewN ?_ _) | (with_reducible refine Kd.C_drew ?_))); (case side6 => exact HC0_4.out); (case side7 => repeat (first | exact (Kd.C_below HR0_5.out HB.out) | (with_reducible refine Kd.C_alloc ?_ _) | (with_reducible refine Kd.C_drewN ?_ _) | (with_reducible refine Kd.C_drew ?_))); (case side8 => exact HC0_5.out); rintro e w107 ⟨v529, v532, v535, v538, rfl, ho0, ho1, ho2, ho3, hb⟩; refine ⟨_, rfl, ?_⟩; have n0_ := Aside0.mk (Kd.R_below (by (with_reducible repeat (first | apply Kd.R_alloc | apply Kd.R_drewN | apply Kd.R_drew)); exact HO_13.out) hb); have n1_ := Aside0.mk (Kd.R_below (by (with_reducible repeat (first | apply Kd.R_alloc | apply Kd.R_drewN | apply Kd.R_drew)); exact HO_14.out) hb); have n2_ := Aside0.mk (Kd.R_lower ho0 (below_size (by repeat (first | (with_reducible first | exact HB.out | apply below_alloc | apply pw_below_drewN | apply below_drew1 | refine below_set ?_ GE476.out) | exact HB.out)))); have n3_ := Aside0.mk (Kd.R_lower ho1 (below_size (by repeat (first | (with_reducible first | exact HB.out | apply below_alloc | apply pw_below_drewN | apply below_drew1 | refine below_set ?_ GE476.out) | exact HB.out)))); have n4_ := Aside0.mk (Kd.R_lower ho2 (below_size (by repeat (first | (with_reducible first | exact HB.out | apply below_alloc | apply pw_below_drewN | apply below_drew1 | refine below_set ?_ GE476.out) | exact HB.out)))); have n5_ := Aside0.mk (Kd.R_lower ho3 (below_size (by repeat (first | (with_reducible first | exact HB.out | apply below_alloc | apply pw_below_drewN | apply below_drew1 | refine below_set ?_ GE476.out) | exact HB.out)))); have n6_ := Aside0.mk (blk_below (g := gb476) (o := .cells #[.int .i64 a0_0, .int .i64 a0_1, .slice A0_2 l0_2.length c0_2, .slice A0_3 l0_3.length c0_3, .slice A0_4 l0_4.length c0_4, .slice A0_5 l0_5.length c0_5] 61 (0, 0)) (by (with_reducible repeat (first | refine blk_drewN ?_ _ | refine blk_drew ?_ | refine blk_alloc ?_ _)); exact BK476.out) hb); have n7_ := Aside0.mk (below_step (by repeat (first | (with_reducible first | exact HB.out | apply below_alloc | apply pw_below_drewN | apply below_drew1 | refine below_set ?_ GE476.out) | exact HB.out)) hb); clear HO_13; clear HO_14; clear BK476; clear HB; have HO_13 := n0_; have HO_14 := n1_; have HO530 := n2_; have HO533 := n3_; have HO536 := n4_; have HO539 := n5_; have BK476 := n6_; have HB := n7_; clear n0_ n1_ n2_ n3_ n4_ n5_ n6_ n7_; (try clear hb); (try clear hb2); (try clear hk); (try clear hi); (try clear ho0); (try clear ho1); (try clear ho2); (try clear ho3); obtain ⟨Ao108, co108, eo108⟩ := Kd.R_slice HO530.out; subst eo108; obtain ⟨Ao109, co109, eo109⟩ := Kd.R_slice HO533.out; subst eo109; obtain ⟨Ao110, co110, eo110⟩ := Kd.R_slice HO536.out; subst eo110; obtain ⟨Ao111, co111, eo111⟩ := Kd.R_slice HO539.out; subst eo111; obtain ⟨Ao112, co112, eo112⟩ := Kd.R_slice HO_13.out; subst eo112) | ((with_reducible refine gate_callee (f := 31) rfl ?_); refine goesL_ (some 90) rfl rfl Try.func31 (by kernel_rfl) rfl #[.agg #[.int .i64 t526, .int .i64 t527, .slice Ao108 t528.length co108, .slice Ao109 t531.length co109, .slice Ao110 t534.length co110, .slice Ao111 t537.length co111], .int .i64 a1, .slice Ao112 x13_2.length co112] rfl (by (try simp only [List.map_toArray, List.map_cons, List.map_nil]); first | done | rfl | (simp only [List.length_drop, List.length_take]; rfl)) ?_; (with_reducible refine (wax_Energy.calls k2 t526 t527 _ _ t528 _ _ t531 _ _ t534 _ _ t537 a1 _ _ x13_2 t540 t541 _ ?side1 ?side2 ?side3 ?side4 ?side5 ?side6 ?side7 ?side8 ?side9 ?side10 A50.out).mono ?_); (case side1 => repeat (first | exact (Kd.R_reads' HO530.out).2.2 | (with_reducible refine Kd.C_alloc ?_ _) | (with_reducible refine Kd.C_drewN ?_ _) | (with_reducible refine Kd.C_drew ?_))); (case side2 => exact (Kd.R_reads' HO530.out).2.1); (case side3 => repeat (first | exact (Kd.R_reads' HO533.out).2.2 | (with_reducible refine Kd.C_alloc ?_ _) | (with_reducible refine Kd.C_drewN ?_ _) | (with_reducible refine Kd.C_drew ?_))); (case side4 => exact (Kd.R_reads' HO533.out).2.1); (case side5 => repeat (first | exact (Kd.R_reads' HO536.out).2.2 | (with_reducible refine Kd.C_alloc ?_ _) | (with_reducible refine Kd.C_drewN ?_ _) | (with_reducible refine Kd.C_drew ?_))); (case side6 => exact (Kd.R_reads' HO536.out).2.1); (case side7 => repeat (first | exact (Kd.R_reads' HO539.out).2.2 | (with_reducible refine Kd.C_alloc ?_ _) | (with_reducible refine Kd.C_drewN ?_ _) | (with_reducible refine Kd.C_drew ?_))); (case side8 => exact (Kd.R_reads' HO539.out).2.1); (case side9 => repeat (first | exact (Kd.R_reads' HO_13.out).2.2 | (with_reducible refine Kd.C_alloc ?_ _) | (with_reducible refine Kd.C_drewN ?_ _) | (with_reducible refine Kd.C_drew ?_))); (case side10 => exact (Kd.R_reads' HO_13.out).2.1); rintro e w113 ⟨rfl, hb⟩; refine ⟨_, rfl, ?_⟩; have n0_ := Aside0.mk (Kd.R_below (by (with_reducible repeat (first | apply Kd.R_alloc | apply Kd.R_drewN | apply Kd.R_drew)); exact HO_13.out) hb); have n1_ := Aside0.mk (Kd.R_below (by (with_reducible repeat (first | apply Kd.R_alloc | apply Kd.R_drewN | apply Kd.R_drew)); exact HO_14.out) hb); have n2_ := Aside0.mk (Kd.R_below (by (with_reducible repeat (first | apply Kd.R_alloc | apply Kd.R_drewN | apply Kd.R_drew)); exact HO530.out) hb); have n3_ := Aside0.mk (Kd.R_below (by (with_reducible repeat (first | apply Kd.R_alloc | apply Kd.R_drewN | apply Kd.R_drew)); exact HO533.out) hb); have n4_ := Aside0.mk (Kd.R_below (by (with_reducible repeat (first | apply Kd.R_alloc | apply Kd.R_drewN | apply Kd.R_drew)); exact HO536.out) hb); have n5_ := Aside0.mk (Kd.R_below (by (with_reducible repeat (first | apply Kd.R_alloc | apply Kd.R_drewN | apply Kd.R_drew)); exact HO539.out) hb); have n6_ := Aside0.mk (blk_below (g := gb476) (o := .cells #[.int .i64 a0_0, .int .i64 a0_1, .slice A0_2 l0_2.length c0_2, .slice A0_3 l0_3.length c0_3, .slice A0_4 l0_4.length c0_4, .slice A0_5 l0_5.length c0_5] 61 (0, 0)) (by (with_reducible repeat (first | refine blk_drewN ?_ _ | refine blk_drew ?_ | refine blk_alloc ?_ _)); exact BK476.out) hb); have n7_ := Aside0.mk (below_step (by repeat (first | (with_reducible first | exact HB.out | apply below_alloc | apply pw_below_drewN | apply below_drew1 | refine below_set ?_ GE476.out) | exact HB.out)) hb); clear HO_13; clear HO_14; clear HO530; clear HO533; clear HO536; clear HO539; clear BK476; clear HB; have HO_13 := n0_; have HO_14 := n1_; have HO530 := n2_; have HO533 := n3_; have HO536 := n4_; have HO539 := n5_; have BK476 := n6_; have HB := n7_; clear n0_ n1_ n2_ n3_ n4_ n5_ n6_ n7_; (try clear hb); (try clear hb2); (try clear hk); (try clear hi); have hcz114_0 : w113.cell? ⟨gb476, 0, none⟩ = some (.int .i64 a0_0) := (blk_cell BK476.out 0).trans rfl; have hcz114_1 : w113.cell? ⟨gb476, 1, none⟩ = some (.int .i64 a0_1) := (blk_cell BK476.out 1).trans rfl; have hcz114_2 : w113.cell? ⟨gb476, 2, none⟩ = some (.slice A0_2 l0_2.length c0_2) := (blk_cell BK476.out 2).trans rfl; have hcz114_3 : w113.cell? ⟨gb476, 3, none⟩ = some (.slice A0_3 l0_3.length c0_3) := (blk_cell BK476.out 3).trans rfl; have hcz114_4 : w113.cell? ⟨gb476, 4, none⟩ = some (.slice A0_4 l0_4.length c0_4) := (blk_cell BK476.out 4).trans rfl; have hcz114_5 : w113.cell? ⟨gb476, 5, none⟩ = some (.slice A0_5 l0_5.length c0_5) := (blk_cell BK476.out 5).trans rfl; have hfz114_0 := blk_frozen BK476.out 0; have hfz114_1 := blk_frozen BK476.out 1; have hfz114_2 := blk_frozen BK476.out 2; have hfz114_3 := blk_frozen BK476.out 3; have hfz114_4 := blk_frozen BK476.out 4; have hfz114_5 := blk_frozen BK476.out 5) | ((with_reducible refine gate_callee (f := 32) rfl ?_); refine goesL_ (some 95) rfl rfl Try.func32 (by kernel_rfl) rfl #[.agg #[.int .i64 a0_0, .int .i64 a0_1, .slice A0_2 l0_2.length c0_2, .slice A0_3 l0_3.length c0_3, .slice A0_4 l0_4.length c0_4, .slice A0_5 l0_5.length c0_5]] rfl (by (try simp only [List.map_toArray, List.map_cons, List.map_nil]); first | done | rfl | (simp only [List.length_drop, List.length_take]; rfl)) ?_; (with_reducible refine (cantinglaw07_cloth.calls a0_0 a0_1 _ _ l0_2 _ _ l0_3 _ _ l0_4 _ _ l0_5 t542 t543 t544 t547 t550 t553 _ ?side1 ?side2 ?side3 ?side4 ?side5 ?side6 ?side7 ?side8 A51.out).mono ?_); (case side1 => repeat (first | exact (Kd.C_below HR0_2.out HB.out) | (with_reducible refine Kd.C_alloc ?_ _) | (with_reducible refine Kd.C_drewN ?_ _) | (with_reducible refine Kd.C_drew ?_))); (case side2 => exact HC0_2.out); (case side3 => repeat (first | exact (Kd.C_below HR0_3.out HB.out) | (with_reducible refine Kd.C_alloc ?_ _) | (with_reducible refine Kd.C_drewN ?_ _) | (with_reducible refine Kd.C_drew ?_))); (case side4 => exact HC0_3.out); (case side5 => repeat (first | exact (Kd.C_below HR0_4.out HB.out) | (with_reducible refine Kd.C_alloc ?_ _) | (with_reducible refine Kd.C_drewN ?_ _) | (with_reducible refine Kd.C_drew ?_))); (case side6 => exact HC0_4.out); (case side7 => repeat (first | exact (Kd.C_below HR0_5.out HB.out) | (with_reducible refine Kd.C_alloc ?_ _) | (with_reducible refine Kd.C_drewN ?_ _) | (with_reducible refine Kd.C_drew ?_))); (case side8 => exact HC0_5.out); rintro e w115 ⟨v545, v548, v551, v554, rfl, ho0, ho1, ho2, ho3, hb⟩; refine ⟨_, rfl, ?_⟩; have n0_ := Aside0.mk (Kd.R_below (by (with_reducible repeat (first | apply Kd.R_alloc | apply Kd.R_drewN | apply Kd.R_drew)); exact HO_13.out) hb); have n1_ := Aside0.mk (Kd.R_below (by (with_reducible repeat (first | apply Kd.R_alloc | apply Kd.R_drewN | apply Kd.R_drew)); exact HO_14.out) hb); have n2_ := Aside0.mk (Kd.R_mono (Kd.R_told (Kd.R_told (Kd.R_told (Kd.R_told (Kd.R_old (by (with_reducible repeat (first | apply Kd.R_alloc | apply Kd.R_drewN | apply Kd.R_drew)); exact HO530.out) hb) (Kd.R_base ho0)) (Kd.R_base ho1)) (Kd.R_base ho2)) (Kd.R_base ho3)) (fun _ h_ => h_.1)); have n3_ := Aside0.mk (Kd.R_mono (Kd.R_told (Kd.R_told (Kd.R_told (Kd.R_told (Kd.R_old (by (with_reducible repeat (first | apply Kd.R_alloc | apply Kd.R_drewN | apply Kd.R_drew)); exact HO533.out) hb) (Kd.R_base ho0)) (Kd.R_base ho1)) (Kd.R_base ho2)) (Kd.R_base ho3)) (fun _ h_ => h_.1)); have n4_ := Aside0.mk (Kd.R_mono (Kd.R_told (Kd.R_told (Kd.R_told (Kd.R_told (Kd.R_old (by (with_reducible repeat (first | apply Kd.R_alloc | apply Kd.R_drewN | apply Kd.R_drew)); exact HO536.out) hb) (Kd.R_base ho0)) (Kd.R_base ho1)) (Kd.R_base ho2)) (Kd.R_base ho3)) (fun _ h_ => h_.1)); have n5_ := Aside0.mk (Kd.R_mono (Kd.R_told (Kd.R_told (Kd.R_told (Kd.R_told (Kd.R_old (by (with_reducible repeat (first | apply Kd.R_alloc | apply Kd.R_drewN | apply Kd.R_drew)); exact HO539.out) hb) (Kd.R_base ho0)) (Kd.R_base ho1)) (Kd.R_base ho2)) (Kd.R_base ho3)) (fun _ h_ => h_.1)); have n6_ := Aside0.mk (Kd.R_lower (Kd.R_new' (Kd.R_new' (Kd.R_new' (Kd.R_new' ho0 (Kd.R_lt (by (with_reducible repeat (first | apply Kd.R_alloc | apply Kd.R_drewN | apply Kd.R_drew)); exact HO530.out))) (Kd.R_lt (by (with_reducible repeat (first | apply Kd.R_alloc | apply Kd.R_drewN | apply Kd.R_drew)); exact HO533.out))) (Kd.R_lt (by (with_reducible repeat (first | apply Kd.R_alloc | apply Kd.R_drewN | apply Kd.R_drew)); exact HO536.out))) (Kd.R_lt (by (with_reducible repeat (first | apply Kd.R_alloc | apply Kd.R_drewN | apply Kd.R_drew)); exact HO539.out))) (below_size (by repeat (first | (with_reducible first | exact HB.out | apply below_alloc | apply pw_below_drewN | apply below_drew1 | refine below_set ?_ GE476.out) | exact HB.out)))); have n7_ := Aside0.mk (Kd.R_lower (Kd.R_new' (Kd.R_new' (Kd.R_new' (Kd.R_new' ho1 (Kd.R_lt (by (with_reducible repeat (first | apply Kd.R_alloc | apply Kd.R_drewN | apply Kd.R_drew)); exact HO530.out))) (Kd.R_lt (by (with_reducible repeat (first | apply Kd.R_alloc | apply Kd.R_drewN | apply Kd.R_drew)); exact HO533.out))) (Kd.R_lt (by (with_reducible repeat (first | apply Kd.R_alloc | apply Kd.R_drewN | apply Kd.R_drew)); exact HO536.out))) (Kd.R_lt (by (with_reducible repeat (first | apply Kd.R_alloc | apply Kd.R_drewN | apply Kd.R_drew)); exact HO539.out))) (below_size (by repeat (first | (with_reducible first | exact HB.out | apply below_alloc | apply pw_below_drewN | apply below_drew1 | refine below_set ?_ GE476.out) | exact HB.out)))); have n8_ := Aside0.mk (Kd.R_lower (Kd.R_new' (Kd.R_new' (Kd.R_new' (Kd.R_new' ho2 (Kd.R_lt (by (with_reducible repeat (first | apply Kd.R_alloc | apply Kd.R_drewN | apply Kd.R_drew)); exact HO530.out))) (Kd.R_lt (by (with_reducible repeat (first | apply Kd.R_alloc | apply Kd.R_drewN | apply Kd.R_drew)); exact HO533.out))) (Kd.R_lt (by (with_reducible repeat (first | apply Kd.R_alloc | apply Kd.R_drewN | apply Kd.R_drew)); exact HO536.out))) (Kd.R_lt (by (with_reducible repeat (first | apply Kd.R_alloc | apply Kd.R_drewN | apply Kd.R_drew)); exact HO539.out))) (below_size (by repeat (first | (with_reducible first | exact HB.out | apply below_alloc | apply pw_below_drewN | apply below_drew1 | refine below_set ?_ GE476.out) | exact HB.out)))); have n9_ := Aside0.mk (Kd.R_lower (Kd.R_new' (Kd.R_new' (Kd.R_new' (Kd.R_new' ho3 (Kd.R_lt (by (with_reducible repeat (first | apply Kd.R_alloc | apply Kd.R_drewN | apply Kd.R_drew)); exact HO530.out))) (Kd.R_lt (by (with_reducible repeat (first | apply Kd.R_alloc | apply Kd.R_drewN | apply Kd.R_drew)); exact HO533.out))) (Kd.R_lt (by (with_reducible repeat (first | apply Kd.R_alloc | apply Kd.R_drewN | apply Kd.R_drew)); exact HO536.out))) (Kd.R_lt (by (with_reducible repeat (first | apply Kd.R_alloc | apply Kd.R_drewN | apply Kd.R_drew)); exact HO539.out))) (below_size (by repeat (first | (with_reducible first | exact HB.out | apply below_alloc | apply pw_below_drewN | apply below_drew1 | refine below_set ?_ GE476.out) | exact HB.out)))); have n10_ := Aside0.mk (blk_below (g := gb476) (o := .cells #[.int .i64 a0_0, .int .i64 a0_1, .slice A0_2 l0_2.length c0_2, .slice A0_3 l0_3.length c0_3, .slice A0_4 l0_4.length c0_4, .slice A0_5 l0_5.length c0_5] 61 (0, 0)) (by (with_reducible repeat (first | refine blk_drewN ?_ _ | refine blk_drew ?_ | refine blk_alloc ?_ _)); exact BK476.out) hb); have n11_ := Aside0.mk (below_step (by repeat (first | (with_reducible first | exact HB.out | apply below_alloc | apply pw_below_drewN | apply below_drew1 | refine below_set ?_ GE476.out) | exact HB.out)) hb); clear HO_13; clear HO_14; clear HO530; clear HO533; clear HO536; clear HO539; clear BK476; clear HB; have HO_13 := n0_; have HO_14 := n1_; have HO530 := n2_; have HO533 := n3_; have HO536 := n4_; have HO539 := n5_; have HO546 := n6_; have HO549 := n7_; have HO552 := n8_; have HO555 := n9_; have BK476 := n10_; have HB := n11_; clear n0_ n1_ n2_ n3_ n4_ n5_ n6_ n7_ n8_ n9_ n10_ n11_; (try clear hb); (try clear hb2); (try clear hk); (try clear hi); (try clear ho0); (try clear ho1); (try clear ho2); (try clear ho3); obtain ⟨Ao116, co116, eo116⟩ := Kd.R_slice HO546.out; subst eo116; obtain ⟨Ao117, co117, eo117⟩ := Kd.R_slice HO549.out; subst eo117; obtain ⟨Ao118, co118, eo118⟩ := Kd.R_slice HO552.out; subst eo118; obtain ⟨Ao119, co119, eo119⟩ := Kd.R_slice HO555.out; subst eo119; obtain ⟨Ao120, co120, eo120⟩ := Kd.R_slice HO_14.out; subst eo120) | ((with_reducible refine gate_callee (f := 31) rfl ?_); refine goesL_ (some 98) rfl rfl Try.func31 (by kernel_rfl) rfl #[.agg #[.int .i64 t542, .int .i64 t543, .slice Ao116 t544.length co116, .slice Ao117 t547.length co117, .slice Ao118 t550.length co118, .slice Ao119 t553.length co119], .int .i64 a1, .slice Ao120 x14_2.length co120] rfl (by (try simp only [List.map_toArray, List.map_cons, List.map_nil]); first | done | rfl | (simp only [List.length_drop, List.length_take]; rfl)) ?_; (with_reducible refine (wax_Energy.calls k2 t542 t543 _ _ t544 _ _ t547 _ _ t550 _ _ t553 a1 _ _ x14_2 t556 t557 _ ?side1 ?side2 ?side3 ?side4 ?side5 ?side6 ?side7 ?side8 ?side9 ?side10 A52.out).mono ?_); (case side1 => repeat (first | exact (Kd.R_reads' HO546.out).2.2 | (with_reducible refine Kd.C_alloc ?_ _) | (with_reducible refine Kd.C_drewN ?_ _) | (with_reducible refine Kd.C_drew ?_))); (case side2 => exact (Kd.R_reads' HO546.out).2.1); (case side3 => repeat (first | exact (Kd.R_reads' HO549.out).2.2 | (with_reducible refine Kd.C_alloc ?_ _) | (with_reducible refine Kd.C_drewN ?_ _) | (with_reducible refine Kd.C_drew ?_))); (case side4 => exact (Kd.R_reads' HO549.out).2.1); (case side5 => repeat (first | exact (Kd.R_reads' HO552.out).2.2 | (with_reducible refine Kd.C_alloc ?_ _) | (with_reducible refine Kd.C_drewN ?_ _) | (with_reducible refine Kd.C_drew ?_))); (case side6 => exact (Kd.R_reads' HO552.out).2.1); (case side7 => repeat (first | exact (Kd.R_reads' HO555.out).2.2 | (with_reducible refine Kd.C_alloc ?_ _) | (with_reducible refine Kd.C_drewN ?_ _) | (with_reducible refine Kd.C_drew ?_))); (case side8 => exact (Kd.R_reads' HO555.out).2.1); (case side9 => repeat (first | exact (Kd.R_reads' HO_14.out).2.2 | (with_reducible refine Kd.C_alloc ?_ _) | (with_reducible refine Kd.C_drewN ?_ _) | (with_reducible refine Kd.C_drew ?_))); (case side10 => exact (Kd.R_reads' HO_14.out).2.1); rintro e w121 ⟨rfl, hb⟩; refine ⟨_, rfl, ?_⟩; have n0_ := Aside0.mk (Kd.R_below (by (with_reducible repeat (first | apply Kd.R_alloc | apply Kd.R_drewN | apply Kd.R_drew)); exact HO_13.out) hb); have n1_ := Aside0.mk (Kd.R_below (by (with_reducible repeat (first | apply Kd.R_alloc | apply Kd.R_drewN | apply Kd.R_drew)); exact HO_14.out) hb); have n2_ := Aside0.mk (Kd.R_below (by (with_reducible repeat (first | apply Kd.R_alloc | apply Kd.R_drewN | apply Kd.R_drew)); exact HO530.out) hb); have n3_ := Aside0.mk (Kd.R_below (by (with_reducible repeat (first | apply Kd.R_alloc | apply Kd.R_drewN | apply Kd.R_drew)); exact HO533.out) hb); have n4_ := Aside0.mk (Kd.R_below (by (with_reducible repeat (first | apply Kd.R_alloc | apply Kd.R_drewN | apply Kd.R_drew)); exact HO536.out) hb); have n5_ := Aside0.mk (Kd.R_below (by (with_reducible repeat (first | apply Kd.R_alloc | apply Kd.R_drewN | apply Kd.R_drew)); exact HO539.out) hb); have n6_ := Aside0.mk (Kd.R_below (by (with_reducible repeat (first | apply Kd.R_alloc | apply Kd.R_drewN | apply Kd.R_drew)); exact HO546.out) hb); have n7_ := Aside0.mk (Kd.R_below (by (with_reducible repeat (first | apply Kd.R_alloc | apply Kd.R_drewN | apply Kd.R_drew)); exact HO549.out) hb); have n8_ := Aside0.mk (Kd.R_below (by (with_reducible repeat (first | apply Kd.R_alloc | apply Kd.R_drewN | apply Kd.R_drew)); exact HO552.out) hb); have n9_ := Aside0.mk (Kd.R_below (by (with_reducible repeat (first | apply Kd.R_alloc | apply Kd.R_drewN | apply Kd.R_drew)); exact HO555.out) hb); have n10_ := Aside0.mk (blk_below (g := gb476) (o := .cells #[.int .i64 a0_0, .int .i64 a0_1, .slice A0_2 l0_2.length c0_2, .slice A0_3 l0_3.length c0_3, .slice A0_4 l0_4.length c0_4, .slice A0_5 l0_5.length c0_5] 61 (0, 0)) (by (with_reducible repeat (first | refine blk_drewN ?_ _ | refine blk_drew ?_ | refine blk_alloc ?_ _)); exact BK476.out) hb); have n11_ := Aside0.mk (below_step (by repeat (first | (with_reducible first | exact HB.out | apply below_alloc | apply pw_below_drewN | apply below_drew1 | refine below_set ?_ GE476.out) | exact HB.out)) hb); clear HO_13; clear HO_14; clear HO530; clear HO533; clear HO536; clear HO539; clear HO546; clear HO549; clear HO552; clear HO555; clear BK476; clear HB; have HO_13 := n0_; have HO_14 := n1_; have HO530 := n2_; have HO533 := n3_; have HO536 := n4_; have HO539 := n5_; have HO546 := n6_; have HO549 := n7_; have HO552 := n8_; have HO555 := n9_; have BK476 := n10_; have HB := n11_; clear n0_ n1_ n2_ n3_ n4_ n5_ n6_ n7_ n8_ n9_ n10_ n11_; (try clear hb); (try clear hb2); (try clear hk); (try clear hi)))
                go_ret
                exact ⟨by first | rfl | (simp [errW_none, errW_some] <;> rfl) | (simp [*, errW_none, errW_some] <;> rfl), by repeat (first | (with_reducible first | exact HB.out | apply below_alloc | apply pw_below_drewN | apply below_drew1 | refine below_set ?_ GE476.out) | exact HB.out)⟩
end Go.Proofs.Ytbamanjedfccpaa.X
end

section
set_option linter.unusedVariables false
set_option linter.unusedSimpArgs false
namespace Go.Proofs.Ytbamanjedfccpaa.HTab
open Go.RowKit Go.Proofs.YtbamanjedfccpaaW.PrintWords Go.Proofs.YtbamanjedfccpaaW.PrintLast Go.Proofs.YtbamanjedfccpaaW.PrintMore Go.Proofs.Ytbamanjedfccpaa.X
set_option linter.unusedVariables false
set_option linter.unusedSimpArgs false
theorem pair_mod (S T A B : List Bool) : ∀ l : List S100, (∀ p ∈ l, 0 ≤ p.f2) → (∀ p ∈ l, ∀ x : Int, x = p.f0 ∨ x = p.f1 → rdOf false A x = (rdOf false S x && rdOf false T x) ∧ rdOf false B x = (rdOf false S x || rdOf false T x)) → pairE A l + pairE B l ≤ pairE S l + pairE T l
  | [], _, _ => by simp [pairE]
  | p :: l, h, hr => by
    have ih := pair_mod S T A B l (fun q hq => h q (List.mem_cons_of_mem _ hq)) (fun q hq => hr q (List.mem_cons_of_mem _ hq))
    have hp := h p (List.mem_cons_self ..)
    have r0 := hr p (List.mem_cons_self ..) p.f0 (.inl rfl)
    have r1 := hr p (List.mem_cons_self ..) p.f1 (.inr rfl)
    simp only [pairE]
    rw [r0.1, r0.2, r1.1, r1.2]
    rcases Bool.eq_false_or_eq_true (rdOf false S p.f0) with h1 | h1 <;> rcases Bool.eq_false_or_eq_true (rdOf false S p.f1) with h2 | h2 <;> rcases Bool.eq_false_or_eq_true (rdOf false T p.f0) with h3 | h3 <;> rcases Bool.eq_false_or_eq_true (rdOf false T p.f1) with h4 | h4 <;> simp [h1, h2, h3, h4] <;> omega
theorem en_mod {W H : Int} {l2 l3 l4 l5 : List Int} (hc : ClOK W H l2 l3 l4 l5) (r : Int) (S T A B : List Bool) (hr : ∀ x : Int, 0 ≤ x → x < W * H → rdOf false A x = (rdOf false S x && rdOf false T x) ∧ rdOf false B x = (rdOf false S x || rdOf false T x)) :
    enE W H l2 l3 l4 l5 r A + enE W H l2 l3 l4 l5 r B ≤ enE W H l2 l3 l4 l5 r S + enE W H l2 l3 l4 l5 r T := by
  have hn := hc.n
  have h1 := pair_mod S T A B (pairsL W l4 l5) (fun p hp => (pairs_in hc p hp).2.2.2.2.1) (fun p hp x hx => by
    obtain ⟨a, b, c, d, _⟩ := pairs_in hc p hp
    rcases hx with rfl | rfl
    · exact hr _ a b
    · exact hr _ c d)
  have h2 : sumF (cellE l2 l3 r A) (W * H).toNat + sumF (cellE l2 l3 r B) (W * H).toNat = sumF (cellE l2 l3 r S) (W * H).toNat + sumF (cellE l2 l3 r T) (W * H).toNat := by
    rw [← sumF_add, ← sumF_add]
    refine sumF_congr _ (fun v v0 v1 => ?_)
    obtain ⟨a, b⟩ := hr v v0 (by omega)
    unfold cellE
    rw [a, b]
    cases rdOf false S v <;> cases rdOf false T v <;> simp <;> omega
  unfold enE
  omega
theorem mod_l0 (r n1 m1 W H : Int) (l2 l3 l4 l5 : List Int) (a b : List Bool) (hab : a.length = b.length) (hl : a.length ≤ 1000) : ∀ (d i g : Nat), i + d = a.length →
    cantinglaw07_WaxModular.l0 (g + d + 1) r b n1 m1 (andP a b i) (orP a b i) a a.length i W H l2 l3 l4 l5 = cantinglaw07_WaxModular.l0 (g + 1) r b n1 m1 (andP a b a.length) (orP a b a.length) a a.length a.length W H l2 l3 l4 l5
  | 0, i, g, h => by
    obtain rfl : i = a.length := by omega
    rfl
  | d + 1, i, g, h => by
    have ih := mod_l0 r n1 m1 W H l2 l3 l4 l5 a b hab hl d (i + 1) g (by omega)
    rw [andP_succ, orP_succ] at ih
    have e1 := andP_len a b i
    have e2 := orP_len a b i
    rw [show g + (d + 1) + 1 = (g + d + 1) + 1 by omega, cantinglaw07_WaxModular.l0]
    rw [if_pos (by omega), if_pos (by omega), if_pos (by omega), e1, e2, show wrap64 ((i : Int) + 1) = ((i + 1 : Nat) : Int) from wrap_add1 (by omega) (by omega)]
    cases ha : rdOf false a (i : Int) with
    | true =>
      rw [ha] at ih
      rw [if_pos rfl, if_pos (by omega), if_pos (by omega), if_pos (by omega)]
      exact ih
    | false =>
      rw [ha] at ih
      rw [if_neg (by decide), if_pos (by omega), if_pos (by omega), if_pos (by omega)]
      exact ih
theorem modular_k (W H : Int) (l2 l3 l4 l5 : List Int) (r : Int) (a b : List Bool) (K : Nat) (hK : 1000 ≤ K) : cantinglaw07_WaxModular.f (K + 1) W H l2 l3 l4 l5 r a b = some true := by
  unfold cantinglaw07_WaxModular.f
  rw [cloth_f]
  simp only [Option.bind_some]
  obtain ⟨m2, e2⟩ : ∃ m, m = l2.take 50 := ⟨_, rfl⟩
  obtain ⟨m3, e3⟩ : ∃ m, m = l3.take 50 := ⟨_, rfl⟩
  obtain ⟨m4, e4⟩ : ∃ m, m = l4.take 50 := ⟨_, rfl⟩
  obtain ⟨m5, e5⟩ : ∃ m, m = l5.take 50 := ⟨_, rfl⟩
  rw [← e2, ← e3, ← e4, ← e5]
  by_cases hv : cvB W H m2 m3 m4 m5 = true ∧ -10000 ≤ r ∧ r ≤ 10000
  case neg =>
    rw [energy_err hv a (K + 1) (by omega), energy_err hv b (K + 1) (by omega)]
    simp [cantinglaw07_WaxModular.j0, awake_f]
  obtain ⟨hv, hr⟩ := hv
  have hc := cvB_ok hv
  have hn := hc.n
  by_cases ha : (a.length : Int) = W * H
  case neg =>
    rw [energy_size hv hr a ha (K + 1) (by omega)]
    obtain ⟨y, hy⟩ : ∃ y, wax_Energy.f (K + 1) W H m2 m3 m4 m5 r b = some y := by
      by_cases hb : (b.length : Int) = W * H
      · exact ⟨_, energy_f hv hr b hb (K + 1) (by omega)⟩
      · exact ⟨_, energy_size hv hr b hb (K + 1) (by omega)⟩
    rw [hy]
    simp [cantinglaw07_WaxModular.j0, awake_f]
  by_cases hb : (b.length : Int) = W * H
  case neg =>
    rw [energy_f hv hr a ha (K + 1) (by omega), energy_size hv hr b hb (K + 1) (by omega)]
    simp [cantinglaw07_WaxModular.j0, awake_f]
  rw [energy_f hv hr a ha (K + 1) (by omega), energy_f hv hr b hb (K + 1) (by omega)]
  simp only [Option.bind_some, if_true]
  rw [show ((a.length : Int) != (b.length : Int)) = false by rw [ha, hb]; simp]
  simp only [cantinglaw07_WaxModular.j0, Bool.false_eq_true, if_false]
  obtain ⟨g, hg⟩ : ∃ g, K = g + a.length + 1 := ⟨K - a.length - 1, by omega⟩
  have h0 := mod_l0 r (enE W H m2 m3 m4 m5 r a) (enE W H m2 m3 m4 m5 r b) W H l2 l3 l4 l5 a b (by omega) (by omega) a.length 0 g (by omega)
  rw [hg]
  refine h0.trans ?_
  rw [cantinglaw07_WaxModular.l0, if_neg (by omega), cloth_f, ← e2, ← e3, ← e4, ← e5]
  simp only [Option.bind_some]
  have r1 : ∀ x : Int, 0 ≤ x → x < W * H → rdOf false (andP a b a.length) x = (rdOf false a x && rdOf false b x) ∧ rdOf false (orP a b a.length) x = (rdOf false a x || rdOf false b x) := fun x x0 x1 => ⟨andP_rd a b a.length x x0 (by omega), orP_rd a b a.length x x0 (by omega)⟩
  have hm := en_mod hc r a b (andP a b a.length) (orP a b a.length) r1
  have b1 := en_in hc hr a
  have b2 := en_in hc hr b
  have b3 := en_in hc hr (andP a b a.length)
  have b4 := en_in hc hr (orP a b a.length)
  rw [energy_f hv hr (andP a b a.length) (by rw [andP_len]; exact ha) g (by omega), energy_f hv hr (orP a b a.length) (by rw [orP_len]; exact ha) g (by omega)]
  simp only [Option.bind_some, if_true]
  rw [wrap_id (x := enE W H m2 m3 m4 m5 r (andP a b a.length) + enE W H m2 m3 m4 m5 r (orP a b a.length)) (by omega) (by omega), wrap_id (x := enE W H m2 m3 m4 m5 r a + enE W H m2 m3 m4 m5 r b) (by omega) (by omega), if_pos hm, awake_f]
  rfl
theorem modular_f (W H : Int) (l2 l3 l4 l5 : List Int) (r : Int) (a b : List Bool) : cantinglaw07_WaxModular.f 1001 W H l2 l3 l4 l5 r a b = some true := modular_k W H l2 l3 l4 l5 r a b 1000 (by omega)
end Go.Proofs.Ytbamanjedfccpaa.HTab
end

section
set_option linter.unusedVariables false
set_option linter.unusedSimpArgs false
namespace Go.Proofs.Ytbamanjedfccpaa.waxModular
open Go.ChangeShapes Go.WideShapes Go.ChangeAt Go.RowKit Go.Proofs.YtbamanjedfccpaaW.PrintWords Go.Proofs.Ytbamanjedfccpaa.HTab Go.Proofs.Ytbamanjedfccpaa.X
open Go.ChangeMaps (open_string shut_string)
set_option linter.unusedVariables false
theorem own : ownKnob Try.prog.godebug = none := by kernel_rfl
theorem laidOut : laidOutB Try.prog = true := by kernel_rfl
set_option maxRecDepth 100000 in
theorem lifted (os : Os) (started : os.Started) (H : Type) (enc : TypeId × Value → H) :
    ReturnsInHanded {} Try.checked os 9 .any (Rows.waxModularSpec.pre6 enc Try.prog Try.f9 Rows.waxModularRow.domain false) (Rows.waxModularSpec.post enc Try.prog Try.f9 false true false false) := by
  refine returnsInHanded_of_change_sized (C := Try.checked) own started (by kernel_rfl) Try.func9
    (ChangeSpec.witness6 (enc := enc) (C := Try.checked) false ⟨#[], #[.agg #[.int .i64 0, .int .i64 0, .slice none 0 0, .slice none 0 0, .slice none 0 0, .slice none 0 0], .int .i64 0, .slice none 0 0, .slice none 0 0], []⟩ 8 (by kernel_rfl) (by kernel_rfl) (by kernel_rfl) (by kernel_rfl)) ?_
  intro W base args ds gs before hval0 hW hcnd hsz0 _
  have hsz : (DataW.weightsEach Try.prog (Try.f9.params.toList ++ Rows.waxModularSpec.plain.varTypes Try.prog) (ds ++ gs)).all (· ≤ reachBytes) = true := hsz0
  have hval : ∀ (j : Nat) t v, Try.f9.params[j]? = some t → args[j]? = some v → Value.okWide Try.prog W .any base t v := hval0
  have hW' := hW
  obtain ⟨p, q, hA0, hV, rfl, hfz, hnd⟩ := hW
  have hA : DataW.TrodAll enc Try.prog W 0 (fun _ => true) true Try.f9.params.toList args.toList ds p := hA0
  rw [Try.params9] at hA hval hsz
  obtain ⟨v0, vs0, d0, ds0, p0, q0, hargs, rfl, rfl, h0, r0⟩ := trodAll_cons hA
  obtain ⟨v1, vs1, d1, ds1, p1, q1, rfl, rfl, rfl, h1, r1⟩ := trodAll_cons r0
  obtain ⟨v2, vs2, d2, ds2, p2, q2, rfl, rfl, rfl, h2, r2⟩ := trodAll_cons r1
  obtain ⟨v3, vs3, d3, ds3, p3, q3, rfl, rfl, rfl, h3, r3⟩ := trodAll_cons r2
  obtain ⟨rfl, rfl, rfl⟩ := trodAll_nil r3
  obtain rfl : args = #[v0, v1, v2, v3] := by cases args; simp_all
  obtain ⟨rfl, rfl⟩ := trodVars_none hV
  have k0 := h0
  have lt0 : ∀ x ∈ p0, x.block < W.heap.size := by obtain ⟨m, hm⟩ := k0; exact DataW.trod_lt m _ _ _ hm
  obtain ⟨n0, m0, A0_2, c0_2, l0_2, A0_3, c0_3, l0_3, A0_4, c0_4, l0_4, A0_5, c0_5, l0_5, rfl, ⟨C0_2, L0_2⟩, ⟨C0_3, L0_3⟩, ⟨C0_4, L0_4⟩, ⟨C0_5, L0_5⟩, wn0, wm0⟩ := open_cloth (hval 0 61 v0 rfl rfl) h0
  obtain ⟨a1, rfl, rfl, rfl, w1⟩ := open_int Try.underlying3 (hval 1 3 v1 rfl rfl) h1
  have k2 := h2
  have lt2 : ∀ x ∈ p2, x.block < W.heap.size := by obtain ⟨m, hm⟩ := k2; exact DataW.trod_lt m _ _ _ hm
  obtain ⟨A2, c2, l2, rfl, C2, L2, B2⟩ := open_bools (hval 2 45 v2 rfl rfl) h2 hsz (j := 2) rfl rfl
  have k3 := h3
  have lt3 : ∀ x ∈ p3, x.block < W.heap.size := by obtain ⟨m, hm⟩ := k3; exact DataW.trod_lt m _ _ _ hm
  obtain ⟨A3, c3, l3, rfl, C3, L3, B3⟩ := open_bools (hval 3 45 v3 rfl rfl) h3 hsz (j := 3) rfl rfl
  clear hA0 hval0 hsz0 hsz
  refine ((cantinglaw07_WaxModular.calls 1001 n0 m0 A0_2 c0_2 l0_2 A0_3 c0_3 l0_3 A0_4 c0_4 l0_4 A0_5 c0_5 l0_5 a1 A2 c2 l2 A3 c3 l3 true W C0_2 L0_2 C0_3 L0_3 C0_4 L0_4 C0_5 L0_5 C2 L2 C3 L3 (modular_f n0 m0 l0_2 l0_3 l0_4 l0_5 a1 l2 l3))).mono fun e W' ⟨he, bel⟩ => ?_
  subst he
  exact ⟨_, rfl, _, _, _, [], _, [], hW', trodAll_mk1 (shut_bool Try.underlying4 _), (trodAll_cons_mk (Below.trod laidOut (by kernel_rfl) (of_decide_eq_true (by kernel_rfl)) k0 bel lt0) (trodAll_cons_mk (shut_int Try.underlying3 w1) (trodAll_cons_mk (Below.trod laidOut (by kernel_rfl) (of_decide_eq_true (by kernel_rfl)) k2 bel lt2) (trodAll_cons_mk (Below.trod laidOut (by kernel_rfl) (of_decide_eq_true (by kernel_rfl)) k3 bel lt3) trodAll_mk0)))), rfl, bel.frame _, fun h => by cases h⟩
theorem over : Rows.waxModularRow.holds Try.pinned (OpenSpec.ofChange Rows.waxModularSpec) :=
  OpenClaim.holds_of_wide 9 Try.f9 rfl rfl rfl rfl rfl rfl rfl ⟨rfl, rfl, rfl, rfl, rfl⟩ rfl rfl rfl rfl rfl (by kernel_rfl) Try.func9 (by kernel_rfl)
    (of_decide_eq_true (by kernel_rfl)) (by unfold Func.isWrapper; first | (rw [if_pos (by decide +kernel)]; kernel_rfl) | (rw [if_neg (by decide +kernel)]; exact ⟨rfl, rfl⟩))
    (fun os started H enc _ => lifted os started H enc)
theorem proved : Rows.WaxModularSaid := over
end Go.Proofs.Ytbamanjedfccpaa.waxModular
namespace Go.Proofs.Ytbamanjedfccpaa
theorem waxModular_holds : Rows.WaxModularSaid := waxModular.proved
end Go.Proofs.Ytbamanjedfccpaa
#print axioms Go.Proofs.Ytbamanjedfccpaa.waxModular_holds
end
