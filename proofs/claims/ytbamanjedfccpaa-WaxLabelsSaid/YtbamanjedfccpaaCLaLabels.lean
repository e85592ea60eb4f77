/- The law WaxLabels holds of the program, for every input that its statement lets in. -/
import Derived.Test.YtbamanjedfccpaaBj
import Derived.Test.YtbamanjedfccpaaBq
import Derived.Test.YtbamanjedfccpaaBt
import Derived.Test.YtbamanjedfccpaaBs
import Derived.Laws.BitsLemmas
import Derived.Test.YtbamanjedfccpaaBc
import Derived.Test.YtbamanjedfccpaaBn
import Derived.Test.YtbamanjedfccpaaBi
import Derived.Test.YtbamanjedfccpaaBh
import Derived.Test.YtbamanjedfccpaaBu
import Derived.Test.YtbamanjedfccpaaBk
import Derived.Test.YtbamanjedfccpaaBm
import Derived.Test.YtbamanjedfccpaaBw
import Derived.Test.YtbamanjedfccpaaBp
import Derived.Test.YtbamanjedfccpaaBo
import Derived.Test.YtbamanjedfccpaaRows
import Derived.WalkKit
import Derived.ProofKit
import Derived.OpenShut
import Derived.ShutString
import Derived.ChangeOld
import Derived.Below
import Derived.SizedLaws
import Derived.Test.YtbamanjedfccpaaBb
section
set_option linter.unusedVariables false
set_option linter.unusedSimpArgs false
namespace Go.Proofs.Ytbamanjedfccpaa.HTab
open Go.ChangeShapes Go.WideShapes Go.ChangeAt Go.RowKit Go.Deep Go.Joins Go.Proofs.YtbamanjedfccpaaW.PrintWords Go.Proofs.Ytbamanjedfccpaa.X
set_option linter.unusedVariables false
theorem array6 {α : Type} {cs : Array α} (h : cs.size = 6) : ∃ c0 c1 c2 c3 c4 c5, cs = #[c0, c1, c2, c3, c4, c5] := by
  obtain ⟨l⟩ := cs
  match l, h with
  | [c0, c1, c2, c3, c4, c5], _ => exact ⟨c0, c1, c2, c3, c4, c5, rfl⟩
section
variable {H : Type} {enc : TypeId × Value → H} {W : World} {r : Reach} {b0 base : Nat} {sp : Nat → Bool} {held : Bool}
theorem trod_struct6 {P : Program} {t : TypeId} {f0 f1 f2 f3 f4 f5 : Field} {fuel : Nat} {cs : List Value} {x : DataW H × List MemPlace} (ht : P.underlying t = some (.struct #[f0, f1, f2, f3, f4, f5])) (h : DataW.trod enc P W base sp held fuel t cs = some x) :
    ∃ y0 y1 y2 y3 y4 y5 n, DataW.trod enc P W base sp held n f0.type ((cs.drop f0.offset).take (P.cellsOf f0.type)) = some y0 ∧
      DataW.trod enc P W base sp held n f1.type ((cs.drop f1.offset).take (P.cellsOf f1.type)) = some y1 ∧ DataW.trod enc P W base sp held n f2.type ((cs.drop f2.offset).take (P.cellsOf f2.type)) = some y2 ∧
      DataW.trod enc P W base sp held n f3.type ((cs.drop f3.offset).take (P.cellsOf f3.type)) = some y3 ∧ DataW.trod enc P W base sp held n f4.type ((cs.drop f4.offset).take (P.cellsOf f4.type)) = some y4 ∧ DataW.trod enc P W base sp held n f5.type ((cs.drop f5.offset).take (P.cellsOf f5.type)) = some y5 := by
  obtain ⟨xs, n, _, rfl, hl, hlen, hf⟩ := DataW.trod_struct ht h
  match xs, hlen with
  | [y0, y1, y2, y3, y4, y5], _ => exact ⟨y0, y1, y2, y3, y4, y5, n, by simpa using hf 0 f0 rfl, by simpa using hf 1 f1 rfl, by simpa using hf 2 f2 rfl, by simpa using hf 3 f3 rfl, by simpa using hf 4 f4 rfl, by simpa using hf 5 f5 rfl⟩
theorem open_agg6 {P : Program} {t : TypeId} {f0 f1 f2 f3 f4 f5 : Field} {v : Value} {d : DataW H} {p : List MemPlace} (hs : P.underlying t = some (.struct #[f0, f1, f2, f3, f4, f5])) (hone : oneCellFields P #[f0, f1, f2, f3, f4, f5] = true) (hC : P.cellsOf t = 6)
    (hv : Value.okWide P W r b0 t v) (h : DataW.Trod enc P W base sp held t v d p) :
    ∃ (v0 v1 v2 v3 v4 v5 : Value) (y0 y1 y2 y3 y4 y5 : DataW H × List MemPlace) (n : Nat), v = .agg #[v0, v1, v2, v3, v4, v5] ∧
      DataW.trod enc P W base sp held n f0.type [v0] = some y0 ∧ DataW.trod enc P W base sp held n f1.type [v1] = some y1 ∧ DataW.trod enc P W base sp held n f2.type [v2] = some y2 ∧ DataW.trod enc P W base sp held n f3.type [v3] = some y3 ∧ DataW.trod enc P W base sp held n f4.type [v4] = some y4 ∧ DataW.trod enc P W base sp held n f5.type [v5] = some y5 := by
  obtain ⟨cs, rfl, hsz⟩ := okWide_struct hs hv
  obtain ⟨c0, c1, c2, c3, c4, c5, rfl⟩ := array6 (hsz.trans hC)
  obtain ⟨fuel, hf⟩ := h
  obtain ⟨y0, y1, y2, y3, y4, y5, n, h0, h1, h2, h3, h4, h5⟩ := trod_struct6 hs hf
  obtain ⟨o0, k0⟩ := hone_of hone 0 f0 rfl
  obtain ⟨o1, k1⟩ := hone_of hone 1 f1 rfl
  obtain ⟨o2, k2⟩ := hone_of hone 2 f2 rfl
  obtain ⟨o3, k3⟩ := hone_of hone 3 f3 rfl
  obtain ⟨o4, k4⟩ := hone_of hone 4 f4 rfl
  obtain ⟨o5, k5⟩ := hone_of hone 5 f5 rfl
  exact ⟨c0, c1, c2, c3, c4, c5, y0, y1, y2, y3, y4, y5, n, rfl, by simpa [Value.cells, o0, k0] using h0, by simpa [Value.cells, o1, k1] using h1, by simpa [Value.cells, o2, k2] using h2, by simpa [Value.cells, o3, k3] using h3, by simpa [Value.cells, o4, k4] using h4, by simpa [Value.cells, o5, k5] using h5⟩
theorem field_ints {n : Nat} {v : Value} {y : DataW H × List MemPlace} (h : DataW.trod enc Try.prog W base sp held n 40 [v] = some y) : ∃ (A : Option Addr) (c : Nat) (l : List Int), v = .slice A l.length c ∧ Kd.C (Kd.int .i64) W A l.length l ∧ l.length ≤ c := by
  rcases open_slice Try.underlying40 h with ⟨hc, hx⟩ | ⟨a, len, cap, m, n', D, Pl, hcs, hb, hl, hm, hmm, hx, hi⟩
  · simp only [List.cons.injEq, and_true] at hc
    exact ⟨none, 0, [], hc, Kd.C_nil _ _, Nat.le_refl _⟩
  · simp only [List.cons.injEq, and_true] at hcs
    obtain ⟨l, hll⟩ : ∃ l : List Int, l = (List.range len).map fun i => intAt (W.cell? (a.add i)) := ⟨_, rfl⟩
    have hlen : l.length = len := by rw [hll]; simp
    have hlm : len ≤ m := by rw [hmm]; split <;> omega
    have hone : Try.prog.cellsOf 3 = 1 := by kernel_rfl
    have hcell : ∀ i, i < len → ∃ b : Int, W.cell? (a.add i) = some (.int .i64 b) := fun i hil => by
      obtain ⟨cs', h2, h3⟩ := hi i (by omega)
      rw [hone, Nat.mul_one] at h2
      obtain ⟨b, e, _, _⟩ := DataW.trod_int Try.underlying3 h3
      subst e
      obtain ⟨_, hcl, hat⟩ := World.cells?_some h2
      have := hat 0 (by omega)
      refine ⟨b, ?_⟩
      have h4 : (a.add i).add 0 = a.add i := by unfold Addr.add; split <;> simp_all
      rw [h4] at this
      simpa using this
    refine ⟨some a, cap, l, by rw [hcs, hlen], ?_, by omega⟩
    unfold maxLen at hm
    refine ⟨rfl, by omega, fun hp => ⟨a, rfl, fun i p hp2 => ?_⟩⟩
    have hil : i < len := by
      have := (List.getElem?_eq_some_iff.1 hp2).1
      omega
    obtain ⟨b, hc1⟩ := hcell i hil
    have hpe : p = b := by
      rw [hll, List.getElem?_map, List.getElem?_range hil] at hp2
      have : intAt (W.cell? (a.add i)) = p := by simpa using hp2
      rw [← this, hc1]
      rfl
    subst hpe
    refine ⟨[.int .i64 p], rfl, rfl, fun q u hq => ?_⟩
    match q, hq with
    | 0, hq =>
      simp only [List.getElem?_cons_zero, Option.some.injEq] at hq
      rw [← hq, show (Kd.int .i64).sz = 1 from rfl, Nat.mul_one, Nat.add_zero]
      exact hc1
    | q + 1, hq => simp at hq
set_option maxRecDepth 100000 in
theorem open_cloth {v : Value} {d : DataW H} {ps : List MemPlace} (hval : Value.okWide Try.prog W r b0 61 v) (hd : DataW.Trod enc Try.prog W base sp held 61 v d ps) :
    ∃ (w h : Int) (A2 : Option Addr) (c2 : Nat) (l2 : List Int) (A3 : Option Addr) (c3 : Nat) (l3 : List Int) (A4 : Option Addr) (c4 : Nat) (l4 : List Int) (A5 : Option Addr) (c5 : Nat) (l5 : List Int),
      v = .agg #[.int .i64 w, .int .i64 h, .slice A2 l2.length c2, .slice A3 l3.length c3, .slice A4 l4.length c4, .slice A5 l5.length c5] ∧ (Kd.C (Kd.int .i64) W A2 l2.length l2 ∧ l2.length ≤ c2) ∧ (Kd.C (Kd.int .i64) W A3 l3.length l3 ∧ l3.length ≤ c3) ∧ (Kd.C (Kd.int .i64) W A4 l4.length l4 ∧ l4.length ≤ c4) ∧ (Kd.C (Kd.int .i64) W A5 l5.length l5 ∧ l5.length ≤ c5) ∧ (Lit.int .i64 w).wf = true ∧ (Lit.int .i64 h).wf = true := by
  obtain ⟨v0, v1, v2, v3, v4, v5, y0, y1, y2, y3, y4, y5, n, rfl, h0, h1, h2, h3, h4, h5⟩ := open_agg6 Try.underlying61 (by kernel_rfl) (by kernel_rfl) hval hd
  obtain ⟨n0, e0, _, w0⟩ := DataW.trod_int Try.underlying3 h0
  obtain ⟨n1, e1, _, w1⟩ := DataW.trod_int Try.underlying3 h1
  simp only [List.cons.injEq, and_true] at e0 e1
  subst e0 e1
  obtain ⟨A2, c2, l2, rfl, q2, b2⟩ := field_ints h2
  obtain ⟨A3, c3, l3, rfl, q3, b3⟩ := field_ints h3
  obtain ⟨A4, c4, l4, rfl, q4, b4⟩ := field_ints h4
  obtain ⟨A5, c5, l5, rfl, q5, b5⟩ := field_ints h5
  exact ⟨n0, n1, A2, c2, l2, A3, c3, l3, A4, c4, l4, A5, c5, l5, rfl, ⟨q2, b2⟩, ⟨q3, b3⟩, ⟨q4, b4⟩, ⟨q5, b5⟩, w0, w1⟩
end
end Go.Proofs.Ytbamanjedfccpaa.HTab
end

section
set_option linter.unusedVariables false
set_option linter.unusedSimpArgs false
namespace Go.Proofs.Ytbamanjedfccpaa.HTab
open Go.RowKit Go.Proofs.YtbamanjedfccpaaW.PrintWords Go.Proofs.YtbamanjedfccpaaW.PrintLast Go.Proofs.YtbamanjedfccpaaW.PrintMore Go.Proofs.Ytbamanjedfccpaa.X
set_option linter.unusedVariables false
set_option linter.unusedSimpArgs false
theorem few_f (l : List Int) : cantinglaw07_few.f l = some (l.take 50) := by
  have e : (mn (l.length : Int) 50).toNat = min 50 l.length := by unfold mn; split <;> omega
  have h : mn (l.length : Int) 50 ≤ (l.length : Int) ∧ 0 ≤ mn (l.length : Int) 50 := by unfold mn; split <;> omega
  unfold cantinglaw07_few.f slices_Clone_int_int.f
  rw [if_pos h.2, if_pos h.1, e, if_pos (by rw [List.length_take]; omega)]
  have : l.take (min 50 l.length) = l.take 50 := by
    rcases Nat.le_total 50 l.length with q | q
    · rw [Nat.min_eq_left q]
    · rw [Nat.min_eq_right q, List.take_of_length_le (Nat.le_refl _), List.take_of_length_le q]
  rw [this]
  rfl
theorem cloth_f (W H : Int) (l2 l3 l4 l5 : List Int) : cantinglaw07_cloth.f W H l2 l3 l4 l5 = some (W, H, l2.take 50, l3.take 50, l4.take 50, l5.take 50) := by
  unfold cantinglaw07_cloth.f
  rw [few_f, few_f, few_f, few_f]
  rfl
def pairR (W : Int) (right : List Int) (i : Nat) : S100 := ⟨(i : Int) / (W - 1) * W + (i : Int) % (W - 1), (i : Int) / (W - 1) * W + (i : Int) % (W - 1) + 1, rd right (i : Int)⟩
def pairD (W : Int) (down : List Int) (i : Nat) : S100 := ⟨(i : Int), (i : Int) + W, rd down (i : Int)⟩
def pairsL (W : Int) (right down : List Int) : List S100 := (List.range right.length).map (pairR W right) ++ (List.range down.length).map (pairD W down)
structure ClOK (W H : Int) (l2 l3 l4 l5 : List Int) : Prop where
  w : 1 ≤ W ∧ W ≤ 6
  h : 1 ≤ H ∧ H ≤ 6
  n : 1 ≤ W * H ∧ W * H ≤ 36
  n2 : (l2.length : Int) = W * H
  n3 : (l3.length : Int) = W * H
  n4 : (l4.length : Int) = W * H - H
  n5 : (l5.length : Int) = W * H - W
  b2 : ∀ x ∈ l2, 0 ≤ x ∧ x ≤ 1000
  b3 : ∀ x ∈ l3, 0 ≤ x ∧ x ≤ 1000
  b4 : ∀ x ∈ l4, 0 ≤ x ∧ x ≤ 1000
  b5 : ∀ x ∈ l5, 0 ≤ x ∧ x ≤ 1000
theorem okL_iff (l : List Int) (n : Int) (h : okL l n = true) : (l.length : Int) = n ∧ ∀ x ∈ l, 0 ≤ x ∧ x ≤ 1000 := by
  unfold okL at h
  rw [Bool.and_eq_true, Bool.not_eq_true', decide_eq_true_eq, List.any_eq_false] at h
  refine ⟨h.1, fun x hx => ?_⟩
  have := h.2 x hx
  unfold badI at this
  rw [Bool.or_eq_true, decide_eq_true_eq, decide_eq_true_eq] at this
  omega
theorem cvB_ok {W H : Int} {l2 l3 l4 l5 : List Int} (h : cvB W H l2 l3 l4 l5 = true) : ClOK W H l2 l3 l4 l5 := by
  unfold cvB at h
  simp only [Bool.and_eq_true, decide_eq_true_eq] at h
  obtain ⟨⟨hw, hh⟩, h2, h3, h4, h5⟩ := h
  have hn : 1 ≤ W * H ∧ W * H ≤ 36 := by
    have h1 : W = 1 ∨ W = 2 ∨ W = 3 ∨ W = 4 ∨ W = 5 ∨ W = 6 := by omega
    rcases h1 with h1 | h1 | h1 | h1 | h1 | h1 <;> rw [h1] <;> omega
  have q2 := okL_iff _ _ h2
  have q3 := okL_iff _ _ h3
  have q4 := okL_iff _ _ h4
  have q5 := okL_iff _ _ h5
  exact ⟨hw, hh, hn, q2.1, q3.1, q4.1, q5.1, q2.2, q3.2, q4.2, q5.2⟩
theorem rd_in {l : List Int} (h : ∀ x ∈ l, 0 ≤ x ∧ x ≤ 1000) (i : Int) : 0 ≤ rd l i ∧ rd l i ≤ 1000 := by
  unfold rd
  rw [List.getD_eq_getElem?_getD]
  cases hq : l[i.toNat]? with
  | none => simp
  | some x => exact h x (List.mem_of_getElem? hq)
section
variable {W H : Int} {l2 l3 l4 l5 : List Int} (hc : ClOK W H l2 l3 l4 l5)
include hc
theorem right_in (i : Nat) (hi : i < l4.length) : 2 ≤ W ∧ 0 ≤ (i : Int) / (W - 1) * W + (i : Int) % (W - 1) ∧ (i : Int) / (W - 1) * W + (i : Int) % (W - 1) + 1 < W * H := by
  have hw := hc.w
  have hh := hc.h
  have h4 := hc.n4
  have h1 : W = 1 ∨ W = 2 ∨ W = 3 ∨ W = 4 ∨ W = 5 ∨ W = 6 := by omega
  rcases h1 with h1 | h1 | h1 | h1 | h1 | h1 <;> subst h1 <;> omega
theorem down_in (i : Nat) (hi : i < l5.length) : (i : Int) + W < W * H := by
  have h5 := hc.n5
  omega
theorem lens_le : l4.length ≤ 36 ∧ l5.length ≤ 36 := by
  have h4 := hc.n4
  have h5 := hc.n5
  have := hc.n
  have := hc.w
  have := hc.h
  omega
theorem pairs_l1 : ∀ (d i fu : Nat), i + d = l5.length → d < fu → wax_Cloth_pairs.l1 fu ((List.range l4.length).map (pairR W l4) ++ (List.range i).map (pairD W l5)) l5 l5.length i W H l2 l3 l4 l5 = some (pairsL W l4 l5)
  | d, i, 0, h, hf => by omega
  | 0, i, fu + 1, h, hf => by
    obtain rfl : i = l5.length := by omega
    simp only [wax_Cloth_pairs.l1]
    rw [if_neg (by omega)]
    rfl
  | d + 1, i, fu + 1, h, hf => by
    have ih := pairs_l1 d (i + 1) fu (by omega) (by omega)
    have hl := lens_le hc
    have hw := hc.w
    simp only [wax_Cloth_pairs.l1]
    rw [if_pos (by omega), if_pos (by omega), if_pos (by omega), if_pos (by simp; omega), show wrap64 ((i : Int) + 1) = ((i + 1 : Nat) : Int) from wrap_add1 (by omega) (by omega), show wrap64 ((i : Int) + W) = (i : Int) + W from wrap_id (by omega) (by omega)]
    rw [List.range_succ, List.map_append, ← List.append_assoc] at ih
    exact ih
theorem pairs_l0 : ∀ (d i fu : Nat), i + d = l4.length → d + l5.length + 2 ≤ fu → wax_Cloth_pairs.l0 fu ((List.range i).map (pairR W l4)) l4 l4.length i W H l2 l3 l4 l5 = some (pairsL W l4 l5)
  | d, i, 0, h, hf => by omega
  | 0, i, fu + 1, h, hf => by
    obtain rfl : i = l4.length := by omega
    have := pairs_l1 hc l5.length 0 fu (by omega) (by omega)
    simp only [wax_Cloth_pairs.l0]
    rw [if_neg (by omega)]
    rw [List.range_zero, List.map_nil, List.append_nil] at this
    exact this
  | d + 1, i, fu + 1, h, hf => by
    have ih := pairs_l0 d (i + 1) fu (by omega) (by omega)
    have hl := lens_le hc
    have hw := hc.w
    have hr := right_in hc i (by omega)
    have hn := hc.n
    have e0 : wrap64 (W - 1) = W - 1 := wrap_id (by omega) (by omega)
    have i0 : (0 : Int) ≤ (i : Int) := by omega
    have q1 : 0 ≤ (i : Int) / (W - 1) ∧ (i : Int) / (W - 1) ≤ 36 := ⟨Int.ediv_nonneg i0 (by clear e0; omega), Int.le_trans (Int.ediv_le_self _ i0) (by clear e0; omega)⟩
    have q2 : 0 ≤ (i : Int) % (W - 1) ∧ (i : Int) % (W - 1) < W - 1 := ⟨Int.emod_nonneg _ (by clear e0; omega), Int.emod_lt_of_pos _ (by clear e0; omega)⟩
    have q3 : 0 ≤ (i : Int) / (W - 1) * W := Int.mul_nonneg q1.1 (by clear e0; omega)
    simp only [wax_Cloth_pairs.l0]
    rw [e0, Int.tdiv_eq_ediv_of_nonneg i0, Int.tmod_eq_emod_of_nonneg i0]
    clear e0
    rw [show wrap64 ((i : Int) / (W - 1)) = (i : Int) / (W - 1) from wrap_id (by omega) (by omega), show wrap64 ((i : Int) / (W - 1) * W) = (i : Int) / (W - 1) * W from wrap_id (by omega) (by omega), show wrap64 ((i : Int) / (W - 1) * W + (i : Int) % (W - 1)) = (i : Int) / (W - 1) * W + (i : Int) % (W - 1) from wrap_id (by omega) (by omega), show wrap64 ((i : Int) / (W - 1) * W + (i : Int) % (W - 1) + 1) = (i : Int) / (W - 1) * W + (i : Int) % (W - 1) + 1 from wrap_id (by omega) (by omega)]
    rw [if_pos (by omega), if_pos (by omega), if_pos (by omega), if_neg (by omega), if_pos (by simp; omega), show wrap64 ((i : Int) + 1) = ((i + 1 : Nat) : Int) from wrap_add1 (by omega) (by omega)]
    rw [List.range_succ, List.map_append] at ih
    exact ih
theorem pairs_f (fu : Nat) (hf : 100 ≤ fu) : wax_Cloth_pairs.f fu W H l2 l3 l4 l5 = some (pairsL W l4 l5) := by
  have hl := lens_le hc
  have := pairs_l0 hc l4.length 0 fu (by omega) (by omega)
  exact this
theorem pairs_in : ∀ p ∈ pairsL W l4 l5, 0 ≤ p.f0 ∧ p.f0 < W * H ∧ 0 ≤ p.f1 ∧ p.f1 < W * H ∧ 0 ≤ p.f2 ∧ p.f2 ≤ 1000 := fun p hp => by
  unfold pairsL at hp
  rcases List.mem_append.1 hp with hp | hp
  · obtain ⟨i, hi, rfl⟩ := List.mem_map.1 hp
    have := right_in hc i (List.mem_range.1 hi)
    have hb := rd_in hc.b4 (i : Int)
    unfold pairR
    dsimp only
    omega
  · obtain ⟨i, hi, rfl⟩ := List.mem_map.1 hp
    have := down_in hc i (List.mem_range.1 hi)
    have hb := rd_in hc.b5 (i : Int)
    have hw := hc.w
    unfold pairD
    dsimp only
    omega
theorem pairs_len : (pairsL W l4 l5).length ≤ 72 := by
  have hl := lens_le hc
  unfold pairsL
  simp
  omega
end
def cellE (l2 l3 : List Int) (r : Int) (S : List Bool) (i : Int) : Int := if rdOf false S i then rd l3 i + r else rd l2 i
def pairE (S : List Bool) : List S100 → Int
  | [] => 0
  | p :: l => (if (rdOf false S p.f0 != rdOf false S p.f1) = true then p.f2 else 0) + pairE S l
def enE (W H : Int) (l2 l3 l4 l5 : List Int) (r : Int) (S : List Bool) : Int := sumF (cellE l2 l3 r S) (W * H).toNat + pairE S (pairsL W l4 l5)
theorem pairE_in (S : List Bool) : ∀ l : List S100, (∀ p ∈ l, 0 ≤ p.f2 ∧ p.f2 ≤ 1000) → 0 ≤ pairE S l ∧ pairE S l ≤ 1000 * l.length
  | [], _ => by simp [pairE]
  | p :: l, h => by
    have ih := pairE_in S l (fun q hq => h q (List.mem_cons_of_mem _ hq))
    have hp := h p (List.mem_cons_self ..)
    simp only [pairE, List.length_cons]
    split <;> omega
theorem sumF_in {h : Int → Int} {C : Int} : ∀ n : Nat, (∀ v : Int, 0 ≤ v → v < n → -C ≤ h v ∧ h v ≤ C) → -(C * n) ≤ sumF h n ∧ sumF h n ≤ C * n
  | 0, _ => by simp [sumF]
  | n + 1, hh => by
    have ih := sumF_in n (fun v v0 v1 => hh v v0 (by omega))
    have h0 := hh n (by omega) (by omega)
    have e : C * ((n + 1 : Nat) : Int) = C * n + C := by rw [Int.natCast_add, Int.mul_add]; simp
    simp only [sumF]
    rw [e]
    omega
section
variable {W H : Int} {l2 l3 l4 l5 : List Int} (hc : ClOK W H l2 l3 l4 l5) {r : Int} (hr : -10000 ≤ r ∧ r ≤ 10000) (S : List Bool)
include hc hr
theorem cell_in (i : Int) : -11000 ≤ cellE l2 l3 r S i ∧ cellE l2 l3 r S i ≤ 11000 := by
  have h2 := rd_in hc.b2 i
  have h3 := rd_in hc.b3 i
  unfold cellE
  split <;> omega
omit hr in
theorem energy_l1 (n : Nat) (hS : S.length = n) (hn : (n : Int) = W * H) : ∀ (d i fu : Nat) (x : Int), i + d = (pairsL W l4 l5).length → d < fu → -500000 ≤ x → x + 1000 * d ≤ 600000 → wax_Energy.l1 fu S x (pairsL W l4 l5) (pairsL W l4 l5).length i = some (x + pairE S ((pairsL W l4 l5).drop i), 0)
  | d, i, 0, x, h, hf, x0, x1 => by omega
  | 0, i, fu + 1, x, h, hf, x0, x1 => by
    simp only [wax_Energy.l1]
    rw [if_neg (by omega), List.drop_eq_nil_of_le (by omega)]
    simp [pairE]
  | d + 1, i, fu + 1, x, h, hf, x0, x1 => by
    have hi : i < (pairsL W l4 l5).length := by omega
    have hrd : rd_T100 (pairsL W l4 l5) (i : Int) = (pairsL W l4 l5)[i] := by simp [rd_T100, hi]
    have hp := pairs_in hc _ (List.getElem_mem hi)
    have hpl := pairs_len hc
    obtain ⟨p, hpe⟩ : ∃ p, p = (pairsL W l4 l5)[i] := ⟨_, rfl⟩
    have ih := fun (x : Int) => energy_l1 n hS hn d (i + 1) fu x (by omega) (by omega)
    simp only [wax_Energy.l1]
    rw [if_pos (by omega), if_pos (by omega), if_pos (by omega), hrd, List.drop_eq_getElem_cons hi, ← hpe]
    rw [← hpe] at hp
    rw [if_pos hp.1, if_pos (by omega), if_pos hp.2.2.1, if_pos (by omega), show wrap64 ((i : Int) + 1) = ((i + 1 : Nat) : Int) from wrap_add1 (by omega) (by omega)]
    simp only [pairE]
    by_cases c : (rdOf false S p.f0 != rdOf false S p.f1) = true
    · rw [if_pos c, if_pos c, show wrap64 (x + p.f2) = x + p.f2 from wrap_id (by omega) (by omega), ih (x + p.f2) (by omega) (by omega), Int.add_assoc]
    · rw [if_neg c, if_neg c, ih x x0 (by omega), Int.zero_add]
theorem energy_l0 (n : Nat) (hS : S.length = n) (hn : (n : Int) = W * H) : ∀ (d i g : Nat), i + d = n → wax_Energy.l0 (g + d + 1) r S (sumF (cellE l2 l3 r S) i) S n i W H l2 l3 l4 l5 = (wax_Cloth_pairs.f g W H l2 l3 l4 l5).bind fun P => wax_Energy.l1 g S (sumF (cellE l2 l3 r S) n) P P.length 0
  | 0, i, g, h => by
    obtain rfl : i = n := by omega
    rw [Nat.add_zero, wax_Energy.l0]
    rw [if_neg (by omega)]
  | d + 1, i, g, h => by
    have ih := energy_l0 n hS hn d (i + 1) g (by omega)
    have hN := hc.n
    have h2 := hc.n2
    have h3 := hc.n3
    have hs := sumF_in i (fun v _ _ => cell_in hc hr S v)
    have hci := cell_in hc hr S (i : Int)
    have hb2 := rd_in hc.b2 (i : Int)
    have hb3 := rd_in hc.b3 (i : Int)
    simp only [sumF] at ih
    rw [show g + (d + 1) + 1 = (g + d + 1) + 1 by omega, wax_Energy.l0]
    rw [if_pos (by omega), if_pos (by omega), if_pos (by omega), show wrap64 ((i : Int) + 1) = ((i + 1 : Nat) : Int) from wrap_add1 (by omega) (by omega)]
    cases hq : rdOf false S (i : Int) with
    | true =>
      have e : cellE l2 l3 r S i = rd l3 i + r := by unfold cellE; rw [if_pos hq]
      rw [e] at ih hci
      rw [if_pos rfl, if_pos (by omega), show wrap64 (rd l3 (i : Int) + r) = rd l3 (i : Int) + r from wrap_id (by omega) (by omega), show wrap64 (sumF (cellE l2 l3 r S) i + (rd l3 (i : Int) + r)) = sumF (cellE l2 l3 r S) i + (rd l3 (i : Int) + r) from wrap_id (by omega) (by omega)]
      exact ih
    | false =>
      have e : cellE l2 l3 r S i = rd l2 i := by unfold cellE; rw [if_neg (by rw [hq]; decide)]
      rw [e] at ih hci
      rw [if_neg (by decide), if_pos (by omega), show wrap64 (sumF (cellE l2 l3 r S) i + rd l2 (i : Int)) = sumF (cellE l2 l3 r S) i + rd l2 (i : Int) from wrap_id (by omega) (by omega)]
      exact ih
end
theorem energy_f {W H : Int} {l2 l3 l4 l5 : List Int} (hv : cvB W H l2 l3 l4 l5 = true) {r : Int} (hr : -10000 ≤ r ∧ r ≤ 10000) (S : List Bool) (hS : (S.length : Int) = W * H) (fu : Nat) (hf : 300 ≤ fu) : wax_Energy.f fu W H l2 l3 l4 l5 r S = some (enE W H l2 l3 l4 l5 r S, 0) := by
  have hc := cvB_ok hv
  have hN := hc.n
  obtain ⟨n, hn⟩ : ∃ n : Nat, S.length = n := ⟨_, rfl⟩
  have hnn : (n : Int) = W * H := by omega
  have e : (W * H).toNat = n := by omega
  obtain ⟨g, rfl⟩ : ∃ g, fu = g + n + 1 + 1 := ⟨fu - n - 2, by omega⟩
  have h0 := energy_l0 hc hr S n hn hnn n 0 g (by omega)
  have hs := sumF_in n (fun v _ _ => cell_in hc hr S v)
  have h1 := energy_l1 hc S n hn hnn (pairsL W l4 l5).length 0 g (sumF (cellE l2 l3 r S) n) (by omega) (by have := pairs_len hc; omega) (by omega) (by have := pairs_len hc; omega)
  unfold wax_Energy.f wax_Cloth_valid.f
  rw [hv, Option.bind_some, if_pos rfl, if_neg (by omega), decide_eq_false (show ¬ r > 10000 by omega)]
  simp only [wax_Energy.j0, Bool.false_eq_true, if_false]
  rw [show wrap64 (W * H) = W * H from wrap_id (by omega) (by omega), if_pos hS, hn]
  refine h0.trans ?_
  rw [pairs_f hc g (by omega), Option.bind_some]
  refine h1.trans ?_
  unfold enE
  rw [e, List.drop_zero]
theorem energy_err {W H : Int} {l2 l3 l4 l5 : List Int} {r : Int} (h : ¬ (cvB W H l2 l3 l4 l5 = true ∧ -10000 ≤ r ∧ r ≤ 10000)) (S : List Bool) (fu : Nat) (hf : 1 ≤ fu) : wax_Energy.f fu W H l2 l3 l4 l5 r S = some (0, 2) := by
  obtain ⟨fu, rfl⟩ : ∃ g, fu = g + 1 := ⟨fu - 1, by omega⟩
  unfold wax_Energy.f wax_Cloth_valid.f
  rw [Option.bind_some]
  by_cases hv : cvB W H l2 l3 l4 l5 = true
  · have h2 : ¬ (-10000 ≤ r ∧ r ≤ 10000) := fun q => h ⟨hv, q⟩
    rw [if_pos hv]
    by_cases h1 : r < -10000
    · rw [if_pos h1]; simp only [wax_Energy.j0, if_true]
    · rw [if_neg h1, decide_eq_true (show r > 10000 by omega)]
      simp only [wax_Energy.j0, if_true]
  · rw [if_neg hv]; simp only [wax_Energy.j0, if_true]
theorem energy_size {W H : Int} {l2 l3 l4 l5 : List Int} (hv : cvB W H l2 l3 l4 l5 = true) {r : Int} (hr : -10000 ≤ r ∧ r ≤ 10000) (S : List Bool) (hS : ¬ (S.length : Int) = W * H) (fu : Nat) (hf : 1 ≤ fu) : wax_Energy.f fu W H l2 l3 l4 l5 r S = some (0, 3) := by
  have hc := cvB_ok hv
  have hN := hc.n
  obtain ⟨fu, rfl⟩ : ∃ g, fu = g + 1 := ⟨fu - 1, by omega⟩
  unfold wax_Energy.f wax_Cloth_valid.f
  rw [hv, Option.bind_some, if_pos rfl, if_neg (by omega), decide_eq_false (show ¬ r > 10000 by omega)]
  simp only [wax_Energy.j0, Bool.false_eq_true, if_false]
  rw [show wrap64 (W * H) = W * H from wrap_id (by omega) (by omega), if_neg hS]
end Go.Proofs.Ytbamanjedfccpaa.HTab
end

section
set_option linter.unusedVariables false
set_option linter.unusedSimpArgs false
namespace Go.Proofs.Ytbamanjedfccpaa.HTab
open Go.RowKit Go.Proofs.YtbamanjedfccpaaW.PrintWords Go.Proofs.YtbamanjedfccpaaW.PrintLast Go.Proofs.YtbamanjedfccpaaW.PrintMore Go.Proofs.Ytbamanjedfccpaa.X
set_option linter.unusedVariables false
set_option linter.unusedSimpArgs false
theorem bools_ext {a b : List Bool} {N : Nat} (ha : a.length = N) (hb : b.length = N) (h : ∀ v : Nat, v < N → rdOf false a (v : Int) = rdOf false b (v : Int)) : a = b := by
  refine List.ext_getElem (by omega) (fun i h1 h2 => ?_)
  have := h i (by omega)
  simp only [rdOf, Int.toNat_natCast, List.getD_eq_getElem?_getD, List.getElem?_eq_getElem h1, List.getElem?_eq_getElem h2] at this
  exact this
section
variable (N : Nat) (hN2 : 2 ≤ N) (hN : N ≤ 12) (l : List S34) (hl : l.length ≤ 160) (hg : GoodR N l)
include hN2 hN hl hg
end
end Go.Proofs.Ytbamanjedfccpaa.HTab
end

section
set_option linter.unusedVariables false
set_option linter.unusedSimpArgs false
namespace Go.Proofs.Ytbamanjedfccpaa.X
open Go.RowKit Go.Proofs.YtbamanjedfccpaaW.PrintWords Go.Proofs.YtbamanjedfccpaaW.PrintLast Go.Proofs.YtbamanjedfccpaaW.PrintMore
attribute [local go_sem] max2_int min2_int max_two min_two max_three min_three max_four min_four   -- for this text's walks alone
set_option linter.unusedVariables false
set_option linter.unusedSimpArgs false
def slices_Equal_bool_bool.l0 : Nat → List Bool → List Bool → Int → Int → Option (Bool)
  | 0, _, _, _, _ => none
  | k + 1, x0, x1, x12, x13 => if x13 < x12 then (if 0 ≤ x13 then (if x13 < (x0.length : Int) then (if x13 < (x1.length : Int) then (if ((rdOf false x0 x13) != (rdOf false x1 x13)) = true then (some false) else (slices_Equal_bool_bool.l0 k x0 x1 x12 (wrap64 (x13 + 1)))) else (none)) else (none)) else (none)) else (some true)
def slices_Equal_bool_bool.f (k : Nat) (l0 : List Bool) (l1 : List Bool) : Option (Bool) := if (l0.length : Int) = (l1.length : Int) then (slices_Equal_bool_bool.l0 k l0 l1 (l0.length : Int) 0) else (some false)
set_option maxHeartbeats 8000000 in
set_option maxRecDepth 100000 in
theorem slices_Equal_bool_bool.calls (k : Nat) (A0 : Option Addr) (c0 : Nat) (l0 : List Bool) (A1 : Option Addr) (c1 : Nat) (l1 : List Bool) (r : Bool) (w : World) (hr0 : Kd.C Kd.bool w A0 l0.length l0) (hc0 : l0.length ≤ c0) (hr1 : Kd.C Kd.bool w A1 l1.length l1) (hc1 : l1.length ≤ c1) (h : slices_Equal_bool_bool.f k l0 l1 = some r) :
    Calls Try.prog 30 #[.slice A0 l0.length c0, .slice A1 l1.length c1] w fun e w' => e = .returned (.bool r) ∧ Drawn0 w w' := by
  have HR0 := Aside0.mk hr0
  have HC0 := Aside0.mk hc0
  clear hr0 hc0
  have HR1 := Aside0.mk hr1
  have HC1 := Aside0.mk hc1
  clear hr1 hc1
  have H : (if (l0.length : Int) = (l1.length : Int) then (slices_Equal_bool_bool.l0 k l0 l1 (l0.length : Int) 0) else (some false)) = some r := h
  clear h
  by_cases c3 : (l0.length : Int) = (l1.length : Int)
  · rw [if_pos c3] at H
    have c3b0 : ((l0.length : Int) == (l1.length : Int)) = true := beq_iff_eq.mpr c3
    have c3b1 : ((l0.length : Int) != (l1.length : Int)) = false := bne_eq_false_iff_eq.mpr c3
    have c3b2 : (l0.length == l1.length) = true := by first | simpa using c3 | (simp at c3 ⊢; omega)
    clear c3
    have H' := Aside0.mk H
    clear H
    go_enter Try.func30, Try.ntmps30
    go_wp2
    repeat (go_quiet (fail); try go_wp2)
    go_loopg [13] k (fun kq v13 w' => ∃ (x13_1 : Int), v13 = .int .i64 x13_1 ∧ Aside0 (slices_Equal_bool_bool.l0 kq l0 l1 (l0.length : Int) x13_1 = some r) ∧ Aside0 (kq ≤ k) ∧ Drawn0 w w')
    case atStart => exact ⟨(0), (by first | rfl | (simp; done) | (simp [*]; done)), H', ⟨Nat.le_refl _⟩, by repeat (first | exact Drawn0.refl _ | apply Drawn0.step)⟩
    case round =>
      clear H'
      try clear c1
      try clear p2
      try clear c3
      try clear c3b0
      try clear c3b1
      try clear c3b2
      obtain ⟨x13_1, rfl, HA, HK1, ⟨m1, rfl⟩⟩ := hrel
      cases gk with
      | zero => exact absurd HA.out (by simp [slices_Equal_bool_bool.l0])
      | succ k1 =>
        have H := HA.out
        clear HA
        simp only [slices_Equal_bool_bool.l0] at H
        by_cases c4 : x13_1 < (l0.length : Int)
        · rw [if_pos c4] at H
          have c4b0 : decide (x13_1 < (l0.length : Int)) = true := decide_eq_true c4
          clear c4
          by_cases c5 : 0 ≤ x13_1
          · rw [if_pos c5] at H
            have c5b0 : decide (0 ≤ x13_1) = true := decide_eq_true c5
            clear c5
            by_cases c6 : x13_1 < (l0.length : Int)
            · rw [if_pos c6] at H
              have c6b0 : decide (x13_1 < (l0.length : Int)) = true := decide_eq_true c6
              clear c6
              by_cases c7 : x13_1 < (l1.length : Int)
              · rw [if_pos c7] at H
                have c7b0 : decide (x13_1 < (l1.length : Int)) = true := decide_eq_true c7
                clear c7
                by_cases c8 : ((rdOf false l0 x13_1) != (rdOf false l1 x13_1)) = true
                · rw [if_pos c8] at H
                  have c8b0 : ((rdOf false l0 x13_1) != (rdOf false l1 x13_1)) = true := c8
                  (try (have c8b1 : decide ((rdOf false l0 x13_1) = (rdOf false l1 x13_1)) = false := by simpa using c8))
                  (try (have c8b2 : ((rdOf false l0 x13_1) == (rdOf false l1 x13_1)) = false := by simpa using c8))
                  (try (have c8b3 : ¬ ((rdOf false l0 x13_1) = (rdOf false l1 x13_1)) := by simpa using c8))
                  clear c8
                  obtain rfl := Option.some.inj H
                  have p402 : 0 ≤ (x13_1 : Int) := of_decide_eq_true (by first | (with_reducible assumption) | assumption)
                  have q402 : x13_1 < (l0.length : Int) := of_decide_eq_true (by first | (with_reducible assumption) | assumption)
                  obtain ⟨ad402, e402, hx402_0⟩ := Kd.at_bool HR0.out x13_1 p402 q402
                  cases e402
                  replace p402 := eq_true p402
                  replace q402 := eq_true q402
                  have p403 : 0 ≤ (x13_1 : Int) := of_decide_eq_true (by first | (with_reducible assumption) | assumption)
                  have q403 : x13_1 < (l1.length : Int) := of_decide_eq_true (by first | (with_reducible assumption) | assumption)
                  obtain ⟨ad403, e403, hx403_0⟩ := Kd.at_bool HR1.out x13_1 p403 q403
                  cases e403
                  replace p403 := eq_true p403
                  replace q403 := eq_true q403
                  go_wp2
                  repeat (go_quiet (fail); try go_wp2)
                  go_ret
                  exact ⟨by first | rfl | (simp; done) | (simp [*]; done), by repeat (first | exact Drawn0.refl _ | apply Drawn0.step)⟩
                · rw [if_neg c8] at H
                  have c8b0 : ((rdOf false l0 x13_1) != (rdOf false l1 x13_1)) = false := by simpa using c8
                  (try (have c8b1 : decide ((rdOf false l0 x13_1) = (rdOf false l1 x13_1)) = true := by simpa using c8))
                  (try (have c8b2 : ((rdOf false l0 x13_1) == (rdOf false l1 x13_1)) = true := by simpa using c8))
                  clear c8
                  have H' := Aside0.mk H
                  clear H
                  have p402 : 0 ≤ (x13_1 : Int) := of_decide_eq_true (by first | (with_reducible assumption) | assumption)
                  have q402 : x13_1 < (l0.length : Int) := of_decide_eq_true (by first | (with_reducible assumption) | assumption)
                  obtain ⟨ad402, e402, hx402_0⟩ := Kd.at_bool HR0.out x13_1 p402 q402
                  cases e402
                  replace p402 := eq_true p402
                  replace q402 := eq_true q402
                  have p403 : 0 ≤ (x13_1 : Int) := of_decide_eq_true (by first | (with_reducible assumption) | assumption)
                  have q403 : x13_1 < (l1.length : Int) := of_decide_eq_true (by first | (with_reducible assumption) | assumption)
                  obtain ⟨ad403, e403, hx403_0⟩ := Kd.at_bool HR1.out x13_1 p403 q403
                  cases e403
                  replace p403 := eq_true p403
                  replace q403 := eq_true q403
                  go_wp2
                  repeat (go_quiet (fail); try go_wp2)
                  go_roundg k1
                  case measure => have := HK1.out; omega
                  case rel => exact ⟨(wrap64 (x13_1 + 1)), (by first | rfl | (simp; done) | (simp [*]; done)), H', ⟨by have := HK1.out; omega⟩, by repeat (first | exact Drawn0.refl _ | apply Drawn0.step)⟩
              · rw [if_neg c7] at H
                exact absurd H (by simp)
            · rw [if_neg c6] at H
              exact absurd H (by simp)
          · rw [if_neg c5] at H
            exact absurd H (by simp)
        · rw [if_neg c4] at H
          have c4b0 : decide (x13_1 < (l0.length : Int)) = false := decide_eq_false c4
          clear c4
          obtain rfl := Option.some.inj H
          go_wp2
          repeat (go_quiet (fail); try go_wp2)
          go_ret
          exact ⟨by first | rfl | (simp; done) | (simp [*]; done), by repeat (first | exact Drawn0.refl _ | apply Drawn0.step)⟩
  · rw [if_neg c3] at H
    have c3b0 : ((l0.length : Int) == (l1.length : Int)) = false := beq_eq_false_iff_ne.mpr c3
    have c3b1 : ((l0.length : Int) != (l1.length : Int)) = true := bne_iff_ne.mpr c3
    have c3b2 : (l0.length == l1.length) = false := by first | simpa using c3 | (simp at c3 ⊢; omega)
    obtain rfl := Option.some.inj H
    go_enter Try.func30, Try.ntmps30
    go_wp2
    repeat (go_quiet (fail); try go_wp2)
    go_ret
    exact ⟨by first | rfl | (simp; done) | (simp [*]; done), by repeat (first | exact Drawn0.refl _ | apply Drawn0.step)⟩
end Go.Proofs.Ytbamanjedfccpaa.X
end

section
set_option linter.unusedVariables false
set_option linter.unusedSimpArgs false
namespace Go.Proofs.Ytbamanjedfccpaa.HTab
open Go.RowKit Go.Proofs.YtbamanjedfccpaaW.PrintWords Go.Proofs.YtbamanjedfccpaaW.PrintLast Go.Proofs.YtbamanjedfccpaaW.PrintMore Go.Proofs.Ytbamanjedfccpaa.X
set_option linter.unusedVariables false
set_option linter.unusedSimpArgs false
theorem eqB_l0 (a b : List Bool) (hab : a.length = b.length) (hl : a.length < 10000000000000) : ∀ (d i fu : Nat), i + d = a.length → d < fu → slices_Equal_bool_bool.l0 fu a b a.length i = some (decide (a.drop i = b.drop i))
  | d, i, 0, h, hf => by omega
  | 0, i, fu + 1, h, hf => by
    simp only [slices_Equal_bool_bool.l0]
    rw [if_neg (by omega), List.drop_eq_nil_of_le (by omega), List.drop_eq_nil_of_le (by omega)]
    rfl
  | d + 1, i, fu + 1, h, hf => by
    have h1 : i < a.length := by omega
    have h2 : i < b.length := by omega
    have ih := eqB_l0 a b hab hl d (i + 1) fu (by omega) (by omega)
    have ra : rdOf false a (i : Int) = a[i] := by simp [rdOf, h1]
    have rb : rdOf false b (i : Int) = b[i] := by simp [rdOf, h2]
    simp only [slices_Equal_bool_bool.l0]
    rw [if_pos (by omega), if_pos (by omega), if_pos (by omega), if_pos (by omega), show wrap64 ((i : Int) + 1) = ((i + 1 : Nat) : Int) from wrap_add1 (by omega) (by omega), ih, ra, rb, List.drop_eq_getElem_cons h1, List.drop_eq_getElem_cons h2]
    by_cases e : a[i] = b[i]
    · rw [if_neg (by simpa using e), e]
      exact congrArg some (decide_eq_decide.2 ⟨fun q => by rw [q], fun q => (List.cons.inj q).2⟩)
    · rw [if_pos (by simpa using e), decide_eq_false (fun q => e (List.cons.inj q).1)]
theorem eqB_f (a b : List Bool) (hl : a.length < 10000000000000) (fu : Nat) (hf : a.length < fu) : slices_Equal_bool_bool.f fu a b = some (decide (a = b)) := by
  unfold slices_Equal_bool_bool.f
  by_cases h : a.length = b.length
  · rw [if_pos (by omega)]
    have := eqB_l0 a b h hl a.length 0 fu (by omega) hf
    simpa using this
  · rw [if_neg (by omega), decide_eq_false (fun e => h (by rw [e]))]
def shortL (xs : List (List Bool)) : Prop := xs.length ≤ 10000 ∧ ∀ S ∈ xs, S.length ≤ 1000
instance (xs : List (List Bool)) : Decidable (shortL xs) := inferInstanceAs (Decidable (_ ∧ _))
end Go.Proofs.Ytbamanjedfccpaa.HTab
namespace Go.Proofs.Ytbamanjedfccpaa.X
open Go.RowKit Go.Proofs.YtbamanjedfccpaaW.PrintWords Go.Proofs.YtbamanjedfccpaaW.PrintLast Go.Proofs.YtbamanjedfccpaaW.PrintMore Go.Proofs.Ytbamanjedfccpaa.HTab
end Go.Proofs.Ytbamanjedfccpaa.X
end

section
set_option linter.unusedVariables false
set_option linter.unusedSimpArgs false
namespace Go.Proofs.Ytbamanjedfccpaa.X
open Go.RowKit Go.Proofs.YtbamanjedfccpaaW.PrintWords Go.Proofs.YtbamanjedfccpaaW.PrintLast Go.Proofs.YtbamanjedfccpaaW.PrintMore
attribute [local go_sem] max2_int min2_int max_two min_two max_three min_three max_four min_four   -- for this text's walks alone
set_option linter.unusedVariables false
set_option linter.unusedSimpArgs false
end Go.Proofs.Ytbamanjedfccpaa.X
end

section
set_option linter.unusedVariables false
set_option linter.unusedSimpArgs false
namespace Go.Proofs.Ytbamanjedfccpaa.HTab
open Go.RowKit Go.Proofs.YtbamanjedfccpaaW.PrintWords Go.Proofs.YtbamanjedfccpaaW.PrintLast Go.Proofs.YtbamanjedfccpaaW.PrintMore Go.Proofs.Ytbamanjedfccpaa.X
set_option linter.unusedVariables false
set_option linter.unusedSimpArgs false
end Go.Proofs.Ytbamanjedfccpaa.HTab
end

section
set_option linter.unusedVariables false
set_option linter.unusedSimpArgs false
namespace Go.Proofs.Ytbamanjedfccpaa.X
open Go.RowKit Go.Proofs.YtbamanjedfccpaaW.PrintWords Go.Proofs.YtbamanjedfccpaaW.PrintLast Go.Proofs.YtbamanjedfccpaaW.PrintMore
attribute [local go_sem] max2_int min2_int max_two min_two max_three min_three max_four min_four   -- for this text's walks alone
set_option linter.unusedVariables false
set_option linter.unusedSimpArgs false
end Go.Proofs.Ytbamanjedfccpaa.X
end

section
set_option linter.unusedVariables false
set_option linter.unusedSimpArgs false
namespace Go.Proofs.Ytbamanjedfccpaa.HTab
open Go.RowKit Go.Proofs.YtbamanjedfccpaaW.PrintWords Go.Proofs.YtbamanjedfccpaaW.PrintLast Go.Proofs.YtbamanjedfccpaaW.PrintMore Go.Proofs.Ytbamanjedfccpaa.X
set_option linter.unusedVariables false
set_option linter.unusedSimpArgs false
end Go.Proofs.Ytbamanjedfccpaa.HTab
end

section
set_option linter.unusedVariables false
set_option linter.unusedSimpArgs false
namespace Go.Proofs.Ytbamanjedfccpaa.X
open Go.RowKit Go.Proofs.YtbamanjedfccpaaW.PrintWords Go.Proofs.YtbamanjedfccpaaW.PrintLast Go.Proofs.YtbamanjedfccpaaW.PrintMore
attribute [local go_sem] max2_int min2_int max_two min_two max_three min_three max_four min_four   -- for this text's walks alone
set_option linter.unusedVariables false
set_option linter.unusedSimpArgs false
end Go.Proofs.Ytbamanjedfccpaa.X
end

section
set_option linter.unusedVariables false
set_option linter.unusedSimpArgs false
namespace Go.Proofs.Ytbamanjedfccpaa.HTab
open Go.RowKit Go.Proofs.YtbamanjedfccpaaW.PrintWords Go.Proofs.YtbamanjedfccpaaW.PrintLast Go.Proofs.YtbamanjedfccpaaW.PrintMore Go.Proofs.Ytbamanjedfccpaa.X
set_option linter.unusedVariables false
set_option linter.unusedSimpArgs false
theorem costF_app (both : Bool) (T : Int → Bool) : ∀ l m : List S35, costF both T (l ++ m) = costF both T l + costF both T m
  | [], m => by simp [costF]
  | a :: l, m => by
    simp only [List.cons_append, costF, costF_app both T l m]
    omega
end Go.Proofs.Ytbamanjedfccpaa.HTab
end

section
set_option linter.unusedVariables false
set_option linter.unusedSimpArgs false
namespace Go.Proofs.Ytbamanjedfccpaa.HTab
open Go.RowKit Go.Proofs.YtbamanjedfccpaaW.PrintWords Go.Proofs.YtbamanjedfccpaaW.PrintLast Go.Proofs.YtbamanjedfccpaaW.PrintMore Go.Proofs.Ytbamanjedfccpaa.X
set_option linter.unusedVariables false
set_option linter.unusedSimpArgs false
def lowC (l3 : List Int) (r i : Int) : Int := mn (rd l3 i + r) 0
def cellA (n : Int) (l2 l3 : List Int) (r : Int) (i : Nat) : List S35 := [⟨0, (i : Int) + 1, rd l2 (i : Int) - lowC l3 r (i : Int)⟩, ⟨(i : Int) + 1, n + 1, rd l3 (i : Int) + r - lowC l3 r (i : Int)⟩]
def pairA (p : S100) : List S35 := [⟨p.f0 + 1, p.f1 + 1, p.f2⟩, ⟨p.f1 + 1, p.f0 + 1, p.f2⟩]
def arcsL (W H : Int) (l2 l3 l4 l5 : List Int) (r : Int) : List S35 := (List.range (W * H).toNat).flatMap (cellA (W * H) l2 l3 r) ++ (pairsL W l4 l5).flatMap pairA
theorem flat_len {α : Type} (g : α → List S35) (hg : ∀ a, (g a).length = 2) : ∀ l : List α, (l.flatMap g).length = 2 * l.length
  | [] => rfl
  | a :: l => by
    rw [List.flatMap_cons, List.length_append, hg a, flat_len g hg l, List.length_cons]
    omega
theorem lowC_in {l3 : List Int} (h : ∀ x ∈ l3, 0 ≤ x ∧ x ≤ 1000) {r : Int} (hr : -10000 ≤ r ∧ r ≤ 10000) (i : Int) : -10000 ≤ lowC l3 r i ∧ lowC l3 r i ≤ 0 ∧ lowC l3 r i ≤ rd l3 i + r := by
  have := rd_in h i
  unfold lowC mn
  split <;> omega
section
variable {W H : Int} {l2 l3 l4 l5 : List Int} (hc : ClOK W H l2 l3 l4 l5)
include hc
theorem arcs_l1 (N : Int) : ∀ (d i fu : Nat) (X : List S35), i + d = (pairsL W l4 l5).length → d < fu → X.length + 2 * d ≤ 1000 →
    wax_Cloth_arcs.l1 fu (pairsL W l4 l5) (pairsL W l4 l5).length i N X = some (X ++ ((pairsL W l4 l5).drop i).flatMap pairA)
  | d, i, 0, X, h, hf, hX => by omega
  | 0, i, fu + 1, X, h, hf, hX => by
    simp only [wax_Cloth_arcs.l1]
    rw [if_neg (by omega), List.drop_eq_nil_of_le (by omega)]
    simp
  | d + 1, i, fu + 1, X, h, hf, hX => by
    have hi : i < (pairsL W l4 l5).length := by omega
    have hrd : rd_T100 (pairsL W l4 l5) (i : Int) = (pairsL W l4 l5)[i] := by simp [rd_T100, hi]
    have hp := pairs_in hc _ (List.getElem_mem hi)
    have hn := hc.n
    have hpl := pairs_len hc
    obtain ⟨p, hpe⟩ : ∃ p, p = (pairsL W l4 l5)[i] := ⟨_, rfl⟩
    have ih := fun X hX => arcs_l1 N d (i + 1) fu X (by omega) (by omega) hX
    simp only [wax_Cloth_arcs.l1]
    rw [if_pos (by omega), if_pos (by omega), if_pos (by omega), hrd, List.drop_eq_getElem_cons hi, ← hpe]
    rw [← hpe] at hp
    rw [show wrap64 ((i : Int) + 1) = ((i + 1 : Nat) : Int) from wrap_add1 (by omega) (by omega), show wrap64 (p.f0 + 1) = p.f0 + 1 from wrap_id (by omega) (by omega), show wrap64 (p.f1 + 1) = p.f1 + 1 from wrap_id (by omega) (by omega)]
    rw [Option.bind_some, if_pos (by simp; omega), ih _ (by simp; omega), List.flatMap_cons, ← List.append_assoc]
    rfl
theorem arcs_l0 {r : Int} (hr : -10000 ≤ r ∧ r ≤ 10000) (n : Nat) (hn : (n : Int) = W * H) : ∀ (d i fu : Nat) (X : List S35), i + d = n → d + 100 < fu → X.length + 2 * d ≤ 100 →
    wax_Cloth_arcs.l0 fu r n i W H l2 l3 l4 l5 ((n : Int) + 2) X = some (X ++ ((List.range n).drop i).flatMap (cellA n l2 l3 r) ++ (pairsL W l4 l5).flatMap pairA)
  | d, i, 0, X, h, hf, hX => by omega
  | 0, i, fu + 1, X, h, hf, hX => by
    have hpl := pairs_len hc
    simp only [wax_Cloth_arcs.l0]
    rw [if_neg (by omega), List.drop_eq_nil_of_le (by simp; omega), pairs_f hc fu (by omega), Option.bind_some]
    have := arcs_l1 hc ((n : Int) + 2) (pairsL W l4 l5).length 0 fu X (by omega) (by omega) (by omega)
    rw [List.drop_zero] at this
    rw [List.flatMap_nil, List.append_nil]
    exact this
  | d + 1, i, fu + 1, X, h, hf, hX => by
    have hN := hc.n
    have h2 := hc.n2
    have h3 := hc.n3
    have hb2 := rd_in hc.b2 (i : Int)
    have hb3 := rd_in hc.b3 (i : Int)
    have hlo := lowC_in hc.b3 hr (i : Int)
    have ih := fun X hX => arcs_l0 hr n hn d (i + 1) fu X (by omega) (by omega) hX
    simp only [wax_Cloth_arcs.l0]
    rw [if_pos (by omega), if_pos (by omega), if_pos (by omega), if_pos (by omega)]
    rw [show wrap64 (rd l3 (i : Int) + r) = rd l3 (i : Int) + r from wrap_id (by omega) (by omega)]
    rw [show mn (rd l3 (i : Int) + r) 0 = lowC l3 r i from rfl]
    rw [show wrap64 ((i : Int) + 1) = ((i + 1 : Nat) : Int) from wrap_add1 (by omega) (by omega), show wrap64 ((n : Int) + 2 - 1) = (n : Int) + 1 by rw [wrap_id (by omega) (by omega)]; omega, show wrap64 (rd l2 (i : Int) - lowC l3 r i) = rd l2 (i : Int) - lowC l3 r i from wrap_id (by omega) (by omega), show wrap64 (rd l3 (i : Int) + r - lowC l3 r i) = rd l3 (i : Int) + r - lowC l3 r i from wrap_id (by omega) (by omega)]
    rw [Option.bind_some, if_pos (by simp; omega), ih _ (by simp; omega), List.drop_eq_getElem_cons (l := List.range n) (i := i) (by simp; omega), List.flatMap_cons, List.getElem_range, ← List.append_assoc]
    rfl
theorem arcs_f {r : Int} (hr : -10000 ≤ r ∧ r ≤ 10000) (fu : Nat) (hf : 200 ≤ fu) : wax_Cloth_arcs.f fu W H l2 l3 l4 l5 r = some (arcsL W H l2 l3 l4 l5 r) := by
  have hN := hc.n
  obtain ⟨n, hn⟩ : ∃ n : Nat, (n : Int) = W * H := ⟨(W * H).toNat, by omega⟩
  have := arcs_l0 hc hr n hn n 0 fu [] (by omega) (by omega) (by simp; omega)
  unfold wax_Cloth_arcs.f arcsL
  rw [← hn, Int.toNat_natCast, show wrap64 (n : Int) = (n : Int) from wrap_id (by omega) (by omega), show wrap64 ((n : Int) + 2) = (n : Int) + 2 from wrap_id (by omega) (by omega)]
  exact this
theorem arcs_len (r : Int) : (arcsL W H l2 l3 l4 l5 r).length ≤ 300 := by
  have hN := hc.n
  have hpl := pairs_len hc
  unfold arcsL
  rw [List.length_append, flat_len _ (fun _ => rfl), flat_len _ (fun _ => rfl), List.length_range]
  omega
theorem arcs_good {r : Int} (hr : -10000 ≤ r ∧ r ≤ 10000) (N : Nat) (hN : (N : Int) = W * H + 2) : Good N (arcsL W H l2 l3 l4 l5 r) ∧ ∀ a ∈ arcsL W H l2 l3 l4 l5 r, 0 ≤ a.f2 ∧ a.f2 ≤ 1000000 := by
  have hn := hc.n
  have key : ∀ a ∈ arcsL W H l2 l3 l4 l5 r, (0 ≤ a.f0 ∧ a.f0 < (N : Int) ∧ 0 ≤ a.f1 ∧ a.f1 < (N : Int)) ∧ 0 ≤ a.f2 ∧ a.f2 ≤ 1000000 := fun a ha => by
    unfold arcsL at ha
    rcases List.mem_append.1 ha with ha | ha
    · obtain ⟨i, hi, ha⟩ := List.mem_flatMap.1 ha
      have hi := List.mem_range.1 hi
      have hb2 := rd_in hc.b2 (i : Int)
      have hb3 := rd_in hc.b3 (i : Int)
      have hlo := lowC_in hc.b3 hr (i : Int)
      unfold cellA at ha
      simp only [List.mem_cons, List.not_mem_nil, or_false] at ha
      rcases ha with rfl | rfl <;> dsimp only <;> omega
    · obtain ⟨p, hp, ha⟩ := List.mem_flatMap.1 ha
      have := pairs_in hc p hp
      unfold pairA at ha
      simp only [List.mem_cons, List.not_mem_nil, or_false] at ha
      rcases ha with rfl | rfl <;> dsimp only <;> omega
  exact ⟨fun a ha => (key a ha).1, fun a ha => (key a ha).2⟩
end
def sideL (S : List Bool) (v : Int) : Bool := decide (v = 0) || (decide (1 ≤ v) && rdOf false S (v - 1))
theorem rdOf_out (S : List Bool) (i : Int) (h : (S.length : Int) ≤ i) : rdOf false S i = false := by
  unfold rdOf
  rw [List.getD_eq_getElem?_getD, List.getElem?_eq_none (by omega)]
  rfl
theorem sideL_in (S : List Bool) (i : Int) (h : 0 ≤ i) : sideL S (i + 1) = rdOf false S i := by
  unfold sideL
  rw [decide_eq_false (by omega), decide_eq_true (show 1 ≤ i + 1 by omega), show i + 1 - 1 = i by omega]
  rfl
theorem sideL_side (S : List Bool) (N : Nat) (h : S.length + 2 = N) : side (sideL S) 0 ((N : Int) - 1) := by
  constructor
  · rfl
  · rw [show (N : Int) - 1 = (S.length : Int) + 1 by omega, sideL_in _ _ (by omega), rdOf_out _ _ (by omega)]
theorem cell_cost (n : Nat) (l2 l3 : List Int) (r : Int) (S : List Bool) (hS : S.length = n) : ∀ m : Nat, m ≤ n → costF false (sideL S) ((List.range m).flatMap (cellA n l2 l3 r)) = sumF (fun v => cellE l2 l3 r S v - lowC l3 r v) m
  | 0, _ => rfl
  | m + 1, h => by
    have ih := cell_cost n l2 l3 r S hS m (by omega)
    rw [List.range_succ, List.flatMap_append, costF_app, ih, List.flatMap_cons, List.flatMap_nil, List.append_nil]
    simp only [sumF]
    congr 1
    unfold cellA cellE
    simp only [costF]
    rw [sideL_in S m (by omega), sideL_in S n (by omega), rdOf_out S n (by omega), show sideL S 0 = true from rfl]
    cases rdOf false S (m : Int) <;> simp
theorem pair_cost (S : List Bool) : ∀ l : List S100, (∀ p ∈ l, 0 ≤ p.f0 ∧ 0 ≤ p.f1) → costF false (sideL S) (l.flatMap pairA) = pairE S l
  | [], _ => rfl
  | p :: l, h => by
    have ih := pair_cost S l (fun q hq => h q (List.mem_cons_of_mem _ hq))
    obtain ⟨h0, h1⟩ := h p (List.mem_cons_self ..)
    rw [List.flatMap_cons, costF_app, ih]
    simp only [pairE]
    congr 1
    unfold pairA
    simp only [costF]
    rw [sideL_in S _ h0, sideL_in S _ h1]
    cases rdOf false S p.f0 <;> cases rdOf false S p.f1 <;> simp
theorem en_cost {W H : Int} {l2 l3 l4 l5 : List Int} (hc : ClOK W H l2 l3 l4 l5) (r : Int) (S : List Bool) (hS : (S.length : Int) = W * H) :
    enE W H l2 l3 l4 l5 r S = costF false (sideL S) (arcsL W H l2 l3 l4 l5 r) + sumF (lowC l3 r) (W * H).toNat := by
  have h1 := cell_cost S.length l2 l3 r S rfl S.length (Nat.le_refl _)
  have h2 := pair_cost S (pairsL W l4 l5) (fun p hp => ⟨(pairs_in hc p hp).1, (pairs_in hc p hp).2.2.1⟩)
  unfold enE arcsL
  rw [costF_app, ← hS, Int.toNat_natCast, h1, h2, sumF_sub]
  omega
structure NetC (N : Nat) (arcs : List S35) (s : Int) (l1 D : List Int) (G : List Bool) : Prop where
  net : netM N arcs = some (midL (leastL D) N, midL G N)
  lok : LOK false arcs l1
  res : ∀ T, resF T arcs l1 = costF false T arcs - s * (ind T 0 - ind T ((N : Int) - 1))
  lv : LvD arcs l1 (outZ N arcs) 0 N D
  gr : GrD arcs l1 (outZ N arcs) ((N : Int) - 1) N G
  no : rd D ((N : Int) - 1) < 0
theorem netC {N : Nat} {arcs : List S35} (h3 : 3 ≤ N) (hN : N ≤ 1000) (hl : arcs.length ≤ 1000) (d : Good N arcs) (e : ∀ a ∈ arcs, 0 ≤ a.f2 ∧ a.f2 ≤ 1000000) : ∃ s l1 D G, NetC N arcs s l1 D G := by
  obtain ⟨s, l1, d1, n1, hF, hs, hL, hr, hv, hn⟩ := fillZ_ok false N arcs 0 ((N : Int) - 1) hN hl d e (by omega) (by omega) (by omega)
  obtain ⟨D, hD, hvD⟩ := level_ok arcs l1 (outZ N arcs) 0 ((N : Int) - 1) N d1 n1 (by omega) (by omega) (rows_in d) fuelW (by unfold fuelW; omega)
  obtain ⟨G, hG, hgG⟩ := great_ok arcs l1 (outZ N arcs) 0 ((N : Int) - 1) N D n1 (by omega) (rows_in d) fuelW (by unfold fuelW; omega)
  have hno : rd D ((N : Int) - 1) < 0 := by
    refine Int.not_le.1 (fun hq => ?_)
    have h0 := reach_zero d hL hv
    have := least_in d hL hvD (fun v => decide (0 ≤ rd d1 v)) (by simp [hv.s0]) h0 (rd D ((N : Int) - 1)).toNat ((N : Int) - 1) (by omega) (by omega) (by omega)
    have := of_decide_eq_true this
    omega
  refine ⟨s, l1, D, G, ?_, hL, hr, hvD, hgG, hno⟩
  unfold netM
  rw [if_pos ⟨h3, hN, hl, d⟩, hF, Option.bind_some]
  have hD' : levelP fuelW ((restP false N arcs 0 ((N : Int) - 1)).dat_ l1 d1 n1) = some D := hD
  have hG' : greatP fuelW ((restP false N arcs 0 ((N : Int) - 1)).dat_ l1 D n1) = some G := hG
  dsimp only
  rw [hD', Option.bind_some, hG', Option.bind_some, if_pos ⟨hL.len, hvD.len, hgG.len⟩]
section
variable {N : Nat} {arcs : List S35} {s : Int} {l1 D : List Int} {G : List Bool}
theorem NetC.min (h : NetC N arcs s l1 D G) (T : Int → Bool) (hT : side T 0 ((N : Int) - 1)) : s ≤ costF false T arcs := by
  have h1 := h.res T
  have h2 := resF_nonneg T h.lok
  rw [ind_side hT] at h1
  omega
theorem NetC.zero (h : NetC N arcs s l1 D G) (T : Int → Bool) (hT : side T 0 ((N : Int) - 1)) : costF false T arcs = s ↔ resF T arcs l1 = 0 := by
  have h1 := h.res T
  rw [ind_side hT] at h1
  omega
theorem NetC.least_rd (h : NetC N arcs s l1 D G) (x : Int) (x0 : 0 ≤ x) (x1 : x < N) : rdOf false (leastL D) x = decide (0 ≤ rd D x) := leastL_rd D x x0 (by rw [h.lv.len]; exact x1)
theorem NetC.least_side (h : NetC N arcs s l1 D G) (hN : 2 ≤ N) : side (fun v => rdOf false (leastL D) v) 0 ((N : Int) - 1) := by
  constructor
  · show rdOf false (leastL D) 0 = true
    rw [h.least_rd 0 (by omega) (by omega), h.lv.s0]
    rfl
  · show rdOf false (leastL D) ((N : Int) - 1) = false
    rw [h.least_rd _ (by omega) (by omega)]
    exact decide_eq_false (by have := h.no; omega)
theorem NetC.least_cost (h : NetC N arcs s l1 D G) (hN : 2 ≤ N) (hg : Good N arcs) : costF false (fun v => rdOf false (leastL D) v) arcs = s := by
  rw [costF_congr (N := N) false _ (fun v => decide (0 ≤ rd D v)) (fun v v0 v1 => h.least_rd v v0 v1) arcs hg]
  refine (h.zero _ ⟨by simp [h.lv.s0], ?_⟩).2 (reach_zero hg h.lok h.lv)
  exact decide_eq_false (by have := h.no; omega)
theorem NetC.great_side (h : NetC N arcs s l1 D G) (hN : 2 ≤ N) (hg : Good N arcs) : side (fun v => rdOf false G v) 0 ((N : Int) - 1) :=
  ⟨great_src hg h.lv h.gr h.no 0 (by omega) (by omega) (by rw [h.lv.s0]; omega), h.gr.s0⟩
theorem NetC.great_cost (h : NetC N arcs s l1 D G) (hN : 2 ≤ N) (hg : Good N arcs) : costF false (fun v => rdOf false G v) arcs = s :=
  (h.zero _ (h.great_side hN hg)).2 (great_zero hg h.lok h.gr)
theorem NetC.between (h : NetC N arcs s l1 D G) (hN : 2 ≤ N) (hg : Good N arcs) (T : Int → Bool) (hT : side T 0 ((N : Int) - 1)) (hc : costF false T arcs = s) (x : Int) (x0 : 0 ≤ x) (x1 : x < N) : (rdOf false (leastL D) x = true → T x = true) ∧ (T x = true → rdOf false G x = true) := by
  have h0 := (h.zero T hT).1 hc
  refine ⟨fun hx => ?_, fun hx => ?_⟩
  · rw [h.least_rd x x0 x1] at hx
    have := of_decide_eq_true hx
    exact least_in hg h.lok h.lv T hT.1 h0 (rd D x).toNat x x0 x1 (by omega)
  · cases hq : rdOf false G x with
    | true => rfl
    | false =>
      have := great_in hg h.lok h.gr T hT.2 h0 x x0 x1 hq
      rw [this] at hx
      cases hx
end
theorem midL_rd (S : List Bool) (N : Nat) (hS : S.length = N) (i : Int) (i0 : 0 ≤ i) (i1 : i < (N : Int) - 2) : rdOf false (midL S N) i = rdOf false S (i + 1) := by
  obtain ⟨n, rfl⟩ : ∃ n : Nat, i = n := ⟨i.toNat, by omega⟩
  unfold midL rdOf
  rw [List.getD_eq_getElem?_getD, List.getD_eq_getElem?_getD, List.getElem?_take, if_pos (by omega), List.getElem?_drop]
  congr 2
  omega
theorem sideL_mid (S : List Bool) (N : Nat) (h2 : 2 ≤ N) (hS : S.length = N) (h0 : rdOf false S 0 = true) (h1 : rdOf false S ((N : Int) - 1) = false) (v : Int) (v0 : 0 ≤ v) (v1 : v < N) : sideL (midL S N) v = rdOf false S v := by
  by_cases c : v = 0
  · subst c
    rw [h0]
    rfl
  · obtain ⟨i, rfl⟩ : ∃ i, v = i + 1 := ⟨v - 1, by omega⟩
    rw [sideL_in _ _ (by omega)]
    by_cases d : i < (N : Int) - 2
    · exact midL_rd S N hS i (by omega) d
    · obtain rfl : i = (N : Int) - 2 := by omega
      rw [rdOf_out _ _ (by rw [midL_len S N hS h2]; omega), show (N : Int) - 2 + 1 = (N : Int) - 1 by omega, h1]
structure LabD (W H : Int) (l2 l3 l4 l5 : List Int) (r : Int) (a b : List Bool) : Prop where
  labels : wax_Cloth_labels.f W H l2 l3 l4 l5 r = some (a, b)
  la : (a.length : Int) = W * H
  lb : (b.length : Int) = W * H
  min : ∀ S : List Bool, (S.length : Int) = W * H → enE W H l2 l3 l4 l5 r a ≤ enE W H l2 l3 l4 l5 r S
  eq : enE W H l2 l3 l4 l5 r b = enE W H l2 l3 l4 l5 r a
  btw : ∀ S : List Bool, (S.length : Int) = W * H → enE W H l2 l3 l4 l5 r S = enE W H l2 l3 l4 l5 r a → ∀ x : Int, 0 ≤ x → x < W * H → (rdOf false a x = true → rdOf false S x = true) ∧ (rdOf false S x = true → rdOf false b x = true)
theorem labD {W H : Int} {l2 l3 l4 l5 : List Int} (hv : cvB W H l2 l3 l4 l5 = true) {r : Int} (hr : -10000 ≤ r ∧ r ≤ 10000) : ∃ a b, LabD W H l2 l3 l4 l5 r a b := by
  have hc := cvB_ok hv
  have hn := hc.n
  obtain ⟨N, hN⟩ : ∃ N : Nat, (N : Int) = W * H + 2 := ⟨(W * H + 2).toNat, by omega⟩
  obtain ⟨hg, he⟩ := arcs_good hc hr N hN
  obtain ⟨s, l1, D, G, h⟩ := netC (N := N) (arcs := arcsL W H l2 l3 l4 l5 r) (by omega) (by omega) (by have := arcs_len hc r; omega) hg he
  have h2 : 2 ≤ N := by omega
  have hDl : (leastL D).length = N := by unfold leastL; rw [List.length_map]; exact h.lv.len
  have hGl := h.gr.len
  have sD := h.least_side h2
  have sG := h.great_side h2 hg
  have la := midL_len _ N hDl h2
  have lb := midL_len _ N hGl h2
  have cD := (costF_congr (N := N) false _ _ (fun v v0 v1 => sideL_mid (leastL D) N h2 hDl sD.1 sD.2 v v0 v1) _ hg).trans (h.least_cost h2 hg)
  have cG := (costF_congr (N := N) false _ _ (fun v v0 v1 => sideL_mid G N h2 hGl sG.1 sG.2 v v0 v1) _ hg).trans (h.great_cost h2 hg)
  refine ⟨midL (leastL D) N, midL G N, ?_, by omega, by omega, fun S hS => ?_, ?_, fun S hS hE x x0 x1 => ?_⟩
  · unfold wax_Cloth_labels.f
    rw [arcs_f hc hr 10000 (by omega), Option.bind_some, show wrap64 (W * H) = W * H from wrap_id (by omega) (by omega), show wrap64 (W * H + 2) = (N : Int) by rw [wrap_id (by omega) (by omega)]; omega, Int.toNat_natCast]
    exact h.net
  · rw [en_cost hc r S hS, en_cost hc r _ (by omega), cD]
    have := h.min (sideL S) (sideL_side S N (by omega))
    omega
  · rw [en_cost hc r _ (by omega), en_cost hc r _ (by omega), cD, cG]
  · rw [en_cost hc r S hS, en_cost hc r _ (by omega), cD] at hE
    have hb := h.between h2 hg (sideL S) (sideL_side S N (by omega)) (by omega) (x + 1) (by omega) (by omega)
    rw [sideL_in S x x0] at hb
    rw [midL_rd _ N hDl x x0 (by omega), midL_rd _ N hGl x x0 (by omega)]
    exact hb
end Go.Proofs.Ytbamanjedfccpaa.HTab
end

section
set_option linter.unusedVariables false
set_option linter.unusedSimpArgs false
namespace Go.Proofs.Ytbamanjedfccpaa.HTab
open Go.RowKit Go.Proofs.YtbamanjedfccpaaW.PrintWords Go.Proofs.YtbamanjedfccpaaW.PrintLast Go.Proofs.YtbamanjedfccpaaW.PrintMore Go.Proofs.Ytbamanjedfccpaa.X
set_option linter.unusedVariables false
set_option linter.unusedSimpArgs false
structure RNetD (N : Nat) (l : List S34) (v : Int) (G : List (List Int)) (fr bk : List Int) : Prop where
  grt : rgrt N l = some (v, G)
  ok : GOK N G
  res : ∀ T, resG N T G = costF false T (l.map cvA) - v * (ind T 0 - ind T ((N : Int) - 1))
  v0 : 0 ≤ v
  f1 : cantingref07_way.f fuelK G 0 = some fr
  w1 : WayD N G 0 fr
  no : rd fr ((N : Int) - 1) < 0
  f2 : cantingref07_way.f fuelK (backG N G) ((N : Int) - 1) = some bk
  w2 : WayD N (backG N G) ((N : Int) - 1) bk
theorem back_sq (N : Nat) (G : List (List Int)) : GSq N (backG N G) ∧ ∀ i j : Int, 0 ≤ i → i < N → 0 ≤ j → j < N → gr (backG N G) i j = gr G j i := by
  have e : ∀ i : Int, 0 ≤ i → i < N → rd_L4 (backG N G) i = (List.range N).map fun (j : Nat) => gr G (j : Int) i := fun i i0 i1 => by
    obtain ⟨n, rfl⟩ : ∃ n : Nat, i = n := ⟨i.toNat, by omega⟩
    have hn : n < N := by omega
    simp [rd_L4, backG, hn]
  refine ⟨⟨by simp [backG], fun i i0 i1 => by rw [e i i0 i1]; simp⟩, fun i j i0 i1 j0 j1 => ?_⟩
  have h2 : gr (backG N G) i j = rd (rd_L4 (backG N G) i) j := rfl
  rw [h2, e i i0 i1]
  obtain ⟨n, rfl⟩ : ∃ n : Nat, j = n := ⟨j.toNat, by omega⟩
  have hn : n < N := by omega
  simp [rd, hn]
section
variable {N : Nat} {l : List S34} {v : Int} {G : List (List Int)} {fr bk : List Int}
end
end Go.Proofs.Ytbamanjedfccpaa.HTab
end

section
set_option linter.unusedVariables false
set_option linter.unusedSimpArgs false
namespace Go.Proofs.Ytbamanjedfccpaa.X
open Go.RowKit Go.Proofs.YtbamanjedfccpaaW.PrintWords Go.Proofs.YtbamanjedfccpaaW.PrintLast Go.Proofs.YtbamanjedfccpaaW.PrintMore
attribute [local go_sem] max2_int min2_int max_two min_two max_three min_three max_four min_four   -- for this text's walks alone
set_option linter.unusedVariables false
set_option linter.unusedSimpArgs false
end Go.Proofs.Ytbamanjedfccpaa.X
end

section
set_option linter.unusedVariables false
set_option linter.unusedSimpArgs false
namespace Go.Proofs.Ytbamanjedfccpaa.X
open Go.RowKit Go.Proofs.YtbamanjedfccpaaW.PrintWords Go.Proofs.YtbamanjedfccpaaW.PrintLast Go.Proofs.YtbamanjedfccpaaW.PrintMore
attribute [local go_sem] max2_int min2_int max_two min_two max_three min_three max_four min_four   -- for this text's walks alone
set_option linter.unusedVariables false
set_option linter.unusedSimpArgs false
end Go.Proofs.Ytbamanjedfccpaa.X
end

section
set_option linter.unusedVariables false
set_option linter.unusedSimpArgs false
namespace Go.Proofs.Ytbamanjedfccpaa.HTab
open Go.RowKit Go.Proofs.YtbamanjedfccpaaW.PrintWords Go.Proofs.YtbamanjedfccpaaW.PrintLast Go.Proofs.YtbamanjedfccpaaW.PrintMore Go.Proofs.Ytbamanjedfccpaa.X
set_option linter.unusedVariables false
set_option linter.unusedSimpArgs false
theorem fromL_len (fr : List Int) (N : Nat) : (fromL fr N).length = N := by simp [fromL]
theorem toL_len (fr : List Int) (N : Nat) : (toL fr N).length = N := by simp [toL]
theorem fromL_rd (fr : List Int) (N v : Nat) (h : v < N) : rdOf false (fromL fr N) (v : Int) = decide (0 ≤ rd fr (v : Int)) := by
  have e : rdOf false (fromL fr N) (v : Int) = (fromL fr N).getD v false := by simp [rdOf]
  rw [e]
  simp [fromL, h]
theorem toL_rd (fr : List Int) (N v : Nat) (h : v < N) : rdOf false (toL fr N) (v : Int) = decide (rd fr (v : Int) < 0) := by
  have e : rdOf false (toL fr N) (v : Int) = (toL fr N).getD v false := by simp [rdOf]
  rw [e]
  simp [toL, h]
theorem WayD.all_in {N : Nat} {g : List (List Int)} {s : Int} {fr : List Int} (h : WayD N g s fr) (P : Int → Prop) (hs : P s) (hP : ∀ y x : Int, 0 ≤ y → y < N → 0 ≤ x → x < N → 0 ≤ rd fr y → P y → 0 < gr g y x → P x) : ∀ x : Int, 0 ≤ x → x < N → 0 ≤ rd fr x → P x := by
  obtain ⟨p, hp1, hp2⟩ := h.rank
  have key : ∀ (k : Nat) (x : Int), p x ≤ k → 0 ≤ x → x < N → 0 ≤ rd fr x → P x := by
    intro k
    induction k with
    | zero =>
      intro x hk x0 x1 hx
      by_cases e : x = s
      · rw [e]; exact hs
      · obtain ⟨a, b, c⟩ := hp2 x x0 x1 e hx
        omega
    | succ k ih =>
      intro x hk x0 x1 hx
      by_cases e : x = s
      · rw [e]; exact hs
      · obtain ⟨a, b, c⟩ := hp2 x x0 x1 e hx
        have hl := h.lo x x0 x1
        exact hP (rd fr x) x hx hl.2 x0 x1 a (ih (rd fr x) (by omega) hx hl.2 a) c
  exact fun x x0 x1 hx => key (p x) x (Nat.le_refl _) x0 x1 hx
section
variable {N : Nat} {l : List S34} {v : Int} {G : List (List Int)} {fr bk : List Int} {l1 D : List Int} {GB : List Bool}
theorem RNetD.zero (r : RNetD N l v G fr bk) (T : Int → Bool) (hT : side T 0 ((N : Int) - 1)) : costF false T (l.map cvA) = v ↔ resG N T G = 0 := by
  have h1 := r.res T
  rw [ind_side hT] at h1
  omega
end
section
variable (N : Nat) (hN2 : 2 ≤ N) (hN : N ≤ 12) (l : List S34) (hl : l.length ≤ 160) (hg : GoodR N l)
include hN2 hN hl hg
end
end Go.Proofs.Ytbamanjedfccpaa.HTab
end

section
set_option linter.unusedVariables false
set_option linter.unusedSimpArgs false
namespace Go.Proofs.Ytbamanjedfccpaa.HTab
open Go.RowKit Go.Proofs.YtbamanjedfccpaaW.PrintWords Go.Proofs.YtbamanjedfccpaaW.PrintLast Go.Proofs.YtbamanjedfccpaaW.PrintMore Go.Proofs.Ytbamanjedfccpaa.X
set_option linter.unusedVariables false
set_option linter.unusedSimpArgs false
section
variable {W H : Int} {l2 l3 l4 l5 : List Int} (hc : ClOK W H l2 l3 l4 l5)
include hc
theorem rpairs_l1 : ∀ (d i fu : Nat), i + d = l5.length → d < fu → cantingref07_pairs.l1 fu ((List.range l4.length).map (pairR W l4) ++ (List.range i).map (pairD W l5)) l5 l5.length i W H l2 l3 l4 l5 = some (pairsL W l4 l5)
  | d, i, 0, h, hf => by omega
  | 0, i, fu + 1, h, hf => by
    obtain rfl : i = l5.length := by omega
    simp only [cantingref07_pairs.l1]
    rw [if_neg (by omega)]
    rfl
  | d + 1, i, fu + 1, h, hf => by
    have ih := rpairs_l1 d (i + 1) fu (by omega) (by omega)
    have hl := lens_le hc
    have hw := hc.w
    simp only [cantingref07_pairs.l1]
    rw [if_pos (by omega), if_pos (by omega), if_pos (by omega), if_pos (by simp; omega), show wrap64 ((i : Int) + 1) = ((i + 1 : Nat) : Int) from wrap_add1 (by omega) (by omega), show wrap64 ((i : Int) + W) = (i : Int) + W from wrap_id (by omega) (by omega)]
    rw [List.range_succ, List.map_append, ← List.append_assoc] at ih
    exact ih
theorem rpairs_l0 : ∀ (d i fu : Nat), i + d = l4.length → d + l5.length + 2 ≤ fu → cantingref07_pairs.l0 fu ((List.range i).map (pairR W l4)) l4 l4.length i W H l2 l3 l4 l5 = some (pairsL W l4 l5)
  | d, i, 0, h, hf => by omega
  | 0, i, fu + 1, h, hf => by
    obtain rfl : i = l4.length := by omega
    have := rpairs_l1 hc l5.length 0 fu (by omega) (by omega)
    simp only [cantingref07_pairs.l0]
    rw [if_neg (by omega)]
    rw [List.range_zero, List.map_nil, List.append_nil] at this
    exact this
  | d + 1, i, fu + 1, h, hf => by
    have ih := rpairs_l0 d (i + 1) fu (by omega) (by omega)
    have hl := lens_le hc
    have hw := hc.w
    have hr := right_in hc i (by omega)
    have hn := hc.n
    have e0 : wrap64 (W - 1) = W - 1 := wrap_id (by omega) (by omega)
    have i0 : (0 : Int) ≤ (i : Int) := by omega
    have q1 : 0 ≤ (i : Int) / (W - 1) ∧ (i : Int) / (W - 1) ≤ 36 := ⟨Int.ediv_nonneg i0 (by clear e0; omega), Int.le_trans (Int.ediv_le_self _ i0) (by clear e0; omega)⟩
    have q2 : 0 ≤ (i : Int) % (W - 1) ∧ (i : Int) % (W - 1) < W - 1 := ⟨Int.emod_nonneg _ (by clear e0; omega), Int.emod_lt_of_pos _ (by clear e0; omega)⟩
    have q3 : 0 ≤ (i : Int) / (W - 1) * W := Int.mul_nonneg q1.1 (by clear e0; omega)
    simp only [cantingref07_pairs.l0]
    rw [e0, Int.tdiv_eq_ediv_of_nonneg i0, Int.tmod_eq_emod_of_nonneg i0]
    clear e0
    rw [show wrap64 ((i : Int) / (W - 1)) = (i : Int) / (W - 1) from wrap_id (by omega) (by omega), show wrap64 ((i : Int) / (W - 1) * W) = (i : Int) / (W - 1) * W from wrap_id (by omega) (by omega), show wrap64 ((i : Int) / (W - 1) * W + (i : Int) % (W - 1)) = (i : Int) / (W - 1) * W + (i : Int) % (W - 1) from wrap_id (by omega) (by omega), show wrap64 ((i : Int) / (W - 1) * W + (i : Int) % (W - 1) + 1) = (i : Int) / (W - 1) * W + (i : Int) % (W - 1) + 1 from wrap_id (by omega) (by omega)]
    rw [if_pos (by omega), if_pos (by omega), if_pos (by omega), if_neg (by omega), if_pos (by simp; omega), show wrap64 ((i : Int) + 1) = ((i + 1 : Nat) : Int) from wrap_add1 (by omega) (by omega)]
    rw [List.range_succ, List.map_append] at ih
    exact ih
theorem rpairs_f (fu : Nat) (hf : 100 ≤ fu) : cantingref07_pairs.f fu W H l2 l3 l4 l5 = some (pairsL W l4 l5) := by
  have hl := lens_le hc
  have := rpairs_l0 hc l4.length 0 fu (by omega) (by omega)
  exact this
end
theorem pairE_app (S : List Bool) : ∀ l m : List S100, pairE S (l ++ m) = pairE S l + pairE S m
  | [], m => by simp [pairE]
  | p :: l, m => by
    simp only [List.cons_append, pairE, pairE_app S l m]
    omega
theorem pairE_take (S : List Bool) (l : List S100) (j : Nat) (h : j < l.length) : pairE S (l.take (j + 1)) = pairE S (l.take j) + (if (rdOf false S (l[j]).f0 != rdOf false S (l[j]).f1) = true then (l[j]).f2 else 0) := by
  rw [List.take_succ_eq_append_getElem h, pairE_app]
  simp [pairE]
set_option maxRecDepth 100000 in
set_option maxHeartbeats 8000000 in
theorem renergy_ok (C : Cl) (r : Int) (A : Option Addr) (c : Nat) (S : List Bool) (w : World) (hI : C.In w) (hv : ClOK C.W C.H C.l2 C.l3 C.l4 C.l5) (hr : -10000 ≤ r ∧ r ≤ 10000) (hS : Kd.C Kd.bool w A S.length S) (n : Nat) (hSn : S.length = n) (hn : (n : Int) = C.W * C.H) (hn36 : n ≤ 36) :
    Calls Try.prog 66 #[.agg #[.int .i64 C.W, .int .i64 C.H, .slice C.A2 C.l2.length C.c2, .slice C.A3 C.l3.length C.c3, .slice C.A4 C.l4.length C.c4, .slice C.A5 C.l5.length C.c5], .int .i64 r, .slice A S.length c] w fun e w' => e = .returned (.int .i64 (enE C.W C.H C.l2 C.l3 C.l4 C.l5 r S)) ∧ Below w.heap.size w w' := by
  have HI := Aside0.mk hI
  have HV := Aside0.mk hv
  have HS := Aside0.mk hS
  have HN := Aside0.mk (And.intro hSn (And.intro hn (And.intro hv.n2 hv.n3)))
  obtain ⟨W0, hW0⟩ : ∃ W, W = w.alloc (.cells #[.int .i64 C.W, .int .i64 C.H, .slice C.A2 C.l2.length C.c2, .slice C.A3 C.l3.length C.c3, .slice C.A4 C.l4.length C.c4, .slice C.A5 C.l5.length C.c5] 61) := ⟨_, rfl⟩
  have HB0 := Aside0.mk (show Below w.heap.size w W0 by rw [hW0]; exact below_alloc (Below.refl _ _) _)
  have HX0 := Aside0.mk (show W0.heap[w.heap.size]? = some (.cells #[.int .i64 C.W, .int .i64 C.H, .slice C.A2 C.l2.length C.c2, .slice C.A3 C.l3.length C.c3, .slice C.A4 C.l4.length C.c4, .slice C.A5 C.l5.length C.c5] 61 (0, 0)) by rw [hW0]; exact blk_new _ _)
  have S0 := Aside0.mk HB0.out.size
  clear hI hv hS hSn hn
  go_enter Try.func66, Try.ntmps66
  go_wp2
  rw [← hW0]
  clear hW0
  go_loopg [7, 14] (S.length) (fun kq vs vi w' => ∃ i : Nat, i + kq = S.length ∧ vi = .int .i64 i ∧ vs = .int .i64 (sumF (cellE C.l2 C.l3 r S) i) ∧ Aside0 (Below W0.heap.size W0 w'))
  case atStart => exact ⟨0, by omega, rfl, rfl, ⟨Below.refl _ _⟩⟩
  case round =>
    obtain ⟨i, hi, rfl, rfl, HW⟩ := hrel
    have hxr := blk_below HX0.out HW.out
    by_cases hlt : i < S.length
    · have hdec : decide (i < S.length) = true := decide_eq_true hlt
      have p0 : (0 : Int) ≤ (i : Int) := by omega
      have p1 : (i : Int) < (S.length : Int) := by omega
      obtain ⟨ad, ea, kb⟩ := Kd.at_bool (Kd.C_below HS.out (below_then HB0.out S0.out HW.out)) (i : Int) p0 p1
      subst ea
      have g2 : (i : Int) < (C.l2.length : Int) := by have := HN.out; omega
      have g3 : (i : Int) < (C.l3.length : Int) := by have := HN.out; omega
      have hIr := HI.out.below (below_then HB0.out S0.out HW.out)
      have hs := sumF_in i (fun v _ _ => cell_in HV.out hr S v)
      have hb2 := rd_in HV.out.b2 (i : Int)
      have hb3 := rd_in HV.out.b3 (i : Int)
      obtain ⟨s, hse⟩ : ∃ s, s = sumF (cellE C.l2 C.l3 r S) i := ⟨_, rfl⟩
      rw [← hse] at hs ⊢
      have hi36 : i ≤ 36 := by have := HN.out; omega
      cases hq : rdOf false S (i : Int) with
      | true =>
        obtain ⟨a3, e3, k3⟩ := Kd.at_int hIr.r3 (i : Int) p0 g3
        have kx := (blk_cell hxr 3).trans rfl
        rw [e3] at kx
        have e : sumF (cellE C.l2 C.l3 r S) (i + 1) = s + (rd C.l3 i + r) := by
          simp only [sumF]
          rw [← hse]
          unfold cellE
          rw [if_pos hq]
        rw [hq] at kb
        obtain ⟨z, hz⟩ : ∃ z, z = rd C.l3 (i : Int) := ⟨_, rfl⟩
        rw [← hz] at k3 hb3 e
        have u1 : wrap64 (z + r) = z + r := wrap_id (by omega) (by omega)
        have u2 : wrap64 (s + (z + r)) = s + (z + r) := wrap_id (by omega) (by omega)
        have he := Aside0.mk e
        simp only [Int.toNat_natCast] at kb k3
        clear hz e hse hq hIr hs hb2 hb3 e3 hxr
        go_wp2
        go_roundg (S.length - (i + 1))
        case measure => omega
        case rel => exact ⟨i + 1, by omega, by go_num, by rw [he.out]; first | rfl | exact congrArg (Value.int .i64) u2, HW⟩
      | false =>
        obtain ⟨a3, e3, k3⟩ := Kd.at_int hIr.r2 (i : Int) p0 g2
        have kx := (blk_cell hxr 2).trans rfl
        rw [e3] at kx
        have e : sumF (cellE C.l2 C.l3 r S) (i + 1) = s + rd C.l2 i := by
          simp only [sumF]
          rw [← hse]
          unfold cellE
          rw [if_neg (by rw [hq]; decide)]
        rw [hq] at kb
        obtain ⟨z, hz⟩ : ∃ z, z = rd C.l2 (i : Int) := ⟨_, rfl⟩
        rw [← hz] at k3 hb2 e
        have u2 : wrap64 (s + z) = s + z := wrap_id (by omega) (by omega)
        have he := Aside0.mk e
        simp only [Int.toNat_natCast] at kb k3
        clear hz e hse hq hIr hs hb2 hb3 e3 hxr
        go_wp2
        go_roundg (S.length - (i + 1))
        case measure => omega
        case rel => exact ⟨i + 1, by omega, by go_num, by rw [he.out]; first | rfl | exact congrArg (Value.int .i64) u2, HW⟩
    · have hdec : decide (i < S.length) = false := decide_eq_false hlt
      obtain rfl : i = S.length := by omega
      have x0 := (blk_cell hxr 0).trans rfl
      have x1 := (blk_cell hxr 1).trans rfl
      have x2 := (blk_cell hxr 2).trans rfl
      have x3 := (blk_cell hxr 3).trans rfl
      have x4 := (blk_cell hxr 4).trans rfl
      have x5 := (blk_cell hxr 5).trans rfl
      have HIr := Aside0.mk (HI.out.below (below_then HB0.out S0.out HW.out))
      clear hxr
      go_wp2_with fail
      refine (cantingref07_pairs.calls 200 C.W C.H C.A2 C.c2 C.l2 C.A3 C.c3 C.l3 C.A4 C.c4 C.l4 C.A5 C.c5 C.l5 (pairsL C.W C.l4 C.l5) wr HIr.out.r2 HIr.out.h2 HIr.out.r3 HIr.out.h3 HIr.out.r4 HIr.out.h4 HIr.out.r5 HIr.out.h5 (rpairs_f HV.out 200 (by omega))).mono ?_
      rintro e w2 ⟨vp, rfl, hP, hb2⟩
      obtain ⟨Ap, cp, rfl⟩ := Kd.R_slice hP
      have HB2 := Aside0.mk (below_then (below_then HB0.out S0.out HW.out) (Nat.le_trans S0.out HW.out.size) hb2)
      have HP := Aside0.mk (Kd.R_reads' hP).2.2
      have hpl : Aside0 ((pairsL C.W C.l4 C.l5).length ≤ 72) := ⟨pairs_len HV.out⟩
      obtain ⟨P, hPe⟩ : ∃ P, P = pairsL C.W C.l4 C.l5 := ⟨_, rfl⟩
      have HIN : Aside0 (∀ p ∈ P, 0 ≤ p.f0 ∧ p.f0 < (S.length : Int) ∧ 0 ≤ p.f1 ∧ p.f1 < (S.length : Int) ∧ 0 ≤ p.f2 ∧ p.f2 ≤ 1000) := ⟨fun p hp => by
        have a := pairs_in HV.out p (by rw [← hPe]; exact hp)
        have b := HN.out
        omega⟩
      have hs0 := sumF_in S.length (fun v _ _ => cell_in HV.out hr S v)
      obtain ⟨s0, hse⟩ : ∃ s, s = sumF (cellE C.l2 C.l3 r S) S.length := ⟨_, rfl⟩
      have HEN : Aside0 (enE C.W C.H C.l2 C.l3 C.l4 C.l5 r S = s0 + pairE S P) := ⟨by
        unfold enE
        rw [hse, hPe]
        have := HN.out
        rw [show (C.W * C.H).toNat = S.length by omega]⟩
      rw [← hPe] at HP hpl ⊢
      rw [← hse] at hs0 ⊢
      have HS0 : Aside0 (-500000 ≤ s0 ∧ s0 ≤ 500000) := ⟨by have := HN.out; omega⟩
      clear hP hb2 x0 x1 x2 x3 x4 x5 HIr hPe hse hs0 hdec hlt HW
      go_wp2
      go_loopg [7, 40] (P.length) (fun kq vs vi w' => ∃ j : Nat, j + kq = P.length ∧ vi = .int .i64 j ∧ vs = .int .i64 (s0 + pairE S (P.take j)) ∧ Aside0 (Below w2.heap.size w2 w'))
      case atStart => exact ⟨0, by omega, rfl, by simp [pairE], ⟨Below.refl _ _⟩⟩
      case round =>
        obtain ⟨j, hj, rfl, rfl, HW⟩ := hrel
        by_cases hlj : j < P.length
        · have hdec2 : decide (j < P.length) = true := decide_eq_true hlj
          obtain ⟨ad, ea, y0, y1, y2⟩ := at_T100 (Kd.C_below HP.out HW.out) (j : Int) (by omega) (by omega)
          subst ea
          simp only [Int.toNat_natCast] at y0 y1 y2
          have hrd : rd_T100 P (j : Int) = P[j] := by simp [rd_T100, hlj]
          obtain ⟨e0, e1, e2, e3, e4, e5⟩ := HIN.out P[j] (List.getElem_mem _)
          have ht := pairE_take S P j hlj
          have hpb := pairE_in S (P.take j) (fun p hp => (HIN.out p (List.mem_of_mem_take hp)).2.2.2.2)
          have hpt : (P.take j).length ≤ 72 := by rw [List.length_take]; have := hpl.out; omega
          rw [hrd] at y0 y1 y2
          obtain ⟨⟨a0, a1, a2⟩, ha⟩ : ∃ a : S100, a = P[j] := ⟨_, rfl⟩
          rw [← ha] at y0 y1 y2 e0 e1 e2 e3 e4 e5 ht
          dsimp only at y0 y1 y2 e0 e1 e2 e3 e4 e5 ht
          obtain ⟨s, hse⟩ : ∃ s, s = s0 + pairE S (P.take j) := ⟨_, rfl⟩
          have hsb : -500000 ≤ s ∧ s ≤ 600000 := by have := HS0.out; omega
          rw [← hse]
          have HT : Aside0 (s0 + pairE S (P.take (j + 1)) = s + (if (rdOf false S a0 != rdOf false S a1) = true then a2 else 0)) := ⟨by rw [ht, hse]; omega⟩
          clear hrd ha ht hpb hpt hse
          go_wp2_with ((with_reducible refine gate_dst (N := 11) rfl ?_); refine mark_ ?_)
          refine ⟨?_⟩
          refine box_event (by rfl) rfl (cs := #[.int .i64 0, .int .i64 0, .int .i64 0]) (t := 121) ?_ ?_
          · first | (go_simp; done) | (go_simp; rfl)
          intro ga hga w5 hbx5 hb5
          have z0 : w5.cell? ⟨ga, 0, none⟩ = some (.int .i64 0) := (blk_cell hbx5 0).trans rfl
          have z1 : w5.cell? ⟨ga, 1, none⟩ = some (.int .i64 0) := (blk_cell hbx5 1).trans rfl
          have z2 : w5.cell? ⟨ga, 2, none⟩ = some (.int .i64 0) := (blk_cell hbx5 2).trans rfl
          have f0 := blk_frozen hbx5 0
          have f1 := blk_frozen hbx5 1
          have f2 := blk_frozen hbx5 2
          have hgw : w2.heap.size ≤ ga := by have := HW.out.size; omega
          have hbx6 := blk_put (blk_put (blk_put hbx5 0 (.int .i64 a0) rfl) 1 (.int .i64 a1) rfl) 2 (.int .i64 a2) rfl
          have hW6 := below_set (j := 2) (v := .int .i64 a2) (below_set (j := 1) (v := .int .i64 a1) (below_set (j := 0) (v := .int .i64 a0) (below_then HW.out HW.out.size hb5) hgw) hgw) hgw
          have t0 := (blk_cell hbx6 0).trans rfl
          have t1 := (blk_cell hbx6 1).trans rfl
          have t2 := (blk_cell hbx6 2).trans rfl
          have hSC := Kd.C_below HS.out (below_then HB2.out HB2.out.size hW6)
          obtain ⟨aS, eS, kb0⟩ := Kd.at_bool hSC a0 e0 e1
          obtain ⟨aS', eS', kb1⟩ := Kd.at_bool hSC a1 e2 e3
          rw [eS] at eS'
          injection eS' with eS'
          subst eS'
          subst eS
          have HW6 := Aside0.mk hW6
          obtain ⟨b0, hb0⟩ : ∃ b, b = rdOf false S a0 := ⟨_, rfl⟩
          obtain ⟨b1, hb1⟩ : ∃ b, b = rdOf false S a1 := ⟨_, rfl⟩
          rw [← hb0] at kb0 HT
          rw [← hb1] at kb1 HT
          have u0 : (a0 < 0) = False := eq_false (by omega)
          have u1 : (a0 < (S.length : Int)) = True := eq_true e1
          have v0 : (a1 < 0) = False := eq_false (by omega)
          have v1 : (a1 < (S.length : Int)) = True := eq_true e3
          clear hga hbx5 hb5 hgw hbx6 hW6 hSC y0 y1 y2 hb0 hb1 HW
          have hjw : wrap64 ((j : Int) + 1) = ((j + 1 : Nat) : Int) := wrap_add1 (by omega) (by have := hpl.out; omega)
          cases b0 <;> cases b1
          · have ht := HT.out
            rw [if_neg (by decide)] at ht
            have HT2 := Aside0.mk ht
            clear ht
            go_wp2
            repeat (go_quiet (fail); try go_wp2)
            go_roundg (P.length - (j + 1))
            case measure => clear hjw; (try clear u2); omega
            case rel => exact ⟨j + 1, by clear hjw; (try clear u2); omega, by first | rfl | exact congrArg (Value.int .i64) hjw, by rw [HT2.out, Int.add_zero], ⟨by first | exact HW6.out | exact below_drew HW6.out | exact pw_below_drewN HW6.out _⟩⟩
          · have ht := HT.out
            rw [if_pos (by decide)] at ht
            have HT2 := Aside0.mk ht
            have u2 : wrap64 (s + a2) = s + a2 := wrap_id (by omega) (by omega)
            clear ht
            go_wp2
            repeat (go_quiet (fail); try go_wp2)
            go_roundg (P.length - (j + 1))
            case measure => clear hjw; (try clear u2); omega
            case rel => exact ⟨j + 1, by clear hjw; (try clear u2); omega, by first | rfl | exact congrArg (Value.int .i64) hjw, by rw [HT2.out] <;> first | rfl | exact congrArg (Value.int .i64) u2, ⟨by first | exact HW6.out | exact below_drew HW6.out | exact pw_below_drewN HW6.out _⟩⟩
          · have ht := HT.out
            rw [if_pos (by decide)] at ht
            have HT2 := Aside0.mk ht
            have u2 : wrap64 (s + a2) = s + a2 := wrap_id (by omega) (by omega)
            clear ht
            go_wp2
            repeat (go_quiet (fail); try go_wp2)
            go_roundg (P.length - (j + 1))
            case measure => clear hjw; (try clear u2); omega
            case rel => exact ⟨j + 1, by clear hjw; (try clear u2); omega, by first | rfl | exact congrArg (Value.int .i64) hjw, by rw [HT2.out] <;> first | rfl | exact congrArg (Value.int .i64) u2, ⟨by first | exact HW6.out | exact below_drew HW6.out | exact pw_below_drewN HW6.out _⟩⟩
          · have ht := HT.out
            rw [if_neg (by decide)] at ht
            have HT2 := Aside0.mk ht
            clear ht
            go_wp2
            repeat (go_quiet (fail); try go_wp2)
            go_roundg (P.length - (j + 1))
            case measure => clear hjw; (try clear u2); omega
            case rel => exact ⟨j + 1, by clear hjw; (try clear u2); omega, by first | rfl | exact congrArg (Value.int .i64) hjw, by rw [HT2.out, Int.add_zero], ⟨by first | exact HW6.out | exact below_drew HW6.out | exact pw_below_drewN HW6.out _⟩⟩
        · have hdec2 : decide (j < P.length) = false := decide_eq_false hlj
          obtain rfl : j = P.length := by omega
          have HE2 := HEN.out
          rw [List.take_length] at *
          go_wp2
          go_ret
          exact ⟨by rw [HE2]; rfl, below_then HB2.out HB2.out.size HW.out⟩
end Go.Proofs.Ytbamanjedfccpaa.HTab
namespace Go.Proofs.Ytbamanjedfccpaa.X
set_option linter.unusedVariables false
open Go.RowKit Go.Proofs.YtbamanjedfccpaaW.PrintWords Go.Proofs.YtbamanjedfccpaaW.PrintLast Go.Proofs.YtbamanjedfccpaaW.PrintMore Go.Proofs.Ytbamanjedfccpaa.HTab
def cantingref07_energy.f (W H : Int) (l2 l3 l4 l5 : List Int) (r : Int) (S : List Bool) : Option Int :=
  if cvB W H l2 l3 l4 l5 = true ∧ -10000 ≤ r ∧ r ≤ 10000 ∧ (S.length : Int) = W * H then some (enE W H l2 l3 l4 l5 r S) else none
theorem cantingref07_energy.calls (a0_0 : Int) (a0_1 : Int) (A0_2 : Option Addr) (c0_2 : Nat) (l0_2 : List Int) (A0_3 : Option Addr) (c0_3 : Nat) (l0_3 : List Int) (A0_4 : Option Addr) (c0_4 : Nat) (l0_4 : List Int) (A0_5 : Option Addr) (c0_5 : Nat) (l0_5 : List Int) (a1 : Int) (A2 : Option Addr) (c2 : Nat) (l2 : List Bool) (r : Int) (w : World) (hr0_2 : Kd.C (Kd.int .i64) w A0_2 l0_2.length l0_2) (hc0_2 : l0_2.length ≤ c0_2) (hr0_3 : Kd.C (Kd.int .i64) w A0_3 l0_3.length l0_3) (hc0_3 : l0_3.length ≤ c0_3) (hr0_4 : Kd.C (Kd.int .i64) w A0_4 l0_4.length l0_4) (hc0_4 : l0_4.length ≤ c0_4) (hr0_5 : Kd.C (Kd.int .i64) w A0_5 l0_5.length l0_5) (hc0_5 : l0_5.length ≤ c0_5) (hr2 : Kd.C Kd.bool w A2 l2.length l2) (hc2 : l2.length ≤ c2) (h : cantingref07_energy.f a0_0 a0_1 l0_2 l0_3 l0_4 l0_5 a1 l2 = some r) :
    Calls Try.prog 66 #[.agg #[.int .i64 a0_0, .int .i64 a0_1, .slice A0_2 l0_2.length c0_2, .slice A0_3 l0_3.length c0_3, .slice A0_4 l0_4.length c0_4, .slice A0_5 l0_5.length c0_5], .int .i64 a1, .slice A2 l2.length c2] w fun e w' => e = .returned (.int .i64 r) ∧ Below w.heap.size w w' := by
  unfold cantingref07_energy.f at h
  split at h
  · rename_i hv
    obtain ⟨hv, h1, h2, h3⟩ := hv
    injection h with h
    subst h
    have hn := cvB_n hv
    exact renergy_ok ⟨a0_0, a0_1, A0_2, c0_2, l0_2, A0_3, c0_3, l0_3, A0_4, c0_4, l0_4, A0_5, c0_5, l0_5⟩ a1 A2 c2 l2 w ⟨hr0_2, hc0_2, hr0_3, hc0_3, hr0_4, hc0_4, hr0_5, hc0_5⟩ (cvB_ok hv) ⟨h1, h2⟩ hr2 l2.length rfl h3 (by omega)
  · simp at h
end Go.Proofs.Ytbamanjedfccpaa.X
end

section
set_option linter.unusedVariables false
set_option linter.unusedSimpArgs false
namespace Go.Proofs.Ytbamanjedfccpaa.HTab
open Go.RowKit Go.Proofs.YtbamanjedfccpaaW.PrintWords Go.Proofs.YtbamanjedfccpaaW.PrintLast Go.Proofs.YtbamanjedfccpaaW.PrintMore Go.Proofs.Ytbamanjedfccpaa.X
set_option linter.unusedVariables false
set_option linter.unusedSimpArgs false
def gainC (l2 l3 : List Int) (r : Int) (i : Int) : Int := rd l2 i - rd l3 i - r
def cellG (n : Nat) (l2 l3 : List Int) (r : Int) (G : List (List Int)) (i : Nat) : List (List Int) :=
  if 0 < gainC l2 l3 r (i : Int) then putG G (n : Int) (i : Int) (gainC l2 l3 r (i : Int)) else putG G (i : Int) ((n : Int) + 1) (-gainC l2 l3 r (i : Int))
def addE (G : List (List Int)) (a b x : Int) : List (List Int) := putG G a b (wrap64 (gr G a b + x))
def addP (G : List (List Int)) (p : S100) : List (List Int) := addE (addE G p.f0 p.f1 p.f2) p.f1 p.f0 p.f2
def cellsG (n : Nat) (l2 l3 : List Int) (r : Int) (i : Nat) : List (List Int) := (List.range i).foldl (cellG n l2 l3 r) (zeroG (n + 2))
def labG (n : Nat) (W : Int) (l2 l3 l4 l5 : List Int) (r : Int) : List (List Int) := (pairsL W l4 l5).foldl addP (cellsG n l2 l3 r n)
theorem cellsG_succ (n : Nat) (l2 l3 : List Int) (r : Int) (i : Nat) : cellsG n l2 l3 r (i + 1) = cellG n l2 l3 r (cellsG n l2 l3 r i) i := by
  unfold cellsG
  rw [List.range_succ, List.foldl_append]
  rfl
def tb_rlabels_19.T : Bool × List (List Nat × List Nat) := (true, [([], []), ([], []), ([1], [1]), ([0, 2], [0, 2]), ([3], [3]), ([], []), ([5], [5]), ([4, 6], [4, 6]), ([7], [7]), ([], []), ([9], [9]), ([8, 10], [8, 10]), ([4, 6, 0, 1, 2, 3, 4, 5, 6, 7, 8, 9, 10, 11], [4, 6]), ([12, 11, 0, 1, 2, 3, 4, 5, 6, 7, 8, 9, 10, 11], [11, 12])])
def tb_rlabels_19.B : List Nat := [0, 0, 2, 7, 15, 0, 32, 127, 255, 0, 512, 2047, 4095, 8191]
theorem tb_rlabels_19.tab : rtab .any (opsOf Try.f67 19) = tb_rlabels_19.T := by kernel_rfl
theorem tb_rlabels_19.bits : waitsOk tb_rlabels_19.T.2 tb_rlabels_19.B = true := by kernel_rfl
def tb_rlabels_20.T : Bool × List (List Nat × List Nat) := (true, [([], []), ([], []), ([1], [1]), ([0, 2], [0, 2]), ([3], [3]), ([], []), ([5], [5]), ([4, 6], [4, 6]), ([7], [7]), ([], []), ([9], [9]), ([8, 10], [8, 10]), ([4, 6, 0, 1, 2, 3, 4, 5, 6, 7, 8, 9, 10, 11], [4, 6]), ([12, 11, 0, 1, 2, 3, 4, 5, 6, 7, 8, 9, 10, 11], [11, 12])])
def tb_rlabels_20.B : List Nat := [0, 0, 2, 7, 15, 0, 32, 127, 255, 0, 512, 2047, 4095, 8191]
theorem tb_rlabels_20.tab : rtab .any (opsOf Try.f67 20) = tb_rlabels_20.T := by kernel_rfl
theorem tb_rlabels_20.bits : waitsOk tb_rlabels_20.T.2 tb_rlabels_20.B = true := by kernel_rfl
def tb_rlabels_23.T : Bool × List (List Nat × List Nat) := (true, [([], []), ([], []), ([0, 1], [0, 1]), ([], []), ([], []), ([3, 4], [3, 4]), ([2, 0, 1, 2], [2]), ([5, 6, 0, 1, 2, 3, 4, 5, 6], [5])])
def tb_rlabels_23.B : List Nat := [0, 0, 3, 0, 0, 24, 7, 127]
theorem tb_rlabels_23.tab : rtab .any (opsOf Try.f67 23) = tb_rlabels_23.T := by kernel_rfl
theorem tb_rlabels_23.bits : waitsOk tb_rlabels_23.T.2 tb_rlabels_23.B = true := by kernel_rfl
set_option maxRecDepth 100000 in
set_option maxHeartbeats 8000000 in
theorem rlabels_ok (C : Cl) (r : Int) (w : World) (hI : C.In w) (hv : ClOK C.W C.H C.l2 C.l3 C.l4 C.l5) (hr : -10001 ≤ r ∧ r ≤ 10001) (n : Nat) (hn : (n : Int) = C.W * C.H) (hn1 : 1 ≤ n) (hn36 : n ≤ 36) (v : Int) (G1 : List (List Int)) (hP : grtP fuelK (n + 2) (n : Int) ((n : Int) + 1) fuelW (labG n C.W C.l2 C.l3 C.l4 C.l5 r) 0 = some (v, G1))
    (fr bk : List Int) (hfr : cantingref07_way.f fuelK G1 (n : Int) = some fr) (hfl : fr.length = n + 2) (hto : cantingref07_way.f fuelK (backG (n + 2) G1) ((n : Int) + 1) = some bk) (htl : bk.length = n + 2) :
    Calls Try.prog 67 #[.agg #[.int .i64 C.W, .int .i64 C.H, .slice C.A2 C.l2.length C.c2, .slice C.A3 C.l3.length C.c3, .slice C.A4 C.l4.length C.c4, .slice C.A5 C.l5.length C.c5], .int .i64 r] w fun e w' => ∃ v1 v2 : Value, e = .returned (.tuple #[v1, v2]) ∧ KB.R 4 w' w.heap.size (fun k => some k ≠ v2.ownBlock) v1 ((fromL fr (n + 2)).take n) ∧ KB.R 4 w' w.heap.size (fun k => some k ≠ v1.ownBlock) v2 ((toL bk (n + 2)).take n) ∧ Below w.heap.size w w' := by
  have HI := Aside0.mk hI
  have HV := Aside0.mk hv
  have HP := Aside0.mk hP
  have HF := Aside0.mk hfr
  have HT := Aside0.mk hto
  have HL := Aside0.mk (And.intro hfl htl)
  have HN2 : Aside0 (C.l2.length = n ∧ C.l3.length = n) := ⟨by have := hv.n2; have := hv.n3; omega⟩
  have e0 : wrap64 (C.W * C.H) = (n : Int) := by rw [← hn]; exact wrap_id (by omega) (by omega)
  have e2 : wrap64 ((n : Int) + 2) = ((n + 2 : Nat) : Int) := by rw [wrap_id (by omega) (by omega)]; omega
  have e1 : wrap64 ((n : Int) + 1) = (n : Int) + 1 := wrap_id (by omega) (by omega)
  obtain ⟨W0, hW0⟩ : ∃ W, W = w.alloc (.cells #[.int .i64 C.W, .int .i64 C.H, .slice C.A2 C.l2.length C.c2, .slice C.A3 C.l3.length C.c3, .slice C.A4 C.l4.length C.c4, .slice C.A5 C.l5.length C.c5] 61) := ⟨_, rfl⟩
  have HB0 := Aside0.mk (show Below w.heap.size w W0 by rw [hW0]; exact below_alloc (Below.refl _ _) _)
  have hbx : W0.heap[w.heap.size]? = some (.cells #[.int .i64 C.W, .int .i64 C.H, .slice C.A2 C.l2.length C.c2, .slice C.A3 C.l3.length C.c3, .slice C.A4 C.l4.length C.c4, .slice C.A5 C.l5.length C.c5] 61 (0, 0)) := by rw [hW0]; exact blk_new _ _
  have HBX := Aside0.mk hbx
  have j0 : W0.cell? ⟨w.heap.size, 0, none⟩ = some (.int .i64 C.W) := (blk_cell hbx 0).trans rfl
  have j1 : W0.cell? ⟨w.heap.size, 1, none⟩ = some (.int .i64 C.H) := (blk_cell hbx 1).trans rfl
  rw [hW0] at j0 j1
  obtain ⟨Nn, hNn⟩ : ∃ Nn, Nn = n + 2 := ⟨_, rfl⟩
  have H36 := Aside0.mk (And.intro hn1 (And.intro hn36 (And.intro hNn hr)))
  rw [← hNn] at e2
  clear hI hv hP hfr hfl hto htl hbx hn hn1 hn36 hNn hr
  go_enter Try.func67, Try.ntmps67
  go_wp2_with ((with_reducible refine gate_dst (N := 22) rfl ?_); refine mark_ ?_)
  rw [← hW0]
  refine ⟨?_⟩
  refine Kd.R_make nilK (w0 := w) w.heap.size 40 rfl (N := 22) rfl 90 _ _ rfl (Nn : Int) (congrArg (Value.int .i64) e2) (congrArg (Value.int .i64) e2) Try.underlying90 (.slice none 0 0) 24 info40 rfl (by decide) (by omega) () (ok := fun _ => True) (okp := fun _ => False) rfl (fun _ h => h.elim) trivial (by omega) (by rw [Int.toNat_natCast]; have := H36.out; omega) HB0.out HB0.out.size ?_
  intro vo w4 hR4 hB4 hg4 hne4
  rw [Int.toNat_natCast] at hR4
  obtain ⟨A, c, rfl, hbo, hbl, _⟩ := Kd.R_form hR4 (by rw [List.length_replicate]; have := H36.out; omega)
  rw [List.length_replicate] at hR4 ⊢
  have HG4 := Aside0.mk (GM.made (fun _ => 0) (fun _ => 0) hR4)
  have HB4 := Aside0.mk hB4
  have HBX4 := Aside0.mk (blk_grown (w := W0) HBX.out hg4 (by simp))
  clear hR4 hB4 hg4 hne4 hbl HBX HB0 j0 j1 hW0
  obtain ⟨M, hM⟩ : ∃ M : Int, M = (n : Int) + 1 := ⟨_, rfl⟩
  have E1 : Aside0 (wrap64 ((n : Int) + 1) = M) := ⟨by rw [hM]; exact e1⟩
  have HM := Aside0.mk hM
  clear hM
  have E2 := Aside0.mk e2
  go_wp2
  clear e0 e1 e2
  go_loopg [25] (Nn) (fun kq v25 w' => ∃ (i : Nat) (p q : Nat → Nat) (G : List (List Int)), i + kq = Nn ∧ v25 = .int .i64 i ∧ Aside0 (GM w' w.heap.size w'.heap.size A c Nn p q i G) ∧ Aside0 (∀ j : Nat, j < i → rd_L4 G (j : Nat) = List.replicate Nn 0) ∧ Aside0 (Below w.heap.size w w') ∧ Aside0 (w'.heap[w.heap.size]? = some (.cells #[.int .i64 C.W, .int .i64 C.H, .slice C.A2 C.l2.length C.c2, .slice C.A3 C.l3.length C.c3, .slice C.A4 C.l4.length C.c4, .slice C.A5 C.l5.length C.c5] 61 (0, 0))))
  case atStart => exact ⟨0, fun _ => 0, fun _ => 0, List.replicate Nn [], by omega, rfl, HG4, ⟨fun j hj => by omega⟩, HB4, HBX4⟩
  case round =>
    clear HG4 HB4 HBX4
    obtain ⟨i, p, q, G, hi, rfl, HG, HR, HB, HX⟩ := hrel
    by_cases hlt : i < Nn
    · have hdec : decide (i < Nn) = true := decide_eq_true hlt
      have b0 : ((i : Int) < 0) = False := eq_false (by omega)
      have b1 : ((i : Int) < (Nn : Int)) = True := eq_true (by omega)
      have e2 := E2.out
      go_wp2_with ((with_reducible refine gate_dst (N := 32) rfl ?_); refine mark_ ?_)
      clear e2
      refine ⟨?_⟩
      refine Kd.R_make KI (w0 := wr) wr.heap.size 3 rfl (N := 32) rfl 40 _ _ rfl (Nn : Int) (congrArg (Value.int .i64) E2.out) (congrArg (Value.int .i64) E2.out) Try.underlying40 (.int .i64 0) 8 info3 rfl (by decide) (by omega) 0 (ok := fun _ => True) (okp := fun _ => True) rfl (fun _ hk => hk) trivial (by omega) (by rw [Int.toNat_natCast]; have := H36.out; omega) (Below.refl _ _) (Nat.le_refl _) ?_
      intro vr w5 hR5 hB5 hg5 hne5
      rw [Int.toNat_natCast] at hR5
      obtain ⟨ρ, cr, rfl, hρ, hρl, _⟩ := Kd.R_form hR5 (by rw [List.length_replicate]; have := H36.out; omega)
      rw [List.length_replicate] at hR5 ⊢
      have hbw := HB.out.size
      have hR6 : KI.R 3 w5 w.heap.size (fun x => x = ρ) (.slice (some ⟨ρ, 0, none⟩) Nn cr) (List.replicate Nn 0) := Kd.R_mono (Kd.R_lower (Kd.R_tight rfl hR5) hbw) (fun k hk => by injection hk)
      have hG5 := (HG.out.below hB5).up hB5.size
      have fz := hG5.fz i
      have kz := hG5.cell0 i (Nat.le_refl _) hlt
      have HG6 : Aside0 (GM (w5.setCell ⟨A, i, none⟩ (.slice (some ⟨ρ, 0, none⟩) Nn cr)) w.heap.size w5.heap.size A c Nn (fun j => if j = i then ρ else p j) (fun j => if j = i then cr else q j) (i + 1) (G.set i (List.replicate Nn 0))) :=
        ⟨hG5.lay hlt hR6 ⟨by omega, hρl, by have := HG.out.bA; omega⟩ (fun j hj e => by have := (HG.out.pM j hj).2.1; omega)⟩
      have HR6 : Aside0 (∀ j : Nat, j < i + 1 → rd_L4 (G.set i (List.replicate Nn 0)) (j : Nat) = List.replicate Nn 0) := ⟨fun j hj => by
        have e := rdL_set G (i : Int) (j : Int) (List.replicate Nn 0) (by omega) (by rw [HG.out.len]; omega) (by omega)
        rw [Int.toNat_natCast] at e
        rw [e]
        split
        · rfl
        · exact HR.out j (by omega)⟩
      have HB6 : Aside0 (Below w.heap.size w (w5.setCell ⟨A, i, none⟩ (.slice (some ⟨ρ, 0, none⟩) Nn cr))) := ⟨below_set (below_then HB.out hbw hB5) HG.out.bA.1⟩
      have HX6 : Aside0 ((w5.setCell ⟨A, i, none⟩ (.slice (some ⟨ρ, 0, none⟩) Nn cr)).heap[w.heap.size]? = some (.cells #[.int .i64 C.W, .int .i64 C.H, .slice C.A2 C.l2.length C.c2, .slice C.A3 C.l3.length C.c3, .slice C.A4 C.l4.length C.c4, .slice C.A5 C.l5.length C.c5] 61 (0, 0))) := ⟨blk_far (p := ⟨A, i, none⟩) (blk_below HX.out hB5) (fun e => by replace e : w.heap.size = A := e; obtain ⟨cells, hb, _⟩ := HG.out.blk; have := HX.out; rw [e, hb] at this; injection this with this; injection this with h1 h2; exact absurd h2 (by decide)) _⟩
      clear hR5 hR6 hB5 hg5 hne5 hG5 HG HR HB HX hρ hρl hbw
      have iw : wrap64 ((i : Int) + 1) = ((i + 1 : Nat) : Int) := wrap_add1 (by omega) (by have := H36.out; omega)
      go_wp2
      go_roundg (Nn - (i + 1))
      case measure => clear iw; omega
      case rel => exact ⟨i + 1, _, _, _, by clear iw; omega, by first | rfl | exact congrArg (Value.int .i64) iw, ⟨by simpa using HG6.out⟩, HR6, HB6, HX6⟩
    · have hdec : decide (i < Nn) = false := decide_eq_false hlt
      obtain rfl : i = Nn := by omega
      have HZ : Aside0 (G = cellsG n C.l2 C.l3 r 0) := ⟨by rw [zeroG_eq HG.out.len HR.out, H36.out.2.2.1]; rfl⟩
      clear hlt HR
      go_wp2
      clear hdec
      have HG0 : Aside0 (GM wr w.heap.size wr.heap.size A c i p q i (cellsG n C.l2 C.l3 r 0)) := ⟨by rw [← HZ.out]; exact HG.out⟩
      clear HG HZ
      go_loopg [36] (n) (fun kq v25 w' => ∃ (j : Nat), j + kq = n ∧ v25 = .int .i64 j ∧ Aside0 (GM w' w.heap.size w'.heap.size A c i p q i (cellsG n C.l2 C.l3 r j)) ∧ Aside0 (Below w.heap.size w w') ∧ Aside0 (w'.heap[w.heap.size]? = some (.cells #[.int .i64 C.W, .int .i64 C.H, .slice C.A2 C.l2.length C.c2, .slice C.A3 C.l3.length C.c3, .slice C.A4 C.l4.length C.c4, .slice C.A5 C.l5.length C.c5] 61 (0, 0))))
      case atStart => exact ⟨0, by have := H36.out; omega, rfl, HG0, HB, HX⟩
      case round =>
        clear HG0 HB HX
        obtain ⟨j, hj, rfl, HG, HB, HX⟩ := hrel
        by_cases hlt : j < n
        · have hdec : decide (j < n) = true := decide_eq_true hlt
          have hIr := HI.out.below HB.out
          have hb2 := rd_in HV.out.b2 (j : Int)
          have hb3 := rd_in HV.out.b3 (j : Int)
          obtain ⟨a2, ea2, k2⟩ := Kd.at_int hIr.r2 (j : Int) (by have := H36.out; omega) (by have := HN2.out; have := H36.out; omega)
          obtain ⟨a3, ea3, k3⟩ := Kd.at_int hIr.r3 (j : Int) (by have := H36.out; omega) (by have := HN2.out; have := H36.out; omega)
          have x2 := (blk_cell HX.out 2).trans rfl
          have x3 := (blk_cell HX.out 3).trans rfl
          rw [ea2] at x2
          rw [ea3] at x3
          simp only [Int.toNat_natCast] at k2 k3
          have hg : gainC C.l2 C.l3 r (j : Int) = rd C.l2 (j : Int) - rd C.l3 (j : Int) - r := rfl
          have hs := cellsG_succ n C.l2 C.l3 r j
          unfold cellG at hs
          obtain ⟨d, hd⟩ : ∃ d, d = gainC C.l2 C.l3 r (j : Int) := ⟨_, rfl⟩
          obtain ⟨y, hy⟩ : ∃ y, y = rd C.l2 (j : Int) := ⟨_, rfl⟩
          obtain ⟨z, hz⟩ : ∃ z, z = rd C.l3 (j : Int) := ⟨_, rfl⟩
          rw [← hd] at hs hg
          rw [← hy] at k2 hb2 hg
          rw [← hz] at k3 hb3 hg
          have u1 : wrap64 (y - z) = y - z := wrap_id (by have := H36.out; omega) (by have := H36.out; omega)
          have u2 : wrap64 (y - z - r) = d := by rw [hg]; exact wrap_id (by have := H36.out; omega) (by have := H36.out; omega)
          have u3 : wrap64 (-d) = -d := wrap_id (by have := H36.out; omega) (by have := H36.out; omega)
          have l2n : ((j : Int) < (C.l2.length : Int)) = True := eq_true (by clear u1 u2 u3; have := HN2.out; have := H36.out; omega)
          have l3n : ((j : Int) < (C.l3.length : Int)) = True := eq_true (by clear u1 u2 u3; have := HN2.out; have := H36.out; omega)
          have j0n : ((j : Int) < 0) = False := eq_false (by clear u1 u2 u3; have := H36.out; omega)
          have c0 : ((n : Int) < 0) = False := eq_false (by clear u1 u2 u3; have := H36.out; omega)
          have c1 : ((n : Int) < (i : Int)) = True := eq_true (by clear u1 u2 u3; have := H36.out; omega)
          have c2 : ((j : Int) < (i : Int)) = True := eq_true (by clear u1 u2 u3; have := H36.out; omega)
          have c3 : (M < (i : Int)) = True := eq_true (by clear u1 u2 u3; have := H36.out; have := HM.out; omega)
          have c4 : (M < 0) = False := eq_false (by clear u1 u2 u3; have := H36.out; have := HM.out; omega)
          have c5 : (0 ≤ M) = True := eq_true (by clear u1 u2 u3; have := H36.out; have := HM.out; omega)
          have jw : wrap64 ((j : Int) + 1) = ((j + 1 : Nat) : Int) := wrap_add1 (by clear u1 u2 u3; have := H36.out; omega) (by clear u1 u2 u3; have := H36.out; omega)
          by_cases hd0 : 0 < d
          · rw [if_pos hd0] at hs
            have hdd : decide (0 < d) = true := decide_eq_true hd0
            have kc := HG.out.cell (n : Int) (by clear u1 u2 u3 jw; have := H36.out; omega) (by clear u1 u2 u3 jw; have := H36.out; omega)
            obtain ⟨ke, fe⟩ := HG.out.at_ (n : Int) (by clear u1 u2 u3 jw; have := H36.out; omega) (by clear u1 u2 u3 jw; have := H36.out; omega) (j : Int) (by clear u1 u2 u3 jw; have := H36.out; omega) (by clear u1 u2 u3 jw; have := H36.out; omega)
            have hpi := HG.out.pM n (by clear u1 u2 u3 jw; have := H36.out; omega)
            have hpu := fun m : Nat => (HG.out.below (pw_below_drewN (Below.refl _ _) m)).put (n : Int) (by clear u1 u2 u3 jw; have := H36.out; omega) (by clear u1 u2 u3 jw; have := H36.out; omega) (j : Int) d
            simp only [Int.toNat_natCast] at kc ke fe hpu
            have HG7 : Aside0 (∀ m, GM ((wr.drewN m).setCell ⟨p n, j, none⟩ (.int .i64 d)) w.heap.size ((wr.drewN m).setCell ⟨p n, j, none⟩ (.int .i64 d)).heap.size A c i p q i (cellsG n C.l2 C.l3 r (j + 1))) := ⟨fun m => by rw [hs]; exact GM.up (hpu m) (by simp)⟩
            have HB7 : Aside0 (∀ m, Below w.heap.size w ((wr.drewN m).setCell ⟨p n, j, none⟩ (.int .i64 d))) := ⟨fun m => (pw_below_drewN HB.out m).setCell hpi.1 _⟩
            have HX7 := Aside0.mk (fun m : Nat => blk_far (p := ⟨p n, j, none⟩) (blk_drewN HX.out m) (fun e => by replace e : w.heap.size = p n := e; obtain ⟨cs, hcs⟩ := Kd.R_typed (HG.out.row n (by clear u1 u2 u3 jw; have := H36.out; omega)) _ rfl; have := HX.out; rw [e, hcs] at this; injection this with this; injection this with h1 h2; exact absurd h2 (by decide)) (.int .i64 d))
            clear hs hd hy hz hg hIr hb2 hb3 ea2 ea3 hpi hpu HG HB HX
            have e1 := E1.out
            go_wp2
            repeat (go_quiet (fail); try go_wp2)
            clear e1
            go_roundg (n - (j + 1))
            case measure => clear u1 u2 u3 jw; have := H36.out; omega
            case rel => exact ⟨j + 1, by clear u1 u2 u3 jw; have := H36.out; omega, by first | rfl | exact congrArg (Value.int .i64) jw, ⟨HG7.out _⟩, ⟨HB7.out _⟩, ⟨HX7.out _⟩⟩
          · rw [if_neg hd0, ← HM.out] at hs
            have hdd : decide (0 < d) = false := decide_eq_false hd0
            have kc := HG.out.cell (j : Int) (by clear u1 u2 u3 jw; have := H36.out; have := HM.out; omega) (by clear u1 u2 u3 jw; have := H36.out; have := HM.out; omega)
            obtain ⟨ke, fe⟩ := HG.out.at_ (j : Int) (by clear u1 u2 u3 jw; have := H36.out; have := HM.out; omega) (by clear u1 u2 u3 jw; have := H36.out; have := HM.out; omega) M (by clear u1 u2 u3 jw; have := H36.out; have := HM.out; omega) (by clear u1 u2 u3 jw; have := H36.out; have := HM.out; omega)
            have hpi := HG.out.pM j (by clear u1 u2 u3 jw; have := H36.out; have := HM.out; omega)
            have hpu := fun m : Nat => (HG.out.below (pw_below_drewN (Below.refl _ _) m)).put (j : Int) (by clear u1 u2 u3 jw; have := H36.out; have := HM.out; omega) (by clear u1 u2 u3 jw; have := H36.out; have := HM.out; omega) M (-d)
            simp only [Int.toNat_natCast] at kc ke fe hpu
            have HG7 : Aside0 (∀ m, GM ((wr.drewN m).setCell ⟨p j, M.toNat, none⟩ (.int .i64 (-d))) w.heap.size ((wr.drewN m).setCell ⟨p j, M.toNat, none⟩ (.int .i64 (-d))).heap.size A c i p q i (cellsG n C.l2 C.l3 r (j + 1))) := ⟨fun m => by rw [hs]; exact GM.up (hpu m) (by simp)⟩
            have HB7 : Aside0 (∀ m, Below w.heap.size w ((wr.drewN m).setCell ⟨p j, M.toNat, none⟩ (.int .i64 (-d)))) := ⟨fun m => (pw_below_drewN HB.out m).setCell hpi.1 _⟩
            have HX7 := Aside0.mk (fun m : Nat => blk_far (p := ⟨p j, M.toNat, none⟩) (blk_drewN HX.out m) (fun e => by replace e : w.heap.size = p j := e; obtain ⟨cs, hcs⟩ := Kd.R_typed (HG.out.row j (by clear u1 u2 u3 jw; have := H36.out; have := HM.out; omega)) _ rfl; have := HX.out; rw [e, hcs] at this; injection this with this; injection this with h1 h2; exact absurd h2 (by decide)) (.int .i64 (-d)))
            clear hs hd hy hz hg hIr hb2 hb3 ea2 ea3 hpi hpu HG HB HX
            have e1 := E1.out
            go_wp2
            repeat (go_quiet (fail); try go_wp2)
            clear e1
            go_roundg (n - (j + 1))
            case measure => clear u1 u2 u3 jw; have := H36.out; have := HM.out; omega
            case rel => exact ⟨j + 1, by clear u1 u2 u3 jw; have := H36.out; have := HM.out; omega, by first | rfl | exact congrArg (Value.int .i64) jw, ⟨HG7.out _⟩, ⟨HB7.out _⟩, ⟨HX7.out _⟩⟩
        · have hdec : decide (j < n) = false := decide_eq_false hlt
          have HJ : Aside0 (j = n) := ⟨by omega⟩
          have kc : ∀ k : Nat, _ := fun k => blk_cell HX.out k
          have x0 := (kc 0).trans rfl
          have x1 := (kc 1).trans rfl
          have x2 := (kc 2).trans rfl
          have x3 := (kc 3).trans rfl
          have x4 := (kc 4).trans rfl
          have x5 := (kc 5).trans rfl
          have HIr := Aside0.mk (HI.out.below HB.out)
          have HGn : Aside0 (GM wr w.heap.size wr.heap.size A c i p q i (cellsG n C.l2 C.l3 r n)) := ⟨by have := HG.out; rw [HJ.out] at this; exact this⟩
          clear kc hlt HG HX hj
          go_wp2_with fail
          refine (cantingref07_pairs.calls 200 C.W C.H C.A2 C.c2 C.l2 C.A3 C.c3 C.l3 C.A4 C.c4 C.l4 C.A5 C.c5 C.l5 (pairsL C.W C.l4 C.l5) wr HIr.out.r2 HIr.out.h2 HIr.out.r3 HIr.out.h3 HIr.out.r4 HIr.out.h4 HIr.out.r5 HIr.out.h5 (rpairs_f HV.out 200 (by omega))).mono ?_
          rintro e w2 ⟨vp, rfl, hP, hb2⟩
          obtain ⟨Ap, cp, rfl⟩ := Kd.R_slice hP
          have HB2 := Aside0.mk (below_then HB.out HB.out.size hb2)
          obtain ⟨M0, hM0⟩ : ∃ m, m = wr.heap.size := ⟨_, rfl⟩
          have HPR := Aside0.mk (Kd.R_mono (ok' := fun k => M0 ≤ k) (Kd.R_bound hP) (fun k hk => by rw [hM0]; exact hk.2.1))
          have HS0 : Aside0 (M0 ≤ w2.heap.size) := ⟨by rw [hM0]; exact hb2.size⟩
          have hpl : Aside0 ((pairsL C.W C.l4 C.l5).length ≤ 72) := ⟨pairs_len HV.out⟩
          have HG2 := HGn.out.below hb2
          obtain ⟨P, hPe⟩ : ∃ P, P = pairsL C.W C.l4 C.l5 := ⟨_, rfl⟩
          have HIN : Aside0 (∀ p ∈ P, 0 ≤ p.f0 ∧ p.f0 < (i : Int) ∧ 0 ≤ p.f1 ∧ p.f1 < (i : Int)) := ⟨fun p hp => by
            have a := pairs_in HV.out p (by rw [← hPe]; exact hp)
            have b := HV.out.n2
            have c := HN2.out
            have d := H36.out
            omega⟩
          have HPE : Aside0 (P.foldl addP (cellsG n C.l2 C.l3 r n) = labG n C.W C.l2 C.l3 C.l4 C.l5 r) := ⟨by rw [hPe]; rfl⟩
          have HG0 : Aside0 (GM w2 w.heap.size M0 A c i p q i ((P.take 0).foldl addP (cellsG n C.l2 C.l3 r n))) := ⟨by rw [hM0]; exact HG2⟩
          rw [← hPe, ← hM0] at HPR
          rw [← hPe] at hpl ⊢
          clear hM0 hP hb2 x0 x1 x2 x3 x4 x5 HIr HGn HG2 hPe HB hdec
          go_wp2
          go_loopg [74] (P.length) (fun kq vi w' => ∃ j : Nat, j + kq = P.length ∧ vi = .int .i64 j ∧ Aside0 (GM w' w.heap.size M0 A c i p q i ((P.take j).foldl addP (cellsG n C.l2 C.l3 r n))) ∧ Aside0 (Below w.heap.size w w') ∧ Aside0 (Kd.R k100 121 w' M0 (fun k => M0 ≤ k) (.slice Ap P.length cp) P) ∧ Aside0 (M0 ≤ w'.heap.size))
          case atStart => exact ⟨0, by omega, rfl, HG0, HB2, HPR, HS0⟩
          case round =>
            clear HG0 HB2 HPR HS0
            obtain ⟨j, hj, rfl, HG, HB, HPR, HS0⟩ := hrel
            by_cases hlt : j < P.length
            · have hdec : decide (j < P.length) = true := decide_eq_true hlt
              have jw : Aside0 (wrap64 ((j : Int) + 1) = ((j + 1 : Nat) : Int)) := ⟨wrap_add1 (by omega) (by have := hpl.out; omega)⟩
              obtain ⟨ad, rfl, y0, y1, y2⟩ := at_T100 (Kd.R_reads' HPR.out).2.2 (j : Int) (by omega) (by omega)
              simp only [Int.toNat_natCast] at y0 y1 y2
              have hrd : rd_T100 P (j : Int) = P[j] := by simp [rd_T100, hlt]
              obtain ⟨e0, e1, e2, e3⟩ := HIN.out P[j] (List.getElem_mem _)
              obtain ⟨⟨a0, a1, a2⟩, ha⟩ : ∃ a : S100, a = P[j] := ⟨_, rfl⟩
              obtain ⟨G, hG⟩ : ∃ g, g = (P.take j).foldl addP (cellsG n C.l2 C.l3 r n) := ⟨_, rfl⟩
              have HN : Aside0 ((P.take (j + 1)).foldl addP (cellsG n C.l2 C.l3 r n) = addE (addE G a0 a1 a2) a1 a0 a2) := ⟨by rw [List.take_succ_eq_append_getElem hlt, List.foldl_append, ← hG, ← ha]; rfl⟩
              rw [hrd, ← ha] at y0 y1 y2
              rw [← ha] at e0 e1 e2 e3
              dsimp only at y0 y1 y2 e0 e1 e2 e3
              rw [← hG] at HG
              clear hrd ha hG
              go_wp2_with ((with_reducible refine gate_dst (N := 12) rfl ?_); refine mark_ ?_)
              refine ⟨?_⟩
              refine box_event (by rfl) rfl (cs := #[.int .i64 0, .int .i64 0, .int .i64 0]) (t := 121) ?_ ?_
              · first | (go_simp; done) | (go_simp; rfl)
              intro ga hga w5 hbx5 hb5
              have y0' : w5.cell? ⟨ga, 0, none⟩ = some (.int .i64 0) := (blk_cell hbx5 0).trans rfl
              have y1' : w5.cell? ⟨ga, 1, none⟩ = some (.int .i64 0) := (blk_cell hbx5 1).trans rfl
              have y2' : w5.cell? ⟨ga, 2, none⟩ = some (.int .i64 0) := (blk_cell hbx5 2).trans rfl
              have z0 := blk_frozen hbx5 0
              have z1 := blk_frozen hbx5 1
              have z2 := blk_frozen hbx5 2
              have hgm : wr.heap.size ≤ ga := by omega
              have hg0 : M0 ≤ ga := Nat.le_trans HS0.out hgm
              have HBr := below_set (j := 2) (v := .int .i64 a2) (below_set (j := 1) (v := .int .i64 a1) (below_set (j := 0) (v := .int .i64 a0) hb5 hgm) hgm) hgm
              have HP6 := Aside0.mk (Kd.R_below HPR.out HBr)
              have BA6 := Aside0.mk (blk_put (blk_put (blk_put hbx5 0 (.int .i64 a0) rfl) 1 (.int .i64 a1) rfl) 2 (.int .i64 a2) rfl)
              have HG6 := Aside0.mk ((((HG.out.below hb5).far (o := 0) hg0 (.int .i64 a0)).far (o := 1) hg0 (.int .i64 a1)).far (o := 2) hg0 (.int .i64 a2))
              have hgw : w.heap.size ≤ ga := Nat.le_trans HB.out.size hgm
              have HB6 := Aside0.mk (below_set (j := 2) (v := .int .i64 a2) (below_set (j := 1) (v := .int .i64 a1) (below_set (j := 0) (v := .int .i64 a0) (below_then HB.out HB.out.size hb5) hgw) hgw) hgw)
              have HGN : Aside0 (M0 ≤ ga) := ⟨hg0⟩
              have HSZ : Aside0 (M0 ≤ w5.heap.size) := ⟨Nat.le_trans HS0.out hb5.size⟩
              clear hbx5 hb5 hga y0 y1 y2 HG HB hgm hgw hg0 HBr HPR HS0
              go_wp2
              obtain ⟨W6, hW6⟩ : ∃ W, W = ((w5.setCell ⟨ga, 0, none⟩ (.int .i64 a0)).setCell ⟨ga, 1, none⟩ (.int .i64 a1)).setCell ⟨ga, 2, none⟩ (.int .i64 a2) := ⟨_, rfl⟩
              have HSZ6 : Aside0 (M0 ≤ W6.heap.size) := ⟨by rw [hW6]; simpa using HSZ.out⟩
              rw [← hW6] at BA6 HG6 HB6 HP6 ⊢
              clear hW6 y0' y1' y2' z0 z1 z2
              have u0 : (a0 < 0) = False := eq_false (by omega)
              have u1 : (a0 < (i : Int)) = True := eq_true e1
              have v0 : (a1 < 0) = False := eq_false (by omega)
              have v1 : (a1 < (i : Int)) = True := eq_true e3
              have HNE : Aside0 (∀ k, k < i → p k ≠ ga) := ⟨fun k hk e => by have := (HG6.out.pM k hk).2.1; have := HGN.out; omega⟩
              have ka0 := (blk_cell BA6.out 0).trans rfl
              have ka1 := (blk_cell BA6.out 1).trans rfl
              have ka2 := (blk_cell BA6.out 2).trans rfl
              have kr := HG6.out.cell a0 e0 e1
              obtain ⟨ke, fe⟩ := HG6.out.at_ a0 e0 e1 a1 e2 e3
              obtain ⟨x, hx⟩ : ∃ x, x = wrap64 (gr G a0 a1 + a2) := ⟨_, rfl⟩
              have hpi := HG6.out.pM a0.toNat (by omega)
              obtain ⟨W7, hW7⟩ : ∃ W, W = (W6.setCell ⟨p a0.toNat, a1.toNat, none⟩ (.int .i64 x)).drew := ⟨_, rfl⟩
              have HG7 : Aside0 (GM W7 w.heap.size M0 A c i p q i (addE G a0 a1 a2)) := ⟨by rw [hW7, hx]; exact (HG6.out.put a0 e0 e1 a1 _).below (below_drew (Below.refl _ _))⟩
              have HB7 : Aside0 (Below w.heap.size w W7) := ⟨by rw [hW7]; exact below_drew (HB6.out.setCell hpi.1 _)⟩
              have HS7 : Aside0 (M0 ≤ W7.heap.size) := ⟨by rw [hW7]; simpa using HSZ6.out⟩
              have ba7 := blk_drew (blk_far (p := ⟨p a0.toNat, a1.toNat, none⟩) BA6.out (fun e => HNE.out _ (by omega) e.symm) (.int .i64 x))
              rw [← hW7] at ba7
              have BA7 := Aside0.mk ba7
              clear ba7
              have HP7 : Aside0 (Kd.R k100 121 W7 M0 (fun k => M0 ≤ k) (.slice (some ad) P.length cp) P) := ⟨by rw [hW7]; exact Kd.R_drew (Kd.R_far (p := ⟨p a0.toNat, a1.toNat, none⟩) HP6.out (fun y hy e => by have := hpi.2.1; replace e : y = p a0.toNat := e; omega) _)⟩
              clear HB6 hpi HSZ HSZ6 HP6
              replace hx := Aside0.mk hx
              replace hW7 := Aside0.mk hW7
              refine start_ (n := 14) (S := fun w' => (w'.cell? ⟨ga, 0, none⟩ = some (.int .i64 a0)) ∧ (w'.cell? ⟨ga, 1, none⟩ = some (.int .i64 a1)) ∧ (w'.cell? ⟨ga, 2, none⟩ = some (.int .i64 a2)) ∧ (w'.cell? ⟨A, a0.toNat, none⟩ = some (.slice (some ⟨p a0.toNat, 0, none⟩) i (q a0.toNat))) ∧ (w'.cell? ⟨p a0.toNat, a1.toNat, none⟩ = some (.int .i64 (gr G a0 a1)))) (ds := [13]) #[false, false, false, false, false, false, false, false, false, false, false, false, false, false] (by kernel_rfl) rfl rfl ⟨ka0, ka1, ka2, kr, ke⟩ (fun hHeld => ?_)
              refine with_tabW tb_rlabels_19.tab tb_rlabels_19.bits (fun HT_ HW_ => ?_)
              refine pure_ (i := 0) (N := some 78) (v := ?_) (a' := ?_) #[true, false, false, false, false, false, false, false, false, false, false, false, false, false] rfl rfl (any_of HT_.out (by kernel_rfl)) (fun _ _ _ h => h) (Or.inl ⟨by rfl, ?_⟩) ?_ ?_
              rotate_left
              · intro w'
                go_simp
                with_reducible rfl
              rotate_left
              · simp only [Act.put, List.setIfInBounds_toArray, List.set_cons_zero, List.set_cons_succ, i64_w, i32_w]
                rfl
              refine pure_ (i := 1) (N := some 79) (v := ?_) (a' := ?_) #[true, true, false, false, false, false, false, false, false, false, false, false, false, false] rfl rfl (any_of HT_.out (by kernel_rfl)) (fun _ _ _ h => h) (Or.inl ⟨by rfl, ?_⟩) ?_ ?_
              rotate_left
              · intro w'
                go_simp
                with_reducible rfl
              rotate_left
              · simp only [Act.put, List.setIfInBounds_toArray, List.set_cons_zero, List.set_cons_succ, i64_w, i32_w]
                rfl
              refine take_ (i := 2) (N := some 80) (v := ?_) (a' := ?_) #[true, true, true, false, false, false, false, false, false, false, false, false, false, false] rfl rfl (take_ofW HT_.out HW_.out (by kernel_rfl)) (fun _ _ _ h => h) (Or.inl ⟨by rfl, ?_⟩) hHeld ?_ ?_
              rotate_left
              · rintro w' ⟨s0, s1, s2, s3, s4⟩
                go_simp
                with_reducible rfl
              rotate_left
              · simp only [Act.put, List.setIfInBounds_toArray, List.set_cons_zero, List.set_cons_succ, i64_w, i32_w]
                rfl
              refine pure_ (i := 3) (N := some 81) (v := ?_) (a' := ?_) #[true, true, true, true, false, false, false, false, false, false, false, false, false, false] rfl rfl (any_of HT_.out (by kernel_rfl)) (fun _ _ _ h => h) (Or.inl ⟨by rfl, ?_⟩) ?_ ?_
              rotate_left
              · intro w'
                go_simp
                with_reducible rfl
              rotate_left
              · simp only [Act.put, List.setIfInBounds_toArray, List.set_cons_zero, List.set_cons_succ, i64_w, i32_w]
                rfl
              refine take_ (i := 4) (N := some 82) (v := ?_) (a' := ?_) #[true, true, true, true, true, false, false, false, false, false, false, false, false, false] rfl rfl (take_ofW HT_.out HW_.out (by kernel_rfl)) (fun _ _ _ h => h) (Or.inl ⟨by rfl, ?_⟩) hHeld ?_ ?_
              rotate_left
              · rintro w' ⟨s0, s1, s2, s3, s4⟩
                go_simp
                with_reducible rfl
              rotate_left
              · simp only [Act.put, List.setIfInBounds_toArray, List.set_cons_zero, List.set_cons_succ, i64_w, i32_w]
                rfl
              refine pure_ (i := 5) (N := some 83) (v := ?_) (a' := ?_) #[true, true, true, true, true, true, false, false, false, false, false, false, false, false] rfl rfl (any_of HT_.out (by kernel_rfl)) (fun _ _ _ h => h) (Or.inl ⟨by rfl, ?_⟩) ?_ ?_
              rotate_left
              · intro w'
                go_simp
                with_reducible rfl
              rotate_left
              · simp only [Act.put, List.setIfInBounds_toArray, List.set_cons_zero, List.set_cons_succ, i64_w, i32_w]
                rfl
              refine take_ (i := 6) (N := some 84) (v := ?_) (a' := ?_) #[true, true, true, true, true, true, true, false, false, false, false, false, false, false] rfl rfl (take_ofW HT_.out HW_.out (by kernel_rfl)) (fun _ _ _ h => h) (Or.inl ⟨by rfl, ?_⟩) hHeld ?_ ?_
              rotate_left
              · rintro w' ⟨s0, s1, s2, s3, s4⟩
                go_simp
                with_reducible rfl
              rotate_left
              · simp only [Act.put, List.setIfInBounds_toArray, List.set_cons_zero, List.set_cons_succ, i64_w, i32_w]
                rfl
              refine pure_ (i := 7) (N := some 85) (v := ?_) (a' := ?_) #[true, true, true, true, true, true, true, true, false, false, false, false, false, false] rfl rfl (any_of HT_.out (by kernel_rfl)) (fun _ _ _ h => h) (Or.inl ⟨by rfl, ?_⟩) ?_ ?_
              rotate_left
              · intro w'
                go_simp
                with_reducible rfl
              rotate_left
              · simp only [Act.put, List.setIfInBounds_toArray, List.set_cons_zero, List.set_cons_succ, i64_w, i32_w]
                rfl
              refine take_ (i := 8) (N := some 86) (v := ?_) (a' := ?_) #[true, true, true, true, true, true, true, true, true, false, false, false, false, false] rfl rfl (take_ofW HT_.out HW_.out (by kernel_rfl)) (fun _ _ _ h => h) (Or.inl ⟨by rfl, ?_⟩) hHeld ?_ ?_
              rotate_left
              · rintro w' ⟨s0, s1, s2, s3, s4⟩
                go_simp
                with_reducible rfl
              rotate_left
              · simp only [Act.put, List.setIfInBounds_toArray, List.set_cons_zero, List.set_cons_succ, i64_w, i32_w]
                rfl
              refine pure_ (i := 9) (N := some 87) (v := ?_) (a' := ?_) #[true, true, true, true, true, true, true, true, true, true, false, false, false, false] rfl rfl (any_of HT_.out (by kernel_rfl)) (fun _ _ _ h => h) (Or.inl ⟨by rfl, ?_⟩) ?_ ?_
              rotate_left
              · intro w'
                go_simp
                with_reducible rfl
              rotate_left
              · simp only [Act.put, List.setIfInBounds_toArray, List.set_cons_zero, List.set_cons_succ, i64_w, i32_w]
                rfl
              refine take_ (i := 10) (N := some 88) (v := ?_) (a' := ?_) #[true, true, true, true, true, true, true, true, true, true, true, false, false, false] rfl rfl (take_ofW HT_.out HW_.out (by kernel_rfl)) (fun _ _ _ h => h) (Or.inl ⟨by rfl, ?_⟩) hHeld ?_ ?_
              rotate_left
              · rintro w' ⟨s0, s1, s2, s3, s4⟩
                go_simp
                with_reducible rfl
              rotate_left
              · simp only [Act.put, List.setIfInBounds_toArray, List.set_cons_zero, List.set_cons_succ, i64_w, i32_w]
                rfl
              refine pure_ (i := 11) (N := some 89) (v := ?_) (a' := ?_) #[true, true, true, true, true, true, true, true, true, true, true, true, false, false] rfl rfl (any_of HT_.out (by kernel_rfl)) (fun _ _ _ h => h) (Or.inl ⟨by rfl, ?_⟩) ?_ ?_
              rotate_left
              · intro w'
                go_simp
                with_reducible rfl
              rotate_left
              · simp only [Act.put, List.setIfInBounds_toArray, List.set_cons_zero, List.set_cons_succ, i64_w, i32_w]
                rfl
              refine pure_ (i := 12) (N := some 90) (v := ?_) (a' := ?_) #[true, true, true, true, true, true, true, true, true, true, true, true, true, false] rfl rfl (any_of HT_.out (by kernel_rfl)) (fun _ _ _ h => h) (Or.inl ⟨by rfl, ?_⟩) ?_ ?_
              rotate_left
              · intro w'
                go_simp
                with_reducible rfl
              rotate_left
              · simp only [Act.put, List.setIfInBounds_toArray, List.set_cons_zero, List.set_cons_succ, i64_w, i32_w]
                rfl
              refine last_ (i := 13) (N := none) #[true, true, true, true, true, true, true, true, true, true, true, true, true, true] rfl rfl (one_of HT_.out (by kernel_rfl)) (by decide) (fun K hK => ?_)
              refine skip_ (w1 := ?_) (by rfl) rfl ?_ ?_
              rotate_left
              · go_simp
                rfl
              clear fe
              refine hK.out _ _ ?_
              clear hK K
              refine norm_ (a' := ?_) ?_ ?_
              rotate_left
              · rfl
              refine done_ (done_of HT_.out (by kernel_rfl)) ?_
              rw [← hx.out, ← hW7.out]
              clear hx hW7 ka0 ka1 ka2 kr ke
              go_wp2
              obtain ⟨G', hG'⟩ : ∃ g, g = addE G a0 a1 a2 := ⟨_, rfl⟩
              rw [← hG'] at HG7 HN
              have ka0 := (blk_cell BA7.out 0).trans rfl
              have ka1 := (blk_cell BA7.out 1).trans rfl
              have ka2 := (blk_cell BA7.out 2).trans rfl
              have kr := HG7.out.cell a1 e2 e3
              obtain ⟨ke, fe⟩ := HG7.out.at_ a1 e2 e3 a0 e0 e1
              obtain ⟨x, hx⟩ : ∃ x, x = wrap64 (gr G' a1 a0 + a2) := ⟨_, rfl⟩
              have hpi := HG7.out.pM a1.toNat (by omega)
              obtain ⟨W8, hW8⟩ : ∃ W, W = (W7.setCell ⟨p a1.toNat, a0.toNat, none⟩ (.int .i64 x)).drew := ⟨_, rfl⟩
              have HG8 : Aside0 (GM W8 w.heap.size M0 A c i p q i ((P.take (j + 1)).foldl addP (cellsG n C.l2 C.l3 r n))) := ⟨by rw [hW8, HN.out, hx]; exact (HG7.out.put a1 e2 e3 a0 _).below (below_drew (Below.refl _ _))⟩
              have HB8 : Aside0 (Below w.heap.size w W8) := ⟨by rw [hW8]; exact below_drew (HB7.out.setCell hpi.1 _)⟩
              have HS8 : Aside0 (M0 ≤ W8.heap.size) := ⟨by rw [hW8]; simpa using HS7.out⟩
              have HP8 : Aside0 (Kd.R k100 121 W8 M0 (fun k => M0 ≤ k) (.slice (some ad) P.length cp) P) := ⟨by rw [hW8]; exact Kd.R_drew (Kd.R_far (p := ⟨p a1.toNat, a0.toNat, none⟩) HP7.out (fun y hy e => by have := hpi.2.1; replace e : y = p a1.toNat := e; omega) _)⟩
              clear HB7 hpi HS7 hG' HN HP7
              replace hx := Aside0.mk hx
              replace hW8 := Aside0.mk hW8
              refine start_ (n := 14) (S := fun w' => (w'.cell? ⟨ga, 0, none⟩ = some (.int .i64 a0)) ∧ (w'.cell? ⟨ga, 1, none⟩ = some (.int .i64 a1)) ∧ (w'.cell? ⟨ga, 2, none⟩ = some (.int .i64 a2)) ∧ (w'.cell? ⟨A, a1.toNat, none⟩ = some (.slice (some ⟨p a1.toNat, 0, none⟩) i (q a1.toNat))) ∧ (w'.cell? ⟨p a1.toNat, a0.toNat, none⟩ = some (.int .i64 (gr G' a1 a0)))) (ds := [13]) #[false, false, false, false, false, false, false, false, false, false, false, false, false, false] (by kernel_rfl) rfl rfl ⟨ka0, ka1, ka2, kr, ke⟩ (fun hHeld => ?_)
              refine with_tabW tb_rlabels_20.tab tb_rlabels_20.bits (fun HT_ HW_ => ?_)
              refine pure_ (i := 0) (N := some 91) (v := ?_) (a' := ?_) #[true, false, false, false, false, false, false, false, false, false, false, false, false, false] rfl rfl (any_of HT_.out (by kernel_rfl)) (fun _ _ _ h => h) (Or.inl ⟨by rfl, ?_⟩) ?_ ?_
              rotate_left
              · intro w'
                go_simp
                with_reducible rfl
              rotate_left
              · simp only [Act.put, List.setIfInBounds_toArray, List.set_cons_zero, List.set_cons_succ, i64_w, i32_w]
                rfl
              refine pure_ (i := 1) (N := some 92) (v := ?_) (a' := ?_) #[true, true, false, false, false, false, false, false, false, false, false, false, false, false] rfl rfl (any_of HT_.out (by kernel_rfl)) (fun _ _ _ h => h) (Or.inl ⟨by rfl, ?_⟩) ?_ ?_
              rotate_left
              · intro w'
                go_simp
                with_reducible rfl
              rotate_left
              · simp only [Act.put, List.setIfInBounds_toArray, List.set_cons_zero, List.set_cons_succ, i64_w, i32_w]
                rfl
              refine take_ (i := 2) (N := some 93) (v := ?_) (a' := ?_) #[true, true, true, false, false, false, false, false, false, false, false, false, false, false] rfl rfl (take_ofW HT_.out HW_.out (by kernel_rfl)) (fun _ _ _ h => h) (Or.inl ⟨by rfl, ?_⟩) hHeld ?_ ?_
              rotate_left
              · rintro w' ⟨s0, s1, s2, s3, s4⟩
                go_simp
                with_reducible rfl
              rotate_left
              · simp only [Act.put, List.setIfInBounds_toArray, List.set_cons_zero, List.set_cons_succ, i64_w, i32_w]
                rfl
              refine pure_ (i := 3) (N := some 94) (v := ?_) (a' := ?_) #[true, true, true, true, false, false, false, false, false, false, false, false, false, false] rfl rfl (any_of HT_.out (by kernel_rfl)) (fun _ _ _ h => h) (Or.inl ⟨by rfl, ?_⟩) ?_ ?_
              rotate_left
              · intro w'
                go_simp
                with_reducible rfl
              rotate_left
              · simp only [Act.put, List.setIfInBounds_toArray, List.set_cons_zero, List.set_cons_succ, i64_w, i32_w]
                rfl
              refine take_ (i := 4) (N := some 95) (v := ?_) (a' := ?_) #[true, true, true, true, true, false, false, false, false, false, false, false, false, false] rfl rfl (take_ofW HT_.out HW_.out (by kernel_rfl)) (fun _ _ _ h => h) (Or.inl ⟨by rfl, ?_⟩) hHeld ?_ ?_
              rotate_left
              · rintro w' ⟨s0, s1, s2, s3, s4⟩
                go_simp
                with_reducible rfl
              rotate_left
              · simp only [Act.put, List.setIfInBounds_toArray, List.set_cons_zero, List.set_cons_succ, i64_w, i32_w]
                rfl
              refine pure_ (i := 5) (N := some 96) (v := ?_) (a' := ?_) #[true, true, true, true, true, true, false, false, false, false, false, false, false, false] rfl rfl (any_of HT_.out (by kernel_rfl)) (fun _ _ _ h => h) (Or.inl ⟨by rfl, ?_⟩) ?_ ?_
              rotate_left
              · intro w'
                go_simp
                with_reducible rfl
              rotate_left
              · simp only [Act.put, List.setIfInBounds_toArray, List.set_cons_zero, List.set_cons_succ, i64_w, i32_w]
                rfl
              refine take_ (i := 6) (N := some 97) (v := ?_) (a' := ?_) #[true, true, true, true, true, true, true, false, false, false, false, false, false, false] rfl rfl (take_ofW HT_.out HW_.out (by kernel_rfl)) (fun _ _ _ h => h) (Or.inl ⟨by rfl, ?_⟩) hHeld ?_ ?_
              rotate_left
              · rintro w' ⟨s0, s1, s2, s3, s4⟩
                go_simp
                with_reducible rfl
              rotate_left
              · simp only [Act.put, List.setIfInBounds_toArray, List.set_cons_zero, List.set_cons_succ, i64_w, i32_w]
                rfl
              refine pure_ (i := 7) (N := some 98) (v := ?_) (a' := ?_) #[true, true, true, true, true, true, true, true, false, false, false, false, false, false] rfl rfl (any_of HT_.out (by kernel_rfl)) (fun _ _ _ h => h) (Or.inl ⟨by rfl, ?_⟩) ?_ ?_
              rotate_left
              · intro w'
                go_simp
                with_reducible rfl
              rotate_left
              · simp only [Act.put, List.setIfInBounds_toArray, List.set_cons_zero, List.set_cons_succ, i64_w, i32_w]
                rfl
              refine take_ (i := 8) (N := some 99) (v := ?_) (a' := ?_) #[true, true, true, true, true, true, true, true, true, false, false, false, false, false] rfl rfl (take_ofW HT_.out HW_.out (by kernel_rfl)) (fun _ _ _ h => h) (Or.inl ⟨by rfl, ?_⟩) hHeld ?_ ?_
              rotate_left
              · rintro w' ⟨s0, s1, s2, s3, s4⟩
                go_simp
                with_reducible rfl
              rotate_left
              · simp only [Act.put, List.setIfInBounds_toArray, List.set_cons_zero, List.set_cons_succ, i64_w, i32_w]
                rfl
              refine pure_ (i := 9) (N := some 100) (v := ?_) (a' := ?_) #[true, true, true, true, true, true, true, true, true, true, false, false, false, false] rfl rfl (any_of HT_.out (by kernel_rfl)) (fun _ _ _ h => h) (Or.inl ⟨by rfl, ?_⟩) ?_ ?_
              rotate_left
              · intro w'
                go_simp
                with_reducible rfl
              rotate_left
              · simp only [Act.put, List.setIfInBounds_toArray, List.set_cons_zero, List.set_cons_succ, i64_w, i32_w]
                rfl
              refine take_ (i := 10) (N := some 101) (v := ?_) (a' := ?_) #[true, true, true, true, true, true, true, true, true, true, true, false, false, false] rfl rfl (take_ofW HT_.out HW_.out (by kernel_rfl)) (fun _ _ _ h => h) (Or.inl ⟨by rfl, ?_⟩) hHeld ?_ ?_
              rotate_left
              · rintro w' ⟨s0, s1, s2, s3, s4⟩
                go_simp
                with_reducible rfl
              rotate_left
              · simp only [Act.put, List.setIfInBounds_toArray, List.set_cons_zero, List.set_cons_succ, i64_w, i32_w]
                rfl
              refine pure_ (i := 11) (N := some 102) (v := ?_) (a' := ?_) #[true, true, true, true, true, true, true, true, true, true, true, true, false, false] rfl rfl (any_of HT_.out (by kernel_rfl)) (fun _ _ _ h => h) (Or.inl ⟨by rfl, ?_⟩) ?_ ?_
              rotate_left
              · intro w'
                go_simp
                with_reducible rfl
              rotate_left
              · simp only [Act.put, List.setIfInBounds_toArray, List.set_cons_zero, List.set_cons_succ, i64_w, i32_w]
                rfl
              refine pure_ (i := 12) (N := some 103) (v := ?_) (a' := ?_) #[true, true, true, true, true, true, true, true, true, true, true, true, true, false] rfl rfl (any_of HT_.out (by kernel_rfl)) (fun _ _ _ h => h) (Or.inl ⟨by rfl, ?_⟩) ?_ ?_
              rotate_left
              · intro w'
                go_simp
                with_reducible rfl
              rotate_left
              · simp only [Act.put, List.setIfInBounds_toArray, List.set_cons_zero, List.set_cons_succ, i64_w, i32_w]
                rfl
              refine last_ (i := 13) (N := none) #[true, true, true, true, true, true, true, true, true, true, true, true, true, true] rfl rfl (one_of HT_.out (by kernel_rfl)) (by decide) (fun K hK => ?_)
              refine skip_ (w1 := ?_) (by rfl) rfl ?_ ?_
              rotate_left
              · go_simp
                rfl
              clear fe
              refine hK.out _ _ ?_
              clear hK K
              refine norm_ (a' := ?_) ?_ ?_
              rotate_left
              · rfl
              refine done_ (done_of HT_.out (by kernel_rfl)) ?_
              rw [← hx.out, ← hW8.out]
              clear hx hW8 ka0 ka1 ka2 kr ke
              have jw2 := jw.out
              go_wp2
              go_roundg (P.length - (j + 1))
              case measure => clear jw2; omega
              case rel => exact ⟨j + 1, by clear jw2; omega, by first | rfl | exact congrArg (Value.int .i64) jw2, HG8, HB8, HP8, HS8⟩
            · have hdec : decide (j < P.length) = false := decide_eq_false hlt
              obtain rfl : j = P.length := by omega
              have HGL : Aside0 (GM wr w.heap.size wr.heap.size A c i p q i (labG n C.W C.l2 C.l3 C.l4 C.l5 r)) := ⟨by have := HG.out; rw [List.take_length, HPE.out] at this; exact this.up HS0.out⟩
              have e1 := E1.out
              clear HG hlt
              go_wp2_with fail
              clear e1
              refine (ends_calls wr _ (n : Int) M (by have := H36.out; omega) (by have := H36.out; omega) HGL.out (by have := H36.out; omega) (by have := H36.out; have := HM.out; omega) fuelK fuelW v G1 (by rw [H36.out.2.2.1, HM.out]; exact HP.out) fr bk HF.out (by rw [H36.out.2.2.1]; exact HL.out.1) (by rw [H36.out.2.2.1, HM.out]; exact HT.out) (by rw [H36.out.2.2.1]; exact HL.out.2)).mono ?_
              rintro e w4 ⟨y1, y2, rfl, hy1, hy2, hb4, hne⟩
              obtain ⟨B1, d1, rfl⟩ := Kd.R_slice hy1
              obtain ⟨B2, d2, rfl⟩ := Kd.R_slice hy2
              have hl1 : (fromL fr i).length = i := by simp [fromL]
              have hl2 : (toL bk i).length = i := by simp [toL]
              have HBW := HB.out.size
              have q1 := Kd.R_take (m := n) (Kd.R_lower hy1 HBW) (by rw [hl1]; have := H36.out; omega)
              have q2 := Kd.R_take (m := n) (Kd.R_lower hy2 HBW) (by rw [hl2]; have := H36.out; omega)
              have Q1 := Aside0.mk q1
              have Q2 := Aside0.mk q2
              have HB9 := Aside0.mk (HB.out.trans hb4)
              have r1 := (Kd.R_reads' hy1).2.1
              have r2 := (Kd.R_reads' hy2).2.1
              have HNE : Aside0 (∀ k, (Value.slice B1 n d1).ownBlock = some k → (Value.slice B2 n d2).ownBlock ≠ some k) := ⟨fun k hk => by cases B1 <;> cases B2 <;> first | exact hne k hk | cases hk⟩
              clear hne
              rw [hl1] at r1 hy1 ⊢
              rw [hl2] at r2 hy2 ⊢
              clear q1 q2 hb4 hl1 hl2 HBW
              go_wp2
              have s1 : (n ≤ d1) = True := eq_true (by have := H36.out; omega)
              have s2 : (n ≤ d2) = True := eq_true (by have := H36.out; omega)
              have s3 : ((n : Int) ≤ (d1 : Int)) = True := eq_true (by have := H36.out; omega)
              have s4 : ((n : Int) ≤ (d2 : Int)) = True := eq_true (by have := H36.out; omega)
              refine start_ (n := 8) (S := fun w' => True) (ds := [6, 7]) #[false, false, false, false, false, false, false, false] (by kernel_rfl) rfl rfl trivial (fun hHeld => ?_)
              refine with_tabW tb_rlabels_23.tab tb_rlabels_23.bits (fun HT_ HW_ => ?_)
              refine pure_ (i := 0) (N := some 113) (v := ?_) (a' := ?_) #[true, false, false, false, false, false, false, false] rfl rfl (any_of HT_.out (by kernel_rfl)) (fun _ _ _ h => h) (Or.inl ⟨by rfl, ?_⟩) ?_ ?_
              rotate_left
              · intro w'
                go_simp
                with_reducible rfl
              rotate_left
              · simp only [Act.put, List.setIfInBounds_toArray, List.set_cons_zero, List.set_cons_succ, i64_w, i32_w]
                rfl
              refine pure_ (i := 1) (N := some 114) (v := ?_) (a' := ?_) #[true, true, false, false, false, false, false, false] rfl rfl (any_of HT_.out (by kernel_rfl)) (fun _ _ _ h => h) (Or.inl ⟨by rfl, ?_⟩) ?_ ?_
              rotate_left
              · intro w'
                go_simp
                with_reducible rfl
              rotate_left
              · simp only [Act.put, List.setIfInBounds_toArray, List.set_cons_zero, List.set_cons_succ, i64_w, i32_w]
                rfl
              refine pure_ (i := 2) (N := some 115) (v := ?_) (a' := ?_) #[true, true, true, false, false, false, false, false] rfl rfl (any_of HT_.out (by kernel_rfl)) (fun _ _ _ h => h) (Or.inl ⟨by rfl, ?_⟩) ?_ ?_
              rotate_left
              · intro w'
                go_simp
                with_reducible rfl
              rotate_left
              · simp only [Act.put, List.setIfInBounds_toArray, List.set_cons_zero, List.set_cons_succ, i64_w, i32_w]
                rfl
              refine pure_ (i := 3) (N := some 116) (v := ?_) (a' := ?_) #[true, true, true, true, false, false, false, false] rfl rfl (any_of HT_.out (by kernel_rfl)) (fun _ _ _ h => h) (Or.inl ⟨by rfl, ?_⟩) ?_ ?_
              rotate_left
              · intro w'
                go_simp
                with_reducible rfl
              rotate_left
              · simp only [Act.put, List.setIfInBounds_toArray, List.set_cons_zero, List.set_cons_succ, i64_w, i32_w]
                rfl
              refine pure_ (i := 4) (N := some 117) (v := ?_) (a' := ?_) #[true, true, true, true, true, false, false, false] rfl rfl (any_of HT_.out (by kernel_rfl)) (fun _ _ _ h => h) (Or.inl ⟨by rfl, ?_⟩) ?_ ?_
              rotate_left
              · intro w'
                go_simp
                with_reducible rfl
              rotate_left
              · simp only [Act.put, List.setIfInBounds_toArray, List.set_cons_zero, List.set_cons_succ, i64_w, i32_w]
                rfl
              refine pure_ (i := 5) (N := some 118) (v := ?_) (a' := ?_) #[true, true, true, true, true, true, false, false] rfl rfl (any_of HT_.out (by kernel_rfl)) (fun _ _ _ h => h) (Or.inl ⟨by rfl, ?_⟩) ?_ ?_
              rotate_left
              · intro w'
                go_simp
                with_reducible rfl
              rotate_left
              · simp only [Act.put, List.setIfInBounds_toArray, List.set_cons_zero, List.set_cons_succ, i64_w, i32_w]
                rfl
              refine pure_ (i := 6) (N := some 4) (v := ?_) (a' := ?_) #[true, true, true, true, true, true, true, false] rfl rfl (any_of HT_.out (by kernel_rfl)) (fun _ _ _ h => h) (Or.inl ⟨by rfl, ?_⟩) ?_ ?_
              rotate_left
              · intro w'
                go_simp
                with_reducible rfl
              rotate_left
              · simp only [Act.put, List.setIfInBounds_toArray, List.set_cons_zero, List.set_cons_succ, i64_w, i32_w]
                rfl
              refine pure_ (i := 7) (N := some 5) (v := ?_) (a' := ?_) #[true, true, true, true, true, true, true, true] rfl rfl (any_of HT_.out (by kernel_rfl)) (fun _ _ _ h => h) (Or.inl ⟨by rfl, ?_⟩) ?_ ?_
              rotate_left
              · intro w'
                go_simp
                with_reducible rfl
              rotate_left
              · simp only [Act.put, List.setIfInBounds_toArray, List.set_cons_zero, List.set_cons_succ, i64_w, i32_w]
                rfl
              refine done_ (done_of HT_.out (by kernel_rfl)) ?_
              clear s1 s2 s3 s4
              go_wp2
              go_ret2
              refine ⟨.slice B1 n d1, .slice B2 n d2, rfl, ?_, ?_, below_drew HB9.out⟩
              · rw [← H36.out.2.2.1]
                exact Kd.R_mono (Kd.R_tight rfl (Kd.R_drew Q1.out)) (fun k hk e => HNE.out k hk.symm e.symm)
              · rw [← H36.out.2.2.1]
                exact Kd.R_mono (Kd.R_tight rfl (Kd.R_drew Q2.out)) (fun k hk e => HNE.out k e.symm hk.symm)
end Go.Proofs.Ytbamanjedfccpaa.HTab
namespace Go.Proofs.Ytbamanjedfccpaa.X
set_option linter.unusedVariables false
open Go.RowKit Go.Proofs.YtbamanjedfccpaaW.PrintWords Go.Proofs.YtbamanjedfccpaaW.PrintLast Go.Proofs.YtbamanjedfccpaaW.PrintMore Go.Proofs.Ytbamanjedfccpaa.HTab
def cantingref07_labels.f (W H : Int) (l2 l3 l4 l5 : List Int) (r : Int) : Option (List Bool × List Bool) :=
  if cvB W H l2 l3 l4 l5 = true ∧ -10001 ≤ r ∧ r ≤ 10001 then
    (grtP fuelK ((W * H).toNat + 2) (((W * H).toNat : Nat) : Int) ((((W * H).toNat : Nat) : Int) + 1) fuelW (labG (W * H).toNat W l2 l3 l4 l5 r) 0).bind fun g => (cantingref07_way.f fuelK g.2 (((W * H).toNat : Nat) : Int)).bind fun fr => (cantingref07_way.f fuelK (backG ((W * H).toNat + 2) g.2) ((((W * H).toNat : Nat) : Int) + 1)).bind fun bk =>
      if fr.length = (W * H).toNat + 2 ∧ bk.length = (W * H).toNat + 2 then some ((fromL fr ((W * H).toNat + 2)).take (W * H).toNat, (toL bk ((W * H).toNat + 2)).take (W * H).toNat) else none
  else none
theorem cantingref07_labels.calls (a0_0 : Int) (a0_1 : Int) (A0_2 : Option Addr) (c0_2 : Nat) (l0_2 : List Int) (A0_3 : Option Addr) (c0_3 : Nat) (l0_3 : List Int) (A0_4 : Option Addr) (c0_4 : Nat) (l0_4 : List Int) (A0_5 : Option Addr) (c0_5 : Nat) (l0_5 : List Int) (a1 : Int) (r1 r2 : List Bool) (w : World) (hr0_2 : Kd.C (Kd.int .i64) w A0_2 l0_2.length l0_2) (hc0_2 : l0_2.length ≤ c0_2) (hr0_3 : Kd.C (Kd.int .i64) w A0_3 l0_3.length l0_3) (hc0_3 : l0_3.length ≤ c0_3) (hr0_4 : Kd.C (Kd.int .i64) w A0_4 l0_4.length l0_4) (hc0_4 : l0_4.length ≤ c0_4) (hr0_5 : Kd.C (Kd.int .i64) w A0_5 l0_5.length l0_5) (hc0_5 : l0_5.length ≤ c0_5) (h : cantingref07_labels.f a0_0 a0_1 l0_2 l0_3 l0_4 l0_5 a1 = some (r1, r2)) :
    Calls Try.prog 67 #[.agg #[.int .i64 a0_0, .int .i64 a0_1, .slice A0_2 l0_2.length c0_2, .slice A0_3 l0_3.length c0_3, .slice A0_4 l0_4.length c0_4, .slice A0_5 l0_5.length c0_5], .int .i64 a1] w fun e w' => ∃ v0_ v1_ : Value, e = .returned (.tuple #[v0_, v1_]) ∧ Kd.R Kd.bool 4 w' w.heap.size (fun k_ => some k_ ≠ (v1_ : Value).ownBlock) v0_ r1 ∧ Kd.R Kd.bool 4 w' w.heap.size (fun k_ => some k_ ≠ (v0_ : Value).ownBlock) v1_ r2 ∧ Below w.heap.size w w' := by
  unfold cantingref07_labels.f at h
  split at h
  · rename_i hv
    obtain ⟨hv, hr⟩ := hv
    obtain ⟨⟨v, G1⟩, hG, h⟩ := Option.bind_eq_some_iff.mp h
    obtain ⟨fr, hfr, h⟩ := Option.bind_eq_some_iff.mp h
    obtain ⟨bk, hbk, h⟩ := Option.bind_eq_some_iff.mp h
    split at h
    · rename_i hL
      injection h with h
      injection h with e1 e2
      subst e1 e2
      have hn := cvB_n hv
      exact rlabels_ok ⟨a0_0, a0_1, A0_2, c0_2, l0_2, A0_3, c0_3, l0_3, A0_4, c0_4, l0_4, A0_5, c0_5, l0_5⟩ a1 w ⟨hr0_2, hc0_2, hr0_3, hc0_3, hr0_4, hc0_4, hr0_5, hc0_5⟩ (cvB_ok hv) hr (a0_0 * a0_1).toNat (Int.toNat_of_nonneg (by omega)) (by omega) (by omega) v G1 hG fr bk hfr hL.1 hbk hL.2
    · simp at h
  · simp at h
end Go.Proofs.Ytbamanjedfccpaa.X
end

section
set_option linter.unusedVariables false
set_option linter.unusedSimpArgs false
namespace Go.Proofs.Ytbamanjedfccpaa.HTab
open Go.RowKit Go.Proofs.YtbamanjedfccpaaW.PrintWords Go.Proofs.YtbamanjedfccpaaW.PrintLast Go.Proofs.YtbamanjedfccpaaW.PrintMore Go.Proofs.Ytbamanjedfccpaa.X
set_option linter.unusedVariables false
set_option linter.unusedSimpArgs false
theorem resG_congr {N : Nat} {T T' : Int → Bool} (g : List (List Int)) (h : ∀ x : Int, 0 ≤ x → x < N → T x = T' x) : resG N T g = resG N T' g := by
  unfold resG
  refine sumF_congr N (fun i i0 i1 => ?_)
  unfold rowG
  rw [h i i0 i1]
  split
  · exact sumF_congr N (fun j j0 j1 => by rw [h j j0 j1])
  · rfl
def fence (n : Nat) (S : List Bool) (v : Int) : Bool := decide (v = (n : Int)) || (decide (v < (n : Int)) && rdOf false S v)
theorem fence_n (n : Nat) (S : List Bool) : fence n S (n : Int) = true := by simp [fence]
theorem fence_t (n : Nat) (S : List Bool) : fence n S ((n : Int) + 1) = false := by unfold fence; rw [decide_eq_false (by omega), decide_eq_false (by omega)]; rfl
theorem fence_lt (n : Nat) (S : List Bool) (v : Int) (h : v < n) : fence n S v = rdOf false S v := by unfold fence; rw [decide_eq_false (by omega), decide_eq_true h]; simp
section
variable {n : Nat} (l2 l3 : List Int) (r : Int)
def entC (n : Nat) (l2 l3 : List Int) (r : Int) (i : Nat) (a b : Int) : Int :=
  if a = n ∧ b < i ∧ 0 < gainC l2 l3 r b then gainC l2 l3 r b else if b = (n : Int) + 1 ∧ a < i ∧ ¬ 0 < gainC l2 l3 r a then -gainC l2 l3 r a else 0
theorem cells_ok : ∀ i : Nat, i ≤ n → GSq (n + 2) (cellsG n l2 l3 r i) ∧ (∀ a b : Int, 0 ≤ a → a < (n + 2 : Nat) → 0 ≤ b → b < (n + 2 : Nat) → gr (cellsG n l2 l3 r i) a b = entC n l2 l3 r i a b) ∧
    ∀ T : Int → Bool, T n = true → T ((n : Int) + 1) = false → resG (n + 2) T (cellsG n l2 l3 r i) = sumF (fun v => if 0 < gainC l2 l3 r v then (if T v then 0 else gainC l2 l3 r v) else (if T v then -gainC l2 l3 r v else 0)) i
  | 0, _ => by
    obtain ⟨z1, z2⟩ := zero_sq (n + 2)
    have e : cellsG n l2 l3 r 0 = zeroG (n + 2) := rfl
    rw [e]
    refine ⟨z1, fun a b a0 a1 b0 b1 => ?_, fun T _ _ => ?_⟩
    · rw [z2]
      unfold entC
      rw [if_neg (by omega), if_neg (by omega)]
    · rw [resG_zero T (fun i j _ _ _ _ _ _ => z2 i j)]
      rfl
  | i + 1, hi => by
    obtain ⟨q1, q2, q3⟩ := cells_ok i (by omega)
    rw [cellsG_succ]
    unfold cellG
    obtain ⟨d, hd⟩ : ∃ d, d = gainC l2 l3 r (i : Int) := ⟨_, rfl⟩
    rw [← hd]
    by_cases c : 0 < d
    · rw [if_pos c]
      refine ⟨q1.put _ _ (by omega) (by omega), fun a b a0 a1 b0 b1 => ?_, fun T hT hT' => ?_⟩
      · rw [gr_put q1 _ (by omega) (by omega) (by omega) (by omega) a b a0 b0]
        by_cases c2 : a = (n : Int) ∧ b = (i : Int)
        · rw [if_pos c2]
          unfold entC
          rw [c2.2, ← hd, if_pos ⟨c2.1, by omega, c⟩]
        · rw [if_neg c2, q2 a b a0 a1 b0 b1]
          unfold entC
          by_cases c3 : b = (i : Int)
          · rw [if_neg (by omega), if_neg (by omega), if_neg (fun q => c2 ⟨q.1, c3⟩), if_neg (by omega)]
          · by_cases c4 : a = (i : Int)
            · rw [c4, ← hd]
              rw [if_neg (by omega), if_neg (by omega), if_neg (by omega), if_neg (by omega)]
            · have e1 : (b < ((i + 1 : Nat) : Int)) = (b < (i : Int)) := propext (by omega)
              have e2 : (a < ((i + 1 : Nat) : Int)) = (a < (i : Int)) := propext (by omega)
              simp only [e1, e2]
      · rw [resG_put q1 T _ (by omega) (by omega) (by omega) (by omega), q3 T hT hT', hT, q2 _ _ (by omega) (by omega) (by omega) (by omega)]
        have e : entC n l2 l3 r i (n : Int) (i : Int) = 0 := by
          unfold entC
          rw [if_neg (by omega), if_neg (by omega)]
        rw [e]
        simp only [sumF]
        rw [← hd, if_pos c]
        cases T (i : Int) <;> simp
    · rw [if_neg c]
      refine ⟨q1.put _ _ (by omega) (by omega), fun a b a0 a1 b0 b1 => ?_, fun T hT hT' => ?_⟩
      · rw [gr_put q1 _ (by omega) (by omega) (by omega) (by omega) a b a0 b0]
        by_cases c2 : a = (i : Int) ∧ b = (n : Int) + 1
        · rw [if_pos c2]
          unfold entC
          rw [c2.1, ← hd, if_neg (by omega), if_pos ⟨c2.2, by omega, c⟩]
        · rw [if_neg c2, q2 a b a0 a1 b0 b1]
          unfold entC
          by_cases c3 : a = (i : Int)
          · rw [if_neg (by omega), if_neg (by omega), if_neg (by omega), if_neg (fun q => c2 ⟨c3, q.1⟩)]
          · by_cases c4 : b = (i : Int)
            · rw [c4, ← hd]
              rw [if_neg (by omega), if_neg (by omega), if_neg (by omega), if_neg (by omega)]
            · have e1 : (b < ((i + 1 : Nat) : Int)) = (b < (i : Int)) := propext (by omega)
              have e2 : (a < ((i + 1 : Nat) : Int)) = (a < (i : Int)) := propext (by omega)
              simp only [e1, e2]
      · rw [resG_put q1 T _ (by omega) (by omega) (by omega) (by omega), q3 T hT hT', hT', q2 _ _ (by omega) (by omega) (by omega) (by omega)]
        have e : entC n l2 l3 r i (i : Int) ((n : Int) + 1) = 0 := by
          unfold entC
          rw [if_neg (by omega), if_neg (by omega)]
        rw [e]
        simp only [sumF]
        rw [← hd, if_neg c]
        cases T (i : Int) <;> simp
end
theorem addE_ok {N : Nat} {G : List (List Int)} {B : Int} (q1 : GSq N G) (q2 : ∀ a b : Int, 0 ≤ a → a < N → 0 ≤ b → b < N → 0 ≤ gr G a b ∧ gr G a b ≤ B) (hB : 0 ≤ B ∧ B ≤ 900000000) (T : Int → Bool) {a b x : Int} (a0 : 0 ≤ a) (a1 : a < N) (b0 : 0 ≤ b) (b1 : b < N) (hx : 0 ≤ x ∧ x ≤ 1000) :
    GSq N (addE G a b x) ∧ (∀ i j : Int, 0 ≤ i → i < N → 0 ≤ j → j < N → 0 ≤ gr (addE G a b x) i j ∧ gr (addE G a b x) i j ≤ B + 1000) ∧ resG N T (addE G a b x) = resG N T G + (if T a && !T b then x else 0) := by
  have h0 := q2 a b a0 a1 b0 b1
  have w : wrap64 (gr G a b + x) = gr G a b + x := wrap_id (by omega) (by omega)
  unfold addE
  rw [w]
  refine ⟨q1.put _ _ a0 a1, fun i j i0 i1 j0 j1 => ?_, ?_⟩
  · have := q2 i j i0 i1 j0 j1
    rw [gr_put q1 _ a0 a1 b0 b1 i j i0 j0]
    split <;> omega
  · rw [resG_put q1 T _ a0 a1 b0 b1]
    cases T a <;> cases T b <;> simp <;> omega
theorem pairs_ok {N : Nat} (S : List Bool) (T : Int → Bool) (hT : ∀ x : Int, 0 ≤ x → x < S.length → T x = rdOf false S x) (hS : S.length ≤ N) : ∀ (P : List S100) (G : List (List Int)) (B : Int), GSq N G → (∀ a b : Int, 0 ≤ a → a < N → 0 ≤ b → b < N → 0 ≤ gr G a b ∧ gr G a b ≤ B) → 0 ≤ B → B + 2000 * P.length ≤ 900000000 →
    (∀ p ∈ P, 0 ≤ p.f0 ∧ p.f0 < (S.length : Int) ∧ 0 ≤ p.f1 ∧ p.f1 < (S.length : Int) ∧ 0 ≤ p.f2 ∧ p.f2 ≤ 1000) →
    GSq N (P.foldl addP G) ∧ (∀ i j : Int, 0 ≤ i → i < N → 0 ≤ j → j < N → 0 ≤ gr (P.foldl addP G) i j ∧ gr (P.foldl addP G) i j ≤ B + 2000 * P.length) ∧ resG N T (P.foldl addP G) = resG N T G + pairE S P
  | [], G, B, q1, q2, _, _, _ => ⟨q1, fun i j i0 i1 j0 j1 => by have := q2 i j i0 i1 j0 j1; simpa using this, by simp [pairE]⟩
  | p :: P, G, B, q1, q2, hB, hB2, hP => by
    obtain ⟨p0, p1, p2, p3, p4, p5⟩ := hP p (List.mem_cons_self ..)
    have hl : B + 2000 + 2000 * (P.length : Int) ≤ 900000000 := by simp only [List.length_cons] at hB2; omega
    obtain ⟨a1, a2, a3⟩ := addE_ok q1 q2 ⟨hB, by omega⟩ T p0 (by omega) p2 (by omega) ⟨p4, p5⟩
    obtain ⟨b1, b2, b3⟩ := addE_ok a1 a2 ⟨by omega, by omega⟩ T p2 (by omega) p0 (by omega) ⟨p4, p5⟩
    obtain ⟨c1, c2, c3⟩ := pairs_ok S T hT hS P (addP G p) (B + 1000 + 1000) b1 b2 (by omega) (by omega) (fun q hq => hP q (List.mem_cons_of_mem _ hq))
    refine ⟨c1, fun i j i0 i1 j0 j1 => ?_, ?_⟩
    · have := c2 i j i0 i1 j0 j1
      simp only [List.length_cons, List.foldl_cons]
      omega
    · rw [List.foldl_cons, c3]
      unfold addP
      rw [b3, a3, hT _ p0 p1, hT _ p2 p3]
      simp only [pairE]
      cases rdOf false S p.f0 <;> cases rdOf false S p.f1 <;> simp <;> omega
def baseC (l2 l3 : List Int) (r : Int) (v : Int) : Int := if 0 < gainC l2 l3 r v then rd l2 v - gainC l2 l3 r v else rd l2 v
section
variable {W H : Int} {l2 l3 l4 l5 : List Int} (hc : ClOK W H l2 l3 l4 l5) {r : Int} (hr : -10001 ≤ r ∧ r ≤ 10001) {n : Nat} (hn : (n : Int) = W * H)
include hc hr
theorem gain_in (v : Int) : -20000 ≤ gainC l2 l3 r v ∧ gainC l2 l3 r v ≤ 20000 := by
  have := rd_in hc.b2 v
  have := rd_in hc.b3 v
  unfold gainC
  omega
include hn in
theorem lab_grid : GOK (n + 2) (labG n W l2 l3 l4 l5 r) ∧ (∀ T : Int → Bool, resG (n + 2) T (labG n W l2 l3 l4 l5 r) ≤ 4000000000) ∧
    ∀ S : List Bool, S.length = n → resG (n + 2) (fence n S) (labG n W l2 l3 l4 l5 r) + sumF (baseC l2 l3 r) n = enE W H l2 l3 l4 l5 r S := by
  have hn0 := hc.n
  obtain ⟨q1, q2, q3⟩ := cells_ok (n := n) l2 l3 r n (Nat.le_refl _)
  have hpl := pairs_len hc
  have q2' : ∀ a b : Int, 0 ≤ a → a < (n + 2 : Nat) → 0 ≤ b → b < (n + 2 : Nat) → 0 ≤ gr (cellsG n l2 l3 r n) a b ∧ gr (cellsG n l2 l3 r n) a b ≤ 20000 := fun a b a0 a1 b0 b1 => by
    rw [q2 a b a0 a1 b0 b1]
    have h1 := gain_in hc hr a
    have h2 := gain_in hc hr b
    unfold entC
    split
    · omega
    · split <;> omega
  have key : ∀ (S : List Bool), S.length = n → _ := fun S hS => pairs_ok (N := n + 2) S (fence n S) (fun x x0 x1 => fence_lt n S x (by omega)) (by omega) (pairsL W l4 l5) (cellsG n l2 l3 r n) 20000 q1 q2' (by omega) (by omega) (fun p hp => by
    have := pairs_in hc p hp
    omega)
  obtain ⟨c1, c2, -⟩ := key (List.replicate n false) (by simp)
  have c2' : ∀ i j : Int, 0 ≤ i → i < (n + 2 : Nat) → 0 ≤ j → j < (n + 2 : Nat) → 0 ≤ gr (labG n W l2 l3 l4 l5 r) i j ∧ gr (labG n W l2 l3 l4 l5 r) i j ≤ 200000 := fun i j i0 i1 j0 j1 => by
    have := c2 i j i0 i1 j0 j1
    unfold labG
    omega
  refine ⟨⟨c1, fun i j i0 i1 j0 j1 => (c2' i j i0 i1 j0 j1).1, fun i j i0 i1 j0 j1 => ?_⟩, fun T => ?_, fun S hS => ?_⟩
  · have := c2' i j i0 i1 j0 j1
    have := c2' j i j0 j1 i0 i1
    omega
  · have h1 : ∀ i : Int, 0 ≤ i → i < (n + 2 : Nat) → -7600000 ≤ rowG (n + 2) T (labG n W l2 l3 l4 l5 r) i ∧ rowG (n + 2) T (labG n W l2 l3 l4 l5 r) i ≤ 7600000 := fun i i0 i1 => by
      unfold rowG
      split
      · have := sumF_in (h := fun j => if T j then 0 else gr (labG n W l2 l3 l4 l5 r) i j) (C := 200000) (n + 2) (fun v v0 v1 => by
          have := c2' i v i0 i1 v0 v1
          split <;> omega)
        omega
      · omega
    have := sumF_in (n + 2) h1
    unfold resG
    omega
  · obtain ⟨-, -, c3⟩ := key S hS
    unfold labG
    rw [c3, q3 (fence n S) (fence_n n S) (fence_t n S)]
    unfold enE
    rw [show (W * H).toNat = n by omega]
    have e : sumF (fun v => if 0 < gainC l2 l3 r v then (if fence n S v then 0 else gainC l2 l3 r v) else (if fence n S v then -gainC l2 l3 r v else 0)) n + sumF (baseC l2 l3 r) n = sumF (cellE l2 l3 r S) n := by
      rw [← sumF_add]
      refine sumF_congr n (fun v v0 v1 => ?_)
      rw [fence_lt n S v v1]
      unfold baseC cellE gainC
      cases rdOf false S v <;> simp <;> split <;> omega
    omega
end
theorem rlabels_f {W H : Int} {l2 l3 l4 l5 : List Int} (hv : cvB W H l2 l3 l4 l5 = true) {r : Int} (hr : -10000 ≤ r ∧ r ≤ 10000) {a b : List Bool} (h : LabD W H l2 l3 l4 l5 r a b) : cantingref07_labels.f W H l2 l3 l4 l5 r = some (a, b) := by
  have hc := cvB_ok hv
  have hn0 := hc.n
  obtain ⟨n, hn⟩ : ∃ n : Nat, (n : Int) = W * H := ⟨(W * H).toNat, by omega⟩
  obtain ⟨g1, g2, g3⟩ := lab_grid hc ⟨by omega, by omega⟩ hn (r := r)
  have hz : 0 ≤ resG (n + 2) (fun v => v == (n : Int)) (labG n W l2 l3 l4 l5 r) := resG_nonneg g1 _
  obtain ⟨v, G1, fr, e1, k1, k2, k3, e2, w1, no⟩ := grtP_ok (N := n + 2) (by omega) (s := (n : Int)) (t := (n : Int) + 1) (by omega) (by omega) (by omega) fuelW (labG n W l2 l3 l4 l5 r) 0 g1 (by omega) (by have := g2 (fun v => v == (n : Int)); omega) (by have := g2 (fun v => v == (n : Int)); unfold fuelW; omega)
  obtain ⟨bs, bg⟩ := back_sq (n + 2) G1
  obtain ⟨bk, e3, w2⟩ := way_f (N := n + 2) (s := (n : Int) + 1) (by omega) bs (by omega) fuelK (by
    have : (n + 2) * (n + 2 + 2) ≤ 38 * 40 := Nat.mul_le_mul (by omega) (by omega)
    unfold fuelK; omega)
  have hla := h.la
  have hlb := h.lb
  -- every labelling costs v and the base, and what is left over its fence
  have cost : ∀ S : List Bool, S.length = n → enE W H l2 l3 l4 l5 r S = v + sumF (baseC l2 l3 r) n + resG (n + 2) (fence n S) G1 := fun S hS => by
    have := g3 S hS
    have := k2 (fence n S)
    rw [ind_side (⟨fence_n n S, fence_t n S⟩ : side (fence n S) (n : Int) ((n : Int) + 1))] at this
    omega
  obtain ⟨SL, hSL⟩ : ∃ S, S = (fromL fr (n + 2)).take n := ⟨_, rfl⟩
  obtain ⟨SG, hSG⟩ : ∃ S, S = (toL bk (n + 2)).take n := ⟨_, rfl⟩
  have lL : SL.length = n := by rw [hSL, List.length_take, fromL_len]; omega
  have lG : SG.length = n := by rw [hSG, List.length_take, toL_len]; omega
  have tk : ∀ (l : List Bool) (x : Nat), x < n → rdOf false (l.take n) (x : Int) = rdOf false l (x : Int) := fun l x hx => by
    unfold rdOf
    rw [List.getD_eq_getElem?_getD, List.getD_eq_getElem?_getD, List.getElem?_take, if_pos (by omega)]
  have rL : ∀ x : Int, 0 ≤ x → x < n → rdOf false SL x = decide (0 ≤ rd fr x) := fun x x0 x1 => by
    obtain ⟨y, rfl⟩ : ∃ y : Nat, x = y := ⟨x.toNat, by omega⟩
    rw [hSL, tk _ _ (by omega), fromL_rd fr (n + 2) y (by omega)]
  have rG : ∀ x : Int, 0 ≤ x → x < n → rdOf false SG x = decide (rd bk x < 0) := fun x x0 x1 => by
    obtain ⟨y, rfl⟩ : ∃ y : Nat, x = y := ⟨x.toNat, by omega⟩
    rw [hSG, tk _ _ (by omega), toL_rd bk (n + 2) y (by omega)]
  have zL : resG (n + 2) (fence n SL) G1 = 0 := by
    rw [resG_congr (T' := fun x => decide (0 ≤ rd fr x)) G1 (fun x x0 x1 => by
      rcases Int.lt_or_le x n with q | q
      · rw [fence_lt n SL x q, rL x x0 q]
      · rcases Int.lt_or_eq_of_le q with q2 | q2
        · obtain rfl : x = (n : Int) + 1 := by omega
          rw [fence_t, decide_eq_false (by omega)]
        · rw [← q2, fence_n, w1.s0, decide_eq_true (by omega)])]
    refine resG_zero _ (fun i j i0 i1 j0 j1 hi hj => ?_)
    have h3 := k1.nn i j i0 i1 j0 j1
    rcases Int.lt_or_eq_of_le h3 with q | q
    · have := w1.clo i j i0 i1 j0 j1 (of_decide_eq_true hi) q
      have := of_decide_eq_false hj
      omega
    · exact q.symm
  have bn : rd bk (n : Int) < 0 := Int.not_le.1 (fun q => by
    have := w2.all_in (fun y => rd fr y < 0) no (fun y x y0 y1 x0 x1 hy hp hg => by
      rw [bg y x y0 y1 x0 x1] at hg
      exact Int.not_le.1 (fun q => by have := w1.clo x y x0 x1 y0 y1 q hg; omega)) (n : Int) (by omega) (by omega) q
    rw [w1.s0] at this
    omega)
  have zG : resG (n + 2) (fence n SG) G1 = 0 := by
    rw [resG_congr (T' := fun x => decide (rd bk x < 0)) G1 (fun x x0 x1 => by
      rcases Int.lt_or_le x n with q | q
      · rw [fence_lt n SG x q, rG x x0 q]
      · rcases Int.lt_or_eq_of_le q with q2 | q2
        · obtain rfl : x = (n : Int) + 1 := by omega
          rw [fence_t, w2.s0, decide_eq_false (by omega)]
        · rw [← q2, fence_n, decide_eq_true bn])]
    refine resG_zero _ (fun i j i0 i1 j0 j1 hi hj => ?_)
    have h1 := of_decide_eq_true hi
    have h2 := of_decide_eq_false hj
    have h3 := k1.nn i j i0 i1 j0 j1
    rcases Int.lt_or_eq_of_le h3 with q | q
    · have := w2.clo j i j0 j1 i0 i1 (by omega) (by rw [bg j i j0 j1 i0 i1]; exact q)
      omega
    · exact q.symm
  have cL := cost SL lL
  have cG := cost SG lG
  have ca := cost a (by omega)
  have cb := cost b (by omega)
  have na := resG_nonneg k1 (fence n a)
  have mL := h.min SL (by omega)
  have he := h.eq
  have za : resG (n + 2) (fence n a) G1 = 0 := by omega
  have zb : resG (n + 2) (fence n b) G1 = 0 := by omega
  have eL : SL = a := bools_ext (N := n) lL (by omega) (fun y hy => by
    have b1 := (h.btw SL (by omega) (by omega) (y : Int) (by omega) (by omega)).1
    rw [rL _ (by omega) (by omega)] at b1 ⊢
    have h3 := w1.all_in (fun y => fence n a y = true) (fence_n n a) (fun y x y0 y1 x0 x1 hy hp hg => by
      cases hq : fence n a x with
      | true => rfl
      | false =>
        have := resG_pos k1 _ za y x y0 y1 x0 x1 hp hq
        omega) (y : Int) (by omega) (by omega)
    rw [fence_lt n a _ (by omega)] at h3
    by_cases c : 0 ≤ rd fr (y : Int)
    · rw [decide_eq_true c, h3 c]
    · rw [decide_eq_false c]
      cases hq : rdOf false a (y : Int) with
      | false => rfl
      | true => exact absurd (of_decide_eq_true (b1 hq)) c)
  have eG : SG = b := bools_ext (N := n) lG (by omega) (fun y hy => by
    have b1 := (h.btw SG (by omega) (by omega) (y : Int) (by omega) (by omega)).2
    rw [rG _ (by omega) (by omega)] at b1 ⊢
    have h3 := w2.all_in (fun y => fence n b y = false) (fence_t n b) (fun y x y0 y1 x0 x1 hy hp hg => by
      cases hq : fence n b x with
      | false => rfl
      | true =>
        have := resG_pos k1 _ zb x y x0 x1 y0 y1 hq hp
        rw [bg y x y0 y1 x0 x1] at hg
        omega) (y : Int) (by omega) (by omega)
    rw [fence_lt n b _ (by omega)] at h3
    by_cases c : rd bk (y : Int) < 0
    · rw [decide_eq_true c, b1 (decide_eq_true c)]
    · rw [decide_eq_false c, h3 (by omega)])
  unfold cantingref07_labels.f
  rw [if_pos ⟨hv, by omega, by omega⟩, show (W * H).toNat = n by omega, e1, Option.bind_some, e2, Option.bind_some, e3, Option.bind_some, if_pos ⟨w1.len, w2.len⟩, ← hSL, ← hSG, eL, eG]
end Go.Proofs.Ytbamanjedfccpaa.HTab
end

section
set_option linter.unusedVariables false
set_option linter.unusedSimpArgs false
namespace Go.Proofs.Ytbamanjedfccpaa.HTab
open Go.RowKit Go.Proofs.YtbamanjedfccpaaW.PrintWords Go.Proofs.YtbamanjedfccpaaW.PrintLast Go.Proofs.YtbamanjedfccpaaW.PrintMore Go.Proofs.Ytbamanjedfccpaa.X
set_option linter.unusedVariables false
set_option linter.unusedSimpArgs false
end Go.Proofs.Ytbamanjedfccpaa.HTab
end

section
set_option linter.unusedVariables false
set_option linter.unusedSimpArgs false
namespace Go.Proofs.Ytbamanjedfccpaa.X
open Go.RowKit Go.Proofs.YtbamanjedfccpaaW.PrintWords Go.Proofs.YtbamanjedfccpaaW.PrintLast Go.Proofs.YtbamanjedfccpaaW.PrintMore
attribute [local go_sem] max2_int min2_int max_two min_two max_three min_three max_four min_four   -- for this text's walks alone
set_option linter.unusedVariables false
set_option linter.unusedSimpArgs false
end Go.Proofs.Ytbamanjedfccpaa.X
end

section
set_option linter.unusedVariables false
set_option linter.unusedSimpArgs false
namespace Go.Proofs.Ytbamanjedfccpaa.HTab
open Go.RowKit Go.Proofs.YtbamanjedfccpaaW.PrintWords Go.Proofs.YtbamanjedfccpaaW.PrintLast Go.Proofs.YtbamanjedfccpaaW.PrintMore Go.Proofs.Ytbamanjedfccpaa.X
set_option linter.unusedVariables false
set_option linter.unusedSimpArgs false
theorem labels_ok {W H : Int} {l2 l3 l4 l5 : List Int} (hv : cvB W H l2 l3 l4 l5 = true) {r : Int} (hr : -10000 ≤ r ∧ r ≤ 10000) {a b : List Bool} (h : LabD W H l2 l3 l4 l5 r a b) : wax_Labels.f W H l2 l3 l4 l5 r = some (a, b, 0) := by
  unfold wax_Labels.f wax_Cloth_valid.f
  rw [hv, Option.bind_some, if_pos rfl, if_neg (by omega), if_neg (by omega), h.labels]
  rfl
theorem labels_err {W H : Int} {l2 l3 l4 l5 : List Int} {r : Int} (h : ¬ (cvB W H l2 l3 l4 l5 = true ∧ -10000 ≤ r ∧ r ≤ 10000)) : wax_Labels.f W H l2 l3 l4 l5 r = some ([], [], 2) := by
  unfold wax_Labels.f wax_Cloth_valid.f
  rw [Option.bind_some]
  by_cases hv : cvB W H l2 l3 l4 l5 = true
  · have h2 : ¬ (-10000 ≤ r ∧ r ≤ 10000) := fun q => h ⟨hv, q⟩
    rw [if_pos hv]
    by_cases h1 : r < -10000
    · rw [if_pos h1]
    · rw [if_neg h1, if_pos (by omega)]
  · rw [if_neg hv]
end Go.Proofs.Ytbamanjedfccpaa.HTab
end

section
set_option linter.unusedVariables false
set_option linter.unusedSimpArgs false
namespace Go.Proofs.Ytbamanjedfccpaa.HTab
open Go.RowKit Go.Proofs.YtbamanjedfccpaaW.PrintWords Go.Proofs.YtbamanjedfccpaaW.PrintLast Go.Proofs.YtbamanjedfccpaaW.PrintMore Go.Proofs.Ytbamanjedfccpaa.X
set_option linter.unusedVariables false
set_option linter.unusedSimpArgs false
theorem wrap_big {x : Int} (h0 : 0 ≤ x) (h : x ≤ 9223372036854775807) : wrap64 x = x := by unfold wrap64; omega
theorem priced_l0 (l : List Int) (n : Int) (hl : l.length ≤ 9223372036854775807) : ∀ (d i fu : Nat), i + d = l.length → d < fu → cantingref07_priced.l0 fu l n l l.length i = some (decide ((l.length : Int) = n) && !(l.drop i).any badI || false && (l.drop i).any badI)
  | d, i, 0, hi, hf => by omega
  | 0, i, fu + 1, hi, hf => by
    obtain rfl : i = l.length := by omega
    simp only [cantingref07_priced.l0]
    rw [if_neg (by omega), List.drop_length]
    simp only [List.any_nil, Bool.not_false, Bool.and_true, Bool.false_and, Bool.or_false]
    rfl
  | d + 1, i, fu + 1, hi, hf => by
    have hlt : i < l.length := by omega
    have ih := priced_l0 l n hl d (i + 1) fu (by omega) (by omega)
    have e : rd l (i : Int) = l[i] := by simp [rd, hlt]
    simp only [cantingref07_priced.l0]
    rw [if_pos (by omega), if_pos (by omega), if_pos (by omega), e, show wrap64 ((i : Int) + 1) = ((i + 1 : Nat) : Int) by rw [wrap_big (by omega) (by omega)]; omega, ih, List.drop_eq_getElem_cons hlt]
    simp only [List.any_cons, badI]
    by_cases h1 : l[i] < 0
    · rw [if_pos h1, decide_eq_true h1]; simp
    · rw [if_neg h1, decide_eq_false h1]
      by_cases h2 : l[i] > 1000
      · rw [if_pos h2, decide_eq_true (show 1000 < l[i] from h2)]; simp
      · rw [if_neg h2, decide_eq_false (show ¬ 1000 < l[i] from h2)]; rfl
theorem priced_f (l : List Int) (n : Int) (hl : l.length ≤ 9223372036854775807) (fu : Nat) (hf : l.length < fu) : cantingref07_priced.f fu l n = some (okL l n) := by
  have := priced_l0 l n hl l.length 0 fu (by omega) hf
  rw [List.drop_zero] at this
  refine this.trans ?_
  unfold okL
  simp
theorem okL_take (l : List Int) (n : Int) (hn : n ≤ 36) : okL (l.take 50) n = okL l n := by
  rcases Nat.lt_or_ge 50 l.length with h | h
  · unfold okL
    rw [decide_eq_false (show ¬ ((l.take 50).length : Int) = n by rw [List.length_take]; omega), decide_eq_false (show ¬ (l.length : Int) = n by omega)]
    rfl
  · rw [List.take_of_length_le h]
theorem wh_le {W H : Int} (hw : 1 ≤ W ∧ W ≤ 6) (hh : 1 ≤ H ∧ H ≤ 6) : 1 ≤ W * H ∧ W * H ≤ 36 := by
  have h1 : W = 1 ∨ W = 2 ∨ W = 3 ∨ W = 4 ∨ W = 5 ∨ W = 6 := by omega
  rcases h1 with h1 | h1 | h1 | h1 | h1 | h1 <;> rw [h1] <;> omega
theorem cvB_take (W H : Int) (l2 l3 l4 l5 : List Int) : cvB W H (l2.take 50) (l3.take 50) (l4.take 50) (l5.take 50) = cvB W H l2 l3 l4 l5 := by
  unfold cvB
  by_cases hw : 1 ≤ W ∧ W ≤ 6
  · by_cases hh : 1 ≤ H ∧ H ≤ 6
    · have := wh_le hw hh
      rw [okL_take _ _ this.2, okL_take _ _ this.2, okL_take _ _ (by omega), okL_take _ _ (by omega)]
    · rw [decide_eq_false hh]; simp
  · rw [decide_eq_false hw]; simp
theorem woven_f (W H : Int) (l2 l3 l4 l5 : List Int) (h2 : l2.length ≤ 9223372036854775807) (h3 : l3.length ≤ 9223372036854775807) (h4 : l4.length ≤ 9223372036854775807) (h5 : l5.length ≤ 9223372036854775807) (fu : Nat) (hf : l2.length + l3.length + l4.length + l5.length + 2 ≤ fu) :
    cantingref07_Woven.f fu W H l2 l3 l4 l5 = some (cvB W H l2 l3 l4 l5) := by
  obtain ⟨fu, rfl⟩ : ∃ g, fu = g + 1 := ⟨fu - 1, by omega⟩
  have hno : ∀ b : Bool, ¬ (1 ≤ W ∧ W ≤ 6 ∧ 1 ≤ H ∧ H ≤ 6) → cvB W H l2 l3 l4 l5 = false := fun b h => by
    unfold cvB
    by_cases hw : 1 ≤ W ∧ W ≤ 6
    · rw [decide_eq_false (show ¬ (1 ≤ H ∧ H ≤ 6) by omega)]; simp
    · rw [decide_eq_false hw]; simp
  unfold cantingref07_Woven.f
  by_cases c1 : W < 1
  · rw [if_pos c1, hno true (by omega)]; simp only [cantingref07_Woven.j0, if_true]
  rw [if_neg c1]
  by_cases c2 : W > 6
  · rw [if_pos c2, hno true (by omega)]; simp only [cantingref07_Woven.j0, if_true]
  rw [if_neg c2]
  by_cases c3 : H < 1
  · rw [if_pos c3, hno true (by omega)]; simp only [cantingref07_Woven.j0, if_true]
  rw [if_neg c3]
  by_cases c4 : H > 6
  · rw [decide_eq_true c4, hno true (by omega)]; simp only [cantingref07_Woven.j0, if_true]
  have hw : 1 ≤ W ∧ W ≤ 6 := by omega
  have hh : 1 ≤ H ∧ H ≤ 6 := by omega
  have hn := wh_le hw hh
  have e1 : (W - 1) * H = W * H - H := by rw [Int.sub_mul, Int.one_mul]
  have e2 : W * (H - 1) = W * H - W := by rw [Int.mul_sub, Int.mul_one]
  rw [decide_eq_false c4]
  simp only [cantingref07_Woven.j0, Bool.false_eq_true, if_false]
  rw [show wrap64 (W - 1) = W - 1 from wrap_id (by omega) (by omega), show wrap64 (H - 1) = H - 1 from wrap_id (by omega) (by omega), e1, e2,
    show wrap64 (W * H) = W * H from wrap_id (by omega) (by omega), show wrap64 (W * H - H) = W * H - H from wrap_id (by omega) (by omega), show wrap64 (W * H - W) = W * H - W from wrap_id (by omega) (by omega),
    priced_f l2 _ h2 fu (by omega), priced_f l3 _ h3 fu (by omega), priced_f l4 _ h4 fu (by omega), priced_f l5 _ h5 fu (by omega)]
  unfold cvB
  rw [decide_eq_true hw, decide_eq_true hh]
  simp only [Option.bind_some]
  cases okL l2 (W * H) <;> cases okL l3 (W * H) <;> cases okL l4 (W * H - H) <;> cases okL l5 (W * H - W) <;> rfl
end Go.Proofs.Ytbamanjedfccpaa.HTab
end

section
set_option linter.unusedVariables false
set_option linter.unusedSimpArgs false
namespace Go.Proofs.Ytbamanjedfccpaa.X
open Go.RowKit Go.Proofs.YtbamanjedfccpaaW.PrintWords Go.Proofs.YtbamanjedfccpaaW.PrintLast Go.Proofs.YtbamanjedfccpaaW.PrintMore
attribute [local go_sem] max2_int min2_int max_two min_two max_three min_three max_four min_four   -- for this text's walks alone
set_option linter.unusedVariables false
set_option linter.unusedSimpArgs false
def cantingref07_Energy.j0 : Nat → Int → List Bool → Bool → Int → Int → List Int → List Int → List Int → List Int → Option (Int × Int)
  | 0, _, _, _, _, _, _, _, _, _ => none
  | k + 1, x1, x2, x15, x763000, x763001, x763002, x763003, x763004, x763005 => if x15 = true then (some (0, 2)) else (if (x2.length : Int) = (wrap64 (x763000 * x763001)) then ((cantingref07_energy.f x763000 x763001 x763002 x763003 x763004 x763005 x1 x2).bind fun t765 => (some (t765, 0))) else (some (0, 3)))
def cantingref07_Energy.f (k : Nat) (a0_0 : Int) (a0_1 : Int) (l0_2 : List Int) (l0_3 : List Int) (l0_4 : List Int) (l0_5 : List Int) (a1 : Int) (l2 : List Bool) : Option (Int × Int) := (cantingref07_Woven.f k a0_0 a0_1 l0_2 l0_3 l0_4 l0_5).bind fun t763 => (if t763 = true then ((cantingref07_Rise.f a1).bind fun t764 => (cantingref07_Energy.j0 k a1 l2 (!t764) a0_0 a0_1 l0_2 l0_3 l0_4 l0_5)) else (cantingref07_Energy.j0 k a1 l2 true a0_0 a0_1 l0_2 l0_3 l0_4 l0_5))
set_option maxHeartbeats 8000000 in
set_option maxRecDepth 100000 in
theorem cantingref07_Energy.calls (k : Nat) (a0_0 : Int) (a0_1 : Int) (A0_2 : Option Addr) (c0_2 : Nat) (l0_2 : List Int) (A0_3 : Option Addr) (c0_3 : Nat) (l0_3 : List Int) (A0_4 : Option Addr) (c0_4 : Nat) (l0_4 : List Int) (A0_5 : Option Addr) (c0_5 : Nat) (l0_5 : List Int) (a1 : Int) (A2 : Option Addr) (c2 : Nat) (l2 : List Bool) (r1 : Int) (r2 : Int) (w : World) (hr0_2 : Kd.C (Kd.int .i64) w A0_2 l0_2.length l0_2) (hc0_2 : l0_2.length ≤ c0_2) (hr0_3 : Kd.C (Kd.int .i64) w A0_3 l0_3.length l0_3) (hc0_3 : l0_3.length ≤ c0_3) (hr0_4 : Kd.C (Kd.int .i64) w A0_4 l0_4.length l0_4) (hc0_4 : l0_4.length ≤ c0_4) (hr0_5 : Kd.C (Kd.int .i64) w A0_5 l0_5.length l0_5) (hc0_5 : l0_5.length ≤ c0_5) (hr2 : Kd.C Kd.bool w A2 l2.length l2) (hc2 : l2.length ≤ c2) (h : cantingref07_Energy.f k a0_0 a0_1 l0_2 l0_3 l0_4 l0_5 a1 l2 = some (r1, r2)) :
    Calls Try.prog 42 #[.agg #[.int .i64 a0_0, .int .i64 a0_1, .slice A0_2 l0_2.length c0_2, .slice A0_3 l0_3.length c0_3, .slice A0_4 l0_4.length c0_4, .slice A0_5 l0_5.length c0_5], .int .i64 a1, .slice A2 l2.length c2] w fun e w' => e = .returned (.tuple #[.int .i64 r1, .int .i64 r2]) ∧ Below w.heap.size w w' := by
  have hu61 := Try.underlying61
  have HR0_2 := Aside0.mk hr0_2
  have HC0_2 := Aside0.mk hc0_2
  clear hr0_2 hc0_2
  have HR0_3 := Aside0.mk hr0_3
  have HC0_3 := Aside0.mk hc0_3
  clear hr0_3 hc0_3
  have HR0_4 := Aside0.mk hr0_4
  have HC0_4 := Aside0.mk hc0_4
  clear hr0_4 hc0_4
  have HR0_5 := Aside0.mk hr0_5
  have HC0_5 := Aside0.mk hc0_5
  clear hr0_5 hc0_5
  have HR2 := Aside0.mk hr2
  have HC2 := Aside0.mk hc2
  clear hr2 hc2
  have HB := Aside0.mk (Below.refl w.heap.size w)
  have H : ((cantingref07_Woven.f k a0_0 a0_1 l0_2 l0_3 l0_4 l0_5).bind fun t763 => (if t763 = true then ((cantingref07_Rise.f a1).bind fun t764 => (cantingref07_Energy.j0 k a1 l2 (!t764) a0_0 a0_1 l0_2 l0_3 l0_4 l0_5)) else (cantingref07_Energy.j0 k a1 l2 true a0_0 a0_1 l0_2 l0_3 l0_4 l0_5))) = some (r1, r2) := h
  clear h
  have HC4 := Aside0.mk H
  clear H
  go_enter Try.func42, Try.ntmps42
  go_upto_region 1 with (first | ((with_reducible refine gate_dst (N := 3) rfl ?_); refine box_event ?hg (N := 3) ?hd (cs := #[.int .i64 a0_0, .int .i64 a0_1, .slice A0_2 l0_2.length c0_2, .slice A0_3 l0_3.length c0_3, .slice A0_4 l0_4.length c0_4, .slice A0_5 l0_5.length c0_5]) (t := 61) ?hr ?_; (case hd => rfl); (case hg => rfl); (case hr => first | (go_simp; done) | (go_simp; rfl)); intro gb762 hg w5 hbox hb; have n0_ := Aside0.mk (below_step (by repeat (first | (with_reducible first | exact HB.out | apply below_alloc | apply pw_below_drewN | apply below_drew1) | exact HB.out)) hb); have n1_ := Aside0.mk (hbox); have n2_ := Aside0.mk ((by rw [hg]; exact (below_size (by repeat (first | (with_reducible first | exact HB.out | apply below_alloc | apply pw_below_drewN | apply below_drew1) | exact HB.out))) : w.heap.size ≤ gb762)); have n3_ := Aside0.mk ((by rw [hg]; exact (below_size (by repeat (first | (with_reducible first | exact HB.out | apply below_alloc | apply pw_below_drewN | apply below_drew1) | exact HB.out))) : w.heap.size ≤ gb762)); clear HB; have HB := n0_; have BK762 := n1_; have GW762 := n2_; have GE762 := n3_; clear n0_ n1_ n2_ n3_; clear hb hbox hg))
  (try simp only [Act.put, List.setIfInBounds_toArray, List.set_cons_zero, List.set_cons_succ])
  go_cut [15] (fun v15 wc => ∃ (kq : Nat) (x15_3 : Bool), v15 = .bool x15_3 ∧ Aside0 (cantingref07_Energy.j0 kq a1 l2 x15_3 a0_0 a0_1 l0_2 l0_3 l0_4 l0_5 = some (r1, r2)) ∧ Aside0 (kq ≤ k) ∧ Aside0 (wc.heap[gb762]? = some (.cells #[.int .i64 a0_0, .int .i64 a0_1, (.slice A0_2 l0_2.length c0_2), (.slice A0_3 l0_3.length c0_3), (.slice A0_4 l0_4.length c0_4), (.slice A0_5 l0_5.length c0_5)] 61 (0, 0))) ∧ Aside0 (Below w.heap.size w wc))
  case first =>
    have H := HC4.out
    clear HC4
    replace H := Option.bind_eq_some_iff.mp H
    obtain ⟨t763, A60, H⟩ := H
    replace H : (if t763 = true then ((cantingref07_Rise.f a1).bind fun t764 => (cantingref07_Energy.j0 k a1 l2 (!t764) a0_0 a0_1 l0_2 l0_3 l0_4 l0_5)) else (cantingref07_Energy.j0 k a1 l2 true a0_0 a0_1 l0_2 l0_3 l0_4 l0_5)) = some (r1, r2) := H
    have A6 := Aside0.mk A60
    clear A60
    by_cases c7 : t763 = true
    · subst c7
      have H1 : ((cantingref07_Rise.f a1).bind fun t764 => (cantingref07_Energy.j0 k a1 l2 (!t764) a0_0 a0_1 l0_2 l0_3 l0_4 l0_5)) = some (r1, r2) := by rw [if_pos rfl] at H; exact H
      clear H
      have H := H1
      clear H1
      replace H := Option.bind_eq_some_iff.mp H
      obtain ⟨t764, A80, H⟩ := H
      replace H : (cantingref07_Energy.j0 k a1 l2 (!t764) a0_0 a0_1 l0_2 l0_3 l0_4 l0_5) = some (r1, r2) := H
      have A8 := Aside0.mk A80
      clear A80
      have H' := Aside0.mk H
      clear H
      have hcz9_0 : w5.cell? ⟨gb762, 0, none⟩ = some (.int .i64 a0_0) := (blk_cell BK762.out 0).trans rfl
      have hcz9_1 : w5.cell? ⟨gb762, 1, none⟩ = some (.int .i64 a0_1) := (blk_cell BK762.out 1).trans rfl
      have hcz9_2 : w5.cell? ⟨gb762, 2, none⟩ = some (.slice A0_2 l0_2.length c0_2) := (blk_cell BK762.out 2).trans rfl
      have hcz9_3 : w5.cell? ⟨gb762, 3, none⟩ = some (.slice A0_3 l0_3.length c0_3) := (blk_cell BK762.out 3).trans rfl
      have hcz9_4 : w5.cell? ⟨gb762, 4, none⟩ = some (.slice A0_4 l0_4.length c0_4) := (blk_cell BK762.out 4).trans rfl
      have hcz9_5 : w5.cell? ⟨gb762, 5, none⟩ = some (.slice A0_5 l0_5.length c0_5) := (blk_cell BK762.out 5).trans rfl
      have hfz9_0 := blk_frozen BK762.out 0
      have hfz9_1 := blk_frozen BK762.out 1
      have hfz9_2 := blk_frozen BK762.out 2
      have hfz9_3 := blk_frozen BK762.out 3
      have hfz9_4 := blk_frozen BK762.out 4
      have hfz9_5 := blk_frozen BK762.out 5
      go_wp2_with (first | ((with_reducible refine gate_callee (f := 45) rfl ?_); refine goesL_ (some 9) rfl rfl Try.func45 (by kernel_rfl) rfl #[.agg #[.int .i64 a0_0, .int .i64 a0_1, .slice A0_2 l0_2.length c0_2, .slice A0_3 l0_3.length c0_3, .slice A0_4 l0_4.length c0_4, .slice A0_5 l0_5.length c0_5]] rfl (by (try simp only [List.map_toArray, List.map_cons, List.map_nil]); first | done | rfl | (simp only [List.length_drop, List.length_take]; rfl)) ?_; (with_reducible refine (cantingref07_Woven.calls k a0_0 a0_1 _ _ l0_2 _ _ l0_3 _ _ l0_4 _ _ l0_5 true _ ?side1 ?side2 ?side3 ?side4 ?side5 ?side6 ?side7 ?side8 A6.out).mono ?_); (case side1 => repeat (first | exact (Kd.C_below HR0_2.out HB.out) | (with_reducible refine Kd.C_alloc ?_ _) | (with_reducible refine Kd.C_drewN ?_ _) | (with_reducible refine Kd.C_drew ?_))); (case side2 => exact HC0_2.out); (case side3 => repeat (first | exact (Kd.C_below HR0_3.out HB.out) | (with_reducible refine Kd.C_alloc ?_ _) | (with_reducible refine Kd.C_drewN ?_ _) | (with_reducible refine Kd.C_drew ?_))); (case side4 => exact HC0_3.out); (case side5 => repeat (first | exact (Kd.C_below HR0_4.out HB.out) | (with_reducible refine Kd.C_alloc ?_ _) | (with_reducible refine Kd.C_drewN ?_ _) | (with_reducible refine Kd.C_drew ?_))); (case side6 => exact HC0_4.out); (case side7 => repeat (first | exact (Kd.C_below HR0_5.out HB.out) | (with_reducible refine Kd.C_alloc ?_ _) | (with_reducible refine Kd.C_drewN ?_ _) | (with_reducible refine Kd.C_drew ?_))); (case side8 => exact HC0_5.out); rintro e w10 ⟨rfl, hb⟩; refine ⟨_, rfl, ?_⟩; have n0_ := Aside0.mk (blk_below (g := gb762) (o := .cells #[.int .i64 a0_0, .int .i64 a0_1, .slice A0_2 l0_2.length c0_2, .slice A0_3 l0_3.length c0_3, .slice A0_4 l0_4.length c0_4, .slice A0_5 l0_5.length c0_5] 61 (0, 0)) (by (with_reducible repeat (first | refine blk_drewN ?_ _ | refine blk_drew ?_ | refine blk_alloc ?_ _)); exact BK762.out) hb); have n1_ := Aside0.mk (below_step (by repeat (first | (with_reducible first | exact HB.out | apply below_alloc | apply pw_below_drewN | apply below_drew1 | refine below_set ?_ GE762.out) | exact HB.out)) hb); clear BK762; clear HB; have BK762 := n0_; have HB := n1_; clear n0_ n1_; (try clear hb); (try clear hb2); (try clear hk); (try clear hi)) | (go_at_call 65; (with_reducible refine (cantingref07_Rise.calls a1 t764 _ A8.out).mono ?_); rintro e w' ⟨rfl, ⟨nd, rfl⟩⟩))
      go_meet
      case rel => exact ⟨_, (!t764), (by first | rfl | (simp; done) | (simp [*]; done)), H', ⟨by first | omega | exact Nat.le_refl _⟩, ⟨by (with_reducible repeat (first | refine blk_drewN ?_ _ | refine blk_drew ?_ | refine blk_alloc ?_ _)); exact BK762.out⟩, ⟨by repeat (first | (with_reducible first | exact HB.out | apply below_alloc | apply pw_below_drewN | apply below_drew1 | refine below_set ?_ GE762.out) | exact HB.out)⟩⟩
    · replace c7 := Bool.eq_false_iff.mpr c7
      subst c7
      have H1 : (cantingref07_Energy.j0 k a1 l2 true a0_0 a0_1 l0_2 l0_3 l0_4 l0_5) = some (r1, r2) := by rw [if_neg (show ¬ (false = true) by decide)] at H; exact H
      clear H
      have H := H1
      clear H1
      have H' := Aside0.mk H
      clear H
      have hcz11_0 : w5.cell? ⟨gb762, 0, none⟩ = some (.int .i64 a0_0) := (blk_cell BK762.out 0).trans rfl
      have hcz11_1 : w5.cell? ⟨gb762, 1, none⟩ = some (.int .i64 a0_1) := (blk_cell BK762.out 1).trans rfl
      have hcz11_2 : w5.cell? ⟨gb762, 2, none⟩ = some (.slice A0_2 l0_2.length c0_2) := (blk_cell BK762.out 2).trans rfl
      have hcz11_3 : w5.cell? ⟨gb762, 3, none⟩ = some (.slice A0_3 l0_3.length c0_3) := (blk_cell BK762.out 3).trans rfl
      have hcz11_4 : w5.cell? ⟨gb762, 4, none⟩ = some (.slice A0_4 l0_4.length c0_4) := (blk_cell BK762.out 4).trans rfl
      have hcz11_5 : w5.cell? ⟨gb762, 5, none⟩ = some (.slice A0_5 l0_5.length c0_5) := (blk_cell BK762.out 5).trans rfl
      have hfz11_0 := blk_frozen BK762.out 0
      have hfz11_1 := blk_frozen BK762.out 1
      have hfz11_2 := blk_frozen BK762.out 2
      have hfz11_3 := blk_frozen BK762.out 3
      have hfz11_4 := blk_frozen BK762.out 4
      have hfz11_5 := blk_frozen BK762.out 5
      go_wp2_with (first | ((with_reducible refine gate_callee (f := 45) rfl ?_); refine goesL_ (some 9) rfl rfl Try.func45 (by kernel_rfl) rfl #[.agg #[.int .i64 a0_0, .int .i64 a0_1, .slice A0_2 l0_2.length c0_2, .slice A0_3 l0_3.length c0_3, .slice A0_4 l0_4.length c0_4, .slice A0_5 l0_5.length c0_5]] rfl (by (try simp only [List.map_toArray, List.map_cons, List.map_nil]); first | done | rfl | (simp only [List.length_drop, List.length_take]; rfl)) ?_; (with_reducible refine (cantingref07_Woven.calls k a0_0 a0_1 _ _ l0_2 _ _ l0_3 _ _ l0_4 _ _ l0_5 false _ ?side1 ?side2 ?side3 ?side4 ?side5 ?side6 ?side7 ?side8 A6.out).mono ?_); (case side1 => repeat (first | exact (Kd.C_below HR0_2.out HB.out) | (with_reducible refine Kd.C_alloc ?_ _) | (with_reducible refine Kd.C_drewN ?_ _) | (with_reducible refine Kd.C_drew ?_))); (case side2 => exact HC0_2.out); (case side3 => repeat (first | exact (Kd.C_below HR0_3.out HB.out) | (with_reducible refine Kd.C_alloc ?_ _) | (with_reducible refine Kd.C_drewN ?_ _) | (with_reducible refine Kd.C_drew ?_))); (case side4 => exact HC0_3.out); (case side5 => repeat (first | exact (Kd.C_below HR0_4.out HB.out) | (with_reducible refine Kd.C_alloc ?_ _) | (with_reducible refine Kd.C_drewN ?_ _) | (with_reducible refine Kd.C_drew ?_))); (case side6 => exact HC0_4.out); (case side7 => repeat (first | exact (Kd.C_below HR0_5.out HB.out) | (with_reducible refine Kd.C_alloc ?_ _) | (with_reducible refine Kd.C_drewN ?_ _) | (with_reducible refine Kd.C_drew ?_))); (case side8 => exact HC0_5.out); rintro e w12 ⟨rfl, hb⟩; refine ⟨_, rfl, ?_⟩; have n0_ := Aside0.mk (blk_below (g := gb762) (o := .cells #[.int .i64 a0_0, .int .i64 a0_1, .slice A0_2 l0_2.length c0_2, .slice A0_3 l0_3.length c0_3, .slice A0_4 l0_4.length c0_4, .slice A0_5 l0_5.length c0_5] 61 (0, 0)) (by (with_reducible repeat (first | refine blk_drewN ?_ _ | refine blk_drew ?_ | refine blk_alloc ?_ _)); exact BK762.out) hb); have n1_ := Aside0.mk (below_step (by repeat (first | (with_reducible first | exact HB.out | apply below_alloc | apply pw_below_drewN | apply below_drew1 | refine below_set ?_ GE762.out) | exact HB.out)) hb); clear BK762; clear HB; have BK762 := n0_; have HB := n1_; clear n0_ n1_; (try clear hb); (try clear hb2); (try clear hk); (try clear hi)))
      go_meet
      case rel => exact ⟨_, (true), (by first | rfl | (simp; done) | (simp [*]; done)), H', ⟨by first | omega | exact Nat.le_refl _⟩, ⟨by (with_reducible repeat (first | refine blk_drewN ?_ _ | refine blk_drew ?_ | refine blk_alloc ?_ _)); exact BK762.out⟩, ⟨by repeat (first | (with_reducible first | exact HB.out | apply below_alloc | apply pw_below_drewN | apply below_drew1 | refine below_set ?_ GE762.out) | exact HB.out)⟩⟩
  case rest =>
    clear HC4
    try clear c2
    try clear p2
    try clear c4
    try clear c7
    try clear hcz11_0
    try clear hcz11_1
    try clear hcz11_2
    try clear hcz11_3
    try clear hcz11_4
    try clear hcz11_5
    try clear hcz9_0
    try clear hcz9_1
    try clear hcz9_2
    try clear hcz9_3
    try clear hcz9_4
    try clear hcz9_5
    try clear hfz11_0
    try clear hfz11_1
    try clear hfz11_2
    try clear hfz11_3
    try clear hfz11_4
    try clear hfz11_5
    try clear hfz9_0
    try clear hfz9_1
    try clear hfz9_2
    try clear hfz9_3
    try clear hfz9_4
    try clear hfz9_5
    obtain ⟨kq, x15_3, rfl, HA, HJ3, BK762, HB⟩ := hcut
    cases kq with
    | zero => exact absurd HA.out (by simp [cantingref07_Energy.j0])
    | succ kj3 =>
      have H := HA.out
      clear HA
      simp only [cantingref07_Energy.j0] at H
      by_cases c13 : x15_3 = true
      · subst c13
        have H1 : (some (0, 2)) = some (r1, r2) := by rw [if_pos rfl] at H; exact H
        clear H
        have H := H1
        clear H1
        simp only [Option.some.injEq, Prod.mk.injEq] at H
        obtain ⟨rfl, rfl⟩ := H
        go_wp2
        go_ret2
        exact ⟨by first | rfl | (simp [errW_none, errW_some] <;> rfl) | (simp [*, errW_none, errW_some] <;> rfl), by repeat (first | (with_reducible first | exact HB.out | apply below_alloc | apply pw_below_drewN | apply below_drew1 | refine below_set ?_ GE762.out) | exact HB.out)⟩
      · replace c13 := Bool.eq_false_iff.mpr c13
        subst c13
        have H1 : (if (l2.length : Int) = (wrap64 (a0_0 * a0_1)) then ((cantingref07_energy.f a0_0 a0_1 l0_2 l0_3 l0_4 l0_5 a1 l2).bind fun t765 => (some (t765, 0))) else (some (0, 3))) = some (r1, r2) := by rw [if_neg (show ¬ (false = true) by decide)] at H; exact H
        clear H
        have H := H1
        clear H1
        by_cases c14 : (l2.length : Int) = (wrap64 (a0_0 * a0_1))
        · rw [if_pos c14] at H
          have c14b0 : ((l2.length : Int) == (wrap64 (a0_0 * a0_1))) = true := beq_iff_eq.mpr c14
          have c14b1 : ((l2.length : Int) != (wrap64 (a0_0 * a0_1))) = false := bne_eq_false_iff_eq.mpr c14
          clear c14
          replace H := Option.bind_eq_some_iff.mp H
          obtain ⟨t765, A150, H⟩ := H
          replace H : (some (t765, 0)) = some (r1, r2) := H
          have A15 := Aside0.mk A150
          clear A150
          simp only [Option.some.injEq, Prod.mk.injEq] at H
          obtain ⟨rfl, rfl⟩ := H
          have hcz16_0 : wc.cell? ⟨gb762, 0, none⟩ = some (.int .i64 a0_0) := (blk_cell BK762.out 0).trans rfl
          have hcz16_1 : wc.cell? ⟨gb762, 1, none⟩ = some (.int .i64 a0_1) := (blk_cell BK762.out 1).trans rfl
          have hcz16_2 : wc.cell? ⟨gb762, 2, none⟩ = some (.slice A0_2 l0_2.length c0_2) := (blk_cell BK762.out 2).trans rfl
          have hcz16_3 : wc.cell? ⟨gb762, 3, none⟩ = some (.slice A0_3 l0_3.length c0_3) := (blk_cell BK762.out 3).trans rfl
          have hcz16_4 : wc.cell? ⟨gb762, 4, none⟩ = some (.slice A0_4 l0_4.length c0_4) := (blk_cell BK762.out 4).trans rfl
          have hcz16_5 : wc.cell? ⟨gb762, 5, none⟩ = some (.slice A0_5 l0_5.length c0_5) := (blk_cell BK762.out 5).trans rfl
          have hfz16_0 := blk_frozen BK762.out 0
          have hfz16_1 := blk_frozen BK762.out 1
          have hfz16_2 := blk_frozen BK762.out 2
          have hfz16_3 := blk_frozen BK762.out 3
          have hfz16_4 := blk_frozen BK762.out 4
          have hfz16_5 := blk_frozen BK762.out 5
          go_wp2_with (first | ((with_reducible refine gate_callee (f := 66) rfl ?_); refine goesL_ (some 27) rfl rfl Try.func66 (by kernel_rfl) rfl #[.agg #[.int .i64 a0_0, .int .i64 a0_1, .slice A0_2 l0_2.length c0_2, .slice A0_3 l0_3.length c0_3, .slice A0_4 l0_4.length c0_4, .slice A0_5 l0_5.length c0_5], .int .i64 a1, .slice A2 l2.length c2] rfl (by (try simp only [List.map_toArray, List.map_cons, List.map_nil]); first | done | rfl | (simp only [List.length_drop, List.length_take]; rfl)) ?_; (with_reducible refine (cantingref07_energy.calls a0_0 a0_1 _ _ l0_2 _ _ l0_3 _ _ l0_4 _ _ l0_5 a1 _ _ l2 t765 _ ?side1 ?side2 ?side3 ?side4 ?side5 ?side6 ?side7 ?side8 ?side9 ?side10 A15.out).mono ?_); (case side1 => repeat (first | exact (Kd.C_below HR0_2.out HB.out) | (with_reducible refine Kd.C_alloc ?_ _) | (with_reducible refine Kd.C_drewN ?_ _) | (with_reducible refine Kd.C_drew ?_))); (case side2 => exact HC0_2.out); (case side3 => repeat (first | exact (Kd.C_below HR0_3.out HB.out) | (with_reducible refine Kd.C_alloc ?_ _) | (with_reducible refine Kd.C_drewN ?_ _) | (with_reducible refine Kd.C_drew ?_))); (case side4 => exact HC0_3.out); (case side5 => repeat (first | exact (Kd.C_below HR0_4.out HB.out) | (with_reducible refine Kd.C_alloc ?_ _) | (with_reducible refine Kd.C_drewN ?_ _) | (with_reducible refine Kd.C_drew ?_))); (case side6 => exact HC0_4.out); (case side7 => repeat (first | exact (Kd.C_below HR0_5.out HB.out) | (with_reducible refine Kd.C_alloc ?_ _) | (with_reducible refine Kd.C_drewN ?_ _) | (with_reducible refine Kd.C_drew ?_))); (case side8 => exact HC0_5.out); (case side9 => repeat (first | exact (Kd.C_below HR2.out HB.out) | (with_reducible refine Kd.C_alloc ?_ _) | (with_reducible refine Kd.C_drewN ?_ _) | (with_reducible refine Kd.C_drew ?_))); (case side10 => exact HC2.out); rintro e w17 ⟨rfl, hb⟩; refine ⟨_, rfl, ?_⟩; have n0_ := Aside0.mk (blk_below (g := gb762) (o := .cells #[.int .i64 a0_0, .int .i64 a0_1, .slice A0_2 l0_2.length c0_2, .slice A0_3 l0_3.length c0_3, .slice A0_4 l0_4.length c0_4, .slice A0_5 l0_5.length c0_5] 61 (0, 0)) (by (with_reducible repeat (first | refine blk_drewN ?_ _ | refine blk_drew ?_ | refine blk_alloc ?_ _)); exact BK762.out) hb); have n1_ := Aside0.mk (below_step (by repeat (first | (with_reducible first | exact HB.out | apply below_alloc | apply pw_below_drewN | apply below_drew1 | refine below_set ?_ GE762.out) | exact HB.out)) hb); clear BK762; clear HB; have BK762 := n0_; have HB := n1_; clear n0_ n1_; (try clear hb); (try clear hb2); (try clear hk); (try clear hi)))
          go_ret2
          exact ⟨by first | rfl | (simp [errW_none, errW_some] <;> rfl) | (simp [*, errW_none, errW_some] <;> rfl), by repeat (first | (with_reducible first | exact HB.out | apply below_alloc | apply pw_below_drewN | apply below_drew1 | refine below_set ?_ GE762.out) | exact HB.out)⟩
        · rw [if_neg c14] at H
          have c14b0 : ((l2.length : Int) == (wrap64 (a0_0 * a0_1))) = false := beq_eq_false_iff_ne.mpr c14
          have c14b1 : ((l2.length : Int) != (wrap64 (a0_0 * a0_1))) = true := bne_iff_ne.mpr c14
          simp only [Option.some.injEq, Prod.mk.injEq] at H
          obtain ⟨rfl, rfl⟩ := H
          have hcz18_0 : wc.cell? ⟨gb762, 0, none⟩ = some (.int .i64 a0_0) := (blk_cell BK762.out 0).trans rfl
          have hcz18_1 : wc.cell? ⟨gb762, 1, none⟩ = some (.int .i64 a0_1) := (blk_cell BK762.out 1).trans rfl
          have hcz18_2 : wc.cell? ⟨gb762, 2, none⟩ = some (.slice A0_2 l0_2.length c0_2) := (blk_cell BK762.out 2).trans rfl
          have hcz18_3 : wc.cell? ⟨gb762, 3, none⟩ = some (.slice A0_3 l0_3.length c0_3) := (blk_cell BK762.out 3).trans rfl
          have hcz18_4 : wc.cell? ⟨gb762, 4, none⟩ = some (.slice A0_4 l0_4.length c0_4) := (blk_cell BK762.out 4).trans rfl
          have hcz18_5 : wc.cell? ⟨gb762, 5, none⟩ = some (.slice A0_5 l0_5.length c0_5) := (blk_cell BK762.out 5).trans rfl
          have hfz18_0 := blk_frozen BK762.out 0
          have hfz18_1 := blk_frozen BK762.out 1
          have hfz18_2 := blk_frozen BK762.out 2
          have hfz18_3 := blk_frozen BK762.out 3
          have hfz18_4 := blk_frozen BK762.out 4
          have hfz18_5 := blk_frozen BK762.out 5
          go_wp2
          go_ret2
          exact ⟨by first | rfl | (simp [errW_none, errW_some] <;> rfl) | (simp [*, errW_none, errW_some] <;> rfl), by repeat (first | (with_reducible first | exact HB.out | apply below_alloc | apply pw_below_drewN | apply below_drew1 | refine below_set ?_ GE762.out) | exact HB.out)⟩
end Go.Proofs.Ytbamanjedfccpaa.X
end

section
set_option linter.unusedVariables false
set_option linter.unusedSimpArgs false
namespace Go.Proofs.Ytbamanjedfccpaa.X
open Go.RowKit Go.Proofs.YtbamanjedfccpaaW.PrintWords Go.Proofs.YtbamanjedfccpaaW.PrintLast Go.Proofs.YtbamanjedfccpaaW.PrintMore
attribute [local go_sem] max2_int min2_int max_two min_two max_three min_three max_four min_four   -- for this text's walks alone
set_option linter.unusedVariables false
set_option linter.unusedSimpArgs false
def cantingref07_Labels.f (k : Nat) (a0_0 : Int) (a0_1 : Int) (l0_2 : List Int) (l0_3 : List Int) (l0_4 : List Int) (l0_5 : List Int) (a1 : Int) : Option (List Bool × List Bool × Int) := (cantingref07_Woven.f k a0_0 a0_1 l0_2 l0_3 l0_4 l0_5).bind fun t767 => (if t767 = true then ((cantingref07_Rise.f a1).bind fun t768 => (if t768 = true then ((cantingref07_labels.f a0_0 a0_1 l0_2 l0_3 l0_4 l0_5 a1).bind fun bt769 => (some (bt769.1, bt769.2, 0))) else (some (([] : List Bool), ([] : List Bool), 2)))) else (some (([] : List Bool), ([] : List Bool), 2)))
set_option maxHeartbeats 8000000 in
set_option maxRecDepth 100000 in
theorem cantingref07_Labels.calls (k : Nat) (a0_0 : Int) (a0_1 : Int) (A0_2 : Option Addr) (c0_2 : Nat) (l0_2 : List Int) (A0_3 : Option Addr) (c0_3 : Nat) (l0_3 : List Int) (A0_4 : Option Addr) (c0_4 : Nat) (l0_4 : List Int) (A0_5 : Option Addr) (c0_5 : Nat) (l0_5 : List Int) (a1 : Int) (r1 : List Bool) (r2 : List Bool) (r3 : Int) (w : World) (hr0_2 : Kd.C (Kd.int .i64) w A0_2 l0_2.length l0_2) (hc0_2 : l0_2.length ≤ c0_2) (hr0_3 : Kd.C (Kd.int .i64) w A0_3 l0_3.length l0_3) (hc0_3 : l0_3.length ≤ c0_3) (hr0_4 : Kd.C (Kd.int .i64) w A0_4 l0_4.length l0_4) (hc0_4 : l0_4.length ≤ c0_4) (hr0_5 : Kd.C (Kd.int .i64) w A0_5 l0_5.length l0_5) (hc0_5 : l0_5.length ≤ c0_5) (h : cantingref07_Labels.f k a0_0 a0_1 l0_2 l0_3 l0_4 l0_5 a1 = some (r1, r2, r3)) :
    Calls Try.prog 43 #[.agg #[.int .i64 a0_0, .int .i64 a0_1, .slice A0_2 l0_2.length c0_2, .slice A0_3 l0_3.length c0_3, .slice A0_4 l0_4.length c0_4, .slice A0_5 l0_5.length c0_5], .int .i64 a1] w fun e w' => ∃ v0_ v1_ : Value, e = .returned (.tuple #[v0_, v1_, .int .i64 r3]) ∧ Kd.R Kd.bool 4 w' w.heap.size (fun k_ => some k_ ≠ (v1_ : Value).ownBlock) v0_ r1 ∧ Kd.R Kd.bool 4 w' w.heap.size (fun k_ => some k_ ≠ (v0_ : Value).ownBlock) v1_ r2 ∧ Below w.heap.size w w' := by
  have hu61 := Try.underlying61
  have HR0_2 := Aside0.mk hr0_2
  have HC0_2 := Aside0.mk hc0_2
  clear hr0_2 hc0_2
  have HR0_3 := Aside0.mk hr0_3
  have HC0_3 := Aside0.mk hc0_3
  clear hr0_3 hc0_3
  have HR0_4 := Aside0.mk hr0_4
  have HC0_4 := Aside0.mk hc0_4
  clear hr0_4 hc0_4
  have HR0_5 := Aside0.mk hr0_5
  have HC0_5 := Aside0.mk hc0_5
  clear hr0_5 hc0_5
  have HB := Aside0.mk (Below.refl w.heap.size w)
  have H : ((cantingref07_Woven.f k a0_0 a0_1 l0_2 l0_3 l0_4 l0_5).bind fun t767 => (if t767 = true then ((cantingref07_Rise.f a1).bind fun t768 => (if t768 = true then ((cantingref07_labels.f a0_0 a0_1 l0_2 l0_3 l0_4 l0_5 a1).bind fun bt769 => (some (bt769.1, bt769.2, 0))) else (some (([] : List Bool), ([] : List Bool), 2)))) else (some (([] : List Bool), ([] : List Bool), 2)))) = some (r1, r2, r3) := h
  clear h
  replace H := Option.bind_eq_some_iff.mp H
  obtain ⟨t767, A30, H⟩ := H
  replace H : (if t767 = true then ((cantingref07_Rise.f a1).bind fun t768 => (if t768 = true then ((cantingref07_labels.f a0_0 a0_1 l0_2 l0_3 l0_4 l0_5 a1).bind fun bt769 => (some (bt769.1, bt769.2, 0))) else (some (([] : List Bool), ([] : List Bool), 2)))) else (some (([] : List Bool), ([] : List Bool), 2))) = some (r1, r2, r3) := H
  have A3 := Aside0.mk A30
  clear A30
  by_cases c4 : t767 = true
  · subst c4
    have H1 : ((cantingref07_Rise.f a1).bind fun t768 => (if t768 = true then ((cantingref07_labels.f a0_0 a0_1 l0_2 l0_3 l0_4 l0_5 a1).bind fun bt769 => (some (bt769.1, bt769.2, 0))) else (some (([] : List Bool), ([] : List Bool), 2)))) = some (r1, r2, r3) := by rw [if_pos rfl] at H; exact H
    clear H
    have H := H1
    clear H1
    replace H := Option.bind_eq_some_iff.mp H
    obtain ⟨t768, A50, H⟩ := H
    replace H : (if t768 = true then ((cantingref07_labels.f a0_0 a0_1 l0_2 l0_3 l0_4 l0_5 a1).bind fun bt769 => (some (bt769.1, bt769.2, 0))) else (some (([] : List Bool), ([] : List Bool), 2))) = some (r1, r2, r3) := H
    have A5 := Aside0.mk A50
    clear A50
    by_cases c6 : t768 = true
    · subst c6
      have H1 : ((cantingref07_labels.f a0_0 a0_1 l0_2 l0_3 l0_4 l0_5 a1).bind fun bt769 => (some (bt769.1, bt769.2, 0))) = some (r1, r2, r3) := by rw [if_pos rfl] at H; exact H
      clear H
      have H := H1
      clear H1
      replace H := Option.bind_eq_some_iff.mp H
      obtain ⟨⟨t769, t772⟩, A70, H⟩ := H
      replace H : (some (t769, t772, 0)) = some (r1, r2, r3) := H
      have A7 := Aside0.mk A70
      clear A70
      simp only [Option.some.injEq, Prod.mk.injEq] at H
      obtain ⟨rfl, rfl, rfl⟩ := H
      go_enter Try.func43, Try.ntmps43
      go_wp2_with (first | ((with_reducible refine gate_dst (N := 2) rfl ?_); refine box_event ?hg (N := 2) ?hd (cs := #[.int .i64 a0_0, .int .i64 a0_1, .slice A0_2 l0_2.length c0_2, .slice A0_3 l0_3.length c0_3, .slice A0_4 l0_4.length c0_4, .slice A0_5 l0_5.length c0_5]) (t := 61) ?hr ?_; (case hd => rfl); (case hg => rfl); (case hr => first | (go_simp; done) | (go_simp; rfl)); intro gb766 hg w8 hbox hb; have n0_ := Aside0.mk (below_step (by repeat (first | (with_reducible first | exact HB.out | apply below_alloc | apply pw_below_drewN | apply below_drew1) | exact HB.out)) hb); have n1_ := Aside0.mk (hbox); have n2_ := Aside0.mk ((by rw [hg]; exact (below_size (by repeat (first | (with_reducible first | exact HB.out | apply below_alloc | apply pw_below_drewN | apply below_drew1) | exact HB.out))) : w.heap.size ≤ gb766)); have n3_ := Aside0.mk ((by rw [hg]; exact (below_size (by repeat (first | (with_reducible first | exact HB.out | apply below_alloc | apply pw_below_drewN | apply below_drew1) | exact HB.out))) : w.heap.size ≤ gb766)); clear HB; have HB := n0_; have BK766 := n1_; have GW766 := n2_; have GE766 := n3_; clear n0_ n1_ n2_ n3_; clear hb hbox hg; have hcz9_0 : w8.cell? ⟨gb766, 0, none⟩ = some (.int .i64 a0_0) := (blk_cell BK766.out 0).trans rfl; have hcz9_1 : w8.cell? ⟨gb766, 1, none⟩ = some (.int .i64 a0_1) := (blk_cell BK766.out 1).trans rfl; have hcz9_2 : w8.cell? ⟨gb766, 2, none⟩ = some (.slice A0_2 l0_2.length c0_2) := (blk_cell BK766.out 2).trans rfl; have hcz9_3 : w8.cell? ⟨gb766, 3, none⟩ = some (.slice A0_3 l0_3.length c0_3) := (blk_cell BK766.out 3).trans rfl; have hcz9_4 : w8.cell? ⟨gb766, 4, none⟩ = some (.slice A0_4 l0_4.length c0_4) := (blk_cell BK766.out 4).trans rfl; have hcz9_5 : w8.cell? ⟨gb766, 5, none⟩ = some (.slice A0_5 l0_5.length c0_5) := (blk_cell BK766.out 5).trans rfl; have hfz9_0 := blk_frozen BK766.out 0; have hfz9_1 := blk_frozen BK766.out 1; have hfz9_2 := blk_frozen BK766.out 2; have hfz9_3 := blk_frozen BK766.out 3; have hfz9_4 := blk_frozen BK766.out 4; have hfz9_5 := blk_frozen BK766.out 5) | ((with_reducible refine gate_callee (f := 45) rfl ?_); refine goesL_ (some 10) rfl rfl Try.func45 (by kernel_rfl) rfl #[.agg #[.int .i64 a0_0, .int .i64 a0_1, .slice A0_2 l0_2.length c0_2, .slice A0_3 l0_3.length c0_3, .slice A0_4 l0_4.length c0_4, .slice A0_5 l0_5.length c0_5]] rfl (by (try simp only [List.map_toArray, List.map_cons, List.map_nil]); first | done | rfl | (simp only [List.length_drop, List.length_take]; rfl)) ?_; (with_reducible refine (cantingref07_Woven.calls k a0_0 a0_1 _ _ l0_2 _ _ l0_3 _ _ l0_4 _ _ l0_5 true _ ?side1 ?side2 ?side3 ?side4 ?side5 ?side6 ?side7 ?side8 A3.out).mono ?_); (case side1 => repeat (first | exact (Kd.C_below HR0_2.out HB.out) | (with_reducible refine Kd.C_alloc ?_ _) | (with_reducible refine Kd.C_drewN ?_ _) | (with_reducible refine Kd.C_drew ?_))); (case side2 => exact HC0_2.out); (case side3 => repeat (first | exact (Kd.C_below HR0_3.out HB.out) | (with_reducible refine Kd.C_alloc ?_ _) | (with_reducible refine Kd.C_drewN ?_ _) | (with_reducible refine Kd.C_drew ?_))); (case side4 => exact HC0_3.out); (case side5 => repeat (first | exact (Kd.C_below HR0_4.out HB.out) | (with_reducible refine Kd.C_alloc ?_ _) | (with_reducible refine Kd.C_drewN ?_ _) | (with_reducible refine Kd.C_drew ?_))); (case side6 => exact HC0_4.out); (case side7 => repeat (first | exact (Kd.C_below HR0_5.out HB.out) | (with_reducible refine Kd.C_alloc ?_ _) | (with_reducible refine Kd.C_drewN ?_ _) | (with_reducible refine Kd.C_drew ?_))); (case side8 => exact HC0_5.out); rintro e w10 ⟨rfl, hb⟩; refine ⟨_, rfl, ?_⟩; have n0_ := Aside0.mk (blk_below (g := gb766) (o := .cells #[.int .i64 a0_0, .int .i64 a0_1, .slice A0_2 l0_2.length c0_2, .slice A0_3 l0_3.length c0_3, .slice A0_4 l0_4.length c0_4, .slice A0_5 l0_5.length c0_5] 61 (0, 0)) (by (with_reducible repeat (first | refine blk_drewN ?_ _ | refine blk_drew ?_ | refine blk_alloc ?_ _)); exact BK766.out) hb); have n1_ := Aside0.mk (below_step (by repeat (first | (with_reducible first | exact HB.out | apply below_alloc | apply pw_below_drewN | apply below_drew1 | refine below_set ?_ GE766.out) | exact HB.out)) hb); clear BK766; clear HB; have BK766 := n0_; have HB := n1_; clear n0_ n1_; (try clear hb); (try clear hb2); (try clear hk); (try clear hi)) | (go_at_call 65; (with_reducible refine (cantingref07_Rise.calls a1 true _ A5.out).mono ?_); rintro e w' ⟨rfl, ⟨nd, rfl⟩⟩; have hcz11_0 : w10.cell? ⟨gb766, 0, none⟩ = some (.int .i64 a0_0) := (blk_cell BK766.out 0).trans rfl; have hcz11_1 : w10.cell? ⟨gb766, 1, none⟩ = some (.int .i64 a0_1) := (blk_cell BK766.out 1).trans rfl; have hcz11_2 : w10.cell? ⟨gb766, 2, none⟩ = some (.slice A0_2 l0_2.length c0_2) := (blk_cell BK766.out 2).trans rfl; have hcz11_3 : w10.cell? ⟨gb766, 3, none⟩ = some (.slice A0_3 l0_3.length c0_3) := (blk_cell BK766.out 3).trans rfl; have hcz11_4 : w10.cell? ⟨gb766, 4, none⟩ = some (.slice A0_4 l0_4.length c0_4) := (blk_cell BK766.out 4).trans rfl; have hcz11_5 : w10.cell? ⟨gb766, 5, none⟩ = some (.slice A0_5 l0_5.length c0_5) := (blk_cell BK766.out 5).trans rfl; have hfz11_0 := blk_frozen BK766.out 0; have hfz11_1 := blk_frozen BK766.out 1; have hfz11_2 := blk_frozen BK766.out 2; have hfz11_3 := blk_frozen BK766.out 3; have hfz11_4 := blk_frozen BK766.out 4; have hfz11_5 := blk_frozen BK766.out 5) | ((with_reducible refine gate_callee (f := 67) rfl ?_); refine goesL_ (some 20) rfl rfl Try.func67 (by kernel_rfl) rfl #[.agg #[.int .i64 a0_0, .int .i64 a0_1, .slice A0_2 l0_2.length c0_2, .slice A0_3 l0_3.length c0_3, .slice A0_4 l0_4.length c0_4, .slice A0_5 l0_5.length c0_5], .int .i64 a1] rfl (by (try simp only [List.map_toArray, List.map_cons, List.map_nil]); first | done | rfl | (simp only [List.length_drop, List.length_take]; rfl)) ?_; (with_reducible refine (cantingref07_labels.calls a0_0 a0_1 _ _ l0_2 _ _ l0_3 _ _ l0_4 _ _ l0_5 a1 t769 t772 _ ?side1 ?side2 ?side3 ?side4 ?side5 ?side6 ?side7 ?side8 A7.out).mono ?_); (case side1 => repeat (first | exact (Kd.C_below HR0_2.out (by repeat (first | (with_reducible first | exact HB.out | apply below_alloc | apply pw_below_drewN | apply below_drew1 | refine below_set ?_ GE766.out) | exact HB.out))) | (with_reducible refine Kd.C_alloc ?_ _) | (with_reducible refine Kd.C_drewN ?_ _) | (with_reducible refine Kd.C_drew ?_))); (case side2 => exact HC0_2.out); (case side3 => repeat (first | exact (Kd.C_below HR0_3.out (by repeat (first | (with_reducible first | exact HB.out | apply below_alloc | apply pw_below_drewN | apply below_drew1 | refine below_set ?_ GE766.out) | exact HB.out))) | (with_reducible refine Kd.C_alloc ?_ _) | (with_reducible refine Kd.C_drewN ?_ _) | (with_reducible refine Kd.C_drew ?_))); (case side4 => exact HC0_3.out); (case side5 => repeat (first | exact (Kd.C_below HR0_4.out (by repeat (first | (with_reducible first | exact HB.out | apply below_alloc | apply pw_below_drewN | apply below_drew1 | refine below_set ?_ GE766.out) | exact HB.out))) | (with_reducible refine Kd.C_alloc ?_ _) | (with_reducible refine Kd.C_drewN ?_ _) | (with_reducible refine Kd.C_drew ?_))); (case side6 => exact HC0_4.out); (case side7 => repeat (first | exact (Kd.C_below HR0_5.out (by repeat (first | (with_reducible first | exact HB.out | apply below_alloc | apply pw_below_drewN | apply below_drew1 | refine below_set ?_ GE766.out) | exact HB.out))) | (with_reducible refine Kd.C_alloc ?_ _) | (with_reducible refine Kd.C_drewN ?_ _) | (with_reducible refine Kd.C_drew ?_))); (case side8 => exact HC0_5.out); rintro e w12 ⟨v770, v773, rfl, ho0, ho1, hb⟩; refine ⟨_, rfl, ?_⟩; have n0_ := Aside0.mk (Kd.R_lower ho0 (below_size (by repeat (first | (with_reducible first | exact HB.out | apply below_alloc | apply pw_below_drewN | apply below_drew1 | refine below_set ?_ GE766.out) | exact HB.out)))); have n1_ := Aside0.mk (Kd.R_lower ho1 (below_size (by repeat (first | (with_reducible first | exact HB.out | apply below_alloc | apply pw_below_drewN | apply below_drew1 | refine below_set ?_ GE766.out) | exact HB.out)))); have n2_ := Aside0.mk (blk_below (g := gb766) (o := .cells #[.int .i64 a0_0, .int .i64 a0_1, .slice A0_2 l0_2.length c0_2, .slice A0_3 l0_3.length c0_3, .slice A0_4 l0_4.length c0_4, .slice A0_5 l0_5.length c0_5] 61 (0, 0)) (by (with_reducible repeat (first | refine blk_drewN ?_ _ | refine blk_drew ?_ | refine blk_alloc ?_ _)); exact BK766.out) hb); have n3_ := Aside0.mk (below_step (by repeat (first | (with_reducible first | exact HB.out | apply below_alloc | apply pw_below_drewN | apply below_drew1 | refine below_set ?_ GE766.out) | exact HB.out)) hb); clear BK766; clear HB; have HO771 := n0_; have HO774 := n1_; have BK766 := n2_; have HB := n3_; clear n0_ n1_ n2_ n3_; (try clear hb); (try clear hb2); (try clear hk); (try clear hi); (try clear ho0); (try clear ho1)))
      go_ret3
      exact ⟨_, _, by first | rfl | (simp [errW_none, errW_some] <;> rfl) | (simp [*, errW_none, errW_some] <;> rfl), by (with_reducible repeat (first | apply Kd.R_alloc | apply Kd.R_drewN | apply Kd.R_drew)); exact HO771.out, by (with_reducible repeat (first | apply Kd.R_alloc | apply Kd.R_drewN | apply Kd.R_drew)); exact HO774.out, by repeat (first | (with_reducible first | exact HB.out | apply below_alloc | apply pw_below_drewN | apply below_drew1 | refine below_set ?_ GE766.out) | exact HB.out)⟩
    · replace c6 := Bool.eq_false_iff.mpr c6
      subst c6
      have H1 : (some (([] : List Bool), ([] : List Bool), 2)) = some (r1, r2, r3) := by rw [if_neg (show ¬ (false = true) by decide)] at H; exact H
      clear H
      have H := H1
      clear H1
      simp only [Option.some.injEq, Prod.mk.injEq] at H
      obtain ⟨rfl, rfl, rfl⟩ := H
      go_enter Try.func43, Try.ntmps43
      go_wp2_with (first | ((with_reducible refine gate_dst (N := 2) rfl ?_); refine box_event ?hg (N := 2) ?hd (cs := #[.int .i64 a0_0, .int .i64 a0_1, .slice A0_2 l0_2.length c0_2, .slice A0_3 l0_3.length c0_3, .slice A0_4 l0_4.length c0_4, .slice A0_5 l0_5.length c0_5]) (t := 61) ?hr ?_; (case hd => rfl); (case hg => rfl); (case hr => first | (go_simp; done) | (go_simp; rfl)); intro gb766 hg w13 hbox hb; have n0_ := Aside0.mk (below_step (by repeat (first | (with_reducible first | exact HB.out | apply below_alloc | apply pw_below_drewN | apply below_drew1) | exact HB.out)) hb); have n1_ := Aside0.mk (hbox); have n2_ := Aside0.mk ((by rw [hg]; exact (below_size (by repeat (first | (with_reducible first | exact HB.out | apply below_alloc | apply pw_below_drewN | apply below_drew1) | exact HB.out))) : w.heap.size ≤ gb766)); have n3_ := Aside0.mk ((by rw [hg]; exact (below_size (by repeat (first | (with_reducible first | exact HB.out | apply below_alloc | apply pw_below_drewN | apply below_drew1) | exact HB.out))) : w.heap.size ≤ gb766)); clear HB; have HB := n0_; have BK766 := n1_; have GW766 := n2_; have GE766 := n3_; clear n0_ n1_ n2_ n3_; clear hb hbox hg; have hcz14_0 : w13.cell? ⟨gb766, 0, none⟩ = some (.int .i64 a0_0) := (blk_cell BK766.out 0).trans rfl; have hcz14_1 : w13.cell? ⟨gb766, 1, none⟩ = some (.int .i64 a0_1) := (blk_cell BK766.out 1).trans rfl; have hcz14_2 : w13.cell? ⟨gb766, 2, none⟩ = some (.slice A0_2 l0_2.length c0_2) := (blk_cell BK766.out 2).trans rfl; have hcz14_3 : w13.cell? ⟨gb766, 3, none⟩ = some (.slice A0_3 l0_3.length c0_3) := (blk_cell BK766.out 3).trans rfl; have hcz14_4 : w13.cell? ⟨gb766, 4, none⟩ = some (.slice A0_4 l0_4.length c0_4) := (blk_cell BK766.out 4).trans rfl; have hcz14_5 : w13.cell? ⟨gb766, 5, none⟩ = some (.slice A0_5 l0_5.length c0_5) := (blk_cell BK766.out 5).trans rfl; have hfz14_0 := blk_frozen BK766.out 0; have hfz14_1 := blk_frozen BK766.out 1; have hfz14_2 := blk_frozen BK766.out 2; have hfz14_3 := blk_frozen BK766.out 3; have hfz14_4 := blk_frozen BK766.out 4; have hfz14_5 := blk_frozen BK766.out 5) | ((with_reducible refine gate_callee (f := 45) rfl ?_); refine goesL_ (some 10) rfl rfl Try.func45 (by kernel_rfl) rfl #[.agg #[.int .i64 a0_0, .int .i64 a0_1, .slice A0_2 l0_2.length c0_2, .slice A0_3 l0_3.length c0_3, .slice A0_4 l0_4.length c0_4, .slice A0_5 l0_5.length c0_5]] rfl (by (try simp only [List.map_toArray, List.map_cons, List.map_nil]); first | done | rfl | (simp only [List.length_drop, List.length_take]; rfl)) ?_; (with_reducible refine (cantingref07_Woven.calls k a0_0 a0_1 _ _ l0_2 _ _ l0_3 _ _ l0_4 _ _ l0_5 true _ ?side1 ?side2 ?side3 ?side4 ?side5 ?side6 ?side7 ?side8 A3.out).mono ?_); (case side1 => repeat (first | exact (Kd.C_below HR0_2.out HB.out) | (with_reducible refine Kd.C_alloc ?_ _) | (with_reducible refine Kd.C_drewN ?_ _) | (with_reducible refine Kd.C_drew ?_))); (case side2 => exact HC0_2.out); (case side3 => repeat (first | exact (Kd.C_below HR0_3.out HB.out) | (with_reducible refine Kd.C_alloc ?_ _) | (with_reducible refine Kd.C_drewN ?_ _) | (with_reducible refine Kd.C_drew ?_))); (case side4 => exact HC0_3.out); (case side5 => repeat (first | exact (Kd.C_below HR0_4.out HB.out) | (with_reducible refine Kd.C_alloc ?_ _) | (with_reducible refine Kd.C_drewN ?_ _) | (with_reducible refine Kd.C_drew ?_))); (case side6 => exact HC0_4.out); (case side7 => repeat (first | exact (Kd.C_below HR0_5.out HB.out) | (with_reducible refine Kd.C_alloc ?_ _) | (with_reducible refine Kd.C_drewN ?_ _) | (with_reducible refine Kd.C_drew ?_))); (case side8 => exact HC0_5.out); rintro e w15 ⟨rfl, hb⟩; refine ⟨_, rfl, ?_⟩; have n0_ := Aside0.mk (blk_below (g := gb766) (o := .cells #[.int .i64 a0_0, .int .i64 a0_1, .slice A0_2 l0_2.length c0_2, .slice A0_3 l0_3.length c0_3, .slice A0_4 l0_4.length c0_4, .slice A0_5 l0_5.length c0_5] 61 (0, 0)) (by (with_reducible repeat (first | refine blk_drewN ?_ _ | refine blk_drew ?_ | refine blk_alloc ?_ _)); exact BK766.out) hb); have n1_ := Aside0.mk (below_step (by repeat (first | (with_reducible first | exact HB.out | apply below_alloc | apply pw_below_drewN | apply below_drew1 | refine below_set ?_ GE766.out) | exact HB.out)) hb); clear BK766; clear HB; have BK766 := n0_; have HB := n1_; clear n0_ n1_; (try clear hb); (try clear hb2); (try clear hk); (try clear hi)) | (go_at_call 65; (with_reducible refine (cantingref07_Rise.calls a1 false _ A5.out).mono ?_); rintro e w' ⟨rfl, ⟨nd, rfl⟩⟩))
      go_ret3
      exact ⟨_, _, by first | rfl | (simp [errW_none, errW_some] <;> rfl) | (simp [*, errW_none, errW_some] <;> rfl), by first | exact Kd.R_nil _ _ _ _ _ | exact Kd.N_nil _ _ _ _ _ | exact Kd.V_nil _ _ _ _ _ | exact Kd.Q_nil _ _ _ _ _ | exact Kd.S_nil _ _ _ _ _, by first | exact Kd.R_nil _ _ _ _ _ | exact Kd.N_nil _ _ _ _ _ | exact Kd.V_nil _ _ _ _ _ | exact Kd.Q_nil _ _ _ _ _ | exact Kd.S_nil _ _ _ _ _, by repeat (first | (with_reducible first | exact HB.out | apply below_alloc | apply pw_below_drewN | apply below_drew1 | refine below_set ?_ GE766.out) | exact HB.out)⟩
  · replace c4 := Bool.eq_false_iff.mpr c4
    subst c4
    have H1 : (some (([] : List Bool), ([] : List Bool), 2)) = some (r1, r2, r3) := by rw [if_neg (show ¬ (false = true) by decide)] at H; exact H
    clear H
    have H := H1
    clear H1
    simp only [Option.some.injEq, Prod.mk.injEq] at H
    obtain ⟨rfl, rfl, rfl⟩ := H
    go_enter Try.func43, Try.ntmps43
    go_wp2_with (first | ((with_reducible refine gate_dst (N := 2) rfl ?_); refine box_event ?hg (N := 2) ?hd (cs := #[.int .i64 a0_0, .int .i64 a0_1, .slice A0_2 l0_2.length c0_2, .slice A0_3 l0_3.length c0_3, .slice A0_4 l0_4.length c0_4, .slice A0_5 l0_5.length c0_5]) (t := 61) ?hr ?_; (case hd => rfl); (case hg => rfl); (case hr => first | (go_simp; done) | (go_simp; rfl)); intro gb766 hg w16 hbox hb; have n0_ := Aside0.mk (below_step (by repeat (first | (with_reducible first | exact HB.out | apply below_alloc | apply pw_below_drewN | apply below_drew1) | exact HB.out)) hb); have n1_ := Aside0.mk (hbox); have n2_ := Aside0.mk ((by rw [hg]; exact (below_size (by repeat (first | (with_reducible first | exact HB.out | apply below_alloc | apply pw_below_drewN | apply below_drew1) | exact HB.out))) : w.heap.size ≤ gb766)); have n3_ := Aside0.mk ((by rw [hg]; exact (below_size (by repeat (first | (with_reducible first | exact HB.out | apply below_alloc | apply pw_below_drewN | apply below_drew1) | exact HB.out))) : w.heap.size ≤ gb766)); clear HB; have HB := n0_; have BK766 := n1_; have GW766 := n2_; have GE766 := n3_; clear n0_ n1_ n2_ n3_; clear hb hbox hg; have hcz17_0 : w16.cell? ⟨gb766, 0, none⟩ = some (.int .i64 a0_0) := (blk_cell BK766.out 0).trans rfl; have hcz17_1 : w16.cell? ⟨gb766, 1, none⟩ = some (.int .i64 a0_1) := (blk_cell BK766.out 1).trans rfl; have hcz17_2 : w16.cell? ⟨gb766, 2, none⟩ = some (.slice A0_2 l0_2.length c0_2) := (blk_cell BK766.out 2).trans rfl; have hcz17_3 : w16.cell? ⟨gb766, 3, none⟩ = some (.slice A0_3 l0_3.length c0_3) := (blk_cell BK766.out 3).trans rfl; have hcz17_4 : w16.cell? ⟨gb766, 4, none⟩ = some (.slice A0_4 l0_4.length c0_4) := (blk_cell BK766.out 4).trans rfl; have hcz17_5 : w16.cell? ⟨gb766, 5, none⟩ = some (.slice A0_5 l0_5.length c0_5) := (blk_cell BK766.out 5).trans rfl; have hfz17_0 := blk_frozen BK766.out 0; have hfz17_1 := blk_frozen BK766.out 1; have hfz17_2 := blk_frozen BK766.out 2; have hfz17_3 := blk_frozen BK766.out 3; have hfz17_4 := blk_frozen BK766.out 4; have hfz17_5 := blk_frozen BK766.out 5) | ((with_reducible refine gate_callee (f := 45) rfl ?_); refine goesL_ (some 10) rfl rfl Try.func45 (by kernel_rfl) rfl #[.agg #[.int .i64 a0_0, .int .i64 a0_1, .slice A0_2 l0_2.length c0_2, .slice A0_3 l0_3.length c0_3, .slice A0_4 l0_4.length c0_4, .slice A0_5 l0_5.length c0_5]] rfl (by (try simp only [List.map_toArray, List.map_cons, List.map_nil]); first | done | rfl | (simp only [List.length_drop, List.length_take]; rfl)) ?_; (with_reducible refine (cantingref07_Woven.calls k a0_0 a0_1 _ _ l0_2 _ _ l0_3 _ _ l0_4 _ _ l0_5 false _ ?side1 ?side2 ?side3 ?side4 ?side5 ?side6 ?side7 ?side8 A3.out).mono ?_); (case side1 => repeat (first | exact (Kd.C_below HR0_2.out HB.out) | (with_reducible refine Kd.C_alloc ?_ _) | (with_reducible refine Kd.C_drewN ?_ _) | (with_reducible refine Kd.C_drew ?_))); (case side2 => exact HC0_2.out); (case side3 => repeat (first | exact (Kd.C_below HR0_3.out HB.out) | (with_reducible refine Kd.C_alloc ?_ _) | (with_reducible refine Kd.C_drewN ?_ _) | (with_reducible refine Kd.C_drew ?_))); (case side4 => exact HC0_3.out); (case side5 => repeat (first | exact (Kd.C_below HR0_4.out HB.out) | (with_reducible refine Kd.C_alloc ?_ _) | (with_reducible refine Kd.C_drewN ?_ _) | (with_reducible refine Kd.C_drew ?_))); (case side6 => exact HC0_4.out); (case side7 => repeat (first | exact (Kd.C_below HR0_5.out HB.out) | (with_reducible refine Kd.C_alloc ?_ _) | (with_reducible refine Kd.C_drewN ?_ _) | (with_reducible refine Kd.C_drew ?_))); (case side8 => exact HC0_5.out); rintro e w18 ⟨rfl, hb⟩; refine ⟨_, rfl, ?_⟩; have n0_ := Aside0.mk (blk_below (g := gb766) (o := .cells #[.int .i64 a0_0, .int .i64 a0_1, .slice A0_2 l0_2.length c0_2, .slice A0_3 l0_3.length c0_3, .slice A0_4 l0_4.length c0_4, .slice A0_5 l0_5.length c0_5] 61 (0, 0)) (by (with_reducible repeat (first | refine blk_drewN ?_ _ | refine blk_drew ?_ | refine blk_alloc ?_ _)); exact BK766.out) hb); have n1_ := Aside0.mk (below_step (by repeat (first | (with_reducible first | exact HB.out | apply below_alloc | apply pw_below_drewN | apply below_drew1 | refine below_set ?_ GE766.out) | exact HB.out)) hb); clear BK766; clear HB; have BK766 := n0_; have HB := n1_; clear n0_ n1_; (try clear hb); (try clear hb2); (try clear hk); (try clear hi)))
    go_ret3
    exact ⟨_, _, by first | rfl | (simp [errW_none, errW_some] <;> rfl) | (simp [*, errW_none, errW_some] <;> rfl), by first | exact Kd.R_nil _ _ _ _ _ | exact Kd.N_nil _ _ _ _ _ | exact Kd.V_nil _ _ _ _ _ | exact Kd.Q_nil _ _ _ _ _ | exact Kd.S_nil _ _ _ _ _, by first | exact Kd.R_nil _ _ _ _ _ | exact Kd.N_nil _ _ _ _ _ | exact Kd.V_nil _ _ _ _ _ | exact Kd.Q_nil _ _ _ _ _ | exact Kd.S_nil _ _ _ _ _, by repeat (first | (with_reducible first | exact HB.out | apply below_alloc | apply pw_below_drewN | apply below_drew1 | refine below_set ?_ GE766.out) | exact HB.out)⟩
end Go.Proofs.Ytbamanjedfccpaa.X
end

section
set_option linter.unusedVariables false
set_option linter.unusedSimpArgs false
namespace Go.Proofs.Ytbamanjedfccpaa.X
open Go.RowKit Go.Proofs.YtbamanjedfccpaaW.PrintWords Go.Proofs.YtbamanjedfccpaaW.PrintLast Go.Proofs.YtbamanjedfccpaaW.PrintMore
attribute [local go_sem] max2_int min2_int max_two min_two max_three min_three max_four min_four   -- for this text's walks alone
set_option linter.unusedVariables false
set_option linter.unusedSimpArgs false
def cantinglaw07_WaxLabels.f (k : Nat) (a0_0 : Int) (a0_1 : Int) (l0_2 : List Int) (l0_3 : List Int) (l0_4 : List Int) (l0_5 : List Int) (a1 : Int) (l2 : List Bool) : Option (Bool) := (cantinglaw07_cloth.f a0_0 a0_1 l0_2 l0_3 l0_4 l0_5).bind fun bt776 => ((wax_Energy.f k bt776.1 bt776.2.1 bt776.2.2.1 bt776.2.2.2.1 bt776.2.2.2.2.1 bt776.2.2.2.2.2 a1 l2).bind fun bt790 => ((cantingref07_Energy.f k a0_0 a0_1 l0_2 l0_3 l0_4 l0_5 a1 l2).bind fun bt792 => ((cantinglaw07_cloth.f a0_0 a0_1 l0_2 l0_3 l0_4 l0_5).bind fun bt794 => ((wax_Labels.f bt794.1 bt794.2.1 bt794.2.2.1 bt794.2.2.2.1 bt794.2.2.2.2.1 bt794.2.2.2.2.2 a1).bind fun bt808 => ((cantingref07_Labels.f k a0_0 a0_1 l0_2 l0_3 l0_4 l0_5 a1).bind fun bt815 => (if bt790.1 = bt792.1 then (if bt790.2 = bt792.2 then ((slices_Equal_bool_bool.f k bt808.1 bt815.1).bind fun t822 => (if t822 = true then ((slices_Equal_bool_bool.f k bt808.2.1 bt815.2.1).bind fun t823 => (if t823 = true then (if bt808.2.2 = bt815.2.2 then ((cantinglaw07_awake.f).bind fun t824 => (some t824)) else (some false)) else (some false))) else (some false))) else (some false)) else (some false)))))))
set_option maxHeartbeats 8000000 in
set_option maxRecDepth 100000 in
theorem cantinglaw07_WaxLabels.calls (k : Nat) (a0_0 : Int) (a0_1 : Int) (A0_2 : Option Addr) (c0_2 : Nat) (l0_2 : List Int) (A0_3 : Option Addr) (c0_3 : Nat) (l0_3 : List Int) (A0_4 : Option Addr) (c0_4 : Nat) (l0_4 : List Int) (A0_5 : Option Addr) (c0_5 : Nat) (l0_5 : List Int) (a1 : Int) (A2 : Option Addr) (c2 : Nat) (l2 : List Bool) (w : World) (hr0_2 : Kd.C (Kd.int .i64) w A0_2 l0_2.length l0_2) (hc0_2 : l0_2.length ≤ c0_2) (hr0_3 : Kd.C (Kd.int .i64) w A0_3 l0_3.length l0_3) (hc0_3 : l0_3.length ≤ c0_3) (hr0_4 : Kd.C (Kd.int .i64) w A0_4 l0_4.length l0_4) (hc0_4 : l0_4.length ≤ c0_4) (hr0_5 : Kd.C (Kd.int .i64) w A0_5 l0_5.length l0_5) (hc0_5 : l0_5.length ≤ c0_5) (hr2 : Kd.C Kd.bool w A2 l2.length l2) (hc2 : l2.length ≤ c2) (h : cantinglaw07_WaxLabels.f k a0_0 a0_1 l0_2 l0_3 l0_4 l0_5 a1 l2 = some true) :
    Calls Try.prog 13 #[.agg #[.int .i64 a0_0, .int .i64 a0_1, .slice A0_2 l0_2.length c0_2, .slice A0_3 l0_3.length c0_3, .slice A0_4 l0_4.length c0_4, .slice A0_5 l0_5.length c0_5], .int .i64 a1, .slice A2 l2.length c2] w fun e w' => e = .returned (.bool true) ∧ Below w.heap.size w w' := by
  have hu61 := Try.underlying61
  have HR0_2 := Aside0.mk hr0_2
  have HC0_2 := Aside0.mk hc0_2
  clear hr0_2 hc0_2
  have HR0_3 := Aside0.mk hr0_3
  have HC0_3 := Aside0.mk hc0_3
  clear hr0_3 hc0_3
  have HR0_4 := Aside0.mk hr0_4
  have HC0_4 := Aside0.mk hc0_4
  clear hr0_4 hc0_4
  have HR0_5 := Aside0.mk hr0_5
  have HC0_5 := Aside0.mk hc0_5
  clear hr0_5 hc0_5
  have HR2 := Aside0.mk hr2
  have HC2 := Aside0.mk hc2
  clear hr2 hc2
  have HB := Aside0.mk (Below.refl w.heap.size w)
  have H : ((cantinglaw07_cloth.f a0_0 a0_1 l0_2 l0_3 l0_4 l0_5).bind fun bt776 => ((wax_Energy.f k bt776.1 bt776.2.1 bt776.2.2.1 bt776.2.2.2.1 bt776.2.2.2.2.1 bt776.2.2.2.2.2 a1 l2).bind fun bt790 => ((cantingref07_Energy.f k a0_0 a0_1 l0_2 l0_3 l0_4 l0_5 a1 l2).bind fun bt792 => ((cantinglaw07_cloth.f a0_0 a0_1 l0_2 l0_3 l0_4 l0_5).bind fun bt794 => ((wax_Labels.f bt794.1 bt794.2.1 bt794.2.2.1 bt794.2.2.2.1 bt794.2.2.2.2.1 bt794.2.2.2.2.2 a1).bind fun bt808 => ((cantingref07_Labels.f k a0_0 a0_1 l0_2 l0_3 l0_4 l0_5 a1).bind fun bt815 => (if bt790.1 = bt792.1 then (if bt790.2 = bt792.2 then ((slices_Equal_bool_bool.f k bt808.1 bt815.1).bind fun t822 => (if t822 = true then ((slices_Equal_bool_bool.f k bt808.2.1 bt815.2.1).bind fun t823 => (if t823 = true then (if bt808.2.2 = bt815.2.2 then ((cantinglaw07_awake.f).bind fun t824 => (some t824)) else (some false)) else (some false))) else (some false))) else (some false)) else (some false)))))))) = some true := h
  clear h
  replace H := Option.bind_eq_some_iff.mp H
  obtain ⟨⟨t776, t777, t778, t781, t784, t787⟩, A40, H⟩ := H
  replace H : ((wax_Energy.f k t776 t777 t778 t781 t784 t787 a1 l2).bind fun bt790 => ((cantingref07_Energy.f k a0_0 a0_1 l0_2 l0_3 l0_4 l0_5 a1 l2).bind fun bt792 => ((cantinglaw07_cloth.f a0_0 a0_1 l0_2 l0_3 l0_4 l0_5).bind fun bt794 => ((wax_Labels.f bt794.1 bt794.2.1 bt794.2.2.1 bt794.2.2.2.1 bt794.2.2.2.2.1 bt794.2.2.2.2.2 a1).bind fun bt808 => ((cantingref07_Labels.f k a0_0 a0_1 l0_2 l0_3 l0_4 l0_5 a1).bind fun bt815 => (if bt790.1 = bt792.1 then (if bt790.2 = bt792.2 then ((slices_Equal_bool_bool.f k bt808.1 bt815.1).bind fun t822 => (if t822 = true then ((slices_Equal_bool_bool.f k bt808.2.1 bt815.2.1).bind fun t823 => (if t823 = true then (if bt808.2.2 = bt815.2.2 then ((cantinglaw07_awake.f).bind fun t824 => (some t824)) else (some false)) else (some false))) else (some false))) else (some false)) else (some false))))))) = some true := H
  have A4 := Aside0.mk A40
  clear A40
  replace H := Option.bind_eq_some_iff.mp H
  obtain ⟨⟨t790, t791⟩, A50, H⟩ := H
  replace H : ((cantingref07_Energy.f k a0_0 a0_1 l0_2 l0_3 l0_4 l0_5 a1 l2).bind fun bt792 => ((cantinglaw07_cloth.f a0_0 a0_1 l0_2 l0_3 l0_4 l0_5).bind fun bt794 => ((wax_Labels.f bt794.1 bt794.2.1 bt794.2.2.1 bt794.2.2.2.1 bt794.2.2.2.2.1 bt794.2.2.2.2.2 a1).bind fun bt808 => ((cantingref07_Labels.f k a0_0 a0_1 l0_2 l0_3 l0_4 l0_5 a1).bind fun bt815 => (if t790 = bt792.1 then (if t791 = bt792.2 then ((slices_Equal_bool_bool.f k bt808.1 bt815.1).bind fun t822 => (if t822 = true then ((slices_Equal_bool_bool.f k bt808.2.1 bt815.2.1).bind fun t823 => (if t823 = true then (if bt808.2.2 = bt815.2.2 then ((cantinglaw07_awake.f).bind fun t824 => (some t824)) else (some false)) else (some false))) else (some false))) else (some false)) else (some false)))))) = some true := H
  have A5 := Aside0.mk A50
  clear A50
  replace H := Option.bind_eq_some_iff.mp H
  obtain ⟨⟨t792, t793⟩, A60, H⟩ := H
  replace H : ((cantinglaw07_cloth.f a0_0 a0_1 l0_2 l0_3 l0_4 l0_5).bind fun bt794 => ((wax_Labels.f bt794.1 bt794.2.1 bt794.2.2.1 bt794.2.2.2.1 bt794.2.2.2.2.1 bt794.2.2.2.2.2 a1).bind fun bt808 => ((cantingref07_Labels.f k a0_0 a0_1 l0_2 l0_3 l0_4 l0_5 a1).bind fun bt815 => (if t790 = t792 then (if t791 = t793 then ((slices_Equal_bool_bool.f k bt808.1 bt815.1).bind fun t822 => (if t822 = true then ((slices_Equal_bool_bool.f k bt808.2.1 bt815.2.1).bind fun t823 => (if t823 = true then (if bt808.2.2 = bt815.2.2 then ((cantinglaw07_awake.f).bind fun t824 => (some t824)) else (some false)) else (some false))) else (some false))) else (some false)) else (some false))))) = some true := H
  have A6 := Aside0.mk A60
  clear A60
  replace H := Option.bind_eq_some_iff.mp H
  obtain ⟨⟨t794, t795, t796, t799, t802, t805⟩, A70, H⟩ := H
  replace H : ((wax_Labels.f t794 t795 t796 t799 t802 t805 a1).bind fun bt808 => ((cantingref07_Labels.f k a0_0 a0_1 l0_2 l0_3 l0_4 l0_5 a1).bind fun bt815 => (if t790 = t792 then (if t791 = t793 then ((slices_Equal_bool_bool.f k bt808.1 bt815.1).bind fun t822 => (if t822 = true then ((slices_Equal_bool_bool.f k bt808.2.1 bt815.2.1).bind fun t823 => (if t823 = true then (if bt808.2.2 = bt815.2.2 then ((cantinglaw07_awake.f).bind fun t824 => (some t824)) else (some false)) else (some false))) else (some false))) else (some false)) else (some false)))) = some true := H
  have A7 := Aside0.mk A70
  clear A70
  replace H := Option.bind_eq_some_iff.mp H
  obtain ⟨⟨t808, t811, t814⟩, A80, H⟩ := H
  replace H : ((cantingref07_Labels.f k a0_0 a0_1 l0_2 l0_3 l0_4 l0_5 a1).bind fun bt815 => (if t790 = t792 then (if t791 = t793 then ((slices_Equal_bool_bool.f k t808 bt815.1).bind fun t822 => (if t822 = true then ((slices_Equal_bool_bool.f k t811 bt815.2.1).bind fun t823 => (if t823 = true then (if t814 = bt815.2.2 then ((cantinglaw07_awake.f).bind fun t824 => (some t824)) else (some false)) else (some false))) else (some false))) else (some false)) else (some false))) = some true := H
  have A8 := Aside0.mk A80
  clear A80
  replace H := Option.bind_eq_some_iff.mp H
  obtain ⟨⟨t815, t818, t821⟩, A90, H⟩ := H
  replace H : (if t790 = t792 then (if t791 = t793 then ((slices_Equal_bool_bool.f k t808 t815).bind fun t822 => (if t822 = true then ((slices_Equal_bool_bool.f k t811 t818).bind fun t823 => (if t823 = true then (if t814 = t821 then ((cantinglaw07_awake.f).bind fun t824 => (some t824)) else (some false)) else (some false))) else (some false))) else (some false)) else (some false)) = some true := H
  have A9 := Aside0.mk A90
  clear A90
  by_cases c10 : t790 = t792
  · rw [if_pos c10] at H
    have c10b0 : (t790 == t792) = true := beq_iff_eq.mpr c10
    have c10b1 : (t790 != t792) = false := bne_eq_false_iff_eq.mpr c10
    clear c10
    by_cases c11 : t791 = t793
    · rw [if_pos c11] at H
      have c11b0 : (t791 == t793) = true := beq_iff_eq.mpr c11
      have c11b1 : (t791 != t793) = false := bne_eq_false_iff_eq.mpr c11
      clear c11
      replace H := Option.bind_eq_some_iff.mp H
      obtain ⟨t822, A120, H⟩ := H
      replace H : (if t822 = true then ((slices_Equal_bool_bool.f k t811 t818).bind fun t823 => (if t823 = true then (if t814 = t821 then ((cantinglaw07_awake.f).bind fun t824 => (some t824)) else (some false)) else (some false))) else (some false)) = some true := H
      have A12 := Aside0.mk A120
      clear A120
      by_cases c13 : t822 = true
      · subst c13
        have H1 : ((slices_Equal_bool_bool.f k t811 t818).bind fun t823 => (if t823 = true then (if t814 = t821 then ((cantinglaw07_awake.f).bind fun t824 => (some t824)) else (some false)) else (some false))) = some true := by rw [if_pos rfl] at H; exact H
        clear H
        have H := H1
        clear H1
        replace H := Option.bind_eq_some_iff.mp H
        obtain ⟨t823, A140, H⟩ := H
        replace H : (if t823 = true then (if t814 = t821 then ((cantinglaw07_awake.f).bind fun t824 => (some t824)) else (some false)) else (some false)) = some true := H
        have A14 := Aside0.mk A140
        clear A140
        by_cases c15 : t823 = true
        · subst c15
          have H1 : (if t814 = t821 then ((cantinglaw07_awake.f).bind fun t824 => (some t824)) else (some false)) = some true := by rw [if_pos rfl] at H; exact H
          clear H
          have H := H1
          clear H1
          by_cases c16 : t814 = t821
          · rw [if_pos c16] at H
            have c16b0 : (t814 == t821) = true := beq_iff_eq.mpr c16
            have c16b1 : (t814 != t821) = false := bne_eq_false_iff_eq.mpr c16
            clear c16
            replace H := Option.bind_eq_some_iff.mp H
            obtain ⟨t824, A170, H⟩ := H
            replace H : (some t824) = some true := H
            have A17 := Aside0.mk A170
            clear A170
            obtain rfl := Option.some.inj H
            go_enter Try.func13, Try.ntmps13
            go_wp2_with (first | ((with_reducible refine gate_dst (N := 3) rfl ?_); refine box_event ?hg (N := 3) ?hd (cs := #[.int .i64 a0_0, .int .i64 a0_1, .slice A0_2 l0_2.length c0_2, .slice A0_3 l0_3.length c0_3, .slice A0_4 l0_4.length c0_4, .slice A0_5 l0_5.length c0_5]) (t := 61) ?hr ?_; (case hd => rfl); (case hg => rfl); (case hr => first | (go_simp; done) | (go_simp; rfl)); intro gb775 hg w18 hbox hb; have n0_ := Aside0.mk (below_step (by repeat (first | (with_reducible first | exact HB.out | apply below_alloc | apply pw_below_drewN | apply below_drew1) | exact HB.out)) hb); have n1_ := Aside0.mk (hbox); have n2_ := Aside0.mk ((by rw [hg]; exact (below_size (by repeat (first | (with_reducible first | exact HB.out | apply below_alloc | apply pw_below_drewN | apply below_drew1) | exact HB.out))) : w.heap.size ≤ gb775)); have n3_ := Aside0.mk ((by rw [hg]; exact (below_size (by repeat (first | (with_reducible first | exact HB.out | apply below_alloc | apply pw_below_drewN | apply below_drew1) | exact HB.out))) : w.heap.size ≤ gb775)); clear HB; have HB := n0_; have BK775 := n1_; have GW775 := n2_; have GE775 := n3_; clear n0_ n1_ n2_ n3_; clear hb hbox hg; have hcz19_0 : w18.cell? ⟨gb775, 0, none⟩ = some (.int .i64 a0_0) := (blk_cell BK775.out 0).trans rfl; have hcz19_1 : w18.cell? ⟨gb775, 1, none⟩ = some (.int .i64 a0_1) := (blk_cell BK775.out 1).trans rfl; have hcz19_2 : w18.cell? ⟨gb775, 2, none⟩ = some (.slice A0_2 l0_2.length c0_2) := (blk_cell BK775.out 2).trans rfl; have hcz19_3 : w18.cell? ⟨gb775, 3, none⟩ = some (.slice A0_3 l0_3.length c0_3) := (blk_cell BK775.out 3).trans rfl; have hcz19_4 : w18.cell? ⟨gb775, 4, none⟩ = some (.slice A0_4 l0_4.length c0_4) := (blk_cell BK775.out 4).trans rfl; have hcz19_5 : w18.cell? ⟨gb775, 5, none⟩ = some (.slice A0_5 l0_5.length c0_5) := (blk_cell BK775.out 5).trans rfl; have hfz19_0 := blk_frozen BK775.out 0; have hfz19_1 := blk_frozen BK775.out 1; have hfz19_2 := blk_frozen BK775.out 2; have hfz19_3 := blk_frozen BK775.out 3; have hfz19_4 := blk_frozen BK775.out 4; have hfz19_5 := blk_frozen BK775.out 5) | ((with_reducible refine gate_callee (f := 32) rfl ?_); refine goesL_ (some 19) rfl rfl Try.func32 (by kernel_rfl) rfl #[.agg #[.int .i64 a0_0, .int .i64 a0_1, .slice A0_2 l0_2.length c0_2, .slice A0_3 l0_3.length c0_3, .slice A0_4 l0_4.length c0_4, .slice A0_5 l0_5.length c0_5]] rfl (by (try simp only [List.map_toArray, List.map_cons, List.map_nil]); first | done | rfl | (simp only [List.length_drop, List.length_take]; rfl)) ?_; (with_reducible refine (cantinglaw07_cloth.calls a0_0 a0_1 _ _ l0_2 _ _ l0_3 _ _ l0_4 _ _ l0_5 t776 t777 t778 t781 t784 t787 _ ?side1 ?side2 ?side3 ?side4 ?side5 ?side6 ?side7 ?side8 A4.out).mono ?_); (case side1 => repeat (first | exact (Kd.C_below HR0_2.out HB.out) | (with_reducible refine Kd.C_alloc ?_ _) | (with_reducible refine Kd.C_drewN ?_ _) | (with_reducible refine Kd.C_drew ?_))); (case side2 => exact HC0_2.out); (case side3 => repeat (first | exact (Kd.C_below HR0_3.out HB.out) | (with_reducible refine Kd.C_alloc ?_ _) | (with_reducible refine Kd.C_drewN ?_ _) | (with_reducible refine Kd.C_drew ?_))); (case side4 => exact HC0_3.out); (case side5 => repeat (first | exact (Kd.C_below HR0_4.out HB.out) | (with_reducible refine Kd.C_alloc ?_ _) | (with_reducible refine Kd.C_drewN ?_ _) | (with_reducible refine Kd.C_drew ?_))); (case side6 => exact HC0_4.out); (case side7 => repeat (first | exact (Kd.C_below HR0_5.out HB.out) | (with_reducible refine Kd.C_alloc ?_ _) | (with_reducible refine Kd.C_drewN ?_ _) | (with_reducible refine Kd.C_drew ?_))); (case side8 => exact HC0_5.out); rintro e w20 ⟨v779, v782, v785, v788, rfl, ho0, ho1, ho2, ho3, hb⟩; refine ⟨_, rfl, ?_⟩; have n0_ := Aside0.mk (Kd.R_lower ho0 (below_size (by repeat (first | (with_reducible first | exact HB.out | apply below_alloc | apply pw_below_drewN | apply below_drew1 | refine below_set ?_ GE775.out) | exact HB.out)))); have n1_ := Aside0.mk (Kd.R_lower ho1 (below_size (by repeat (first | (with_reducible first | exact HB.out | apply below_alloc | apply pw_below_drewN | apply below_drew1 | refine below_set ?_ GE775.out) | exact HB.out)))); have n2_ := Aside0.mk (Kd.R_lower ho2 (below_size (by repeat (first | (with_reducible first | exact HB.out | apply below_alloc | apply pw_below_drewN | apply below_drew1 | refine below_set ?_ GE775.out) | exact HB.out)))); have n3_ := Aside0.mk (Kd.R_lower ho3 (below_size (by repeat (first | (with_reducible first | exact HB.out | apply below_alloc | apply pw_below_drewN | apply below_drew1 | refine below_set ?_ GE775.out) | exact HB.out)))); have n4_ := Aside0.mk (blk_below (g := gb775) (o := .cells #[.int .i64 a0_0, .int .i64 a0_1, .slice A0_2 l0_2.length c0_2, .slice A0_3 l0_3.length c0_3, .slice A0_4 l0_4.length c0_4, .slice A0_5 l0_5.length c0_5] 61 (0, 0)) (by (with_reducible repeat (first | refine blk_drewN ?_ _ | refine blk_drew ?_ | refine blk_alloc ?_ _)); exact BK775.out) hb); have n5_ := Aside0.mk (below_step (by repeat (first | (with_reducible first | exact HB.out | apply below_alloc | apply pw_below_drewN | apply below_drew1 | refine below_set ?_ GE775.out) | exact HB.out)) hb); clear BK775; clear HB; have HO780 := n0_; have HO783 := n1_; have HO786 := n2_; have HO789 := n3_; have BK775 := n4_; have HB := n5_; clear n0_ n1_ n2_ n3_ n4_ n5_; (try clear hb); (try clear hb2); (try clear hk); (try clear hi); (try clear ho0); (try clear ho1); (try clear ho2); (try clear ho3); obtain ⟨Ao21, co21, eo21⟩ := Kd.R_slice HO780.out; subst eo21; obtain ⟨Ao22, co22, eo22⟩ := Kd.R_slice HO783.out; subst eo22; obtain ⟨Ao23, co23, eo23⟩ := Kd.R_slice HO786.out; subst eo23; obtain ⟨Ao24, co24, eo24⟩ := Kd.R_slice HO789.out; subst eo24) | ((with_reducible refine gate_callee (f := 31) rfl ?_); refine goesL_ (some 22) rfl rfl Try.func31 (by kernel_rfl) rfl #[.agg #[.int .i64 t776, .int .i64 t777, .slice Ao21 t778.length co21, .slice Ao22 t781.length co22, .slice Ao23 t784.length co23, .slice Ao24 t787.length co24], .int .i64 a1, .slice A2 l2.length c2] rfl (by (try simp only [List.map_toArray, List.map_cons, List.map_nil]); first | done | rfl | (simp only [List.length_drop, List.length_take]; rfl)) ?_; (with_reducible refine (wax_Energy.calls k t776 t777 _ _ t778 _ _ t781 _ _ t784 _ _ t787 a1 _ _ l2 t790 t791 _ ?side1 ?side2 ?side3 ?side4 ?side5 ?side6 ?side7 ?side8 ?side9 ?side10 A5.out).mono ?_); (case side1 => repeat (first | exact (Kd.R_reads' HO780.out).2.2 | (with_reducible refine Kd.C_alloc ?_ _) | (with_reducible refine Kd.C_drewN ?_ _) | (with_reducible refine Kd.C_drew ?_))); (case side2 => exact (Kd.R_reads' HO780.out).2.1); (case side3 => repeat (first | exact (Kd.R_reads' HO783.out).2.2 | (with_reducible refine Kd.C_alloc ?_ _) | (with_reducible refine Kd.C_drewN ?_ _) | (with_reducible refine Kd.C_drew ?_))); (case side4 => exact (Kd.R_reads' HO783.out).2.1); (case side5 => repeat (first | exact (Kd.R_reads' HO786.out).2.2 | (with_reducible refine Kd.C_alloc ?_ _) | (with_reducible refine Kd.C_drewN ?_ _) | (with_reducible refine Kd.C_drew ?_))); (case side6 => exact (Kd.R_reads' HO786.out).2.1); (case side7 => repeat (first | exact (Kd.R_reads' HO789.out).2.2 | (with_reducible refine Kd.C_alloc ?_ _) | (with_reducible refine Kd.C_drewN ?_ _) | (with_reducible refine Kd.C_drew ?_))); (case side8 => exact (Kd.R_reads' HO789.out).2.1); (case side9 => repeat (first | exact (Kd.C_below HR2.out HB.out) | (with_reducible refine Kd.C_alloc ?_ _) | (with_reducible refine Kd.C_drewN ?_ _) | (with_reducible refine Kd.C_drew ?_))); (case side10 => exact HC2.out); rintro e w25 ⟨rfl, hb⟩; refine ⟨_, rfl, ?_⟩; have n0_ := Aside0.mk (Kd.R_below (by (with_reducible repeat (first | apply Kd.R_alloc | apply Kd.R_drewN | apply Kd.R_drew)); exact HO780.out) hb); have n1_ := Aside0.mk (Kd.R_below (by (with_reducible repeat (first | apply Kd.R_alloc | apply Kd.R_drewN | apply Kd.R_drew)); exact HO783.out) hb); have n2_ := Aside0.mk (Kd.R_below (by (with_reducible repeat (first | apply Kd.R_alloc | apply Kd.R_drewN | apply Kd.R_drew)); exact HO786.out) hb); have n3_ := Aside0.mk (Kd.R_below (by (with_reducible repeat (first | apply Kd.R_alloc | apply Kd.R_drewN | apply Kd.R_drew)); exact HO789.out) hb); have n4_ := Aside0.mk (blk_below (g := gb775) (o := .cells #[.int .i64 a0_0, .int .i64 a0_1, .slice A0_2 l0_2.length c0_2, .slice A0_3 l0_3.length c0_3, .slice A0_4 l0_4.length c0_4, .slice A0_5 l0_5.length c0_5] 61 (0, 0)) (by (with_reducible repeat (first | refine blk_drewN ?_ _ | refine blk_drew ?_ | refine blk_alloc ?_ _)); exact BK775.out) hb); have n5_ := Aside0.mk (below_step (by repeat (first | (with_reducible first | exact HB.out | apply below_alloc | apply pw_below_drewN | apply below_drew1 | refine below_set ?_ GE775.out) | exact HB.out)) hb); clear HO780; clear HO783; clear HO786; clear HO789; clear BK775; clear HB; have HO780 := n0_; have HO783 := n1_; have HO786 := n2_; have HO789 := n3_; have BK775 := n4_; have HB := n5_; clear n0_ n1_ n2_ n3_ n4_ n5_; (try clear hb); (try clear hb2); (try clear hk); (try clear hi); have hcz26_0 : w25.cell? ⟨gb775, 0, none⟩ = some (.int .i64 a0_0) := (blk_cell BK775.out 0).trans rfl; have hcz26_1 : w25.cell? ⟨gb775, 1, none⟩ = some (.int .i64 a0_1) := (blk_cell BK775.out 1).trans rfl; have hcz26_2 : w25.cell? ⟨gb775, 2, none⟩ = some (.slice A0_2 l0_2.length c0_2) := (blk_cell BK775.out 2).trans rfl; have hcz26_3 : w25.cell? ⟨gb775, 3, none⟩ = some (.slice A0_3 l0_3.length c0_3) := (blk_cell BK775.out 3).trans rfl; have hcz26_4 : w25.cell? ⟨gb775, 4, none⟩ = some (.slice A0_4 l0_4.length c0_4) := (blk_cell BK775.out 4).trans rfl; have hcz26_5 : w25.cell? ⟨gb775, 5, none⟩ = some (.slice A0_5 l0_5.length c0_5) := (blk_cell BK775.out 5).trans rfl; have hfz26_0 := blk_frozen BK775.out 0; have hfz26_1 := blk_frozen BK775.out 1; have hfz26_2 := blk_frozen BK775.out 2; have hfz26_3 := blk_frozen BK775.out 3; have hfz26_4 := blk_frozen BK775.out 4; have hfz26_5 := blk_frozen BK775.out 5) | ((with_reducible refine gate_callee (f := 42) rfl ?_); refine goesL_ (some 29) rfl rfl Try.func42 (by kernel_rfl) rfl #[.agg #[.int .i64 a0_0, .int .i64 a0_1, .slice A0_2 l0_2.length c0_2, .slice A0_3 l0_3.length c0_3, .slice A0_4 l0_4.length c0_4, .slice A0_5 l0_5.length c0_5], .int .i64 a1, .slice A2 l2.length c2] rfl (by (try simp only [List.map_toArray, List.map_cons, List.map_nil]); first | done | rfl | (simp only [List.length_drop, List.length_take]; rfl)) ?_; (with_reducible refine (cantingref07_Energy.calls k a0_0 a0_1 _ _ l0_2 _ _ l0_3 _ _ l0_4 _ _ l0_5 a1 _ _ l2 t792 t793 _ ?side1 ?side2 ?side3 ?side4 ?side5 ?side6 ?side7 ?side8 ?side9 ?side10 A6.out).mono ?_); (case side1 => repeat (first | exact (Kd.C_below HR0_2.out HB.out) | (with_reducible refine Kd.C_alloc ?_ _) | (with_reducible refine Kd.C_drewN ?_ _) | (with_reducible refine Kd.C_drew ?_))); (case side2 => exact HC0_2.out); (case side3 => repeat (first | exact (Kd.C_below HR0_3.out HB.out) | (with_reducible refine Kd.C_alloc ?_ _) | (with_reducible refine Kd.C_drewN ?_ _) | (with_reducible refine Kd.C_drew ?_))); (case side4 => exact HC0_3.out); (case side5 => repeat (first | exact (Kd.C_below HR0_4.out HB.out) | (with_reducible refine Kd.C_alloc ?_ _) | (with_reducible refine Kd.C_drewN ?_ _) | (with_reducible refine Kd.C_drew ?_))); (case side6 => exact HC0_4.out); (case side7 => repeat (first | exact (Kd.C_below HR0_5.out HB.out) | (with_reducible refine Kd.C_alloc ?_ _) | (with_reducible refine Kd.C_drewN ?_ _) | (with_reducible refine Kd.C_drew ?_))); (case side8 => exact HC0_5.out); (case side9 => repeat (first | exact (Kd.C_below HR2.out HB.out) | (with_reducible refine Kd.C_alloc ?_ _) | (with_reducible refine Kd.C_drewN ?_ _) | (with_reducible refine Kd.C_drew ?_))); (case side10 => exact HC2.out); rintro e w27 ⟨rfl, hb⟩; refine ⟨_, rfl, ?_⟩; have n0_ := Aside0.mk (Kd.R_below (by (with_reducible repeat (first | apply Kd.R_alloc | apply Kd.R_drewN | apply Kd.R_drew)); exact HO780.out) hb); have n1_ := Aside0.mk (Kd.R_below (by (with_reducible repeat (first | apply Kd.R_alloc | apply Kd.R_drewN | apply Kd.R_drew)); exact HO783.out) hb); have n2_ := Aside0.mk (Kd.R_below (by (with_reducible repeat (first | apply Kd.R_alloc | apply Kd.R_drewN | apply Kd.R_drew)); exact HO786.out) hb); have n3_ := Aside0.mk (Kd.R_below (by (with_reducible repeat (first | apply Kd.R_alloc | apply Kd.R_drewN | apply Kd.R_drew)); exact HO789.out) hb); have n4_ := Aside0.mk (blk_below (g := gb775) (o := .cells #[.int .i64 a0_0, .int .i64 a0_1, .slice A0_2 l0_2.length c0_2, .slice A0_3 l0_3.length c0_3, .slice A0_4 l0_4.length c0_4, .slice A0_5 l0_5.length c0_5] 61 (0, 0)) (by (with_reducible repeat (first | refine blk_drewN ?_ _ | refine blk_drew ?_ | refine blk_alloc ?_ _)); exact BK775.out) hb); have n5_ := Aside0.mk (below_step (by repeat (first | (with_reducible first | exact HB.out | apply below_alloc | apply pw_below_drewN | apply below_drew1 | refine below_set ?_ GE775.out) | exact HB.out)) hb); clear HO780; clear HO783; clear HO786; clear HO789; clear BK775; clear HB; have HO780 := n0_; have HO783 := n1_; have HO786 := n2_; have HO789 := n3_; have BK775 := n4_; have HB := n5_; clear n0_ n1_ n2_ n3_ n4_ n5_; (try clear hb); (try clear hb2); (try clear hk); (try clear hi); have hcz28_0 : w27.cell? ⟨gb775, 0, none⟩ = some (.int .i64 a0_0) := (blk_cell BK775.out 0).trans rfl; have hcz28_1 : w27.cell? ⟨gb775, 1, none⟩ = some (.int .i64 a0_1) := (blk_cell BK775.out 1).trans rfl; have hcz28_2 : w27.cell? ⟨gb775, 2, none⟩ = some (.slice A0_2 l0_2.length c0_2) := (blk_cell BK775.out 2).trans rfl; have hcz28_3 : w27.cell? ⟨gb775, 3, none⟩ = some (.slice A0_3 l0_3.length c0_3) := (blk_cell BK775.out 3).trans rfl; have hcz28_4 : w27.cell? ⟨gb775, 4, none⟩ = some (.slice A0_4 l0_4.length c0_4) := (blk_cell BK775.out 4).trans rfl; have hcz28_5 : w27.cell? ⟨gb775, 5, none⟩ = some (.slice A0_5 l0_5.length c0_5) := (blk_cell BK775.out 5).trans rfl; have hfz28_0 := blk_frozen BK775.out 0; have hfz28_1 := blk_frozen BK775.out 1; have hfz28_2 := blk_frozen BK775.out 2; have hfz28_3 := blk_frozen BK775.out 3; have hfz28_4 := blk_frozen BK775.out 4; have hfz28_5 := blk_frozen BK775.out 5) | ((with_reducible refine gate_callee (f := 32) rfl ?_); refine goesL_ (some 34) rfl rfl Try.func32 (by kernel_rfl) rfl #[.agg #[.int .i64 a0_0, .int .i64 a0_1, .slice A0_2 l0_2.length c0_2, .slice A0_3 l0_3.length c0_3, .slice A0_4 l0_4.length c0_4, .slice A0_5 l0_5.length c0_5]] rfl (by (try simp only [List.map_toArray, List.map_cons, List.map_nil]); first | done | rfl | (simp only [List.length_drop, List.length_take]; rfl)) ?_; (with_reducible refine (cantinglaw07_cloth.calls a0_0 a0_1 _ _ l0_2 _ _ l0_3 _ _ l0_4 _ _ l0_5 t794 t795 t796 t799 t802 t805 _ ?side1 ?side2 ?side3 ?side4 ?side5 ?side6 ?side7 ?side8 A7.out).mono ?_); (case side1 => repeat (first | exact (Kd.C_below HR0_2.out HB.out) | (with_reducible refine Kd.C_alloc ?_ _) | (with_reducible refine Kd.C_drewN ?_ _) | (with_reducible refine Kd.C_drew ?_))); (case side2 => exact HC0_2.out); (case side3 => repeat (first | exact (Kd.C_below HR0_3.out HB.out) | (with_reducible refine Kd.C_alloc ?_ _) | (with_reducible refine Kd.C_drewN ?_ _) | (with_reducible refine Kd.C_drew ?_))); (case side4 => exact HC0_3.out); (case side5 => repeat (first | exact (Kd.C_below HR0_4.out HB.out) | (with_reducible refine Kd.C_alloc ?_ _) | (with_reducible refine Kd.C_drewN ?_ _) | (with_reducible refine Kd.C_drew ?_))); (case side6 => exact HC0_4.out); (case side7 => repeat (first | exact (Kd.C_below HR0_5.out HB.out) | (with_reducible refine Kd.C_alloc ?_ _) | (with_reducible refine Kd.C_drewN ?_ _) | (with_reducible refine Kd.C_drew ?_))); (case side8 => exact HC0_5.out); rintro e w29 ⟨v797, v800, v803, v806, rfl, ho0, ho1, ho2, ho3, hb⟩; refine ⟨_, rfl, ?_⟩; have n0_ := Aside0.mk (Kd.R_mono (Kd.R_told (Kd.R_told (Kd.R_told (Kd.R_told (Kd.R_old (by (with_reducible repeat (first | apply Kd.R_alloc | apply Kd.R_drewN | apply Kd.R_drew)); exact HO780.out) hb) (Kd.R_base ho0)) (Kd.R_base ho1)) (Kd.R_base ho2)) (Kd.R_base ho3)) (fun _ h_ => h_.1)); have n1_ := Aside0.mk (Kd.R_mono (Kd.R_told (Kd.R_told (Kd.R_told (Kd.R_told (Kd.R_old (by (with_reducible repeat (first | apply Kd.R_alloc | apply Kd.R_drewN | apply Kd.R_drew)); exact HO783.out) hb) (Kd.R_base ho0)) (Kd.R_base ho1)) (Kd.R_base ho2)) (Kd.R_base ho3)) (fun _ h_ => h_.1)); have n2_ := Aside0.mk (Kd.R_mono (Kd.R_told (Kd.R_told (Kd.R_told (Kd.R_told (Kd.R_old (by (with_reducible repeat (first | apply Kd.R_alloc | apply Kd.R_drewN | apply Kd.R_drew)); exact HO786.out) hb) (Kd.R_base ho0)) (Kd.R_base ho1)) (Kd.R_base ho2)) (Kd.R_base ho3)) (fun _ h_ => h_.1)); have n3_ := Aside0.mk (Kd.R_mono (Kd.R_told (Kd.R_told (Kd.R_told (Kd.R_told (Kd.R_old (by (with_reducible repeat (first | apply Kd.R_alloc | apply Kd.R_drewN | apply Kd.R_drew)); exact HO789.out) hb) (Kd.R_base ho0)) (Kd.R_base ho1)) (Kd.R_base ho2)) (Kd.R_base ho3)) (fun _ h_ => h_.1)); have n4_ := Aside0.mk (Kd.R_lower (Kd.R_new' (Kd.R_new' (Kd.R_new' (Kd.R_new' ho0 (Kd.R_lt (by (with_reducible repeat (first | apply Kd.R_alloc | apply Kd.R_drewN | apply Kd.R_drew)); exact HO780.out))) (Kd.R_lt (by (with_reducible repeat (first | apply Kd.R_alloc | apply Kd.R_drewN | apply Kd.R_drew)); exact HO783.out))) (Kd.R_lt (by (with_reducible repeat (first | apply Kd.R_alloc | apply Kd.R_drewN | apply Kd.R_drew)); exact HO786.out))) (Kd.R_lt (by (with_reducible repeat (first | apply Kd.R_alloc | apply Kd.R_drewN | apply Kd.R_drew)); exact HO789.out))) (below_size (by repeat (first | (with_reducible first | exact HB.out | apply below_alloc | apply pw_below_drewN | apply below_drew1 | refine below_set ?_ GE775.out) | exact HB.out)))); have n5_ := Aside0.mk (Kd.R_lower (Kd.R_new' (Kd.R_new' (Kd.R_new' (Kd.R_new' ho1 (Kd.R_lt (by (with_reducible repeat (first | apply Kd.R_alloc | apply Kd.R_drewN | apply Kd.R_drew)); exact HO780.out))) (Kd.R_lt (by (with_reducible repeat (first | apply Kd.R_alloc | apply Kd.R_drewN | apply Kd.R_drew)); exact HO783.out))) (Kd.R_lt (by (with_reducible repeat (first | apply Kd.R_alloc | apply Kd.R_drewN | apply Kd.R_drew)); exact HO786.out))) (Kd.R_lt (by (with_reducible repeat (first | apply Kd.R_alloc | apply Kd.R_drewN | apply Kd.R_drew)); exact HO789.out))) (below_size (by repeat (first | (with_reducible first | exact HB.out | apply below_alloc | apply pw_below_drewN | apply below_drew1 | refine below_set ?_ GE775.out) | exact HB.out)))); have n6_ := Aside0.mk (Kd.R_lower (Kd.R_new' (Kd.R_new' (Kd.R_new' (Kd.R_new' ho2 (Kd.R_lt (by (with_reducible repeat (first | apply Kd.R_alloc | apply Kd.R_drewN | apply Kd.R_drew)); exact HO780.out))) (Kd.R_lt (by (with_reducible repeat (first | apply Kd.R_alloc | apply Kd.R_drewN | apply Kd.R_drew)); exact HO783.out))) (Kd.R_lt (by (with_reducible repeat (first | apply Kd.R_alloc | apply Kd.R_drewN | apply Kd.R_drew)); exact HO786.out))) (Kd.R_lt (by (with_reducible repeat (first | apply Kd.R_alloc | apply Kd.R_drewN | apply Kd.R_drew)); exact HO789.out))) (below_size (by repeat (first | (with_reducible first | exact HB.out | apply below_alloc | apply pw_below_drewN | apply below_drew1 | refine below_set ?_ GE775.out) | exact HB.out)))); have n7_ := Aside0.mk (Kd.R_lower (Kd.R_new' (Kd.R_new' (Kd.R_new' (Kd.R_new' ho3 (Kd.R_lt (by (with_reducible repeat (first | apply Kd.R_alloc | apply Kd.R_drewN | apply Kd.R_drew)); exact HO780.out))) (Kd.R_lt (by (with_reducible repeat (first | apply Kd.R_alloc | apply Kd.R_drewN | apply Kd.R_drew)); exact HO783.out))) (Kd.R_lt (by (with_reducible repeat (first | apply Kd.R_alloc | apply Kd.R_drewN | apply Kd.R_drew)); exact HO786.out))) (Kd.R_lt (by (with_reducible repeat (first | apply Kd.R_alloc | apply Kd.R_drewN | apply Kd.R_drew)); exact HO789.out))) (below_size (by repeat (first | (with_reducible first | exact HB.out | apply below_alloc | apply pw_below_drewN | apply below_drew1 | refine below_set ?_ GE775.out) | exact HB.out)))); have n8_ := Aside0.mk (blk_below (g := gb775) (o := .cells #[.int .i64 a0_0, .int .i64 a0_1, .slice A0_2 l0_2.length c0_2, .slice A0_3 l0_3.length c0_3, .slice A0_4 l0_4.length c0_4, .slice A0_5 l0_5.length c0_5] 61 (0, 0)) (by (with_reducible repeat (first | refine blk_drewN ?_ _ | refine blk_drew ?_ | refine blk_alloc ?_ _)); exact BK775.out) hb); have n9_ := Aside0.mk (below_step (by repeat (first | (with_reducible first | exact HB.out | apply below_alloc | apply pw_below_drewN | apply below_drew1 | refine below_set ?_ GE775.out) | exact HB.out)) hb); clear HO780; clear HO783; clear HO786; clear HO789; clear BK775; clear HB; have HO780 := n0_; have HO783 := n1_; have HO786 := n2_; have HO789 := n3_; have HO798 := n4_; have HO801 := n5_; have HO804 := n6_; have HO807 := n7_; have BK775 := n8_; have HB := n9_; clear n0_ n1_ n2_ n3_ n4_ n5_ n6_ n7_ n8_ n9_; (try clear hb); (try clear hb2); (try clear hk); (try clear hi); (try clear ho0); (try clear ho1); (try clear ho2); (try clear ho3); obtain ⟨Ao30, co30, eo30⟩ := Kd.R_slice HO798.out; subst eo30; obtain ⟨Ao31, co31, eo31⟩ := Kd.R_slice HO801.out; subst eo31; obtain ⟨Ao32, co32, eo32⟩ := Kd.R_slice HO804.out; subst eo32; obtain ⟨Ao33, co33, eo33⟩ := Kd.R_slice HO807.out; subst eo33) | ((with_reducible refine gate_callee (f := 41) rfl ?_); refine goesL_ (some 36) rfl rfl Try.func41 (by kernel_rfl) rfl #[.agg #[.int .i64 t794, .int .i64 t795, .slice Ao30 t796.length co30, .slice Ao31 t799.length co31, .slice Ao32 t802.length co32, .slice Ao33 t805.length co33], .int .i64 a1] rfl (by (try simp only [List.map_toArray, List.map_cons, List.map_nil]); first | done | rfl | (simp only [List.length_drop, List.length_take]; rfl)) ?_; (with_reducible refine (wax_Labels.calls t794 t795 _ _ t796 _ _ t799 _ _ t802 _ _ t805 a1 t808 t811 t814 _ ?side1 ?side2 ?side3 ?side4 ?side5 ?side6 ?side7 ?side8 A8.out).mono ?_); (case side1 => repeat (first | exact (Kd.R_reads' HO798.out).2.2 | (with_reducible refine Kd.C_alloc ?_ _) | (with_reducible refine Kd.C_drewN ?_ _) | (with_reducible refine Kd.C_drew ?_))); (case side2 => exact (Kd.R_reads' HO798.out).2.1); (case side3 => repeat (first | exact (Kd.R_reads' HO801.out).2.2 | (with_reducible refine Kd.C_alloc ?_ _) | (with_reducible refine Kd.C_drewN ?_ _) | (with_reducible refine Kd.C_drew ?_))); (case side4 => exact (Kd.R_reads' HO801.out).2.1); (case side5 => repeat (first | exact (Kd.R_reads' HO804.out).2.2 | (with_reducible refine Kd.C_alloc ?_ _) | (with_reducible refine Kd.C_drewN ?_ _) | (with_reducible refine Kd.C_drew ?_))); (case side6 => exact (Kd.R_reads' HO804.out).2.1); (case side7 => repeat (first | exact (Kd.R_reads' HO807.out).2.2 | (with_reducible refine Kd.C_alloc ?_ _) | (with_reducible refine Kd.C_drewN ?_ _) | (with_reducible refine Kd.C_drew ?_))); (case side8 => exact (Kd.R_reads' HO807.out).2.1); rintro e w34 ⟨v809, v812, rfl, ho0, ho1, hb⟩; refine ⟨_, rfl, ?_⟩; have n0_ := Aside0.mk (Kd.R_below (by (with_reducible repeat (first | apply Kd.R_alloc | apply Kd.R_drewN | apply Kd.R_drew)); exact HO780.out) hb); have n1_ := Aside0.mk (Kd.R_below (by (with_reducible repeat (first | apply Kd.R_alloc | apply Kd.R_drewN | apply Kd.R_drew)); exact HO783.out) hb); have n2_ := Aside0.mk (Kd.R_below (by (with_reducible repeat (first | apply Kd.R_alloc | apply Kd.R_drewN | apply Kd.R_drew)); exact HO786.out) hb); have n3_ := Aside0.mk (Kd.R_below (by (with_reducible repeat (first | apply Kd.R_alloc | apply Kd.R_drewN | apply Kd.R_drew)); exact HO789.out) hb); have n4_ := Aside0.mk (Kd.R_below (by (with_reducible repeat (first | apply Kd.R_alloc | apply Kd.R_drewN | apply Kd.R_drew)); exact HO798.out) hb); have n5_ := Aside0.mk (Kd.R_below (by (with_reducible repeat (first | apply Kd.R_alloc | apply Kd.R_drewN | apply Kd.R_drew)); exact HO801.out) hb); have n6_ := Aside0.mk (Kd.R_below (by (with_reducible repeat (first | apply Kd.R_alloc | apply Kd.R_drewN | apply Kd.R_drew)); exact HO804.out) hb); have n7_ := Aside0.mk (Kd.R_below (by (with_reducible repeat (first | apply Kd.R_alloc | apply Kd.R_drewN | apply Kd.R_drew)); exact HO807.out) hb); have n8_ := Aside0.mk (Kv.R_lower ho0 (below_size (by repeat (first | (with_reducible first | exact HB.out | apply below_alloc | apply pw_below_drewN | apply below_drew1 | refine below_set ?_ GE775.out) | exact HB.out)))); have n9_ := Aside0.mk (Kv.R_lower ho1 (below_size (by repeat (first | (with_reducible first | exact HB.out | apply below_alloc | apply pw_below_drewN | apply below_drew1 | refine below_set ?_ GE775.out) | exact HB.out)))); have n10_ := Aside0.mk (blk_below (g := gb775) (o := .cells #[.int .i64 a0_0, .int .i64 a0_1, .slice A0_2 l0_2.length c0_2, .slice A0_3 l0_3.length c0_3, .slice A0_4 l0_4.length c0_4, .slice A0_5 l0_5.length c0_5] 61 (0, 0)) (by (with_reducible repeat (first | refine blk_drewN ?_ _ | refine blk_drew ?_ | refine blk_alloc ?_ _)); exact BK775.out) hb); have n11_ := Aside0.mk (below_step (by repeat (first | (with_reducible first | exact HB.out | apply below_alloc | apply pw_below_drewN | apply below_drew1 | refine below_set ?_ GE775.out) | exact HB.out)) hb); clear HO780; clear HO783; clear HO786; clear HO789; clear HO798; clear HO801; clear HO804; clear HO807; clear BK775; clear HB; have HO780 := n0_; have HO783 := n1_; have HO786 := n2_; have HO789 := n3_; have HO798 := n4_; have HO801 := n5_; have HO804 := n6_; have HO807 := n7_; have HO810 := n8_; have HO813 := n9_; have BK775 := n10_; have HB := n11_; clear n0_ n1_ n2_ n3_ n4_ n5_ n6_ n7_ n8_ n9_ n10_ n11_; (try clear hb); (try clear hb2); (try clear hk); (try clear hi); (try clear ho0); (try clear ho1); have hcz35_0 : w34.cell? ⟨gb775, 0, none⟩ = some (.int .i64 a0_0) := (blk_cell BK775.out 0).trans rfl; have hcz35_1 : w34.cell? ⟨gb775, 1, none⟩ = some (.int .i64 a0_1) := (blk_cell BK775.out 1).trans rfl; have hcz35_2 : w34.cell? ⟨gb775, 2, none⟩ = some (.slice A0_2 l0_2.length c0_2) := (blk_cell BK775.out 2).trans rfl; have hcz35_3 : w34.cell? ⟨gb775, 3, none⟩ = some (.slice A0_3 l0_3.length c0_3) := (blk_cell BK775.out 3).trans rfl; have hcz35_4 : w34.cell? ⟨gb775, 4, none⟩ = some (.slice A0_4 l0_4.length c0_4) := (blk_cell BK775.out 4).trans rfl; have hcz35_5 : w34.cell? ⟨gb775, 5, none⟩ = some (.slice A0_5 l0_5.length c0_5) := (blk_cell BK775.out 5).trans rfl; have hfz35_0 := blk_frozen BK775.out 0; have hfz35_1 := blk_frozen BK775.out 1; have hfz35_2 := blk_frozen BK775.out 2; have hfz35_3 := blk_frozen BK775.out 3; have hfz35_4 := blk_frozen BK775.out 4; have hfz35_5 := blk_frozen BK775.out 5) | ((with_reducible refine gate_callee (f := 43) rfl ?_); refine goesL_ (some 43) rfl rfl Try.func43 (by kernel_rfl) rfl #[.agg #[.int .i64 a0_0, .int .i64 a0_1, .slice A0_2 l0_2.length c0_2, .slice A0_3 l0_3.length c0_3, .slice A0_4 l0_4.length c0_4, .slice A0_5 l0_5.length c0_5], .int .i64 a1] rfl (by (try simp only [List.map_toArray, List.map_cons, List.map_nil]); first | done | rfl | (simp only [List.length_drop, List.length_take]; rfl)) ?_; (with_reducible refine (cantingref07_Labels.calls k a0_0 a0_1 _ _ l0_2 _ _ l0_3 _ _ l0_4 _ _ l0_5 a1 t815 t818 t821 _ ?side1 ?side2 ?side3 ?side4 ?side5 ?side6 ?side7 ?side8 A9.out).mono ?_); (case side1 => repeat (first | exact (Kd.C_below HR0_2.out HB.out) | (with_reducible refine Kd.C_alloc ?_ _) | (with_reducible refine Kd.C_drewN ?_ _) | (with_reducible refine Kd.C_drew ?_))); (case side2 => exact HC0_2.out); (case side3 => repeat (first | exact (Kd.C_below HR0_3.out HB.out) | (with_reducible refine Kd.C_alloc ?_ _) | (with_reducible refine Kd.C_drewN ?_ _) | (with_reducible refine Kd.C_drew ?_))); (case side4 => exact HC0_3.out); (case side5 => repeat (first | exact (Kd.C_below HR0_4.out HB.out) | (with_reducible refine Kd.C_alloc ?_ _) | (with_reducible refine Kd.C_drewN ?_ _) | (with_reducible refine Kd.C_drew ?_))); (case side6 => exact HC0_4.out); (case side7 => repeat (first | exact (Kd.C_below HR0_5.out HB.out) | (with_reducible refine Kd.C_alloc ?_ _) | (with_reducible refine Kd.C_drewN ?_ _) | (with_reducible refine Kd.C_drew ?_))); (case side8 => exact HC0_5.out); rintro e w36 ⟨v816, v819, rfl, ho0, ho1, hb⟩; refine ⟨_, rfl, ?_⟩; have n0_ := Aside0.mk (Kd.R_below (by (with_reducible repeat (first | apply Kd.R_alloc | apply Kd.R_drewN | apply Kd.R_drew)); exact HO780.out) hb); have n1_ := Aside0.mk (Kd.R_below (by (with_reducible repeat (first | apply Kd.R_alloc | apply Kd.R_drewN | apply Kd.R_drew)); exact HO783.out) hb); have n2_ := Aside0.mk (Kd.R_below (by (with_reducible repeat (first | apply Kd.R_alloc | apply Kd.R_drewN | apply Kd.R_drew)); exact HO786.out) hb); have n3_ := Aside0.mk (Kd.R_below (by (with_reducible repeat (first | apply Kd.R_alloc | apply Kd.R_drewN | apply Kd.R_drew)); exact HO789.out) hb); have n4_ := Aside0.mk (Kd.R_below (by (with_reducible repeat (first | apply Kd.R_alloc | apply Kd.R_drewN | apply Kd.R_drew)); exact HO798.out) hb); have n5_ := Aside0.mk (Kd.R_below (by (with_reducible repeat (first | apply Kd.R_alloc | apply Kd.R_drewN | apply Kd.R_drew)); exact HO801.out) hb); have n6_ := Aside0.mk (Kd.R_below (by (with_reducible repeat (first | apply Kd.R_alloc | apply Kd.R_drewN | apply Kd.R_drew)); exact HO804.out) hb); have n7_ := Aside0.mk (Kd.R_below (by (with_reducible repeat (first | apply Kd.R_alloc | apply Kd.R_drewN | apply Kd.R_drew)); exact HO807.out) hb); have n8_ := Aside0.mk (Kv.R_mono (Kv.R_told (Kv.R_told (Kv.R_old (by (with_reducible repeat (first | apply Kv.R_alloc | apply Kv.R_drewN | apply Kv.R_drew)); exact HO810.out) hb) (Kd.R_base ho0)) (Kd.R_base ho1)) (fun _ h_ => h_.1)); have n9_ := Aside0.mk (Kv.R_mono (Kv.R_told (Kv.R_told (Kv.R_old (by (with_reducible repeat (first | apply Kv.R_alloc | apply Kv.R_drewN | apply Kv.R_drew)); exact HO813.out) hb) (Kd.R_base ho0)) (Kd.R_base ho1)) (fun _ h_ => h_.1)); have n10_ := Aside0.mk (Kd.R_lower (Kd.R_new' (Kd.R_new' ho0 (Kv.R_lt (by (with_reducible repeat (first | apply Kv.R_alloc | apply Kv.R_drewN | apply Kv.R_drew)); exact HO810.out))) (Kv.R_lt (by (with_reducible repeat (first | apply Kv.R_alloc | apply Kv.R_drewN | apply Kv.R_drew)); exact HO813.out))) (below_size (by repeat (first | (with_reducible first | exact HB.out | apply below_alloc | apply pw_below_drewN | apply below_drew1 | refine below_set ?_ GE775.out) | exact HB.out)))); have n11_ := Aside0.mk (Kd.R_lower (Kd.R_new' (Kd.R_new' ho1 (Kv.R_lt (by (with_reducible repeat (first | apply Kv.R_alloc | apply Kv.R_drewN | apply Kv.R_drew)); exact HO810.out))) (Kv.R_lt (by (with_reducible repeat (first | apply Kv.R_alloc | apply Kv.R_drewN | apply Kv.R_drew)); exact HO813.out))) (below_size (by repeat (first | (with_reducible first | exact HB.out | apply below_alloc | apply pw_below_drewN | apply below_drew1 | refine below_set ?_ GE775.out) | exact HB.out)))); have n12_ := Aside0.mk (blk_below (g := gb775) (o := .cells #[.int .i64 a0_0, .int .i64 a0_1, .slice A0_2 l0_2.length c0_2, .slice A0_3 l0_3.length c0_3, .slice A0_4 l0_4.length c0_4, .slice A0_5 l0_5.length c0_5] 61 (0, 0)) (by (with_reducible repeat (first | refine blk_drewN ?_ _ | refine blk_drew ?_ | refine blk_alloc ?_ _)); exact BK775.out) hb); have n13_ := Aside0.mk (below_step (by repeat (first | (with_reducible first | exact HB.out | apply below_alloc | apply pw_below_drewN | apply below_drew1 | refine below_set ?_ GE775.out) | exact HB.out)) hb); clear HO780; clear HO783; clear HO786; clear HO789; clear HO798; clear HO801; clear HO804; clear HO807; clear HO810; clear HO813; clear BK775; clear HB; have HO780 := n0_; have HO783 := n1_; have HO786 := n2_; have HO789 := n3_; have HO798 := n4_; have HO801 := n5_; have HO804 := n6_; have HO807 := n7_; have HO810 := n8_; have HO813 := n9_; have HO817 := n10_; have HO820 := n11_; have BK775 := n12_; have HB := n13_; clear n0_ n1_ n2_ n3_ n4_ n5_ n6_ n7_ n8_ n9_ n10_ n11_ n12_ n13_; (try clear hb); (try clear hb2); (try clear hk); (try clear hi); (try clear ho0); (try clear ho1); obtain ⟨Ao37, co37, eo37⟩ := Kv.R_slice HO810.out; subst eo37; obtain ⟨Ao38, co38, eo38⟩ := Kd.R_slice HO817.out; subst eo38) | (go_at_call 30; (with_reducible refine (slices_Equal_bool_bool.calls k _ _ t808 _ _ t815 true _ ?side1 ?side2 ?side3 ?side4 A12.out).mono ?_); (case side1 => repeat (first | exact (Kv.R_reads' HO810.out).2.2 | (with_reducible refine Kd.C_alloc ?_ _) | (with_reducible refine Kd.C_drewN ?_ _) | (with_reducible refine Kd.C_drew ?_))); (case side2 => exact (Kv.R_reads' HO810.out).2.1); (case side3 => repeat (first | exact (Kd.R_reads' HO817.out).2.2 | (with_reducible refine Kd.C_alloc ?_ _) | (with_reducible refine Kd.C_drewN ?_ _) | (with_reducible refine Kd.C_drew ?_))); (case side4 => exact (Kd.R_reads' HO817.out).2.1); rintro e w' ⟨rfl, ⟨nd, rfl⟩⟩; obtain ⟨Ao39, co39, eo39⟩ := Kv.R_slice HO813.out; subst eo39; obtain ⟨Ao40, co40, eo40⟩ := Kd.R_slice HO820.out; subst eo40) | (go_at_call 30; (with_reducible refine (slices_Equal_bool_bool.calls k _ _ t811 _ _ t818 true _ ?side1 ?side2 ?side3 ?side4 A14.out).mono ?_); (case side1 => repeat (first | exact (Kv.R_reads' HO813.out).2.2 | (with_reducible refine Kd.C_alloc ?_ _) | (with_reducible refine Kd.C_drewN ?_ _) | (with_reducible refine Kd.C_drew ?_))); (case side2 => exact (Kv.R_reads' HO813.out).2.1); (case side3 => repeat (first | exact (Kd.R_reads' HO820.out).2.2 | (with_reducible refine Kd.C_alloc ?_ _) | (with_reducible refine Kd.C_drewN ?_ _) | (with_reducible refine Kd.C_drew ?_))); (case side4 => exact (Kd.R_reads' HO820.out).2.1); rintro e w' ⟨rfl, ⟨nd, rfl⟩⟩) | (go_at_call 18; (with_reducible refine (cantinglaw07_awake.calls  true _ A17.out).mono ?_); rintro e w41 ⟨rfl, hb⟩; have n0_ := Aside0.mk (Kd.R_below (by (with_reducible repeat (first | apply Kd.R_alloc | apply Kd.R_drewN | apply Kd.R_drew)); exact HO780.out) hb); have n1_ := Aside0.mk (Kd.R_below (by (with_reducible repeat (first | apply Kd.R_alloc | apply Kd.R_drewN | apply Kd.R_drew)); exact HO783.out) hb); have n2_ := Aside0.mk (Kd.R_below (by (with_reducible repeat (first | apply Kd.R_alloc | apply Kd.R_drewN | apply Kd.R_drew)); exact HO786.out) hb); have n3_ := Aside0.mk (Kd.R_below (by (with_reducible repeat (first | apply Kd.R_alloc | apply Kd.R_drewN | apply Kd.R_drew)); exact HO789.out) hb); have n4_ := Aside0.mk (Kd.R_below (by (with_reducible repeat (first | apply Kd.R_alloc | apply Kd.R_drewN | apply Kd.R_drew)); exact HO798.out) hb); have n5_ := Aside0.mk (Kd.R_below (by (with_reducible repeat (first | apply Kd.R_alloc | apply Kd.R_drewN | apply Kd.R_drew)); exact HO801.out) hb); have n6_ := Aside0.mk (Kd.R_below (by (with_reducible repeat (first | apply Kd.R_alloc | apply Kd.R_drewN | apply Kd.R_drew)); exact HO804.out) hb); have n7_ := Aside0.mk (Kd.R_below (by (with_reducible repeat (first | apply Kd.R_alloc | apply Kd.R_drewN | apply Kd.R_drew)); exact HO807.out) hb); have n8_ := Aside0.mk (Kv.R_below (by (with_reducible repeat (first | apply Kv.R_alloc | apply Kv.R_drewN | apply Kv.R_drew)); exact HO810.out) hb); have n9_ := Aside0.mk (Kv.R_below (by (with_reducible repeat (first | apply Kv.R_alloc | apply Kv.R_drewN | apply Kv.R_drew)); exact HO813.out) hb); have n10_ := Aside0.mk (Kd.R_below (by (with_reducible repeat (first | apply Kd.R_alloc | apply Kd.R_drewN | apply Kd.R_drew)); exact HO817.out) hb); have n11_ := Aside0.mk (Kd.R_below (by (with_reducible repeat (first | apply Kd.R_alloc | apply Kd.R_drewN | apply Kd.R_drew)); exact HO820.out) hb); have n12_ := Aside0.mk (blk_below (g := gb775) (o := .cells #[.int .i64 a0_0, .int .i64 a0_1, .slice A0_2 l0_2.length c0_2, .slice A0_3 l0_3.length c0_3, .slice A0_4 l0_4.length c0_4, .slice A0_5 l0_5.length c0_5] 61 (0, 0)) (by (with_reducible repeat (first | refine blk_drewN ?_ _ | refine blk_drew ?_ | refine blk_alloc ?_ _)); exact BK775.out) hb); have n13_ := Aside0.mk (below_step (by repeat (first | (with_reducible first | exact HB.out | apply below_alloc | apply pw_below_drewN | apply below_drew1 | refine below_set ?_ GE775.out) | exact HB.out)) hb); clear HO780; clear HO783; clear HO786; clear HO789; clear HO798; clear HO801; clear HO804; clear HO807; clear HO810; clear HO813; clear HO817; clear HO820; clear BK775; clear HB; have HO780 := n0_; have HO783 := n1_; have HO786 := n2_; have HO789 := n3_; have HO798 := n4_; have HO801 := n5_; have HO804 := n6_; have HO807 := n7_; have HO810 := n8_; have HO813 := n9_; have HO817 := n10_; have HO820 := n11_; have BK775 := n12_; have HB := n13_; clear n0_ n1_ n2_ n3_ n4_ n5_ n6_ n7_ n8_ n9_ n10_ n11_ n12_ n13_; (try clear hb); (try clear hb2); (try clear hk); (try clear hi)))
            go_ret
            exact ⟨by first | rfl | (simp [errW_none, errW_some] <;> rfl) | (simp [*, errW_none, errW_some] <;> rfl), by repeat (first | (with_reducible first | exact HB.out | apply below_alloc | apply pw_below_drewN | apply below_drew1 | refine below_set ?_ GE775.out) | exact HB.out)⟩
          · rw [if_neg c16] at H
            have c16b0 : (t814 == t821) = false := beq_eq_false_iff_ne.mpr c16
            have c16b1 : (t814 != t821) = true := bne_iff_ne.mpr c16
            exact absurd (Option.some.inj H) (by decide)
        · replace c15 := Bool.eq_false_iff.mpr c15
          subst c15
          have H1 : (some false) = some true := by rw [if_neg (show ¬ (false = true) by decide)] at H; exact H
          clear H
          have H := H1
          clear H1
          exact absurd (Option.some.inj H) (by decide)
      · replace c13 := Bool.eq_false_iff.mpr c13
        subst c13
        have H1 : (some false) = some true := by rw [if_neg (show ¬ (false = true) by decide)] at H; exact H
        clear H
        have H := H1
        clear H1
        exact absurd (Option.some.inj H) (by decide)
    · rw [if_neg c11] at H
      have c11b0 : (t791 == t793) = false := beq_eq_false_iff_ne.mpr c11
      have c11b1 : (t791 != t793) = true := bne_iff_ne.mpr c11
      exact absurd (Option.some.inj H) (by decide)
  · rw [if_neg c10] at H
    have c10b0 : (t790 == t792) = false := beq_eq_false_iff_ne.mpr c10
    have c10b1 : (t790 != t792) = true := bne_iff_ne.mpr c10
    exact absurd (Option.some.inj H) (by decide)
end Go.Proofs.Ytbamanjedfccpaa.X
end

section
set_option linter.unusedVariables false
set_option linter.unusedSimpArgs false
namespace Go.Proofs.Ytbamanjedfccpaa.HTab
open Go.RowKit Go.Proofs.YtbamanjedfccpaaW.PrintWords Go.Proofs.YtbamanjedfccpaaW.PrintLast Go.Proofs.YtbamanjedfccpaaW.PrintMore Go.Proofs.Ytbamanjedfccpaa.X
set_option linter.unusedVariables false
set_option linter.unusedSimpArgs false
theorem rise_f (r : Int) : cantingref07_Rise.f r = some (decide (-10000 ≤ r ∧ r ≤ 10000)) := by
  unfold cantingref07_Rise.f
  by_cases h : r ≥ -10000
  · rw [if_pos h]
    by_cases h2 : r ≤ 10000
    · rw [decide_eq_true h2, decide_eq_true ⟨h, h2⟩]
    · rw [decide_eq_false h2, decide_eq_false (fun q => h2 q.2)]
  · rw [if_neg h, decide_eq_false (fun q => h q.1)]
theorem eqB_self (l : List Bool) (h : l.length < 10000000000000) (fu : Nat) (hf : l.length < fu) : slices_Equal_bool_bool.f fu l l = some true := by
  rw [eqB_f l l h fu hf]
  simp
theorem labels_law (W H : Int) (l2 l3 l4 l5 : List Int) (r : Int) (l : List Bool) (h2 : l2.length ≤ 9223372036854775807) (h3 : l3.length ≤ 9223372036854775807) (h4 : l4.length ≤ 9223372036854775807) (h5 : l5.length ≤ 9223372036854775807) :
    cantinglaw07_WaxLabels.f (l2.length + l3.length + l4.length + l5.length + 1000) W H l2 l3 l4 l5 r l = some true := by
  obtain ⟨k, hk⟩ : ∃ k, k = l2.length + l3.length + l4.length + l5.length + 1000 := ⟨_, rfl⟩
  rw [← hk]
  have hW := woven_f W H l2 l3 l4 l5 h2 h3 h4 h5 k (by omega)
  have hT := cvB_take W H l2 l3 l4 l5
  unfold cantinglaw07_WaxLabels.f
  rw [cloth_f]
  simp only [Option.bind_some]
  by_cases hg : cvB W H l2 l3 l4 l5 = true ∧ -10000 ≤ r ∧ r ≤ 10000
  case neg =>
    rw [energy_err (by rw [hT]; exact hg) l k (by omega), labels_err (by rw [hT]; exact hg)]
    have hE : cantingref07_Energy.f k W H l2 l3 l4 l5 r l = some (0, 2) := by
      obtain ⟨k, rfl⟩ : ∃ g, k = g + 1 := ⟨k - 1, by omega⟩
      unfold cantingref07_Energy.f
      rw [hW, Option.bind_some]
      split
      · rename_i c
        rw [rise_f, Option.bind_some, decide_eq_false (fun q => hg ⟨c, q⟩)]
        simp only [cantingref07_Energy.j0, Bool.not_false, if_true]
      · simp only [cantingref07_Energy.j0, if_true]
    have hL : cantingref07_Labels.f k W H l2 l3 l4 l5 r = some ([], [], 2) := by
      unfold cantingref07_Labels.f
      rw [hW, Option.bind_some]
      split
      · rename_i c
        rw [rise_f, Option.bind_some, decide_eq_false (fun q => hg ⟨c, q⟩), if_neg (by decide)]
      · rfl
    rw [hE, hL]
    simp only [Option.bind_some, if_true]
    rw [eqB_self [] (by simp) k (by simp; omega), awake_f]
    rfl
  obtain ⟨hv, hr⟩ := hg
  have hc := cvB_ok hv
  have hn := hc.n
  have n2 := hc.n2
  have n3 := hc.n3
  have n4 := hc.n4
  have n5 := hc.n5
  have hw := hc.w
  have hh := hc.h
  rw [List.take_of_length_le (show l2.length ≤ 50 by omega), List.take_of_length_le (show l3.length ≤ 50 by omega), List.take_of_length_le (show l4.length ≤ 50 by omega), List.take_of_length_le (show l5.length ≤ 50 by omega)]
  obtain ⟨a, b, h⟩ := labD hv hr
  have la := h.la
  have lb := h.lb
  have hL : cantingref07_Labels.f k W H l2 l3 l4 l5 r = some (a, b, 0) := by
    unfold cantingref07_Labels.f
    rw [hW, Option.bind_some, if_pos hv, rise_f, Option.bind_some, decide_eq_true hr, if_pos rfl, rlabels_f hv hr h, Option.bind_some]
  have hE : ∃ x e, wax_Energy.f k W H l2 l3 l4 l5 r l = some (x, e) ∧ cantingref07_Energy.f k W H l2 l3 l4 l5 r l = some (x, e) := by
    by_cases hS : (l.length : Int) = W * H
    · refine ⟨_, _, energy_f hv hr l hS k (by omega), ?_⟩
      obtain ⟨k, rfl⟩ : ∃ g, k = g + 1 := ⟨k - 1, by omega⟩
      unfold cantingref07_Energy.f
      rw [hW, Option.bind_some, if_pos hv, rise_f, Option.bind_some, decide_eq_true hr]
      simp only [cantingref07_Energy.j0, Bool.not_true, Bool.false_eq_true, if_false]
      rw [show wrap64 (W * H) = W * H from wrap_id (by omega) (by omega), if_pos hS]
      unfold cantingref07_energy.f
      rw [if_pos ⟨hv, hr.1, hr.2, hS⟩]
      rfl
    · refine ⟨_, _, energy_size hv hr l hS k (by omega), ?_⟩
      obtain ⟨k, rfl⟩ : ∃ g, k = g + 1 := ⟨k - 1, by omega⟩
      unfold cantingref07_Energy.f
      rw [hW, Option.bind_some, if_pos hv, rise_f, Option.bind_some, decide_eq_true hr]
      simp only [cantingref07_Energy.j0, Bool.not_true, Bool.false_eq_true, if_false]
      rw [show wrap64 (W * H) = W * H from wrap_id (by omega) (by omega), if_neg hS]
  obtain ⟨x, e, hE1, hE2⟩ := hE
  rw [hE1, hE2, labels_ok hv hr h, hL]
  simp only [Option.bind_some, if_true]
  rw [eqB_self a (by omega) k (by omega), Option.bind_some, if_pos rfl, eqB_self b (by omega) k (by omega), Option.bind_some, if_pos rfl, awake_f]
  rfl
end Go.Proofs.Ytbamanjedfccpaa.HTab
end

section
set_option linter.unusedVariables false
set_option linter.unusedSimpArgs false
namespace Go.Proofs.Ytbamanjedfccpaa.waxLabels
open Go.ChangeShapes Go.WideShapes Go.ChangeAt Go.RowKit Go.Proofs.YtbamanjedfccpaaW.PrintWords Go.Proofs.Ytbamanjedfccpaa.HTab Go.Proofs.Ytbamanjedfccpaa.X
open Go.ChangeMaps (open_string shut_string)
set_option linter.unusedVariables false
theorem own : ownKnob Try.prog.godebug = none := by kernel_rfl
theorem laidOut : laidOutB Try.prog = true := by kernel_rfl
set_option maxRecDepth 100000 in
theorem lifted (os : Os) (started : os.Started) (H : Type) (enc : TypeId × Value → H) :
    ReturnsInHanded {} Try.checked os 13 .any (Rows.waxLabelsSpec.pre6 enc Try.prog Try.f13 Rows.waxLabelsRow.domain false) (Rows.waxLabelsSpec.post enc Try.prog Try.f13 false true false false) := by
  refine returnsInHanded_of_change_sized (C := Try.checked) own started (by kernel_rfl) Try.func13
    (ChangeSpec.witness6 (enc := enc) (C := Try.checked) false ⟨#[], #[.agg #[.int .i64 0, .int .i64 0, .slice none 0 0, .slice none 0 0, .slice none 0 0, .slice none 0 0], .int .i64 0, .slice none 0 0], []⟩ 8 (by kernel_rfl) (by kernel_rfl) (by kernel_rfl) (by kernel_rfl)) ?_
  intro W base args ds gs before hval0 hW hcnd hsz0 _
  have hsz : (DataW.weightsEach Try.prog (Try.f13.params.toList ++ Rows.waxLabelsSpec.plain.varTypes Try.prog) (ds ++ gs)).all (· ≤ reachBytes) = true := hsz0
  have hval : ∀ (j : Nat) t v, Try.f13.params[j]? = some t → args[j]? = some v → Value.okWide Try.prog W .any base t v := hval0
  have hW' := hW
  obtain ⟨p, q, hA0, hV, rfl, hfz, hnd⟩ := hW
  have hA : DataW.TrodAll enc Try.prog W 0 (fun _ => true) true Try.f13.params.toList args.toList ds p := hA0
  rw [Try.params13] at hA hval hsz
  obtain ⟨v0, vs0, d0, ds0, p0, q0, hargs, rfl, rfl, h0, r0⟩ := trodAll_cons hA
  obtain ⟨v1, vs1, d1, ds1, p1, q1, rfl, rfl, rfl, h1, r1⟩ := trodAll_cons r0
  obtain ⟨v2, vs2, d2, ds2, p2, q2, rfl, rfl, rfl, h2, r2⟩ := trodAll_cons r1
  obtain ⟨rfl, rfl, rfl⟩ := trodAll_nil r2
  obtain rfl : args = #[v0, v1, v2] := by cases args; simp_all
  obtain ⟨rfl, rfl⟩ := trodVars_none hV
  have k0 := h0
  have lt0 : ∀ x ∈ p0, x.block < W.heap.size := by obtain ⟨m, hm⟩ := k0; exact DataW.trod_lt m _ _ _ hm
  obtain ⟨n0, m0, A0_2, c0_2, l0_2, A0_3, c0_3, l0_3, A0_4, c0_4, l0_4, A0_5, c0_5, l0_5, rfl, ⟨C0_2, L0_2⟩, ⟨C0_3, L0_3⟩, ⟨C0_4, L0_4⟩, ⟨C0_5, L0_5⟩, wn0, wm0⟩ := open_cloth (hval 0 61 v0 rfl rfl) h0
  obtain ⟨a1, rfl, rfl, rfl, w1⟩ := open_int Try.underlying3 (hval 1 3 v1 rfl rfl) h1
  have k2 := h2
  have lt2 : ∀ x ∈ p2, x.block < W.heap.size := by obtain ⟨m, hm⟩ := k2; exact DataW.trod_lt m _ _ _ hm
  obtain ⟨A2, c2, l2, rfl, C2, L2, B2⟩ := open_bools (hval 2 45 v2 rfl rfl) h2 hsz (j := 2) rfl rfl
  clear hA0 hval0 hsz0 hsz
  refine ((cantinglaw07_WaxLabels.calls (l0_2.length + l0_3.length + l0_4.length + l0_5.length + 1000) n0 m0 A0_2 c0_2 l0_2 A0_3 c0_3 l0_3 A0_4 c0_4 l0_4 A0_5 c0_5 l0_5 a1 A2 c2 l2 W C0_2 L0_2 C0_3 L0_3 C0_4 L0_4 C0_5 L0_5 C2 L2 (labels_law n0 m0 l0_2 l0_3 l0_4 l0_5 a1 l2 (Kd.C_max C0_2) (Kd.C_max C0_3) (Kd.C_max C0_4) (Kd.C_max C0_5)))).mono fun e W' ⟨he, bel⟩ => ?_
  subst he
  exact ⟨_, rfl, _, _, _, [], _, [], hW', trodAll_mk1 (shut_bool Try.underlying4 _), (trodAll_cons_mk (Below.trod laidOut (by kernel_rfl) (of_decide_eq_true (by kernel_rfl)) k0 bel lt0) (trodAll_cons_mk (shut_int Try.underlying3 w1) (trodAll_cons_mk (Below.trod laidOut (by kernel_rfl) (of_decide_eq_true (by kernel_rfl)) k2 bel lt2) trodAll_mk0))), rfl, bel.frame _, fun h => by cases h⟩
theorem over : Rows.waxLabelsRow.holds Try.pinned (OpenSpec.ofChange Rows.waxLabelsSpec) :=
  OpenClaim.holds_of_wide 13 Try.f13 rfl rfl rfl rfl rfl rfl rfl ⟨rfl, rfl, rfl, rfl, rfl⟩ rfl rfl rfl rfl rfl (by kernel_rfl) Try.func13 (by kernel_rfl)
    (of_decide_eq_true (by kernel_rfl)) (by unfold Func.isWrapper; first | (rw [if_pos (by decide +kernel)]; kernel_rfl) | (rw [if_neg (by decide +kernel)]; exact ⟨rfl, rfl⟩))
    (fun os started H enc _ => lifted os started H enc)
theorem proved : Rows.WaxLabelsSaid := over
end Go.Proofs.Ytbamanjedfccpaa.waxLabels
namespace Go.Proofs.Ytbamanjedfccpaa
theorem waxLabels_holds : Rows.WaxLabelsSaid := waxLabels.proved
end Go.Proofs.Ytbamanjedfccpaa
#print axioms Go.Proofs.Ytbamanjedfccpaa.waxLabels_holds
end
