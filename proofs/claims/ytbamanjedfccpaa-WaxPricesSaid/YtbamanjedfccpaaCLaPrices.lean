/- The law WaxPrices holds of the program, for every input that its statement lets in. -/
import Derived.Test.YtbamanjedfccpaaBj
import Derived.Test.YtbamanjedfccpaaBq
import Derived.Test.YtbamanjedfccpaaBt
import Derived.Test.YtbamanjedfccpaaBs
import Derived.Laws.BitsLemmas
import Derived.Test.YtbamanjedfccpaaBc
import Derived.Test.YtbamanjedfccpaaBn
import Derived.Test.YtbamanjedfccpaaBi
import Derived.Test.YtbamanjedfccpaaBh
import Derived.Test.YtbamanjedfccpaaBu
import Derived.Test.YtbamanjedfccpaaBw
import Derived.Test.YtbamanjedfccpaaBo
import Derived.Test.YtbamanjedfccpaaBk
import Derived.Test.YtbamanjedfccpaaBm
import Derived.Test.YtbamanjedfccpaaBp
import Derived.Test.YtbamanjedfccpaaRows
import Derived.WalkKit
import Derived.ProofKit
import Derived.OpenShut
import Derived.ShutString
import Derived.ChangeOld
import Derived.Below
import Derived.SizedLaws
import Derived.Test.YtbamanjedfccpaaBb
section
set_option linter.unusedVariables false
set_option linter.unusedSimpArgs false
namespace Go.Proofs.Ytbamanjedfccpaa.HTab
open Go.ChangeShapes Go.WideShapes Go.ChangeAt Go.RowKit Go.Deep Go.Joins Go.Proofs.YtbamanjedfccpaaW.PrintWords Go.Proofs.Ytbamanjedfccpaa.X
set_option linter.unusedVariables false
theorem array6 {α : Type} {cs : Array α} (h : cs.size = 6) : ∃ c0 c1 c2 c3 c4 c5, cs = #[c0, c1, c2, c3, c4, c5] := by
  obtain ⟨l⟩ := cs
  match l, h with
  | [c0, c1, c2, c3, c4, c5], _ => exact ⟨c0, c1, c2, c3, c4, c5, rfl⟩
section
variable {H : Type} {enc : TypeId × Value → H} {W : World} {r : Reach} {b0 base : Nat} {sp : Nat → Bool} {held : Bool}
theorem trod_struct6 {P : Program} {t : TypeId} {f0 f1 f2 f3 f4 f5 : Field} {fuel : Nat} {cs : List Value} {x : DataW H × List MemPlace} (ht : P.underlying t = some (.struct #[f0, f1, f2, f3, f4, f5])) (h : DataW.trod enc P W base sp held fuel t cs = some x) :
    ∃ y0 y1 y2 y3 y4 y5 n, DataW.trod enc P W base sp held n f0.type ((cs.drop f0.offset).take (P.cellsOf f0.type)) = some y0 ∧
      DataW.trod enc P W base sp held n f1.type ((cs.drop f1.offset).take (P.cellsOf f1.type)) = some y1 ∧ DataW.trod enc P W base sp held n f2.type ((cs.drop f2.offset).take (P.cellsOf f2.type)) = some y2 ∧
      DataW.trod enc P W base sp held n f3.type ((cs.drop f3.offset).take (P.cellsOf f3.type)) = some y3 ∧ DataW.trod enc P W base sp held n f4.type ((cs.drop f4.offset).take (P.cellsOf f4.type)) = some y4 ∧ DataW.trod enc P W base sp held n f5.type ((cs.drop f5.offset).take (P.cellsOf f5.type)) = some y5 := by
  obtain ⟨xs, n, _, rfl, hl, hlen, hf⟩ := DataW.trod_struct ht h
  match xs, hlen with
  | [y0, y1, y2, y3, y4, y5], _ => exact ⟨y0, y1, y2, y3, y4, y5, n, by simpa using hf 0 f0 rfl, by simpa using hf 1 f1 rfl, by simpa using hf 2 f2 rfl, by simpa using hf 3 f3 rfl, by simpa using hf 4 f4 rfl, by simpa using hf 5 f5 rfl⟩
theorem open_agg6 {P : Program} {t : TypeId} {f0 f1 f2 f3 f4 f5 : Field} {v : Value} {d : DataW H} {p : List MemPlace} (hs : P.underlying t = some (.struct #[f0, f1, f2, f3, f4, f5])) (hone : oneCellFields P #[f0, f1, f2, f3, f4, f5] = true) (hC : P.cellsOf t = 6)
    (hv : Value.okWide P W r b0 t v) (h : DataW.Trod enc P W base sp held t v d p) :
    ∃ (v0 v1 v2 v3 v4 v5 : Value) (y0 y1 y2 y3 y4 y5 : DataW H × List MemPlace) (n : Nat), v = .agg #[v0, v1, v2, v3, v4, v5] ∧
      DataW.trod enc P W base sp held n f0.type [v0] = some y0 ∧ DataW.trod enc P W base sp held n f1.type [v1] = some y1 ∧ DataW.trod enc P W base sp held n f2.type [v2] = some y2 ∧ DataW.trod enc P W base sp held n f3.type [v3] = some y3 ∧ DataW.trod enc P W base sp held n f4.type [v4] = some y4 ∧ DataW.trod enc P W base sp held n f5.type [v5] = some y5 := by
  obtain ⟨cs, rfl, hsz⟩ := okWide_struct hs hv
  obtain ⟨c0, c1, c2, c3, c4, c5, rfl⟩ := array6 (hsz.trans hC)
  obtain ⟨fuel, hf⟩ := h
  obtain ⟨y0, y1, y2, y3, y4, y5, n, h0, h1, h2, h3, h4, h5⟩ := trod_struct6 hs hf
  obtain ⟨o0, k0⟩ := hone_of hone 0 f0 rfl
  obtain ⟨o1, k1⟩ := hone_of hone 1 f1 rfl
  obtain ⟨o2, k2⟩ := hone_of hone 2 f2 rfl
  obtain ⟨o3, k3⟩ := hone_of hone 3 f3 rfl
  obtain ⟨o4, k4⟩ := hone_of hone 4 f4 rfl
  obtain ⟨o5, k5⟩ := hone_of hone 5 f5 rfl
  exact ⟨c0, c1, c2, c3, c4, c5, y0, y1, y2, y3, y4, y5, n, rfl, by simpa [Value.cells, o0, k0] using h0, by simpa [Value.cells, o1, k1] using h1, by simpa [Value.cells, o2, k2] using h2, by simpa [Value.cells, o3, k3] using h3, by simpa [Value.cells, o4, k4] using h4, by simpa [Value.cells, o5, k5] using h5⟩
theorem field_ints {n : Nat} {v : Value} {y : DataW H × List MemPlace} (h : DataW.trod enc Try.prog W base sp held n 40 [v] = some y) : ∃ (A : Option Addr) (c : Nat) (l : List Int), v = .slice A l.length c ∧ Kd.C (Kd.int .i64) W A l.length l ∧ l.length ≤ c := by
  rcases open_slice Try.underlying40 h with ⟨hc, hx⟩ | ⟨a, len, cap, m, n', D, Pl, hcs, hb, hl, hm, hmm, hx, hi⟩
  · simp only [List.cons.injEq, and_true] at hc
    exact ⟨none, 0, [], hc, Kd.C_nil _ _, Nat.le_refl _⟩
  · simp only [List.cons.injEq, and_true] at hcs
    obtain ⟨l, hll⟩ : ∃ l : List Int, l = (List.range len).map fun i => intAt (W.cell? (a.add i)) := ⟨_, rfl⟩
    have hlen : l.length = len := by rw [hll]; simp
    have hlm : len ≤ m := by rw [hmm]; split <;> omega
    have hone : Try.prog.cellsOf 3 = 1 := by kernel_rfl
    have hcell : ∀ i, i < len → ∃ b : Int, W.cell? (a.add i) = some (.int .i64 b) := fun i hil => by
      obtain ⟨cs', h2, h3⟩ := hi i (by omega)
      rw [hone, Nat.mul_one] at h2
      obtain ⟨b, e, _, _⟩ := DataW.trod_int Try.underlying3 h3
      subst e
      obtain ⟨_, hcl, hat⟩ := World.cells?_some h2
      have := hat 0 (by omega)
      refine ⟨b, ?_⟩
      have h4 : (a.add i).add 0 = a.add i := by unfold Addr.add; split <;> simp_all
      rw [h4] at this
      simpa using this
    refine ⟨some a, cap, l, by rw [hcs, hlen], ?_, by omega⟩
    unfold maxLen at hm
    refine ⟨rfl, by omega, fun hp => ⟨a, rfl, fun i p hp2 => ?_⟩⟩
    have hil : i < len := by
      have := (List.getElem?_eq_some_iff.1 hp2).1
      omega
    obtain ⟨b, hc1⟩ := hcell i hil
    have hpe : p = b := by
      rw [hll, List.getElem?_map, List.getElem?_range hil] at hp2
      have : intAt (W.cell? (a.add i)) = p := by simpa using hp2
      rw [← this, hc1]
      rfl
    subst hpe
    refine ⟨[.int .i64 p], rfl, rfl, fun q u hq => ?_⟩
    match q, hq with
    | 0, hq =>
      simp only [List.getElem?_cons_zero, Option.some.injEq] at hq
      rw [← hq, show (Kd.int .i64).sz = 1 from rfl, Nat.mul_one, Nat.add_zero]
      exact hc1
    | q + 1, hq => simp at hq
set_option maxRecDepth 100000 in
theorem open_cloth {v : Value} {d : DataW H} {ps : List MemPlace} (hval : Value.okWide Try.prog W r b0 61 v) (hd : DataW.Trod enc Try.prog W base sp held 61 v d ps) :
    ∃ (w h : Int) (A2 : Option Addr) (c2 : Nat) (l2 : List Int) (A3 : Option Addr) (c3 : Nat) (l3 : List Int) (A4 : Option Addr) (c4 : Nat) (l4 : List Int) (A5 : Option Addr) (c5 : Nat) (l5 : List Int),
      v = .agg #[.int .i64 w, .int .i64 h, .slice A2 l2.length c2, .slice A3 l3.length c3, .slice A4 l4.length c4, .slice A5 l5.length c5] ∧ (Kd.C (Kd.int .i64) W A2 l2.length l2 ∧ l2.length ≤ c2) ∧ (Kd.C (Kd.int .i64) W A3 l3.length l3 ∧ l3.length ≤ c3) ∧ (Kd.C (Kd.int .i64) W A4 l4.length l4 ∧ l4.length ≤ c4) ∧ (Kd.C (Kd.int .i64) W A5 l5.length l5 ∧ l5.length ≤ c5) ∧ (Lit.int .i64 w).wf = true ∧ (Lit.int .i64 h).wf = true := by
  obtain ⟨v0, v1, v2, v3, v4, v5, y0, y1, y2, y3, y4, y5, n, rfl, h0, h1, h2, h3, h4, h5⟩ := open_agg6 Try.underlying61 (by kernel_rfl) (by kernel_rfl) hval hd
  obtain ⟨n0, e0, _, w0⟩ := DataW.trod_int Try.underlying3 h0
  obtain ⟨n1, e1, _, w1⟩ := DataW.trod_int Try.underlying3 h1
  simp only [List.cons.injEq, and_true] at e0 e1
  subst e0 e1
  obtain ⟨A2, c2, l2, rfl, q2, b2⟩ := field_ints h2
  obtain ⟨A3, c3, l3, rfl, q3, b3⟩ := field_ints h3
  obtain ⟨A4, c4, l4, rfl, q4, b4⟩ := field_ints h4
  obtain ⟨A5, c5, l5, rfl, q5, b5⟩ := field_ints h5
  exact ⟨n0, n1, A2, c2, l2, A3, c3, l3, A4, c4, l4, A5, c5, l5, rfl, ⟨q2, b2⟩, ⟨q3, b3⟩, ⟨q4, b4⟩, ⟨q5, b5⟩, w0, w1⟩
end
end Go.Proofs.Ytbamanjedfccpaa.HTab
end

section
set_option linter.unusedVariables false
set_option linter.unusedSimpArgs false
namespace Go.Proofs.Ytbamanjedfccpaa.HTab
open Go.RowKit Go.Proofs.YtbamanjedfccpaaW.PrintWords Go.Proofs.YtbamanjedfccpaaW.PrintLast Go.Proofs.YtbamanjedfccpaaW.PrintMore Go.Proofs.Ytbamanjedfccpaa.X
set_option linter.unusedVariables false
set_option linter.unusedSimpArgs false
theorem few_f (l : List Int) : cantinglaw07_few.f l = some (l.take 50) := by
  have e : (mn (l.length : Int) 50).toNat = min 50 l.length := by unfold mn; split <;> omega
  have h : mn (l.length : Int) 50 ≤ (l.length : Int) ∧ 0 ≤ mn (l.length : Int) 50 := by unfold mn; split <;> omega
  unfold cantinglaw07_few.f slices_Clone_int_int.f
  rw [if_pos h.2, if_pos h.1, e, if_pos (by rw [List.length_take]; omega)]
  have : l.take (min 50 l.length) = l.take 50 := by
    rcases Nat.le_total 50 l.length with q | q
    · rw [Nat.min_eq_left q]
    · rw [Nat.min_eq_right q, List.take_of_length_le (Nat.le_refl _), List.take_of_length_le q]
  rw [this]
  rfl
theorem cloth_f (W H : Int) (l2 l3 l4 l5 : List Int) : cantinglaw07_cloth.f W H l2 l3 l4 l5 = some (W, H, l2.take 50, l3.take 50, l4.take 50, l5.take 50) := by
  unfold cantinglaw07_cloth.f
  rw [few_f, few_f, few_f, few_f]
  rfl
def pairR (W : Int) (right : List Int) (i : Nat) : S100 := ⟨(i : Int) / (W - 1) * W + (i : Int) % (W - 1), (i : Int) / (W - 1) * W + (i : Int) % (W - 1) + 1, rd right (i : Int)⟩
def pairD (W : Int) (down : List Int) (i : Nat) : S100 := ⟨(i : Int), (i : Int) + W, rd down (i : Int)⟩
def pairsL (W : Int) (right down : List Int) : List S100 := (List.range right.length).map (pairR W right) ++ (List.range down.length).map (pairD W down)
structure ClOK (W H : Int) (l2 l3 l4 l5 : List Int) : Prop where
  w : 1 ≤ W ∧ W ≤ 6
  h : 1 ≤ H ∧ H ≤ 6
  n : 1 ≤ W * H ∧ W * H ≤ 36
  n2 : (l2.length : Int) = W * H
  n3 : (l3.length : Int) = W * H
  n4 : (l4.length : Int) = W * H - H
  n5 : (l5.length : Int) = W * H - W
  b2 : ∀ x ∈ l2, 0 ≤ x ∧ x ≤ 1000
  b3 : ∀ x ∈ l3, 0 ≤ x ∧ x ≤ 1000
  b4 : ∀ x ∈ l4, 0 ≤ x ∧ x ≤ 1000
  b5 : ∀ x ∈ l5, 0 ≤ x ∧ x ≤ 1000
theorem okL_iff (l : List Int) (n : Int) (h : okL l n = true) : (l.length : Int) = n ∧ ∀ x ∈ l, 0 ≤ x ∧ x ≤ 1000 := by
  unfold okL at h
  rw [Bool.and_eq_true, Bool.not_eq_true', decide_eq_true_eq, List.any_eq_false] at h
  refine ⟨h.1, fun x hx => ?_⟩
  have := h.2 x hx
  unfold badI at this
  rw [Bool.or_eq_true, decide_eq_true_eq, decide_eq_true_eq] at this
  omega
theorem cvB_ok {W H : Int} {l2 l3 l4 l5 : List Int} (h : cvB W H l2 l3 l4 l5 = true) : ClOK W H l2 l3 l4 l5 := by
  unfold cvB at h
  simp only [Bool.and_eq_true, decide_eq_true_eq] at h
  obtain ⟨⟨hw, hh⟩, h2, h3, h4, h5⟩ := h
  have hn : 1 ≤ W * H ∧ W * H ≤ 36 := by
    have h1 : W = 1 ∨ W = 2 ∨ W = 3 ∨ W = 4 ∨ W = 5 ∨ W = 6 := by omega
    rcases h1 with h1 | h1 | h1 | h1 | h1 | h1 <;> rw [h1] <;> omega
  have q2 := okL_iff _ _ h2
  have q3 := okL_iff _ _ h3
  have q4 := okL_iff _ _ h4
  have q5 := okL_iff _ _ h5
  exact ⟨hw, hh, hn, q2.1, q3.1, q4.1, q5.1, q2.2, q3.2, q4.2, q5.2⟩
theorem rd_in {l : List Int} (h : ∀ x ∈ l, 0 ≤ x ∧ x ≤ 1000) (i : Int) : 0 ≤ rd l i ∧ rd l i ≤ 1000 := by
  unfold rd
  rw [List.getD_eq_getElem?_getD]
  cases hq : l[i.toNat]? with
  | none => simp
  | some x => exact h x (List.mem_of_getElem? hq)
section
variable {W H : Int} {l2 l3 l4 l5 : List Int} (hc : ClOK W H l2 l3 l4 l5)
include hc
theorem right_in (i : Nat) (hi : i < l4.length) : 2 ≤ W ∧ 0 ≤ (i : Int) / (W - 1) * W + (i : Int) % (W - 1) ∧ (i : Int) / (W - 1) * W + (i : Int) % (W - 1) + 1 < W * H := by
  have hw := hc.w
  have hh := hc.h
  have h4 := hc.n4
  have h1 : W = 1 ∨ W = 2 ∨ W = 3 ∨ W = 4 ∨ W = 5 ∨ W = 6 := by omega
  rcases h1 with h1 | h1 | h1 | h1 | h1 | h1 <;> subst h1 <;> omega
theorem down_in (i : Nat) (hi : i < l5.length) : (i : Int) + W < W * H := by
  have h5 := hc.n5
  omega
theorem lens_le : l4.length ≤ 36 ∧ l5.length ≤ 36 := by
  have h4 := hc.n4
  have h5 := hc.n5
  have := hc.n
  have := hc.w
  have := hc.h
  omega
theorem pairs_l1 : ∀ (d i fu : Nat), i + d = l5.length → d < fu → wax_Cloth_pairs.l1 fu ((List.range l4.length).map (pairR W l4) ++ (List.range i).map (pairD W l5)) l5 l5.length i W H l2 l3 l4 l5 = some (pairsL W l4 l5)
  | d, i, 0, h, hf => by omega
  | 0, i, fu + 1, h, hf => by
    obtain rfl : i = l5.length := by omega
    simp only [wax_Cloth_pairs.l1]
    rw [if_neg (by omega)]
    rfl
  | d + 1, i, fu + 1, h, hf => by
    have ih := pairs_l1 d (i + 1) fu (by omega) (by omega)
    have hl := lens_le hc
    have hw := hc.w
    simp only [wax_Cloth_pairs.l1]
    rw [if_pos (by omega), if_pos (by omega), if_pos (by omega), if_pos (by simp; omega), show wrap64 ((i : Int) + 1) = ((i + 1 : Nat) : Int) from wrap_add1 (by omega) (by omega), show wrap64 ((i : Int) + W) = (i : Int) + W from wrap_id (by omega) (by omega)]
    rw [List.range_succ, List.map_append, ← List.append_assoc] at ih
    exact ih
theorem pairs_l0 : ∀ (d i fu : Nat), i + d = l4.length → d + l5.length + 2 ≤ fu → wax_Cloth_pairs.l0 fu ((List.range i).map (pairR W l4)) l4 l4.length i W H l2 l3 l4 l5 = some (pairsL W l4 l5)
  | d, i, 0, h, hf => by omega
  | 0, i, fu + 1, h, hf => by
    obtain rfl : i = l4.length := by omega
    have := pairs_l1 hc l5.length 0 fu (by omega) (by omega)
    simp only [wax_Cloth_pairs.l0]
    rw [if_neg (by omega)]
    rw [List.range_zero, List.map_nil, List.append_nil] at this
    exact this
  | d + 1, i, fu + 1, h, hf => by
    have ih := pairs_l0 d (i + 1) fu (by omega) (by omega)
    have hl := lens_le hc
    have hw := hc.w
    have hr := right_in hc i (by omega)
    have hn := hc.n
    have e0 : wrap64 (W - 1) = W - 1 := wrap_id (by omega) (by omega)
    have i0 : (0 : Int) ≤ (i : Int) := by omega
    have q1 : 0 ≤ (i : Int) / (W - 1) ∧ (i : Int) / (W - 1) ≤ 36 := ⟨Int.ediv_nonneg i0 (by clear e0; omega), Int.le_trans (Int.ediv_le_self _ i0) (by clear e0; omega)⟩
    have q2 : 0 ≤ (i : Int) % (W - 1) ∧ (i : Int) % (W - 1) < W - 1 := ⟨Int.emod_nonneg _ (by clear e0; omega), Int.emod_lt_of_pos _ (by clear e0; omega)⟩
    have q3 : 0 ≤ (i : Int) / (W - 1) * W := Int.mul_nonneg q1.1 (by clear e0; omega)
    simp only [wax_Cloth_pairs.l0]
    rw [e0, Int.tdiv_eq_ediv_of_nonneg i0, Int.tmod_eq_emod_of_nonneg i0]
    clear e0
    rw [show wrap64 ((i : Int) / (W - 1)) = (i : Int) / (W - 1) from wrap_id (by omega) (by omega), show wrap64 ((i : Int) / (W - 1) * W) = (i : Int) / (W - 1) * W from wrap_id (by omega) (by omega), show wrap64 ((i : Int) / (W - 1) * W + (i : Int) % (W - 1)) = (i : Int) / (W - 1) * W + (i : Int) % (W - 1) from wrap_id (by omega) (by omega), show wrap64 ((i : Int) / (W - 1) * W + (i : Int) % (W - 1) + 1) = (i : Int) / (W - 1) * W + (i : Int) % (W - 1) + 1 from wrap_id (by omega) (by omega)]
    rw [if_pos (by omega), if_pos (by omega), if_pos (by omega), if_neg (by omega), if_pos (by simp; omega), show wrap64 ((i : Int) + 1) = ((i + 1 : Nat) : Int) from wrap_add1 (by omega) (by omega)]
    rw [List.range_succ, List.map_append] at ih
    exact ih
theorem pairs_f (fu : Nat) (hf : 100 ≤ fu) : wax_Cloth_pairs.f fu W H l2 l3 l4 l5 = some (pairsL W l4 l5) := by
  have hl := lens_le hc
  have := pairs_l0 hc l4.length 0 fu (by omega) (by omega)
  exact this
theorem pairs_in : ∀ p ∈ pairsL W l4 l5, 0 ≤ p.f0 ∧ p.f0 < W * H ∧ 0 ≤ p.f1 ∧ p.f1 < W * H ∧ 0 ≤ p.f2 ∧ p.f2 ≤ 1000 := fun p hp => by
  unfold pairsL at hp
  rcases List.mem_append.1 hp with hp | hp
  · obtain ⟨i, hi, rfl⟩ := List.mem_map.1 hp
    have := right_in hc i (List.mem_range.1 hi)
    have hb := rd_in hc.b4 (i : Int)
    unfold pairR
    dsimp only
    omega
  · obtain ⟨i, hi, rfl⟩ := List.mem_map.1 hp
    have := down_in hc i (List.mem_range.1 hi)
    have hb := rd_in hc.b5 (i : Int)
    have hw := hc.w
    unfold pairD
    dsimp only
    omega
theorem pairs_len : (pairsL W l4 l5).length ≤ 72 := by
  have hl := lens_le hc
  unfold pairsL
  simp
  omega
end
def cellE (l2 l3 : List Int) (r : Int) (S : List Bool) (i : Int) : Int := if rdOf false S i then rd l3 i + r else rd l2 i
def pairE (S : List Bool) : List S100 → Int
  | [] => 0
  | p :: l => (if (rdOf false S p.f0 != rdOf false S p.f1) = true then p.f2 else 0) + pairE S l
def enE (W H : Int) (l2 l3 l4 l5 : List Int) (r : Int) (S : List Bool) : Int := sumF (cellE l2 l3 r S) (W * H).toNat + pairE S (pairsL W l4 l5)
theorem pairE_in (S : List Bool) : ∀ l : List S100, (∀ p ∈ l, 0 ≤ p.f2 ∧ p.f2 ≤ 1000) → 0 ≤ pairE S l ∧ pairE S l ≤ 1000 * l.length
  | [], _ => by simp [pairE]
  | p :: l, h => by
    have ih := pairE_in S l (fun q hq => h q (List.mem_cons_of_mem _ hq))
    have hp := h p (List.mem_cons_self ..)
    simp only [pairE, List.length_cons]
    split <;> omega
theorem sumF_in {h : Int → Int} {C : Int} : ∀ n : Nat, (∀ v : Int, 0 ≤ v → v < n → -C ≤ h v ∧ h v ≤ C) → -(C * n) ≤ sumF h n ∧ sumF h n ≤ C * n
  | 0, _ => by simp [sumF]
  | n + 1, hh => by
    have ih := sumF_in n (fun v v0 v1 => hh v v0 (by omega))
    have h0 := hh n (by omega) (by omega)
    have e : C * ((n + 1 : Nat) : Int) = C * n + C := by rw [Int.natCast_add, Int.mul_add]; simp
    simp only [sumF]
    rw [e]
    omega
section
variable {W H : Int} {l2 l3 l4 l5 : List Int} (hc : ClOK W H l2 l3 l4 l5) {r : Int} (hr : -10000 ≤ r ∧ r ≤ 10000) (S : List Bool)
include hc hr
end
end Go.Proofs.Ytbamanjedfccpaa.HTab
end

section
set_option linter.unusedVariables false
set_option linter.unusedSimpArgs false
namespace Go.Proofs.Ytbamanjedfccpaa.HTab
open Go.RowKit Go.Proofs.YtbamanjedfccpaaW.PrintWords Go.Proofs.YtbamanjedfccpaaW.PrintLast Go.Proofs.YtbamanjedfccpaaW.PrintMore Go.Proofs.Ytbamanjedfccpaa.X
set_option linter.unusedVariables false
set_option linter.unusedSimpArgs false
theorem bools_ext {a b : List Bool} {N : Nat} (ha : a.length = N) (hb : b.length = N) (h : ∀ v : Nat, v < N → rdOf false a (v : Int) = rdOf false b (v : Int)) : a = b := by
  refine List.ext_getElem (by omega) (fun i h1 h2 => ?_)
  have := h i (by omega)
  simp only [rdOf, Int.toNat_natCast, List.getD_eq_getElem?_getD, List.getElem?_eq_getElem h1, List.getElem?_eq_getElem h2] at this
  exact this
section
variable (N : Nat) (hN2 : 2 ≤ N) (hN : N ≤ 12) (l : List S34) (hl : l.length ≤ 160) (hg : GoodR N l)
include hN2 hN hl hg
end
end Go.Proofs.Ytbamanjedfccpaa.HTab
end

section
set_option linter.unusedVariables false
set_option linter.unusedSimpArgs false
namespace Go.Proofs.Ytbamanjedfccpaa.X
open Go.RowKit Go.Proofs.YtbamanjedfccpaaW.PrintWords Go.Proofs.YtbamanjedfccpaaW.PrintLast Go.Proofs.YtbamanjedfccpaaW.PrintMore
attribute [local go_sem] max2_int min2_int max_two min_two max_three min_three max_four min_four   -- for this text's walks alone
set_option linter.unusedVariables false
set_option linter.unusedSimpArgs false
end Go.Proofs.Ytbamanjedfccpaa.X
end

section
set_option linter.unusedVariables false
set_option linter.unusedSimpArgs false
namespace Go.Proofs.Ytbamanjedfccpaa.HTab
open Go.RowKit Go.Proofs.YtbamanjedfccpaaW.PrintWords Go.Proofs.YtbamanjedfccpaaW.PrintLast Go.Proofs.YtbamanjedfccpaaW.PrintMore Go.Proofs.Ytbamanjedfccpaa.X
set_option linter.unusedVariables false
set_option linter.unusedSimpArgs false
def shortL (xs : List (List Bool)) : Prop := xs.length ≤ 10000 ∧ ∀ S ∈ xs, S.length ≤ 1000
instance (xs : List (List Bool)) : Decidable (shortL xs) := inferInstanceAs (Decidable (_ ∧ _))
end Go.Proofs.Ytbamanjedfccpaa.HTab
namespace Go.Proofs.Ytbamanjedfccpaa.X
open Go.RowKit Go.Proofs.YtbamanjedfccpaaW.PrintWords Go.Proofs.YtbamanjedfccpaaW.PrintLast Go.Proofs.YtbamanjedfccpaaW.PrintMore Go.Proofs.Ytbamanjedfccpaa.HTab
end Go.Proofs.Ytbamanjedfccpaa.X
end

section
set_option linter.unusedVariables false
set_option linter.unusedSimpArgs false
namespace Go.Proofs.Ytbamanjedfccpaa.X
open Go.RowKit Go.Proofs.YtbamanjedfccpaaW.PrintWords Go.Proofs.YtbamanjedfccpaaW.PrintLast Go.Proofs.YtbamanjedfccpaaW.PrintMore
attribute [local go_sem] max2_int min2_int max_two min_two max_three min_three max_four min_four   -- for this text's walks alone
set_option linter.unusedVariables false
set_option linter.unusedSimpArgs false
end Go.Proofs.Ytbamanjedfccpaa.X
end

section
set_option linter.unusedVariables false
set_option linter.unusedSimpArgs false
namespace Go.Proofs.Ytbamanjedfccpaa.HTab
open Go.RowKit Go.Proofs.YtbamanjedfccpaaW.PrintWords Go.Proofs.YtbamanjedfccpaaW.PrintLast Go.Proofs.YtbamanjedfccpaaW.PrintMore Go.Proofs.Ytbamanjedfccpaa.X
set_option linter.unusedVariables false
set_option linter.unusedSimpArgs false
def andP (a b : List Bool) (i : Nat) : List Bool := (List.range i).map fun (k : Nat) => rdOf false a (k : Int) && rdOf false b (k : Int)
def orP (a b : List Bool) (i : Nat) : List Bool := (List.range i).map fun (k : Nat) => rdOf false a (k : Int) || rdOf false b (k : Int)
theorem andP_len (a b : List Bool) (i : Nat) : (andP a b i).length = i := by simp [andP]
theorem orP_len (a b : List Bool) (i : Nat) : (orP a b i).length = i := by simp [orP]
theorem andP_rd (a b : List Bool) (N : Nat) (x : Int) (x0 : 0 ≤ x) (x1 : x < N) : rdOf false (andP a b N) x = (rdOf false a x && rdOf false b x) := by
  obtain ⟨n, rfl⟩ : ∃ n : Nat, x = n := ⟨x.toNat, by omega⟩
  have h : n < N := by omega
  have e : rdOf false (andP a b N) (n : Int) = (andP a b N).getD n false := by simp [rdOf]
  rw [e]
  simp [andP, h]
theorem orP_rd (a b : List Bool) (N : Nat) (x : Int) (x0 : 0 ≤ x) (x1 : x < N) : rdOf false (orP a b N) x = (rdOf false a x || rdOf false b x) := by
  obtain ⟨n, rfl⟩ : ∃ n : Nat, x = n := ⟨x.toNat, by omega⟩
  have h : n < N := by omega
  have e : rdOf false (orP a b N) (n : Int) = (orP a b N).getD n false := by simp [rdOf]
  rw [e]
  simp [orP, h]
end Go.Proofs.Ytbamanjedfccpaa.HTab
end

section
set_option linter.unusedVariables false
set_option linter.unusedSimpArgs false
namespace Go.Proofs.Ytbamanjedfccpaa.X
open Go.RowKit Go.Proofs.YtbamanjedfccpaaW.PrintWords Go.Proofs.YtbamanjedfccpaaW.PrintLast Go.Proofs.YtbamanjedfccpaaW.PrintMore
attribute [local go_sem] max2_int min2_int max_two min_two max_three min_three max_four min_four   -- for this text's walks alone
set_option linter.unusedVariables false
set_option linter.unusedSimpArgs false
end Go.Proofs.Ytbamanjedfccpaa.X
end

section
set_option linter.unusedVariables false
set_option linter.unusedSimpArgs false
namespace Go.Proofs.Ytbamanjedfccpaa.HTab
open Go.RowKit Go.Proofs.YtbamanjedfccpaaW.PrintWords Go.Proofs.YtbamanjedfccpaaW.PrintLast Go.Proofs.YtbamanjedfccpaaW.PrintMore Go.Proofs.Ytbamanjedfccpaa.X
set_option linter.unusedVariables false
set_option linter.unusedSimpArgs false
theorem pair_mod (S T A B : List Bool) : ∀ l : List S100, (∀ p ∈ l, 0 ≤ p.f2) → (∀ p ∈ l, ∀ x : Int, x = p.f0 ∨ x = p.f1 → rdOf false A x = (rdOf false S x && rdOf false T x) ∧ rdOf false B x = (rdOf false S x || rdOf false T x)) → pairE A l + pairE B l ≤ pairE S l + pairE T l
  | [], _, _ => by simp [pairE]
  | p :: l, h, hr => by
    have ih := pair_mod S T A B l (fun q hq => h q (List.mem_cons_of_mem _ hq)) (fun q hq => hr q (List.mem_cons_of_mem _ hq))
    have hp := h p (List.mem_cons_self ..)
    have r0 := hr p (List.mem_cons_self ..) p.f0 (.inl rfl)
    have r1 := hr p (List.mem_cons_self ..) p.f1 (.inr rfl)
    simp only [pairE]
    rw [r0.1, r0.2, r1.1, r1.2]
    rcases Bool.eq_false_or_eq_true (rdOf false S p.f0) with h1 | h1 <;> rcases Bool.eq_false_or_eq_true (rdOf false S p.f1) with h2 | h2 <;> rcases Bool.eq_false_or_eq_true (rdOf false T p.f0) with h3 | h3 <;> rcases Bool.eq_false_or_eq_true (rdOf false T p.f1) with h4 | h4 <;> simp [h1, h2, h3, h4] <;> omega
theorem en_mod {W H : Int} {l2 l3 l4 l5 : List Int} (hc : ClOK W H l2 l3 l4 l5) (r : Int) (S T A B : List Bool) (hr : ∀ x : Int, 0 ≤ x → x < W * H → rdOf false A x = (rdOf false S x && rdOf false T x) ∧ rdOf false B x = (rdOf false S x || rdOf false T x)) :
    enE W H l2 l3 l4 l5 r A + enE W H l2 l3 l4 l5 r B ≤ enE W H l2 l3 l4 l5 r S + enE W H l2 l3 l4 l5 r T := by
  have hn := hc.n
  have h1 := pair_mod S T A B (pairsL W l4 l5) (fun p hp => (pairs_in hc p hp).2.2.2.2.1) (fun p hp x hx => by
    obtain ⟨a, b, c, d, _⟩ := pairs_in hc p hp
    rcases hx with rfl | rfl
    · exact hr _ a b
    · exact hr _ c d)
  have h2 : sumF (cellE l2 l3 r A) (W * H).toNat + sumF (cellE l2 l3 r B) (W * H).toNat = sumF (cellE l2 l3 r S) (W * H).toNat + sumF (cellE l2 l3 r T) (W * H).toNat := by
    rw [← sumF_add, ← sumF_add]
    refine sumF_congr _ (fun v v0 v1 => ?_)
    obtain ⟨a, b⟩ := hr v v0 (by omega)
    unfold cellE
    rw [a, b]
    cases rdOf false S v <;> cases rdOf false T v <;> simp <;> omega
  unfold enE
  omega
end Go.Proofs.Ytbamanjedfccpaa.HTab
end

section
set_option linter.unusedVariables false
set_option linter.unusedSimpArgs false
namespace Go.Proofs.Ytbamanjedfccpaa.X
open Go.RowKit Go.Proofs.YtbamanjedfccpaaW.PrintWords Go.Proofs.YtbamanjedfccpaaW.PrintLast Go.Proofs.YtbamanjedfccpaaW.PrintMore
attribute [local go_sem] max2_int min2_int max_two min_two max_three min_three max_four min_four   -- for this text's walks alone
set_option linter.unusedVariables false
set_option linter.unusedSimpArgs false
end Go.Proofs.Ytbamanjedfccpaa.X
end

section
set_option linter.unusedVariables false
set_option linter.unusedSimpArgs false
namespace Go.Proofs.Ytbamanjedfccpaa.HTab
open Go.RowKit Go.Proofs.YtbamanjedfccpaaW.PrintWords Go.Proofs.YtbamanjedfccpaaW.PrintLast Go.Proofs.YtbamanjedfccpaaW.PrintMore Go.Proofs.Ytbamanjedfccpaa.X
set_option linter.unusedVariables false
set_option linter.unusedSimpArgs false
theorem costF_app (both : Bool) (T : Int → Bool) : ∀ l m : List S35, costF both T (l ++ m) = costF both T l + costF both T m
  | [], m => by simp [costF]
  | a :: l, m => by
    simp only [List.cons_append, costF, costF_app both T l m]
    omega
end Go.Proofs.Ytbamanjedfccpaa.HTab
end

section
set_option linter.unusedVariables false
set_option linter.unusedSimpArgs false
namespace Go.Proofs.Ytbamanjedfccpaa.HTab
open Go.RowKit Go.Proofs.YtbamanjedfccpaaW.PrintWords Go.Proofs.YtbamanjedfccpaaW.PrintLast Go.Proofs.YtbamanjedfccpaaW.PrintMore Go.Proofs.Ytbamanjedfccpaa.X
set_option linter.unusedVariables false
set_option linter.unusedSimpArgs false
def lowC (l3 : List Int) (r i : Int) : Int := mn (rd l3 i + r) 0
def cellA (n : Int) (l2 l3 : List Int) (r : Int) (i : Nat) : List S35 := [⟨0, (i : Int) + 1, rd l2 (i : Int) - lowC l3 r (i : Int)⟩, ⟨(i : Int) + 1, n + 1, rd l3 (i : Int) + r - lowC l3 r (i : Int)⟩]
def pairA (p : S100) : List S35 := [⟨p.f0 + 1, p.f1 + 1, p.f2⟩, ⟨p.f1 + 1, p.f0 + 1, p.f2⟩]
def arcsL (W H : Int) (l2 l3 l4 l5 : List Int) (r : Int) : List S35 := (List.range (W * H).toNat).flatMap (cellA (W * H) l2 l3 r) ++ (pairsL W l4 l5).flatMap pairA
theorem flat_len {α : Type} (g : α → List S35) (hg : ∀ a, (g a).length = 2) : ∀ l : List α, (l.flatMap g).length = 2 * l.length
  | [] => rfl
  | a :: l => by
    rw [List.flatMap_cons, List.length_append, hg a, flat_len g hg l, List.length_cons]
    omega
theorem lowC_in {l3 : List Int} (h : ∀ x ∈ l3, 0 ≤ x ∧ x ≤ 1000) {r : Int} (hr : -10000 ≤ r ∧ r ≤ 10000) (i : Int) : -10000 ≤ lowC l3 r i ∧ lowC l3 r i ≤ 0 ∧ lowC l3 r i ≤ rd l3 i + r := by
  have := rd_in h i
  unfold lowC mn
  split <;> omega
section
variable {W H : Int} {l2 l3 l4 l5 : List Int} (hc : ClOK W H l2 l3 l4 l5)
include hc
theorem arcs_l1 (N : Int) : ∀ (d i fu : Nat) (X : List S35), i + d = (pairsL W l4 l5).length → d < fu → X.length + 2 * d ≤ 1000 →
    wax_Cloth_arcs.l1 fu (pairsL W l4 l5) (pairsL W l4 l5).length i N X = some (X ++ ((pairsL W l4 l5).drop i).flatMap pairA)
  | d, i, 0, X, h, hf, hX => by omega
  | 0, i, fu + 1, X, h, hf, hX => by
    simp only [wax_Cloth_arcs.l1]
    rw [if_neg (by omega), List.drop_eq_nil_of_le (by omega)]
    simp
  | d + 1, i, fu + 1, X, h, hf, hX => by
    have hi : i < (pairsL W l4 l5).length := by omega
    have hrd : rd_T100 (pairsL W l4 l5) (i : Int) = (pairsL W l4 l5)[i] := by simp [rd_T100, hi]
    have hp := pairs_in hc _ (List.getElem_mem hi)
    have hn := hc.n
    have hpl := pairs_len hc
    obtain ⟨p, hpe⟩ : ∃ p, p = (pairsL W l4 l5)[i] := ⟨_, rfl⟩
    have ih := fun X hX => arcs_l1 N d (i + 1) fu X (by omega) (by omega) hX
    simp only [wax_Cloth_arcs.l1]
    rw [if_pos (by omega), if_pos (by omega), if_pos (by omega), hrd, List.drop_eq_getElem_cons hi, ← hpe]
    rw [← hpe] at hp
    rw [show wrap64 ((i : Int) + 1) = ((i + 1 : Nat) : Int) from wrap_add1 (by omega) (by omega), show wrap64 (p.f0 + 1) = p.f0 + 1 from wrap_id (by omega) (by omega), show wrap64 (p.f1 + 1) = p.f1 + 1 from wrap_id (by omega) (by omega)]
    rw [Option.bind_some, if_pos (by simp; omega), ih _ (by simp; omega), List.flatMap_cons, ← List.append_assoc]
    rfl
theorem arcs_l0 {r : Int} (hr : -10000 ≤ r ∧ r ≤ 10000) (n : Nat) (hn : (n : Int) = W * H) : ∀ (d i fu : Nat) (X : List S35), i + d = n → d + 100 < fu → X.length + 2 * d ≤ 100 →
    wax_Cloth_arcs.l0 fu r n i W H l2 l3 l4 l5 ((n : Int) + 2) X = some (X ++ ((List.range n).drop i).flatMap (cellA n l2 l3 r) ++ (pairsL W l4 l5).flatMap pairA)
  | d, i, 0, X, h, hf, hX => by omega
  | 0, i, fu + 1, X, h, hf, hX => by
    have hpl := pairs_len hc
    simp only [wax_Cloth_arcs.l0]
    rw [if_neg (by omega), List.drop_eq_nil_of_le (by simp; omega), pairs_f hc fu (by omega), Option.bind_some]
    have := arcs_l1 hc ((n : Int) + 2) (pairsL W l4 l5).length 0 fu X (by omega) (by omega) (by omega)
    rw [List.drop_zero] at this
    rw [List.flatMap_nil, List.append_nil]
    exact this
  | d + 1, i, fu + 1, X, h, hf, hX => by
    have hN := hc.n
    have h2 := hc.n2
    have h3 := hc.n3
    have hb2 := rd_in hc.b2 (i : Int)
    have hb3 := rd_in hc.b3 (i : Int)
    have hlo := lowC_in hc.b3 hr (i : Int)
    have ih := fun X hX => arcs_l0 hr n hn d (i + 1) fu X (by omega) (by omega) hX
    simp only [wax_Cloth_arcs.l0]
    rw [if_pos (by omega), if_pos (by omega), if_pos (by omega), if_pos (by omega)]
    rw [show wrap64 (rd l3 (i : Int) + r) = rd l3 (i : Int) + r from wrap_id (by omega) (by omega)]
    rw [show mn (rd l3 (i : Int) + r) 0 = lowC l3 r i from rfl]
    rw [show wrap64 ((i : Int) + 1) = ((i + 1 : Nat) : Int) from wrap_add1 (by omega) (by omega), show wrap64 ((n : Int) + 2 - 1) = (n : Int) + 1 by rw [wrap_id (by omega) (by omega)]; omega, show wrap64 (rd l2 (i : Int) - lowC l3 r i) = rd l2 (i : Int) - lowC l3 r i from wrap_id (by omega) (by omega), show wrap64 (rd l3 (i : Int) + r - lowC l3 r i) = rd l3 (i : Int) + r - lowC l3 r i from wrap_id (by omega) (by omega)]
    rw [Option.bind_some, if_pos (by simp; omega), ih _ (by simp; omega), List.drop_eq_getElem_cons (l := List.range n) (i := i) (by simp; omega), List.flatMap_cons, List.getElem_range, ← List.append_assoc]
    rfl
theorem arcs_f {r : Int} (hr : -10000 ≤ r ∧ r ≤ 10000) (fu : Nat) (hf : 200 ≤ fu) : wax_Cloth_arcs.f fu W H l2 l3 l4 l5 r = some (arcsL W H l2 l3 l4 l5 r) := by
  have hN := hc.n
  obtain ⟨n, hn⟩ : ∃ n : Nat, (n : Int) = W * H := ⟨(W * H).toNat, by omega⟩
  have := arcs_l0 hc hr n hn n 0 fu [] (by omega) (by omega) (by simp; omega)
  unfold wax_Cloth_arcs.f arcsL
  rw [← hn, Int.toNat_natCast, show wrap64 (n : Int) = (n : Int) from wrap_id (by omega) (by omega), show wrap64 ((n : Int) + 2) = (n : Int) + 2 from wrap_id (by omega) (by omega)]
  exact this
theorem arcs_len (r : Int) : (arcsL W H l2 l3 l4 l5 r).length ≤ 300 := by
  have hN := hc.n
  have hpl := pairs_len hc
  unfold arcsL
  rw [List.length_append, flat_len _ (fun _ => rfl), flat_len _ (fun _ => rfl), List.length_range]
  omega
theorem arcs_good {r : Int} (hr : -10000 ≤ r ∧ r ≤ 10000) (N : Nat) (hN : (N : Int) = W * H + 2) : Good N (arcsL W H l2 l3 l4 l5 r) ∧ ∀ a ∈ arcsL W H l2 l3 l4 l5 r, 0 ≤ a.f2 ∧ a.f2 ≤ 1000000 := by
  have hn := hc.n
  have key : ∀ a ∈ arcsL W H l2 l3 l4 l5 r, (0 ≤ a.f0 ∧ a.f0 < (N : Int) ∧ 0 ≤ a.f1 ∧ a.f1 < (N : Int)) ∧ 0 ≤ a.f2 ∧ a.f2 ≤ 1000000 := fun a ha => by
    unfold arcsL at ha
    rcases List.mem_append.1 ha with ha | ha
    · obtain ⟨i, hi, ha⟩ := List.mem_flatMap.1 ha
      have hi := List.mem_range.1 hi
      have hb2 := rd_in hc.b2 (i : Int)
      have hb3 := rd_in hc.b3 (i : Int)
      have hlo := lowC_in hc.b3 hr (i : Int)
      unfold cellA at ha
      simp only [List.mem_cons, List.not_mem_nil, or_false] at ha
      rcases ha with rfl | rfl <;> dsimp only <;> omega
    · obtain ⟨p, hp, ha⟩ := List.mem_flatMap.1 ha
      have := pairs_in hc p hp
      unfold pairA at ha
      simp only [List.mem_cons, List.not_mem_nil, or_false] at ha
      rcases ha with rfl | rfl <;> dsimp only <;> omega
  exact ⟨fun a ha => (key a ha).1, fun a ha => (key a ha).2⟩
end
def sideL (S : List Bool) (v : Int) : Bool := decide (v = 0) || (decide (1 ≤ v) && rdOf false S (v - 1))
theorem rdOf_out (S : List Bool) (i : Int) (h : (S.length : Int) ≤ i) : rdOf false S i = false := by
  unfold rdOf
  rw [List.getD_eq_getElem?_getD, List.getElem?_eq_none (by omega)]
  rfl
theorem sideL_in (S : List Bool) (i : Int) (h : 0 ≤ i) : sideL S (i + 1) = rdOf false S i := by
  unfold sideL
  rw [decide_eq_false (by omega), decide_eq_true (show 1 ≤ i + 1 by omega), show i + 1 - 1 = i by omega]
  rfl
theorem sideL_side (S : List Bool) (N : Nat) (h : S.length + 2 = N) : side (sideL S) 0 ((N : Int) - 1) := by
  constructor
  · rfl
  · rw [show (N : Int) - 1 = (S.length : Int) + 1 by omega, sideL_in _ _ (by omega), rdOf_out _ _ (by omega)]
theorem cell_cost (n : Nat) (l2 l3 : List Int) (r : Int) (S : List Bool) (hS : S.length = n) : ∀ m : Nat, m ≤ n → costF false (sideL S) ((List.range m).flatMap (cellA n l2 l3 r)) = sumF (fun v => cellE l2 l3 r S v - lowC l3 r v) m
  | 0, _ => rfl
  | m + 1, h => by
    have ih := cell_cost n l2 l3 r S hS m (by omega)
    rw [List.range_succ, List.flatMap_append, costF_app, ih, List.flatMap_cons, List.flatMap_nil, List.append_nil]
    simp only [sumF]
    congr 1
    unfold cellA cellE
    simp only [costF]
    rw [sideL_in S m (by omega), sideL_in S n (by omega), rdOf_out S n (by omega), show sideL S 0 = true from rfl]
    cases rdOf false S (m : Int) <;> simp
theorem pair_cost (S : List Bool) : ∀ l : List S100, (∀ p ∈ l, 0 ≤ p.f0 ∧ 0 ≤ p.f1) → costF false (sideL S) (l.flatMap pairA) = pairE S l
  | [], _ => rfl
  | p :: l, h => by
    have ih := pair_cost S l (fun q hq => h q (List.mem_cons_of_mem _ hq))
    obtain ⟨h0, h1⟩ := h p (List.mem_cons_self ..)
    rw [List.flatMap_cons, costF_app, ih]
    simp only [pairE]
    congr 1
    unfold pairA
    simp only [costF]
    rw [sideL_in S _ h0, sideL_in S _ h1]
    cases rdOf false S p.f0 <;> cases rdOf false S p.f1 <;> simp
theorem en_cost {W H : Int} {l2 l3 l4 l5 : List Int} (hc : ClOK W H l2 l3 l4 l5) (r : Int) (S : List Bool) (hS : (S.length : Int) = W * H) :
    enE W H l2 l3 l4 l5 r S = costF false (sideL S) (arcsL W H l2 l3 l4 l5 r) + sumF (lowC l3 r) (W * H).toNat := by
  have h1 := cell_cost S.length l2 l3 r S rfl S.length (Nat.le_refl _)
  have h2 := pair_cost S (pairsL W l4 l5) (fun p hp => ⟨(pairs_in hc p hp).1, (pairs_in hc p hp).2.2.1⟩)
  unfold enE arcsL
  rw [costF_app, ← hS, Int.toNat_natCast, h1, h2, sumF_sub]
  omega
structure NetC (N : Nat) (arcs : List S35) (s : Int) (l1 D : List Int) (G : List Bool) : Prop where
  net : netM N arcs = some (midL (leastL D) N, midL G N)
  lok : LOK false arcs l1
  res : ∀ T, resF T arcs l1 = costF false T arcs - s * (ind T 0 - ind T ((N : Int) - 1))
  lv : LvD arcs l1 (outZ N arcs) 0 N D
  gr : GrD arcs l1 (outZ N arcs) ((N : Int) - 1) N G
  no : rd D ((N : Int) - 1) < 0
theorem netC {N : Nat} {arcs : List S35} (h3 : 3 ≤ N) (hN : N ≤ 1000) (hl : arcs.length ≤ 1000) (d : Good N arcs) (e : ∀ a ∈ arcs, 0 ≤ a.f2 ∧ a.f2 ≤ 1000000) : ∃ s l1 D G, NetC N arcs s l1 D G := by
  obtain ⟨s, l1, d1, n1, hF, hs, hL, hr, hv, hn⟩ := fillZ_ok false N arcs 0 ((N : Int) - 1) hN hl d e (by omega) (by omega) (by omega)
  obtain ⟨D, hD, hvD⟩ := level_ok arcs l1 (outZ N arcs) 0 ((N : Int) - 1) N d1 n1 (by omega) (by omega) (rows_in d) fuelW (by unfold fuelW; omega)
  obtain ⟨G, hG, hgG⟩ := great_ok arcs l1 (outZ N arcs) 0 ((N : Int) - 1) N D n1 (by omega) (rows_in d) fuelW (by unfold fuelW; omega)
  have hno : rd D ((N : Int) - 1) < 0 := by
    refine Int.not_le.1 (fun hq => ?_)
    have h0 := reach_zero d hL hv
    have := least_in d hL hvD (fun v => decide (0 ≤ rd d1 v)) (by simp [hv.s0]) h0 (rd D ((N : Int) - 1)).toNat ((N : Int) - 1) (by omega) (by omega) (by omega)
    have := of_decide_eq_true this
    omega
  refine ⟨s, l1, D, G, ?_, hL, hr, hvD, hgG, hno⟩
  unfold netM
  rw [if_pos ⟨h3, hN, hl, d⟩, hF, Option.bind_some]
  have hD' : levelP fuelW ((restP false N arcs 0 ((N : Int) - 1)).dat_ l1 d1 n1) = some D := hD
  have hG' : greatP fuelW ((restP false N arcs 0 ((N : Int) - 1)).dat_ l1 D n1) = some G := hG
  dsimp only
  rw [hD', Option.bind_some, hG', Option.bind_some, if_pos ⟨hL.len, hvD.len, hgG.len⟩]
section
variable {N : Nat} {arcs : List S35} {s : Int} {l1 D : List Int} {G : List Bool}
theorem NetC.min (h : NetC N arcs s l1 D G) (T : Int → Bool) (hT : side T 0 ((N : Int) - 1)) : s ≤ costF false T arcs := by
  have h1 := h.res T
  have h2 := resF_nonneg T h.lok
  rw [ind_side hT] at h1
  omega
theorem NetC.zero (h : NetC N arcs s l1 D G) (T : Int → Bool) (hT : side T 0 ((N : Int) - 1)) : costF false T arcs = s ↔ resF T arcs l1 = 0 := by
  have h1 := h.res T
  rw [ind_side hT] at h1
  omega
theorem NetC.least_rd (h : NetC N arcs s l1 D G) (x : Int) (x0 : 0 ≤ x) (x1 : x < N) : rdOf false (leastL D) x = decide (0 ≤ rd D x) := leastL_rd D x x0 (by rw [h.lv.len]; exact x1)
theorem NetC.least_side (h : NetC N arcs s l1 D G) (hN : 2 ≤ N) : side (fun v => rdOf false (leastL D) v) 0 ((N : Int) - 1) := by
  constructor
  · show rdOf false (leastL D) 0 = true
    rw [h.least_rd 0 (by omega) (by omega), h.lv.s0]
    rfl
  · show rdOf false (leastL D) ((N : Int) - 1) = false
    rw [h.least_rd _ (by omega) (by omega)]
    exact decide_eq_false (by have := h.no; omega)
theorem NetC.least_cost (h : NetC N arcs s l1 D G) (hN : 2 ≤ N) (hg : Good N arcs) : costF false (fun v => rdOf false (leastL D) v) arcs = s := by
  rw [costF_congr (N := N) false _ (fun v => decide (0 ≤ rd D v)) (fun v v0 v1 => h.least_rd v v0 v1) arcs hg]
  refine (h.zero _ ⟨by simp [h.lv.s0], ?_⟩).2 (reach_zero hg h.lok h.lv)
  exact decide_eq_false (by have := h.no; omega)
theorem NetC.great_side (h : NetC N arcs s l1 D G) (hN : 2 ≤ N) (hg : Good N arcs) : side (fun v => rdOf false G v) 0 ((N : Int) - 1) :=
  ⟨great_src hg h.lv h.gr h.no 0 (by omega) (by omega) (by rw [h.lv.s0]; omega), h.gr.s0⟩
theorem NetC.great_cost (h : NetC N arcs s l1 D G) (hN : 2 ≤ N) (hg : Good N arcs) : costF false (fun v => rdOf false G v) arcs = s :=
  (h.zero _ (h.great_side hN hg)).2 (great_zero hg h.lok h.gr)
theorem NetC.between (h : NetC N arcs s l1 D G) (hN : 2 ≤ N) (hg : Good N arcs) (T : Int → Bool) (hT : side T 0 ((N : Int) - 1)) (hc : costF false T arcs = s) (x : Int) (x0 : 0 ≤ x) (x1 : x < N) : (rdOf false (leastL D) x = true → T x = true) ∧ (T x = true → rdOf false G x = true) := by
  have h0 := (h.zero T hT).1 hc
  refine ⟨fun hx => ?_, fun hx => ?_⟩
  · rw [h.least_rd x x0 x1] at hx
    have := of_decide_eq_true hx
    exact least_in hg h.lok h.lv T hT.1 h0 (rd D x).toNat x x0 x1 (by omega)
  · cases hq : rdOf false G x with
    | true => rfl
    | false =>
      have := great_in hg h.lok h.gr T hT.2 h0 x x0 x1 hq
      rw [this] at hx
      cases hx
end
theorem midL_rd (S : List Bool) (N : Nat) (hS : S.length = N) (i : Int) (i0 : 0 ≤ i) (i1 : i < (N : Int) - 2) : rdOf false (midL S N) i = rdOf false S (i + 1) := by
  obtain ⟨n, rfl⟩ : ∃ n : Nat, i = n := ⟨i.toNat, by omega⟩
  unfold midL rdOf
  rw [List.getD_eq_getElem?_getD, List.getD_eq_getElem?_getD, List.getElem?_take, if_pos (by omega), List.getElem?_drop]
  congr 2
  omega
theorem sideL_mid (S : List Bool) (N : Nat) (h2 : 2 ≤ N) (hS : S.length = N) (h0 : rdOf false S 0 = true) (h1 : rdOf false S ((N : Int) - 1) = false) (v : Int) (v0 : 0 ≤ v) (v1 : v < N) : sideL (midL S N) v = rdOf false S v := by
  by_cases c : v = 0
  · subst c
    rw [h0]
    rfl
  · obtain ⟨i, rfl⟩ : ∃ i, v = i + 1 := ⟨v - 1, by omega⟩
    rw [sideL_in _ _ (by omega)]
    by_cases d : i < (N : Int) - 2
    · exact midL_rd S N hS i (by omega) d
    · obtain rfl : i = (N : Int) - 2 := by omega
      rw [rdOf_out _ _ (by rw [midL_len S N hS h2]; omega), show (N : Int) - 2 + 1 = (N : Int) - 1 by omega, h1]
structure LabD (W H : Int) (l2 l3 l4 l5 : List Int) (r : Int) (a b : List Bool) : Prop where
  labels : wax_Cloth_labels.f W H l2 l3 l4 l5 r = some (a, b)
  la : (a.length : Int) = W * H
  lb : (b.length : Int) = W * H
  min : ∀ S : List Bool, (S.length : Int) = W * H → enE W H l2 l3 l4 l5 r a ≤ enE W H l2 l3 l4 l5 r S
  eq : enE W H l2 l3 l4 l5 r b = enE W H l2 l3 l4 l5 r a
  btw : ∀ S : List Bool, (S.length : Int) = W * H → enE W H l2 l3 l4 l5 r S = enE W H l2 l3 l4 l5 r a → ∀ x : Int, 0 ≤ x → x < W * H → (rdOf false a x = true → rdOf false S x = true) ∧ (rdOf false S x = true → rdOf false b x = true)
theorem labD {W H : Int} {l2 l3 l4 l5 : List Int} (hv : cvB W H l2 l3 l4 l5 = true) {r : Int} (hr : -10000 ≤ r ∧ r ≤ 10000) : ∃ a b, LabD W H l2 l3 l4 l5 r a b := by
  have hc := cvB_ok hv
  have hn := hc.n
  obtain ⟨N, hN⟩ : ∃ N : Nat, (N : Int) = W * H + 2 := ⟨(W * H + 2).toNat, by omega⟩
  obtain ⟨hg, he⟩ := arcs_good hc hr N hN
  obtain ⟨s, l1, D, G, h⟩ := netC (N := N) (arcs := arcsL W H l2 l3 l4 l5 r) (by omega) (by omega) (by have := arcs_len hc r; omega) hg he
  have h2 : 2 ≤ N := by omega
  have hDl : (leastL D).length = N := by unfold leastL; rw [List.length_map]; exact h.lv.len
  have hGl := h.gr.len
  have sD := h.least_side h2
  have sG := h.great_side h2 hg
  have la := midL_len _ N hDl h2
  have lb := midL_len _ N hGl h2
  have cD := (costF_congr (N := N) false _ _ (fun v v0 v1 => sideL_mid (leastL D) N h2 hDl sD.1 sD.2 v v0 v1) _ hg).trans (h.least_cost h2 hg)
  have cG := (costF_congr (N := N) false _ _ (fun v v0 v1 => sideL_mid G N h2 hGl sG.1 sG.2 v v0 v1) _ hg).trans (h.great_cost h2 hg)
  refine ⟨midL (leastL D) N, midL G N, ?_, by omega, by omega, fun S hS => ?_, ?_, fun S hS hE x x0 x1 => ?_⟩
  · unfold wax_Cloth_labels.f
    rw [arcs_f hc hr 10000 (by omega), Option.bind_some, show wrap64 (W * H) = W * H from wrap_id (by omega) (by omega), show wrap64 (W * H + 2) = (N : Int) by rw [wrap_id (by omega) (by omega)]; omega, Int.toNat_natCast]
    exact h.net
  · rw [en_cost hc r S hS, en_cost hc r _ (by omega), cD]
    have := h.min (sideL S) (sideL_side S N (by omega))
    omega
  · rw [en_cost hc r _ (by omega), en_cost hc r _ (by omega), cD, cG]
  · rw [en_cost hc r S hS, en_cost hc r _ (by omega), cD] at hE
    have hb := h.between h2 hg (sideL S) (sideL_side S N (by omega)) (by omega) (x + 1) (by omega) (by omega)
    rw [sideL_in S x x0] at hb
    rw [midL_rd _ N hDl x x0 (by omega), midL_rd _ N hGl x x0 (by omega)]
    exact hb
end Go.Proofs.Ytbamanjedfccpaa.HTab
end

section
set_option linter.unusedVariables false
set_option linter.unusedSimpArgs false
namespace Go.Proofs.Ytbamanjedfccpaa.HTab
open Go.RowKit Go.Proofs.YtbamanjedfccpaaW.PrintWords Go.Proofs.YtbamanjedfccpaaW.PrintLast Go.Proofs.YtbamanjedfccpaaW.PrintMore Go.Proofs.Ytbamanjedfccpaa.X
set_option linter.unusedVariables false
set_option linter.unusedSimpArgs false
def cntE (S : List Bool) (v : Int) : Int := if rdOf false S v then 1 else 0
theorem en_lin (W H : Int) (l2 l3 l4 l5 : List Int) (r r' : Int) (S : List Bool) : enE W H l2 l3 l4 l5 r' S = enE W H l2 l3 l4 l5 r S + (r' - r) * sumF (cntE S) (W * H).toNat := by
  have key : ∀ n : Nat, sumF (cellE l2 l3 r' S) n = sumF (cellE l2 l3 r S) n + (r' - r) * sumF (cntE S) n := fun n => by
    induction n with
    | zero => simp [sumF]
    | succ n ih =>
      simp only [sumF]
      rw [ih, Int.mul_add]
      unfold cellE cntE
      cases rdOf false S (n : Int) <;> simp <;> omega
  unfold enE
  rw [key]
  omega
theorem lab_or (S T : List Bool) (n : Nat) (hS : S.length = n) (hT : T.length = n) : ∃ A B : List Bool, A.length = n ∧ B.length = n ∧ ∀ x : Int, 0 ≤ x → x < n → rdOf false A x = (rdOf false S x && rdOf false T x) ∧ rdOf false B x = (rdOf false S x || rdOf false T x) :=
  ⟨andP S T S.length, orP S T S.length, by rw [andP_len]; exact hS, by rw [orP_len]; exact hS, fun x x0 x1 => ⟨andP_rd S T S.length x x0 (by omega), orP_rd S T S.length x x0 (by omega)⟩⟩
section
variable {W H : Int} {l2 l3 l4 l5 : List Int} (hc : ClOK W H l2 l3 l4 l5)
include hc
theorem lab_nested {r r' : Int} {a b a' b' : List Bool} (h : LabD W H l2 l3 l4 l5 r a b) (h' : LabD W H l2 l3 l4 l5 r' a' b') (hr : r < r') (x : Int) (x0 : 0 ≤ x) (x1 : x < W * H) (hx : rdOf false b' x = true) : rdOf false a x = true := by
  have hn := hc.n
  obtain ⟨n, hnn⟩ : ∃ n : Nat, (n : Int) = W * H := ⟨(W * H).toNat, by omega⟩
  have hla := h.la
  have hlb := h'.lb
  obtain ⟨A, B, hA, hB, hAB⟩ := lab_or a b' n (by omega) (by omega)
  have hm := en_mod hc r a b' A B (fun x x0 x1 => hAB x x0 (by omega))
  have m1 := h.min B (by omega)
  have m2 := h'.min A (by omega)
  rw [← h'.eq] at m2
  rw [en_lin W H l2 l3 l4 l5 r r' A, en_lin W H l2 l3 l4 l5 r r' b'] at m2
  have e : (W * H).toNat = n := by omega
  rw [e] at m2
  have hd : sumF (fun v => cntE b' v - cntE A v) n = sumF (cntE b') n - sumF (cntE A) n := sumF_sub _ _ n
  have h0 : ∀ v : Int, 0 ≤ v → v < n → 0 ≤ cntE b' v - cntE A v := fun v v0 v1 => by
    unfold cntE
    rw [(hAB v v0 v1).1]
    cases rdOf false a v <;> cases rdOf false b' v <;> simp
  have h1 := sumF_nonneg n h0
  have h2 : (r' - r) * (sumF (cntE b') n - sumF (cntE A) n) ≤ 0 := by
    rw [Int.mul_sub]
    omega
  have h3 : sumF (fun v => cntE b' v - cntE A v) n = 0 := by
    rw [hd] at h1 ⊢
    rcases Int.lt_or_le 0 (sumF (cntE b') n - sumF (cntE A) n) with q | q
    · have := Int.mul_pos (show 0 < r' - r by omega) q
      omega
    · omega
  have h4 := sumF_pos n h0 h3 x x0 (by omega)
  unfold cntE at h4
  rw [(hAB x x0 (by omega)).1, hx] at h4
  cases hq : rdOf false a x with
  | true => rfl
  | false => rw [hq] at h4; simp at h4
omit hc in
theorem lab_le {r : Int} {a b : List Bool} (h : LabD W H l2 l3 l4 l5 r a b) (x : Int) (x0 : 0 ≤ x) (x1 : x < W * H) (hx : rdOf false a x = true) : rdOf false b x = true := (h.btw b h.lb h.eq x x0 x1).1 hx
omit hc in
theorem rep_rd (n : Nat) (b : Bool) (x : Int) (x0 : 0 ≤ x) (x1 : x < n) : rdOf false (List.replicate n b) x = b := by
  unfold rdOf
  rw [List.getD_eq_getElem?_getD, List.getElem?_replicate, if_pos (by omega)]
  rfl
theorem pair_const (b : Bool) (n : Nat) (hn : (n : Int) = W * H) : pairE (List.replicate n b) (pairsL W l4 l5) = 0 := by
  have key : ∀ l : List S100, (∀ p ∈ l, 0 ≤ p.f0 ∧ p.f0 < (n : Int) ∧ 0 ≤ p.f1 ∧ p.f1 < (n : Int)) → pairE (List.replicate n b) l = 0 := fun l => by
    induction l with
    | nil => intro _; rfl
    | cons p l ih =>
      intro h
      obtain ⟨a0, a1, a2, a3⟩ := h p (List.mem_cons_self ..)
      simp only [pairE]
      rw [ih (fun q hq => h q (List.mem_cons_of_mem _ hq)), rep_rd n b _ a0 a1, rep_rd n b _ a2 a3]
      simp
  exact key _ (fun p hp => by
    have := pairs_in hc p hp
    omega)
theorem lab_all {r : Int} {a b : List Bool} (h : LabD W H l2 l3 l4 l5 r a b) (c : Bool) (hr : if c then r < -1000 else 1000 < r) (x : Int) (x0 : 0 ≤ x) (x1 : x < W * H) : rdOf false b x = c := by
  have hn := hc.n
  obtain ⟨n, hnn⟩ : ∃ n : Nat, (n : Int) = W * H := ⟨(W * H).toNat, by omega⟩
  have e : (W * H).toNat = n := by omega
  have m1 := h.min (List.replicate n c) (by simp; omega)
  rw [← h.eq] at m1
  unfold enE at m1
  have hp := (pairE_in b (pairsL W l4 l5) (fun p hp => (pairs_in hc p hp).2.2.2.2)).1
  rw [pair_const hc c n hnn, e] at m1
  have hd : sumF (fun v => cellE l2 l3 r b v - cellE l2 l3 r (List.replicate n c) v) n = sumF (cellE l2 l3 r b) n - sumF (cellE l2 l3 r (List.replicate n c)) n := sumF_sub _ _ n
  have h0 : ∀ v : Int, 0 ≤ v → v < n → 0 ≤ cellE l2 l3 r b v - cellE l2 l3 r (List.replicate n c) v ∧ (cellE l2 l3 r b v - cellE l2 l3 r (List.replicate n c) v = 0 → rdOf false b v = c) := fun v v0 v1 => by
    have hb2 := rd_in hc.b2 v
    have hb3 := rd_in hc.b3 v
    unfold cellE
    rw [rep_rd n c v v0 v1]
    cases c <;> cases rdOf false b v <;> simp at hr ⊢ <;> omega
  have h1 := sumF_nonneg n (fun v v0 v1 => (h0 v v0 v1).1)
  have h3 : sumF (fun v => cellE l2 l3 r b v - cellE l2 l3 r (List.replicate n c) v) n = 0 := by
    rw [hd] at h1 ⊢
    omega
  exact (h0 x x0 (by omega)).2 (sumF_pos n (fun v v0 v1 => (h0 v v0 v1).1) h3 x x0 (by omega))
end
def greatL (W H : Int) (l2 l3 l4 l5 : List Int) (r : Int) : List Bool := ((wax_Cloth_labels.f W H l2 l3 l4 l5 r).getD ([], [])).2
def isPrice (W H : Int) (l2 l3 l4 l5 : List Int) (x p : Int) : Prop := ∀ q : Int, -10000 ≤ q → q ≤ 10000 → (rdOf false (greatL W H l2 l3 l4 l5 q) x = true ↔ q ≤ p)
theorem setA_rd (x : Int) : ∀ (l out : List Int) (i : Int), (∀ y ∈ l, 0 ≤ y ∧ y < (out.length : Int)) → 0 ≤ i → rd (setA out x l) i = if i ∈ l then x else rd out i
  | [], out, i, _, i0 => by simp [setA]
  | y :: l, out, i, h, i0 => by
    obtain ⟨y0, y1⟩ := h y (List.mem_cons_self ..)
    have ih := setA_rd x l (out.set y.toNat x) i (fun z hz => by rw [List.length_set]; exact h z (List.mem_cons_of_mem _ hz)) i0
    have e : setA out x (y :: l) = setA (out.set y.toNat x) x l := rfl
    rw [e, ih]
    by_cases c : i ∈ l
    · rw [if_pos c, if_pos (List.mem_cons_of_mem _ c)]
    · rw [if_neg c, rd_set out y i x y0 (by omega) i0]
      by_cases d : i = y
      · rw [if_pos d, if_pos (by rw [d]; exact List.mem_cons_self ..)]
      · rw [if_neg d, if_neg (by simp [d, c])]
section
variable {W H : Int} {l2 l3 l4 l5 : List Int} (hv : cvB W H l2 l3 l4 l5 = true)
include hv
theorem great_lab {r : Int} (hr : -10000 ≤ r ∧ r ≤ 10000) : ∃ a, LabD W H l2 l3 l4 l5 r a (greatL W H l2 l3 l4 l5 r) := by
  obtain ⟨a, b, h⟩ := labD hv hr
  have e : greatL W H l2 l3 l4 l5 r = b := by unfold greatL; rw [h.labels]; rfl
  rw [e]
  exact ⟨a, h⟩
theorem great_mono {r r' : Int} (h0 : -10000 ≤ r) (h1 : r ≤ r') (h2 : r' ≤ 10000) (x : Int) (x0 : 0 ≤ x) (x1 : x < W * H) (hx : rdOf false (greatL W H l2 l3 l4 l5 r') x = true) : rdOf false (greatL W H l2 l3 l4 l5 r) x = true := by
  rcases Int.lt_or_eq_of_le h1 with q | q
  · obtain ⟨a, h⟩ := great_lab hv (r := r) ⟨h0, by omega⟩
    obtain ⟨a', h'⟩ := great_lab hv (r := r') ⟨by omega, h2⟩
    exact lab_le h x x0 x1 (lab_nested (cvB_ok hv) h h' q x x0 x1 hx)
  · rw [q]; exact hx
theorem part_ok (n : Nat) (hn : (n : Int) = W * H) : ∀ (k : Nat) (l : List Int) (lo hi : Int) (out : List Int), -10000 ≤ lo → lo < hi → hi ≤ 10000 → hi - lo ≤ 2 ^ k → out.length = n → (∀ x ∈ l, 0 ≤ x ∧ x < (n : Int) ∧ rdOf false (greatL W H l2 l3 l4 l5 lo) x = true ∧ rdOf false (greatL W H l2 l3 l4 l5 hi) x = false) →
    ∃ r, partP (wax_Cloth_labels.f W H l2 l3 l4 l5) (k + 1) l lo hi out = some r ∧ r.length = n ∧ ∀ x : Int, 0 ≤ x → x < n → (x ∈ l → isPrice W H l2 l3 l4 l5 x (rd r x)) ∧ (x ∉ l → rd r x = rd out x)
  | k, l, lo, hi, out, h1, h2, h3, hk, hout, hin => by
    by_cases c : l.length = 0 ∨ hi - lo = 1
    · refine ⟨setA out lo l, by simp only [partP]; rw [if_pos c], by rw [setA_len]; exact hout, fun x x0 x1 => ?_⟩
      rw [setA_rd lo l out x (fun y hy => ⟨(hin y hy).1, by have := (hin y hy).2.1; omega⟩) x0]
      refine ⟨fun hx => ?_, fun hx => by rw [if_neg hx]⟩
      rw [if_pos hx]
      obtain ⟨_, _, g0, g1⟩ := hin x hx
      intro q q0 q1
      have hd : hi - lo = 1 := by
        rcases c with c | c
        · rw [List.eq_nil_of_length_eq_zero c] at hx
          cases hx
        · exact c
      refine ⟨fun hg => ?_, fun hq => great_mono hv q0 hq (by omega) x x0 (by omega) g0⟩
      rcases Int.lt_or_le lo q with d | d
      · have := great_mono hv (r := hi) (r' := q) (by omega) (by omega) q1 x x0 (by omega) hg
        rw [g1] at this
        cases this
      · exact d
    · have hd : 2 ≤ hi - lo := by
        rcases Int.lt_or_le (hi - lo) 2 with q | q
        · exact absurd (show l.length = 0 ∨ hi - lo = 1 from .inr (by omega)) c
        · exact q
      obtain ⟨j, rfl⟩ : ∃ j, k = j + 1 := by
        cases k with
        | zero => simp at hk; omega
        | succ j => exact ⟨j, rfl⟩
      have hmid : Int.tdiv (hi - lo) 2 = (hi - lo) / 2 := Int.tdiv_eq_ediv_of_nonneg (by omega)
      have hpow : (2 : Int) ^ (j + 1) = 2 * 2 ^ j := by rw [Int.pow_succ, Int.mul_comm]
      rw [hpow] at hk
      obtain ⟨m, hm⟩ : ∃ m, m = lo + Int.tdiv (hi - lo) 2 := ⟨_, rfl⟩
      have m1 : lo < m ∧ m < hi := by rw [hm, hmid]; omega
      have m2 : m - lo ≤ 2 ^ j ∧ hi - m ≤ 2 ^ j := by rw [hm, hmid]; omega
      obtain ⟨a, b, h⟩ := labD hv (r := m) ⟨by omega, by omega⟩
      have eb : greatL W H l2 l3 l4 l5 m = b := by unfold greatL; rw [h.labels]; rfl
      have hlb := h.lb
      obtain ⟨o, ho, hol, hop⟩ := part_ok n hn j (l.filter fun i => rdOf false b i) m hi out (by omega) m1.2 h3 m2.2 hout (fun x hx => by
        obtain ⟨hx, hb⟩ := List.mem_filter.1 hx
        obtain ⟨x0, x1, g0, g1⟩ := hin x hx
        exact ⟨x0, x1, by rw [eb]; exact hb, g1⟩)
      obtain ⟨r, hr, hrl, hrp⟩ := part_ok n hn j (l.filter fun i => !rdOf false b i) lo m o h1 m1.1 (by omega) m2.1 hol (fun x hx => by
        obtain ⟨hx, hb⟩ := List.mem_filter.1 hx
        obtain ⟨x0, x1, g0, g1⟩ := hin x hx
        exact ⟨x0, x1, g0, by rw [eb]; simpa using hb⟩)
      refine ⟨r, ?_, hrl, fun x x0 x1 => ⟨fun hx => ?_, fun hx => ?_⟩⟩
      · rw [partP, if_neg c, ← hm, h.labels, Option.bind_some, if_pos (by show b.length = out.length; omega)]
        dsimp only
        rw [ho, Option.bind_some, hr]
      · cases hb : rdOf false b x with
        | true =>
          rw [(hrp x x0 x1).2 (fun q => by have := (List.mem_filter.1 q).2; rw [hb] at this; cases this)]
          exact (hop x x0 x1).1 (List.mem_filter.2 ⟨hx, hb⟩)
        | false => exact (hrp x x0 x1).1 (List.mem_filter.2 ⟨hx, by rw [hb]; rfl⟩)
      · rw [(hrp x x0 x1).2 (fun q => hx (List.mem_filter.1 q).1), (hop x x0 x1).2 (fun q => hx (List.mem_filter.1 q).1)]
theorem prices_f : ∃ r, wax_Prices.f W H l2 l3 l4 l5 = some (r, 0) ∧ (r.length : Int) = W * H ∧ ∀ x : Int, 0 ≤ x → x < W * H → isPrice W H l2 l3 l4 l5 x (rd r x) := by
  have hc := cvB_ok hv
  have hn := hc.n
  obtain ⟨n, hnn⟩ : ∃ n : Nat, (n : Int) = W * H := ⟨(W * H).toNat, by omega⟩
  have e : (W * H).toNat = n := by omega
  obtain ⟨r, hr, hrl, hrp⟩ := part_ok hv n hnn 19 (cellsL n) (-5001) 5001 (List.replicate n 0) (by omega) (by omega) (by omega) (by decide) (by simp) (fun x hx => by
    obtain ⟨j, hj, rfl⟩ := List.mem_map.1 hx
    have hj := List.mem_range.1 hj
    obtain ⟨a, h⟩ := great_lab hv (r := -5001) ⟨by omega, by omega⟩
    obtain ⟨a', h'⟩ := great_lab hv (r := 5001) ⟨by omega, by omega⟩
    exact ⟨by omega, by omega, lab_all hc h true (by simp) _ (by omega) (by omega), lab_all hc h' false (by simp) _ (by omega) (by omega)⟩)
  refine ⟨r, ?_, by omega, fun x x0 x1 => (hrp x x0 (by omega)).1 (List.mem_map.2 ⟨x.toNat, List.mem_range.2 (by omega), by omega⟩)⟩
  unfold wax_Prices.f
  rw [if_pos hv, e, hr]
  rfl
end
end Go.Proofs.Ytbamanjedfccpaa.HTab
end

section
set_option linter.unusedVariables false
set_option linter.unusedSimpArgs false
namespace Go.Proofs.Ytbamanjedfccpaa.HTab
open Go.RowKit Go.Proofs.YtbamanjedfccpaaW.PrintWords Go.Proofs.YtbamanjedfccpaaW.PrintLast Go.Proofs.YtbamanjedfccpaaW.PrintMore Go.Proofs.Ytbamanjedfccpaa.X
set_option linter.unusedVariables false
set_option linter.unusedSimpArgs false
end Go.Proofs.Ytbamanjedfccpaa.HTab
end

section
set_option linter.unusedVariables false
set_option linter.unusedSimpArgs false
namespace Go.Proofs.Ytbamanjedfccpaa.X
open Go.RowKit Go.Proofs.YtbamanjedfccpaaW.PrintWords Go.Proofs.YtbamanjedfccpaaW.PrintLast Go.Proofs.YtbamanjedfccpaaW.PrintMore
attribute [local go_sem] max2_int min2_int max_two min_two max_three min_three max_four min_four   -- for this text's walks alone
set_option linter.unusedVariables false
set_option linter.unusedSimpArgs false
end Go.Proofs.Ytbamanjedfccpaa.X
end

section
set_option linter.unusedVariables false
set_option linter.unusedSimpArgs false
namespace Go.Proofs.Ytbamanjedfccpaa.HTab
open Go.RowKit Go.Proofs.YtbamanjedfccpaaW.PrintWords Go.Proofs.YtbamanjedfccpaaW.PrintLast Go.Proofs.YtbamanjedfccpaaW.PrintMore Go.Proofs.Ytbamanjedfccpaa.X
set_option linter.unusedVariables false
set_option linter.unusedSimpArgs false
end Go.Proofs.Ytbamanjedfccpaa.HTab
end

section
set_option linter.unusedVariables false
set_option linter.unusedSimpArgs false
namespace Go.Proofs.Ytbamanjedfccpaa.X
open Go.RowKit Go.Proofs.YtbamanjedfccpaaW.PrintWords Go.Proofs.YtbamanjedfccpaaW.PrintLast Go.Proofs.YtbamanjedfccpaaW.PrintMore
attribute [local go_sem] max2_int min2_int max_two min_two max_three min_three max_four min_four   -- for this text's walks alone
set_option linter.unusedVariables false
set_option linter.unusedSimpArgs false
end Go.Proofs.Ytbamanjedfccpaa.X
end

section
set_option linter.unusedVariables false
set_option linter.unusedSimpArgs false
namespace Go.Proofs.Ytbamanjedfccpaa.HTab
open Go.RowKit Go.Proofs.YtbamanjedfccpaaW.PrintWords Go.Proofs.YtbamanjedfccpaaW.PrintLast Go.Proofs.YtbamanjedfccpaaW.PrintMore Go.Proofs.Ytbamanjedfccpaa.X
set_option linter.unusedVariables false
set_option linter.unusedSimpArgs false
theorem prices_err_f {W H : Int} {l2 l3 l4 l5 : List Int} (h : ¬ cvB W H l2 l3 l4 l5 = true) : wax_Prices.f W H l2 l3 l4 l5 = some ([], 2) := by
  unfold wax_Prices.f
  rw [if_neg h]
end Go.Proofs.Ytbamanjedfccpaa.HTab
end

section
set_option linter.unusedVariables false
set_option linter.unusedSimpArgs false
namespace Go.Proofs.Ytbamanjedfccpaa.HTab
open Go.RowKit Go.Proofs.YtbamanjedfccpaaW.PrintWords Go.Proofs.YtbamanjedfccpaaW.PrintLast Go.Proofs.YtbamanjedfccpaaW.PrintMore Go.Proofs.Ytbamanjedfccpaa.X
set_option linter.unusedVariables false
set_option linter.unusedSimpArgs false
structure RNetD (N : Nat) (l : List S34) (v : Int) (G : List (List Int)) (fr bk : List Int) : Prop where
  grt : rgrt N l = some (v, G)
  ok : GOK N G
  res : ∀ T, resG N T G = costF false T (l.map cvA) - v * (ind T 0 - ind T ((N : Int) - 1))
  v0 : 0 ≤ v
  f1 : cantingref07_way.f fuelK G 0 = some fr
  w1 : WayD N G 0 fr
  no : rd fr ((N : Int) - 1) < 0
  f2 : cantingref07_way.f fuelK (backG N G) ((N : Int) - 1) = some bk
  w2 : WayD N (backG N G) ((N : Int) - 1) bk
theorem back_sq (N : Nat) (G : List (List Int)) : GSq N (backG N G) ∧ ∀ i j : Int, 0 ≤ i → i < N → 0 ≤ j → j < N → gr (backG N G) i j = gr G j i := by
  have e : ∀ i : Int, 0 ≤ i → i < N → rd_L4 (backG N G) i = (List.range N).map fun (j : Nat) => gr G (j : Int) i := fun i i0 i1 => by
    obtain ⟨n, rfl⟩ : ∃ n : Nat, i = n := ⟨i.toNat, by omega⟩
    have hn : n < N := by omega
    simp [rd_L4, backG, hn]
  refine ⟨⟨by simp [backG], fun i i0 i1 => by rw [e i i0 i1]; simp⟩, fun i j i0 i1 j0 j1 => ?_⟩
  have h2 : gr (backG N G) i j = rd (rd_L4 (backG N G) i) j := rfl
  rw [h2, e i i0 i1]
  obtain ⟨n, rfl⟩ : ∃ n : Nat, j = n := ⟨j.toNat, by omega⟩
  have hn : n < N := by omega
  simp [rd, hn]
section
variable {N : Nat} {l : List S34} {v : Int} {G : List (List Int)} {fr bk : List Int}
end
end Go.Proofs.Ytbamanjedfccpaa.HTab
end

section
set_option linter.unusedVariables false
set_option linter.unusedSimpArgs false
namespace Go.Proofs.Ytbamanjedfccpaa.X
open Go.RowKit Go.Proofs.YtbamanjedfccpaaW.PrintWords Go.Proofs.YtbamanjedfccpaaW.PrintLast Go.Proofs.YtbamanjedfccpaaW.PrintMore
attribute [local go_sem] max2_int min2_int max_two min_two max_three min_three max_four min_four   -- for this text's walks alone
set_option linter.unusedVariables false
set_option linter.unusedSimpArgs false
end Go.Proofs.Ytbamanjedfccpaa.X
end

section
set_option linter.unusedVariables false
set_option linter.unusedSimpArgs false
namespace Go.Proofs.Ytbamanjedfccpaa.X
open Go.RowKit Go.Proofs.YtbamanjedfccpaaW.PrintWords Go.Proofs.YtbamanjedfccpaaW.PrintLast Go.Proofs.YtbamanjedfccpaaW.PrintMore
attribute [local go_sem] max2_int min2_int max_two min_two max_three min_three max_four min_four   -- for this text's walks alone
set_option linter.unusedVariables false
set_option linter.unusedSimpArgs false
end Go.Proofs.Ytbamanjedfccpaa.X
end

section
set_option linter.unusedVariables false
set_option linter.unusedSimpArgs false
namespace Go.Proofs.Ytbamanjedfccpaa.HTab
open Go.RowKit Go.Proofs.YtbamanjedfccpaaW.PrintWords Go.Proofs.YtbamanjedfccpaaW.PrintLast Go.Proofs.YtbamanjedfccpaaW.PrintMore Go.Proofs.Ytbamanjedfccpaa.X
set_option linter.unusedVariables false
set_option linter.unusedSimpArgs false
theorem fromL_len (fr : List Int) (N : Nat) : (fromL fr N).length = N := by simp [fromL]
theorem toL_len (fr : List Int) (N : Nat) : (toL fr N).length = N := by simp [toL]
theorem fromL_rd (fr : List Int) (N v : Nat) (h : v < N) : rdOf false (fromL fr N) (v : Int) = decide (0 ≤ rd fr (v : Int)) := by
  have e : rdOf false (fromL fr N) (v : Int) = (fromL fr N).getD v false := by simp [rdOf]
  rw [e]
  simp [fromL, h]
theorem toL_rd (fr : List Int) (N v : Nat) (h : v < N) : rdOf false (toL fr N) (v : Int) = decide (rd fr (v : Int) < 0) := by
  have e : rdOf false (toL fr N) (v : Int) = (toL fr N).getD v false := by simp [rdOf]
  rw [e]
  simp [toL, h]
theorem WayD.all_in {N : Nat} {g : List (List Int)} {s : Int} {fr : List Int} (h : WayD N g s fr) (P : Int → Prop) (hs : P s) (hP : ∀ y x : Int, 0 ≤ y → y < N → 0 ≤ x → x < N → 0 ≤ rd fr y → P y → 0 < gr g y x → P x) : ∀ x : Int, 0 ≤ x → x < N → 0 ≤ rd fr x → P x := by
  obtain ⟨p, hp1, hp2⟩ := h.rank
  have key : ∀ (k : Nat) (x : Int), p x ≤ k → 0 ≤ x → x < N → 0 ≤ rd fr x → P x := by
    intro k
    induction k with
    | zero =>
      intro x hk x0 x1 hx
      by_cases e : x = s
      · rw [e]; exact hs
      · obtain ⟨a, b, c⟩ := hp2 x x0 x1 e hx
        omega
    | succ k ih =>
      intro x hk x0 x1 hx
      by_cases e : x = s
      · rw [e]; exact hs
      · obtain ⟨a, b, c⟩ := hp2 x x0 x1 e hx
        have hl := h.lo x x0 x1
        exact hP (rd fr x) x hx hl.2 x0 x1 a (ih (rd fr x) (by omega) hx hl.2 a) c
  exact fun x x0 x1 hx => key (p x) x (Nat.le_refl _) x0 x1 hx
section
variable {N : Nat} {l : List S34} {v : Int} {G : List (List Int)} {fr bk : List Int} {l1 D : List Int} {GB : List Bool}
theorem RNetD.zero (r : RNetD N l v G fr bk) (T : Int → Bool) (hT : side T 0 ((N : Int) - 1)) : costF false T (l.map cvA) = v ↔ resG N T G = 0 := by
  have h1 := r.res T
  rw [ind_side hT] at h1
  omega
end
section
variable (N : Nat) (hN2 : 2 ≤ N) (hN : N ≤ 12) (l : List S34) (hl : l.length ≤ 160) (hg : GoodR N l)
include hN2 hN hl hg
end
end Go.Proofs.Ytbamanjedfccpaa.HTab
end

section
set_option linter.unusedVariables false
set_option linter.unusedSimpArgs false
namespace Go.Proofs.Ytbamanjedfccpaa.HTab
open Go.RowKit Go.Proofs.YtbamanjedfccpaaW.PrintWords Go.Proofs.YtbamanjedfccpaaW.PrintLast Go.Proofs.YtbamanjedfccpaaW.PrintMore Go.Proofs.Ytbamanjedfccpaa.X
set_option linter.unusedVariables false
set_option linter.unusedSimpArgs false
section
variable {W H : Int} {l2 l3 l4 l5 : List Int} (hc : ClOK W H l2 l3 l4 l5)
include hc
theorem rpairs_l1 : ∀ (d i fu : Nat), i + d = l5.length → d < fu → cantingref07_pairs.l1 fu ((List.range l4.length).map (pairR W l4) ++ (List.range i).map (pairD W l5)) l5 l5.length i W H l2 l3 l4 l5 = some (pairsL W l4 l5)
  | d, i, 0, h, hf => by omega
  | 0, i, fu + 1, h, hf => by
    obtain rfl : i = l5.length := by omega
    simp only [cantingref07_pairs.l1]
    rw [if_neg (by omega)]
    rfl
  | d + 1, i, fu + 1, h, hf => by
    have ih := rpairs_l1 d (i + 1) fu (by omega) (by omega)
    have hl := lens_le hc
    have hw := hc.w
    simp only [cantingref07_pairs.l1]
    rw [if_pos (by omega), if_pos (by omega), if_pos (by omega), if_pos (by simp; omega), show wrap64 ((i : Int) + 1) = ((i + 1 : Nat) : Int) from wrap_add1 (by omega) (by omega), show wrap64 ((i : Int) + W) = (i : Int) + W from wrap_id (by omega) (by omega)]
    rw [List.range_succ, List.map_append, ← List.append_assoc] at ih
    exact ih
theorem rpairs_l0 : ∀ (d i fu : Nat), i + d = l4.length → d + l5.length + 2 ≤ fu → cantingref07_pairs.l0 fu ((List.range i).map (pairR W l4)) l4 l4.length i W H l2 l3 l4 l5 = some (pairsL W l4 l5)
  | d, i, 0, h, hf => by omega
  | 0, i, fu + 1, h, hf => by
    obtain rfl : i = l4.length := by omega
    have := rpairs_l1 hc l5.length 0 fu (by omega) (by omega)
    simp only [cantingref07_pairs.l0]
    rw [if_neg (by omega)]
    rw [List.range_zero, List.map_nil, List.append_nil] at this
    exact this
  | d + 1, i, fu + 1, h, hf => by
    have ih := rpairs_l0 d (i + 1) fu (by omega) (by omega)
    have hl := lens_le hc
    have hw := hc.w
    have hr := right_in hc i (by omega)
    have hn := hc.n
    have e0 : wrap64 (W - 1) = W - 1 := wrap_id (by omega) (by omega)
    have i0 : (0 : Int) ≤ (i : Int) := by omega
    have q1 : 0 ≤ (i : Int) / (W - 1) ∧ (i : Int) / (W - 1) ≤ 36 := ⟨Int.ediv_nonneg i0 (by clear e0; omega), Int.le_trans (Int.ediv_le_self _ i0) (by clear e0; omega)⟩
    have q2 : 0 ≤ (i : Int) % (W - 1) ∧ (i : Int) % (W - 1) < W - 1 := ⟨Int.emod_nonneg _ (by clear e0; omega), Int.emod_lt_of_pos _ (by clear e0; omega)⟩
    have q3 : 0 ≤ (i : Int) / (W - 1) * W := Int.mul_nonneg q1.1 (by clear e0; omega)
    simp only [cantingref07_pairs.l0]
    rw [e0, Int.tdiv_eq_ediv_of_nonneg i0, Int.tmod_eq_emod_of_nonneg i0]
    clear e0
    rw [show wrap64 ((i : Int) / (W - 1)) = (i : Int) / (W - 1) from wrap_id (by omega) (by omega), show wrap64 ((i : Int) / (W - 1) * W) = (i : Int) / (W - 1) * W from wrap_id (by omega) (by omega), show wrap64 ((i : Int) / (W - 1) * W + (i : Int) % (W - 1)) = (i : Int) / (W - 1) * W + (i : Int) % (W - 1) from wrap_id (by omega) (by omega), show wrap64 ((i : Int) / (W - 1) * W + (i : Int) % (W - 1) + 1) = (i : Int) / (W - 1) * W + (i : Int) % (W - 1) + 1 from wrap_id (by omega) (by omega)]
    rw [if_pos (by omega), if_pos (by omega), if_pos (by omega), if_neg (by omega), if_pos (by simp; omega), show wrap64 ((i : Int) + 1) = ((i + 1 : Nat) : Int) from wrap_add1 (by omega) (by omega)]
    rw [List.range_succ, List.map_append] at ih
    exact ih
theorem rpairs_f (fu : Nat) (hf : 100 ≤ fu) : cantingref07_pairs.f fu W H l2 l3 l4 l5 = some (pairsL W l4 l5) := by
  have hl := lens_le hc
  have := rpairs_l0 hc l4.length 0 fu (by omega) (by omega)
  exact this
end
end Go.Proofs.Ytbamanjedfccpaa.HTab
namespace Go.Proofs.Ytbamanjedfccpaa.X
set_option linter.unusedVariables false
open Go.RowKit Go.Proofs.YtbamanjedfccpaaW.PrintWords Go.Proofs.YtbamanjedfccpaaW.PrintLast Go.Proofs.YtbamanjedfccpaaW.PrintMore Go.Proofs.Ytbamanjedfccpaa.HTab
end Go.Proofs.Ytbamanjedfccpaa.X
end

section
set_option linter.unusedVariables false
set_option linter.unusedSimpArgs false
namespace Go.Proofs.Ytbamanjedfccpaa.HTab
open Go.RowKit Go.Proofs.YtbamanjedfccpaaW.PrintWords Go.Proofs.YtbamanjedfccpaaW.PrintLast Go.Proofs.YtbamanjedfccpaaW.PrintMore Go.Proofs.Ytbamanjedfccpaa.X
set_option linter.unusedVariables false
set_option linter.unusedSimpArgs false
def gainC (l2 l3 : List Int) (r : Int) (i : Int) : Int := rd l2 i - rd l3 i - r
def cellG (n : Nat) (l2 l3 : List Int) (r : Int) (G : List (List Int)) (i : Nat) : List (List Int) :=
  if 0 < gainC l2 l3 r (i : Int) then putG G (n : Int) (i : Int) (gainC l2 l3 r (i : Int)) else putG G (i : Int) ((n : Int) + 1) (-gainC l2 l3 r (i : Int))
def addE (G : List (List Int)) (a b x : Int) : List (List Int) := putG G a b (wrap64 (gr G a b + x))
def addP (G : List (List Int)) (p : S100) : List (List Int) := addE (addE G p.f0 p.f1 p.f2) p.f1 p.f0 p.f2
def cellsG (n : Nat) (l2 l3 : List Int) (r : Int) (i : Nat) : List (List Int) := (List.range i).foldl (cellG n l2 l3 r) (zeroG (n + 2))
def labG (n : Nat) (W : Int) (l2 l3 l4 l5 : List Int) (r : Int) : List (List Int) := (pairsL W l4 l5).foldl addP (cellsG n l2 l3 r n)
theorem cellsG_succ (n : Nat) (l2 l3 : List Int) (r : Int) (i : Nat) : cellsG n l2 l3 r (i + 1) = cellG n l2 l3 r (cellsG n l2 l3 r i) i := by
  unfold cellsG
  rw [List.range_succ, List.foldl_append]
  rfl
def tb_rlabels_19.T : Bool × List (List Nat × List Nat) := (true, [([], []), ([], []), ([1], [1]), ([0, 2], [0, 2]), ([3], [3]), ([], []), ([5], [5]), ([4, 6], [4, 6]), ([7], [7]), ([], []), ([9], [9]), ([8, 10], [8, 10]), ([4, 6, 0, 1, 2, 3, 4, 5, 6, 7, 8, 9, 10, 11], [4, 6]), ([12, 11, 0, 1, 2, 3, 4, 5, 6, 7, 8, 9, 10, 11], [11, 12])])
def tb_rlabels_19.B : List Nat := [0, 0, 2, 7, 15, 0, 32, 127, 255, 0, 512, 2047, 4095, 8191]
theorem tb_rlabels_19.tab : rtab .any (opsOf Try.f67 19) = tb_rlabels_19.T := by kernel_rfl
theorem tb_rlabels_19.bits : waitsOk tb_rlabels_19.T.2 tb_rlabels_19.B = true := by kernel_rfl
def tb_rlabels_20.T : Bool × List (List Nat × List Nat) := (true, [([], []), ([], []), ([1], [1]), ([0, 2], [0, 2]), ([3], [3]), ([], []), ([5], [5]), ([4, 6], [4, 6]), ([7], [7]), ([], []), ([9], [9]), ([8, 10], [8, 10]), ([4, 6, 0, 1, 2, 3, 4, 5, 6, 7, 8, 9, 10, 11], [4, 6]), ([12, 11, 0, 1, 2, 3, 4, 5, 6, 7, 8, 9, 10, 11], [11, 12])])
def tb_rlabels_20.B : List Nat := [0, 0, 2, 7, 15, 0, 32, 127, 255, 0, 512, 2047, 4095, 8191]
theorem tb_rlabels_20.tab : rtab .any (opsOf Try.f67 20) = tb_rlabels_20.T := by kernel_rfl
theorem tb_rlabels_20.bits : waitsOk tb_rlabels_20.T.2 tb_rlabels_20.B = true := by kernel_rfl
def tb_rlabels_23.T : Bool × List (List Nat × List Nat) := (true, [([], []), ([], []), ([0, 1], [0, 1]), ([], []), ([], []), ([3, 4], [3, 4]), ([2, 0, 1, 2], [2]), ([5, 6, 0, 1, 2, 3, 4, 5, 6], [5])])
def tb_rlabels_23.B : List Nat := [0, 0, 3, 0, 0, 24, 7, 127]
theorem tb_rlabels_23.tab : rtab .any (opsOf Try.f67 23) = tb_rlabels_23.T := by kernel_rfl
theorem tb_rlabels_23.bits : waitsOk tb_rlabels_23.T.2 tb_rlabels_23.B = true := by kernel_rfl
set_option maxRecDepth 100000 in
set_option maxHeartbeats 8000000 in
theorem rlabels_ok (C : Cl) (r : Int) (w : World) (hI : C.In w) (hv : ClOK C.W C.H C.l2 C.l3 C.l4 C.l5) (hr : -10001 ≤ r ∧ r ≤ 10001) (n : Nat) (hn : (n : Int) = C.W * C.H) (hn1 : 1 ≤ n) (hn36 : n ≤ 36) (v : Int) (G1 : List (List Int)) (hP : grtP fuelK (n + 2) (n : Int) ((n : Int) + 1) fuelW (labG n C.W C.l2 C.l3 C.l4 C.l5 r) 0 = some (v, G1))
    (fr bk : List Int) (hfr : cantingref07_way.f fuelK G1 (n : Int) = some fr) (hfl : fr.length = n + 2) (hto : cantingref07_way.f fuelK (backG (n + 2) G1) ((n : Int) + 1) = some bk) (htl : bk.length = n + 2) :
    Calls Try.prog 67 #[.agg #[.int .i64 C.W, .int .i64 C.H, .slice C.A2 C.l2.length C.c2, .slice C.A3 C.l3.length C.c3, .slice C.A4 C.l4.length C.c4, .slice C.A5 C.l5.length C.c5], .int .i64 r] w fun e w' => ∃ v1 v2 : Value, e = .returned (.tuple #[v1, v2]) ∧ KB.R 4 w' w.heap.size (fun k => some k ≠ v2.ownBlock) v1 ((fromL fr (n + 2)).take n) ∧ KB.R 4 w' w.heap.size (fun k => some k ≠ v1.ownBlock) v2 ((toL bk (n + 2)).take n) ∧ Below w.heap.size w w' := by
  have HI := Aside0.mk hI
  have HV := Aside0.mk hv
  have HP := Aside0.mk hP
  have HF := Aside0.mk hfr
  have HT := Aside0.mk hto
  have HL := Aside0.mk (And.intro hfl htl)
  have HN2 : Aside0 (C.l2.length = n ∧ C.l3.length = n) := ⟨by have := hv.n2; have := hv.n3; omega⟩
  have e0 : wrap64 (C.W * C.H) = (n : Int) := by rw [← hn]; exact wrap_id (by omega) (by omega)
  have e2 : wrap64 ((n : Int) + 2) = ((n + 2 : Nat) : Int) := by rw [wrap_id (by omega) (by omega)]; omega
  have e1 : wrap64 ((n : Int) + 1) = (n : Int) + 1 := wrap_id (by omega) (by omega)
  obtain ⟨W0, hW0⟩ : ∃ W, W = w.alloc (.cells #[.int .i64 C.W, .int .i64 C.H, .slice C.A2 C.l2.length C.c2, .slice C.A3 C.l3.length C.c3, .slice C.A4 C.l4.length C.c4, .slice C.A5 C.l5.length C.c5] 61) := ⟨_, rfl⟩
  have HB0 := Aside0.mk (show Below w.heap.size w W0 by rw [hW0]; exact below_alloc (Below.refl _ _) _)
  have hbx : W0.heap[w.heap.size]? = some (.cells #[.int .i64 C.W, .int .i64 C.H, .slice C.A2 C.l2.length C.c2, .slice C.A3 C.l3.length C.c3, .slice C.A4 C.l4.length C.c4, .slice C.A5 C.l5.length C.c5] 61 (0, 0)) := by rw [hW0]; exact blk_new _ _
  have HBX := Aside0.mk hbx
  have j0 : W0.cell? ⟨w.heap.size, 0, none⟩ = some (.int .i64 C.W) := (blk_cell hbx 0).trans rfl
  have j1 : W0.cell? ⟨w.heap.size, 1, none⟩ = some (.int .i64 C.H) := (blk_cell hbx 1).trans rfl
  rw [hW0] at j0 j1
  obtain ⟨Nn, hNn⟩ : ∃ Nn, Nn = n + 2 := ⟨_, rfl⟩
  have H36 := Aside0.mk (And.intro hn1 (And.intro hn36 (And.intro hNn hr)))
  rw [← hNn] at e2
  clear hI hv hP hfr hfl hto htl hbx hn hn1 hn36 hNn hr
  go_enter Try.func67, Try.ntmps67
  go_wp2_with ((with_reducible refine gate_dst (N := 22) rfl ?_); refine mark_ ?_)
  rw [← hW0]
  refine ⟨?_⟩
  refine Kd.R_make nilK (w0 := w) w.heap.size 40 rfl (N := 22) rfl 90 _ _ rfl (Nn : Int) (congrArg (Value.int .i64) e2) (congrArg (Value.int .i64) e2) Try.underlying90 (.slice none 0 0) 24 info40 rfl (by decide) (by omega) () (ok := fun _ => True) (okp := fun _ => False) rfl (fun _ h => h.elim) trivial (by omega) (by rw [Int.toNat_natCast]; have := H36.out; omega) HB0.out HB0.out.size ?_
  intro vo w4 hR4 hB4 hg4 hne4
  rw [Int.toNat_natCast] at hR4
  obtain ⟨A, c, rfl, hbo, hbl, _⟩ := Kd.R_form hR4 (by rw [List.length_replicate]; have := H36.out; omega)
  rw [List.length_replicate] at hR4 ⊢
  have HG4 := Aside0.mk (GM.made (fun _ => 0) (fun _ => 0) hR4)
  have HB4 := Aside0.mk hB4
  have HBX4 := Aside0.mk (blk_grown (w := W0) HBX.out hg4 (by simp))
  clear hR4 hB4 hg4 hne4 hbl HBX HB0 j0 j1 hW0
  obtain ⟨M, hM⟩ : ∃ M : Int, M = (n : Int) + 1 := ⟨_, rfl⟩
  have E1 : Aside0 (wrap64 ((n : Int) + 1) = M) := ⟨by rw [hM]; exact e1⟩
  have HM := Aside0.mk hM
  clear hM
  have E2 := Aside0.mk e2
  go_wp2
  clear e0 e1 e2
  go_loopg [25] (Nn) (fun kq v25 w' => ∃ (i : Nat) (p q : Nat → Nat) (G : List (List Int)), i + kq = Nn ∧ v25 = .int .i64 i ∧ Aside0 (GM w' w.heap.size w'.heap.size A c Nn p q i G) ∧ Aside0 (∀ j : Nat, j < i → rd_L4 G (j : Nat) = List.replicate Nn 0) ∧ Aside0 (Below w.heap.size w w') ∧ Aside0 (w'.heap[w.heap.size]? = some (.cells #[.int .i64 C.W, .int .i64 C.H, .slice C.A2 C.l2.length C.c2, .slice C.A3 C.l3.length C.c3, .slice C.A4 C.l4.length C.c4, .slice C.A5 C.l5.length C.c5] 61 (0, 0))))
  case atStart => exact ⟨0, fun _ => 0, fun _ => 0, List.replicate Nn [], by omega, rfl, HG4, ⟨fun j hj => by omega⟩, HB4, HBX4⟩
  case round =>
    clear HG4 HB4 HBX4
    obtain ⟨i, p, q, G, hi, rfl, HG, HR, HB, HX⟩ := hrel
    by_cases hlt : i < Nn
    · have hdec : decide (i < Nn) = true := decide_eq_true hlt
      have b0 : ((i : Int) < 0) = False := eq_false (by omega)
      have b1 : ((i : Int) < (Nn : Int)) = True := eq_true (by omega)
      have e2 := E2.out
      go_wp2_with ((with_reducible refine gate_dst (N := 32) rfl ?_); refine mark_ ?_)
      clear e2
      refine ⟨?_⟩
      refine Kd.R_make KI (w0 := wr) wr.heap.size 3 rfl (N := 32) rfl 40 _ _ rfl (Nn : Int) (congrArg (Value.int .i64) E2.out) (congrArg (Value.int .i64) E2.out) Try.underlying40 (.int .i64 0) 8 info3 rfl (by decide) (by omega) 0 (ok := fun _ => True) (okp := fun _ => True) rfl (fun _ hk => hk) trivial (by omega) (by rw [Int.toNat_natCast]; have := H36.out; omega) (Below.refl _ _) (Nat.le_refl _) ?_
      intro vr w5 hR5 hB5 hg5 hne5
      rw [Int.toNat_natCast] at hR5
      obtain ⟨ρ, cr, rfl, hρ, hρl, _⟩ := Kd.R_form hR5 (by rw [List.length_replicate]; have := H36.out; omega)
      rw [List.length_replicate] at hR5 ⊢
      have hbw := HB.out.size
      have hR6 : KI.R 3 w5 w.heap.size (fun x => x = ρ) (.slice (some ⟨ρ, 0, none⟩) Nn cr) (List.replicate Nn 0) := Kd.R_mono (Kd.R_lower (Kd.R_tight rfl hR5) hbw) (fun k hk => by injection hk)
      have hG5 := (HG.out.below hB5).up hB5.size
      have fz := hG5.fz i
      have kz := hG5.cell0 i (Nat.le_refl _) hlt
      have HG6 : Aside0 (GM (w5.setCell ⟨A, i, none⟩ (.slice (some ⟨ρ, 0, none⟩) Nn cr)) w.heap.size w5.heap.size A c Nn (fun j => if j = i then ρ else p j) (fun j => if j = i then cr else q j) (i + 1) (G.set i (List.replicate Nn 0))) :=
        ⟨hG5.lay hlt hR6 ⟨by omega, hρl, by have := HG.out.bA; omega⟩ (fun j hj e => by have := (HG.out.pM j hj).2.1; omega)⟩
      have HR6 : Aside0 (∀ j : Nat, j < i + 1 → rd_L4 (G.set i (List.replicate Nn 0)) (j : Nat) = List.replicate Nn 0) := ⟨fun j hj => by
        have e := rdL_set G (i : Int) (j : Int) (List.replicate Nn 0) (by omega) (by rw [HG.out.len]; omega) (by omega)
        rw [Int.toNat_natCast] at e
        rw [e]
        split
        · rfl
        · exact HR.out j (by omega)⟩
      have HB6 : Aside0 (Below w.heap.size w (w5.setCell ⟨A, i, none⟩ (.slice (some ⟨ρ, 0, none⟩) Nn cr))) := ⟨below_set (below_then HB.out hbw hB5) HG.out.bA.1⟩
      have HX6 : Aside0 ((w5.setCell ⟨A, i, none⟩ (.slice (some ⟨ρ, 0, none⟩) Nn cr)).heap[w.heap.size]? = some (.cells #[.int .i64 C.W, .int .i64 C.H, .slice C.A2 C.l2.length C.c2, .slice C.A3 C.l3.length C.c3, .slice C.A4 C.l4.length C.c4, .slice C.A5 C.l5.length C.c5] 61 (0, 0))) := ⟨blk_far (p := ⟨A, i, none⟩) (blk_below HX.out hB5) (fun e => by replace e : w.heap.size = A := e; obtain ⟨cells, hb, _⟩ := HG.out.blk; have := HX.out; rw [e, hb] at this; injection this with this; injection this with h1 h2; exact absurd h2 (by decide)) _⟩
      clear hR5 hR6 hB5 hg5 hne5 hG5 HG HR HB HX hρ hρl hbw
      have iw : wrap64 ((i : Int) + 1) = ((i + 1 : Nat) : Int) := wrap_add1 (by omega) (by have := H36.out; omega)
      go_wp2
      go_roundg (Nn - (i + 1))
      case measure => clear iw; omega
      case rel => exact ⟨i + 1, _, _, _, by clear iw; omega, by first | rfl | exact congrArg (Value.int .i64) iw, ⟨by simpa using HG6.out⟩, HR6, HB6, HX6⟩
    · have hdec : decide (i < Nn) = false := decide_eq_false hlt
      obtain rfl : i = Nn := by omega
      have HZ : Aside0 (G = cellsG n C.l2 C.l3 r 0) := ⟨by rw [zeroG_eq HG.out.len HR.out, H36.out.2.2.1]; rfl⟩
      clear hlt HR
      go_wp2
      clear hdec
      have HG0 : Aside0 (GM wr w.heap.size wr.heap.size A c i p q i (cellsG n C.l2 C.l3 r 0)) := ⟨by rw [← HZ.out]; exact HG.out⟩
      clear HG HZ
      go_loopg [36] (n) (fun kq v25 w' => ∃ (j : Nat), j + kq = n ∧ v25 = .int .i64 j ∧ Aside0 (GM w' w.heap.size w'.heap.size A c i p q i (cellsG n C.l2 C.l3 r j)) ∧ Aside0 (Below w.heap.size w w') ∧ Aside0 (w'.heap[w.heap.size]? = some (.cells #[.int .i64 C.W, .int .i64 C.H, .slice C.A2 C.l2.length C.c2, .slice C.A3 C.l3.length C.c3, .slice C.A4 C.l4.length C.c4, .slice C.A5 C.l5.length C.c5] 61 (0, 0))))
      case atStart => exact ⟨0, by have := H36.out; omega, rfl, HG0, HB, HX⟩
      case round =>
        clear HG0 HB HX
        obtain ⟨j, hj, rfl, HG, HB, HX⟩ := hrel
        by_cases hlt : j < n
        · have hdec : decide (j < n) = true := decide_eq_true hlt
          have hIr := HI.out.below HB.out
          have hb2 := rd_in HV.out.b2 (j : Int)
          have hb3 := rd_in HV.out.b3 (j : Int)
          obtain ⟨a2, ea2, k2⟩ := Kd.at_int hIr.r2 (j : Int) (by have := H36.out; omega) (by have := HN2.out; have := H36.out; omega)
          obtain ⟨a3, ea3, k3⟩ := Kd.at_int hIr.r3 (j : Int) (by have := H36.out; omega) (by have := HN2.out; have := H36.out; omega)
          have x2 := (blk_cell HX.out 2).trans rfl
          have x3 := (blk_cell HX.out 3).trans rfl
          rw [ea2] at x2
          rw [ea3] at x3
          simp only [Int.toNat_natCast] at k2 k3
          have hg : gainC C.l2 C.l3 r (j : Int) = rd C.l2 (j : Int) - rd C.l3 (j : Int) - r := rfl
          have hs := cellsG_succ n C.l2 C.l3 r j
          unfold cellG at hs
          obtain ⟨d, hd⟩ : ∃ d, d = gainC C.l2 C.l3 r (j : Int) := ⟨_, rfl⟩
          obtain ⟨y, hy⟩ : ∃ y, y = rd C.l2 (j : Int) := ⟨_, rfl⟩
          obtain ⟨z, hz⟩ : ∃ z, z = rd C.l3 (j : Int) := ⟨_, rfl⟩
          rw [← hd] at hs hg
          rw [← hy] at k2 hb2 hg
          rw [← hz] at k3 hb3 hg
          have u1 : wrap64 (y - z) = y - z := wrap_id (by have := H36.out; omega) (by have := H36.out; omega)
          have u2 : wrap64 (y - z - r) = d := by rw [hg]; exact wrap_id (by have := H36.out; omega) (by have := H36.out; omega)
          have u3 : wrap64 (-d) = -d := wrap_id (by have := H36.out; omega) (by have := H36.out; omega)
          have l2n : ((j : Int) < (C.l2.length : Int)) = True := eq_true (by clear u1 u2 u3; have := HN2.out; have := H36.out; omega)
          have l3n : ((j : Int) < (C.l3.length : Int)) = True := eq_true (by clear u1 u2 u3; have := HN2.out; have := H36.out; omega)
          have j0n : ((j : Int) < 0) = False := eq_false (by clear u1 u2 u3; have := H36.out; omega)
          have c0 : ((n : Int) < 0) = False := eq_false (by clear u1 u2 u3; have := H36.out; omega)
          have c1 : ((n : Int) < (i : Int)) = True := eq_true (by clear u1 u2 u3; have := H36.out; omega)
          have c2 : ((j : Int) < (i : Int)) = True := eq_true (by clear u1 u2 u3; have := H36.out; omega)
          have c3 : (M < (i : Int)) = True := eq_true (by clear u1 u2 u3; have := H36.out; have := HM.out; omega)
          have c4 : (M < 0) = False := eq_false (by clear u1 u2 u3; have := H36.out; have := HM.out; omega)
          have c5 : (0 ≤ M) = True := eq_true (by clear u1 u2 u3; have := H36.out; have := HM.out; omega)
          have jw : wrap64 ((j : Int) + 1) = ((j + 1 : Nat) : Int) := wrap_add1 (by clear u1 u2 u3; have := H36.out; omega) (by clear u1 u2 u3; have := H36.out; omega)
          by_cases hd0 : 0 < d
          · rw [if_pos hd0] at hs
            have hdd : decide (0 < d) = true := decide_eq_true hd0
            have kc := HG.out.cell (n : Int) (by clear u1 u2 u3 jw; have := H36.out; omega) (by clear u1 u2 u3 jw; have := H36.out; omega)
            obtain ⟨ke, fe⟩ := HG.out.at_ (n : Int) (by clear u1 u2 u3 jw; have := H36.out; omega) (by clear u1 u2 u3 jw; have := H36.out; omega) (j : Int) (by clear u1 u2 u3 jw; have := H36.out; omega) (by clear u1 u2 u3 jw; have := H36.out; omega)
            have hpi := HG.out.pM n (by clear u1 u2 u3 jw; have := H36.out; omega)
            have hpu := fun m : Nat => (HG.out.below (pw_below_drewN (Below.refl _ _) m)).put (n : Int) (by clear u1 u2 u3 jw; have := H36.out; omega) (by clear u1 u2 u3 jw; have := H36.out; omega) (j : Int) d
            simp only [Int.toNat_natCast] at kc ke fe hpu
            have HG7 : Aside0 (∀ m, GM ((wr.drewN m).setCell ⟨p n, j, none⟩ (.int .i64 d)) w.heap.size ((wr.drewN m).setCell ⟨p n, j, none⟩ (.int .i64 d)).heap.size A c i p q i (cellsG n C.l2 C.l3 r (j + 1))) := ⟨fun m => by rw [hs]; exact GM.up (hpu m) (by simp)⟩
            have HB7 : Aside0 (∀ m, Below w.heap.size w ((wr.drewN m).setCell ⟨p n, j, none⟩ (.int .i64 d))) := ⟨fun m => (pw_below_drewN HB.out m).setCell hpi.1 _⟩
            have HX7 := Aside0.mk (fun m : Nat => blk_far (p := ⟨p n, j, none⟩) (blk_drewN HX.out m) (fun e => by replace e : w.heap.size = p n := e; obtain ⟨cs, hcs⟩ := Kd.R_typed (HG.out.row n (by clear u1 u2 u3 jw; have := H36.out; omega)) _ rfl; have := HX.out; rw [e, hcs] at this; injection this with this; injection this with h1 h2; exact absurd h2 (by decide)) (.int .i64 d))
            clear hs hd hy hz hg hIr hb2 hb3 ea2 ea3 hpi hpu HG HB HX
            have e1 := E1.out
            go_wp2
            repeat (go_quiet (fail); try go_wp2)
            clear e1
            go_roundg (n - (j + 1))
            case measure => clear u1 u2 u3 jw; have := H36.out; omega
            case rel => exact ⟨j + 1, by clear u1 u2 u3 jw; have := H36.out; omega, by first | rfl | exact congrArg (Value.int .i64) jw, ⟨HG7.out _⟩, ⟨HB7.out _⟩, ⟨HX7.out _⟩⟩
          · rw [if_neg hd0, ← HM.out] at hs
            have hdd : decide (0 < d) = false := decide_eq_false hd0
            have kc := HG.out.cell (j : Int) (by clear u1 u2 u3 jw; have := H36.out; have := HM.out; omega) (by clear u1 u2 u3 jw; have := H36.out; have := HM.out; omega)
            obtain ⟨ke, fe⟩ := HG.out.at_ (j : Int) (by clear u1 u2 u3 jw; have := H36.out; have := HM.out; omega) (by clear u1 u2 u3 jw; have := H36.out; have := HM.out; omega) M (by clear u1 u2 u3 jw; have := H36.out; have := HM.out; omega) (by clear u1 u2 u3 jw; have := H36.out; have := HM.out; omega)
            have hpi := HG.out.pM j (by clear u1 u2 u3 jw; have := H36.out; have := HM.out; omega)
            have hpu := fun m : Nat => (HG.out.below (pw_below_drewN (Below.refl _ _) m)).put (j : Int) (by clear u1 u2 u3 jw; have := H36.out; have := HM.out; omega) (by clear u1 u2 u3 jw; have := H36.out; have := HM.out; omega) M (-d)
            simp only [Int.toNat_natCast] at kc ke fe hpu
            have HG7 : Aside0 (∀ m, GM ((wr.drewN m).setCell ⟨p j, M.toNat, none⟩ (.int .i64 (-d))) w.heap.size ((wr.drewN m).setCell ⟨p j, M.toNat, none⟩ (.int .i64 (-d))).heap.size A c i p q i (cellsG n C.l2 C.l3 r (j + 1))) := ⟨fun m => by rw [hs]; exact GM.up (hpu m) (by simp)⟩
            have HB7 : Aside0 (∀ m, Below w.heap.size w ((wr.drewN m).setCell ⟨p j, M.toNat, none⟩ (.int .i64 (-d)))) := ⟨fun m => (pw_below_drewN HB.out m).setCell hpi.1 _⟩
            have HX7 := Aside0.mk (fun m : Nat => blk_far (p := ⟨p j, M.toNat, none⟩) (blk_drewN HX.out m) (fun e => by replace e : w.heap.size = p j := e; obtain ⟨cs, hcs⟩ := Kd.R_typed (HG.out.row j (by clear u1 u2 u3 jw; have := H36.out; have := HM.out; omega)) _ rfl; have := HX.out; rw [e, hcs] at this; injection this with this; injection this with h1 h2; exact absurd h2 (by decide)) (.int .i64 (-d)))
            clear hs hd hy hz hg hIr hb2 hb3 ea2 ea3 hpi hpu HG HB HX
            have e1 := E1.out
            go_wp2
            repeat (go_quiet (fail); try go_wp2)
            clear e1
            go_roundg (n - (j + 1))
            case measure => clear u1 u2 u3 jw; have := H36.out; have := HM.out; omega
            case rel => exact ⟨j + 1, by clear u1 u2 u3 jw; have := H36.out; have := HM.out; omega, by first | rfl | exact congrArg (Value.int .i64) jw, ⟨HG7.out _⟩, ⟨HB7.out _⟩, ⟨HX7.out _⟩⟩
        · have hdec : decide (j < n) = false := decide_eq_false hlt
          have HJ : Aside0 (j = n) := ⟨by omega⟩
          have kc : ∀ k : Nat, _ := fun k => blk_cell HX.out k
          have x0 := (kc 0).trans rfl
          have x1 := (kc 1).trans rfl
          have x2 := (kc 2).trans rfl
          have x3 := (kc 3).trans rfl
          have x4 := (kc 4).trans rfl
          have x5 := (kc 5).trans rfl
          have HIr := Aside0.mk (HI.out.below HB.out)
          have HGn : Aside0 (GM wr w.heap.size wr.heap.size A c i p q i (cellsG n C.l2 C.l3 r n)) := ⟨by have := HG.out; rw [HJ.out] at this; exact this⟩
          clear kc hlt HG HX hj
          go_wp2_with fail
          refine (cantingref07_pairs.calls 200 C.W C.H C.A2 C.c2 C.l2 C.A3 C.c3 C.l3 C.A4 C.c4 C.l4 C.A5 C.c5 C.l5 (pairsL C.W C.l4 C.l5) wr HIr.out.r2 HIr.out.h2 HIr.out.r3 HIr.out.h3 HIr.out.r4 HIr.out.h4 HIr.out.r5 HIr.out.h5 (rpairs_f HV.out 200 (by omega))).mono ?_
          rintro e w2 ⟨vp, rfl, hP, hb2⟩
          obtain ⟨Ap, cp, rfl⟩ := Kd.R_slice hP
          have HB2 := Aside0.mk (below_then HB.out HB.out.size hb2)
          obtain ⟨M0, hM0⟩ : ∃ m, m = wr.heap.size := ⟨_, rfl⟩
          have HPR := Aside0.mk (Kd.R_mono (ok' := fun k => M0 ≤ k) (Kd.R_bound hP) (fun k hk => by rw [hM0]; exact hk.2.1))
          have HS0 : Aside0 (M0 ≤ w2.heap.size) := ⟨by rw [hM0]; exact hb2.size⟩
          have hpl : Aside0 ((pairsL C.W C.l4 C.l5).length ≤ 72) := ⟨pairs_len HV.out⟩
          have HG2 := HGn.out.below hb2
          obtain ⟨P, hPe⟩ : ∃ P, P = pairsL C.W C.l4 C.l5 := ⟨_, rfl⟩
          have HIN : Aside0 (∀ p ∈ P, 0 ≤ p.f0 ∧ p.f0 < (i : Int) ∧ 0 ≤ p.f1 ∧ p.f1 < (i : Int)) := ⟨fun p hp => by
            have a := pairs_in HV.out p (by rw [← hPe]; exact hp)
            have b := HV.out.n2
            have c := HN2.out
            have d := H36.out
            omega⟩
          have HPE : Aside0 (P.foldl addP (cellsG n C.l2 C.l3 r n) = labG n C.W C.l2 C.l3 C.l4 C.l5 r) := ⟨by rw [hPe]; rfl⟩
          have HG0 : Aside0 (GM w2 w.heap.size M0 A c i p q i ((P.take 0).foldl addP (cellsG n C.l2 C.l3 r n))) := ⟨by rw [hM0]; exact HG2⟩
          rw [← hPe, ← hM0] at HPR
          rw [← hPe] at hpl ⊢
          clear hM0 hP hb2 x0 x1 x2 x3 x4 x5 HIr HGn HG2 hPe HB hdec
          go_wp2
          go_loopg [74] (P.length) (fun kq vi w' => ∃ j : Nat, j + kq = P.length ∧ vi = .int .i64 j ∧ Aside0 (GM w' w.heap.size M0 A c i p q i ((P.take j).foldl addP (cellsG n C.l2 C.l3 r n))) ∧ Aside0 (Below w.heap.size w w') ∧ Aside0 (Kd.R k100 121 w' M0 (fun k => M0 ≤ k) (.slice Ap P.length cp) P) ∧ Aside0 (M0 ≤ w'.heap.size))
          case atStart => exact ⟨0, by omega, rfl, HG0, HB2, HPR, HS0⟩
          case round =>
            clear HG0 HB2 HPR HS0
            obtain ⟨j, hj, rfl, HG, HB, HPR, HS0⟩ := hrel
            by_cases hlt : j < P.length
            · have hdec : decide (j < P.length) = true := decide_eq_true hlt
              have jw : Aside0 (wrap64 ((j : Int) + 1) = ((j + 1 : Nat) : Int)) := ⟨wrap_add1 (by omega) (by have := hpl.out; omega)⟩
              obtain ⟨ad, rfl, y0, y1, y2⟩ := at_T100 (Kd.R_reads' HPR.out).2.2 (j : Int) (by omega) (by omega)
              simp only [Int.toNat_natCast] at y0 y1 y2
              have hrd : rd_T100 P (j : Int) = P[j] := by simp [rd_T100, hlt]
              obtain ⟨e0, e1, e2, e3⟩ := HIN.out P[j] (List.getElem_mem _)
              obtain ⟨⟨a0, a1, a2⟩, ha⟩ : ∃ a : S100, a = P[j] := ⟨_, rfl⟩
              obtain ⟨G, hG⟩ : ∃ g, g = (P.take j).foldl addP (cellsG n C.l2 C.l3 r n) := ⟨_, rfl⟩
              have HN : Aside0 ((P.take (j + 1)).foldl addP (cellsG n C.l2 C.l3 r n) = addE (addE G a0 a1 a2) a1 a0 a2) := ⟨by rw [List.take_succ_eq_append_getElem hlt, List.foldl_append, ← hG, ← ha]; rfl⟩
              rw [hrd, ← ha] at y0 y1 y2
              rw [← ha] at e0 e1 e2 e3
              dsimp only at y0 y1 y2 e0 e1 e2 e3
              rw [← hG] at HG
              clear hrd ha hG
              go_wp2_with ((with_reducible refine gate_dst (N := 12) rfl ?_); refine mark_ ?_)
              refine ⟨?_⟩
              refine box_event (by rfl) rfl (cs := #[.int .i64 0, .int .i64 0, .int .i64 0]) (t := 121) ?_ ?_
              · first | (go_simp; done) | (go_simp; rfl)
              intro ga hga w5 hbx5 hb5
              have y0' : w5.cell? ⟨ga, 0, none⟩ = some (.int .i64 0) := (blk_cell hbx5 0).trans rfl
              have y1' : w5.cell? ⟨ga, 1, none⟩ = some (.int .i64 0) := (blk_cell hbx5 1).trans rfl
              have y2' : w5.cell? ⟨ga, 2, none⟩ = some (.int .i64 0) := (blk_cell hbx5 2).trans rfl
              have z0 := blk_frozen hbx5 0
              have z1 := blk_frozen hbx5 1
              have z2 := blk_frozen hbx5 2
              have hgm : wr.heap.size ≤ ga := by omega
              have hg0 : M0 ≤ ga := Nat.le_trans HS0.out hgm
              have HBr := below_set (j := 2) (v := .int .i64 a2) (below_set (j := 1) (v := .int .i64 a1) (below_set (j := 0) (v := .int .i64 a0) hb5 hgm) hgm) hgm
              have HP6 := Aside0.mk (Kd.R_below HPR.out HBr)
              have BA6 := Aside0.mk (blk_put (blk_put (blk_put hbx5 0 (.int .i64 a0) rfl) 1 (.int .i64 a1) rfl) 2 (.int .i64 a2) rfl)
              have HG6 := Aside0.mk ((((HG.out.below hb5).far (o := 0) hg0 (.int .i64 a0)).far (o := 1) hg0 (.int .i64 a1)).far (o := 2) hg0 (.int .i64 a2))
              have hgw : w.heap.size ≤ ga := Nat.le_trans HB.out.size hgm
              have HB6 := Aside0.mk (below_set (j := 2) (v := .int .i64 a2) (below_set (j := 1) (v := .int .i64 a1) (below_set (j := 0) (v := .int .i64 a0) (below_then HB.out HB.out.size hb5) hgw) hgw) hgw)
              have HGN : Aside0 (M0 ≤ ga) := ⟨hg0⟩
              have HSZ : Aside0 (M0 ≤ w5.heap.size) := ⟨Nat.le_trans HS0.out hb5.size⟩
              clear hbx5 hb5 hga y0 y1 y2 HG HB hgm hgw hg0 HBr HPR HS0
              go_wp2
              obtain ⟨W6, hW6⟩ : ∃ W, W = ((w5.setCell ⟨ga, 0, none⟩ (.int .i64 a0)).setCell ⟨ga, 1, none⟩ (.int .i64 a1)).setCell ⟨ga, 2, none⟩ (.int .i64 a2) := ⟨_, rfl⟩
              have HSZ6 : Aside0 (M0 ≤ W6.heap.size) := ⟨by rw [hW6]; simpa using HSZ.out⟩
              rw [← hW6] at BA6 HG6 HB6 HP6 ⊢
              clear hW6 y0' y1' y2' z0 z1 z2
              have u0 : (a0 < 0) = False := eq_false (by omega)
              have u1 : (a0 < (i : Int)) = True := eq_true e1
              have v0 : (a1 < 0) = False := eq_false (by omega)
              have v1 : (a1 < (i : Int)) = True := eq_true e3
              have HNE : Aside0 (∀ k, k < i → p k ≠ ga) := ⟨fun k hk e => by have := (HG6.out.pM k hk).2.1; have := HGN.out; omega⟩
              have ka0 := (blk_cell BA6.out 0).trans rfl
              have ka1 := (blk_cell BA6.out 1).trans rfl
              have ka2 := (blk_cell BA6.out 2).trans rfl
              have kr := HG6.out.cell a0 e0 e1
              obtain ⟨ke, fe⟩ := HG6.out.at_ a0 e0 e1 a1 e2 e3
              obtain ⟨x, hx⟩ : ∃ x, x = wrap64 (gr G a0 a1 + a2) := ⟨_, rfl⟩
              have hpi := HG6.out.pM a0.toNat (by omega)
              obtain ⟨W7, hW7⟩ : ∃ W, W = (W6.setCell ⟨p a0.toNat, a1.toNat, none⟩ (.int .i64 x)).drew := ⟨_, rfl⟩
              have HG7 : Aside0 (GM W7 w.heap.size M0 A c i p q i (addE G a0 a1 a2)) := ⟨by rw [hW7, hx]; exact (HG6.out.put a0 e0 e1 a1 _).below (below_drew (Below.refl _ _))⟩
              have HB7 : Aside0 (Below w.heap.size w W7) := ⟨by rw [hW7]; exact below_drew (HB6.out.setCell hpi.1 _)⟩
              have HS7 : Aside0 (M0 ≤ W7.heap.size) := ⟨by rw [hW7]; simpa using HSZ6.out⟩
              have ba7 := blk_drew (blk_far (p := ⟨p a0.toNat, a1.toNat, none⟩) BA6.out (fun e => HNE.out _ (by omega) e.symm) (.int .i64 x))
              rw [← hW7] at ba7
              have BA7 := Aside0.mk ba7
              clear ba7
              have HP7 : Aside0 (Kd.R k100 121 W7 M0 (fun k => M0 ≤ k) (.slice (some ad) P.length cp) P) := ⟨by rw [hW7]; exact Kd.R_drew (Kd.R_far (p := ⟨p a0.toNat, a1.toNat, none⟩) HP6.out (fun y hy e => by have := hpi.2.1; replace e : y = p a0.toNat := e; omega) _)⟩
              clear HB6 hpi HSZ HSZ6 HP6
              replace hx := Aside0.mk hx
              replace hW7 := Aside0.mk hW7
              refine start_ (n := 14) (S := fun w' => (w'.cell? ⟨ga, 0, none⟩ = some (.int .i64 a0)) ∧ (w'.cell? ⟨ga, 1, none⟩ = some (.int .i64 a1)) ∧ (w'.cell? ⟨ga, 2, none⟩ = some (.int .i64 a2)) ∧ (w'.cell? ⟨A, a0.toNat, none⟩ = some (.slice (some ⟨p a0.toNat, 0, none⟩) i (q a0.toNat))) ∧ (w'.cell? ⟨p a0.toNat, a1.toNat, none⟩ = some (.int .i64 (gr G a0 a1)))) (ds := [13]) #[false, false, false, false, false, false, false, false, false, false, false, false, false, false] (by kernel_rfl) rfl rfl ⟨ka0, ka1, ka2, kr, ke⟩ (fun hHeld => ?_)
              refine with_tabW tb_rlabels_19.tab tb_rlabels_19.bits (fun HT_ HW_ => ?_)
              refine pure_ (i := 0) (N := some 78) (v := ?_) (a' := ?_) #[true, false, false, false, false, false, false, false, false, false, false, false, false, false] rfl rfl (any_of HT_.out (by kernel_rfl)) (fun _ _ _ h => h) (Or.inl ⟨by rfl, ?_⟩) ?_ ?_
              rotate_left
              · intro w'
                go_simp
                with_reducible rfl
              rotate_left
              · simp only [Act.put, List.setIfInBounds_toArray, List.set_cons_zero, List.set_cons_succ, i64_w, i32_w]
                rfl
              refine pure_ (i := 1) (N := some 79) (v := ?_) (a' := ?_) #[true, true, false, false, false, false, false, false, false, false, false, false, false, false] rfl rfl (any_of HT_.out (by kernel_rfl)) (fun _ _ _ h => h) (Or.inl ⟨by rfl, ?_⟩) ?_ ?_
              rotate_left
              · intro w'
                go_simp
                with_reducible rfl
              rotate_left
              · simp only [Act.put, List.setIfInBounds_toArray, List.set_cons_zero, List.set_cons_succ, i64_w, i32_w]
                rfl
              refine take_ (i := 2) (N := some 80) (v := ?_) (a' := ?_) #[true, true, true, false, false, false, false, false, false, false, false, false, false, false] rfl rfl (take_ofW HT_.out HW_.out (by kernel_rfl)) (fun _ _ _ h => h) (Or.inl ⟨by rfl, ?_⟩) hHeld ?_ ?_
              rotate_left
              · rintro w' ⟨s0, s1, s2, s3, s4⟩
                go_simp
                with_reducible rfl
              rotate_left
              · simp only [Act.put, List.setIfInBounds_toArray, List.set_cons_zero, List.set_cons_succ, i64_w, i32_w]
                rfl
              refine pure_ (i := 3) (N := some 81) (v := ?_) (a' := ?_) #[true, true, true, true, false, false, false, false, false, false, false, false, false, false] rfl rfl (any_of HT_.out (by kernel_rfl)) (fun _ _ _ h => h) (Or.inl ⟨by rfl, ?_⟩) ?_ ?_
              rotate_left
              · intro w'
                go_simp
                with_reducible rfl
              rotate_left
              · simp only [Act.put, List.setIfInBounds_toArray, List.set_cons_zero, List.set_cons_succ, i64_w, i32_w]
                rfl
              refine take_ (i := 4) (N := some 82) (v := ?_) (a' := ?_) #[true, true, true, true, true, false, false, false, false, false, false, false, false, false] rfl rfl (take_ofW HT_.out HW_.out (by kernel_rfl)) (fun _ _ _ h => h) (Or.inl ⟨by rfl, ?_⟩) hHeld ?_ ?_
              rotate_left
              · rintro w' ⟨s0, s1, s2, s3, s4⟩
                go_simp
                with_reducible rfl
              rotate_left
              · simp only [Act.put, List.setIfInBounds_toArray, List.set_cons_zero, List.set_cons_succ, i64_w, i32_w]
                rfl
              refine pure_ (i := 5) (N := some 83) (v := ?_) (a' := ?_) #[true, true, true, true, true, true, false, false, false, false, false, false, false, false] rfl rfl (any_of HT_.out (by kernel_rfl)) (fun _ _ _ h => h) (Or.inl ⟨by rfl, ?_⟩) ?_ ?_
              rotate_left
              · intro w'
                go_simp
                with_reducible rfl
              rotate_left
              · simp only [Act.put, List.setIfInBounds_toArray, List.set_cons_zero, List.set_cons_succ, i64_w, i32_w]
                rfl
              refine take_ (i := 6) (N := some 84) (v := ?_) (a' := ?_) #[true, true, true, true, true, true, true, false, false, false, false, false, false, false] rfl rfl (take_ofW HT_.out HW_.out (by kernel_rfl)) (fun _ _ _ h => h) (Or.inl ⟨by rfl, ?_⟩) hHeld ?_ ?_
              rotate_left
              · rintro w' ⟨s0, s1, s2, s3, s4⟩
                go_simp
                with_reducible rfl
              rotate_left
              · simp only [Act.put, List.setIfInBounds_toArray, List.set_cons_zero, List.set_cons_succ, i64_w, i32_w]
                rfl
              refine pure_ (i := 7) (N := some 85) (v := ?_) (a' := ?_) #[true, true, true, true, true, true, true, true, false, false, false, false, false, false] rfl rfl (any_of HT_.out (by kernel_rfl)) (fun _ _ _ h => h) (Or.inl ⟨by rfl, ?_⟩) ?_ ?_
              rotate_left
              · intro w'
                go_simp
                with_reducible rfl
              rotate_left
              · simp only [Act.put, List.setIfInBounds_toArray, List.set_cons_zero, List.set_cons_succ, i64_w, i32_w]
                rfl
              refine take_ (i := 8) (N := some 86) (v := ?_) (a' := ?_) #[true, true, true, true, true, true, true, true, true, false, false, false, false, false] rfl rfl (take_ofW HT_.out HW_.out (by kernel_rfl)) (fun _ _ _ h => h) (Or.inl ⟨by rfl, ?_⟩) hHeld ?_ ?_
              rotate_left
              · rintro w' ⟨s0, s1, s2, s3, s4⟩
                go_simp
                with_reducible rfl
              rotate_left
              · simp only [Act.put, List.setIfInBounds_toArray, List.set_cons_zero, List.set_cons_succ, i64_w, i32_w]
                rfl
              refine pure_ (i := 9) (N := some 87) (v := ?_) (a' := ?_) #[true, true, true, true, true, true, true, true, true, true, false, false, false, false] rfl rfl (any_of HT_.out (by kernel_rfl)) (fun _ _ _ h => h) (Or.inl ⟨by rfl, ?_⟩) ?_ ?_
              rotate_left
              · intro w'
                go_simp
                with_reducible rfl
              rotate_left
              · simp only [Act.put, List.setIfInBounds_toArray, List.set_cons_zero, List.set_cons_succ, i64_w, i32_w]
                rfl
              refine take_ (i := 10) (N := some 88) (v := ?_) (a' := ?_) #[true, true, true, true, true, true, true, true, true, true, true, false, false, false] rfl rfl (take_ofW HT_.out HW_.out (by kernel_rfl)) (fun _ _ _ h => h) (Or.inl ⟨by rfl, ?_⟩) hHeld ?_ ?_
              rotate_left
              · rintro w' ⟨s0, s1, s2, s3, s4⟩
                go_simp
                with_reducible rfl
              rotate_left
              · simp only [Act.put, List.setIfInBounds_toArray, List.set_cons_zero, List.set_cons_succ, i64_w, i32_w]
                rfl
              refine pure_ (i := 11) (N := some 89) (v := ?_) (a' := ?_) #[true, true, true, true, true, true, true, true, true, true, true, true, false, false] rfl rfl (any_of HT_.out (by kernel_rfl)) (fun _ _ _ h => h) (Or.inl ⟨by rfl, ?_⟩) ?_ ?_
              rotate_left
              · intro w'
                go_simp
                with_reducible rfl
              rotate_left
              · simp only [Act.put, List.setIfInBounds_toArray, List.set_cons_zero, List.set_cons_succ, i64_w, i32_w]
                rfl
              refine pure_ (i := 12) (N := some 90) (v := ?_) (a' := ?_) #[true, true, true, true, true, true, true, true, true, true, true, true, true, false] rfl rfl (any_of HT_.out (by kernel_rfl)) (fun _ _ _ h => h) (Or.inl ⟨by rfl, ?_⟩) ?_ ?_
              rotate_left
              · intro w'
                go_simp
                with_reducible rfl
              rotate_left
              · simp only [Act.put, List.setIfInBounds_toArray, List.set_cons_zero, List.set_cons_succ, i64_w, i32_w]
                rfl
              refine last_ (i := 13) (N := none) #[true, true, true, true, true, true, true, true, true, true, true, true, true, true] rfl rfl (one_of HT_.out (by kernel_rfl)) (by decide) (fun K hK => ?_)
              refine skip_ (w1 := ?_) (by rfl) rfl ?_ ?_
              rotate_left
              · go_simp
                rfl
              clear fe
              refine hK.out _ _ ?_
              clear hK K
              refine norm_ (a' := ?_) ?_ ?_
              rotate_left
              · rfl
              refine done_ (done_of HT_.out (by kernel_rfl)) ?_
              rw [← hx.out, ← hW7.out]
              clear hx hW7 ka0 ka1 ka2 kr ke
              go_wp2
              obtain ⟨G', hG'⟩ : ∃ g, g = addE G a0 a1 a2 := ⟨_, rfl⟩
              rw [← hG'] at HG7 HN
              have ka0 := (blk_cell BA7.out 0).trans rfl
              have ka1 := (blk_cell BA7.out 1).trans rfl
              have ka2 := (blk_cell BA7.out 2).trans rfl
              have kr := HG7.out.cell a1 e2 e3
              obtain ⟨ke, fe⟩ := HG7.out.at_ a1 e2 e3 a0 e0 e1
              obtain ⟨x, hx⟩ : ∃ x, x = wrap64 (gr G' a1 a0 + a2) := ⟨_, rfl⟩
              have hpi := HG7.out.pM a1.toNat (by omega)
              obtain ⟨W8, hW8⟩ : ∃ W, W = (W7.setCell ⟨p a1.toNat, a0.toNat, none⟩ (.int .i64 x)).drew := ⟨_, rfl⟩
              have HG8 : Aside0 (GM W8 w.heap.size M0 A c i p q i ((P.take (j + 1)).foldl addP (cellsG n C.l2 C.l3 r n))) := ⟨by rw [hW8, HN.out, hx]; exact (HG7.out.put a1 e2 e3 a0 _).below (below_drew (Below.refl _ _))⟩
              have HB8 : Aside0 (Below w.heap.size w W8) := ⟨by rw [hW8]; exact below_drew (HB7.out.setCell hpi.1 _)⟩
              have HS8 : Aside0 (M0 ≤ W8.heap.size) := ⟨by rw [hW8]; simpa using HS7.out⟩
              have HP8 : Aside0 (Kd.R k100 121 W8 M0 (fun k => M0 ≤ k) (.slice (some ad) P.length cp) P) := ⟨by rw [hW8]; exact Kd.R_drew (Kd.R_far (p := ⟨p a1.toNat, a0.toNat, none⟩) HP7.out (fun y hy e => by have := hpi.2.1; replace e : y = p a1.toNat := e; omega) _)⟩
              clear HB7 hpi HS7 hG' HN HP7
              replace hx := Aside0.mk hx
              replace hW8 := Aside0.mk hW8
              refine start_ (n := 14) (S := fun w' => (w'.cell? ⟨ga, 0, none⟩ = some (.int .i64 a0)) ∧ (w'.cell? ⟨ga, 1, none⟩ = some (.int .i64 a1)) ∧ (w'.cell? ⟨ga, 2, none⟩ = some (.int .i64 a2)) ∧ (w'.cell? ⟨A, a1.toNat, none⟩ = some (.slice (some ⟨p a1.toNat, 0, none⟩) i (q a1.toNat))) ∧ (w'.cell? ⟨p a1.toNat, a0.toNat, none⟩ = some (.int .i64 (gr G' a1 a0)))) (ds := [13]) #[false, false, false, false, false, false, false, false, false, false, false, false, false, false] (by kernel_rfl) rfl rfl ⟨ka0, ka1, ka2, kr, ke⟩ (fun hHeld => ?_)
              refine with_tabW tb_rlabels_20.tab tb_rlabels_20.bits (fun HT_ HW_ => ?_)
              refine pure_ (i := 0) (N := some 91) (v := ?_) (a' := ?_) #[true, false, false, false, false, false, false, false, false, false, false, false, false, false] rfl rfl (any_of HT_.out (by kernel_rfl)) (fun _ _ _ h => h) (Or.inl ⟨by rfl, ?_⟩) ?_ ?_
              rotate_left
              · intro w'
                go_simp
                with_reducible rfl
              rotate_left
              · simp only [Act.put, List.setIfInBounds_toArray, List.set_cons_zero, List.set_cons_succ, i64_w, i32_w]
                rfl
              refine pure_ (i := 1) (N := some 92) (v := ?_) (a' := ?_) #[true, true, false, false, false, false, false, false, false, false, false, false, false, false] rfl rfl (any_of HT_.out (by kernel_rfl)) (fun _ _ _ h => h) (Or.inl ⟨by rfl, ?_⟩) ?_ ?_
              rotate_left
              · intro w'
                go_simp
                with_reducible rfl
              rotate_left
              · simp only [Act.put, List.setIfInBounds_toArray, List.set_cons_zero, List.set_cons_succ, i64_w, i32_w]
                rfl
              refine take_ (i := 2) (N := some 93) (v := ?_) (a' := ?_) #[true, true, true, false, false, false, false, false, false, false, false, false, false, false] rfl rfl (take_ofW HT_.out HW_.out (by kernel_rfl)) (fun _ _ _ h => h) (Or.inl ⟨by rfl, ?_⟩) hHeld ?_ ?_
              rotate_left
              · rintro w' ⟨s0, s1, s2, s3, s4⟩
                go_simp
                with_reducible rfl
              rotate_left
              · simp only [Act.put, List.setIfInBounds_toArray, List.set_cons_zero, List.set_cons_succ, i64_w, i32_w]
                rfl
              refine pure_ (i := 3) (N := some 94) (v := ?_) (a' := ?_) #[true, true, true, true, false, false, false, false, false, false, false, false, false, false] rfl rfl (any_of HT_.out (by kernel_rfl)) (fun _ _ _ h => h) (Or.inl ⟨by rfl, ?_⟩) ?_ ?_
              rotate_left
              · intro w'
                go_simp
                with_reducible rfl
              rotate_left
              · simp only [Act.put, List.setIfInBounds_toArray, List.set_cons_zero, List.set_cons_succ, i64_w, i32_w]
                rfl
              refine take_ (i := 4) (N := some 95) (v := ?_) (a' := ?_) #[true, true, true, true, true, false, false, false, false, false, false, false, false, false] rfl rfl (take_ofW HT_.out HW_.out (by kernel_rfl)) (fun _ _ _ h => h) (Or.inl ⟨by rfl, ?_⟩) hHeld ?_ ?_
              rotate_left
              · rintro w' ⟨s0, s1, s2, s3, s4⟩
                go_simp
                with_reducible rfl
              rotate_left
              · simp only [Act.put, List.setIfInBounds_toArray, List.set_cons_zero, List.set_cons_succ, i64_w, i32_w]
                rfl
              refine pure_ (i := 5) (N := some 96) (v := ?_) (a' := ?_) #[true, true, true, true, true, true, false, false, false, false, false, false, false, false] rfl rfl (any_of HT_.out (by kernel_rfl)) (fun _ _ _ h => h) (Or.inl ⟨by rfl, ?_⟩) ?_ ?_
              rotate_left
              · intro w'
                go_simp
                with_reducible rfl
              rotate_left
              · simp only [Act.put, List.setIfInBounds_toArray, List.set_cons_zero, List.set_cons_succ, i64_w, i32_w]
                rfl
              refine take_ (i := 6) (N := some 97) (v := ?_) (a' := ?_) #[true, true, true, true, true, true, true, false, false, false, false, false, false, false] rfl rfl (take_ofW HT_.out HW_.out (by kernel_rfl)) (fun _ _ _ h => h) (Or.inl ⟨by rfl, ?_⟩) hHeld ?_ ?_
              rotate_left
              · rintro w' ⟨s0, s1, s2, s3, s4⟩
                go_simp
                with_reducible rfl
              rotate_left
              · simp only [Act.put, List.setIfInBounds_toArray, List.set_cons_zero, List.set_cons_succ, i64_w, i32_w]
                rfl
              refine pure_ (i := 7) (N := some 98) (v := ?_) (a' := ?_) #[true, true, true, true, true, true, true, true, false, false, false, false, false, false] rfl rfl (any_of HT_.out (by kernel_rfl)) (fun _ _ _ h => h) (Or.inl ⟨by rfl, ?_⟩) ?_ ?_
              rotate_left
              · intro w'
                go_simp
                with_reducible rfl
              rotate_left
              · simp only [Act.put, List.setIfInBounds_toArray, List.set_cons_zero, List.set_cons_succ, i64_w, i32_w]
                rfl
              refine take_ (i := 8) (N := some 99) (v := ?_) (a' := ?_) #[true, true, true, true, true, true, true, true, true, false, false, false, false, false] rfl rfl (take_ofW HT_.out HW_.out (by kernel_rfl)) (fun _ _ _ h => h) (Or.inl ⟨by rfl, ?_⟩) hHeld ?_ ?_
              rotate_left
              · rintro w' ⟨s0, s1, s2, s3, s4⟩
                go_simp
                with_reducible rfl
              rotate_left
              · simp only [Act.put, List.setIfInBounds_toArray, List.set_cons_zero, List.set_cons_succ, i64_w, i32_w]
                rfl
              refine pure_ (i := 9) (N := some 100) (v := ?_) (a' := ?_) #[true, true, true, true, true, true, true, true, true, true, false, false, false, false] rfl rfl (any_of HT_.out (by kernel_rfl)) (fun _ _ _ h => h) (Or.inl ⟨by rfl, ?_⟩) ?_ ?_
              rotate_left
              · intro w'
                go_simp
                with_reducible rfl
              rotate_left
              · simp only [Act.put, List.setIfInBounds_toArray, List.set_cons_zero, List.set_cons_succ, i64_w, i32_w]
                rfl
              refine take_ (i := 10) (N := some 101) (v := ?_) (a' := ?_) #[true, true, true, true, true, true, true, true, true, true, true, false, false, false] rfl rfl (take_ofW HT_.out HW_.out (by kernel_rfl)) (fun _ _ _ h => h) (Or.inl ⟨by rfl, ?_⟩) hHeld ?_ ?_
              rotate_left
              · rintro w' ⟨s0, s1, s2, s3, s4⟩
                go_simp
                with_reducible rfl
              rotate_left
              · simp only [Act.put, List.setIfInBounds_toArray, List.set_cons_zero, List.set_cons_succ, i64_w, i32_w]
                rfl
              refine pure_ (i := 11) (N := some 102) (v := ?_) (a' := ?_) #[true, true, true, true, true, true, true, true, true, true, true, true, false, false] rfl rfl (any_of HT_.out (by kernel_rfl)) (fun _ _ _ h => h) (Or.inl ⟨by rfl, ?_⟩) ?_ ?_
              rotate_left
              · intro w'
                go_simp
                with_reducible rfl
              rotate_left
              · simp only [Act.put, List.setIfInBounds_toArray, List.set_cons_zero, List.set_cons_succ, i64_w, i32_w]
                rfl
              refine pure_ (i := 12) (N := some 103) (v := ?_) (a' := ?_) #[true, true, true, true, true, true, true, true, true, true, true, true, true, false] rfl rfl (any_of HT_.out (by kernel_rfl)) (fun _ _ _ h => h) (Or.inl ⟨by rfl, ?_⟩) ?_ ?_
              rotate_left
              · intro w'
                go_simp
                with_reducible rfl
              rotate_left
              · simp only [Act.put, List.setIfInBounds_toArray, List.set_cons_zero, List.set_cons_succ, i64_w, i32_w]
                rfl
              refine last_ (i := 13) (N := none) #[true, true, true, true, true, true, true, true, true, true, true, true, true, true] rfl rfl (one_of HT_.out (by kernel_rfl)) (by decide) (fun K hK => ?_)
              refine skip_ (w1 := ?_) (by rfl) rfl ?_ ?_
              rotate_left
              · go_simp
                rfl
              clear fe
              refine hK.out _ _ ?_
              clear hK K
              refine norm_ (a' := ?_) ?_ ?_
              rotate_left
              · rfl
              refine done_ (done_of HT_.out (by kernel_rfl)) ?_
              rw [← hx.out, ← hW8.out]
              clear hx hW8 ka0 ka1 ka2 kr ke
              have jw2 := jw.out
              go_wp2
              go_roundg (P.length - (j + 1))
              case measure => clear jw2; omega
              case rel => exact ⟨j + 1, by clear jw2; omega, by first | rfl | exact congrArg (Value.int .i64) jw2, HG8, HB8, HP8, HS8⟩
            · have hdec : decide (j < P.length) = false := decide_eq_false hlt
              obtain rfl : j = P.length := by omega
              have HGL : Aside0 (GM wr w.heap.size wr.heap.size A c i p q i (labG n C.W C.l2 C.l3 C.l4 C.l5 r)) := ⟨by have := HG.out; rw [List.take_length, HPE.out] at this; exact this.up HS0.out⟩
              have e1 := E1.out
              clear HG hlt
              go_wp2_with fail
              clear e1
              refine (ends_calls wr _ (n : Int) M (by have := H36.out; omega) (by have := H36.out; omega) HGL.out (by have := H36.out; omega) (by have := H36.out; have := HM.out; omega) fuelK fuelW v G1 (by rw [H36.out.2.2.1, HM.out]; exact HP.out) fr bk HF.out (by rw [H36.out.2.2.1]; exact HL.out.1) (by rw [H36.out.2.2.1, HM.out]; exact HT.out) (by rw [H36.out.2.2.1]; exact HL.out.2)).mono ?_
              rintro e w4 ⟨y1, y2, rfl, hy1, hy2, hb4, hne⟩
              obtain ⟨B1, d1, rfl⟩ := Kd.R_slice hy1
              obtain ⟨B2, d2, rfl⟩ := Kd.R_slice hy2
              have hl1 : (fromL fr i).length = i := by simp [fromL]
              have hl2 : (toL bk i).length = i := by simp [toL]
              have HBW := HB.out.size
              have q1 := Kd.R_take (m := n) (Kd.R_lower hy1 HBW) (by rw [hl1]; have := H36.out; omega)
              have q2 := Kd.R_take (m := n) (Kd.R_lower hy2 HBW) (by rw [hl2]; have := H36.out; omega)
              have Q1 := Aside0.mk q1
              have Q2 := Aside0.mk q2
              have HB9 := Aside0.mk (HB.out.trans hb4)
              have r1 := (Kd.R_reads' hy1).2.1
              have r2 := (Kd.R_reads' hy2).2.1
              have HNE : Aside0 (∀ k, (Value.slice B1 n d1).ownBlock = some k → (Value.slice B2 n d2).ownBlock ≠ some k) := ⟨fun k hk => by cases B1 <;> cases B2 <;> first | exact hne k hk | cases hk⟩
              clear hne
              rw [hl1] at r1 hy1 ⊢
              rw [hl2] at r2 hy2 ⊢
              clear q1 q2 hb4 hl1 hl2 HBW
              go_wp2
              have s1 : (n ≤ d1) = True := eq_true (by have := H36.out; omega)
              have s2 : (n ≤ d2) = True := eq_true (by have := H36.out; omega)
              have s3 : ((n : Int) ≤ (d1 : Int)) = True := eq_true (by have := H36.out; omega)
              have s4 : ((n : Int) ≤ (d2 : Int)) = True := eq_true (by have := H36.out; omega)
              refine start_ (n := 8) (S := fun w' => True) (ds := [6, 7]) #[false, false, false, false, false, false, false, false] (by kernel_rfl) rfl rfl trivial (fun hHeld => ?_)
              refine with_tabW tb_rlabels_23.tab tb_rlabels_23.bits (fun HT_ HW_ => ?_)
              refine pure_ (i := 0) (N := some 113) (v := ?_) (a' := ?_) #[true, false, false, false, false, false, false, false] rfl rfl (any_of HT_.out (by kernel_rfl)) (fun _ _ _ h => h) (Or.inl ⟨by rfl, ?_⟩) ?_ ?_
              rotate_left
              · intro w'
                go_simp
                with_reducible rfl
              rotate_left
              · simp only [Act.put, List.setIfInBounds_toArray, List.set_cons_zero, List.set_cons_succ, i64_w, i32_w]
                rfl
              refine pure_ (i := 1) (N := some 114) (v := ?_) (a' := ?_) #[true, true, false, false, false, false, false, false] rfl rfl (any_of HT_.out (by kernel_rfl)) (fun _ _ _ h => h) (Or.inl ⟨by rfl, ?_⟩) ?_ ?_
              rotate_left
              · intro w'
                go_simp
                with_reducible rfl
              rotate_left
              · simp only [Act.put, List.setIfInBounds_toArray, List.set_cons_zero, List.set_cons_succ, i64_w, i32_w]
                rfl
              refine pure_ (i := 2) (N := some 115) (v := ?_) (a' := ?_) #[true, true, true, false, false, false, false, false] rfl rfl (any_of HT_.out (by kernel_rfl)) (fun _ _ _ h => h) (Or.inl ⟨by rfl, ?_⟩) ?_ ?_
              rotate_left
              · intro w'
                go_simp
                with_reducible rfl
              rotate_left
              · simp only [Act.put, List.setIfInBounds_toArray, List.set_cons_zero, List.set_cons_succ, i64_w, i32_w]
                rfl
              refine pure_ (i := 3) (N := some 116) (v := ?_) (a' := ?_) #[true, true, true, true, false, false, false, false] rfl rfl (any_of HT_.out (by kernel_rfl)) (fun _ _ _ h => h) (Or.inl ⟨by rfl, ?_⟩) ?_ ?_
              rotate_left
              · intro w'
                go_simp
                with_reducible rfl
              rotate_left
              · simp only [Act.put, List.setIfInBounds_toArray, List.set_cons_zero, List.set_cons_succ, i64_w, i32_w]
                rfl
              refine pure_ (i := 4) (N := some 117) (v := ?_) (a' := ?_) #[true, true, true, true, true, false, false, false] rfl rfl (any_of HT_.out (by kernel_rfl)) (fun _ _ _ h => h) (Or.inl ⟨by rfl, ?_⟩) ?_ ?_
              rotate_left
              · intro w'
                go_simp
                with_reducible rfl
              rotate_left
              · simp only [Act.put, List.setIfInBounds_toArray, List.set_cons_zero, List.set_cons_succ, i64_w, i32_w]
                rfl
              refine pure_ (i := 5) (N := some 118) (v := ?_) (a' := ?_) #[true, true, true, true, true, true, false, false] rfl rfl (any_of HT_.out (by kernel_rfl)) (fun _ _ _ h => h) (Or.inl ⟨by rfl, ?_⟩) ?_ ?_
              rotate_left
              · intro w'
                go_simp
                with_reducible rfl
              rotate_left
              · simp only [Act.put, List.setIfInBounds_toArray, List.set_cons_zero, List.set_cons_succ, i64_w, i32_w]
                rfl
              refine pure_ (i := 6) (N := some 4) (v := ?_) (a' := ?_) #[true, true, true, true, true, true, true, false] rfl rfl (any_of HT_.out (by kernel_rfl)) (fun _ _ _ h => h) (Or.inl ⟨by rfl, ?_⟩) ?_ ?_
              rotate_left
              · intro w'
                go_simp
                with_reducible rfl
              rotate_left
              · simp only [Act.put, List.setIfInBounds_toArray, List.set_cons_zero, List.set_cons_succ, i64_w, i32_w]
                rfl
              refine pure_ (i := 7) (N := some 5) (v := ?_) (a' := ?_) #[true, true, true, true, true, true, true, true] rfl rfl (any_of HT_.out (by kernel_rfl)) (fun _ _ _ h => h) (Or.inl ⟨by rfl, ?_⟩) ?_ ?_
              rotate_left
              · intro w'
                go_simp
                with_reducible rfl
              rotate_left
              · simp only [Act.put, List.setIfInBounds_toArray, List.set_cons_zero, List.set_cons_succ, i64_w, i32_w]
                rfl
              refine done_ (done_of HT_.out (by kernel_rfl)) ?_
              clear s1 s2 s3 s4
              go_wp2
              go_ret2
              refine ⟨.slice B1 n d1, .slice B2 n d2, rfl, ?_, ?_, below_drew HB9.out⟩
              · rw [← H36.out.2.2.1]
                exact Kd.R_mono (Kd.R_tight rfl (Kd.R_drew Q1.out)) (fun k hk e => HNE.out k hk.symm e.symm)
              · rw [← H36.out.2.2.1]
                exact Kd.R_mono (Kd.R_tight rfl (Kd.R_drew Q2.out)) (fun k hk e => HNE.out k e.symm hk.symm)
end Go.Proofs.Ytbamanjedfccpaa.HTab
namespace Go.Proofs.Ytbamanjedfccpaa.X
set_option linter.unusedVariables false
open Go.RowKit Go.Proofs.YtbamanjedfccpaaW.PrintWords Go.Proofs.YtbamanjedfccpaaW.PrintLast Go.Proofs.YtbamanjedfccpaaW.PrintMore Go.Proofs.Ytbamanjedfccpaa.HTab
def cantingref07_labels.f (W H : Int) (l2 l3 l4 l5 : List Int) (r : Int) : Option (List Bool × List Bool) :=
  if cvB W H l2 l3 l4 l5 = true ∧ -10001 ≤ r ∧ r ≤ 10001 then
    (grtP fuelK ((W * H).toNat + 2) (((W * H).toNat : Nat) : Int) ((((W * H).toNat : Nat) : Int) + 1) fuelW (labG (W * H).toNat W l2 l3 l4 l5 r) 0).bind fun g => (cantingref07_way.f fuelK g.2 (((W * H).toNat : Nat) : Int)).bind fun fr => (cantingref07_way.f fuelK (backG ((W * H).toNat + 2) g.2) ((((W * H).toNat : Nat) : Int) + 1)).bind fun bk =>
      if fr.length = (W * H).toNat + 2 ∧ bk.length = (W * H).toNat + 2 then some ((fromL fr ((W * H).toNat + 2)).take (W * H).toNat, (toL bk ((W * H).toNat + 2)).take (W * H).toNat) else none
  else none
theorem cantingref07_labels.calls (a0_0 : Int) (a0_1 : Int) (A0_2 : Option Addr) (c0_2 : Nat) (l0_2 : List Int) (A0_3 : Option Addr) (c0_3 : Nat) (l0_3 : List Int) (A0_4 : Option Addr) (c0_4 : Nat) (l0_4 : List Int) (A0_5 : Option Addr) (c0_5 : Nat) (l0_5 : List Int) (a1 : Int) (r1 r2 : List Bool) (w : World) (hr0_2 : Kd.C (Kd.int .i64) w A0_2 l0_2.length l0_2) (hc0_2 : l0_2.length ≤ c0_2) (hr0_3 : Kd.C (Kd.int .i64) w A0_3 l0_3.length l0_3) (hc0_3 : l0_3.length ≤ c0_3) (hr0_4 : Kd.C (Kd.int .i64) w A0_4 l0_4.length l0_4) (hc0_4 : l0_4.length ≤ c0_4) (hr0_5 : Kd.C (Kd.int .i64) w A0_5 l0_5.length l0_5) (hc0_5 : l0_5.length ≤ c0_5) (h : cantingref07_labels.f a0_0 a0_1 l0_2 l0_3 l0_4 l0_5 a1 = some (r1, r2)) :
    Calls Try.prog 67 #[.agg #[.int .i64 a0_0, .int .i64 a0_1, .slice A0_2 l0_2.length c0_2, .slice A0_3 l0_3.length c0_3, .slice A0_4 l0_4.length c0_4, .slice A0_5 l0_5.length c0_5], .int .i64 a1] w fun e w' => ∃ v0_ v1_ : Value, e = .returned (.tuple #[v0_, v1_]) ∧ Kd.R Kd.bool 4 w' w.heap.size (fun k_ => some k_ ≠ (v1_ : Value).ownBlock) v0_ r1 ∧ Kd.R Kd.bool 4 w' w.heap.size (fun k_ => some k_ ≠ (v0_ : Value).ownBlock) v1_ r2 ∧ Below w.heap.size w w' := by
  unfold cantingref07_labels.f at h
  split at h
  · rename_i hv
    obtain ⟨hv, hr⟩ := hv
    obtain ⟨⟨v, G1⟩, hG, h⟩ := Option.bind_eq_some_iff.mp h
    obtain ⟨fr, hfr, h⟩ := Option.bind_eq_some_iff.mp h
    obtain ⟨bk, hbk, h⟩ := Option.bind_eq_some_iff.mp h
    split at h
    · rename_i hL
      injection h with h
      injection h with e1 e2
      subst e1 e2
      have hn := cvB_n hv
      exact rlabels_ok ⟨a0_0, a0_1, A0_2, c0_2, l0_2, A0_3, c0_3, l0_3, A0_4, c0_4, l0_4, A0_5, c0_5, l0_5⟩ a1 w ⟨hr0_2, hc0_2, hr0_3, hc0_3, hr0_4, hc0_4, hr0_5, hc0_5⟩ (cvB_ok hv) hr (a0_0 * a0_1).toNat (Int.toNat_of_nonneg (by omega)) (by omega) (by omega) v G1 hG fr bk hfr hL.1 hbk hL.2
    · simp at h
  · simp at h
end Go.Proofs.Ytbamanjedfccpaa.X
end

section
set_option linter.unusedVariables false
set_option linter.unusedSimpArgs false
namespace Go.Proofs.Ytbamanjedfccpaa.HTab
open Go.RowKit Go.Proofs.YtbamanjedfccpaaW.PrintWords Go.Proofs.YtbamanjedfccpaaW.PrintLast Go.Proofs.YtbamanjedfccpaaW.PrintMore Go.Proofs.Ytbamanjedfccpaa.X
set_option linter.unusedVariables false
set_option linter.unusedSimpArgs false
theorem resG_congr {N : Nat} {T T' : Int → Bool} (g : List (List Int)) (h : ∀ x : Int, 0 ≤ x → x < N → T x = T' x) : resG N T g = resG N T' g := by
  unfold resG
  refine sumF_congr N (fun i i0 i1 => ?_)
  unfold rowG
  rw [h i i0 i1]
  split
  · exact sumF_congr N (fun j j0 j1 => by rw [h j j0 j1])
  · rfl
def fence (n : Nat) (S : List Bool) (v : Int) : Bool := decide (v = (n : Int)) || (decide (v < (n : Int)) && rdOf false S v)
theorem fence_n (n : Nat) (S : List Bool) : fence n S (n : Int) = true := by simp [fence]
theorem fence_t (n : Nat) (S : List Bool) : fence n S ((n : Int) + 1) = false := by unfold fence; rw [decide_eq_false (by omega), decide_eq_false (by omega)]; rfl
theorem fence_lt (n : Nat) (S : List Bool) (v : Int) (h : v < n) : fence n S v = rdOf false S v := by unfold fence; rw [decide_eq_false (by omega), decide_eq_true h]; simp
section
variable {n : Nat} (l2 l3 : List Int) (r : Int)
def entC (n : Nat) (l2 l3 : List Int) (r : Int) (i : Nat) (a b : Int) : Int :=
  if a = n ∧ b < i ∧ 0 < gainC l2 l3 r b then gainC l2 l3 r b else if b = (n : Int) + 1 ∧ a < i ∧ ¬ 0 < gainC l2 l3 r a then -gainC l2 l3 r a else 0
theorem cells_ok : ∀ i : Nat, i ≤ n → GSq (n + 2) (cellsG n l2 l3 r i) ∧ (∀ a b : Int, 0 ≤ a → a < (n + 2 : Nat) → 0 ≤ b → b < (n + 2 : Nat) → gr (cellsG n l2 l3 r i) a b = entC n l2 l3 r i a b) ∧
    ∀ T : Int → Bool, T n = true → T ((n : Int) + 1) = false → resG (n + 2) T (cellsG n l2 l3 r i) = sumF (fun v => if 0 < gainC l2 l3 r v then (if T v then 0 else gainC l2 l3 r v) else (if T v then -gainC l2 l3 r v else 0)) i
  | 0, _ => by
    obtain ⟨z1, z2⟩ := zero_sq (n + 2)
    have e : cellsG n l2 l3 r 0 = zeroG (n + 2) := rfl
    rw [e]
    refine ⟨z1, fun a b a0 a1 b0 b1 => ?_, fun T _ _ => ?_⟩
    · rw [z2]
      unfold entC
      rw [if_neg (by omega), if_neg (by omega)]
    · rw [resG_zero T (fun i j _ _ _ _ _ _ => z2 i j)]
      rfl
  | i + 1, hi => by
    obtain ⟨q1, q2, q3⟩ := cells_ok i (by omega)
    rw [cellsG_succ]
    unfold cellG
    obtain ⟨d, hd⟩ : ∃ d, d = gainC l2 l3 r (i : Int) := ⟨_, rfl⟩
    rw [← hd]
    by_cases c : 0 < d
    · rw [if_pos c]
      refine ⟨q1.put _ _ (by omega) (by omega), fun a b a0 a1 b0 b1 => ?_, fun T hT hT' => ?_⟩
      · rw [gr_put q1 _ (by omega) (by omega) (by omega) (by omega) a b a0 b0]
        by_cases c2 : a = (n : Int) ∧ b = (i : Int)
        · rw [if_pos c2]
          unfold entC
          rw [c2.2, ← hd, if_pos ⟨c2.1, by omega, c⟩]
        · rw [if_neg c2, q2 a b a0 a1 b0 b1]
          unfold entC
          by_cases c3 : b = (i : Int)
          · rw [if_neg (by omega), if_neg (by omega), if_neg (fun q => c2 ⟨q.1, c3⟩), if_neg (by omega)]
          · by_cases c4 : a = (i : Int)
            · rw [c4, ← hd]
              rw [if_neg (by omega), if_neg (by omega), if_neg (by omega), if_neg (by omega)]
            · have e1 : (b < ((i + 1 : Nat) : Int)) = (b < (i : Int)) := propext (by omega)
              have e2 : (a < ((i + 1 : Nat) : Int)) = (a < (i : Int)) := propext (by omega)
              simp only [e1, e2]
      · rw [resG_put q1 T _ (by omega) (by omega) (by omega) (by omega), q3 T hT hT', hT, q2 _ _ (by omega) (by omega) (by omega) (by omega)]
        have e : entC n l2 l3 r i (n : Int) (i : Int) = 0 := by
          unfold entC
          rw [if_neg (by omega), if_neg (by omega)]
        rw [e]
        simp only [sumF]
        rw [← hd, if_pos c]
        cases T (i : Int) <;> simp
    · rw [if_neg c]
      refine ⟨q1.put _ _ (by omega) (by omega), fun a b a0 a1 b0 b1 => ?_, fun T hT hT' => ?_⟩
      · rw [gr_put q1 _ (by omega) (by omega) (by omega) (by omega) a b a0 b0]
        by_cases c2 : a = (i : Int) ∧ b = (n : Int) + 1
        · rw [if_pos c2]
          unfold entC
          rw [c2.1, ← hd, if_neg (by omega), if_pos ⟨c2.2, by omega, c⟩]
        · rw [if_neg c2, q2 a b a0 a1 b0 b1]
          unfold entC
          by_cases c3 : a = (i : Int)
          · rw [if_neg (by omega), if_neg (by omega), if_neg (by omega), if_neg (fun q => c2 ⟨c3, q.1⟩)]
          · by_cases c4 : b = (i : Int)
            · rw [c4, ← hd]
              rw [if_neg (by omega), if_neg (by omega), if_neg (by omega), if_neg (by omega)]
            · have e1 : (b < ((i + 1 : Nat) : Int)) = (b < (i : Int)) := propext (by omega)
              have e2 : (a < ((i + 1 : Nat) : Int)) = (a < (i : Int)) := propext (by omega)
              simp only [e1, e2]
      · rw [resG_put q1 T _ (by omega) (by omega) (by omega) (by omega), q3 T hT hT', hT', q2 _ _ (by omega) (by omega) (by omega) (by omega)]
        have e : entC n l2 l3 r i (i : Int) ((n : Int) + 1) = 0 := by
          unfold entC
          rw [if_neg (by omega), if_neg (by omega)]
        rw [e]
        simp only [sumF]
        rw [← hd, if_neg c]
        cases T (i : Int) <;> simp
end
theorem addE_ok {N : Nat} {G : List (List Int)} {B : Int} (q1 : GSq N G) (q2 : ∀ a b : Int, 0 ≤ a → a < N → 0 ≤ b → b < N → 0 ≤ gr G a b ∧ gr G a b ≤ B) (hB : 0 ≤ B ∧ B ≤ 900000000) (T : Int → Bool) {a b x : Int} (a0 : 0 ≤ a) (a1 : a < N) (b0 : 0 ≤ b) (b1 : b < N) (hx : 0 ≤ x ∧ x ≤ 1000) :
    GSq N (addE G a b x) ∧ (∀ i j : Int, 0 ≤ i → i < N → 0 ≤ j → j < N → 0 ≤ gr (addE G a b x) i j ∧ gr (addE G a b x) i j ≤ B + 1000) ∧ resG N T (addE G a b x) = resG N T G + (if T a && !T b then x else 0) := by
  have h0 := q2 a b a0 a1 b0 b1
  have w : wrap64 (gr G a b + x) = gr G a b + x := wrap_id (by omega) (by omega)
  unfold addE
  rw [w]
  refine ⟨q1.put _ _ a0 a1, fun i j i0 i1 j0 j1 => ?_, ?_⟩
  · have := q2 i j i0 i1 j0 j1
    rw [gr_put q1 _ a0 a1 b0 b1 i j i0 j0]
    split <;> omega
  · rw [resG_put q1 T _ a0 a1 b0 b1]
    cases T a <;> cases T b <;> simp <;> omega
theorem pairs_ok {N : Nat} (S : List Bool) (T : Int → Bool) (hT : ∀ x : Int, 0 ≤ x → x < S.length → T x = rdOf false S x) (hS : S.length ≤ N) : ∀ (P : List S100) (G : List (List Int)) (B : Int), GSq N G → (∀ a b : Int, 0 ≤ a → a < N → 0 ≤ b → b < N → 0 ≤ gr G a b ∧ gr G a b ≤ B) → 0 ≤ B → B + 2000 * P.length ≤ 900000000 →
    (∀ p ∈ P, 0 ≤ p.f0 ∧ p.f0 < (S.length : Int) ∧ 0 ≤ p.f1 ∧ p.f1 < (S.length : Int) ∧ 0 ≤ p.f2 ∧ p.f2 ≤ 1000) →
    GSq N (P.foldl addP G) ∧ (∀ i j : Int, 0 ≤ i → i < N → 0 ≤ j → j < N → 0 ≤ gr (P.foldl addP G) i j ∧ gr (P.foldl addP G) i j ≤ B + 2000 * P.length) ∧ resG N T (P.foldl addP G) = resG N T G + pairE S P
  | [], G, B, q1, q2, _, _, _ => ⟨q1, fun i j i0 i1 j0 j1 => by have := q2 i j i0 i1 j0 j1; simpa using this, by simp [pairE]⟩
  | p :: P, G, B, q1, q2, hB, hB2, hP => by
    obtain ⟨p0, p1, p2, p3, p4, p5⟩ := hP p (List.mem_cons_self ..)
    have hl : B + 2000 + 2000 * (P.length : Int) ≤ 900000000 := by simp only [List.length_cons] at hB2; omega
    obtain ⟨a1, a2, a3⟩ := addE_ok q1 q2 ⟨hB, by omega⟩ T p0 (by omega) p2 (by omega) ⟨p4, p5⟩
    obtain ⟨b1, b2, b3⟩ := addE_ok a1 a2 ⟨by omega, by omega⟩ T p2 (by omega) p0 (by omega) ⟨p4, p5⟩
    obtain ⟨c1, c2, c3⟩ := pairs_ok S T hT hS P (addP G p) (B + 1000 + 1000) b1 b2 (by omega) (by omega) (fun q hq => hP q (List.mem_cons_of_mem _ hq))
    refine ⟨c1, fun i j i0 i1 j0 j1 => ?_, ?_⟩
    · have := c2 i j i0 i1 j0 j1
      simp only [List.length_cons, List.foldl_cons]
      omega
    · rw [List.foldl_cons, c3]
      unfold addP
      rw [b3, a3, hT _ p0 p1, hT _ p2 p3]
      simp only [pairE]
      cases rdOf false S p.f0 <;> cases rdOf false S p.f1 <;> simp <;> omega
def baseC (l2 l3 : List Int) (r : Int) (v : Int) : Int := if 0 < gainC l2 l3 r v then rd l2 v - gainC l2 l3 r v else rd l2 v
section
variable {W H : Int} {l2 l3 l4 l5 : List Int} (hc : ClOK W H l2 l3 l4 l5) {r : Int} (hr : -10001 ≤ r ∧ r ≤ 10001) {n : Nat} (hn : (n : Int) = W * H)
include hc hr
theorem gain_in (v : Int) : -20000 ≤ gainC l2 l3 r v ∧ gainC l2 l3 r v ≤ 20000 := by
  have := rd_in hc.b2 v
  have := rd_in hc.b3 v
  unfold gainC
  omega
include hn in
theorem lab_grid : GOK (n + 2) (labG n W l2 l3 l4 l5 r) ∧ (∀ T : Int → Bool, resG (n + 2) T (labG n W l2 l3 l4 l5 r) ≤ 4000000000) ∧
    ∀ S : List Bool, S.length = n → resG (n + 2) (fence n S) (labG n W l2 l3 l4 l5 r) + sumF (baseC l2 l3 r) n = enE W H l2 l3 l4 l5 r S := by
  have hn0 := hc.n
  obtain ⟨q1, q2, q3⟩ := cells_ok (n := n) l2 l3 r n (Nat.le_refl _)
  have hpl := pairs_len hc
  have q2' : ∀ a b : Int, 0 ≤ a → a < (n + 2 : Nat) → 0 ≤ b → b < (n + 2 : Nat) → 0 ≤ gr (cellsG n l2 l3 r n) a b ∧ gr (cellsG n l2 l3 r n) a b ≤ 20000 := fun a b a0 a1 b0 b1 => by
    rw [q2 a b a0 a1 b0 b1]
    have h1 := gain_in hc hr a
    have h2 := gain_in hc hr b
    unfold entC
    split
    · omega
    · split <;> omega
  have key : ∀ (S : List Bool), S.length = n → _ := fun S hS => pairs_ok (N := n + 2) S (fence n S) (fun x x0 x1 => fence_lt n S x (by omega)) (by omega) (pairsL W l4 l5) (cellsG n l2 l3 r n) 20000 q1 q2' (by omega) (by omega) (fun p hp => by
    have := pairs_in hc p hp
    omega)
  obtain ⟨c1, c2, -⟩ := key (List.replicate n false) (by simp)
  have c2' : ∀ i j : Int, 0 ≤ i → i < (n + 2 : Nat) → 0 ≤ j → j < (n + 2 : Nat) → 0 ≤ gr (labG n W l2 l3 l4 l5 r) i j ∧ gr (labG n W l2 l3 l4 l5 r) i j ≤ 200000 := fun i j i0 i1 j0 j1 => by
    have := c2 i j i0 i1 j0 j1
    unfold labG
    omega
  refine ⟨⟨c1, fun i j i0 i1 j0 j1 => (c2' i j i0 i1 j0 j1).1, fun i j i0 i1 j0 j1 => ?_⟩, fun T => ?_, fun S hS => ?_⟩
  · have := c2' i j i0 i1 j0 j1
    have := c2' j i j0 j1 i0 i1
    omega
  · have h1 : ∀ i : Int, 0 ≤ i → i < (n + 2 : Nat) → -7600000 ≤ rowG (n + 2) T (labG n W l2 l3 l4 l5 r) i ∧ rowG (n + 2) T (labG n W l2 l3 l4 l5 r) i ≤ 7600000 := fun i i0 i1 => by
      unfold rowG
      split
      · have := sumF_in (h := fun j => if T j then 0 else gr (labG n W l2 l3 l4 l5 r) i j) (C := 200000) (n + 2) (fun v v0 v1 => by
          have := c2' i v i0 i1 v0 v1
          split <;> omega)
        omega
      · omega
    have := sumF_in (n + 2) h1
    unfold resG
    omega
  · obtain ⟨-, -, c3⟩ := key S hS
    unfold labG
    rw [c3, q3 (fence n S) (fence_n n S) (fence_t n S)]
    unfold enE
    rw [show (W * H).toNat = n by omega]
    have e : sumF (fun v => if 0 < gainC l2 l3 r v then (if fence n S v then 0 else gainC l2 l3 r v) else (if fence n S v then -gainC l2 l3 r v else 0)) n + sumF (baseC l2 l3 r) n = sumF (cellE l2 l3 r S) n := by
      rw [← sumF_add]
      refine sumF_congr n (fun v v0 v1 => ?_)
      rw [fence_lt n S v v1]
      unfold baseC cellE gainC
      cases rdOf false S v <;> simp <;> split <;> omega
    omega
end
theorem rlabels_f {W H : Int} {l2 l3 l4 l5 : List Int} (hv : cvB W H l2 l3 l4 l5 = true) {r : Int} (hr : -10000 ≤ r ∧ r ≤ 10000) {a b : List Bool} (h : LabD W H l2 l3 l4 l5 r a b) : cantingref07_labels.f W H l2 l3 l4 l5 r = some (a, b) := by
  have hc := cvB_ok hv
  have hn0 := hc.n
  obtain ⟨n, hn⟩ : ∃ n : Nat, (n : Int) = W * H := ⟨(W * H).toNat, by omega⟩
  obtain ⟨g1, g2, g3⟩ := lab_grid hc ⟨by omega, by omega⟩ hn (r := r)
  have hz : 0 ≤ resG (n + 2) (fun v => v == (n : Int)) (labG n W l2 l3 l4 l5 r) := resG_nonneg g1 _
  obtain ⟨v, G1, fr, e1, k1, k2, k3, e2, w1, no⟩ := grtP_ok (N := n + 2) (by omega) (s := (n : Int)) (t := (n : Int) + 1) (by omega) (by omega) (by omega) fuelW (labG n W l2 l3 l4 l5 r) 0 g1 (by omega) (by have := g2 (fun v => v == (n : Int)); omega) (by have := g2 (fun v => v == (n : Int)); unfold fuelW; omega)
  obtain ⟨bs, bg⟩ := back_sq (n + 2) G1
  obtain ⟨bk, e3, w2⟩ := way_f (N := n + 2) (s := (n : Int) + 1) (by omega) bs (by omega) fuelK (by
    have : (n + 2) * (n + 2 + 2) ≤ 38 * 40 := Nat.mul_le_mul (by omega) (by omega)
    unfold fuelK; omega)
  have hla := h.la
  have hlb := h.lb
  -- every labelling costs v and the base, and what is left over its fence
  have cost : ∀ S : List Bool, S.length = n → enE W H l2 l3 l4 l5 r S = v + sumF (baseC l2 l3 r) n + resG (n + 2) (fence n S) G1 := fun S hS => by
    have := g3 S hS
    have := k2 (fence n S)
    rw [ind_side (⟨fence_n n S, fence_t n S⟩ : side (fence n S) (n : Int) ((n : Int) + 1))] at this
    omega
  obtain ⟨SL, hSL⟩ : ∃ S, S = (fromL fr (n + 2)).take n := ⟨_, rfl⟩
  obtain ⟨SG, hSG⟩ : ∃ S, S = (toL bk (n + 2)).take n := ⟨_, rfl⟩
  have lL : SL.length = n := by rw [hSL, List.length_take, fromL_len]; omega
  have lG : SG.length = n := by rw [hSG, List.length_take, toL_len]; omega
  have tk : ∀ (l : List Bool) (x : Nat), x < n → rdOf false (l.take n) (x : Int) = rdOf false l (x : Int) := fun l x hx => by
    unfold rdOf
    rw [List.getD_eq_getElem?_getD, List.getD_eq_getElem?_getD, List.getElem?_take, if_pos (by omega)]
  have rL : ∀ x : Int, 0 ≤ x → x < n → rdOf false SL x = decide (0 ≤ rd fr x) := fun x x0 x1 => by
    obtain ⟨y, rfl⟩ : ∃ y : Nat, x = y := ⟨x.toNat, by omega⟩
    rw [hSL, tk _ _ (by omega), fromL_rd fr (n + 2) y (by omega)]
  have rG : ∀ x : Int, 0 ≤ x → x < n → rdOf false SG x = decide (rd bk x < 0) := fun x x0 x1 => by
    obtain ⟨y, rfl⟩ : ∃ y : Nat, x = y := ⟨x.toNat, by omega⟩
    rw [hSG, tk _ _ (by omega), toL_rd bk (n + 2) y (by omega)]
  have zL : resG (n + 2) (fence n SL) G1 = 0 := by
    rw [resG_congr (T' := fun x => decide (0 ≤ rd fr x)) G1 (fun x x0 x1 => by
      rcases Int.lt_or_le x n with q | q
      · rw [fence_lt n SL x q, rL x x0 q]
      · rcases Int.lt_or_eq_of_le q with q2 | q2
        · obtain rfl : x = (n : Int) + 1 := by omega
          rw [fence_t, decide_eq_false (by omega)]
        · rw [← q2, fence_n, w1.s0, decide_eq_true (by omega)])]
    refine resG_zero _ (fun i j i0 i1 j0 j1 hi hj => ?_)
    have h3 := k1.nn i j i0 i1 j0 j1
    rcases Int.lt_or_eq_of_le h3 with q | q
    · have := w1.clo i j i0 i1 j0 j1 (of_decide_eq_true hi) q
      have := of_decide_eq_false hj
      omega
    · exact q.symm
  have bn : rd bk (n : Int) < 0 := Int.not_le.1 (fun q => by
    have := w2.all_in (fun y => rd fr y < 0) no (fun y x y0 y1 x0 x1 hy hp hg => by
      rw [bg y x y0 y1 x0 x1] at hg
      exact Int.not_le.1 (fun q => by have := w1.clo x y x0 x1 y0 y1 q hg; omega)) (n : Int) (by omega) (by omega) q
    rw [w1.s0] at this
    omega)
  have zG : resG (n + 2) (fence n SG) G1 = 0 := by
    rw [resG_congr (T' := fun x => decide (rd bk x < 0)) G1 (fun x x0 x1 => by
      rcases Int.lt_or_le x n with q | q
      · rw [fence_lt n SG x q, rG x x0 q]
      · rcases Int.lt_or_eq_of_le q with q2 | q2
        · obtain rfl : x = (n : Int) + 1 := by omega
          rw [fence_t, w2.s0, decide_eq_false (by omega)]
        · rw [← q2, fence_n, decide_eq_true bn])]
    refine resG_zero _ (fun i j i0 i1 j0 j1 hi hj => ?_)
    have h1 := of_decide_eq_true hi
    have h2 := of_decide_eq_false hj
    have h3 := k1.nn i j i0 i1 j0 j1
    rcases Int.lt_or_eq_of_le h3 with q | q
    · have := w2.clo j i j0 j1 i0 i1 (by omega) (by rw [bg j i j0 j1 i0 i1]; exact q)
      omega
    · exact q.symm
  have cL := cost SL lL
  have cG := cost SG lG
  have ca := cost a (by omega)
  have cb := cost b (by omega)
  have na := resG_nonneg k1 (fence n a)
  have mL := h.min SL (by omega)
  have he := h.eq
  have za : resG (n + 2) (fence n a) G1 = 0 := by omega
  have zb : resG (n + 2) (fence n b) G1 = 0 := by omega
  have eL : SL = a := bools_ext (N := n) lL (by omega) (fun y hy => by
    have b1 := (h.btw SL (by omega) (by omega) (y : Int) (by omega) (by omega)).1
    rw [rL _ (by omega) (by omega)] at b1 ⊢
    have h3 := w1.all_in (fun y => fence n a y = true) (fence_n n a) (fun y x y0 y1 x0 x1 hy hp hg => by
      cases hq : fence n a x with
      | true => rfl
      | false =>
        have := resG_pos k1 _ za y x y0 y1 x0 x1 hp hq
        omega) (y : Int) (by omega) (by omega)
    rw [fence_lt n a _ (by omega)] at h3
    by_cases c : 0 ≤ rd fr (y : Int)
    · rw [decide_eq_true c, h3 c]
    · rw [decide_eq_false c]
      cases hq : rdOf false a (y : Int) with
      | false => rfl
      | true => exact absurd (of_decide_eq_true (b1 hq)) c)
  have eG : SG = b := bools_ext (N := n) lG (by omega) (fun y hy => by
    have b1 := (h.btw SG (by omega) (by omega) (y : Int) (by omega) (by omega)).2
    rw [rG _ (by omega) (by omega)] at b1 ⊢
    have h3 := w2.all_in (fun y => fence n b y = false) (fence_t n b) (fun y x y0 y1 x0 x1 hy hp hg => by
      cases hq : fence n b x with
      | false => rfl
      | true =>
        have := resG_pos k1 _ zb x y x0 x1 y0 y1 hq hp
        rw [bg y x y0 y1 x0 x1] at hg
        omega) (y : Int) (by omega) (by omega)
    rw [fence_lt n b _ (by omega)] at h3
    by_cases c : rd bk (y : Int) < 0
    · rw [decide_eq_true c, b1 (decide_eq_true c)]
    · rw [decide_eq_false c, h3 (by omega)])
  unfold cantingref07_labels.f
  rw [if_pos ⟨hv, by omega, by omega⟩, show (W * H).toNat = n by omega, e1, Option.bind_some, e2, Option.bind_some, e3, Option.bind_some, if_pos ⟨w1.len, w2.len⟩, ← hSL, ← hSG, eL, eG]
end Go.Proofs.Ytbamanjedfccpaa.HTab
end

section
set_option linter.unusedVariables false
set_option linter.unusedSimpArgs false
namespace Go.Proofs.Ytbamanjedfccpaa.HTab
open Go.RowKit Go.Proofs.YtbamanjedfccpaaW.PrintWords Go.Proofs.YtbamanjedfccpaaW.PrintLast Go.Proofs.YtbamanjedfccpaaW.PrintMore Go.Proofs.Ytbamanjedfccpaa.X
set_option linter.unusedVariables false
set_option linter.unusedSimpArgs false
def sameB (low high : List Bool) : Nat → Bool
  | 0 => true
  | i + 1 => if rdOf false low (i : Int) != rdOf false high (i : Int) then false else sameB low high i
def setS (low high : List Bool) (lo : Int) (out : List Int) : Nat → List Int
  | 0 => out
  | i + 1 => if rdOf false low (i : Int) != rdOf false high (i : Int) then (setS low high lo out i).set i lo else setS low high lo out i
theorem setS_len (low high : List Bool) (lo : Int) (out : List Int) : ∀ i, (setS low high lo out i).length = out.length
  | 0 => rfl
  | i + 1 => by
    simp only [setS]
    split
    · rw [List.length_set]; exact setS_len low high lo out i
    · exact setS_len low high lo out i
structure Ss (w0 w : World) (gb cb n : Nat) (out : List Int) : Prop where
  row : KI.R 3 w w0.heap.size (fun _ => True) (.slice (some ⟨gb, 0, none⟩) n cb) out
  bel : Below w0.heap.size w0 w
section
variable {w0 w : World} {gb cb n : Nat} {out : List Int}
theorem Ss.lb (h : Ss w0 w gb cb n out) : w0.heap.size ≤ gb := Kd.R_base h.row gb rfl
theorem Ss.lt (h : Ss w0 w gb cb n out) : gb < w.heap.size := Kd.R_lt h.row gb rfl
theorem Ss.below {w1 : World} (h : Ss w0 w gb cb n out) (hb : Below w.heap.size w w1) : Ss w0 w1 gb cb n out := ⟨Kd.R_below h.row hb, below_then h.bel h.bel.size hb⟩
theorem Ss.put (h : Ss w0 w gb cb n out) (i x : Int) : Ss w0 (w.setCell ⟨gb, i.toNat, none⟩ (.int .i64 x)) gb cb n (out.set i.toNat x) ∧ w.grownBy (w.setCell ⟨gb, i.toNat, none⟩ (.int .i64 x)) (some gb) := by
  obtain ⟨hr, hg⟩ := Kd.R_putg h.row i x
  exact ⟨⟨hr, h.bel.grown hg h.bel.size (fun k hk => by injection hk with hk; have := h.lb; omega)⟩, hg⟩
end
theorem grown_of {w w1 : World} {g : Option Nat} (h : Below w.heap.size w w1) : w.grownBy w1 g := ⟨h.os, h.tape, h.output, h.size, fun i hi _ => h.block i hi⟩
def SPost (w0 w : World) (gb cb n : Nat) (out : List Int) (e : Ending) (w' : World) : Prop := e = .returned (.tuple #[]) ∧ Ss w0 w' gb cb n out ∧ w.grownBy w' (some gb)
def Cl.rlab (C : Cl) (r : Int) : Option (List Bool × List Bool) := cantingref07_labels.f C.W C.H C.l2 C.l3 C.l4 C.l5 r
def Cl.agg (C : Cl) : Value := .agg #[.int .i64 C.W, .int .i64 C.H, .slice C.A2 C.l2.length C.c2, .slice C.A3 C.l3.length C.c3, .slice C.A4 C.l4.length C.c4, .slice C.A5 C.l5.length C.c5]
abbrev SCalls (w0 W : World) (C : Cl) (gb cb n : Nat) (lo hi : Int) (Al : Option Addr) (cl : Nat) (Ah : Option Addr) (ch : Nat) (res : List Int) : Prop :=
  Calls Try.prog 70 #[.agg #[.int .i64 C.W, .int .i64 C.H, .slice C.A2 C.l2.length C.c2, .slice C.A3 C.l3.length C.c3, .slice C.A4 C.l4.length C.c4, .slice C.A5 C.l5.length C.c5], .int .i64 lo, .int .i64 hi, .slice Al n cl, .slice Ah n ch, .slice (some ⟨gb, 0, none⟩) n cb] W (SPost w0 W gb cb n res)
set_option maxRecDepth 100000 in
set_option maxHeartbeats 8000000 in
theorem search_step (w0 w : World) (C : Cl) (gb cb n : Nat) (out res : List Int) (hS : Ss w0 w gb cb n out) (hI : C.In w0) (Al : Option Addr) (cl bl : Nat) (low : List Bool) (hLow : KB.R 4 w bl (fun k => k ≠ gb) (.slice Al n cl) low) (Ah : Option Addr) (ch bh : Nat) (high : List Bool) (hHigh : KB.R 4 w bh (fun k => k ≠ gb) (.slice Ah n ch) high)
    (lo hi mid : Int) (hlo : -10000 ≤ lo ∧ lo ≤ 10000) (hhi : -10000 ≤ hi ∧ hi ≤ 10000) (hn : n ≤ 1000) (hmid : mid = Int.tdiv (lo + hi) 2) (hmm : -10000 ≤ mid ∧ mid ≤ 10000)
    (hrest : (sameB low high n = true ∨ hi - lo = 1) → res = setS low high lo out n)
    (hgo : ¬ (sameB low high n = true ∨ hi - lo = 1) → ∃ m0 m1 out1, C.rlab mid = some (m0, m1) ∧ m1.length = n ∧
      (∀ W Al cl bl Ah ch bh, Ss w0 W gb cb n (setS low high lo out n) → KB.R 4 W bl (fun k => k ≠ gb) (.slice Al n cl) low → KB.R 4 W bh (fun k => k ≠ gb) (.slice Ah n ch) m1 → SCalls w0 W C gb cb n lo mid Al cl Ah ch out1) ∧
      (∀ W Al cl bl Ah ch bh, Ss w0 W gb cb n out1 → KB.R 4 W bl (fun k => k ≠ gb) (.slice Al n cl) m1 → KB.R 4 W bh (fun k => k ≠ gb) (.slice Ah n ch) high → SCalls w0 W C gb cb n mid hi Al cl Ah ch res)) :
    SCalls w0 w C gb cb n lo hi Al cl Ah ch res := by
  have HS := Aside0.mk hS
  have HI := Aside0.mk hI
  have HLo := Aside0.mk hLow
  have HHi := Aside0.mk hHigh
  have HR := Aside0.mk hrest
  have HGo := Aside0.mk hgo
  have HN := Aside0.mk hn
  have hl1 := (Kd.R_reads' hLow).1
  have hl2 := (Kd.R_reads' hHigh).1
  have HL := Aside0.mk (And.intro hl1 hl2)
  have e1 : wrap64 (hi - lo) = hi - lo := wrap_id (by omega) (by omega)
  have e2 : wrap64 (lo + hi) = lo + hi := wrap_id (by omega) (by omega)
  have e3 : wrap64 (Int.tdiv (lo + hi) 2) = mid := by rw [← hmid]; exact wrap_id (by omega) (by omega)
  have E := Aside0.mk (And.intro e1 (And.intro e2 (And.intro e3 hmid)))
  obtain ⟨W0, hW0⟩ : ∃ W, W = w.alloc (.cells #[.int .i64 C.W, .int .i64 C.H, .slice C.A2 C.l2.length C.c2, .slice C.A3 C.l3.length C.c3, .slice C.A4 C.l4.length C.c4, .slice C.A5 C.l5.length C.c5] 61) := ⟨_, rfl⟩
  have hb0 : Below w.heap.size w W0 := by rw [hW0]; exact below_alloc (Below.refl _ _) _
  have HX0 := Aside0.mk (show W0.heap[w.heap.size]? = some (.cells #[.int .i64 C.W, .int .i64 C.H, .slice C.A2 C.l2.length C.c2, .slice C.A3 C.l3.length C.c3, .slice C.A4 C.l4.length C.c4, .slice C.A5 C.l5.length C.c5] 61 (0, 0)) by rw [hW0]; exact blk_new _ _)
  have HS0 : Aside0 (Ss w0 W0 gb cb n (setS low high lo out 0)) := ⟨hS.below hb0⟩
  have HL0 := Aside0.mk (Kd.R_below hLow hb0)
  have HH0 := Aside0.mk (Kd.R_below hHigh hb0)
  have HG0 : Aside0 (w.grownBy W0 (some gb)) := ⟨grown_of hb0⟩
  have HGB : Aside0 (gb ≠ w.heap.size) := ⟨by have := hS.lt; omega⟩
  clear hS hI hLow hHigh hrest hgo hn hl1 hl2 e1 e2 e3 hb0 hmid
  go_enter Try.func70, Try.ntmps70
  go_wp2
  rw [← hW0]
  clear hW0
  go_loopg [12, 19] (n) (fun kq vs vi w' => ∃ i : Nat, i + kq = n ∧ vi = .int .i64 i ∧ vs = .bool (sameB low high i) ∧ Aside0 (Ss w0 w' gb cb n (setS low high lo out i)) ∧ Aside0 (W0.grownBy w' (some gb)))
  case atStart => exact ⟨0, by omega, rfl, rfl, HS0, ⟨World.grownBy.refl W0 _⟩⟩
  case round =>
    obtain ⟨i, hi_, rfl, rfl, HP, HG⟩ := hrel
    have HLr := Aside0.mk (Kd.R_grown HL0.out HG.out (fun k hk he => hk (by injection he)))
    have HHr := Aside0.mk (Kd.R_grown HH0.out HG.out (fun k hk he => hk (by injection he)))
    by_cases hlt : i < n
    · have hdec : decide (i < n) = true := decide_eq_true hlt
      obtain ⟨al, ea, ka⟩ := Kd.at_bool (by have := (Kd.R_reads' HLr.out).2.2; exact this) (i : Int) (by omega) (by have := HL.out; omega)
      obtain ⟨ah, eb, kb⟩ := Kd.at_bool (by have := (Kd.R_reads' HHr.out).2.2; exact this) (i : Int) (by omega) (by have := HL.out; omega)
      subst ea
      subst eb
      simp only [Int.toNat_natCast] at ka kb
      have iw : wrap64 ((i : Int) + 1) = ((i + 1 : Nat) : Int) := wrap_add1 (by omega) (by have := HN.out; omega)
      have b0 : ((i : Int) < 0) = False := eq_false (by clear iw; omega)
      have b1 : ((i : Int) < (n : Int)) = True := eq_true (by clear iw; omega)
      obtain ⟨kr, fr⟩ := R_at HP.out.row (i : Int) (by clear iw; omega) (by clear iw; omega)
      simp only [Int.toNat_natCast] at kr fr
      have hs1 : sameB low high (i + 1) = if rdOf false low (i : Int) != rdOf false high (i : Int) then false else sameB low high i := rfl
      have hs2 : setS low high lo out (i + 1) = if rdOf false low (i : Int) != rdOf false high (i : Int) then (setS low high lo out i).set i lo else setS low high lo out i := rfl
      obtain ⟨x, hx⟩ : ∃ x, x = rdOf false low (i : Int) := ⟨_, rfl⟩
      obtain ⟨y, hy⟩ : ∃ y, y = rdOf false high (i : Int) := ⟨_, rfl⟩
      rw [← hx] at ka hs1 hs2
      rw [← hy] at kb hs1 hs2
      cases x <;> cases y
      · rw [if_neg (by decide)] at hs1 hs2
        have HP7 : Aside0 (∀ m, Ss w0 (wr.drewN m) gb cb n (setS low high lo out (i + 1)) ∧ W0.grownBy (wr.drewN m) (some gb)) := ⟨fun m => by
          rw [hs2]
          exact ⟨HP.out.below (pw_below_drewN (Below.refl _ _) m), grown_trans HG.out (grown_of (pw_below_drewN (Below.refl _ _) m))⟩⟩
        have HS1 := Aside0.mk hs1
        clear hs1 hs2 hx hy HLr HHr HP HG
        go_wp2
        repeat (go_quiet (fail); try go_wp2)
        go_roundg (n - (i + 1))
        case measure => clear iw; omega
        case rel => exact ⟨i + 1, by clear iw; omega, by first | rfl | exact congrArg (Value.int .i64) iw, by rw [HS1.out], ⟨(HP7.out _).1⟩, ⟨(HP7.out _).2⟩⟩
      · rw [if_pos (by decide)] at hs1 hs2
        have HP7 : Aside0 (∀ m, Ss w0 ((wr.drewN m).setCell ⟨gb, i, none⟩ (.int .i64 lo)) gb cb n (setS low high lo out (i + 1)) ∧ W0.grownBy ((wr.drewN m).setCell ⟨gb, i, none⟩ (.int .i64 lo)) (some gb)) := ⟨fun m => by
          obtain ⟨h1, h2⟩ := (HP.out.below (pw_below_drewN (Below.refl _ _) m)).put (i : Int) lo
          rw [Int.toNat_natCast] at h1 h2
          rw [hs2]
          exact ⟨h1, grown_trans (grown_trans HG.out (grown_of (pw_below_drewN (Below.refl _ _) m))) h2⟩⟩
        have HS1 := Aside0.mk hs1
        clear hs1 hs2 hx hy HLr HHr HP HG
        go_wp2
        repeat (go_quiet (fail); try go_wp2)
        go_roundg (n - (i + 1))
        case measure => clear iw; omega
        case rel => exact ⟨i + 1, by clear iw; omega, by first | rfl | exact congrArg (Value.int .i64) iw, by rw [HS1.out], ⟨(HP7.out _).1⟩, ⟨(HP7.out _).2⟩⟩
      · rw [if_pos (by decide)] at hs1 hs2
        have HP7 : Aside0 (∀ m, Ss w0 ((wr.drewN m).setCell ⟨gb, i, none⟩ (.int .i64 lo)) gb cb n (setS low high lo out (i + 1)) ∧ W0.grownBy ((wr.drewN m).setCell ⟨gb, i, none⟩ (.int .i64 lo)) (some gb)) := ⟨fun m => by
          obtain ⟨h1, h2⟩ := (HP.out.below (pw_below_drewN (Below.refl _ _) m)).put (i : Int) lo
          rw [Int.toNat_natCast] at h1 h2
          rw [hs2]
          exact ⟨h1, grown_trans (grown_trans HG.out (grown_of (pw_below_drewN (Below.refl _ _) m))) h2⟩⟩
        have HS1 := Aside0.mk hs1
        clear hs1 hs2 hx hy HLr HHr HP HG
        go_wp2
        repeat (go_quiet (fail); try go_wp2)
        go_roundg (n - (i + 1))
        case measure => clear iw; omega
        case rel => exact ⟨i + 1, by clear iw; omega, by first | rfl | exact congrArg (Value.int .i64) iw, by rw [HS1.out], ⟨(HP7.out _).1⟩, ⟨(HP7.out _).2⟩⟩
      · rw [if_neg (by decide)] at hs1 hs2
        have HP7 : Aside0 (∀ m, Ss w0 (wr.drewN m) gb cb n (setS low high lo out (i + 1)) ∧ W0.grownBy (wr.drewN m) (some gb)) := ⟨fun m => by
          rw [hs2]
          exact ⟨HP.out.below (pw_below_drewN (Below.refl _ _) m), grown_trans HG.out (grown_of (pw_below_drewN (Below.refl _ _) m))⟩⟩
        have HS1 := Aside0.mk hs1
        clear hs1 hs2 hx hy HLr HHr HP HG
        go_wp2
        repeat (go_quiet (fail); try go_wp2)
        go_roundg (n - (i + 1))
        case measure => clear iw; omega
        case rel => exact ⟨i + 1, by clear iw; omega, by first | rfl | exact congrArg (Value.int .i64) iw, by rw [HS1.out], ⟨(HP7.out _).1⟩, ⟨(HP7.out _).2⟩⟩
    · have hdec : decide (i < n) = false := decide_eq_false hlt
      obtain rfl : i = n := by omega
      have HGw := Aside0.mk (grown_trans HG0.out HG.out)
      have HX := Aside0.mk (blk_grown (w := W0) HX0.out HG.out (by intro e; injection e with e; exact HGB.out e.symm))
      clear hlt hdec HG
      by_cases hstop : sameB low high i = true ∨ hi - lo = 1
      · have hres := HR.out hstop
        have HPR : Aside0 (Ss w0 wr gb cb i res) := ⟨by rw [hres]; exact HP.out⟩
        clear hres HP
        cases hsm : sameB low high i with
        | true =>
          clear hstop
          go_wp2
          repeat (go_quiet (fail); try go_wp2)
          first | go_end0 | ((try simp only [Exit.inBlock, Exit.then]); refine bodyPost_ret (results_none rfl _ _ _) rfl ?_)
          exact ⟨by rfl, HPR.out, HGw.out⟩
        | false =>
          have hd : hi - lo = 1 := hstop.resolve_left (by rw [hsm]; decide)
          have e1 := E.out.1
          have q4 : (hi - lo == 1) = true := beq_iff_eq.mpr hd
          have q5 : (hi - lo = 1) = True := eq_true hd
          clear hstop hd
          go_wp2
          repeat (go_quiet (fail); try go_wp2)
          first | go_end0 | ((try simp only [Exit.inBlock, Exit.then]); refine bodyPost_ret (results_none rfl _ _ _) rfl ?_)
          exact ⟨by rfl, HPR.out, HGw.out⟩
      · obtain ⟨m0, m1, out1, hlab, hml, ih1, ih2⟩ := HGo.out hstop
        have HLab := Aside0.mk hlab
        have HML := Aside0.mk hml
        have I1 := Aside0.mk ih1
        have I2 := Aside0.mk ih2
        have hsm : sameB low high i = false := by cases q : sameB low high i with | true => exact absurd (Or.inl q) hstop | false => rfl
        have hd : ¬ hi - lo = 1 := fun q => hstop (.inr q)
        have e1 := E.out.1
        have e2 := E.out.2.1
        have e3 := E.out.2.2.1
        have q4 : (hi - lo == 1) = false := beq_eq_false_iff_ne.mpr hd
        have q5 : (hi - lo = 1) = False := eq_false hd
        rw [hsm]
        have kc : ∀ k : Nat, _ := fun k => blk_cell HX.out k
        have k0 := (kc 0).trans rfl
        have k1 := (kc 1).trans rfl
        have k2 := (kc 2).trans rfl
        have k3 := (kc 3).trans rfl
        have k4 := (kc 4).trans rfl
        have k5 := (kc 5).trans rfl
        clear kc hstop hd hlab hml ih1 ih2 hsm HR HGo
        go_wp2_with fail
        rw [show Int.tdiv (lo + hi) 2 = mid from E.out.2.2.2.symm]
        refine (cantingref07_labels.calls C.W C.H C.A2 C.c2 C.l2 C.A3 C.c3 C.l3 C.A4 C.c4 C.l4 C.A5 C.c5 C.l5 mid m0 m1 wr (HI.out.below HP.out.bel).r2 HI.out.h2 (HI.out.below HP.out.bel).r3 HI.out.h3 (HI.out.below HP.out.bel).r4 HI.out.h4 (HI.out.below HP.out.bel).r5 HI.out.h5 HLab.out).mono ?_
        rintro e w2 ⟨v0, v1, rfl, hv0, hv1, hb2⟩
        obtain ⟨Am, cm, rfl⟩ := Kd.R_slice hv1
        have hS2 := HP.out.below hb2
        have HS2 := Aside0.mk hS2
        have HL2 := Aside0.mk (Kd.R_below HLr.out hb2)
        have HH2 := Aside0.mk (Kd.R_below HHr.out hb2)
        have HV2 : Aside0 (KB.R 4 w2 wr.heap.size (fun k => k ≠ gb) (.slice Am i cm) m1) := ⟨by have := Kd.R_mono (ok' := fun k => k ≠ gb) (Kd.R_bound hv1) (fun k hk => by have := hk.2.1; have := HP.out.lt; omega); rw [HML.out] at this; exact this⟩
        have HG2 := Aside0.mk (grown_trans HGw.out (grown_of hb2))
        have HXn := Aside0.mk (blk_below HX.out hb2)
        rw [HML.out]
        clear hv0 hv1 hb2 hS2 k0 k1 k2 k3 k4 k5 q4 q5 e1 e2 HX
        have kc : ∀ k : Nat, _ := fun k => blk_cell HXn.out k
        have k0 := (kc 0).trans rfl
        have k1 := (kc 1).trans rfl
        have k2 := (kc 2).trans rfl
        have k3 := (kc 3).trans rfl
        have k4 := (kc 4).trans rfl
        have k5 := (kc 5).trans rfl
        clear kc
        go_wp2_with fail
        clear k0 k1 k2 k3 k4 k5 e3
        refine (I1.out w2 Al cl bl Am cm wr.heap.size HS2.out HL2.out HV2.out).mono ?_
        rintro e w3 ⟨rfl, hS3, hg3⟩
        have HS3 := Aside0.mk hS3
        have HV3 := Aside0.mk (Kd.R_grown HV2.out hg3 (fun k hk he => hk (by injection he)))
        have HH3 := Aside0.mk (Kd.R_grown HH2.out hg3 (fun k hk he => hk (by injection he)))
        have HG3 := Aside0.mk (grown_trans HG2.out hg3)
        have HX3 := Aside0.mk (blk_grown (w := w2) HXn.out hg3 (by intro e; injection e with e; exact HGB.out e.symm))
        clear hS3 hg3 HXn
        have HXn := HX3
        have kc : ∀ k : Nat, _ := fun k => blk_cell HXn.out k
        have k0 := (kc 0).trans rfl
        have k1 := (kc 1).trans rfl
        have k2 := (kc 2).trans rfl
        have k3 := (kc 3).trans rfl
        have k4 := (kc 4).trans rfl
        have k5 := (kc 5).trans rfl
        clear kc
        go_wp2_with fail
        clear k0 k1 k2 k3 k4 k5
        refine (I2.out w3 Am cm wr.heap.size Ah ch bh HS3.out HV3.out HH3.out).mono ?_
        rintro e w4 ⟨rfl, hS4, hg4⟩
        have HS4 := Aside0.mk hS4
        have HG4 := Aside0.mk (grown_trans HG3.out hg4)
        clear hS4 hg4
        go_wp2
        first | go_end0 | ((try simp only [Exit.inBlock, Exit.then]); refine bodyPost_ret (results_none rfl _ _ _) rfl ?_)
        exact ⟨by rfl, HS4.out, HG4.out⟩
def srchP (lab : Int → Option (List Bool × List Bool)) : Nat → Int → Int → List Bool → List Bool → List Int → Option (List Int)
  | 0, _, _, _, _, _ => none
  | k + 1, lo, hi, low, high, out => if sameB low high out.length = true ∨ hi - lo = 1 then some (setS low high lo out out.length) else
    (lab (Int.tdiv (lo + hi) 2)).bind fun m => if m.2.length = out.length then
      (srchP lab k lo (Int.tdiv (lo + hi) 2) low m.2 (setS low high lo out out.length)).bind fun o => srchP lab k (Int.tdiv (lo + hi) 2) hi m.2 high o
    else none
theorem srchP_len (lab : Int → Option (List Bool × List Bool)) : ∀ (k : Nat) (lo hi : Int) (low high : List Bool) (out r : List Int), srchP lab k lo hi low high out = some r → r.length = out.length
  | 0, lo, hi, low, high, out, r, h => by simp [srchP] at h
  | k + 1, lo, hi, low, high, out, r, h => by
    simp only [srchP] at h
    split at h
    · injection h with h
      rw [← h, setS_len]
    · obtain ⟨m, hm, h⟩ := Option.bind_eq_some_iff.1 h
      split at h
      · obtain ⟨o, ho, h⟩ := Option.bind_eq_some_iff.1 h
        rw [srchP_len lab k _ _ _ _ _ _ h, srchP_len lab k _ _ _ _ _ _ ho, setS_len]
      · cases h
theorem search_calls (w0 : World) (C : Cl) (gb cb n : Nat) (hI : C.In w0) (hn : n ≤ 1000) : ∀ (k : Nat) (lo hi : Int) (low high : List Bool) (out r : List Int), srchP C.rlab k lo hi low high out = some r → out.length = n → -10000 ≤ lo → lo < hi → hi ≤ 10000 →
    ∀ (W : World) (Al : Option Addr) (cl bl : Nat) (Ah : Option Addr) (ch bh : Nat), Ss w0 W gb cb n out → KB.R 4 W bl (fun k => k ≠ gb) (.slice Al n cl) low → KB.R 4 W bh (fun k => k ≠ gb) (.slice Ah n ch) high → SCalls w0 W C gb cb n lo hi Al cl Ah ch r
  | 0, lo, hi, low, high, out, r, h, _, _, _, _ => by simp [srchP] at h
  | k + 1, lo, hi, low, high, out, r, h, hol, h1, h2, h3 => by
    intro W Al cl bl Ah ch bh hS hL hH
    simp only [srchP] at h
    rw [hol] at h
    have hb : -10000 ≤ Int.tdiv (lo + hi) 2 ∧ Int.tdiv (lo + hi) 2 ≤ 10000 := by
      rcases Int.le_total 0 (lo + hi) with q | q
      · rw [Int.tdiv_eq_ediv_of_nonneg q]; omega
      · have : Int.tdiv (lo + hi) 2 = -((-(lo + hi)) / 2) := by rw [← Int.tdiv_eq_ediv_of_nonneg (by omega), Int.neg_tdiv, Int.neg_neg]
        omega
    refine search_step w0 W C gb cb n out r hS hI Al cl bl low hL Ah ch bh high hH lo hi _ ⟨h1, by omega⟩ ⟨by omega, h3⟩ hn rfl hb (fun q => ?_) (fun q => ?_)
    · rw [if_pos q] at h
      injection h with h
      exact h.symm
    · rw [if_neg q] at h
      obtain ⟨⟨m0, m1⟩, hm, h⟩ := Option.bind_eq_some_iff.1 h
      split at h
      · rename_i hml
        obtain ⟨o, ho, h⟩ := Option.bind_eq_some_iff.1 h
        have hd : 2 ≤ hi - lo := by
          rcases Int.lt_or_le (hi - lo) 2 with c | c
          · exact absurd (show sameB low high n = true ∨ hi - lo = 1 from .inr (by omega)) q
          · exact c
        have hmid : lo < Int.tdiv (lo + hi) 2 ∧ Int.tdiv (lo + hi) 2 < hi := by
          rcases Int.le_total 0 (lo + hi) with q | q
          · rw [Int.tdiv_eq_ediv_of_nonneg q]; omega
          · have : Int.tdiv (lo + hi) 2 = -((-(lo + hi)) / 2) := by rw [← Int.tdiv_eq_ediv_of_nonneg (by omega), Int.neg_tdiv, Int.neg_neg]
            omega
        have hol2 := srchP_len _ _ _ _ _ _ _ _ ho
        rw [setS_len] at hol2
        exact ⟨m0, m1, o, hm, hml, fun W Al cl bl Ah ch bh a b c => search_calls w0 C gb cb n hI hn k lo _ low m1 _ _ ho (by rw [setS_len]; exact hol) h1 hmid.1 hb.2 W Al cl bl Ah ch bh a b c,
          fun W Al cl bl Ah ch bh a b c => search_calls w0 C gb cb n hI hn k _ hi m1 high _ _ h (by omega) hb.1 hmid.2 h3 W Al cl bl Ah ch bh a b c⟩
      · cases h
end Go.Proofs.Ytbamanjedfccpaa.HTab
end

section
set_option linter.unusedVariables false
set_option linter.unusedSimpArgs false
namespace Go.Proofs.Ytbamanjedfccpaa.HTab
open Go.RowKit Go.Proofs.YtbamanjedfccpaaW.PrintWords Go.Proofs.YtbamanjedfccpaaW.PrintLast Go.Proofs.YtbamanjedfccpaaW.PrintMore Go.Proofs.Ytbamanjedfccpaa.X
set_option linter.unusedVariables false
set_option linter.unusedSimpArgs false
theorem wrap_big {x : Int} (h0 : 0 ≤ x) (h : x ≤ 9223372036854775807) : wrap64 x = x := by unfold wrap64; omega
theorem priced_l0 (l : List Int) (n : Int) (hl : l.length ≤ 9223372036854775807) : ∀ (d i fu : Nat), i + d = l.length → d < fu → cantingref07_priced.l0 fu l n l l.length i = some (decide ((l.length : Int) = n) && !(l.drop i).any badI || false && (l.drop i).any badI)
  | d, i, 0, hi, hf => by omega
  | 0, i, fu + 1, hi, hf => by
    obtain rfl : i = l.length := by omega
    simp only [cantingref07_priced.l0]
    rw [if_neg (by omega), List.drop_length]
    simp only [List.any_nil, Bool.not_false, Bool.and_true, Bool.false_and, Bool.or_false]
    rfl
  | d + 1, i, fu + 1, hi, hf => by
    have hlt : i < l.length := by omega
    have ih := priced_l0 l n hl d (i + 1) fu (by omega) (by omega)
    have e : rd l (i : Int) = l[i] := by simp [rd, hlt]
    simp only [cantingref07_priced.l0]
    rw [if_pos (by omega), if_pos (by omega), if_pos (by omega), e, show wrap64 ((i : Int) + 1) = ((i + 1 : Nat) : Int) by rw [wrap_big (by omega) (by omega)]; omega, ih, List.drop_eq_getElem_cons hlt]
    simp only [List.any_cons, badI]
    by_cases h1 : l[i] < 0
    · rw [if_pos h1, decide_eq_true h1]; simp
    · rw [if_neg h1, decide_eq_false h1]
      by_cases h2 : l[i] > 1000
      · rw [if_pos h2, decide_eq_true (show 1000 < l[i] from h2)]; simp
      · rw [if_neg h2, decide_eq_false (show ¬ 1000 < l[i] from h2)]; rfl
theorem priced_f (l : List Int) (n : Int) (hl : l.length ≤ 9223372036854775807) (fu : Nat) (hf : l.length < fu) : cantingref07_priced.f fu l n = some (okL l n) := by
  have := priced_l0 l n hl l.length 0 fu (by omega) hf
  rw [List.drop_zero] at this
  refine this.trans ?_
  unfold okL
  simp
theorem okL_take (l : List Int) (n : Int) (hn : n ≤ 36) : okL (l.take 50) n = okL l n := by
  rcases Nat.lt_or_ge 50 l.length with h | h
  · unfold okL
    rw [decide_eq_false (show ¬ ((l.take 50).length : Int) = n by rw [List.length_take]; omega), decide_eq_false (show ¬ (l.length : Int) = n by omega)]
    rfl
  · rw [List.take_of_length_le h]
theorem wh_le {W H : Int} (hw : 1 ≤ W ∧ W ≤ 6) (hh : 1 ≤ H ∧ H ≤ 6) : 1 ≤ W * H ∧ W * H ≤ 36 := by
  have h1 : W = 1 ∨ W = 2 ∨ W = 3 ∨ W = 4 ∨ W = 5 ∨ W = 6 := by omega
  rcases h1 with h1 | h1 | h1 | h1 | h1 | h1 <;> rw [h1] <;> omega
theorem cvB_take (W H : Int) (l2 l3 l4 l5 : List Int) : cvB W H (l2.take 50) (l3.take 50) (l4.take 50) (l5.take 50) = cvB W H l2 l3 l4 l5 := by
  unfold cvB
  by_cases hw : 1 ≤ W ∧ W ≤ 6
  · by_cases hh : 1 ≤ H ∧ H ≤ 6
    · have := wh_le hw hh
      rw [okL_take _ _ this.2, okL_take _ _ this.2, okL_take _ _ (by omega), okL_take _ _ (by omega)]
    · rw [decide_eq_false hh]; simp
  · rw [decide_eq_false hw]; simp
theorem woven_f (W H : Int) (l2 l3 l4 l5 : List Int) (h2 : l2.length ≤ 9223372036854775807) (h3 : l3.length ≤ 9223372036854775807) (h4 : l4.length ≤ 9223372036854775807) (h5 : l5.length ≤ 9223372036854775807) (fu : Nat) (hf : l2.length + l3.length + l4.length + l5.length + 2 ≤ fu) :
    cantingref07_Woven.f fu W H l2 l3 l4 l5 = some (cvB W H l2 l3 l4 l5) := by
  obtain ⟨fu, rfl⟩ : ∃ g, fu = g + 1 := ⟨fu - 1, by omega⟩
  have hno : ∀ b : Bool, ¬ (1 ≤ W ∧ W ≤ 6 ∧ 1 ≤ H ∧ H ≤ 6) → cvB W H l2 l3 l4 l5 = false := fun b h => by
    unfold cvB
    by_cases hw : 1 ≤ W ∧ W ≤ 6
    · rw [decide_eq_false (show ¬ (1 ≤ H ∧ H ≤ 6) by omega)]; simp
    · rw [decide_eq_false hw]; simp
  unfold cantingref07_Woven.f
  by_cases c1 : W < 1
  · rw [if_pos c1, hno true (by omega)]; simp only [cantingref07_Woven.j0, if_true]
  rw [if_neg c1]
  by_cases c2 : W > 6
  · rw [if_pos c2, hno true (by omega)]; simp only [cantingref07_Woven.j0, if_true]
  rw [if_neg c2]
  by_cases c3 : H < 1
  · rw [if_pos c3, hno true (by omega)]; simp only [cantingref07_Woven.j0, if_true]
  rw [if_neg c3]
  by_cases c4 : H > 6
  · rw [decide_eq_true c4, hno true (by omega)]; simp only [cantingref07_Woven.j0, if_true]
  have hw : 1 ≤ W ∧ W ≤ 6 := by omega
  have hh : 1 ≤ H ∧ H ≤ 6 := by omega
  have hn := wh_le hw hh
  have e1 : (W - 1) * H = W * H - H := by rw [Int.sub_mul, Int.one_mul]
  have e2 : W * (H - 1) = W * H - W := by rw [Int.mul_sub, Int.mul_one]
  rw [decide_eq_false c4]
  simp only [cantingref07_Woven.j0, Bool.false_eq_true, if_false]
  rw [show wrap64 (W - 1) = W - 1 from wrap_id (by omega) (by omega), show wrap64 (H - 1) = H - 1 from wrap_id (by omega) (by omega), e1, e2,
    show wrap64 (W * H) = W * H from wrap_id (by omega) (by omega), show wrap64 (W * H - H) = W * H - H from wrap_id (by omega) (by omega), show wrap64 (W * H - W) = W * H - W from wrap_id (by omega) (by omega),
    priced_f l2 _ h2 fu (by omega), priced_f l3 _ h3 fu (by omega), priced_f l4 _ h4 fu (by omega), priced_f l5 _ h5 fu (by omega)]
  unfold cvB
  rw [decide_eq_true hw, decide_eq_true hh]
  simp only [Option.bind_some]
  cases okL l2 (W * H) <;> cases okL l3 (W * H) <;> cases okL l4 (W * H - H) <;> cases okL l5 (W * H - W) <;> rfl
end Go.Proofs.Ytbamanjedfccpaa.HTab
end

section
set_option linter.unusedVariables false
set_option linter.unusedSimpArgs false
namespace Go.Proofs.Ytbamanjedfccpaa.HTab
open Go.RowKit Go.Proofs.YtbamanjedfccpaaW.PrintWords Go.Proofs.YtbamanjedfccpaaW.PrintLast Go.Proofs.YtbamanjedfccpaaW.PrintMore Go.Proofs.Ytbamanjedfccpaa.X
set_option linter.unusedVariables false
set_option linter.unusedSimpArgs false
set_option maxRecDepth 100000 in
set_option maxHeartbeats 8000000 in
theorem rprices_ok (C : Cl) (w : World) (hI : C.In w) (hv : cvB C.W C.H C.l2 C.l3 C.l4 C.l5 = true) (n : Nat) (hn : (n : Int) = C.W * C.H) (h1 : 1 ≤ n) (h36 : n ≤ 36) (a0 a1 b0 b1 : List Bool) (hla : C.rlab (-5001) = some (a0, a1)) (hl1 : a1.length = n) (hlb : C.rlab 5001 = some (b0, b1)) (hl2 : b1.length = n) (k : Nat) (r : List Int) (hr : srchP C.rlab k (-5001) 5001 a1 b1 (List.replicate n 0) = some r) :
    Calls Try.prog 46 #[.agg #[.int .i64 C.W, .int .i64 C.H, .slice C.A2 C.l2.length C.c2, .slice C.A3 C.l3.length C.c3, .slice C.A4 C.l4.length C.c4, .slice C.A5 C.l5.length C.c5]] w (PrP w r 0) := by
  have HI := Aside0.mk hI
  have HV := Aside0.mk hv
  have HR := Aside0.mk hr
  have HLa := Aside0.mk hla
  have HLb := Aside0.mk hlb
  have HL1 := Aside0.mk hl1
  have HL2 := Aside0.mk hl2
  have HWv : Aside0 (cantingref07_Woven.f 200 C.W C.H C.l2 C.l3 C.l4 C.l5 = some true) := ⟨by
    have hc := cvB_ok hv
    have := hc.n2; have := hc.n3; have := hc.n4; have := hc.n5; have := hc.n; have := hc.w; have := hc.h
    rw [woven_f C.W C.H C.l2 C.l3 C.l4 C.l5 (by omega) (by omega) (by omega) (by omega) 200 (by omega), hv]⟩
  have e0 : wrap64 (C.W * C.H) = (n : Int) := by rw [← hn]; exact wrap_id (by omega) (by omega)
  obtain ⟨W0, hW0⟩ : ∃ W, W = w.alloc (.cells #[.int .i64 C.W, .int .i64 C.H, .slice C.A2 C.l2.length C.c2, .slice C.A3 C.l3.length C.c3, .slice C.A4 C.l4.length C.c4, .slice C.A5 C.l5.length C.c5] 61) := ⟨_, rfl⟩
  have HB0 := Aside0.mk (show Below w.heap.size w W0 by rw [hW0]; exact below_alloc (Below.refl _ _) _)
  have HX0 := Aside0.mk (show W0.heap[w.heap.size]? = some (.cells #[.int .i64 C.W, .int .i64 C.H, .slice C.A2 C.l2.length C.c2, .slice C.A3 C.l3.length C.c3, .slice C.A4 C.l4.length C.c4, .slice C.A5 C.l5.length C.c5] 61 (0, 0)) by rw [hW0]; exact blk_new _ _)
  clear hI hv hr hn hla hlb hl1 hl2
  go_enter Try.func46, Try.ntmps46
  go_wp2_with fail
  rw [← hW0]
  clear hW0
  have HI0 := Aside0.mk (HI.out.below HB0.out)
  refine (cantingref07_Woven.calls 200 C.W C.H C.A2 C.c2 C.l2 C.A3 C.c3 C.l3 C.A4 C.c4 C.l4 C.A5 C.c5 C.l5 true W0 HI0.out.r2 HI0.out.h2 HI0.out.r3 HI0.out.h3 HI0.out.r4 HI0.out.h4 HI0.out.r5 HI0.out.h5 HWv.out).mono ?_
  rintro e w2 ⟨rfl, hb2⟩
  have HB2 := Aside0.mk (below_then HB0.out HB0.out.size hb2)
  have hbx2 := blk_below HX0.out hb2
  have HX2 := Aside0.mk hbx2
  have j0 := (blk_cell hbx2 0).trans rfl
  have j1 := (blk_cell hbx2 1).trans rfl
  clear hb2 hbx2
  have HBr : Aside0 (Below w.heap.size w w2) := HB2
  go_wp2_with ((with_reducible refine gate_dst (N := 17) rfl ?_); refine mark_ ?_)
  refine ⟨?_⟩
  refine Kd.R_make (Kd.int .i64) (w0 := w2) w2.heap.size 3 rfl (N := 17) rfl 40 _ _ rfl (n : Int) (congrArg (Value.int .i64) e0) (congrArg (Value.int .i64) e0) Try.underlying40 (.int .i64 0) 8 info3 rfl (by decide) (by omega) 0 (ok := fun _ => True) (okp := fun _ => False) rfl (fun _ h => trivial) trivial (by omega) (by rw [Int.toNat_natCast]; omega) (Below.refl _ _) (Nat.le_refl _) ?_
  intro v3 w3 hR3 hB3 hg3 hne3
  obtain ⟨gb, cb, rfl, hgb⟩ := made_slice hR3 hne3
  rw [List.length_replicate, Int.toNat_natCast] at hR3
  rw [List.length_replicate, Int.toNat_natCast]
  have HS3 := Aside0.mk (show Ss w2 w3 gb cb n (List.replicate n 0) from ⟨hR3, hB3⟩)
  have HX3 := Aside0.mk (blk_below HX2.out hB3)
  have HI3 := Aside0.mk (HI.out.below (below_then HBr.out HBr.out.size hB3))
  have kc : ∀ k : Nat, _ := fun k => blk_cell HX3.out k
  have k0 := (kc 0).trans rfl
  have k1 := (kc 1).trans rfl
  have k2 := (kc 2).trans rfl
  have k3 := (kc 3).trans rfl
  have k4 := (kc 4).trans rfl
  have k5 := (kc 5).trans rfl
  clear kc hR3 hB3 hg3 hne3 hgb j0 j1 HI0 HB0 HX0 HX2
  go_wp2_with fail
  refine (cantingref07_labels.calls C.W C.H C.A2 C.c2 C.l2 C.A3 C.c3 C.l3 C.A4 C.c4 C.l4 C.A5 C.c5 C.l5 (-5001) a0 a1 w3 HI3.out.r2 HI3.out.h2 HI3.out.r3 HI3.out.h3 HI3.out.r4 HI3.out.h4 HI3.out.r5 HI3.out.h5 HLa.out).mono ?_
  rintro e w4 ⟨u0, u1, rfl, hu0, hu1, hb4⟩
  obtain ⟨Aa, ca, rfl⟩ := Kd.R_slice hu1
  have HS4 := Aside0.mk (HS3.out.below hb4)
  have HX4 := Aside0.mk (blk_below HX3.out hb4)
  have HI4 := Aside0.mk (HI3.out.below hb4)
  have HA4 : Aside0 (KB.R 4 w4 w3.heap.size (fun k => k ≠ gb) (.slice Aa n ca) a1) := ⟨by have := Kd.R_mono (ok' := fun k => k ≠ gb) (Kd.R_bound hu1) (fun k hk => by have := hk.2.1; have := HS3.out.lt; omega); rw [HL1.out] at this; exact this⟩
  rw [HL1.out]
  have kc : ∀ k : Nat, _ := fun k => blk_cell HX4.out k
  clear k0 k1 k2 k3 k4 k5
  have k0 := (kc 0).trans rfl
  have k1 := (kc 1).trans rfl
  have k2 := (kc 2).trans rfl
  have k3 := (kc 3).trans rfl
  have k4 := (kc 4).trans rfl
  have k5 := (kc 5).trans rfl
  clear kc hu0 hu1 hb4 HS3 HX3 HI3
  go_wp2_with fail
  refine (cantingref07_labels.calls C.W C.H C.A2 C.c2 C.l2 C.A3 C.c3 C.l3 C.A4 C.c4 C.l4 C.A5 C.c5 C.l5 5001 b0 b1 w4 HI4.out.r2 HI4.out.h2 HI4.out.r3 HI4.out.h3 HI4.out.r4 HI4.out.h4 HI4.out.r5 HI4.out.h5 HLb.out).mono ?_
  rintro e w5 ⟨z0, z1, rfl, hz0, hz1, hb5⟩
  obtain ⟨Ab, cb5, rfl⟩ := Kd.R_slice hz1
  have HS5 := Aside0.mk (HS4.out.below hb5)
  have HX5 := Aside0.mk (blk_below HX4.out hb5)
  have HA5 := Aside0.mk (Kd.R_below HA4.out hb5)
  have HB5 : Aside0 (KB.R 4 w5 w4.heap.size (fun k => k ≠ gb) (.slice Ab n cb5) b1) := ⟨by have := Kd.R_mono (ok' := fun k => k ≠ gb) (Kd.R_bound hz1) (fun k hk => by have := hk.2.1; have := HS4.out.lt; omega); rw [HL2.out] at this; exact this⟩
  rw [HL2.out]
  have kc : ∀ k : Nat, _ := fun k => blk_cell HX5.out k
  clear k0 k1 k2 k3 k4 k5
  have k0 := (kc 0).trans rfl
  have k1 := (kc 1).trans rfl
  have k2 := (kc 2).trans rfl
  have k3 := (kc 3).trans rfl
  have k4 := (kc 4).trans rfl
  have k5 := (kc 5).trans rfl
  clear kc hz0 hz1 hb5 HX4 HI4 HS4 HA4
  go_wp2_with fail
  refine (search_calls w2 C gb cb n (HI.out.below HBr.out) (by omega) k (-5001) 5001 a1 b1 (List.replicate n 0) r HR.out (List.length_replicate ..) (by omega) (by omega) (by omega) w5 Aa ca _ Ab cb5 _ HS5.out HA5.out HB5.out).mono ?_
  rintro e w8 ⟨rfl, hS8, hg8⟩
  have HS8 := Aside0.mk hS8
  clear hS8 hg8 k0 k1 k2 k3 k4 k5
  go_wp2
  go_ret2
  exact ⟨_, by rfl, Kd.R_lower HS8.out.row HBr.out.size, below_then HBr.out HBr.out.size HS8.out.bel⟩
end Go.Proofs.Ytbamanjedfccpaa.HTab
namespace Go.Proofs.Ytbamanjedfccpaa.X
set_option linter.unusedVariables false
open Go.RowKit Go.Proofs.YtbamanjedfccpaaW.PrintWords Go.Proofs.YtbamanjedfccpaaW.PrintLast Go.Proofs.YtbamanjedfccpaaW.PrintMore Go.Proofs.Ytbamanjedfccpaa.HTab
def cantingref07_Prices.f (W H : Int) (l2 l3 l4 l5 : List Int) : Option (List Int × Int) :=
  if cvB W H l2 l3 l4 l5 = true then
    (cantingref07_labels.f W H l2 l3 l4 l5 (-5001)).bind fun a => (cantingref07_labels.f W H l2 l3 l4 l5 5001).bind fun b =>
      if a.2.length = (W * H).toNat ∧ b.2.length = (W * H).toNat then (srchP (cantingref07_labels.f W H l2 l3 l4 l5) 20 (-5001) 5001 a.2 b.2 (List.replicate (W * H).toNat 0)).map fun r => (r, 0) else none
  else none
theorem cantingref07_Prices.calls (a0_0 : Int) (a0_1 : Int) (A0_2 : Option Addr) (c0_2 : Nat) (l0_2 : List Int) (A0_3 : Option Addr) (c0_3 : Nat) (l0_3 : List Int) (A0_4 : Option Addr) (c0_4 : Nat) (l0_4 : List Int) (A0_5 : Option Addr) (c0_5 : Nat) (l0_5 : List Int) (r1 : List Int) (r2 : Int) (w : World) (hr0_2 : Kd.C (Kd.int .i64) w A0_2 l0_2.length l0_2) (hc0_2 : l0_2.length ≤ c0_2) (hr0_3 : Kd.C (Kd.int .i64) w A0_3 l0_3.length l0_3) (hc0_3 : l0_3.length ≤ c0_3) (hr0_4 : Kd.C (Kd.int .i64) w A0_4 l0_4.length l0_4) (hc0_4 : l0_4.length ≤ c0_4) (hr0_5 : Kd.C (Kd.int .i64) w A0_5 l0_5.length l0_5) (hc0_5 : l0_5.length ≤ c0_5) (h : cantingref07_Prices.f a0_0 a0_1 l0_2 l0_3 l0_4 l0_5 = some (r1, r2)) :
    Calls Try.prog 46 #[.agg #[.int .i64 a0_0, .int .i64 a0_1, .slice A0_2 l0_2.length c0_2, .slice A0_3 l0_3.length c0_3, .slice A0_4 l0_4.length c0_4, .slice A0_5 l0_5.length c0_5]] w fun e w' => ∃ v1_ : Value, e = .returned (.tuple #[v1_, .int .i64 r2]) ∧ Kd.R (Kd.int .i64) 3 w' w.heap.size (fun _ => True) v1_ r1 ∧ Below w.heap.size w w' := by
  unfold cantingref07_Prices.f at h
  split at h
  · rename_i hv
    obtain ⟨⟨x0, x1⟩, hA, h⟩ := Option.bind_eq_some_iff.1 h
    obtain ⟨⟨y0, y1⟩, hB, h⟩ := Option.bind_eq_some_iff.1 h
    split at h
    · rename_i hl
      obtain ⟨r, hr, h⟩ := Option.map_eq_some_iff.1 h
      injection h with h1 h2
      subst h1; subst h2
      have hn := cvB_n hv
      exact rprices_ok ⟨a0_0, a0_1, A0_2, c0_2, l0_2, A0_3, c0_3, l0_3, A0_4, c0_4, l0_4, A0_5, c0_5, l0_5⟩ w ⟨hr0_2, hc0_2, hr0_3, hc0_3, hr0_4, hc0_4, hr0_5, hc0_5⟩ hv (a0_0 * a0_1).toNat (Int.toNat_of_nonneg (by omega)) (by omega) (by omega) x0 x1 y0 y1 hA hl.1 hB hl.2 20 r hr
    · cases h
  · cases h
end Go.Proofs.Ytbamanjedfccpaa.X
end

section
set_option linter.unusedVariables false
set_option linter.unusedSimpArgs false
namespace Go.Proofs.Ytbamanjedfccpaa.X
open Go.RowKit Go.Proofs.YtbamanjedfccpaaW.PrintWords Go.Proofs.YtbamanjedfccpaaW.PrintLast Go.Proofs.YtbamanjedfccpaaW.PrintMore
attribute [local go_sem] max2_int min2_int max_two min_two max_three min_three max_four min_four   -- for this text's walks alone
set_option linter.unusedVariables false
set_option linter.unusedSimpArgs false
def slices_Equal_int_int.l0 : Nat → List Int → List Int → Int → Int → Option (Bool)
  | 0, _, _, _, _ => none
  | k + 1, x0, x1, x12, x13 => if x13 < x12 then (if 0 ≤ x13 then (if x13 < (x0.length : Int) then (if x13 < (x1.length : Int) then (if (rd x0 x13) = (rd x1 x13) then (slices_Equal_int_int.l0 k x0 x1 x12 (wrap64 (x13 + 1))) else (some false)) else (none)) else (none)) else (none)) else (some true)
def slices_Equal_int_int.f (k : Nat) (l0 : List Int) (l1 : List Int) : Option (Bool) := if (l0.length : Int) = (l1.length : Int) then (slices_Equal_int_int.l0 k l0 l1 (l0.length : Int) 0) else (some false)
set_option maxHeartbeats 8000000 in
set_option maxRecDepth 100000 in
theorem slices_Equal_int_int.calls (k : Nat) (A0 : Option Addr) (c0 : Nat) (l0 : List Int) (A1 : Option Addr) (c1 : Nat) (l1 : List Int) (r : Bool) (w : World) (hr0 : Kd.C (Kd.int .i64) w A0 l0.length l0) (hc0 : l0.length ≤ c0) (hr1 : Kd.C (Kd.int .i64) w A1 l1.length l1) (hc1 : l1.length ≤ c1) (h : slices_Equal_int_int.f k l0 l1 = some r) :
    Calls Try.prog 47 #[.slice A0 l0.length c0, .slice A1 l1.length c1] w fun e w' => e = .returned (.bool r) ∧ Drawn0 w w' := by
  have HR0 := Aside0.mk hr0
  have HC0 := Aside0.mk hc0
  clear hr0 hc0
  have HR1 := Aside0.mk hr1
  have HC1 := Aside0.mk hc1
  clear hr1 hc1
  have H : (if (l0.length : Int) = (l1.length : Int) then (slices_Equal_int_int.l0 k l0 l1 (l0.length : Int) 0) else (some false)) = some r := h
  clear h
  by_cases c3 : (l0.length : Int) = (l1.length : Int)
  · rw [if_pos c3] at H
    have c3b0 : ((l0.length : Int) == (l1.length : Int)) = true := beq_iff_eq.mpr c3
    have c3b1 : ((l0.length : Int) != (l1.length : Int)) = false := bne_eq_false_iff_eq.mpr c3
    have c3b2 : (l0.length == l1.length) = true := by first | simpa using c3 | (simp at c3 ⊢; omega)
    clear c3
    have H' := Aside0.mk H
    clear H
    go_enter Try.func47, Try.ntmps47
    go_wp2
    repeat (go_quiet (fail); try go_wp2)
    go_loopg [13] k (fun kq v13 w' => ∃ (x13_1 : Int), v13 = .int .i64 x13_1 ∧ Aside0 (slices_Equal_int_int.l0 kq l0 l1 (l0.length : Int) x13_1 = some r) ∧ Aside0 (kq ≤ k) ∧ Drawn0 w w')
    case atStart => exact ⟨(0), (by first | rfl | (simp; done) | (simp [*]; done)), H', ⟨Nat.le_refl _⟩, by repeat (first | exact Drawn0.refl _ | apply Drawn0.step)⟩
    case round =>
      clear H'
      try clear c1
      try clear p2
      try clear c3
      try clear c3b0
      try clear c3b1
      try clear c3b2
      obtain ⟨x13_1, rfl, HA, HK1, ⟨m1, rfl⟩⟩ := hrel
      cases gk with
      | zero => exact absurd HA.out (by simp [slices_Equal_int_int.l0])
      | succ k1 =>
        have H := HA.out
        clear HA
        simp only [slices_Equal_int_int.l0] at H
        by_cases c4 : x13_1 < (l0.length : Int)
        · rw [if_pos c4] at H
          have c4b0 : decide (x13_1 < (l0.length : Int)) = true := decide_eq_true c4
          clear c4
          by_cases c5 : 0 ≤ x13_1
          · rw [if_pos c5] at H
            have c5b0 : decide (0 ≤ x13_1) = true := decide_eq_true c5
            clear c5
            by_cases c6 : x13_1 < (l0.length : Int)
            · rw [if_pos c6] at H
              have c6b0 : decide (x13_1 < (l0.length : Int)) = true := decide_eq_true c6
              clear c6
              by_cases c7 : x13_1 < (l1.length : Int)
              · rw [if_pos c7] at H
                have c7b0 : decide (x13_1 < (l1.length : Int)) = true := decide_eq_true c7
                clear c7
                by_cases c8 : (rd l0 x13_1) = (rd l1 x13_1)
                · rw [if_pos c8] at H
                  have c8b0 : ((rd l0 x13_1) == (rd l1 x13_1)) = true := beq_iff_eq.mpr c8
                  have c8b1 : ((rd l0 x13_1) != (rd l1 x13_1)) = false := bne_eq_false_iff_eq.mpr c8
                  clear c8
                  have H' := Aside0.mk H
                  clear H
                  have p908 : 0 ≤ (x13_1 : Int) := of_decide_eq_true (by first | (with_reducible assumption) | assumption)
                  have q908 : x13_1 < (l0.length : Int) := of_decide_eq_true (by first | (with_reducible assumption) | assumption)
                  obtain ⟨ad908, e908, hx908_0⟩ := Kd.at_int HR0.out x13_1 p908 q908
                  cases e908
                  replace p908 := eq_true p908
                  replace q908 := eq_true q908
                  have p909 : 0 ≤ (x13_1 : Int) := of_decide_eq_true (by first | (with_reducible assumption) | assumption)
                  have q909 : x13_1 < (l1.length : Int) := of_decide_eq_true (by first | (with_reducible assumption) | assumption)
                  obtain ⟨ad909, e909, hx909_0⟩ := Kd.at_int HR1.out x13_1 p909 q909
                  cases e909
                  replace p909 := eq_true p909
                  replace q909 := eq_true q909
                  go_wp2
                  repeat (go_quiet (fail); try go_wp2)
                  go_roundg k1
                  case measure => have := HK1.out; omega
                  case rel => exact ⟨(wrap64 (x13_1 + 1)), (by first | rfl | (simp; done) | (simp [*]; done)), H', ⟨by have := HK1.out; omega⟩, by repeat (first | exact Drawn0.refl _ | apply Drawn0.step)⟩
                · rw [if_neg c8] at H
                  have c8b0 : ((rd l0 x13_1) == (rd l1 x13_1)) = false := beq_eq_false_iff_ne.mpr c8
                  have c8b1 : ((rd l0 x13_1) != (rd l1 x13_1)) = true := bne_iff_ne.mpr c8
                  obtain rfl := Option.some.inj H
                  have p908 : 0 ≤ (x13_1 : Int) := of_decide_eq_true (by first | (with_reducible assumption) | assumption)
                  have q908 : x13_1 < (l0.length : Int) := of_decide_eq_true (by first | (with_reducible assumption) | assumption)
                  obtain ⟨ad908, e908, hx908_0⟩ := Kd.at_int HR0.out x13_1 p908 q908
                  cases e908
                  replace p908 := eq_true p908
                  replace q908 := eq_true q908
                  have p909 : 0 ≤ (x13_1 : Int) := of_decide_eq_true (by first | (with_reducible assumption) | assumption)
                  have q909 : x13_1 < (l1.length : Int) := of_decide_eq_true (by first | (with_reducible assumption) | assumption)
                  obtain ⟨ad909, e909, hx909_0⟩ := Kd.at_int HR1.out x13_1 p909 q909
                  cases e909
                  replace p909 := eq_true p909
                  replace q909 := eq_true q909
                  go_wp2
                  repeat (go_quiet (fail); try go_wp2)
                  go_ret
                  exact ⟨by first | rfl | (simp; done) | (simp [*]; done), by repeat (first | exact Drawn0.refl _ | apply Drawn0.step)⟩
              · rw [if_neg c7] at H
                exact absurd H (by simp)
            · rw [if_neg c6] at H
              exact absurd H (by simp)
          · rw [if_neg c5] at H
            exact absurd H (by simp)
        · rw [if_neg c4] at H
          have c4b0 : decide (x13_1 < (l0.length : Int)) = false := decide_eq_false c4
          clear c4
          obtain rfl := Option.some.inj H
          go_wp2
          repeat (go_quiet (fail); try go_wp2)
          go_ret
          exact ⟨by first | rfl | (simp; done) | (simp [*]; done), by repeat (first | exact Drawn0.refl _ | apply Drawn0.step)⟩
  · rw [if_neg c3] at H
    have c3b0 : ((l0.length : Int) == (l1.length : Int)) = false := beq_eq_false_iff_ne.mpr c3
    have c3b1 : ((l0.length : Int) != (l1.length : Int)) = true := bne_iff_ne.mpr c3
    have c3b2 : (l0.length == l1.length) = false := by first | simpa using c3 | (simp at c3 ⊢; omega)
    obtain rfl := Option.some.inj H
    go_enter Try.func47, Try.ntmps47
    go_wp2
    repeat (go_quiet (fail); try go_wp2)
    go_ret
    exact ⟨by first | rfl | (simp; done) | (simp [*]; done), by repeat (first | exact Drawn0.refl _ | apply Drawn0.step)⟩
end Go.Proofs.Ytbamanjedfccpaa.X
end

section
set_option linter.unusedVariables false
set_option linter.unusedSimpArgs false
namespace Go.Proofs.Ytbamanjedfccpaa.X
open Go.RowKit Go.Proofs.YtbamanjedfccpaaW.PrintWords Go.Proofs.YtbamanjedfccpaaW.PrintLast Go.Proofs.YtbamanjedfccpaaW.PrintMore
attribute [local go_sem] max2_int min2_int max_two min_two max_three min_three max_four min_four   -- for this text's walks alone
set_option linter.unusedVariables false
set_option linter.unusedSimpArgs false
def cantinglaw07_WaxPrices.f (k : Nat) (a0_0 : Int) (a0_1 : Int) (l0_2 : List Int) (l0_3 : List Int) (l0_4 : List Int) (l0_5 : List Int) : Option (Bool) := (cantinglaw07_cloth.f a0_0 a0_1 l0_2 l0_3 l0_4 l0_5).bind fun bt911 => ((wax_Prices.f bt911.1 bt911.2.1 bt911.2.2.1 bt911.2.2.2.1 bt911.2.2.2.2.1 bt911.2.2.2.2.2).bind fun bt925 => ((cantingref07_Woven.f k a0_0 a0_1 l0_2 l0_3 l0_4 l0_5).bind fun t929 => (if t929 = true then ((cantingref07_Prices.f a0_0 a0_1 l0_2 l0_3 l0_4 l0_5).bind fun bt930 => ((slices_Equal_int_int.f k bt925.1 bt930.1).bind fun t934 => (if t934 = true then (if bt925.2 = 0 then ((cantinglaw07_awake.f).bind fun t935 => (some t935)) else (some false)) else (some false)))) else (if (bt925.1.length : Int) = 0 then (if bt925.2 = 2 then ((cantinglaw07_awake.f).bind fun t936 => (some t936)) else (some false)) else (some false)))))
set_option maxHeartbeats 8000000 in
set_option maxRecDepth 100000 in
theorem cantinglaw07_WaxPrices.calls (k : Nat) (a0_0 : Int) (a0_1 : Int) (A0_2 : Option Addr) (c0_2 : Nat) (l0_2 : List Int) (A0_3 : Option Addr) (c0_3 : Nat) (l0_3 : List Int) (A0_4 : Option Addr) (c0_4 : Nat) (l0_4 : List Int) (A0_5 : Option Addr) (c0_5 : Nat) (l0_5 : List Int) (w : World) (hr0_2 : Kd.C (Kd.int .i64) w A0_2 l0_2.length l0_2) (hc0_2 : l0_2.length ≤ c0_2) (hr0_3 : Kd.C (Kd.int .i64) w A0_3 l0_3.length l0_3) (hc0_3 : l0_3.length ≤ c0_3) (hr0_4 : Kd.C (Kd.int .i64) w A0_4 l0_4.length l0_4) (hc0_4 : l0_4.length ≤ c0_4) (hr0_5 : Kd.C (Kd.int .i64) w A0_5 l0_5.length l0_5) (hc0_5 : l0_5.length ≤ c0_5) (h : cantinglaw07_WaxPrices.f k a0_0 a0_1 l0_2 l0_3 l0_4 l0_5 = some true) :
    Calls Try.prog 15 #[.agg #[.int .i64 a0_0, .int .i64 a0_1, .slice A0_2 l0_2.length c0_2, .slice A0_3 l0_3.length c0_3, .slice A0_4 l0_4.length c0_4, .slice A0_5 l0_5.length c0_5]] w fun e w' => e = .returned (.bool true) ∧ Below w.heap.size w w' := by
  have hu61 := Try.underlying61
  have HR0_2 := Aside0.mk hr0_2
  have HC0_2 := Aside0.mk hc0_2
  clear hr0_2 hc0_2
  have HR0_3 := Aside0.mk hr0_3
  have HC0_3 := Aside0.mk hc0_3
  clear hr0_3 hc0_3
  have HR0_4 := Aside0.mk hr0_4
  have HC0_4 := Aside0.mk hc0_4
  clear hr0_4 hc0_4
  have HR0_5 := Aside0.mk hr0_5
  have HC0_5 := Aside0.mk hc0_5
  clear hr0_5 hc0_5
  have HB := Aside0.mk (Below.refl w.heap.size w)
  have H : ((cantinglaw07_cloth.f a0_0 a0_1 l0_2 l0_3 l0_4 l0_5).bind fun bt911 => ((wax_Prices.f bt911.1 bt911.2.1 bt911.2.2.1 bt911.2.2.2.1 bt911.2.2.2.2.1 bt911.2.2.2.2.2).bind fun bt925 => ((cantingref07_Woven.f k a0_0 a0_1 l0_2 l0_3 l0_4 l0_5).bind fun t929 => (if t929 = true then ((cantingref07_Prices.f a0_0 a0_1 l0_2 l0_3 l0_4 l0_5).bind fun bt930 => ((slices_Equal_int_int.f k bt925.1 bt930.1).bind fun t934 => (if t934 = true then (if bt925.2 = 0 then ((cantinglaw07_awake.f).bind fun t935 => (some t935)) else (some false)) else (some false)))) else (if (bt925.1.length : Int) = 0 then (if bt925.2 = 2 then ((cantinglaw07_awake.f).bind fun t936 => (some t936)) else (some false)) else (some false)))))) = some true := h
  clear h
  replace H := Option.bind_eq_some_iff.mp H
  obtain ⟨⟨t911, t912, t913, t916, t919, t922⟩, A20, H⟩ := H
  replace H : ((wax_Prices.f t911 t912 t913 t916 t919 t922).bind fun bt925 => ((cantingref07_Woven.f k a0_0 a0_1 l0_2 l0_3 l0_4 l0_5).bind fun t929 => (if t929 = true then ((cantingref07_Prices.f a0_0 a0_1 l0_2 l0_3 l0_4 l0_5).bind fun bt930 => ((slices_Equal_int_int.f k bt925.1 bt930.1).bind fun t934 => (if t934 = true then (if bt925.2 = 0 then ((cantinglaw07_awake.f).bind fun t935 => (some t935)) else (some false)) else (some false)))) else (if (bt925.1.length : Int) = 0 then (if bt925.2 = 2 then ((cantinglaw07_awake.f).bind fun t936 => (some t936)) else (some false)) else (some false))))) = some true := H
  have A2 := Aside0.mk A20
  clear A20
  replace H := Option.bind_eq_some_iff.mp H
  obtain ⟨⟨t925, t928⟩, A30, H⟩ := H
  replace H : ((cantingref07_Woven.f k a0_0 a0_1 l0_2 l0_3 l0_4 l0_5).bind fun t929 => (if t929 = true then ((cantingref07_Prices.f a0_0 a0_1 l0_2 l0_3 l0_4 l0_5).bind fun bt930 => ((slices_Equal_int_int.f k t925 bt930.1).bind fun t934 => (if t934 = true then (if t928 = 0 then ((cantinglaw07_awake.f).bind fun t935 => (some t935)) else (some false)) else (some false)))) else (if (t925.length : Int) = 0 then (if t928 = 2 then ((cantinglaw07_awake.f).bind fun t936 => (some t936)) else (some false)) else (some false)))) = some true := H
  have A3 := Aside0.mk A30
  clear A30
  replace H := Option.bind_eq_some_iff.mp H
  obtain ⟨t929, A40, H⟩ := H
  replace H : (if t929 = true then ((cantingref07_Prices.f a0_0 a0_1 l0_2 l0_3 l0_4 l0_5).bind fun bt930 => ((slices_Equal_int_int.f k t925 bt930.1).bind fun t934 => (if t934 = true then (if t928 = 0 then ((cantinglaw07_awake.f).bind fun t935 => (some t935)) else (some false)) else (some false)))) else (if (t925.length : Int) = 0 then (if t928 = 2 then ((cantinglaw07_awake.f).bind fun t936 => (some t936)) else (some false)) else (some false))) = some true := H
  have A4 := Aside0.mk A40
  clear A40
  by_cases c5 : t929 = true
  · subst c5
    have H1 : ((cantingref07_Prices.f a0_0 a0_1 l0_2 l0_3 l0_4 l0_5).bind fun bt930 => ((slices_Equal_int_int.f k t925 bt930.1).bind fun t934 => (if t934 = true then (if t928 = 0 then ((cantinglaw07_awake.f).bind fun t935 => (some t935)) else (some false)) else (some false)))) = some true := by rw [if_pos rfl] at H; exact H
    clear H
    have H := H1
    clear H1
    replace H := Option.bind_eq_some_iff.mp H
    obtain ⟨⟨t930, t933⟩, A60, H⟩ := H
    replace H : ((slices_Equal_int_int.f k t925 t930).bind fun t934 => (if t934 = true then (if t928 = 0 then ((cantinglaw07_awake.f).bind fun t935 => (some t935)) else (some false)) else (some false))) = some true := H
    have A6 := Aside0.mk A60
    clear A60
    replace H := Option.bind_eq_some_iff.mp H
    obtain ⟨t934, A70, H⟩ := H
    replace H : (if t934 = true then (if t928 = 0 then ((cantinglaw07_awake.f).bind fun t935 => (some t935)) else (some false)) else (some false)) = some true := H
    have A7 := Aside0.mk A70
    clear A70
    by_cases c8 : t934 = true
    · subst c8
      have H1 : (if t928 = 0 then ((cantinglaw07_awake.f).bind fun t935 => (some t935)) else (some false)) = some true := by rw [if_pos rfl] at H; exact H
      clear H
      have H := H1
      clear H1
      by_cases c9 : t928 = 0
      · rw [if_pos c9] at H
        have c9b0 : (t928 == 0) = true := beq_iff_eq.mpr c9
        have c9b1 : (t928 != 0) = false := bne_eq_false_iff_eq.mpr c9
        clear c9
        replace H := Option.bind_eq_some_iff.mp H
        obtain ⟨t935, A100, H⟩ := H
        replace H : (some t935) = some true := H
        have A10 := Aside0.mk A100
        clear A100
        obtain rfl := Option.some.inj H
        go_enter Try.func15, Try.ntmps15
        go_wp2_with (first | ((with_reducible refine gate_dst (N := 1) rfl ?_); refine box_event ?hg (N := 1) ?hd (cs := #[.int .i64 a0_0, .int .i64 a0_1, .slice A0_2 l0_2.length c0_2, .slice A0_3 l0_3.length c0_3, .slice A0_4 l0_4.length c0_4, .slice A0_5 l0_5.length c0_5]) (t := 61) ?hr ?_; (case hd => rfl); (case hg => rfl); (case hr => first | (go_simp; done) | (go_simp; rfl)); intro gb910 hg w11 hbox hb; have n0_ := Aside0.mk (below_step (by repeat (first | (with_reducible first | exact HB.out | apply below_alloc | apply pw_below_drewN | apply below_drew1) | exact HB.out)) hb); have n1_ := Aside0.mk (hbox); have n2_ := Aside0.mk ((by rw [hg]; exact (below_size (by repeat (first | (with_reducible first | exact HB.out | apply below_alloc | apply pw_below_drewN | apply below_drew1) | exact HB.out))) : w.heap.size ≤ gb910)); have n3_ := Aside0.mk ((by rw [hg]; exact (below_size (by repeat (first | (with_reducible first | exact HB.out | apply below_alloc | apply pw_below_drewN | apply below_drew1) | exact HB.out))) : w.heap.size ≤ gb910)); clear HB; have HB := n0_; have BK910 := n1_; have GW910 := n2_; have GE910 := n3_; clear n0_ n1_ n2_ n3_; clear hb hbox hg; have hcz12_0 : w11.cell? ⟨gb910, 0, none⟩ = some (.int .i64 a0_0) := (blk_cell BK910.out 0).trans rfl; have hcz12_1 : w11.cell? ⟨gb910, 1, none⟩ = some (.int .i64 a0_1) := (blk_cell BK910.out 1).trans rfl; have hcz12_2 : w11.cell? ⟨gb910, 2, none⟩ = some (.slice A0_2 l0_2.length c0_2) := (blk_cell BK910.out 2).trans rfl; have hcz12_3 : w11.cell? ⟨gb910, 3, none⟩ = some (.slice A0_3 l0_3.length c0_3) := (blk_cell BK910.out 3).trans rfl; have hcz12_4 : w11.cell? ⟨gb910, 4, none⟩ = some (.slice A0_4 l0_4.length c0_4) := (blk_cell BK910.out 4).trans rfl; have hcz12_5 : w11.cell? ⟨gb910, 5, none⟩ = some (.slice A0_5 l0_5.length c0_5) := (blk_cell BK910.out 5).trans rfl; have hfz12_0 := blk_frozen BK910.out 0; have hfz12_1 := blk_frozen BK910.out 1; have hfz12_2 := blk_frozen BK910.out 2; have hfz12_3 := blk_frozen BK910.out 3; have hfz12_4 := blk_frozen BK910.out 4; have hfz12_5 := blk_frozen BK910.out 5) | ((with_reducible refine gate_callee (f := 32) rfl ?_); refine goesL_ (some 9) rfl rfl Try.func32 (by kernel_rfl) rfl #[.agg #[.int .i64 a0_0, .int .i64 a0_1, .slice A0_2 l0_2.length c0_2, .slice A0_3 l0_3.length c0_3, .slice A0_4 l0_4.length c0_4, .slice A0_5 l0_5.length c0_5]] rfl (by (try simp only [List.map_toArray, List.map_cons, List.map_nil]); first | done | rfl | (simp only [List.length_drop, List.length_take]; rfl)) ?_; (with_reducible refine (cantinglaw07_cloth.calls a0_0 a0_1 _ _ l0_2 _ _ l0_3 _ _ l0_4 _ _ l0_5 t911 t912 t913 t916 t919 t922 _ ?side1 ?side2 ?side3 ?side4 ?side5 ?side6 ?side7 ?side8 A2.out).mono ?_); (case side1 => repeat (first | exact (Kd.C_below HR0_2.out HB.out) | (with_reducible refine Kd.C_alloc ?_ _) | (with_reducible refine Kd.C_drewN ?_ _) | (with_reducible refine Kd.C_drew ?_))); (case side2 => exact HC0_2.out); (case side3 => repeat (first | exact (Kd.C_below HR0_3.out HB.out) | (with_reducible refine Kd.C_alloc ?_ _) | (with_reducible refine Kd.C_drewN ?_ _) | (with_reducible refine Kd.C_drew ?_))); (case side4 => exact HC0_3.out); (case side5 => repeat (first | exact (Kd.C_below HR0_4.out HB.out) | (with_reducible refine Kd.C_alloc ?_ _) | (with_reducible refine Kd.C_drewN ?_ _) | (with_reducible refine Kd.C_drew ?_))); (case side6 => exact HC0_4.out); (case side7 => repeat (first | exact (Kd.C_below HR0_5.out HB.out) | (with_reducible refine Kd.C_alloc ?_ _) | (with_reducible refine Kd.C_drewN ?_ _) | (with_reducible refine Kd.C_drew ?_))); (case side8 => exact HC0_5.out); rintro e w13 ⟨v914, v917, v920, v923, rfl, ho0, ho1, ho2, ho3, hb⟩; refine ⟨_, rfl, ?_⟩; have n0_ := Aside0.mk (Kd.R_lower ho0 (below_size (by repeat (first | (with_reducible first | exact HB.out | apply below_alloc | apply pw_below_drewN | apply below_drew1 | refine below_set ?_ GE910.out) | exact HB.out)))); have n1_ := Aside0.mk (Kd.R_lower ho1 (below_size (by repeat (first | (with_reducible first | exact HB.out | apply below_alloc | apply pw_below_drewN | apply below_drew1 | refine below_set ?_ GE910.out) | exact HB.out)))); have n2_ := Aside0.mk (Kd.R_lower ho2 (below_size (by repeat (first | (with_reducible first | exact HB.out | apply below_alloc | apply pw_below_drewN | apply below_drew1 | refine below_set ?_ GE910.out) | exact HB.out)))); have n3_ := Aside0.mk (Kd.R_lower ho3 (below_size (by repeat (first | (with_reducible first | exact HB.out | apply below_alloc | apply pw_below_drewN | apply below_drew1 | refine below_set ?_ GE910.out) | exact HB.out)))); have n4_ := Aside0.mk (blk_below (g := gb910) (o := .cells #[.int .i64 a0_0, .int .i64 a0_1, .slice A0_2 l0_2.length c0_2, .slice A0_3 l0_3.length c0_3, .slice A0_4 l0_4.length c0_4, .slice A0_5 l0_5.length c0_5] 61 (0, 0)) (by (with_reducible repeat (first | refine blk_drewN ?_ _ | refine blk_drew ?_ | refine blk_alloc ?_ _)); exact BK910.out) hb); have n5_ := Aside0.mk (below_step (by repeat (first | (with_reducible first | exact HB.out | apply below_alloc | apply pw_below_drewN | apply below_drew1 | refine below_set ?_ GE910.out) | exact HB.out)) hb); clear BK910; clear HB; have HO915 := n0_; have HO918 := n1_; have HO921 := n2_; have HO924 := n3_; have BK910 := n4_; have HB := n5_; clear n0_ n1_ n2_ n3_ n4_ n5_; (try clear hb); (try clear hb2); (try clear hk); (try clear hi); (try clear ho0); (try clear ho1); (try clear ho2); (try clear ho3); obtain ⟨Ao14, co14, eo14⟩ := Kd.R_slice HO915.out; subst eo14; obtain ⟨Ao15, co15, eo15⟩ := Kd.R_slice HO918.out; subst eo15; obtain ⟨Ao16, co16, eo16⟩ := Kd.R_slice HO921.out; subst eo16; obtain ⟨Ao17, co17, eo17⟩ := Kd.R_slice HO924.out; subst eo17) | ((with_reducible refine gate_callee (f := 44) rfl ?_); refine goesL_ (some 10) rfl rfl Try.func44 (by kernel_rfl) rfl #[.agg #[.int .i64 t911, .int .i64 t912, .slice Ao14 t913.length co14, .slice Ao15 t916.length co15, .slice Ao16 t919.length co16, .slice Ao17 t922.length co17]] rfl (by (try simp only [List.map_toArray, List.map_cons, List.map_nil]); first | done | rfl | (simp only [List.length_drop, List.length_take]; rfl)) ?_; (with_reducible refine (wax_Prices.calls t911 t912 _ _ t913 _ _ t916 _ _ t919 _ _ t922 t925 t928 _ ?side1 ?side2 ?side3 ?side4 ?side5 ?side6 ?side7 ?side8 A3.out).mono ?_); (case side1 => repeat (first | exact (Kd.R_reads' HO915.out).2.2 | (with_reducible refine Kd.C_alloc ?_ _) | (with_reducible refine Kd.C_drewN ?_ _) | (with_reducible refine Kd.C_drew ?_))); (case side2 => exact (Kd.R_reads' HO915.out).2.1); (case side3 => repeat (first | exact (Kd.R_reads' HO918.out).2.2 | (with_reducible refine Kd.C_alloc ?_ _) | (with_reducible refine Kd.C_drewN ?_ _) | (with_reducible refine Kd.C_drew ?_))); (case side4 => exact (Kd.R_reads' HO918.out).2.1); (case side5 => repeat (first | exact (Kd.R_reads' HO921.out).2.2 | (with_reducible refine Kd.C_alloc ?_ _) | (with_reducible refine Kd.C_drewN ?_ _) | (with_reducible refine Kd.C_drew ?_))); (case side6 => exact (Kd.R_reads' HO921.out).2.1); (case side7 => repeat (first | exact (Kd.R_reads' HO924.out).2.2 | (with_reducible refine Kd.C_alloc ?_ _) | (with_reducible refine Kd.C_drewN ?_ _) | (with_reducible refine Kd.C_drew ?_))); (case side8 => exact (Kd.R_reads' HO924.out).2.1); rintro e w18 ⟨v926, rfl, ho0, hb⟩; refine ⟨_, rfl, ?_⟩; have n0_ := Aside0.mk (Kd.R_elder' (by (with_reducible repeat (first | apply Kd.R_alloc | apply Kd.R_drewN | apply Kd.R_drew)); exact HO915.out) (Kd.R_base ho0) hb); have n1_ := Aside0.mk (Kd.R_elder' (by (with_reducible repeat (first | apply Kd.R_alloc | apply Kd.R_drewN | apply Kd.R_drew)); exact HO918.out) (Kd.R_base ho0) hb); have n2_ := Aside0.mk (Kd.R_elder' (by (with_reducible repeat (first | apply Kd.R_alloc | apply Kd.R_drewN | apply Kd.R_drew)); exact HO921.out) (Kd.R_base ho0) hb); have n3_ := Aside0.mk (Kd.R_elder' (by (with_reducible repeat (first | apply Kd.R_alloc | apply Kd.R_drewN | apply Kd.R_drew)); exact HO924.out) (Kd.R_base ho0) hb); have n4_ := Aside0.mk (Kd.R_lower (Kd.R_new' (Kd.R_new' (Kd.R_new' (Kd.R_new' ho0 (Kd.R_lt (by (with_reducible repeat (first | apply Kd.R_alloc | apply Kd.R_drewN | apply Kd.R_drew)); exact HO915.out))) (Kd.R_lt (by (with_reducible repeat (first | apply Kd.R_alloc | apply Kd.R_drewN | apply Kd.R_drew)); exact HO918.out))) (Kd.R_lt (by (with_reducible repeat (first | apply Kd.R_alloc | apply Kd.R_drewN | apply Kd.R_drew)); exact HO921.out))) (Kd.R_lt (by (with_reducible repeat (first | apply Kd.R_alloc | apply Kd.R_drewN | apply Kd.R_drew)); exact HO924.out))) (below_size (by repeat (first | (with_reducible first | exact HB.out | apply below_alloc | apply pw_below_drewN | apply below_drew1 | refine below_set ?_ GE910.out) | exact HB.out)))); have n5_ := Aside0.mk (blk_below (g := gb910) (o := .cells #[.int .i64 a0_0, .int .i64 a0_1, .slice A0_2 l0_2.length c0_2, .slice A0_3 l0_3.length c0_3, .slice A0_4 l0_4.length c0_4, .slice A0_5 l0_5.length c0_5] 61 (0, 0)) (by (with_reducible repeat (first | refine blk_drewN ?_ _ | refine blk_drew ?_ | refine blk_alloc ?_ _)); exact BK910.out) hb); have n6_ := Aside0.mk (below_step (by repeat (first | (with_reducible first | exact HB.out | apply below_alloc | apply pw_below_drewN | apply below_drew1 | refine below_set ?_ GE910.out) | exact HB.out)) hb); clear HO915; clear HO918; clear HO921; clear HO924; clear BK910; clear HB; have HO915 := n0_; have HO918 := n1_; have HO921 := n2_; have HO924 := n3_; have HO927 := n4_; have BK910 := n5_; have HB := n6_; clear n0_ n1_ n2_ n3_ n4_ n5_ n6_; (try clear hb); (try clear hb2); (try clear hk); (try clear hi); (try clear ho0); have hcz19_0 : w18.cell? ⟨gb910, 0, none⟩ = some (.int .i64 a0_0) := (blk_cell BK910.out 0).trans rfl; have hcz19_1 : w18.cell? ⟨gb910, 1, none⟩ = some (.int .i64 a0_1) := (blk_cell BK910.out 1).trans rfl; have hcz19_2 : w18.cell? ⟨gb910, 2, none⟩ = some (.slice A0_2 l0_2.length c0_2) := (blk_cell BK910.out 2).trans rfl; have hcz19_3 : w18.cell? ⟨gb910, 3, none⟩ = some (.slice A0_3 l0_3.length c0_3) := (blk_cell BK910.out 3).trans rfl; have hcz19_4 : w18.cell? ⟨gb910, 4, none⟩ = some (.slice A0_4 l0_4.length c0_4) := (blk_cell BK910.out 4).trans rfl; have hcz19_5 : w18.cell? ⟨gb910, 5, none⟩ = some (.slice A0_5 l0_5.length c0_5) := (blk_cell BK910.out 5).trans rfl; have hfz19_0 := blk_frozen BK910.out 0; have hfz19_1 := blk_frozen BK910.out 1; have hfz19_2 := blk_frozen BK910.out 2; have hfz19_3 := blk_frozen BK910.out 3; have hfz19_4 := blk_frozen BK910.out 4; have hfz19_5 := blk_frozen BK910.out 5) | ((with_reducible refine gate_callee (f := 45) rfl ?_); refine goesL_ (some 14) rfl rfl Try.func45 (by kernel_rfl) rfl #[.agg #[.int .i64 a0_0, .int .i64 a0_1, .slice A0_2 l0_2.length c0_2, .slice A0_3 l0_3.length c0_3, .slice A0_4 l0_4.length c0_4, .slice A0_5 l0_5.length c0_5]] rfl (by (try simp only [List.map_toArray, List.map_cons, List.map_nil]); first | done | rfl | (simp only [List.length_drop, List.length_take]; rfl)) ?_; (with_reducible refine (cantingref07_Woven.calls k a0_0 a0_1 _ _ l0_2 _ _ l0_3 _ _ l0_4 _ _ l0_5 true _ ?side1 ?side2 ?side3 ?side4 ?side5 ?side6 ?side7 ?side8 A4.out).mono ?_); (case side1 => repeat (first | exact (Kd.C_below HR0_2.out HB.out) | (with_reducible refine Kd.C_alloc ?_ _) | (with_reducible refine Kd.C_drewN ?_ _) | (with_reducible refine Kd.C_drew ?_))); (case side2 => exact HC0_2.out); (case side3 => repeat (first | exact (Kd.C_below HR0_3.out HB.out) | (with_reducible refine Kd.C_alloc ?_ _) | (with_reducible refine Kd.C_drewN ?_ _) | (with_reducible refine Kd.C_drew ?_))); (case side4 => exact HC0_3.out); (case side5 => repeat (first | exact (Kd.C_below HR0_4.out HB.out) | (with_reducible refine Kd.C_alloc ?_ _) | (with_reducible refine Kd.C_drewN ?_ _) | (with_reducible refine Kd.C_drew ?_))); (case side6 => exact HC0_4.out); (case side7 => repeat (first | exact (Kd.C_below HR0_5.out HB.out) | (with_reducible refine Kd.C_alloc ?_ _) | (with_reducible refine Kd.C_drewN ?_ _) | (with_reducible refine Kd.C_drew ?_))); (case side8 => exact HC0_5.out); rintro e w20 ⟨rfl, hb⟩; refine ⟨_, rfl, ?_⟩; have n0_ := Aside0.mk (Kd.R_below (by (with_reducible repeat (first | apply Kd.R_alloc | apply Kd.R_drewN | apply Kd.R_drew)); exact HO915.out) hb); have n1_ := Aside0.mk (Kd.R_below (by (with_reducible repeat (first | apply Kd.R_alloc | apply Kd.R_drewN | apply Kd.R_drew)); exact HO918.out) hb); have n2_ := Aside0.mk (Kd.R_below (by (with_reducible repeat (first | apply Kd.R_alloc | apply Kd.R_drewN | apply Kd.R_drew)); exact HO921.out) hb); have n3_ := Aside0.mk (Kd.R_below (by (with_reducible repeat (first | apply Kd.R_alloc | apply Kd.R_drewN | apply Kd.R_drew)); exact HO924.out) hb); have n4_ := Aside0.mk (Kd.R_below (by (with_reducible repeat (first | apply Kd.R_alloc | apply Kd.R_drewN | apply Kd.R_drew)); exact HO927.out) hb); have n5_ := Aside0.mk (blk_below (g := gb910) (o := .cells #[.int .i64 a0_0, .int .i64 a0_1, .slice A0_2 l0_2.length c0_2, .slice A0_3 l0_3.length c0_3, .slice A0_4 l0_4.length c0_4, .slice A0_5 l0_5.length c0_5] 61 (0, 0)) (by (with_reducible repeat (first | refine blk_drewN ?_ _ | refine blk_drew ?_ | refine blk_alloc ?_ _)); exact BK910.out) hb); have n6_ := Aside0.mk (below_step (by repeat (first | (with_reducible first | exact HB.out | apply below_alloc | apply pw_below_drewN | apply below_drew1 | refine below_set ?_ GE910.out) | exact HB.out)) hb); clear HO915; clear HO918; clear HO921; clear HO924; clear HO927; clear BK910; clear HB; have HO915 := n0_; have HO918 := n1_; have HO921 := n2_; have HO924 := n3_; have HO927 := n4_; have BK910 := n5_; have HB := n6_; clear n0_ n1_ n2_ n3_ n4_ n5_ n6_; (try clear hb); (try clear hb2); (try clear hk); (try clear hi); have hcz21_0 : w20.cell? ⟨gb910, 0, none⟩ = some (.int .i64 a0_0) := (blk_cell BK910.out 0).trans rfl; have hcz21_1 : w20.cell? ⟨gb910, 1, none⟩ = some (.int .i64 a0_1) := (blk_cell BK910.out 1).trans rfl; have hcz21_2 : w20.cell? ⟨gb910, 2, none⟩ = some (.slice A0_2 l0_2.length c0_2) := (blk_cell BK910.out 2).trans rfl; have hcz21_3 : w20.cell? ⟨gb910, 3, none⟩ = some (.slice A0_3 l0_3.length c0_3) := (blk_cell BK910.out 3).trans rfl; have hcz21_4 : w20.cell? ⟨gb910, 4, none⟩ = some (.slice A0_4 l0_4.length c0_4) := (blk_cell BK910.out 4).trans rfl; have hcz21_5 : w20.cell? ⟨gb910, 5, none⟩ = some (.slice A0_5 l0_5.length c0_5) := (blk_cell BK910.out 5).trans rfl; have hfz21_0 := blk_frozen BK910.out 0; have hfz21_1 := blk_frozen BK910.out 1; have hfz21_2 := blk_frozen BK910.out 2; have hfz21_3 := blk_frozen BK910.out 3; have hfz21_4 := blk_frozen BK910.out 4; have hfz21_5 := blk_frozen BK910.out 5) | ((with_reducible refine gate_callee (f := 46) rfl ?_); refine goesL_ (some 28) rfl rfl Try.func46 (by kernel_rfl) rfl #[.agg #[.int .i64 a0_0, .int .i64 a0_1, .slice A0_2 l0_2.length c0_2, .slice A0_3 l0_3.length c0_3, .slice A0_4 l0_4.length c0_4, .slice A0_5 l0_5.length c0_5]] rfl (by (try simp only [List.map_toArray, List.map_cons, List.map_nil]); first | done | rfl | (simp only [List.length_drop, List.length_take]; rfl)) ?_; (with_reducible refine (cantingref07_Prices.calls a0_0 a0_1 _ _ l0_2 _ _ l0_3 _ _ l0_4 _ _ l0_5 t930 t933 _ ?side1 ?side2 ?side3 ?side4 ?side5 ?side6 ?side7 ?side8 A6.out).mono ?_); (case side1 => repeat (first | exact (Kd.C_below HR0_2.out HB.out) | (with_reducible refine Kd.C_alloc ?_ _) | (with_reducible refine Kd.C_drewN ?_ _) | (with_reducible refine Kd.C_drew ?_))); (case side2 => exact HC0_2.out); (case side3 => repeat (first | exact (Kd.C_below HR0_3.out HB.out) | (with_reducible refine Kd.C_alloc ?_ _) | (with_reducible refine Kd.C_drewN ?_ _) | (with_reducible refine Kd.C_drew ?_))); (case side4 => exact HC0_3.out); (case side5 => repeat (first | exact (Kd.C_below HR0_4.out HB.out) | (with_reducible refine Kd.C_alloc ?_ _) | (with_reducible refine Kd.C_drewN ?_ _) | (with_reducible refine Kd.C_drew ?_))); (case side6 => exact HC0_4.out); (case side7 => repeat (first | exact (Kd.C_below HR0_5.out HB.out) | (with_reducible refine Kd.C_alloc ?_ _) | (with_reducible refine Kd.C_drewN ?_ _) | (with_reducible refine Kd.C_drew ?_))); (case side8 => exact HC0_5.out); rintro e w22 ⟨v931, rfl, ho0, hb⟩; refine ⟨_, rfl, ?_⟩; have n0_ := Aside0.mk (Kd.R_elder' (by (with_reducible repeat (first | apply Kd.R_alloc | apply Kd.R_drewN | apply Kd.R_drew)); exact HO915.out) (Kd.R_base ho0) hb); have n1_ := Aside0.mk (Kd.R_elder' (by (with_reducible repeat (first | apply Kd.R_alloc | apply Kd.R_drewN | apply Kd.R_drew)); exact HO918.out) (Kd.R_base ho0) hb); have n2_ := Aside0.mk (Kd.R_elder' (by (with_reducible repeat (first | apply Kd.R_alloc | apply Kd.R_drewN | apply Kd.R_drew)); exact HO921.out) (Kd.R_base ho0) hb); have n3_ := Aside0.mk (Kd.R_elder' (by (with_reducible repeat (first | apply Kd.R_alloc | apply Kd.R_drewN | apply Kd.R_drew)); exact HO924.out) (Kd.R_base ho0) hb); have n4_ := Aside0.mk (Kd.R_elder' (by (with_reducible repeat (first | apply Kd.R_alloc | apply Kd.R_drewN | apply Kd.R_drew)); exact HO927.out) (Kd.R_base ho0) hb); have n5_ := Aside0.mk (Kd.R_lower (Kd.R_new' (Kd.R_new' (Kd.R_new' (Kd.R_new' (Kd.R_new' ho0 (Kd.R_lt (by (with_reducible repeat (first | apply Kd.R_alloc | apply Kd.R_drewN | apply Kd.R_drew)); exact HO915.out))) (Kd.R_lt (by (with_reducible repeat (first | apply Kd.R_alloc | apply Kd.R_drewN | apply Kd.R_drew)); exact HO918.out))) (Kd.R_lt (by (with_reducible repeat (first | apply Kd.R_alloc | apply Kd.R_drewN | apply Kd.R_drew)); exact HO921.out))) (Kd.R_lt (by (with_reducible repeat (first | apply Kd.R_alloc | apply Kd.R_drewN | apply Kd.R_drew)); exact HO924.out))) (Kd.R_lt (by (with_reducible repeat (first | apply Kd.R_alloc | apply Kd.R_drewN | apply Kd.R_drew)); exact HO927.out))) (below_size (by repeat (first | (with_reducible first | exact HB.out | apply below_alloc | apply pw_below_drewN | apply below_drew1 | refine below_set ?_ GE910.out) | exact HB.out)))); have n6_ := Aside0.mk (blk_below (g := gb910) (o := .cells #[.int .i64 a0_0, .int .i64 a0_1, .slice A0_2 l0_2.length c0_2, .slice A0_3 l0_3.length c0_3, .slice A0_4 l0_4.length c0_4, .slice A0_5 l0_5.length c0_5] 61 (0, 0)) (by (with_reducible repeat (first | refine blk_drewN ?_ _ | refine blk_drew ?_ | refine blk_alloc ?_ _)); exact BK910.out) hb); have n7_ := Aside0.mk (below_step (by repeat (first | (with_reducible first | exact HB.out | apply below_alloc | apply pw_below_drewN | apply below_drew1 | refine below_set ?_ GE910.out) | exact HB.out)) hb); clear HO915; clear HO918; clear HO921; clear HO924; clear HO927; clear BK910; clear HB; have HO915 := n0_; have HO918 := n1_; have HO921 := n2_; have HO924 := n3_; have HO927 := n4_; have HO932 := n5_; have BK910 := n6_; have HB := n7_; clear n0_ n1_ n2_ n3_ n4_ n5_ n6_ n7_; (try clear hb); (try clear hb2); (try clear hk); (try clear hi); (try clear ho0); obtain ⟨Ao23, co23, eo23⟩ := Kd.R_slice HO927.out; subst eo23; obtain ⟨Ao24, co24, eo24⟩ := Kd.R_slice HO932.out; subst eo24) | ((with_reducible refine gate_callee (f := 47) rfl ?_); refine goesL_ (some 33) rfl rfl Try.func47 (by kernel_rfl) rfl #[.slice Ao23 t925.length co23, .slice Ao24 t930.length co24] rfl (by (try simp only [List.map_toArray, List.map_cons, List.map_nil]); first | done | rfl | (simp only [List.length_drop, List.length_take]; rfl)) ?_; (with_reducible refine (slices_Equal_int_int.calls k _ _ t925 _ _ t930 true _ ?side1 ?side2 ?side3 ?side4 A7.out).mono ?_); (case side1 => repeat (first | exact (Kd.R_reads' HO927.out).2.2 | (with_reducible refine Kd.C_alloc ?_ _) | (with_reducible refine Kd.C_drewN ?_ _) | (with_reducible refine Kd.C_drew ?_))); (case side2 => exact (Kd.R_reads' HO927.out).2.1); (case side3 => repeat (first | exact (Kd.R_reads' HO932.out).2.2 | (with_reducible refine Kd.C_alloc ?_ _) | (with_reducible refine Kd.C_drewN ?_ _) | (with_reducible refine Kd.C_drew ?_))); (case side4 => exact (Kd.R_reads' HO932.out).2.1); rintro e w' ⟨rfl, ⟨nd, rfl⟩⟩; refine ⟨_, rfl, ?_⟩) | (go_at_call 18; (with_reducible refine (cantinglaw07_awake.calls  true _ A10.out).mono ?_); rintro e w25 ⟨rfl, hb⟩; have n0_ := Aside0.mk (Kd.R_below (by (with_reducible repeat (first | apply Kd.R_alloc | apply Kd.R_drewN | apply Kd.R_drew)); exact HO915.out) hb); have n1_ := Aside0.mk (Kd.R_below (by (with_reducible repeat (first | apply Kd.R_alloc | apply Kd.R_drewN | apply Kd.R_drew)); exact HO918.out) hb); have n2_ := Aside0.mk (Kd.R_below (by (with_reducible repeat (first | apply Kd.R_alloc | apply Kd.R_drewN | apply Kd.R_drew)); exact HO921.out) hb); have n3_ := Aside0.mk (Kd.R_below (by (with_reducible repeat (first | apply Kd.R_alloc | apply Kd.R_drewN | apply Kd.R_drew)); exact HO924.out) hb); have n4_ := Aside0.mk (Kd.R_below (by (with_reducible repeat (first | apply Kd.R_alloc | apply Kd.R_drewN | apply Kd.R_drew)); exact HO927.out) hb); have n5_ := Aside0.mk (Kd.R_below (by (with_reducible repeat (first | apply Kd.R_alloc | apply Kd.R_drewN | apply Kd.R_drew)); exact HO932.out) hb); have n6_ := Aside0.mk (blk_below (g := gb910) (o := .cells #[.int .i64 a0_0, .int .i64 a0_1, .slice A0_2 l0_2.length c0_2, .slice A0_3 l0_3.length c0_3, .slice A0_4 l0_4.length c0_4, .slice A0_5 l0_5.length c0_5] 61 (0, 0)) (by (with_reducible repeat (first | refine blk_drewN ?_ _ | refine blk_drew ?_ | refine blk_alloc ?_ _)); exact BK910.out) hb); have n7_ := Aside0.mk (below_step (by repeat (first | (with_reducible first | exact HB.out | apply below_alloc | apply pw_below_drewN | apply below_drew1 | refine below_set ?_ GE910.out) | exact HB.out)) hb); clear HO915; clear HO918; clear HO921; clear HO924; clear HO927; clear HO932; clear BK910; clear HB; have HO915 := n0_; have HO918 := n1_; have HO921 := n2_; have HO924 := n3_; have HO927 := n4_; have HO932 := n5_; have BK910 := n6_; have HB := n7_; clear n0_ n1_ n2_ n3_ n4_ n5_ n6_ n7_; (try clear hb); (try clear hb2); (try clear hk); (try clear hi)))
        go_ret
        exact ⟨by first | rfl | (simp [errW_none, errW_some] <;> rfl) | (simp [*, errW_none, errW_some] <;> rfl), by repeat (first | (with_reducible first | exact HB.out | apply below_alloc | apply pw_below_drewN | apply below_drew1 | refine below_set ?_ GE910.out) | exact HB.out)⟩
      · rw [if_neg c9] at H
        have c9b0 : (t928 == 0) = false := beq_eq_false_iff_ne.mpr c9
        have c9b1 : (t928 != 0) = true := bne_iff_ne.mpr c9
        exact absurd (Option.some.inj H) (by decide)
    · replace c8 := Bool.eq_false_iff.mpr c8
      subst c8
      have H1 : (some false) = some true := by rw [if_neg (show ¬ (false = true) by decide)] at H; exact H
      clear H
      have H := H1
      clear H1
      exact absurd (Option.some.inj H) (by decide)
  · replace c5 := Bool.eq_false_iff.mpr c5
    subst c5
    have H1 : (if (t925.length : Int) = 0 then (if t928 = 2 then ((cantinglaw07_awake.f).bind fun t936 => (some t936)) else (some false)) else (some false)) = some true := by rw [if_neg (show ¬ (false = true) by decide)] at H; exact H
    clear H
    have H := H1
    clear H1
    by_cases c54 : (t925.length : Int) = 0
    · rw [if_pos c54] at H
      have c54b0 : ((t925.length : Int) == 0) = true := beq_iff_eq.mpr c54
      have c54b1 : ((t925.length : Int) != 0) = false := bne_eq_false_iff_eq.mpr c54
      clear c54
      by_cases c55 : t928 = 2
      · rw [if_pos c55] at H
        have c55b0 : (t928 == 2) = true := beq_iff_eq.mpr c55
        have c55b1 : (t928 != 2) = false := bne_eq_false_iff_eq.mpr c55
        clear c55
        replace H := Option.bind_eq_some_iff.mp H
        obtain ⟨t936, A560, H⟩ := H
        replace H : (some t936) = some true := H
        have A56 := Aside0.mk A560
        clear A560
        obtain rfl := Option.some.inj H
        go_enter Try.func15, Try.ntmps15
        go_wp2_with (first | ((with_reducible refine gate_dst (N := 1) rfl ?_); refine box_event ?hg (N := 1) ?hd (cs := #[.int .i64 a0_0, .int .i64 a0_1, .slice A0_2 l0_2.length c0_2, .slice A0_3 l0_3.length c0_3, .slice A0_4 l0_4.length c0_4, .slice A0_5 l0_5.length c0_5]) (t := 61) ?hr ?_; (case hd => rfl); (case hg => rfl); (case hr => first | (go_simp; done) | (go_simp; rfl)); intro gb910 hg w57 hbox hb; have n0_ := Aside0.mk (below_step (by repeat (first | (with_reducible first | exact HB.out | apply below_alloc | apply pw_below_drewN | apply below_drew1) | exact HB.out)) hb); have n1_ := Aside0.mk (hbox); have n2_ := Aside0.mk ((by rw [hg]; exact (below_size (by repeat (first | (with_reducible first | exact HB.out | apply below_alloc | apply pw_below_drewN | apply below_drew1) | exact HB.out))) : w.heap.size ≤ gb910)); have n3_ := Aside0.mk ((by rw [hg]; exact (below_size (by repeat (first | (with_reducible first | exact HB.out | apply below_alloc | apply pw_below_drewN | apply below_drew1) | exact HB.out))) : w.heap.size ≤ gb910)); clear HB; have HB := n0_; have BK910 := n1_; have GW910 := n2_; have GE910 := n3_; clear n0_ n1_ n2_ n3_; clear hb hbox hg; have hcz58_0 : w57.cell? ⟨gb910, 0, none⟩ = some (.int .i64 a0_0) := (blk_cell BK910.out 0).trans rfl; have hcz58_1 : w57.cell? ⟨gb910, 1, none⟩ = some (.int .i64 a0_1) := (blk_cell BK910.out 1).trans rfl; have hcz58_2 : w57.cell? ⟨gb910, 2, none⟩ = some (.slice A0_2 l0_2.length c0_2) := (blk_cell BK910.out 2).trans rfl; have hcz58_3 : w57.cell? ⟨gb910, 3, none⟩ = some (.slice A0_3 l0_3.length c0_3) := (blk_cell BK910.out 3).trans rfl; have hcz58_4 : w57.cell? ⟨gb910, 4, none⟩ = some (.slice A0_4 l0_4.length c0_4) := (blk_cell BK910.out 4).trans rfl; have hcz58_5 : w57.cell? ⟨gb910, 5, none⟩ = some (.slice A0_5 l0_5.length c0_5) := (blk_cell BK910.out 5).trans rfl; have hfz58_0 := blk_frozen BK910.out 0; have hfz58_1 := blk_frozen BK910.out 1; have hfz58_2 := blk_frozen BK910.out 2; have hfz58_3 := blk_frozen BK910.out 3; have hfz58_4 := blk_frozen BK910.out 4; have hfz58_5 := blk_frozen BK910.out 5) | ((with_reducible refine gate_callee (f := 32) rfl ?_); refine goesL_ (some 9) rfl rfl Try.func32 (by kernel_rfl) rfl #[.agg #[.int .i64 a0_0, .int .i64 a0_1, .slice A0_2 l0_2.length c0_2, .slice A0_3 l0_3.length c0_3, .slice A0_4 l0_4.length c0_4, .slice A0_5 l0_5.length c0_5]] rfl (by (try simp only [List.map_toArray, List.map_cons, List.map_nil]); first | done | rfl | (simp only [List.length_drop, List.length_take]; rfl)) ?_; (with_reducible refine (cantinglaw07_cloth.calls a0_0 a0_1 _ _ l0_2 _ _ l0_3 _ _ l0_4 _ _ l0_5 t911 t912 t913 t916 t919 t922 _ ?side1 ?side2 ?side3 ?side4 ?side5 ?side6 ?side7 ?side8 A2.out).mono ?_); (case side1 => repeat (first | exact (Kd.C_below HR0_2.out HB.out) | (with_reducible refine Kd.C_alloc ?_ _) | (with_reducible refine Kd.C_drewN ?_ _) | (with_reducible refine Kd.C_drew ?_))); (case side2 => exact HC0_2.out); (case side3 => repeat (first | exact (Kd.C_below HR0_3.out HB.out) | (with_reducible refine Kd.C_alloc ?_ _) | (with_reducible refine Kd.C_drewN ?_ _) | (with_reducible refine Kd.C_drew ?_))); (case side4 => exact HC0_3.out); (case side5 => repeat (first | exact (Kd.C_below HR0_4.out HB.out) | (with_reducible refine Kd.C_alloc ?_ _) | (with_reducible refine Kd.C_drewN ?_ _) | (with_reducible refine Kd.C_drew ?_))); (case side6 => exact HC0_4.out); (case side7 => repeat (first | exact (Kd.C_below HR0_5.out HB.out) | (with_reducible refine Kd.C_alloc ?_ _) | (with_reducible refine Kd.C_drewN ?_ _) | (with_reducible refine Kd.C_drew ?_))); (case side8 => exact HC0_5.out); rintro e w59 ⟨v914, v917, v920, v923, rfl, ho0, ho1, ho2, ho3, hb⟩; refine ⟨_, rfl, ?_⟩; have n0_ := Aside0.mk (Kd.R_lower ho0 (below_size (by repeat (first | (with_reducible first | exact HB.out | apply below_alloc | apply pw_below_drewN | apply below_drew1 | refine below_set ?_ GE910.out) | exact HB.out)))); have n1_ := Aside0.mk (Kd.R_lower ho1 (below_size (by repeat (first | (with_reducible first | exact HB.out | apply below_alloc | apply pw_below_drewN | apply below_drew1 | refine below_set ?_ GE910.out) | exact HB.out)))); have n2_ := Aside0.mk (Kd.R_lower ho2 (below_size (by repeat (first | (with_reducible first | exact HB.out | apply below_alloc | apply pw_below_drewN | apply below_drew1 | refine below_set ?_ GE910.out) | exact HB.out)))); have n3_ := Aside0.mk (Kd.R_lower ho3 (below_size (by repeat (first | (with_reducible first | exact HB.out | apply below_alloc | apply pw_below_drewN | apply below_drew1 | refine below_set ?_ GE910.out) | exact HB.out)))); have n4_ := Aside0.mk (blk_below (g := gb910) (o := .cells #[.int .i64 a0_0, .int .i64 a0_1, .slice A0_2 l0_2.length c0_2, .slice A0_3 l0_3.length c0_3, .slice A0_4 l0_4.length c0_4, .slice A0_5 l0_5.length c0_5] 61 (0, 0)) (by (with_reducible repeat (first | refine blk_drewN ?_ _ | refine blk_drew ?_ | refine blk_alloc ?_ _)); exact BK910.out) hb); have n5_ := Aside0.mk (below_step (by repeat (first | (with_reducible first | exact HB.out | apply below_alloc | apply pw_below_drewN | apply below_drew1 | refine below_set ?_ GE910.out) | exact HB.out)) hb); clear BK910; clear HB; have HO915 := n0_; have HO918 := n1_; have HO921 := n2_; have HO924 := n3_; have BK910 := n4_; have HB := n5_; clear n0_ n1_ n2_ n3_ n4_ n5_; (try clear hb); (try clear hb2); (try clear hk); (try clear hi); (try clear ho0); (try clear ho1); (try clear ho2); (try clear ho3); obtain ⟨Ao60, co60, eo60⟩ := Kd.R_slice HO915.out; subst eo60; obtain ⟨Ao61, co61, eo61⟩ := Kd.R_slice HO918.out; subst eo61; obtain ⟨Ao62, co62, eo62⟩ := Kd.R_slice HO921.out; subst eo62; obtain ⟨Ao63, co63, eo63⟩ := Kd.R_slice HO924.out; subst eo63) | ((with_reducible refine gate_callee (f := 44) rfl ?_); refine goesL_ (some 10) rfl rfl Try.func44 (by kernel_rfl) rfl #[.agg #[.int .i64 t911, .int .i64 t912, .slice Ao60 t913.length co60, .slice Ao61 t916.length co61, .slice Ao62 t919.length co62, .slice Ao63 t922.length co63]] rfl (by (try simp only [List.map_toArray, List.map_cons, List.map_nil]); first | done | rfl | (simp only [List.length_drop, List.length_take]; rfl)) ?_; (with_reducible refine (wax_Prices.calls t911 t912 _ _ t913 _ _ t916 _ _ t919 _ _ t922 t925 t928 _ ?side1 ?side2 ?side3 ?side4 ?side5 ?side6 ?side7 ?side8 A3.out).mono ?_); (case side1 => repeat (first | exact (Kd.R_reads' HO915.out).2.2 | (with_reducible refine Kd.C_alloc ?_ _) | (with_reducible refine Kd.C_drewN ?_ _) | (with_reducible refine Kd.C_drew ?_))); (case side2 => exact (Kd.R_reads' HO915.out).2.1); (case side3 => repeat (first | exact (Kd.R_reads' HO918.out).2.2 | (with_reducible refine Kd.C_alloc ?_ _) | (with_reducible refine Kd.C_drewN ?_ _) | (with_reducible refine Kd.C_drew ?_))); (case side4 => exact (Kd.R_reads' HO918.out).2.1); (case side5 => repeat (first | exact (Kd.R_reads' HO921.out).2.2 | (with_reducible refine Kd.C_alloc ?_ _) | (with_reducible refine Kd.C_drewN ?_ _) | (with_reducible refine Kd.C_drew ?_))); (case side6 => exact (Kd.R_reads' HO921.out).2.1); (case side7 => repeat (first | exact (Kd.R_reads' HO924.out).2.2 | (with_reducible refine Kd.C_alloc ?_ _) | (with_reducible refine Kd.C_drewN ?_ _) | (with_reducible refine Kd.C_drew ?_))); (case side8 => exact (Kd.R_reads' HO924.out).2.1); rintro e w64 ⟨v926, rfl, ho0, hb⟩; refine ⟨_, rfl, ?_⟩; have n0_ := Aside0.mk (Kd.R_elder' (by (with_reducible repeat (first | apply Kd.R_alloc | apply Kd.R_drewN | apply Kd.R_drew)); exact HO915.out) (Kd.R_base ho0) hb); have n1_ := Aside0.mk (Kd.R_elder' (by (with_reducible repeat (first | apply Kd.R_alloc | apply Kd.R_drewN | apply Kd.R_drew)); exact HO918.out) (Kd.R_base ho0) hb); have n2_ := Aside0.mk (Kd.R_elder' (by (with_reducible repeat (first | apply Kd.R_alloc | apply Kd.R_drewN | apply Kd.R_drew)); exact HO921.out) (Kd.R_base ho0) hb); have n3_ := Aside0.mk (Kd.R_elder' (by (with_reducible repeat (first | apply Kd.R_alloc | apply Kd.R_drewN | apply Kd.R_drew)); exact HO924.out) (Kd.R_base ho0) hb); have n4_ := Aside0.mk (Kd.R_lower (Kd.R_new' (Kd.R_new' (Kd.R_new' (Kd.R_new' ho0 (Kd.R_lt (by (with_reducible repeat (first | apply Kd.R_alloc | apply Kd.R_drewN | apply Kd.R_drew)); exact HO915.out))) (Kd.R_lt (by (with_reducible repeat (first | apply Kd.R_alloc | apply Kd.R_drewN | apply Kd.R_drew)); exact HO918.out))) (Kd.R_lt (by (with_reducible repeat (first | apply Kd.R_alloc | apply Kd.R_drewN | apply Kd.R_drew)); exact HO921.out))) (Kd.R_lt (by (with_reducible repeat (first | apply Kd.R_alloc | apply Kd.R_drewN | apply Kd.R_drew)); exact HO924.out))) (below_size (by repeat (first | (with_reducible first | exact HB.out | apply below_alloc | apply pw_below_drewN | apply below_drew1 | refine below_set ?_ GE910.out) | exact HB.out)))); have n5_ := Aside0.mk (blk_below (g := gb910) (o := .cells #[.int .i64 a0_0, .int .i64 a0_1, .slice A0_2 l0_2.length c0_2, .slice A0_3 l0_3.length c0_3, .slice A0_4 l0_4.length c0_4, .slice A0_5 l0_5.length c0_5] 61 (0, 0)) (by (with_reducible repeat (first | refine blk_drewN ?_ _ | refine blk_drew ?_ | refine blk_alloc ?_ _)); exact BK910.out) hb); have n6_ := Aside0.mk (below_step (by repeat (first | (with_reducible first | exact HB.out | apply below_alloc | apply pw_below_drewN | apply below_drew1 | refine below_set ?_ GE910.out) | exact HB.out)) hb); clear HO915; clear HO918; clear HO921; clear HO924; clear BK910; clear HB; have HO915 := n0_; have HO918 := n1_; have HO921 := n2_; have HO924 := n3_; have HO927 := n4_; have BK910 := n5_; have HB := n6_; clear n0_ n1_ n2_ n3_ n4_ n5_ n6_; (try clear hb); (try clear hb2); (try clear hk); (try clear hi); (try clear ho0); have hcz65_0 : w64.cell? ⟨gb910, 0, none⟩ = some (.int .i64 a0_0) := (blk_cell BK910.out 0).trans rfl; have hcz65_1 : w64.cell? ⟨gb910, 1, none⟩ = some (.int .i64 a0_1) := (blk_cell BK910.out 1).trans rfl; have hcz65_2 : w64.cell? ⟨gb910, 2, none⟩ = some (.slice A0_2 l0_2.length c0_2) := (blk_cell BK910.out 2).trans rfl; have hcz65_3 : w64.cell? ⟨gb910, 3, none⟩ = some (.slice A0_3 l0_3.length c0_3) := (blk_cell BK910.out 3).trans rfl; have hcz65_4 : w64.cell? ⟨gb910, 4, none⟩ = some (.slice A0_4 l0_4.length c0_4) := (blk_cell BK910.out 4).trans rfl; have hcz65_5 : w64.cell? ⟨gb910, 5, none⟩ = some (.slice A0_5 l0_5.length c0_5) := (blk_cell BK910.out 5).trans rfl; have hfz65_0 := blk_frozen BK910.out 0; have hfz65_1 := blk_frozen BK910.out 1; have hfz65_2 := blk_frozen BK910.out 2; have hfz65_3 := blk_frozen BK910.out 3; have hfz65_4 := blk_frozen BK910.out 4; have hfz65_5 := blk_frozen BK910.out 5) | ((with_reducible refine gate_callee (f := 45) rfl ?_); refine goesL_ (some 14) rfl rfl Try.func45 (by kernel_rfl) rfl #[.agg #[.int .i64 a0_0, .int .i64 a0_1, .slice A0_2 l0_2.length c0_2, .slice A0_3 l0_3.length c0_3, .slice A0_4 l0_4.length c0_4, .slice A0_5 l0_5.length c0_5]] rfl (by (try simp only [List.map_toArray, List.map_cons, List.map_nil]); first | done | rfl | (simp only [List.length_drop, List.length_take]; rfl)) ?_; (with_reducible refine (cantingref07_Woven.calls k a0_0 a0_1 _ _ l0_2 _ _ l0_3 _ _ l0_4 _ _ l0_5 false _ ?side1 ?side2 ?side3 ?side4 ?side5 ?side6 ?side7 ?side8 A4.out).mono ?_); (case side1 => repeat (first | exact (Kd.C_below HR0_2.out HB.out) | (with_reducible refine Kd.C_alloc ?_ _) | (with_reducible refine Kd.C_drewN ?_ _) | (with_reducible refine Kd.C_drew ?_))); (case side2 => exact HC0_2.out); (case side3 => repeat (first | exact (Kd.C_below HR0_3.out HB.out) | (with_reducible refine Kd.C_alloc ?_ _) | (with_reducible refine Kd.C_drewN ?_ _) | (with_reducible refine Kd.C_drew ?_))); (case side4 => exact HC0_3.out); (case side5 => repeat (first | exact (Kd.C_below HR0_4.out HB.out) | (with_reducible refine Kd.C_alloc ?_ _) | (with_reducible refine Kd.C_drewN ?_ _) | (with_reducible refine Kd.C_drew ?_))); (case side6 => exact HC0_4.out); (case side7 => repeat (first | exact (Kd.C_below HR0_5.out HB.out) | (with_reducible refine Kd.C_alloc ?_ _) | (with_reducible refine Kd.C_drewN ?_ _) | (with_reducible refine Kd.C_drew ?_))); (case side8 => exact HC0_5.out); rintro e w66 ⟨rfl, hb⟩; refine ⟨_, rfl, ?_⟩; have n0_ := Aside0.mk (Kd.R_below (by (with_reducible repeat (first | apply Kd.R_alloc | apply Kd.R_drewN | apply Kd.R_drew)); exact HO915.out) hb); have n1_ := Aside0.mk (Kd.R_below (by (with_reducible repeat (first | apply Kd.R_alloc | apply Kd.R_drewN | apply Kd.R_drew)); exact HO918.out) hb); have n2_ := Aside0.mk (Kd.R_below (by (with_reducible repeat (first | apply Kd.R_alloc | apply Kd.R_drewN | apply Kd.R_drew)); exact HO921.out) hb); have n3_ := Aside0.mk (Kd.R_below (by (with_reducible repeat (first | apply Kd.R_alloc | apply Kd.R_drewN | apply Kd.R_drew)); exact HO924.out) hb); have n4_ := Aside0.mk (Kd.R_below (by (with_reducible repeat (first | apply Kd.R_alloc | apply Kd.R_drewN | apply Kd.R_drew)); exact HO927.out) hb); have n5_ := Aside0.mk (blk_below (g := gb910) (o := .cells #[.int .i64 a0_0, .int .i64 a0_1, .slice A0_2 l0_2.length c0_2, .slice A0_3 l0_3.length c0_3, .slice A0_4 l0_4.length c0_4, .slice A0_5 l0_5.length c0_5] 61 (0, 0)) (by (with_reducible repeat (first | refine blk_drewN ?_ _ | refine blk_drew ?_ | refine blk_alloc ?_ _)); exact BK910.out) hb); have n6_ := Aside0.mk (below_step (by repeat (first | (with_reducible first | exact HB.out | apply below_alloc | apply pw_below_drewN | apply below_drew1 | refine below_set ?_ GE910.out) | exact HB.out)) hb); clear HO915; clear HO918; clear HO921; clear HO924; clear HO927; clear BK910; clear HB; have HO915 := n0_; have HO918 := n1_; have HO921 := n2_; have HO924 := n3_; have HO927 := n4_; have BK910 := n5_; have HB := n6_; clear n0_ n1_ n2_ n3_ n4_ n5_ n6_; (try clear hb); (try clear hb2); (try clear hk); (try clear hi); obtain ⟨Ao67, co67, eo67⟩ := Kd.R_slice HO927.out; subst eo67) | (go_at_call 18; (with_reducible refine (cantinglaw07_awake.calls  true _ A56.out).mono ?_); rintro e w68 ⟨rfl, hb⟩; have n0_ := Aside0.mk (Kd.R_below (by (with_reducible repeat (first | apply Kd.R_alloc | apply Kd.R_drewN | apply Kd.R_drew)); exact HO915.out) hb); have n1_ := Aside0.mk (Kd.R_below (by (with_reducible repeat (first | apply Kd.R_alloc | apply Kd.R_drewN | apply Kd.R_drew)); exact HO918.out) hb); have n2_ := Aside0.mk (Kd.R_below (by (with_reducible repeat (first | apply Kd.R_alloc | apply Kd.R_drewN | apply Kd.R_drew)); exact HO921.out) hb); have n3_ := Aside0.mk (Kd.R_below (by (with_reducible repeat (first | apply Kd.R_alloc | apply Kd.R_drewN | apply Kd.R_drew)); exact HO924.out) hb); have n4_ := Aside0.mk (Kd.R_below (by (with_reducible repeat (first | apply Kd.R_alloc | apply Kd.R_drewN | apply Kd.R_drew)); exact HO927.out) hb); have n5_ := Aside0.mk (blk_below (g := gb910) (o := .cells #[.int .i64 a0_0, .int .i64 a0_1, .slice A0_2 l0_2.length c0_2, .slice A0_3 l0_3.length c0_3, .slice A0_4 l0_4.length c0_4, .slice A0_5 l0_5.length c0_5] 61 (0, 0)) (by (with_reducible repeat (first | refine blk_drewN ?_ _ | refine blk_drew ?_ | refine blk_alloc ?_ _)); exact BK910.out) hb); have n6_ := Aside0.mk (below_step (by repeat (first | (with_reducible first | exact HB.out | apply below_alloc | apply pw_below_drewN | apply below_drew1 | refine below_set ?_ GE910.out) | exact HB.out)) hb); clear HO915; clear HO918; clear HO921; clear HO924; clear HO927; clear BK910; clear HB; have HO915 := n0_; have HO918 := n1_; have HO921 := n2_; have HO924 := n3_; have HO927 := n4_; have BK910 := n5_; have HB := n6_; clear n0_ n1_ n2_ n3_ n4_ n5_ n6_; (try clear hb); (try clear hb2); (try clear hk); (try clear hi)))
        go_ret
        exact ⟨by first | rfl | (simp [errW_none, errW_some] <;> rfl) | (simp [*, errW_none, errW_some] <;> rfl), by repeat (first | (with_reducible first | exact HB.out | apply below_alloc | apply pw_below_drewN | apply below_drew1 | refine below_set ?_ GE910.out) | exact HB.out)⟩
      · rw [if_neg c55] at H
        have c55b0 : (t928 == 2) = false := beq_eq_false_iff_ne.mpr c55
        have c55b1 : (t928 != 2) = true := bne_iff_ne.mpr c55
        exact absurd (Option.some.inj H) (by decide)
    · rw [if_neg c54] at H
      have c54b0 : ((t925.length : Int) == 0) = false := beq_eq_false_iff_ne.mpr c54
      have c54b1 : ((t925.length : Int) != 0) = true := bne_iff_ne.mpr c54
      have c54b2 : ¬ (t925 = []) := fun h_ => c54 (by rw [h_]; rfl)
      exact absurd (Option.some.inj H) (by decide)
end Go.Proofs.Ytbamanjedfccpaa.X
end

section
set_option linter.unusedVariables false
set_option linter.unusedSimpArgs false
namespace Go.Proofs.Ytbamanjedfccpaa.HTab
open Go.RowKit Go.Proofs.YtbamanjedfccpaaW.PrintWords Go.Proofs.YtbamanjedfccpaaW.PrintLast Go.Proofs.YtbamanjedfccpaaW.PrintMore Go.Proofs.Ytbamanjedfccpaa.X
set_option linter.unusedVariables false
set_option linter.unusedSimpArgs false
theorem sameB_iff (low high : List Bool) : ∀ i : Nat, sameB low high i = true ↔ ∀ x : Int, 0 ≤ x → x < i → rdOf false low x = rdOf false high x
  | 0 => ⟨fun _ x x0 x1 => by omega, fun _ => rfl⟩
  | i + 1 => by
    have ih := sameB_iff low high i
    simp only [sameB]
    by_cases c : rdOf false low (i : Int) = rdOf false high (i : Int)
    · rw [if_neg (by rw [c]; simp), ih]
      refine ⟨fun h x x0 x1 => ?_, fun h x x0 x1 => h x x0 (by omega)⟩
      by_cases e : x = (i : Int)
      · rw [e]; exact c
      · exact h x x0 (by omega)
    · rw [if_pos (by simpa using c)]
      exact ⟨fun h => (by cases h), fun h => absurd (h (i : Int) (by omega) (by omega)) c⟩
theorem setS_rd (low high : List Bool) (lo : Int) (out : List Int) : ∀ i : Nat, i ≤ out.length → ∀ x : Int, 0 ≤ x → x < out.length → rd (setS low high lo out i) x = if x < i ∧ rdOf false low x ≠ rdOf false high x then lo else rd out x
  | 0, _, x, x0, x1 => by rw [if_neg (by omega)]; rfl
  | i + 1, hi, x, x0, x1 => by
    have ih := setS_rd low high lo out i (by omega) x x0 x1
    simp only [setS]
    by_cases c : rdOf false low (i : Int) = rdOf false high (i : Int)
    · rw [if_neg (by rw [c]; simp), ih]
      by_cases e : x = (i : Int)
      · rw [e, if_neg (by omega), if_neg (fun q => q.2 c)]
      · have : (x < ((i + 1 : Nat) : Int)) ↔ (x < (i : Int)) := by omega
        by_cases d : x < (i : Int) ∧ rdOf false low x ≠ rdOf false high x
        · rw [if_pos d, if_pos ⟨this.2 d.1, d.2⟩]
        · rw [if_neg d, if_neg (fun q => d ⟨this.1 q.1, q.2⟩)]
    · rw [if_pos (by simpa using c)]
      have hs := rd_set (setS low high lo out i) (i : Int) x lo (by omega) (by rw [setS_len]; omega) x0
      rw [Int.toNat_natCast] at hs
      rw [hs, ih]
      by_cases e : x = (i : Int)
      · rw [if_pos e, e, if_pos ⟨by omega, c⟩]
      · rw [if_neg e]
        have : (x < ((i + 1 : Nat) : Int)) ↔ (x < (i : Int)) := by omega
        by_cases d : x < (i : Int) ∧ rdOf false low x ≠ rdOf false high x
        · rw [if_pos d, if_pos ⟨this.2 d.1, d.2⟩]
        · rw [if_neg d, if_neg (fun q => d ⟨this.1 q.1, q.2⟩)]
section
variable {W H : Int} {l2 l3 l4 l5 : List Int} (hv : cvB W H l2 l3 l4 l5 = true)
include hv
theorem rlab_great {r : Int} (hr : -10000 ≤ r ∧ r ≤ 10000) : ∃ a, cantingref07_labels.f W H l2 l3 l4 l5 r = some (a, greatL W H l2 l3 l4 l5 r) ∧ ((greatL W H l2 l3 l4 l5 r).length : Int) = W * H := by
  obtain ⟨a, h⟩ := great_lab hv hr
  exact ⟨a, rlabels_f hv hr h, h.lb⟩
theorem srch_ok (n : Nat) (hn : (n : Int) = W * H) : ∀ (k : Nat) (lo hi : Int) (out : List Int), -10000 ≤ lo → lo < hi → hi ≤ 10000 → hi - lo ≤ 2 ^ k → out.length = n →
    ∃ r, srchP (cantingref07_labels.f W H l2 l3 l4 l5) (k + 1) lo hi (greatL W H l2 l3 l4 l5 lo) (greatL W H l2 l3 l4 l5 hi) out = some r ∧ r.length = n ∧ ∀ x : Int, 0 ≤ x → x < n →
      (rdOf false (greatL W H l2 l3 l4 l5 lo) x = true → rdOf false (greatL W H l2 l3 l4 l5 hi) x = false → isPrice W H l2 l3 l4 l5 x (rd r x)) ∧ (rdOf false (greatL W H l2 l3 l4 l5 lo) x = rdOf false (greatL W H l2 l3 l4 l5 hi) x → rd r x = rd out x)
  | k, lo, hi, out, h1, h2, h3, hk, hout => by
    have hS := fun x (x0 : 0 ≤ x) (x1 : x < (n : Int)) => setS_rd (greatL W H l2 l3 l4 l5 lo) (greatL W H l2 l3 l4 l5 hi) lo out n (by omega) x x0 (by omega)
    by_cases c : sameB (greatL W H l2 l3 l4 l5 lo) (greatL W H l2 l3 l4 l5 hi) n = true ∨ hi - lo = 1
    · refine ⟨setS (greatL W H l2 l3 l4 l5 lo) (greatL W H l2 l3 l4 l5 hi) lo out n, by simp only [srchP]; rw [hout, if_pos c], by rw [setS_len]; exact hout, fun x x0 x1 => ⟨fun g0 g1 => ?_, fun g => ?_⟩⟩
      · have hne : rdOf false (greatL W H l2 l3 l4 l5 lo) x ≠ rdOf false (greatL W H l2 l3 l4 l5 hi) x := by rw [g0, g1]; decide
        have hd : hi - lo = 1 := c.resolve_left (fun q => hne ((sameB_iff _ _ n).1 q x x0 x1))
        rw [hS x x0 x1, if_pos ⟨x1, hne⟩]
        intro q q0 q1
        refine ⟨fun hg => ?_, fun hq => great_mono hv q0 hq (by omega) x x0 (by omega) g0⟩
        rcases Int.lt_or_le lo q with d | d
        · have := great_mono hv (r := hi) (r' := q) (by omega) (by omega) q1 x x0 (by omega) hg
          rw [g1] at this
          cases this
        · exact d
      · rw [hS x x0 x1, if_neg (fun q => q.2 g)]
    · have hd : 2 ≤ hi - lo := by
        rcases Int.lt_or_le (hi - lo) 2 with q | q
        · exact absurd (show sameB (greatL W H l2 l3 l4 l5 lo) (greatL W H l2 l3 l4 l5 hi) n = true ∨ hi - lo = 1 from .inr (by omega)) c
        · exact q
      obtain ⟨j, rfl⟩ : ∃ j, k = j + 1 := by
        cases k with
        | zero => simp at hk; omega
        | succ j => exact ⟨j, rfl⟩
      have hpow : (2 : Int) ^ (j + 1) = 2 * 2 ^ j := by rw [Int.pow_succ, Int.mul_comm]
      rw [hpow] at hk
      obtain ⟨m, hm⟩ : ∃ m, m = Int.tdiv (lo + hi) 2 := ⟨_, rfl⟩
      have hmm : 2 * m ≤ lo + hi + 1 ∧ lo + hi ≤ 2 * m + 1 := by
        rcases Int.le_total 0 (lo + hi) with q | q
        · rw [hm, Int.tdiv_eq_ediv_of_nonneg q]; omega
        · have : Int.tdiv (lo + hi) 2 = -((-(lo + hi)) / 2) := by rw [← Int.tdiv_eq_ediv_of_nonneg (by omega), Int.neg_tdiv, Int.neg_neg]
          omega
      obtain ⟨a, ha, hla⟩ := rlab_great hv (r := m) ⟨by omega, by omega⟩
      obtain ⟨o, ho, hol, hop⟩ := srch_ok n hn j lo m (setS (greatL W H l2 l3 l4 l5 lo) (greatL W H l2 l3 l4 l5 hi) lo out n) h1 (by omega) (by omega) (by omega) (by rw [setS_len]; exact hout)
      obtain ⟨r, hr, hrl, hrp⟩ := srch_ok n hn j m hi o (by omega) (by omega) h3 (by omega) hol
      refine ⟨r, ?_, hrl, fun x x0 x1 => ?_⟩
      · rw [srchP, hout, if_neg c, ← hm, ha, Option.bind_some, if_pos (by show (greatL W H l2 l3 l4 l5 m).length = n; omega), ho, Option.bind_some, hr]
      · have ml : rdOf false (greatL W H l2 l3 l4 l5 m) x = true → rdOf false (greatL W H l2 l3 l4 l5 lo) x = true := great_mono hv h1 (by omega) (by omega) x x0 (by omega)
        have mh : rdOf false (greatL W H l2 l3 l4 l5 hi) x = true → rdOf false (greatL W H l2 l3 l4 l5 m) x = true := great_mono hv (by omega) (by omega) h3 x x0 (by omega)
        refine ⟨fun g0 g1 => ?_, fun g => ?_⟩
        · cases hq : rdOf false (greatL W H l2 l3 l4 l5 m) x with
          | true => exact (hrp x x0 x1).1 hq g1
          | false =>
            rw [(hrp x x0 x1).2 (by rw [hq, g1])]
            exact (hop x x0 x1).1 g0 hq
        · have e : rdOf false (greatL W H l2 l3 l4 l5 m) x = rdOf false (greatL W H l2 l3 l4 l5 hi) x ∧ rdOf false (greatL W H l2 l3 l4 l5 lo) x = rdOf false (greatL W H l2 l3 l4 l5 m) x := by
            cases hq : rdOf false (greatL W H l2 l3 l4 l5 m) x with
            | true =>
              have := ml hq
              rw [this] at g
              exact ⟨g, this⟩
            | false =>
              cases hp : rdOf false (greatL W H l2 l3 l4 l5 hi) x with
              | true => rw [mh hp] at hq; cases hq
              | false => rw [hp] at g; exact ⟨rfl, g⟩
          rw [(hrp x x0 x1).2 e.1, (hop x x0 x1).2 e.2, hS x x0 x1, if_neg (fun q => q.2 g)]
theorem rprices_f : ∃ r, cantingref07_Prices.f W H l2 l3 l4 l5 = some (r, 0) ∧ (r.length : Int) = W * H ∧ ∀ x : Int, 0 ≤ x → x < W * H → isPrice W H l2 l3 l4 l5 x (rd r x) := by
  have hc := cvB_ok hv
  have hn := hc.n
  obtain ⟨n, hnn⟩ : ∃ n : Nat, (n : Int) = W * H := ⟨(W * H).toNat, by omega⟩
  have e : (W * H).toNat = n := by omega
  obtain ⟨a, ha, hla⟩ := rlab_great hv (r := -5001) ⟨by omega, by omega⟩
  obtain ⟨b, hb, hlb⟩ := rlab_great hv (r := 5001) ⟨by omega, by omega⟩
  obtain ⟨r, hr, hrl, hrp⟩ := srch_ok hv n hnn 19 (-5001) 5001 (List.replicate n 0) (by omega) (by omega) (by omega) (by decide) (by simp)
  obtain ⟨_, h⟩ := great_lab hv (r := -5001) ⟨by omega, by omega⟩
  obtain ⟨_, h'⟩ := great_lab hv (r := 5001) ⟨by omega, by omega⟩
  refine ⟨r, ?_, by omega, fun x x0 x1 => (hrp x x0 (by omega)).1 (lab_all hc h true (by simp) x x0 x1) (lab_all hc h' false (by simp) x x0 x1)⟩
  unfold cantingref07_Prices.f
  rw [if_pos hv, ha, Option.bind_some, hb, Option.bind_some, if_pos ⟨by show (greatL W H l2 l3 l4 l5 (-5001)).length = _; omega, by show (greatL W H l2 l3 l4 l5 5001).length = _; omega⟩, e, hr]
  rfl
theorem price_in {x p : Int} (x0 : 0 ≤ x) (x1 : x < W * H) (h : isPrice W H l2 l3 l4 l5 x p) : -5001 ≤ p ∧ p ≤ 5000 := by
  have hc := cvB_ok hv
  obtain ⟨_, h1⟩ := great_lab hv (r := -5001) ⟨by omega, by omega⟩
  obtain ⟨_, h2⟩ := great_lab hv (r := 5001) ⟨by omega, by omega⟩
  have a := (h (-5001) (by omega) (by omega)).1 (lab_all hc h1 true (by simp) x x0 x1)
  have b := lab_all hc h2 false (by simp) x x0 x1
  refine ⟨a, Int.not_lt.1 (fun q => ?_)⟩
  rw [(h 5001 (by omega) (by omega)).2 (by omega)] at b
  cases b
end
theorem ints_ext {a b : List Int} {N : Nat} (ha : a.length = N) (hb : b.length = N) (h : ∀ v : Nat, v < N → rd a (v : Int) = rd b (v : Int)) : a = b := by
  refine List.ext_getElem (by omega) (fun i h1 h2 => ?_)
  have := h i (by omega)
  simpa [rd, h1, h2] using this
theorem eqI_self (l : List Int) (hl : l.length < 10000000000000) : ∀ (d i fu : Nat), i + d = l.length → d < fu → slices_Equal_int_int.l0 fu l l l.length i = some true
  | d, i, 0, h, hf => by omega
  | 0, i, fu + 1, h, hf => by
    simp only [slices_Equal_int_int.l0]
    rw [if_neg (by omega)]
  | d + 1, i, fu + 1, h, hf => by
    simp only [slices_Equal_int_int.l0]
    have e : wrap64 ((i : Int) + 1) = ((i + 1 : Nat) : Int) := wrap_add1 (by omega) (by omega)
    have h1 := eqI_self l hl d (i + 1) fu (by omega) (by omega)
    have c1 : (i : Int) < (l.length : Int) := by omega
    have c2 : (0 : Int) ≤ (i : Int) := by omega
    simp only [c1, c2, if_true, e, h1]
theorem prices_law (W H : Int) (l2 l3 l4 l5 : List Int) (h2 : l2.length ≤ 9223372036854775807) (h3 : l3.length ≤ 9223372036854775807) (h4 : l4.length ≤ 9223372036854775807) (h5 : l5.length ≤ 9223372036854775807) :
    cantinglaw07_WaxPrices.f (l2.length + l3.length + l4.length + l5.length + 1000) W H l2 l3 l4 l5 = some true := by
  obtain ⟨k, hk⟩ : ∃ k, k = l2.length + l3.length + l4.length + l5.length + 1000 := ⟨_, rfl⟩
  rw [← hk]
  have hW := woven_f W H l2 l3 l4 l5 h2 h3 h4 h5 k (by omega)
  have hT := cvB_take W H l2 l3 l4 l5
  unfold cantinglaw07_WaxPrices.f
  rw [cloth_f]
  simp only [Option.bind_some]
  rw [hW]
  by_cases hv : cvB W H l2 l3 l4 l5 = true
  case neg =>
    rw [prices_err_f (by rw [hT]; exact hv)]
    simp only [Option.bind_some]
    rw [if_neg hv, awake_f]
    rfl
  have hc := cvB_ok hv
  have hn := hc.n
  have n2 := hc.n2
  have n3 := hc.n3
  have n4 := hc.n4
  have n5 := hc.n5
  have hw := hc.w
  have hh := hc.h
  rw [List.take_of_length_le (show l2.length ≤ 50 by omega), List.take_of_length_le (show l3.length ≤ 50 by omega), List.take_of_length_le (show l4.length ≤ 50 by omega), List.take_of_length_le (show l5.length ≤ 50 by omega)]
  obtain ⟨l, hl, hll, hlp⟩ := prices_f hv
  obtain ⟨m, hm, hml, hmp⟩ := rprices_f hv
  have e : l = m := ints_ext (N := l.length) rfl (by omega) (fun v hvv => by
    have p := hlp (v : Int) (by omega) (by omega)
    have q := hmp (v : Int) (by omega) (by omega)
    have pb := price_in hv (by omega) (by omega) p
    have qb := price_in hv (by omega) (by omega) q
    have a := (q (rd l (v : Int)) (by omega) (by omega)).1 ((p (rd l (v : Int)) (by omega) (by omega)).2 (Int.le_refl _))
    have b := (p (rd m (v : Int)) (by omega) (by omega)).1 ((q (rd m (v : Int)) (by omega) (by omega)).2 (Int.le_refl _))
    omega)
  rw [hl, hm, ← e]
  simp only [Option.bind_some]
  rw [if_pos hv]
  have hq := eqI_self l (by omega) l.length 0 k (by omega) (by omega)
  unfold slices_Equal_int_int.f
  rw [if_pos rfl]
  rw [show ((0 : Nat) : Int) = 0 from rfl] at hq
  rw [hq, Option.bind_some, if_pos rfl, awake_f]
  simp
end Go.Proofs.Ytbamanjedfccpaa.HTab
end

section
set_option linter.unusedVariables false
set_option linter.unusedSimpArgs false
namespace Go.Proofs.Ytbamanjedfccpaa.waxPrices
open Go.ChangeShapes Go.WideShapes Go.ChangeAt Go.RowKit Go.Proofs.YtbamanjedfccpaaW.PrintWords Go.Proofs.Ytbamanjedfccpaa.HTab Go.Proofs.Ytbamanjedfccpaa.X
open Go.ChangeMaps (open_string shut_string)
set_option linter.unusedVariables false
theorem own : ownKnob Try.prog.godebug = none := by kernel_rfl
theorem laidOut : laidOutB Try.prog = true := by kernel_rfl
set_option maxRecDepth 100000 in
theorem lifted (os : Os) (started : os.Started) (H : Type) (enc : TypeId × Value → H) :
    ReturnsInHanded {} Try.checked os 15 .any (Rows.waxPricesSpec.pre6 enc Try.prog Try.f15 Rows.waxPricesRow.domain false) (Rows.waxPricesSpec.post enc Try.prog Try.f15 false true false false) := by
  refine returnsInHanded_of_change_sized (C := Try.checked) own started (by kernel_rfl) Try.func15
    (ChangeSpec.witness6 (enc := enc) (C := Try.checked) false ⟨#[], #[.agg #[.int .i64 0, .int .i64 0, .slice none 0 0, .slice none 0 0, .slice none 0 0, .slice none 0 0]], []⟩ 8 (by kernel_rfl) (by kernel_rfl) (by kernel_rfl) (by kernel_rfl)) ?_
  intro W base args ds gs before hval0 hW hcnd hsz0 _
  have hsz : (DataW.weightsEach Try.prog (Try.f15.params.toList ++ Rows.waxPricesSpec.plain.varTypes Try.prog) (ds ++ gs)).all (· ≤ reachBytes) = true := hsz0
  have hval : ∀ (j : Nat) t v, Try.f15.params[j]? = some t → args[j]? = some v → Value.okWide Try.prog W .any base t v := hval0
  have hW' := hW
  obtain ⟨p, q, hA0, hV, rfl, hfz, hnd⟩ := hW
  have hA : DataW.TrodAll enc Try.prog W 0 (fun _ => true) true Try.f15.params.toList args.toList ds p := hA0
  rw [Try.params15] at hA hval hsz
  obtain ⟨v0, vs0, d0, ds0, p0, q0, hargs, rfl, rfl, h0, r0⟩ := trodAll_cons hA
  obtain ⟨rfl, rfl, rfl⟩ := trodAll_nil r0
  obtain rfl : args = #[v0] := by cases args; simp_all
  obtain ⟨rfl, rfl⟩ := trodVars_none hV
  have k0 := h0
  have lt0 : ∀ x ∈ p0, x.block < W.heap.size := by obtain ⟨m, hm⟩ := k0; exact DataW.trod_lt m _ _ _ hm
  obtain ⟨n0, m0, A0_2, c0_2, l0_2, A0_3, c0_3, l0_3, A0_4, c0_4, l0_4, A0_5, c0_5, l0_5, rfl, ⟨C0_2, L0_2⟩, ⟨C0_3, L0_3⟩, ⟨C0_4, L0_4⟩, ⟨C0_5, L0_5⟩, wn0, wm0⟩ := open_cloth (hval 0 61 v0 rfl rfl) h0
  clear hA0 hval0 hsz0 hsz
  refine ((cantinglaw07_WaxPrices.calls (l0_2.length + l0_3.length + l0_4.length + l0_5.length + 1000) n0 m0 A0_2 c0_2 l0_2 A0_3 c0_3 l0_3 A0_4 c0_4 l0_4 A0_5 c0_5 l0_5 W C0_2 L0_2 C0_3 L0_3 C0_4 L0_4 C0_5 L0_5 (prices_law n0 m0 l0_2 l0_3 l0_4 l0_5 (Kd.C_max C0_2) (Kd.C_max C0_3) (Kd.C_max C0_4) (Kd.C_max C0_5)))).mono fun e W' ⟨he, bel⟩ => ?_
  subst he
  exact ⟨_, rfl, _, _, _, [], _, [], hW', trodAll_mk1 (shut_bool Try.underlying4 _), (trodAll_cons_mk (Below.trod laidOut (by kernel_rfl) (of_decide_eq_true (by kernel_rfl)) k0 bel lt0) trodAll_mk0), rfl, bel.frame _, fun h => by cases h⟩
theorem over : Rows.waxPricesRow.holds Try.pinned (OpenSpec.ofChange Rows.waxPricesSpec) :=
  OpenClaim.holds_of_wide 15 Try.f15 rfl rfl rfl rfl rfl rfl rfl ⟨rfl, rfl, rfl, rfl, rfl⟩ rfl rfl rfl rfl rfl (by kernel_rfl) Try.func15 (by kernel_rfl)
    (of_decide_eq_true (by kernel_rfl)) (by unfold Func.isWrapper; first | (rw [if_pos (by decide +kernel)]; kernel_rfl) | (rw [if_neg (by decide +kernel)]; exact ⟨rfl, rfl⟩))
    (fun os started H enc _ => lifted os started H enc)
theorem proved : Rows.WaxPricesSaid := over
end Go.Proofs.Ytbamanjedfccpaa.waxPrices
namespace Go.Proofs.Ytbamanjedfccpaa
theorem waxPrices_holds : Rows.WaxPricesSaid := waxPrices.proved
end Go.Proofs.Ytbamanjedfccpaa
#print axioms Go.Proofs.Ytbamanjedfccpaa.waxPrices_holds
end
