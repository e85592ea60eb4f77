/- The law WaxNested holds of the program, for every input that its statement lets in. -/
import Derived.Test.YtbamanjedfccpaaBj
import Derived.Test.YtbamanjedfccpaaBq
import Derived.Test.YtbamanjedfccpaaBt
import Derived.Test.YtbamanjedfccpaaBs
import Derived.Laws.BitsLemmas
import Derived.Test.YtbamanjedfccpaaBc
import Derived.Test.YtbamanjedfccpaaBn
import Derived.Test.YtbamanjedfccpaaBi
import Derived.Test.YtbamanjedfccpaaBh
import Derived.Test.YtbamanjedfccpaaBu
import Derived.Test.YtbamanjedfccpaaBe
import Derived.Laws.EntriesVeiled
import Derived.Test.YtbamanjedfccpaaBo
import Derived.Test.YtbamanjedfccpaaRows
import Derived.WalkKit
import Derived.ProofKit
import Derived.OpenShut
import Derived.ShutString
import Derived.ChangeOld
import Derived.Below
import Derived.SizedLaws
import Derived.Test.YtbamanjedfccpaaBb
section
set_option linter.unusedVariables false
set_option linter.unusedSimpArgs false
namespace Go.Proofs.Ytbamanjedfccpaa.HTab
open Go.ChangeShapes Go.WideShapes Go.ChangeAt Go.RowKit Go.Deep Go.Joins Go.Proofs.YtbamanjedfccpaaW.PrintWords Go.Proofs.Ytbamanjedfccpaa.X
set_option linter.unusedVariables false
theorem array6 {α : Type} {cs : Array α} (h : cs.size = 6) : ∃ c0 c1 c2 c3 c4 c5, cs = #[c0, c1, c2, c3, c4, c5] := by
  obtain ⟨l⟩ := cs
  match l, h with
  | [c0, c1, c2, c3, c4, c5], _ => exact ⟨c0, c1, c2, c3, c4, c5, rfl⟩
section
variable {H : Type} {enc : TypeId × Value → H} {W : World} {r : Reach} {b0 base : Nat} {sp : Nat → Bool} {held : Bool}
theorem trod_struct6 {P : Program} {t : TypeId} {f0 f1 f2 f3 f4 f5 : Field} {fuel : Nat} {cs : List Value} {x : DataW H × List MemPlace} (ht : P.underlying t = some (.struct #[f0, f1, f2, f3, f4, f5])) (h : DataW.trod enc P W base sp held fuel t cs = some x) :
    ∃ y0 y1 y2 y3 y4 y5 n, DataW.trod enc P W base sp held n f0.type ((cs.drop f0.offset).take (P.cellsOf f0.type)) = some y0 ∧
      DataW.trod enc P W base sp held n f1.type ((cs.drop f1.offset).take (P.cellsOf f1.type)) = some y1 ∧ DataW.trod enc P W base sp held n f2.type ((cs.drop f2.offset).take (P.cellsOf f2.type)) = some y2 ∧
      DataW.trod enc P W base sp held n f3.type ((cs.drop f3.offset).take (P.cellsOf f3.type)) = some y3 ∧ DataW.trod enc P W base sp held n f4.type ((cs.drop f4.offset).take (P.cellsOf f4.type)) = some y4 ∧ DataW.trod enc P W base sp held n f5.type ((cs.drop f5.offset).take (P.cellsOf f5.type)) = some y5 := by
  obtain ⟨xs, n, _, rfl, hl, hlen, hf⟩ := DataW.trod_struct ht h
  match xs, hlen with
  | [y0, y1, y2, y3, y4, y5], _ => exact ⟨y0, y1, y2, y3, y4, y5, n, by simpa using hf 0 f0 rfl, by simpa using hf 1 f1 rfl, by simpa using hf 2 f2 rfl, by simpa using hf 3 f3 rfl, by simpa using hf 4 f4 rfl, by simpa using hf 5 f5 rfl⟩
theorem open_agg6 {P : Program} {t : TypeId} {f0 f1 f2 f3 f4 f5 : Field} {v : Value} {d : DataW H} {p : List MemPlace} (hs : P.underlying t = some (.struct #[f0, f1, f2, f3, f4, f5])) (hone : oneCellFields P #[f0, f1, f2, f3, f4, f5] = true) (hC : P.cellsOf t = 6)
    (hv : Value.okWide P W r b0 t v) (h : DataW.Trod enc P W base sp held t v d p) :
    ∃ (v0 v1 v2 v3 v4 v5 : Value) (y0 y1 y2 y3 y4 y5 : DataW H × List MemPlace) (n : Nat), v = .agg #[v0, v1, v2, v3, v4, v5] ∧
      DataW.trod enc P W base sp held n f0.type [v0] = some y0 ∧ DataW.trod enc P W base sp held n f1.type [v1] = some y1 ∧ DataW.trod enc P W base sp held n f2.type [v2] = some y2 ∧ DataW.trod enc P W base sp held n f3.type [v3] = some y3 ∧ DataW.trod enc P W base sp held n f4.type [v4] = some y4 ∧ DataW.trod enc P W base sp held n f5.type [v5] = some y5 := by
  obtain ⟨cs, rfl, hsz⟩ := okWide_struct hs hv
  obtain ⟨c0, c1, c2, c3, c4, c5, rfl⟩ := array6 (hsz.trans hC)
  obtain ⟨fuel, hf⟩ := h
  obtain ⟨y0, y1, y2, y3, y4, y5, n, h0, h1, h2, h3, h4, h5⟩ := trod_struct6 hs hf
  obtain ⟨o0, k0⟩ := hone_of hone 0 f0 rfl
  obtain ⟨o1, k1⟩ := hone_of hone 1 f1 rfl
  obtain ⟨o2, k2⟩ := hone_of hone 2 f2 rfl
  obtain ⟨o3, k3⟩ := hone_of hone 3 f3 rfl
  obtain ⟨o4, k4⟩ := hone_of hone 4 f4 rfl
  obtain ⟨o5, k5⟩ := hone_of hone 5 f5 rfl
  exact ⟨c0, c1, c2, c3, c4, c5, y0, y1, y2, y3, y4, y5, n, rfl, by simpa [Value.cells, o0, k0] using h0, by simpa [Value.cells, o1, k1] using h1, by simpa [Value.cells, o2, k2] using h2, by simpa [Value.cells, o3, k3] using h3, by simpa [Value.cells, o4, k4] using h4, by simpa [Value.cells, o5, k5] using h5⟩
theorem field_ints {n : Nat} {v : Value} {y : DataW H × List MemPlace} (h : DataW.trod enc Try.prog W base sp held n 40 [v] = some y) : ∃ (A : Option Addr) (c : Nat) (l : List Int), v = .slice A l.length c ∧ Kd.C (Kd.int .i64) W A l.length l ∧ l.length ≤ c := by
  rcases open_slice Try.underlying40 h with ⟨hc, hx⟩ | ⟨a, len, cap, m, n', D, Pl, hcs, hb, hl, hm, hmm, hx, hi⟩
  · simp only [List.cons.injEq, and_true] at hc
    exact ⟨none, 0, [], hc, Kd.C_nil _ _, Nat.le_refl _⟩
  · simp only [List.cons.injEq, and_true] at hcs
    obtain ⟨l, hll⟩ : ∃ l : List Int, l = (List.range len).map fun i => intAt (W.cell? (a.add i)) := ⟨_, rfl⟩
    have hlen : l.length = len := by rw [hll]; simp
    have hlm : len ≤ m := by rw [hmm]; split <;> omega
    have hone : Try.prog.cellsOf 3 = 1 := by kernel_rfl
    have hcell : ∀ i, i < len → ∃ b : Int, W.cell? (a.add i) = some (.int .i64 b) := fun i hil => by
      obtain ⟨cs', h2, h3⟩ := hi i (by omega)
      rw [hone, Nat.mul_one] at h2
      obtain ⟨b, e, _, _⟩ := DataW.trod_int Try.underlying3 h3
      subst e
      obtain ⟨_, hcl, hat⟩ := World.cells?_some h2
      have := hat 0 (by omega)
      refine ⟨b, ?_⟩
      have h4 : (a.add i).add 0 = a.add i := by unfold Addr.add; split <;> simp_all
      rw [h4] at this
      simpa using this
    refine ⟨some a, cap, l, by rw [hcs, hlen], ?_, by omega⟩
    unfold maxLen at hm
    refine ⟨rfl, by omega, fun hp => ⟨a, rfl, fun i p hp2 => ?_⟩⟩
    have hil : i < len := by
      have := (List.getElem?_eq_some_iff.1 hp2).1
      omega
    obtain ⟨b, hc1⟩ := hcell i hil
    have hpe : p = b := by
      rw [hll, List.getElem?_map, List.getElem?_range hil] at hp2
      have : intAt (W.cell? (a.add i)) = p := by simpa using hp2
      rw [← this, hc1]
      rfl
    subst hpe
    refine ⟨[.int .i64 p], rfl, rfl, fun q u hq => ?_⟩
    match q, hq with
    | 0, hq =>
      simp only [List.getElem?_cons_zero, Option.some.injEq] at hq
      rw [← hq, show (Kd.int .i64).sz = 1 from rfl, Nat.mul_one, Nat.add_zero]
      exact hc1
    | q + 1, hq => simp at hq
set_option maxRecDepth 100000 in
theorem open_cloth {v : Value} {d : DataW H} {ps : List MemPlace} (hval : Value.okWide Try.prog W r b0 61 v) (hd : DataW.Trod enc Try.prog W base sp held 61 v d ps) :
    ∃ (w h : Int) (A2 : Option Addr) (c2 : Nat) (l2 : List Int) (A3 : Option Addr) (c3 : Nat) (l3 : List Int) (A4 : Option Addr) (c4 : Nat) (l4 : List Int) (A5 : Option Addr) (c5 : Nat) (l5 : List Int),
      v = .agg #[.int .i64 w, .int .i64 h, .slice A2 l2.length c2, .slice A3 l3.length c3, .slice A4 l4.length c4, .slice A5 l5.length c5] ∧ (Kd.C (Kd.int .i64) W A2 l2.length l2 ∧ l2.length ≤ c2) ∧ (Kd.C (Kd.int .i64) W A3 l3.length l3 ∧ l3.length ≤ c3) ∧ (Kd.C (Kd.int .i64) W A4 l4.length l4 ∧ l4.length ≤ c4) ∧ (Kd.C (Kd.int .i64) W A5 l5.length l5 ∧ l5.length ≤ c5) ∧ (Lit.int .i64 w).wf = true ∧ (Lit.int .i64 h).wf = true := by
  obtain ⟨v0, v1, v2, v3, v4, v5, y0, y1, y2, y3, y4, y5, n, rfl, h0, h1, h2, h3, h4, h5⟩ := open_agg6 Try.underlying61 (by kernel_rfl) (by kernel_rfl) hval hd
  obtain ⟨n0, e0, _, w0⟩ := DataW.trod_int Try.underlying3 h0
  obtain ⟨n1, e1, _, w1⟩ := DataW.trod_int Try.underlying3 h1
  simp only [List.cons.injEq, and_true] at e0 e1
  subst e0 e1
  obtain ⟨A2, c2, l2, rfl, q2, b2⟩ := field_ints h2
  obtain ⟨A3, c3, l3, rfl, q3, b3⟩ := field_ints h3
  obtain ⟨A4, c4, l4, rfl, q4, b4⟩ := field_ints h4
  obtain ⟨A5, c5, l5, rfl, q5, b5⟩ := field_ints h5
  exact ⟨n0, n1, A2, c2, l2, A3, c3, l3, A4, c4, l4, A5, c5, l5, rfl, ⟨q2, b2⟩, ⟨q3, b3⟩, ⟨q4, b4⟩, ⟨q5, b5⟩, w0, w1⟩
end
end Go.Proofs.Ytbamanjedfccpaa.HTab
end

section
set_option linter.unusedVariables false
set_option linter.unusedSimpArgs false
namespace Go.Proofs.Ytbamanjedfccpaa.HTab
open Go.RowKit Go.Proofs.YtbamanjedfccpaaW.PrintWords Go.Proofs.YtbamanjedfccpaaW.PrintLast Go.Proofs.YtbamanjedfccpaaW.PrintMore Go.Proofs.Ytbamanjedfccpaa.X
set_option linter.unusedVariables false
set_option linter.unusedSimpArgs false
theorem few_f (l : List Int) : cantinglaw07_few.f l = some (l.take 50) := by
  have e : (mn (l.length : Int) 50).toNat = min 50 l.length := by unfold mn; split <;> omega
  have h : mn (l.length : Int) 50 ≤ (l.length : Int) ∧ 0 ≤ mn (l.length : Int) 50 := by unfold mn; split <;> omega
  unfold cantinglaw07_few.f slices_Clone_int_int.f
  rw [if_pos h.2, if_pos h.1, e, if_pos (by rw [List.length_take]; omega)]
  have : l.take (min 50 l.length) = l.take 50 := by
    rcases Nat.le_total 50 l.length with q | q
    · rw [Nat.min_eq_left q]
    · rw [Nat.min_eq_right q, List.take_of_length_le (Nat.le_refl _), List.take_of_length_le q]
  rw [this]
  rfl
theorem cloth_f (W H : Int) (l2 l3 l4 l5 : List Int) : cantinglaw07_cloth.f W H l2 l3 l4 l5 = some (W, H, l2.take 50, l3.take 50, l4.take 50, l5.take 50) := by
  unfold cantinglaw07_cloth.f
  rw [few_f, few_f, few_f, few_f]
  rfl
def pairR (W : Int) (right : List Int) (i : Nat) : S100 := ⟨(i : Int) / (W - 1) * W + (i : Int) % (W - 1), (i : Int) / (W - 1) * W + (i : Int) % (W - 1) + 1, rd right (i : Int)⟩
def pairD (W : Int) (down : List Int) (i : Nat) : S100 := ⟨(i : Int), (i : Int) + W, rd down (i : Int)⟩
def pairsL (W : Int) (right down : List Int) : List S100 := (List.range right.length).map (pairR W right) ++ (List.range down.length).map (pairD W down)
structure ClOK (W H : Int) (l2 l3 l4 l5 : List Int) : Prop where
  w : 1 ≤ W ∧ W ≤ 6
  h : 1 ≤ H ∧ H ≤ 6
  n : 1 ≤ W * H ∧ W * H ≤ 36
  n2 : (l2.length : Int) = W * H
  n3 : (l3.length : Int) = W * H
  n4 : (l4.length : Int) = W * H - H
  n5 : (l5.length : Int) = W * H - W
  b2 : ∀ x ∈ l2, 0 ≤ x ∧ x ≤ 1000
  b3 : ∀ x ∈ l3, 0 ≤ x ∧ x ≤ 1000
  b4 : ∀ x ∈ l4, 0 ≤ x ∧ x ≤ 1000
  b5 : ∀ x ∈ l5, 0 ≤ x ∧ x ≤ 1000
theorem okL_iff (l : List Int) (n : Int) (h : okL l n = true) : (l.length : Int) = n ∧ ∀ x ∈ l, 0 ≤ x ∧ x ≤ 1000 := by
  unfold okL at h
  rw [Bool.and_eq_true, Bool.not_eq_true', decide_eq_true_eq, List.any_eq_false] at h
  refine ⟨h.1, fun x hx => ?_⟩
  have := h.2 x hx
  unfold badI at this
  rw [Bool.or_eq_true, decide_eq_true_eq, decide_eq_true_eq] at this
  omega
theorem cvB_ok {W H : Int} {l2 l3 l4 l5 : List Int} (h : cvB W H l2 l3 l4 l5 = true) : ClOK W H l2 l3 l4 l5 := by
  unfold cvB at h
  simp only [Bool.and_eq_true, decide_eq_true_eq] at h
  obtain ⟨⟨hw, hh⟩, h2, h3, h4, h5⟩ := h
  have hn : 1 ≤ W * H ∧ W * H ≤ 36 := by
    have h1 : W = 1 ∨ W = 2 ∨ W = 3 ∨ W = 4 ∨ W = 5 ∨ W = 6 := by omega
    rcases h1 with h1 | h1 | h1 | h1 | h1 | h1 <;> rw [h1] <;> omega
  have q2 := okL_iff _ _ h2
  have q3 := okL_iff _ _ h3
  have q4 := okL_iff _ _ h4
  have q5 := okL_iff _ _ h5
  exact ⟨hw, hh, hn, q2.1, q3.1, q4.1, q5.1, q2.2, q3.2, q4.2, q5.2⟩
theorem rd_in {l : List Int} (h : ∀ x ∈ l, 0 ≤ x ∧ x ≤ 1000) (i : Int) : 0 ≤ rd l i ∧ rd l i ≤ 1000 := by
  unfold rd
  rw [List.getD_eq_getElem?_getD]
  cases hq : l[i.toNat]? with
  | none => simp
  | some x => exact h x (List.mem_of_getElem? hq)
section
variable {W H : Int} {l2 l3 l4 l5 : List Int} (hc : ClOK W H l2 l3 l4 l5)
include hc
theorem right_in (i : Nat) (hi : i < l4.length) : 2 ≤ W ∧ 0 ≤ (i : Int) / (W - 1) * W + (i : Int) % (W - 1) ∧ (i : Int) / (W - 1) * W + (i : Int) % (W - 1) + 1 < W * H := by
  have hw := hc.w
  have hh := hc.h
  have h4 := hc.n4
  have h1 : W = 1 ∨ W = 2 ∨ W = 3 ∨ W = 4 ∨ W = 5 ∨ W = 6 := by omega
  rcases h1 with h1 | h1 | h1 | h1 | h1 | h1 <;> subst h1 <;> omega
theorem down_in (i : Nat) (hi : i < l5.length) : (i : Int) + W < W * H := by
  have h5 := hc.n5
  omega
theorem lens_le : l4.length ≤ 36 ∧ l5.length ≤ 36 := by
  have h4 := hc.n4
  have h5 := hc.n5
  have := hc.n
  have := hc.w
  have := hc.h
  omega
theorem pairs_l1 : ∀ (d i fu : Nat), i + d = l5.length → d < fu → wax_Cloth_pairs.l1 fu ((List.range l4.length).map (pairR W l4) ++ (List.range i).map (pairD W l5)) l5 l5.length i W H l2 l3 l4 l5 = some (pairsL W l4 l5)
  | d, i, 0, h, hf => by omega
  | 0, i, fu + 1, h, hf => by
    obtain rfl : i = l5.length := by omega
    simp only [wax_Cloth_pairs.l1]
    rw [if_neg (by omega)]
    rfl
  | d + 1, i, fu + 1, h, hf => by
    have ih := pairs_l1 d (i + 1) fu (by omega) (by omega)
    have hl := lens_le hc
    have hw := hc.w
    simp only [wax_Cloth_pairs.l1]
    rw [if_pos (by omega), if_pos (by omega), if_pos (by omega), if_pos (by simp; omega), show wrap64 ((i : Int) + 1) = ((i + 1 : Nat) : Int) from wrap_add1 (by omega) (by omega), show wrap64 ((i : Int) + W) = (i : Int) + W from wrap_id (by omega) (by omega)]
    rw [List.range_succ, List.map_append, ← List.append_assoc] at ih
    exact ih
theorem pairs_l0 : ∀ (d i fu : Nat), i + d = l4.length → d + l5.length + 2 ≤ fu → wax_Cloth_pairs.l0 fu ((List.range i).map (pairR W l4)) l4 l4.length i W H l2 l3 l4 l5 = some (pairsL W l4 l5)
  | d, i, 0, h, hf => by omega
  | 0, i, fu + 1, h, hf => by
    obtain rfl : i = l4.length := by omega
    have := pairs_l1 hc l5.length 0 fu (by omega) (by omega)
    simp only [wax_Cloth_pairs.l0]
    rw [if_neg (by omega)]
    rw [List.range_zero, List.map_nil, List.append_nil] at this
    exact this
  | d + 1, i, fu + 1, h, hf => by
    have ih := pairs_l0 d (i + 1) fu (by omega) (by omega)
    have hl := lens_le hc
    have hw := hc.w
    have hr := right_in hc i (by omega)
    have hn := hc.n
    have e0 : wrap64 (W - 1) = W - 1 := wrap_id (by omega) (by omega)
    have i0 : (0 : Int) ≤ (i : Int) := by omega
    have q1 : 0 ≤ (i : Int) / (W - 1) ∧ (i : Int) / (W - 1) ≤ 36 := ⟨Int.ediv_nonneg i0 (by clear e0; omega), Int.le_trans (Int.ediv_le_self _ i0) (by clear e0; omega)⟩
    have q2 : 0 ≤ (i : Int) % (W - 1) ∧ (i : Int) % (W - 1) < W - 1 := ⟨Int.emod_nonneg _ (by clear e0; omega), Int.emod_lt_of_pos _ (by clear e0; omega)⟩
    have q3 : 0 ≤ (i : Int) / (W - 1) * W := Int.mul_nonneg q1.1 (by clear e0; omega)
    simp only [wax_Cloth_pairs.l0]
    rw [e0, Int.tdiv_eq_ediv_of_nonneg i0, Int.tmod_eq_emod_of_nonneg i0]
    clear e0
    rw [show wrap64 ((i : Int) / (W - 1)) = (i : Int) / (W - 1) from wrap_id (by omega) (by omega), show wrap64 ((i : Int) / (W - 1) * W) = (i : Int) / (W - 1) * W from wrap_id (by omega) (by omega), show wrap64 ((i : Int) / (W - 1) * W + (i : Int) % (W - 1)) = (i : Int) / (W - 1) * W + (i : Int) % (W - 1) from wrap_id (by omega) (by omega), show wrap64 ((i : Int) / (W - 1) * W + (i : Int) % (W - 1) + 1) = (i : Int) / (W - 1) * W + (i : Int) % (W - 1) + 1 from wrap_id (by omega) (by omega)]
    rw [if_pos (by omega), if_pos (by omega), if_pos (by omega), if_neg (by omega), if_pos (by simp; omega), show wrap64 ((i : Int) + 1) = ((i + 1 : Nat) : Int) from wrap_add1 (by omega) (by omega)]
    rw [List.range_succ, List.map_append] at ih
    exact ih
theorem pairs_f (fu : Nat) (hf : 100 ≤ fu) : wax_Cloth_pairs.f fu W H l2 l3 l4 l5 = some (pairsL W l4 l5) := by
  have hl := lens_le hc
  have := pairs_l0 hc l4.length 0 fu (by omega) (by omega)
  exact this
theorem pairs_in : ∀ p ∈ pairsL W l4 l5, 0 ≤ p.f0 ∧ p.f0 < W * H ∧ 0 ≤ p.f1 ∧ p.f1 < W * H ∧ 0 ≤ p.f2 ∧ p.f2 ≤ 1000 := fun p hp => by
  unfold pairsL at hp
  rcases List.mem_append.1 hp with hp | hp
  · obtain ⟨i, hi, rfl⟩ := List.mem_map.1 hp
    have := right_in hc i (List.mem_range.1 hi)
    have hb := rd_in hc.b4 (i : Int)
    unfold pairR
    dsimp only
    omega
  · obtain ⟨i, hi, rfl⟩ := List.mem_map.1 hp
    have := down_in hc i (List.mem_range.1 hi)
    have hb := rd_in hc.b5 (i : Int)
    have hw := hc.w
    unfold pairD
    dsimp only
    omega
theorem pairs_len : (pairsL W l4 l5).length ≤ 72 := by
  have hl := lens_le hc
  unfold pairsL
  simp
  omega
end
def cellE (l2 l3 : List Int) (r : Int) (S : List Bool) (i : Int) : Int := if rdOf false S i then rd l3 i + r else rd l2 i
def pairE (S : List Bool) : List S100 → Int
  | [] => 0
  | p :: l => (if (rdOf false S p.f0 != rdOf false S p.f1) = true then p.f2 else 0) + pairE S l
def enE (W H : Int) (l2 l3 l4 l5 : List Int) (r : Int) (S : List Bool) : Int := sumF (cellE l2 l3 r S) (W * H).toNat + pairE S (pairsL W l4 l5)
theorem pairE_in (S : List Bool) : ∀ l : List S100, (∀ p ∈ l, 0 ≤ p.f2 ∧ p.f2 ≤ 1000) → 0 ≤ pairE S l ∧ pairE S l ≤ 1000 * l.length
  | [], _ => by simp [pairE]
  | p :: l, h => by
    have ih := pairE_in S l (fun q hq => h q (List.mem_cons_of_mem _ hq))
    have hp := h p (List.mem_cons_self ..)
    simp only [pairE, List.length_cons]
    split <;> omega
section
variable {W H : Int} {l2 l3 l4 l5 : List Int} (hc : ClOK W H l2 l3 l4 l5) {r : Int} (hr : -10000 ≤ r ∧ r ≤ 10000) (S : List Bool)
include hc hr
end
end Go.Proofs.Ytbamanjedfccpaa.HTab
end

section
set_option linter.unusedVariables false
set_option linter.unusedSimpArgs false
namespace Go.Proofs.Ytbamanjedfccpaa.HTab
open Go.RowKit Go.Proofs.YtbamanjedfccpaaW.PrintWords Go.Proofs.YtbamanjedfccpaaW.PrintLast Go.Proofs.YtbamanjedfccpaaW.PrintMore Go.Proofs.Ytbamanjedfccpaa.X
set_option linter.unusedVariables false
set_option linter.unusedSimpArgs false
section
variable (N : Nat) (hN2 : 2 ≤ N) (hN : N ≤ 12) (l : List S34) (hl : l.length ≤ 160) (hg : GoodR N l)
include hN2 hN hl hg
end
end Go.Proofs.Ytbamanjedfccpaa.HTab
end

section
set_option linter.unusedVariables false
set_option linter.unusedSimpArgs false
namespace Go.Proofs.Ytbamanjedfccpaa.X
open Go.RowKit Go.Proofs.YtbamanjedfccpaaW.PrintWords Go.Proofs.YtbamanjedfccpaaW.PrintLast Go.Proofs.YtbamanjedfccpaaW.PrintMore
attribute [local go_sem] max2_int min2_int max_two min_two max_three min_three max_four min_four   -- for this text's walks alone
set_option linter.unusedVariables false
set_option linter.unusedSimpArgs false
end Go.Proofs.Ytbamanjedfccpaa.X
end

section
set_option linter.unusedVariables false
set_option linter.unusedSimpArgs false
namespace Go.Proofs.Ytbamanjedfccpaa.HTab
open Go.RowKit Go.Proofs.YtbamanjedfccpaaW.PrintWords Go.Proofs.YtbamanjedfccpaaW.PrintLast Go.Proofs.YtbamanjedfccpaaW.PrintMore Go.Proofs.Ytbamanjedfccpaa.X
set_option linter.unusedVariables false
set_option linter.unusedSimpArgs false
def shortL (xs : List (List Bool)) : Prop := xs.length ≤ 10000 ∧ ∀ S ∈ xs, S.length ≤ 1000
instance (xs : List (List Bool)) : Decidable (shortL xs) := inferInstanceAs (Decidable (_ ∧ _))
end Go.Proofs.Ytbamanjedfccpaa.HTab
namespace Go.Proofs.Ytbamanjedfccpaa.X
open Go.RowKit Go.Proofs.YtbamanjedfccpaaW.PrintWords Go.Proofs.YtbamanjedfccpaaW.PrintLast Go.Proofs.YtbamanjedfccpaaW.PrintMore Go.Proofs.Ytbamanjedfccpaa.HTab
end Go.Proofs.Ytbamanjedfccpaa.X
end

section
set_option linter.unusedVariables false
set_option linter.unusedSimpArgs false
namespace Go.Proofs.Ytbamanjedfccpaa.X
open Go.RowKit Go.Proofs.YtbamanjedfccpaaW.PrintWords Go.Proofs.YtbamanjedfccpaaW.PrintLast Go.Proofs.YtbamanjedfccpaaW.PrintMore
attribute [local go_sem] max2_int min2_int max_two min_two max_three min_three max_four min_four   -- for this text's walks alone
set_option linter.unusedVariables false
set_option linter.unusedSimpArgs false
end Go.Proofs.Ytbamanjedfccpaa.X
end

section
set_option linter.unusedVariables false
set_option linter.unusedSimpArgs false
namespace Go.Proofs.Ytbamanjedfccpaa.HTab
open Go.RowKit Go.Proofs.YtbamanjedfccpaaW.PrintWords Go.Proofs.YtbamanjedfccpaaW.PrintLast Go.Proofs.YtbamanjedfccpaaW.PrintMore Go.Proofs.Ytbamanjedfccpaa.X
set_option linter.unusedVariables false
set_option linter.unusedSimpArgs false
def andP (a b : List Bool) (i : Nat) : List Bool := (List.range i).map fun (k : Nat) => rdOf false a (k : Int) && rdOf false b (k : Int)
def orP (a b : List Bool) (i : Nat) : List Bool := (List.range i).map fun (k : Nat) => rdOf false a (k : Int) || rdOf false b (k : Int)
theorem andP_len (a b : List Bool) (i : Nat) : (andP a b i).length = i := by simp [andP]
theorem orP_len (a b : List Bool) (i : Nat) : (orP a b i).length = i := by simp [orP]
theorem andP_rd (a b : List Bool) (N : Nat) (x : Int) (x0 : 0 ≤ x) (x1 : x < N) : rdOf false (andP a b N) x = (rdOf false a x && rdOf false b x) := by
  obtain ⟨n, rfl⟩ : ∃ n : Nat, x = n := ⟨x.toNat, by omega⟩
  have h : n < N := by omega
  have e : rdOf false (andP a b N) (n : Int) = (andP a b N).getD n false := by simp [rdOf]
  rw [e]
  simp [andP, h]
theorem orP_rd (a b : List Bool) (N : Nat) (x : Int) (x0 : 0 ≤ x) (x1 : x < N) : rdOf false (orP a b N) x = (rdOf false a x || rdOf false b x) := by
  obtain ⟨n, rfl⟩ : ∃ n : Nat, x = n := ⟨x.toNat, by omega⟩
  have h : n < N := by omega
  have e : rdOf false (orP a b N) (n : Int) = (orP a b N).getD n false := by simp [rdOf]
  rw [e]
  simp [orP, h]
end Go.Proofs.Ytbamanjedfccpaa.HTab
end

section
set_option linter.unusedVariables false
set_option linter.unusedSimpArgs false
namespace Go.Proofs.Ytbamanjedfccpaa.X
open Go.RowKit Go.Proofs.YtbamanjedfccpaaW.PrintWords Go.Proofs.YtbamanjedfccpaaW.PrintLast Go.Proofs.YtbamanjedfccpaaW.PrintMore
attribute [local go_sem] max2_int min2_int max_two min_two max_three min_three max_four min_four   -- for this text's walks alone
set_option linter.unusedVariables false
set_option linter.unusedSimpArgs false
end Go.Proofs.Ytbamanjedfccpaa.X
end

section
set_option linter.unusedVariables false
set_option linter.unusedSimpArgs false
namespace Go.Proofs.Ytbamanjedfccpaa.HTab
open Go.RowKit Go.Proofs.YtbamanjedfccpaaW.PrintWords Go.Proofs.YtbamanjedfccpaaW.PrintLast Go.Proofs.YtbamanjedfccpaaW.PrintMore Go.Proofs.Ytbamanjedfccpaa.X
set_option linter.unusedVariables false
set_option linter.unusedSimpArgs false
theorem pair_mod (S T A B : List Bool) : ∀ l : List S100, (∀ p ∈ l, 0 ≤ p.f2) → (∀ p ∈ l, ∀ x : Int, x = p.f0 ∨ x = p.f1 → rdOf false A x = (rdOf false S x && rdOf false T x) ∧ rdOf false B x = (rdOf false S x || rdOf false T x)) → pairE A l + pairE B l ≤ pairE S l + pairE T l
  | [], _, _ => by simp [pairE]
  | p :: l, h, hr => by
    have ih := pair_mod S T A B l (fun q hq => h q (List.mem_cons_of_mem _ hq)) (fun q hq => hr q (List.mem_cons_of_mem _ hq))
    have hp := h p (List.mem_cons_self ..)
    have r0 := hr p (List.mem_cons_self ..) p.f0 (.inl rfl)
    have r1 := hr p (List.mem_cons_self ..) p.f1 (.inr rfl)
    simp only [pairE]
    rw [r0.1, r0.2, r1.1, r1.2]
    rcases Bool.eq_false_or_eq_true (rdOf false S p.f0) with h1 | h1 <;> rcases Bool.eq_false_or_eq_true (rdOf false S p.f1) with h2 | h2 <;> rcases Bool.eq_false_or_eq_true (rdOf false T p.f0) with h3 | h3 <;> rcases Bool.eq_false_or_eq_true (rdOf false T p.f1) with h4 | h4 <;> simp [h1, h2, h3, h4] <;> omega
theorem en_mod {W H : Int} {l2 l3 l4 l5 : List Int} (hc : ClOK W H l2 l3 l4 l5) (r : Int) (S T A B : List Bool) (hr : ∀ x : Int, 0 ≤ x → x < W * H → rdOf false A x = (rdOf false S x && rdOf false T x) ∧ rdOf false B x = (rdOf false S x || rdOf false T x)) :
    enE W H l2 l3 l4 l5 r A + enE W H l2 l3 l4 l5 r B ≤ enE W H l2 l3 l4 l5 r S + enE W H l2 l3 l4 l5 r T := by
  have hn := hc.n
  have h1 := pair_mod S T A B (pairsL W l4 l5) (fun p hp => (pairs_in hc p hp).2.2.2.2.1) (fun p hp x hx => by
    obtain ⟨a, b, c, d, _⟩ := pairs_in hc p hp
    rcases hx with rfl | rfl
    · exact hr _ a b
    · exact hr _ c d)
  have h2 : sumF (cellE l2 l3 r A) (W * H).toNat + sumF (cellE l2 l3 r B) (W * H).toNat = sumF (cellE l2 l3 r S) (W * H).toNat + sumF (cellE l2 l3 r T) (W * H).toNat := by
    rw [← sumF_add, ← sumF_add]
    refine sumF_congr _ (fun v v0 v1 => ?_)
    obtain ⟨a, b⟩ := hr v v0 (by omega)
    unfold cellE
    rw [a, b]
    cases rdOf false S v <;> cases rdOf false T v <;> simp <;> omega
  unfold enE
  omega
end Go.Proofs.Ytbamanjedfccpaa.HTab
end

section
set_option linter.unusedVariables false
set_option linter.unusedSimpArgs false
namespace Go.Proofs.Ytbamanjedfccpaa.X
open Go.RowKit Go.Proofs.YtbamanjedfccpaaW.PrintWords Go.Proofs.YtbamanjedfccpaaW.PrintLast Go.Proofs.YtbamanjedfccpaaW.PrintMore
attribute [local go_sem] max2_int min2_int max_two min_two max_three min_three max_four min_four   -- for this text's walks alone
set_option linter.unusedVariables false
set_option linter.unusedSimpArgs false
end Go.Proofs.Ytbamanjedfccpaa.X
end

section
set_option linter.unusedVariables false
set_option linter.unusedSimpArgs false
namespace Go.Proofs.Ytbamanjedfccpaa.HTab
open Go.RowKit Go.Proofs.YtbamanjedfccpaaW.PrintWords Go.Proofs.YtbamanjedfccpaaW.PrintLast Go.Proofs.YtbamanjedfccpaaW.PrintMore Go.Proofs.Ytbamanjedfccpaa.X
set_option linter.unusedVariables false
set_option linter.unusedSimpArgs false
theorem costF_app (both : Bool) (T : Int → Bool) : ∀ l m : List S35, costF both T (l ++ m) = costF both T l + costF both T m
  | [], m => by simp [costF]
  | a :: l, m => by
    simp only [List.cons_append, costF, costF_app both T l m]
    omega
end Go.Proofs.Ytbamanjedfccpaa.HTab
end

section
set_option linter.unusedVariables false
set_option linter.unusedSimpArgs false
namespace Go.Proofs.Ytbamanjedfccpaa.HTab
open Go.RowKit Go.Proofs.YtbamanjedfccpaaW.PrintWords Go.Proofs.YtbamanjedfccpaaW.PrintLast Go.Proofs.YtbamanjedfccpaaW.PrintMore Go.Proofs.Ytbamanjedfccpaa.X
set_option linter.unusedVariables false
set_option linter.unusedSimpArgs false
def lowC (l3 : List Int) (r i : Int) : Int := mn (rd l3 i + r) 0
def cellA (n : Int) (l2 l3 : List Int) (r : Int) (i : Nat) : List S35 := [⟨0, (i : Int) + 1, rd l2 (i : Int) - lowC l3 r (i : Int)⟩, ⟨(i : Int) + 1, n + 1, rd l3 (i : Int) + r - lowC l3 r (i : Int)⟩]
def pairA (p : S100) : List S35 := [⟨p.f0 + 1, p.f1 + 1, p.f2⟩, ⟨p.f1 + 1, p.f0 + 1, p.f2⟩]
def arcsL (W H : Int) (l2 l3 l4 l5 : List Int) (r : Int) : List S35 := (List.range (W * H).toNat).flatMap (cellA (W * H) l2 l3 r) ++ (pairsL W l4 l5).flatMap pairA
theorem flat_len {α : Type} (g : α → List S35) (hg : ∀ a, (g a).length = 2) : ∀ l : List α, (l.flatMap g).length = 2 * l.length
  | [] => rfl
  | a :: l => by
    rw [List.flatMap_cons, List.length_append, hg a, flat_len g hg l, List.length_cons]
    omega
theorem lowC_in {l3 : List Int} (h : ∀ x ∈ l3, 0 ≤ x ∧ x ≤ 1000) {r : Int} (hr : -10000 ≤ r ∧ r ≤ 10000) (i : Int) : -10000 ≤ lowC l3 r i ∧ lowC l3 r i ≤ 0 ∧ lowC l3 r i ≤ rd l3 i + r := by
  have := rd_in h i
  unfold lowC mn
  split <;> omega
section
variable {W H : Int} {l2 l3 l4 l5 : List Int} (hc : ClOK W H l2 l3 l4 l5)
include hc
theorem arcs_l1 (N : Int) : ∀ (d i fu : Nat) (X : List S35), i + d = (pairsL W l4 l5).length → d < fu → X.length + 2 * d ≤ 1000 →
    wax_Cloth_arcs.l1 fu (pairsL W l4 l5) (pairsL W l4 l5).length i N X = some (X ++ ((pairsL W l4 l5).drop i).flatMap pairA)
  | d, i, 0, X, h, hf, hX => by omega
  | 0, i, fu + 1, X, h, hf, hX => by
    simp only [wax_Cloth_arcs.l1]
    rw [if_neg (by omega), List.drop_eq_nil_of_le (by omega)]
    simp
  | d + 1, i, fu + 1, X, h, hf, hX => by
    have hi : i < (pairsL W l4 l5).length := by omega
    have hrd : rd_T100 (pairsL W l4 l5) (i : Int) = (pairsL W l4 l5)[i] := by simp [rd_T100, hi]
    have hp := pairs_in hc _ (List.getElem_mem hi)
    have hn := hc.n
    have hpl := pairs_len hc
    obtain ⟨p, hpe⟩ : ∃ p, p = (pairsL W l4 l5)[i] := ⟨_, rfl⟩
    have ih := fun X hX => arcs_l1 N d (i + 1) fu X (by omega) (by omega) hX
    simp only [wax_Cloth_arcs.l1]
    rw [if_pos (by omega), if_pos (by omega), if_pos (by omega), hrd, List.drop_eq_getElem_cons hi, ← hpe]
    rw [← hpe] at hp
    rw [show wrap64 ((i : Int) + 1) = ((i + 1 : Nat) : Int) from wrap_add1 (by omega) (by omega), show wrap64 (p.f0 + 1) = p.f0 + 1 from wrap_id (by omega) (by omega), show wrap64 (p.f1 + 1) = p.f1 + 1 from wrap_id (by omega) (by omega)]
    rw [Option.bind_some, if_pos (by simp; omega), ih _ (by simp; omega), List.flatMap_cons, ← List.append_assoc]
    rfl
theorem arcs_l0 {r : Int} (hr : -10000 ≤ r ∧ r ≤ 10000) (n : Nat) (hn : (n : Int) = W * H) : ∀ (d i fu : Nat) (X : List S35), i + d = n → d + 100 < fu → X.length + 2 * d ≤ 100 →
    wax_Cloth_arcs.l0 fu r n i W H l2 l3 l4 l5 ((n : Int) + 2) X = some (X ++ ((List.range n).drop i).flatMap (cellA n l2 l3 r) ++ (pairsL W l4 l5).flatMap pairA)
  | d, i, 0, X, h, hf, hX => by omega
  | 0, i, fu + 1, X, h, hf, hX => by
    have hpl := pairs_len hc
    simp only [wax_Cloth_arcs.l0]
    rw [if_neg (by omega), List.drop_eq_nil_of_le (by simp; omega), pairs_f hc fu (by omega), Option.bind_some]
    have := arcs_l1 hc ((n : Int) + 2) (pairsL W l4 l5).length 0 fu X (by omega) (by omega) (by omega)
    rw [List.drop_zero] at this
    rw [List.flatMap_nil, List.append_nil]
    exact this
  | d + 1, i, fu + 1, X, h, hf, hX => by
    have hN := hc.n
    have h2 := hc.n2
    have h3 := hc.n3
    have hb2 := rd_in hc.b2 (i : Int)
    have hb3 := rd_in hc.b3 (i : Int)
    have hlo := lowC_in hc.b3 hr (i : Int)
    have ih := fun X hX => arcs_l0 hr n hn d (i + 1) fu X (by omega) (by omega) hX
    simp only [wax_Cloth_arcs.l0]
    rw [if_pos (by omega), if_pos (by omega), if_pos (by omega), if_pos (by omega)]
    rw [show wrap64 (rd l3 (i : Int) + r) = rd l3 (i : Int) + r from wrap_id (by omega) (by omega)]
    rw [show mn (rd l3 (i : Int) + r) 0 = lowC l3 r i from rfl]
    rw [show wrap64 ((i : Int) + 1) = ((i + 1 : Nat) : Int) from wrap_add1 (by omega) (by omega), show wrap64 ((n : Int) + 2 - 1) = (n : Int) + 1 by rw [wrap_id (by omega) (by omega)]; omega, show wrap64 (rd l2 (i : Int) - lowC l3 r i) = rd l2 (i : Int) - lowC l3 r i from wrap_id (by omega) (by omega), show wrap64 (rd l3 (i : Int) + r - lowC l3 r i) = rd l3 (i : Int) + r - lowC l3 r i from wrap_id (by omega) (by omega)]
    rw [Option.bind_some, if_pos (by simp; omega), ih _ (by simp; omega), List.drop_eq_getElem_cons (l := List.range n) (i := i) (by simp; omega), List.flatMap_cons, List.getElem_range, ← List.append_assoc]
    rfl
theorem arcs_f {r : Int} (hr : -10000 ≤ r ∧ r ≤ 10000) (fu : Nat) (hf : 200 ≤ fu) : wax_Cloth_arcs.f fu W H l2 l3 l4 l5 r = some (arcsL W H l2 l3 l4 l5 r) := by
  have hN := hc.n
  obtain ⟨n, hn⟩ : ∃ n : Nat, (n : Int) = W * H := ⟨(W * H).toNat, by omega⟩
  have := arcs_l0 hc hr n hn n 0 fu [] (by omega) (by omega) (by simp; omega)
  unfold wax_Cloth_arcs.f arcsL
  rw [← hn, Int.toNat_natCast, show wrap64 (n : Int) = (n : Int) from wrap_id (by omega) (by omega), show wrap64 ((n : Int) + 2) = (n : Int) + 2 from wrap_id (by omega) (by omega)]
  exact this
theorem arcs_len (r : Int) : (arcsL W H l2 l3 l4 l5 r).length ≤ 300 := by
  have hN := hc.n
  have hpl := pairs_len hc
  unfold arcsL
  rw [List.length_append, flat_len _ (fun _ => rfl), flat_len _ (fun _ => rfl), List.length_range]
  omega
theorem arcs_good {r : Int} (hr : -10000 ≤ r ∧ r ≤ 10000) (N : Nat) (hN : (N : Int) = W * H + 2) : Good N (arcsL W H l2 l3 l4 l5 r) ∧ ∀ a ∈ arcsL W H l2 l3 l4 l5 r, 0 ≤ a.f2 ∧ a.f2 ≤ 1000000 := by
  have hn := hc.n
  have key : ∀ a ∈ arcsL W H l2 l3 l4 l5 r, (0 ≤ a.f0 ∧ a.f0 < (N : Int) ∧ 0 ≤ a.f1 ∧ a.f1 < (N : Int)) ∧ 0 ≤ a.f2 ∧ a.f2 ≤ 1000000 := fun a ha => by
    unfold arcsL at ha
    rcases List.mem_append.1 ha with ha | ha
    · obtain ⟨i, hi, ha⟩ := List.mem_flatMap.1 ha
      have hi := List.mem_range.1 hi
      have hb2 := rd_in hc.b2 (i : Int)
      have hb3 := rd_in hc.b3 (i : Int)
      have hlo := lowC_in hc.b3 hr (i : Int)
      unfold cellA at ha
      simp only [List.mem_cons, List.not_mem_nil, or_false] at ha
      rcases ha with rfl | rfl <;> dsimp only <;> omega
    · obtain ⟨p, hp, ha⟩ := List.mem_flatMap.1 ha
      have := pairs_in hc p hp
      unfold pairA at ha
      simp only [List.mem_cons, List.not_mem_nil, or_false] at ha
      rcases ha with rfl | rfl <;> dsimp only <;> omega
  exact ⟨fun a ha => (key a ha).1, fun a ha => (key a ha).2⟩
end
def sideL (S : List Bool) (v : Int) : Bool := decide (v = 0) || (decide (1 ≤ v) && rdOf false S (v - 1))
theorem rdOf_out (S : List Bool) (i : Int) (h : (S.length : Int) ≤ i) : rdOf false S i = false := by
  unfold rdOf
  rw [List.getD_eq_getElem?_getD, List.getElem?_eq_none (by omega)]
  rfl
theorem sideL_in (S : List Bool) (i : Int) (h : 0 ≤ i) : sideL S (i + 1) = rdOf false S i := by
  unfold sideL
  rw [decide_eq_false (by omega), decide_eq_true (show 1 ≤ i + 1 by omega), show i + 1 - 1 = i by omega]
  rfl
theorem sideL_side (S : List Bool) (N : Nat) (h : S.length + 2 = N) : side (sideL S) 0 ((N : Int) - 1) := by
  constructor
  · rfl
  · rw [show (N : Int) - 1 = (S.length : Int) + 1 by omega, sideL_in _ _ (by omega), rdOf_out _ _ (by omega)]
theorem cell_cost (n : Nat) (l2 l3 : List Int) (r : Int) (S : List Bool) (hS : S.length = n) : ∀ m : Nat, m ≤ n → costF false (sideL S) ((List.range m).flatMap (cellA n l2 l3 r)) = sumF (fun v => cellE l2 l3 r S v - lowC l3 r v) m
  | 0, _ => rfl
  | m + 1, h => by
    have ih := cell_cost n l2 l3 r S hS m (by omega)
    rw [List.range_succ, List.flatMap_append, costF_app, ih, List.flatMap_cons, List.flatMap_nil, List.append_nil]
    simp only [sumF]
    congr 1
    unfold cellA cellE
    simp only [costF]
    rw [sideL_in S m (by omega), sideL_in S n (by omega), rdOf_out S n (by omega), show sideL S 0 = true from rfl]
    cases rdOf false S (m : Int) <;> simp
theorem pair_cost (S : List Bool) : ∀ l : List S100, (∀ p ∈ l, 0 ≤ p.f0 ∧ 0 ≤ p.f1) → costF false (sideL S) (l.flatMap pairA) = pairE S l
  | [], _ => rfl
  | p :: l, h => by
    have ih := pair_cost S l (fun q hq => h q (List.mem_cons_of_mem _ hq))
    obtain ⟨h0, h1⟩ := h p (List.mem_cons_self ..)
    rw [List.flatMap_cons, costF_app, ih]
    simp only [pairE]
    congr 1
    unfold pairA
    simp only [costF]
    rw [sideL_in S _ h0, sideL_in S _ h1]
    cases rdOf false S p.f0 <;> cases rdOf false S p.f1 <;> simp
theorem en_cost {W H : Int} {l2 l3 l4 l5 : List Int} (hc : ClOK W H l2 l3 l4 l5) (r : Int) (S : List Bool) (hS : (S.length : Int) = W * H) :
    enE W H l2 l3 l4 l5 r S = costF false (sideL S) (arcsL W H l2 l3 l4 l5 r) + sumF (lowC l3 r) (W * H).toNat := by
  have h1 := cell_cost S.length l2 l3 r S rfl S.length (Nat.le_refl _)
  have h2 := pair_cost S (pairsL W l4 l5) (fun p hp => ⟨(pairs_in hc p hp).1, (pairs_in hc p hp).2.2.1⟩)
  unfold enE arcsL
  rw [costF_app, ← hS, Int.toNat_natCast, h1, h2, sumF_sub]
  omega
structure NetC (N : Nat) (arcs : List S35) (s : Int) (l1 D : List Int) (G : List Bool) : Prop where
  net : netM N arcs = some (midL (leastL D) N, midL G N)
  lok : LOK false arcs l1
  res : ∀ T, resF T arcs l1 = costF false T arcs - s * (ind T 0 - ind T ((N : Int) - 1))
  lv : LvD arcs l1 (outZ N arcs) 0 N D
  gr : GrD arcs l1 (outZ N arcs) ((N : Int) - 1) N G
  no : rd D ((N : Int) - 1) < 0
theorem netC {N : Nat} {arcs : List S35} (h3 : 3 ≤ N) (hN : N ≤ 1000) (hl : arcs.length ≤ 1000) (d : Good N arcs) (e : ∀ a ∈ arcs, 0 ≤ a.f2 ∧ a.f2 ≤ 1000000) : ∃ s l1 D G, NetC N arcs s l1 D G := by
  obtain ⟨s, l1, d1, n1, hF, hs, hL, hr, hv, hn⟩ := fillZ_ok false N arcs 0 ((N : Int) - 1) hN hl d e (by omega) (by omega) (by omega)
  obtain ⟨D, hD, hvD⟩ := level_ok arcs l1 (outZ N arcs) 0 ((N : Int) - 1) N d1 n1 (by omega) (by omega) (rows_in d) fuelW (by unfold fuelW; omega)
  obtain ⟨G, hG, hgG⟩ := great_ok arcs l1 (outZ N arcs) 0 ((N : Int) - 1) N D n1 (by omega) (rows_in d) fuelW (by unfold fuelW; omega)
  have hno : rd D ((N : Int) - 1) < 0 := by
    refine Int.not_le.1 (fun hq => ?_)
    have h0 := reach_zero d hL hv
    have := least_in d hL hvD (fun v => decide (0 ≤ rd d1 v)) (by simp [hv.s0]) h0 (rd D ((N : Int) - 1)).toNat ((N : Int) - 1) (by omega) (by omega) (by omega)
    have := of_decide_eq_true this
    omega
  refine ⟨s, l1, D, G, ?_, hL, hr, hvD, hgG, hno⟩
  unfold netM
  rw [if_pos ⟨h3, hN, hl, d⟩, hF, Option.bind_some]
  have hD' : levelP fuelW ((restP false N arcs 0 ((N : Int) - 1)).dat_ l1 d1 n1) = some D := hD
  have hG' : greatP fuelW ((restP false N arcs 0 ((N : Int) - 1)).dat_ l1 D n1) = some G := hG
  dsimp only
  rw [hD', Option.bind_some, hG', Option.bind_some, if_pos ⟨hL.len, hvD.len, hgG.len⟩]
section
variable {N : Nat} {arcs : List S35} {s : Int} {l1 D : List Int} {G : List Bool}
theorem NetC.min (h : NetC N arcs s l1 D G) (T : Int → Bool) (hT : side T 0 ((N : Int) - 1)) : s ≤ costF false T arcs := by
  have h1 := h.res T
  have h2 := resF_nonneg T h.lok
  rw [ind_side hT] at h1
  omega
theorem NetC.zero (h : NetC N arcs s l1 D G) (T : Int → Bool) (hT : side T 0 ((N : Int) - 1)) : costF false T arcs = s ↔ resF T arcs l1 = 0 := by
  have h1 := h.res T
  rw [ind_side hT] at h1
  omega
theorem NetC.least_rd (h : NetC N arcs s l1 D G) (x : Int) (x0 : 0 ≤ x) (x1 : x < N) : rdOf false (leastL D) x = decide (0 ≤ rd D x) := leastL_rd D x x0 (by rw [h.lv.len]; exact x1)
theorem NetC.least_side (h : NetC N arcs s l1 D G) (hN : 2 ≤ N) : side (fun v => rdOf false (leastL D) v) 0 ((N : Int) - 1) := by
  constructor
  · show rdOf false (leastL D) 0 = true
    rw [h.least_rd 0 (by omega) (by omega), h.lv.s0]
    rfl
  · show rdOf false (leastL D) ((N : Int) - 1) = false
    rw [h.least_rd _ (by omega) (by omega)]
    exact decide_eq_false (by have := h.no; omega)
theorem NetC.least_cost (h : NetC N arcs s l1 D G) (hN : 2 ≤ N) (hg : Good N arcs) : costF false (fun v => rdOf false (leastL D) v) arcs = s := by
  rw [costF_congr (N := N) false _ (fun v => decide (0 ≤ rd D v)) (fun v v0 v1 => h.least_rd v v0 v1) arcs hg]
  refine (h.zero _ ⟨by simp [h.lv.s0], ?_⟩).2 (reach_zero hg h.lok h.lv)
  exact decide_eq_false (by have := h.no; omega)
theorem NetC.great_side (h : NetC N arcs s l1 D G) (hN : 2 ≤ N) (hg : Good N arcs) : side (fun v => rdOf false G v) 0 ((N : Int) - 1) :=
  ⟨great_src hg h.lv h.gr h.no 0 (by omega) (by omega) (by rw [h.lv.s0]; omega), h.gr.s0⟩
theorem NetC.great_cost (h : NetC N arcs s l1 D G) (hN : 2 ≤ N) (hg : Good N arcs) : costF false (fun v => rdOf false G v) arcs = s :=
  (h.zero _ (h.great_side hN hg)).2 (great_zero hg h.lok h.gr)
theorem NetC.between (h : NetC N arcs s l1 D G) (hN : 2 ≤ N) (hg : Good N arcs) (T : Int → Bool) (hT : side T 0 ((N : Int) - 1)) (hc : costF false T arcs = s) (x : Int) (x0 : 0 ≤ x) (x1 : x < N) : (rdOf false (leastL D) x = true → T x = true) ∧ (T x = true → rdOf false G x = true) := by
  have h0 := (h.zero T hT).1 hc
  refine ⟨fun hx => ?_, fun hx => ?_⟩
  · rw [h.least_rd x x0 x1] at hx
    have := of_decide_eq_true hx
    exact least_in hg h.lok h.lv T hT.1 h0 (rd D x).toNat x x0 x1 (by omega)
  · cases hq : rdOf false G x with
    | true => rfl
    | false =>
      have := great_in hg h.lok h.gr T hT.2 h0 x x0 x1 hq
      rw [this] at hx
      cases hx
end
theorem midL_rd (S : List Bool) (N : Nat) (hS : S.length = N) (i : Int) (i0 : 0 ≤ i) (i1 : i < (N : Int) - 2) : rdOf false (midL S N) i = rdOf false S (i + 1) := by
  obtain ⟨n, rfl⟩ : ∃ n : Nat, i = n := ⟨i.toNat, by omega⟩
  unfold midL rdOf
  rw [List.getD_eq_getElem?_getD, List.getD_eq_getElem?_getD, List.getElem?_take, if_pos (by omega), List.getElem?_drop]
  congr 2
  omega
theorem sideL_mid (S : List Bool) (N : Nat) (h2 : 2 ≤ N) (hS : S.length = N) (h0 : rdOf false S 0 = true) (h1 : rdOf false S ((N : Int) - 1) = false) (v : Int) (v0 : 0 ≤ v) (v1 : v < N) : sideL (midL S N) v = rdOf false S v := by
  by_cases c : v = 0
  · subst c
    rw [h0]
    rfl
  · obtain ⟨i, rfl⟩ : ∃ i, v = i + 1 := ⟨v - 1, by omega⟩
    rw [sideL_in _ _ (by omega)]
    by_cases d : i < (N : Int) - 2
    · exact midL_rd S N hS i (by omega) d
    · obtain rfl : i = (N : Int) - 2 := by omega
      rw [rdOf_out _ _ (by rw [midL_len S N hS h2]; omega), show (N : Int) - 2 + 1 = (N : Int) - 1 by omega, h1]
structure LabD (W H : Int) (l2 l3 l4 l5 : List Int) (r : Int) (a b : List Bool) : Prop where
  labels : wax_Cloth_labels.f W H l2 l3 l4 l5 r = some (a, b)
  la : (a.length : Int) = W * H
  lb : (b.length : Int) = W * H
  min : ∀ S : List Bool, (S.length : Int) = W * H → enE W H l2 l3 l4 l5 r a ≤ enE W H l2 l3 l4 l5 r S
  eq : enE W H l2 l3 l4 l5 r b = enE W H l2 l3 l4 l5 r a
  btw : ∀ S : List Bool, (S.length : Int) = W * H → enE W H l2 l3 l4 l5 r S = enE W H l2 l3 l4 l5 r a → ∀ x : Int, 0 ≤ x → x < W * H → (rdOf false a x = true → rdOf false S x = true) ∧ (rdOf false S x = true → rdOf false b x = true)
theorem labD {W H : Int} {l2 l3 l4 l5 : List Int} (hv : cvB W H l2 l3 l4 l5 = true) {r : Int} (hr : -10000 ≤ r ∧ r ≤ 10000) : ∃ a b, LabD W H l2 l3 l4 l5 r a b := by
  have hc := cvB_ok hv
  have hn := hc.n
  obtain ⟨N, hN⟩ : ∃ N : Nat, (N : Int) = W * H + 2 := ⟨(W * H + 2).toNat, by omega⟩
  obtain ⟨hg, he⟩ := arcs_good hc hr N hN
  obtain ⟨s, l1, D, G, h⟩ := netC (N := N) (arcs := arcsL W H l2 l3 l4 l5 r) (by omega) (by omega) (by have := arcs_len hc r; omega) hg he
  have h2 : 2 ≤ N := by omega
  have hDl : (leastL D).length = N := by unfold leastL; rw [List.length_map]; exact h.lv.len
  have hGl := h.gr.len
  have sD := h.least_side h2
  have sG := h.great_side h2 hg
  have la := midL_len _ N hDl h2
  have lb := midL_len _ N hGl h2
  have cD := (costF_congr (N := N) false _ _ (fun v v0 v1 => sideL_mid (leastL D) N h2 hDl sD.1 sD.2 v v0 v1) _ hg).trans (h.least_cost h2 hg)
  have cG := (costF_congr (N := N) false _ _ (fun v v0 v1 => sideL_mid G N h2 hGl sG.1 sG.2 v v0 v1) _ hg).trans (h.great_cost h2 hg)
  refine ⟨midL (leastL D) N, midL G N, ?_, by omega, by omega, fun S hS => ?_, ?_, fun S hS hE x x0 x1 => ?_⟩
  · unfold wax_Cloth_labels.f
    rw [arcs_f hc hr 10000 (by omega), Option.bind_some, show wrap64 (W * H) = W * H from wrap_id (by omega) (by omega), show wrap64 (W * H + 2) = (N : Int) by rw [wrap_id (by omega) (by omega)]; omega, Int.toNat_natCast]
    exact h.net
  · rw [en_cost hc r S hS, en_cost hc r _ (by omega), cD]
    have := h.min (sideL S) (sideL_side S N (by omega))
    omega
  · rw [en_cost hc r _ (by omega), en_cost hc r _ (by omega), cD, cG]
  · rw [en_cost hc r S hS, en_cost hc r _ (by omega), cD] at hE
    have hb := h.between h2 hg (sideL S) (sideL_side S N (by omega)) (by omega) (x + 1) (by omega) (by omega)
    rw [sideL_in S x x0] at hb
    rw [midL_rd _ N hDl x x0 (by omega), midL_rd _ N hGl x x0 (by omega)]
    exact hb
end Go.Proofs.Ytbamanjedfccpaa.HTab
end

section
set_option linter.unusedVariables false
set_option linter.unusedSimpArgs false
namespace Go.Proofs.Ytbamanjedfccpaa.HTab
open Go.RowKit Go.Proofs.YtbamanjedfccpaaW.PrintWords Go.Proofs.YtbamanjedfccpaaW.PrintLast Go.Proofs.YtbamanjedfccpaaW.PrintMore Go.Proofs.Ytbamanjedfccpaa.X
set_option linter.unusedVariables false
set_option linter.unusedSimpArgs false
def setA (out : List Int) (x : Int) (l : List Int) : List Int := l.foldl (fun o i => o.set i.toNat x) out
theorem setA_len (x : Int) : ∀ (l out : List Int), (setA out x l).length = out.length
  | [], _ => rfl
  | i :: l, out => by
    have := setA_len x l (out.set i.toNat x)
    rw [List.length_set] at this
    exact this
theorem setA_take (out : List Int) (x : Int) (l : List Int) (i : Nat) (h : i < l.length) : setA out x (l.take (i + 1)) = (setA out x (l.take i)).set (rd l (i : Int)).toNat x := by
  have e : rd l (i : Int) = l[i] := by simp [rd, h]
  rw [e, List.take_succ_eq_append_getElem h]
  unfold setA
  rw [List.foldl_append]
  rfl
def partP (lab : Int → Option (List Bool × List Bool)) : Nat → List Int → Int → Int → List Int → Option (List Int)
  | 0, _, _, _, _ => none
  | k + 1, l, lo, hi, out => if l.length = 0 ∨ hi - lo = 1 then some (setA out lo l) else
    (lab (lo + Int.tdiv (hi - lo) 2)).bind fun m => if m.2.length = out.length then
      (partP lab k (l.filter fun i => rdOf false m.2 i) (lo + Int.tdiv (hi - lo) 2) hi out).bind fun o => partP lab k (l.filter fun i => !rdOf false m.2 i) lo (lo + Int.tdiv (hi - lo) 2) o
    else none
def fnQ (gO gC gP : Nat) : Value := .func (.func 68) #[] #[.pointer (some ⟨gO, 0, none⟩), .pointer (some ⟨gC, 0, none⟩), .pointer (some ⟨gP, 0, none⟩)]
structure Cl where
  W : Int
  H : Int
  A2 : Option Addr
  c2 : Nat
  l2 : List Int
  A3 : Option Addr
  c3 : Nat
  l3 : List Int
  A4 : Option Addr
  c4 : Nat
  l4 : List Int
  A5 : Option Addr
  c5 : Nat
  l5 : List Int
def Cl.cells (C : Cl) : Array Value := #[.int .i64 C.W, .int .i64 C.H, .slice C.A2 C.l2.length C.c2, .slice C.A3 C.l3.length C.c3, .slice C.A4 C.l4.length C.c4, .slice C.A5 C.l5.length C.c5]
def Cl.lab (C : Cl) (r : Int) : Option (List Bool × List Bool) := wax_Cloth_labels.f C.W C.H C.l2 C.l3 C.l4 C.l5 r
structure Cl.In (C : Cl) (w : World) : Prop where
  r2 : Kd.C (Kd.int .i64) w C.A2 C.l2.length C.l2
  h2 : C.l2.length ≤ C.c2
  r3 : Kd.C (Kd.int .i64) w C.A3 C.l3.length C.l3
  h3 : C.l3.length ≤ C.c3
  r4 : Kd.C (Kd.int .i64) w C.A4 C.l4.length C.l4
  h4 : C.l4.length ≤ C.c4
  r5 : Kd.C (Kd.int .i64) w C.A5 C.l5.length C.l5
  h5 : C.l5.length ≤ C.c5
theorem Cl.In.below {C : Cl} {w w1 : World} (h : C.In w) (hb : Below w.heap.size w w1) : C.In w1 := ⟨Kd.C_below h.r2 hb, h.h2, Kd.C_below h.r3 hb, h.h3, Kd.C_below h.r4 hb, h.h4, Kd.C_below h.r5 hb, h.h5⟩
structure Ps (w0 w : World) (C : Cl) (gO gC gP gb cb n : Nat) (out : List Int) : Prop where
  kO : w.heap[gO]? = some (.cells #[.slice (some ⟨gb, 0, none⟩) n cb] 40 (0, 0))
  kC : w.heap[gC]? = some (.cells #[.int .i64 C.W, .int .i64 C.H, .slice C.A2 C.l2.length C.c2, .slice C.A3 C.l3.length C.c3, .slice C.A4 C.l4.length C.c4, .slice C.A5 C.l5.length C.c5] 63 (0, 0))
  kP : w.heap[gP]? = some (.cells #[fnQ gO gC gP] 108 (0, 0))
  row : KI.R 3 w w0.heap.size (fun _ => True) (.slice (some ⟨gb, 0, none⟩) n cb) out
  bel : Below w0.heap.size w0 w
section
variable {w0 w : World} {C : Cl} {gO gC gP gb cb n : Nat} {out : List Int}
theorem Ps.lb (h : Ps w0 w C gO gC gP gb cb n out) : w0.heap.size ≤ gb := Kd.R_base h.row gb rfl
theorem Ps.lt (h : Ps w0 w C gO gC gP gb cb n out) : gb < w.heap.size := Kd.R_lt h.row gb rfl
theorem Ps.below {w1 : World} (h : Ps w0 w C gO gC gP gb cb n out) (hb : Below w.heap.size w w1) : Ps w0 w1 C gO gC gP gb cb n out :=
  ⟨blk_below h.kO hb, blk_below h.kC hb, blk_below h.kP hb, Kd.R_below h.row hb, below_then h.bel h.bel.size hb⟩
theorem Ps.put (h : Ps w0 w C gO gC gP gb cb n out) (i x : Int) : Ps w0 (w.setCell ⟨gb, i.toNat, none⟩ (.int .i64 x)) C gO gC gP gb cb n (out.set i.toNat x) ∧ w.grownBy (w.setCell ⟨gb, i.toNat, none⟩ (.int .i64 x)) (some gb) := by
  obtain ⟨hr, hg⟩ := Kd.R_putg h.row i x
  refine ⟨⟨blk_grown h.kO hg (Kd.R_ne h.row h.kO (by decide)), blk_grown h.kC hg (Kd.R_ne h.row h.kC (by decide)), blk_grown h.kP hg (Kd.R_ne h.row h.kP (by decide)), hr, h.bel.grown hg h.bel.size (fun k hk => by injection hk with hk; have := h.lb; omega)⟩, hg⟩
theorem grown_trans {w w1 w2 : World} {g : Option Nat} (h : w.grownBy w1 g) (k : w1.grownBy w2 g) : w.grownBy w2 g :=
  ⟨k.os.trans h.os, k.tape.trans h.tape, k.output.trans h.output, Nat.le_trans h.size k.size, fun i hi hne => (k.block i (Nat.lt_of_lt_of_le hi h.size) hne).trans (h.block i hi hne)⟩
end
def QPost (w0 w : World) (C : Cl) (gO gC gP gb cb n : Nat) (out : List Int) (e : Ending) (w' : World) : Prop :=
  e = .returned (.tuple #[]) ∧ Ps w0 w' C gO gC gP gb cb n out ∧ w.grownBy w' (some gb)
set_option maxRecDepth 100000 in
set_option maxHeartbeats 4000000 in
theorem part_leaf (w0 w : World) (C : Cl) (gO gC gP gb cb n : Nat) (out : List Int) (hS : Ps w0 w C gO gC gP gb cb n out) (A : Option Addr) (c base : Nat) (l : List Int) (hL : KI.R 3 w base (fun k => k ≠ gb) (.slice A l.length c) l) (lo hi : Int) (hlo : -10000 ≤ lo ∧ lo ≤ 10000) (hhi : -10000 ≤ hi ∧ hi ≤ 10000) (hx : l.length = 0 ∨ hi - lo = 1) (hn : n ≤ 1000) (hin : ∀ x ∈ l, 0 ≤ x ∧ x < (n : Int)) (hll : l.length ≤ 1000) :
    Calls Try.prog 68 #[.slice A l.length c, .int .i64 lo, .int .i64 hi, .pointer (some ⟨gO, 0, none⟩), .pointer (some ⟨gC, 0, none⟩), .pointer (some ⟨gP, 0, none⟩)] w (QPost w0 w C gO gC gP gb cb n (setA out lo l)) := by
  have HS := Aside0.mk hS
  have HL := Aside0.mk hL
  have HI := Aside0.mk hin
  have e1 : wrap64 (hi - lo) = hi - lo := wrap_id (by omega) (by omega)
  have q3 : ¬ l.length = 0 → hi - lo = 1 := fun h => hx.resolve_left h
  by_cases h0 : l.length = 0
  case pos =>
    have q0 : ((l.length : Int) == 0) = true := beq_iff_eq.mpr (by omega)
    have q1 : ((l.length : Int) = 0) = True := eq_true (by omega)
    clear hS hL hin q3 hx h0
    go_enter Try.func68, Try.ntmps68
    go_wp2
    go_loopg [29] (l.length) (fun kq vi w' => ∃ i : Nat, i + kq = l.length ∧ vi = .int .i64 i ∧ Aside0 (Ps w0 w' C gO gC gP gb cb n (setA out lo (l.take i))) ∧ Aside0 (w.grownBy w' (some gb)))
    case atStart => exact ⟨0, by omega, rfl, HS, ⟨World.grownBy.refl w _⟩⟩
    case round =>
      obtain ⟨i, hi_, rfl, HP, HG⟩ := hrel
      by_cases hlt : i < l.length
      · have hdec : decide (i < l.length) = true := decide_eq_true hlt
        have hL2 := Kd.R_grown HL.out HG.out (fun k hk he => hk (by injection he))
        obtain ⟨gl, capl, hvl, _⟩ := Kd.R_form HL.out (by omega)
        injection hvl with hv1 hv2 hv3
        subst hv1
        clear hv2 hv3 capl
        obtain ⟨kl, fl⟩ := R_at hL2 (i : Int) (by omega) (by omega)
        simp only [Int.toNat_natCast] at kl fl
        have hm := HI.out _ (rd_mem l (i : Int) (by omega) (by omega))
        have hs := setA_take out lo l i hlt
        obtain ⟨x, hx⟩ : ∃ x, x = rd l (i : Int) := ⟨_, rfl⟩
        rw [← hx] at kl hm hs
        obtain ⟨kr, fr⟩ := R_at HP.out.row x hm.1 hm.2
        have ko : _ = some (Value.slice (some ⟨gb, 0, none⟩) n cb) := (blk_cell HP.out.kO 0).trans rfl
        obtain ⟨hp, hg⟩ := HP.out.put x lo
        rw [← hs] at hp
        have HP2 := Aside0.mk hp
        have HG2 := Aside0.mk (grown_trans HG.out hg)
        have b0 : (x < 0) = False := eq_false (by omega)
        have b1 : (x < (n : Int)) = True := eq_true hm.2
        have b2 : (0 ≤ x) = True := eq_true hm.1
        clear hx hs hp hg hL2 hm
        go_wp2
        go_roundg (l.length - (i + 1))
        case measure => omega
        case rel => exact ⟨i + 1, by omega, by go_num, HP2, HG2⟩
      · have hdec : decide (i < l.length) = false := decide_eq_false hlt
        obtain rfl : i = l.length := by omega
        have HP2 := HP
        rw [List.take_length] at HP2
        go_wp2
        first | go_end0 | ((try simp only [Exit.inBlock, Exit.then]); refine bodyPost_ret (results_none rfl _ _ _) rfl ?_)
        exact ⟨by rfl, HP2.out, HG.out⟩
  case neg =>
    have q0 : ((l.length : Int) == 0) = false := beq_eq_false_iff_ne.mpr (by omega)
    have q1 : ((l.length : Int) = 0) = False := eq_false (by omega)
    have q4 : (hi - lo == 1) = true := beq_iff_eq.mpr (q3 h0)
    have q5 : (hi - lo = 1) = True := eq_true (q3 h0)
    clear hS hL hin q3 hx h0
    go_enter Try.func68, Try.ntmps68
    go_wp2
    clear q4 q5
    go_loopg [29] (l.length) (fun kq vi w' => ∃ i : Nat, i + kq = l.length ∧ vi = .int .i64 i ∧ Aside0 (Ps w0 w' C gO gC gP gb cb n (setA out lo (l.take i))) ∧ Aside0 (w.grownBy w' (some gb)))
    case atStart => exact ⟨0, by omega, rfl, HS, ⟨World.grownBy.refl w _⟩⟩
    case round =>
      obtain ⟨i, hi_, rfl, HP, HG⟩ := hrel
      by_cases hlt : i < l.length
      · have hdec : decide (i < l.length) = true := decide_eq_true hlt
        have hL2 := Kd.R_grown HL.out HG.out (fun k hk he => hk (by injection he))
        obtain ⟨gl, capl, hvl, _⟩ := Kd.R_form HL.out (by omega)
        injection hvl with hv1 hv2 hv3
        subst hv1
        clear hv2 hv3 capl
        obtain ⟨kl, fl⟩ := R_at hL2 (i : Int) (by omega) (by omega)
        simp only [Int.toNat_natCast] at kl fl
        have hm := HI.out _ (rd_mem l (i : Int) (by omega) (by omega))
        have hs := setA_take out lo l i hlt
        obtain ⟨x, hx⟩ : ∃ x, x = rd l (i : Int) := ⟨_, rfl⟩
        rw [← hx] at kl hm hs
        obtain ⟨kr, fr⟩ := R_at HP.out.row x hm.1 hm.2
        have ko : _ = some (Value.slice (some ⟨gb, 0, none⟩) n cb) := (blk_cell HP.out.kO 0).trans rfl
        obtain ⟨hp, hg⟩ := HP.out.put x lo
        rw [← hs] at hp
        have HP2 := Aside0.mk hp
        have HG2 := Aside0.mk (grown_trans HG.out hg)
        have b0 : (x < 0) = False := eq_false (by omega)
        have b1 : (x < (n : Int)) = True := eq_true hm.2
        have b2 : (0 ≤ x) = True := eq_true hm.1
        clear hx hs hp hg hL2 hm
        go_wp2
        go_roundg (l.length - (i + 1))
        case measure => omega
        case rel => exact ⟨i + 1, by omega, by go_num, HP2, HG2⟩
      · have hdec : decide (i < l.length) = false := decide_eq_false hlt
        obtain rfl : i = l.length := by omega
        have HP2 := HP
        rw [List.take_length] at HP2
        go_wp2
        first | go_end0 | ((try simp only [Exit.inBlock, Exit.then]); refine bodyPost_ret (results_none rfl _ _ _) rfl ?_)
        exact ⟨by rfl, HP2.out, HG.out⟩
set_option maxRecDepth 100000 in
set_option maxHeartbeats 8000000 in
theorem part_on (w0 w : World) (C : Cl) (gO gC gP gb cb n : Nat) (out out1 out2 : List Int) (hS : Ps w0 w C gO gC gP gb cb n out) (hI : C.In w0) (A : Option Addr) (c base : Nat) (l : List Int) (hL : KI.R 3 w base (fun k => k ≠ gb) (.slice A l.length c) l) (lo hi mid : Int) (hlo : -10000 ≤ lo ∧ lo ≤ 10000) (hhi : -10000 ≤ hi ∧ hi ≤ 10000) (hx : ¬ (l.length = 0 ∨ hi - lo = 1)) (hn : n ≤ 1000) (hin : ∀ x ∈ l, 0 ≤ x ∧ x < (n : Int)) (hll : l.length ≤ 1000)
    (hmid : mid = lo + Int.tdiv (hi - lo) 2) (hmm : -10000 ≤ mid ∧ mid ≤ 10000) (m0 m1 : List Bool) (hlab : C.lab mid = some (m0, m1)) (hm1 : m1.length = n)
    (IH1 : ∀ W As cs base, Ps w0 W C gO gC gP gb cb n out → KI.R 3 W base (fun k => k ≠ gb) (.slice As (l.filter fun i => rdOf false m1 i).length cs) (l.filter fun i => rdOf false m1 i) → Calls Try.prog 68 #[.slice As (l.filter fun i => rdOf false m1 i).length cs, .int .i64 mid, .int .i64 hi, .pointer (some ⟨gO, 0, none⟩), .pointer (some ⟨gC, 0, none⟩), .pointer (some ⟨gP, 0, none⟩)] W (QPost w0 W C gO gC gP gb cb n out1))
    (IH2 : ∀ W As cs base, Ps w0 W C gO gC gP gb cb n out1 → KI.R 3 W base (fun k => k ≠ gb) (.slice As (l.filter fun i => !rdOf false m1 i).length cs) (l.filter fun i => !rdOf false m1 i) → Calls Try.prog 68 #[.slice As (l.filter fun i => !rdOf false m1 i).length cs, .int .i64 lo, .int .i64 mid, .pointer (some ⟨gO, 0, none⟩), .pointer (some ⟨gC, 0, none⟩), .pointer (some ⟨gP, 0, none⟩)] W (QPost w0 W C gO gC gP gb cb n out2)) :
    Calls Try.prog 68 #[.slice A l.length c, .int .i64 lo, .int .i64 hi, .pointer (some ⟨gO, 0, none⟩), .pointer (some ⟨gC, 0, none⟩), .pointer (some ⟨gP, 0, none⟩)] w (QPost w0 w C gO gC gP gb cb n out2) := by
  have HS := Aside0.mk hS
  have HL := Aside0.mk hL
  have HI := Aside0.mk hin
  have HC := Aside0.mk hI
  have I1 := Aside0.mk IH1
  have I2 := Aside0.mk IH2
  have HM := Aside0.mk hlab
  have HM1 := Aside0.mk hm1
  have h0 : ¬ l.length = 0 := fun h => hx (.inl h)
  have h1 : ¬ hi - lo = 1 := fun h => hx (.inr h)
  have e1 : wrap64 (hi - lo) = hi - lo := wrap_id (by omega) (by omega)
  have q0 : ((l.length : Int) == 0) = false := beq_eq_false_iff_ne.mpr (by omega)
  have q1 : ((l.length : Int) = 0) = False := eq_false (by omega)
  have q4 : (hi - lo == 1) = false := beq_eq_false_iff_ne.mpr h1
  have q5 : (hi - lo = 1) = False := eq_false h1
  have e2 : wrap64 (Int.tdiv (hi - lo) 2) = Int.tdiv (hi - lo) 2 := by
    have : Int.tdiv (hi - lo) 2 = mid - lo := by omega
    rw [this]
    exact wrap_id (by omega) (by omega)
  have e3 : wrap64 (lo + Int.tdiv (hi - lo) 2) = mid := by rw [← hmid]; exact wrap_id (by omega) (by omega)
  have kc : ∀ i : Nat, _ := fun i => blk_cell hS.kC i
  have k0 := (kc 0).trans rfl
  have k1 := (kc 1).trans rfl
  have k2 := (kc 2).trans rfl
  have k3 := (kc 3).trans rfl
  have k4 := (kc 4).trans rfl
  have k5 := (kc 5).trans rfl
  clear hS hI hL hin IH1 IH2 hlab hm1 h0 h1 hx hmid kc
  go_enter Try.func68, Try.ntmps68
  go_wp2_with fail
  refine (wax_Cloth_labels.calls C.W C.H C.A2 C.c2 C.l2 C.A3 C.c3 C.l3 C.A4 C.c4 C.l4 C.A5 C.c5 C.l5 mid m0 m1 w (HC.out.below HS.out.bel).r2 HC.out.h2 (HC.out.below HS.out.bel).r3 HC.out.h3 (HC.out.below HS.out.bel).r4 HC.out.h4 (HC.out.below HS.out.bel).r5 HC.out.h5 HM.out).mono ?_
  rintro e w1 ⟨v0, v1, rfl, hv0, hv1, hb1⟩
  obtain ⟨Am, cm, rfl⟩ := Kv.R_slice hv1
  have HB1 := Aside0.mk hb1
  have HS1 := Aside0.mk (HS.out.below hb1)
  have HL1 := Aside0.mk (Kd.R_below HL.out hb1)
  have HV1 := Aside0.mk (Kv.R_reads' hv1).2.2
  have HG1 : Aside0 (gb < w1.heap.size) := ⟨HS1.out.lt⟩
  have hml : Aside0 ((m1.length : Int) = (n : Int)) := ⟨by have := HM1.out; omega⟩
  clear hv0 hv1 hb1 k0 k1 k2 k3 k4 k5 q0 q1 q4 q5 e1 e2
  go_wp2
  clear e3
  go_loopg [14, 15, 52] (l.length) (fun kq vs vn vi w' => ∃ (i : Nat) (As : Option Addr) (cs : Nat) (An : Option Addr) (cn : Nat), i + kq = l.length ∧ vi = .int .i64 i ∧ vs = .slice As ((l.take i).filter fun i => rdOf false m1 i).length cs ∧ vn = .slice An ((l.take i).filter fun i => !rdOf false m1 i).length cn ∧ Aside0 (KI.R 3 w' w1.heap.size (fun k => True ∧ some k ≠ (Value.slice An ((l.take i).filter fun i => !rdOf false m1 i).length cn).ownBlock) (.slice As ((l.take i).filter fun i => rdOf false m1 i).length cs) ((l.take i).filter fun i => rdOf false m1 i)) ∧ Aside0 (KI.R 3 w' w1.heap.size (fun k => True ∧ some k ≠ (Value.slice As ((l.take i).filter fun i => rdOf false m1 i).length cs).ownBlock) (.slice An ((l.take i).filter fun i => !rdOf false m1 i).length cn) ((l.take i).filter fun i => !rdOf false m1 i)) ∧ Aside0 (Below w1.heap.size w1 w'))
  case atStart => exact ⟨0, none, 0, none, 0, by omega, rfl, rfl, rfl, ⟨Kd.R_nil _ _ _ _ _⟩, ⟨Kd.R_nil _ _ _ _ _⟩, ⟨Below.refl _ _⟩⟩
  case round =>
    obtain ⟨i, As, cs, An, cn, hi_, rfl, rfl, rfl, HY, HN, HW⟩ := hrel
    by_cases hlt : i < l.length
    · have hdec : decide (i < l.length) = true := decide_eq_true hlt
      have hL2 := Kd.R_below HL1.out HW.out
      obtain ⟨gl, capl, hvl, _⟩ := Kd.R_form HL1.out (by omega)
      injection hvl with hv1 hv2 hv3
      subst hv1
      clear hv2 hv3 capl
      obtain ⟨kl, fl⟩ := R_at hL2 (i : Int) (by omega) (by omega)
      simp only [Int.toNat_natCast] at kl fl
      have hm := HI.out _ (rd_mem l (i : Int) (by omega) (by omega))
      have ht : l.take (i + 1) = l.take i ++ [rd l (i : Int)] := by
        have e : rd l (i : Int) = l[i] := by simp [rd, hlt]
        rw [e, List.take_succ_eq_append_getElem hlt]
      have hlen : Aside0 (((l.take i).filter fun i => rdOf false m1 i).length ≤ 1000 ∧ ((l.take i).filter fun i => !rdOf false m1 i).length ≤ 1000) := ⟨by
        have a := List.length_filter_le (fun i => rdOf false m1 i) (l.take i)
        have b := List.length_filter_le (fun i => !rdOf false m1 i) (l.take i)
        rw [List.length_take] at a b
        omega⟩
      obtain ⟨x, hx⟩ : ∃ x, x = rd l (i : Int) := ⟨_, rfl⟩
      rw [← hx] at kl hm ht
      have hx1 : x < (m1.length : Int) := by rw [hml.out]; exact hm.2
      obtain ⟨ad, ea, kb⟩ := Kd.at_bool (Kd.C_below HV1.out HW.out) x hm.1 hx1
      subst ea
      have b0 : (x < 0) = False := eq_false (by omega)
      have b1 : (x < (m1.length : Int)) = True := eq_true hx1
      have b2 : (0 ≤ x) = True := eq_true hm.1
      clear hx hL2 hm hx1
      cases hq : rdOf false m1 x with
      | true =>
        have hY : (l.take i).filter (fun i => rdOf false m1 i) ++ [x] = (l.take (i + 1)).filter (fun i => rdOf false m1 i) := by rw [ht, List.filter_append]; simp [hq]
        have hN : (l.take i).filter (fun i => !rdOf false m1 i) = (l.take (i + 1)).filter (fun i => !rdOf false m1 i) := by rw [ht, List.filter_append]; simp [hq]
        rw [hq] at kb
        have HE := Aside0.mk (And.intro hY hN)
        clear ht hY hN hq
        go_wp2_with ((with_reducible refine gate_dst (N := 63) rfl ?_); refine mark_ ?_)
        refine ⟨?_⟩
        refine Kd.R_append KI (w0 := w1) (W := wr) w1.heap.size rfl (.tmp 60) (.tmp 62) 40 3 (.int .i64 0) 8 rfl Try.underlying40 info3 rfl (by decide) (by decide) (.slice As ((l.take i).filter fun i => rdOf false m1 i).length cs) ((l.take i).filter fun i => rdOf false m1 i) x [.int .i64 x] (fun k => True ∧ some k ≠ (Value.slice An ((l.take i).filter fun i => !rdOf false m1 i).length cn).ownBlock) (fun _ => False) rfl rfl rfl (fun k hk => hk.elim) (fun k hk => ⟨trivial, Kd.fresh' (Kd.R_lt HN.out) k hk⟩) HY.out HW.out HW.out.size (by have := hlen.out; omega) ?_
        intro v9 w7 hR7 hB7 hg7 hat7
        have hN7 := Kd.R_after (ok := fun _ => True) HN.out hg7 hat7
        rw [HE.out.1] at hR7
        obtain ⟨A7, c7, rfl, _⟩ := Kd.R_reads hR7
        rw [HE.out.2] at hR7 hN7
        have HY7 := Aside0.mk hR7
        have HN7 := Aside0.mk hN7
        have HW7 := Aside0.mk hB7
        clear hR7 hN7 hB7 hg7 hat7 kl fl kb b0 b1 b2
        go_wp2
        go_roundg (l.length - (i + 1))
        case measure => omega
        case rel => exact ⟨i + 1, _, _, _, _, by omega, by go_num, rfl, by rw [← HE.out.2], HY7, HN7, HW7⟩
      | false =>
        have hY : (l.take i).filter (fun i => rdOf false m1 i) = (l.take (i + 1)).filter (fun i => rdOf false m1 i) := by rw [ht, List.filter_append]; simp [hq]
        have hN : (l.take i).filter (fun i => !rdOf false m1 i) ++ [x] = (l.take (i + 1)).filter (fun i => !rdOf false m1 i) := by rw [ht, List.filter_append]; simp [hq]
        rw [hq] at kb
        have HE := Aside0.mk (And.intro hY hN)
        clear ht hY hN hq
        go_wp2_with ((with_reducible refine gate_dst (N := 67) rfl ?_); refine mark_ ?_)
        refine ⟨?_⟩
        refine Kd.R_append KI (w0 := w1) (W := wr) w1.heap.size rfl (.tmp 64) (.tmp 66) 40 3 (.int .i64 0) 8 rfl Try.underlying40 info3 rfl (by decide) (by decide) (.slice An ((l.take i).filter fun i => !rdOf false m1 i).length cn) ((l.take i).filter fun i => !rdOf false m1 i) x [.int .i64 x] (fun k => True ∧ some k ≠ (Value.slice As ((l.take i).filter fun i => rdOf false m1 i).length cs).ownBlock) (fun _ => False) rfl rfl rfl (fun k hk => hk.elim) (fun k hk => ⟨trivial, Kd.fresh' (Kd.R_lt HY.out) k hk⟩) HN.out HW.out HW.out.size (by have := hlen.out; omega) ?_
        intro v9 w7 hR7 hB7 hg7 hat7
        have hN7 := Kd.R_after (ok := fun _ => True) HY.out hg7 hat7
        rw [HE.out.2] at hR7
        obtain ⟨A7, c7, rfl, _⟩ := Kd.R_reads hR7
        rw [HE.out.1] at hR7 hN7
        have HN7 := Aside0.mk hR7
        have HY7 := Aside0.mk hN7
        have HW7 := Aside0.mk hB7
        clear hR7 hN7 hB7 hg7 hat7 kl fl kb b0 b1 b2
        go_wp2
        go_roundg (l.length - (i + 1))
        case measure => omega
        case rel => exact ⟨i + 1, _, _, _, _, by omega, by go_num, by rw [← HE.out.1], rfl, HY7, HN7, HW7⟩
    · have hdec : decide (i < l.length) = false := decide_eq_false hlt
      obtain rfl : i = l.length := by omega
      simp only [List.take_length] at HY HN ⊢
      have HSW := Aside0.mk (HS1.out.below HW.out)
      have kp : _ = some (fnQ gO gC gP) := (blk_cell HSW.out.kP 0).trans rfl
      unfold fnQ at kp
      have hY : Aside0 (KI.R 3 wr w1.heap.size (fun k => k ≠ gb) (.slice As (l.filter fun i => rdOf false m1 i).length cs) (l.filter fun i => rdOf false m1 i)) := ⟨Kd.R_mono (Kd.R_bound HY.out) (fun k hk => by have := hk.2.1; have := HG1.out; omega)⟩
      have hN : Aside0 (KI.R 3 wr w1.heap.size (fun k => k ≠ gb) (.slice An (l.filter fun i => !rdOf false m1 i).length cn) (l.filter fun i => !rdOf false m1 i)) := ⟨Kd.R_mono (Kd.R_bound HN.out) (fun k hk => by have := hk.2.1; have := HG1.out; omega)⟩
      clear HY HN
      go_wp2_with fail
      refine (I1.out wr As cs w1.heap.size HSW.out hY.out).mono ?_
      rintro e w3 ⟨rfl, hS3, hg3⟩
      have HS3 := Aside0.mk hS3
      have HG3 := Aside0.mk hg3
      have HN3 := Aside0.mk (Kd.R_grown hN.out hg3 (fun k hk he => hk (by injection he)))
      have kp3 : _ = some (fnQ gO gC gP) := (blk_cell hS3.kP 0).trans rfl
      unfold fnQ at kp3
      clear hS3 hg3 kp
      go_wp2_with fail
      refine (I2.out w3 An cn w1.heap.size HS3.out HN3.out).mono ?_
      rintro e w4 ⟨rfl, hS4, hg4⟩
      have HS4 := Aside0.mk hS4
      have HG4 := Aside0.mk (grown_trans (grown_trans (grown_of_below HB1.out (some gb)) (grown_trans (grown_of_below HW.out (some gb)) HG3.out)) hg4)
      clear hS4 hg4 kp3
      go_wp2
      first | go_end0 | ((try simp only [Exit.inBlock, Exit.then]); refine bodyPost_ret (results_none rfl _ _ _) rfl ?_)
      exact ⟨by rfl, HS4.out, HG4.out⟩
theorem part_calls (w0 : World) (C : Cl) (gO gC gP gb cb n : Nat) (hI : C.In w0) (hn : n ≤ 1000) : ∀ (k : Nat) (l : List Int) (lo hi : Int) (out r : List Int), partP C.lab k l lo hi out = some r → -10000 ≤ lo → lo < hi → hi ≤ 10000 → (∀ x ∈ l, 0 ≤ x ∧ x < (n : Int)) → l.length ≤ 1000 →
    ∀ (w : World) (A : Option Addr) (c base : Nat), Ps w0 w C gO gC gP gb cb n out → KI.R 3 w base (fun k => k ≠ gb) (.slice A l.length c) l →
      Calls Try.prog 68 #[.slice A l.length c, .int .i64 lo, .int .i64 hi, .pointer (some ⟨gO, 0, none⟩), .pointer (some ⟨gC, 0, none⟩), .pointer (some ⟨gP, 0, none⟩)] w (QPost w0 w C gO gC gP gb cb n r)
  | 0, l, lo, hi, out, r, h, _, _, _, _, _ => by simp [partP] at h
  | k + 1, l, lo, hi, out, r, h, h1, h2, h3, hin, hll => by
    intro w A c base hS hL
    simp only [partP] at h
    split at h
    · rename_i hx
      injection h with h
      subst h
      exact part_leaf w0 w C gO gC gP gb cb n out hS A c base l hL lo hi ⟨by omega, by omega⟩ ⟨by omega, by omega⟩ hx hn hin hll
    · rename_i hx
      obtain ⟨m, hm, h⟩ := Option.bind_eq_some_iff.1 h
      split at h
      · rename_i hml
        obtain ⟨o, ho, h⟩ := Option.bind_eq_some_iff.1 h
        have hon := (Kd.R_reads' hS.row).1
        have hd : 2 ≤ hi - lo := by
          rcases Int.lt_or_le (hi - lo) 2 with q | q
          · exact absurd (show l.length = 0 ∨ hi - lo = 1 from .inr (by omega)) hx
          · exact q
        have hmid : Int.tdiv (hi - lo) 2 = (hi - lo) / 2 := Int.tdiv_eq_ediv_of_nonneg (by omega)
        have a := List.length_filter_le (fun i => rdOf false m.2 i) l
        have b := List.length_filter_le (fun i => !rdOf false m.2 i) l
        exact part_on w0 w C gO gC gP gb cb n out o r hS hI A c base l hL lo hi (lo + Int.tdiv (hi - lo) 2) ⟨by omega, by omega⟩ ⟨by omega, by omega⟩ hx hn hin hll rfl (by rw [hmid]; omega) m.1 m.2 hm (by omega)
          (fun W As cs base' hS' hL' => part_calls w0 C gO gC gP gb cb n hI hn k _ _ _ _ _ ho (by rw [hmid]; omega) (by rw [hmid]; omega) (by omega) (fun x hx => hin x (List.mem_filter.1 hx).1) (by omega) W As cs base' hS' hL')
          (fun W As cs base' hS' hL' => part_calls w0 C gO gC gP gb cb n hI hn k _ _ _ _ _ h (by omega) (by rw [hmid]; omega) (by rw [hmid]; omega) (fun x hx => hin x (List.mem_filter.1 hx).1) (by omega) W As cs base' hS' hL')
      · cases h
def cellsL (i : Nat) : List Int := (List.range i).map fun (j : Nat) => (j : Int)
theorem cellsL_len (i : Nat) : (cellsL i).length = i := by simp [cellsL]
theorem cellsL_succ (i : Nat) : cellsL i ++ [(i : Int)] = cellsL (i + 1) := by unfold cellsL; rw [List.range_succ, List.map_append]; rfl
def PrP (w : World) (r : List Int) (b : Int) (e : Ending) (w' : World) : Prop := ∃ v : Value, e = .returned (.tuple #[v, .int .i64 b]) ∧ KI.R 3 w' w.heap.size (fun _ => True) v r ∧ Below w.heap.size w w'
set_option maxRecDepth 100000 in
set_option maxHeartbeats 8000000 in
theorem prices_err (C : Cl) (w : World) (hI : C.In w) (hv : cvB C.W C.H C.l2 C.l3 C.l4 C.l5 = false) :
    Calls Try.prog 44 #[.agg #[.int .i64 C.W, .int .i64 C.H, .slice C.A2 C.l2.length C.c2, .slice C.A3 C.l3.length C.c3, .slice C.A4 C.l4.length C.c4, .slice C.A5 C.l5.length C.c5]] w (PrP w [] 2) := by
  have HI := Aside0.mk hI
  have HV := Aside0.mk hv
  obtain ⟨W0, hW0⟩ : ∃ W, W = w.alloc (.cells #[.int .i64 C.W, .int .i64 C.H, .slice C.A2 C.l2.length C.c2, .slice C.A3 C.l3.length C.c3, .slice C.A4 C.l4.length C.c4, .slice C.A5 C.l5.length C.c5] 63) := ⟨_, rfl⟩
  have HB0 := Aside0.mk (show Below w.heap.size w W0 by rw [hW0]; exact below_alloc (Below.refl _ _) _)
  clear hI hv
  go_enter Try.func44, Try.ntmps44
  go_wp2_with fail
  rw [← hW0]
  have HI0 := Aside0.mk (HI.out.below HB0.out)
  refine (wax_Cloth_valid.calls C.W C.H C.A2 C.c2 C.l2 C.A3 C.c3 C.l3 C.A4 C.c4 C.l4 C.A5 C.c5 C.l5 false W0 HI0.out.r2 HI0.out.h2 HI0.out.r3 HI0.out.h3 HI0.out.r4 HI0.out.h4 HI0.out.r5 HI0.out.h5 (by unfold wax_Cloth_valid.f; rw [HV.out])).mono ?_
  rintro e w2 ⟨rfl, hb2⟩
  have HB2 := Aside0.mk (below_then HB0.out HB0.out.size hb2)
  clear hb2
  go_wp2
  go_ret2
  exact ⟨_, rfl, Kd.R_nil _ _ _ _ _, HB2.out⟩
set_option maxRecDepth 100000 in
set_option maxHeartbeats 8000000 in
theorem prices_ok (C : Cl) (w : World) (hI : C.In w) (hv : cvB C.W C.H C.l2 C.l3 C.l4 C.l5 = true) (n : Nat) (hn : (n : Int) = C.W * C.H) (h1 : 1 ≤ n) (h36 : n ≤ 36) (k : Nat) (r : List Int) (hr : partP C.lab k (cellsL n) (-5001) 5001 (List.replicate n 0) = some r) :
    Calls Try.prog 44 #[.agg #[.int .i64 C.W, .int .i64 C.H, .slice C.A2 C.l2.length C.c2, .slice C.A3 C.l3.length C.c3, .slice C.A4 C.l4.length C.c4, .slice C.A5 C.l5.length C.c5]] w (PrP w r 0) := by
  have HI := Aside0.mk hI
  have HV := Aside0.mk hv
  have HR := Aside0.mk hr
  have e0 : wrap64 (C.W * C.H) = (n : Int) := by rw [← hn]; exact wrap_id (by omega) (by omega)
  obtain ⟨W0, hW0⟩ : ∃ W, W = w.alloc (.cells #[.int .i64 C.W, .int .i64 C.H, .slice C.A2 C.l2.length C.c2, .slice C.A3 C.l3.length C.c3, .slice C.A4 C.l4.length C.c4, .slice C.A5 C.l5.length C.c5] 63) := ⟨_, rfl⟩
  have HB0 := Aside0.mk (show Below w.heap.size w W0 by rw [hW0]; exact below_alloc (Below.refl _ _) _)
  have HX0 := Aside0.mk (show W0.heap[w.heap.size]? = some (.cells #[.int .i64 C.W, .int .i64 C.H, .slice C.A2 C.l2.length C.c2, .slice C.A3 C.l3.length C.c3, .slice C.A4 C.l4.length C.c4, .slice C.A5 C.l5.length C.c5] 63 (0, 0)) by rw [hW0]; exact blk_new _ _)
  clear hI hv hr hn
  go_enter Try.func44, Try.ntmps44
  go_wp2_with fail
  rw [← hW0]
  have HI0 := Aside0.mk (HI.out.below HB0.out)
  refine (wax_Cloth_valid.calls C.W C.H C.A2 C.c2 C.l2 C.A3 C.c3 C.l3 C.A4 C.c4 C.l4 C.A5 C.c5 C.l5 true W0 HI0.out.r2 HI0.out.h2 HI0.out.r3 HI0.out.h3 HI0.out.r4 HI0.out.h4 HI0.out.r5 HI0.out.h5 (by unfold wax_Cloth_valid.f; rw [HV.out])).mono ?_
  rintro e w2 ⟨rfl, hb2⟩
  have HB2 := Aside0.mk (below_then HB0.out HB0.out.size hb2)
  have hbx2 := blk_below HX0.out hb2
  have HX2 := Aside0.mk hbx2
  have j0 := (blk_cell hbx2 0).trans rfl
  have j1 := (blk_cell hbx2 1).trans rfl
  clear hb2 hbx2
  have HS2 : Aside0 (w.heap.size ≤ w2.heap.size) := ⟨HB2.out.size⟩
  have HBr : Aside0 (Below w.heap.size w w2) := HB2
  go_wp2_with ((with_reducible refine gate_dst (N := 16) rfl ?_); refine mark_ ?_)
  refine ⟨?_⟩
  refine Kd.R_make (Kd.int .i64) (w0 := w2) w2.heap.size 3 rfl (N := 16) rfl 40 _ _ rfl (n : Int) (congrArg (Value.int .i64) e0) (congrArg (Value.int .i64) e0) Try.underlying40 (.int .i64 0) 8 info3 rfl (by decide) (by omega) 0 (ok := fun _ => True) (okp := fun _ => False) rfl (fun _ h => trivial) trivial (by omega) (by rw [Int.toNat_natCast]; omega) (Below.refl _ _) (Nat.le_refl _) ?_
  intro v3 w3 hR3 hB3 hg3 hne3
  obtain ⟨gb, cb, rfl, hgb⟩ := made_slice hR3 hne3
  rw [List.length_replicate, Int.toNat_natCast] at hR3
  rw [List.length_replicate, Int.toNat_natCast]
  have R3 := Aside0.mk hR3
  have B3 := Aside0.mk hB3
  have G3 := Aside0.mk hgb
  have X3 := Aside0.mk (blk_below HX2.out hB3)
  clear hR3 hB3 hg3 hne3 hgb j0 j1
  go_wp2
  obtain ⟨w4, hw4⟩ : ∃ W, W = w3.alloc (.cells #[.slice (some ⟨gb, 0, none⟩) n cb] 40) := ⟨_, rfl⟩
  have hb4 : Below w3.heap.size w3 w4 := by rw [hw4]; exact below_alloc (Below.refl _ _) _
  have K4 := Aside0.mk (show w4.heap[w3.heap.size]? = some (.cells #[.slice (some ⟨gb, 0, none⟩) n cb] 40 (0, 0)) by rw [hw4]; exact blk_new _ _)
  have R4 := Aside0.mk (Kd.R_below R3.out hb4)
  have X4 := Aside0.mk (blk_below X3.out hb4)
  have B4 := Aside0.mk (below_then B3.out B3.out.size hb4)
  have S4 := Aside0.mk hb4.size
  rw [← hw4]
  clear hw4 hb4
  go_loopg [5, 19] n (fun kq va vi w' => ∃ (i : Nat) (Aa : Option Addr) (ca : Nat), i + kq = n ∧ vi = .int .i64 i ∧ va = .slice Aa (cellsL i).length ca ∧ Aside0 (KI.R 3 w' w4.heap.size (fun _ => True) (.slice Aa (cellsL i).length ca) (cellsL i)) ∧ Aside0 (Below w4.heap.size w4 w'))
  case atStart => exact ⟨0, none, 0, by omega, rfl, rfl, ⟨Kd.R_nil _ _ _ _ _⟩, ⟨Below.refl _ _⟩⟩
  case round =>
    obtain ⟨i, Aa, ca, hi_, rfl, rfl, HO, HW⟩ := hrel
    by_cases hlt : i < n
    · have hdec : decide (i < n) = true := decide_eq_true hlt
      have hsucc : Aside0 (cellsL i ++ [(i : Int)] = cellsL (i + 1)) := ⟨cellsL_succ i⟩
      go_wp2_with ((with_reducible refine gate_dst (N := 25) rfl ?_); refine mark_ ?_)
      refine ⟨?_⟩
      refine Kd.R_append KI (w0 := w4) (W := wr) w4.heap.size rfl (.tmp 22) (.tmp 24) 40 3 (.int .i64 0) 8 rfl Try.underlying40 info3 rfl (by decide) (by decide) (.slice Aa (cellsL i).length ca) (cellsL i) (i : Int) [.int .i64 i] (fun _ => True) (fun _ => False) rfl rfl rfl (fun k hk => hk.elim) (fun k hk => trivial) HO.out HW.out HW.out.size (by rw [cellsL_len]; omega) ?_
      intro v9 w7 hR7 hB7 hg7 hat7
      rw [hsucc.out] at hR7
      obtain ⟨A7, c7, rfl, _⟩ := Kd.R_reads hR7
      have HO7 := Aside0.mk hR7
      have HW7 := Aside0.mk hB7
      clear hR7 hB7 hg7 hat7
      go_wp2
      go_roundg (n - (i + 1))
      case measure => omega
      case rel => exact ⟨i + 1, _, _, by omega, by go_num, rfl, HO7, HW7⟩
    · have hdec : decide (i < n) = false := decide_eq_false hlt
      obtain rfl : i = n := by omega
      obtain ⟨W6, hW6⟩ : ∃ W, W = wr.alloc (.cells #[.func (.func 68) #[] #[.pointer (some ⟨w3.heap.size, 0, none⟩), .pointer (some ⟨w.heap.size, 0, none⟩), .pointer (some ⟨wr.heap.size, 0, none⟩)]] 108) := ⟨_, rfl⟩
      have hB6 : Below wr.heap.size wr W6 := by rw [hW6]; exact below_alloc (Below.refl _ _) _
      have KP6 := Aside0.mk (show W6.heap[wr.heap.size]? = some (.cells #[fnQ w3.heap.size w.heap.size wr.heap.size] 108 (0, 0)) by rw [hW6]; exact blk_new _ _)
      have HP := Aside0.mk (show Ps w2 W6 C w3.heap.size w.heap.size wr.heap.size gb cb i (List.replicate i 0) from ⟨blk_below (blk_below K4.out HW.out) hB6, blk_below (blk_below X4.out HW.out) hB6, KP6.out, Kd.R_below (Kd.R_below R4.out HW.out) hB6, below_then (below_then B4.out B4.out.size HW.out) (Nat.le_trans B4.out.size HW.out.size) hB6⟩)
      have HO6 := Aside0.mk (Kd.R_mono (ok' := fun k => k ≠ gb) (Kd.R_bound (Kd.R_below HO.out hB6)) (fun k hk => by have := hk.2.1; have := G3.out; have := S4.out; omega))
      clear hB6
      go_wp2_with fail
      rw [← hW6]
      clear hW6
      refine (part_calls w2 C w3.heap.size w.heap.size wr.heap.size gb cb i (HI.out.below HBr.out) (by omega) k (cellsL i) (-5001) 5001 (List.replicate i 0) r HR.out (by omega) (by omega) (by omega) (fun x hx => ?_) (by rw [cellsL_len]; omega) W6 Aa ca w4.heap.size HP.out HO6.out).mono ?_
      · obtain ⟨j, hj, rfl⟩ := List.mem_map.1 hx
        have := List.mem_range.1 hj
        omega
      rintro e w8 ⟨rfl, hS8, hg8⟩
      have HS8 := Aside0.mk hS8
      have y2 := (blk_cell hS8.kO 0).trans rfl
      clear hS8 hg8
      go_wp2
      go_ret2
      exact ⟨_, by rfl, Kd.R_lower HS8.out.row HBr.out.size, below_then HBr.out HBr.out.size HS8.out.bel⟩
theorem cvB_n {W H : Int} {l2 l3 l4 l5 : List Int} (h : cvB W H l2 l3 l4 l5 = true) : 1 ≤ W * H ∧ W * H ≤ 36 := by
  unfold cvB at h
  simp only [Bool.and_eq_true, decide_eq_true_eq] at h
  obtain ⟨⟨hw, hh⟩, _⟩ := h
  have h1 : W = 1 ∨ W = 2 ∨ W = 3 ∨ W = 4 ∨ W = 5 ∨ W = 6 := by omega
  rcases h1 with h1 | h1 | h1 | h1 | h1 | h1 <;> rw [h1] <;> omega
end Go.Proofs.Ytbamanjedfccpaa.HTab
namespace Go.Proofs.Ytbamanjedfccpaa.X
open Go.RowKit Go.Proofs.YtbamanjedfccpaaW.PrintWords Go.Proofs.YtbamanjedfccpaaW.PrintLast Go.Proofs.YtbamanjedfccpaaW.PrintMore Go.Proofs.Ytbamanjedfccpaa.HTab
def wax_Prices.f (W H : Int) (l2 l3 l4 l5 : List Int) : Option (List Int × Int) :=
  if cvB W H l2 l3 l4 l5 = true then (partP (wax_Cloth_labels.f W H l2 l3 l4 l5) 20 (cellsL (W * H).toNat) (-5001) 5001 (List.replicate (W * H).toNat 0)).map fun r => (r, 0) else some ([], 2)
theorem wax_Prices.calls (a0_0 : Int) (a0_1 : Int) (A0_2 : Option Addr) (c0_2 : Nat) (l0_2 : List Int) (A0_3 : Option Addr) (c0_3 : Nat) (l0_3 : List Int) (A0_4 : Option Addr) (c0_4 : Nat) (l0_4 : List Int) (A0_5 : Option Addr) (c0_5 : Nat) (l0_5 : List Int) (r1 : List Int) (r2 : Int) (w : World) (hr0_2 : Kd.C (Kd.int .i64) w A0_2 l0_2.length l0_2) (hc0_2 : l0_2.length ≤ c0_2) (hr0_3 : Kd.C (Kd.int .i64) w A0_3 l0_3.length l0_3) (hc0_3 : l0_3.length ≤ c0_3) (hr0_4 : Kd.C (Kd.int .i64) w A0_4 l0_4.length l0_4) (hc0_4 : l0_4.length ≤ c0_4) (hr0_5 : Kd.C (Kd.int .i64) w A0_5 l0_5.length l0_5) (hc0_5 : l0_5.length ≤ c0_5) (h : wax_Prices.f a0_0 a0_1 l0_2 l0_3 l0_4 l0_5 = some (r1, r2)) :
    Calls Try.prog 44 #[.agg #[.int .i64 a0_0, .int .i64 a0_1, .slice A0_2 l0_2.length c0_2, .slice A0_3 l0_3.length c0_3, .slice A0_4 l0_4.length c0_4, .slice A0_5 l0_5.length c0_5]] w fun e w' => ∃ v1_ : Value, e = .returned (.tuple #[v1_, .int .i64 r2]) ∧ Kd.R (Kd.int .i64) 3 w' w.heap.size (fun _ => True) v1_ r1 ∧ Below w.heap.size w w' := by
  have hI : Cl.In ⟨a0_0, a0_1, A0_2, c0_2, l0_2, A0_3, c0_3, l0_3, A0_4, c0_4, l0_4, A0_5, c0_5, l0_5⟩ w := ⟨hr0_2, hc0_2, hr0_3, hc0_3, hr0_4, hc0_4, hr0_5, hc0_5⟩
  have e : Cl.lab ⟨a0_0, a0_1, A0_2, c0_2, l0_2, A0_3, c0_3, l0_3, A0_4, c0_4, l0_4, A0_5, c0_5, l0_5⟩ = wax_Cloth_labels.f a0_0 a0_1 l0_2 l0_3 l0_4 l0_5 := rfl
  unfold wax_Prices.f at h
  rw [← e] at h
  clear e
  obtain ⟨C, hC⟩ : ∃ C : Cl, C = ⟨a0_0, a0_1, A0_2, c0_2, l0_2, A0_3, c0_3, l0_3, A0_4, c0_4, l0_4, A0_5, c0_5, l0_5⟩ := ⟨_, rfl⟩
  rw [← hC] at hI h
  obtain rfl : a0_0 = C.W := by rw [hC]
  obtain rfl : a0_1 = C.H := by rw [hC]
  obtain rfl : A0_2 = C.A2 := by rw [hC]
  obtain rfl : c0_2 = C.c2 := by rw [hC]
  obtain rfl : l0_2 = C.l2 := by rw [hC]
  obtain rfl : A0_3 = C.A3 := by rw [hC]
  obtain rfl : c0_3 = C.c3 := by rw [hC]
  obtain rfl : l0_3 = C.l3 := by rw [hC]
  obtain rfl : A0_4 = C.A4 := by rw [hC]
  obtain rfl : c0_4 = C.c4 := by rw [hC]
  obtain rfl : l0_4 = C.l4 := by rw [hC]
  obtain rfl : A0_5 = C.A5 := by rw [hC]
  obtain rfl : c0_5 = C.c5 := by rw [hC]
  obtain rfl : l0_5 = C.l5 := by rw [hC]
  clear hC
  cases hv : cvB C.W C.H C.l2 C.l3 C.l4 C.l5 with
  | true =>
    rw [hv, if_pos rfl] at h
    obtain ⟨r, hr, h⟩ := Option.map_eq_some_iff.1 h
    injection h with h1 h2
    subst h1; subst h2
    have hn := cvB_n hv
    exact prices_ok C w hI hv (C.W * C.H).toNat (Int.toNat_of_nonneg (by omega)) (by omega) (by omega) 20 r hr
  | false =>
    rw [hv] at h
    simp only [Bool.false_eq_true, if_false] at h
    injection h with h
    injection h with h1 h2
    subst h1; subst h2
    exact prices_err C w hI hv
end Go.Proofs.Ytbamanjedfccpaa.X
end

section
set_option linter.unusedVariables false
set_option linter.unusedSimpArgs false
namespace Go.Proofs.Ytbamanjedfccpaa.HTab
open Go.RowKit Go.Proofs.YtbamanjedfccpaaW.PrintWords Go.Proofs.YtbamanjedfccpaaW.PrintLast Go.Proofs.YtbamanjedfccpaaW.PrintMore Go.Proofs.Ytbamanjedfccpaa.X
set_option linter.unusedVariables false
set_option linter.unusedSimpArgs false
def cntE (S : List Bool) (v : Int) : Int := if rdOf false S v then 1 else 0
theorem en_lin (W H : Int) (l2 l3 l4 l5 : List Int) (r r' : Int) (S : List Bool) : enE W H l2 l3 l4 l5 r' S = enE W H l2 l3 l4 l5 r S + (r' - r) * sumF (cntE S) (W * H).toNat := by
  have key : ∀ n : Nat, sumF (cellE l2 l3 r' S) n = sumF (cellE l2 l3 r S) n + (r' - r) * sumF (cntE S) n := fun n => by
    induction n with
    | zero => simp [sumF]
    | succ n ih =>
      simp only [sumF]
      rw [ih, Int.mul_add]
      unfold cellE cntE
      cases rdOf false S (n : Int) <;> simp <;> omega
  unfold enE
  rw [key]
  omega
theorem lab_or (S T : List Bool) (n : Nat) (hS : S.length = n) (hT : T.length = n) : ∃ A B : List Bool, A.length = n ∧ B.length = n ∧ ∀ x : Int, 0 ≤ x → x < n → rdOf false A x = (rdOf false S x && rdOf false T x) ∧ rdOf false B x = (rdOf false S x || rdOf false T x) :=
  ⟨andP S T S.length, orP S T S.length, by rw [andP_len]; exact hS, by rw [orP_len]; exact hS, fun x x0 x1 => ⟨andP_rd S T S.length x x0 (by omega), orP_rd S T S.length x x0 (by omega)⟩⟩
section
variable {W H : Int} {l2 l3 l4 l5 : List Int} (hc : ClOK W H l2 l3 l4 l5)
include hc
theorem lab_nested {r r' : Int} {a b a' b' : List Bool} (h : LabD W H l2 l3 l4 l5 r a b) (h' : LabD W H l2 l3 l4 l5 r' a' b') (hr : r < r') (x : Int) (x0 : 0 ≤ x) (x1 : x < W * H) (hx : rdOf false b' x = true) : rdOf false a x = true := by
  have hn := hc.n
  obtain ⟨n, hnn⟩ : ∃ n : Nat, (n : Int) = W * H := ⟨(W * H).toNat, by omega⟩
  have hla := h.la
  have hlb := h'.lb
  obtain ⟨A, B, hA, hB, hAB⟩ := lab_or a b' n (by omega) (by omega)
  have hm := en_mod hc r a b' A B (fun x x0 x1 => hAB x x0 (by omega))
  have m1 := h.min B (by omega)
  have m2 := h'.min A (by omega)
  rw [← h'.eq] at m2
  rw [en_lin W H l2 l3 l4 l5 r r' A, en_lin W H l2 l3 l4 l5 r r' b'] at m2
  have e : (W * H).toNat = n := by omega
  rw [e] at m2
  have hd : sumF (fun v => cntE b' v - cntE A v) n = sumF (cntE b') n - sumF (cntE A) n := sumF_sub _ _ n
  have h0 : ∀ v : Int, 0 ≤ v → v < n → 0 ≤ cntE b' v - cntE A v := fun v v0 v1 => by
    unfold cntE
    rw [(hAB v v0 v1).1]
    cases rdOf false a v <;> cases rdOf false b' v <;> simp
  have h1 := sumF_nonneg n h0
  have h2 : (r' - r) * (sumF (cntE b') n - sumF (cntE A) n) ≤ 0 := by
    rw [Int.mul_sub]
    omega
  have h3 : sumF (fun v => cntE b' v - cntE A v) n = 0 := by
    rw [hd] at h1 ⊢
    rcases Int.lt_or_le 0 (sumF (cntE b') n - sumF (cntE A) n) with q | q
    · have := Int.mul_pos (show 0 < r' - r by omega) q
      omega
    · omega
  have h4 := sumF_pos n h0 h3 x x0 (by omega)
  unfold cntE at h4
  rw [(hAB x x0 (by omega)).1, hx] at h4
  cases hq : rdOf false a x with
  | true => rfl
  | false => rw [hq] at h4; simp at h4
omit hc in
theorem lab_le {r : Int} {a b : List Bool} (h : LabD W H l2 l3 l4 l5 r a b) (x : Int) (x0 : 0 ≤ x) (x1 : x < W * H) (hx : rdOf false a x = true) : rdOf false b x = true := (h.btw b h.lb h.eq x x0 x1).1 hx
omit hc in
theorem rep_rd (n : Nat) (b : Bool) (x : Int) (x0 : 0 ≤ x) (x1 : x < n) : rdOf false (List.replicate n b) x = b := by
  unfold rdOf
  rw [List.getD_eq_getElem?_getD, List.getElem?_replicate, if_pos (by omega)]
  rfl
theorem pair_const (b : Bool) (n : Nat) (hn : (n : Int) = W * H) : pairE (List.replicate n b) (pairsL W l4 l5) = 0 := by
  have key : ∀ l : List S100, (∀ p ∈ l, 0 ≤ p.f0 ∧ p.f0 < (n : Int) ∧ 0 ≤ p.f1 ∧ p.f1 < (n : Int)) → pairE (List.replicate n b) l = 0 := fun l => by
    induction l with
    | nil => intro _; rfl
    | cons p l ih =>
      intro h
      obtain ⟨a0, a1, a2, a3⟩ := h p (List.mem_cons_self ..)
      simp only [pairE]
      rw [ih (fun q hq => h q (List.mem_cons_of_mem _ hq)), rep_rd n b _ a0 a1, rep_rd n b _ a2 a3]
      simp
  exact key _ (fun p hp => by
    have := pairs_in hc p hp
    omega)
theorem lab_all {r : Int} {a b : List Bool} (h : LabD W H l2 l3 l4 l5 r a b) (c : Bool) (hr : if c then r < -1000 else 1000 < r) (x : Int) (x0 : 0 ≤ x) (x1 : x < W * H) : rdOf false b x = c := by
  have hn := hc.n
  obtain ⟨n, hnn⟩ : ∃ n : Nat, (n : Int) = W * H := ⟨(W * H).toNat, by omega⟩
  have e : (W * H).toNat = n := by omega
  have m1 := h.min (List.replicate n c) (by simp; omega)
  rw [← h.eq] at m1
  unfold enE at m1
  have hp := (pairE_in b (pairsL W l4 l5) (fun p hp => (pairs_in hc p hp).2.2.2.2)).1
  rw [pair_const hc c n hnn, e] at m1
  have hd : sumF (fun v => cellE l2 l3 r b v - cellE l2 l3 r (List.replicate n c) v) n = sumF (cellE l2 l3 r b) n - sumF (cellE l2 l3 r (List.replicate n c)) n := sumF_sub _ _ n
  have h0 : ∀ v : Int, 0 ≤ v → v < n → 0 ≤ cellE l2 l3 r b v - cellE l2 l3 r (List.replicate n c) v ∧ (cellE l2 l3 r b v - cellE l2 l3 r (List.replicate n c) v = 0 → rdOf false b v = c) := fun v v0 v1 => by
    have hb2 := rd_in hc.b2 v
    have hb3 := rd_in hc.b3 v
    unfold cellE
    rw [rep_rd n c v v0 v1]
    cases c <;> cases rdOf false b v <;> simp at hr ⊢ <;> omega
  have h1 := sumF_nonneg n (fun v v0 v1 => (h0 v v0 v1).1)
  have h3 : sumF (fun v => cellE l2 l3 r b v - cellE l2 l3 r (List.replicate n c) v) n = 0 := by
    rw [hd] at h1 ⊢
    omega
  exact (h0 x x0 (by omega)).2 (sumF_pos n (fun v v0 v1 => (h0 v v0 v1).1) h3 x x0 (by omega))
end
def greatL (W H : Int) (l2 l3 l4 l5 : List Int) (r : Int) : List Bool := ((wax_Cloth_labels.f W H l2 l3 l4 l5 r).getD ([], [])).2
def isPrice (W H : Int) (l2 l3 l4 l5 : List Int) (x p : Int) : Prop := ∀ q : Int, -10000 ≤ q → q ≤ 10000 → (rdOf false (greatL W H l2 l3 l4 l5 q) x = true ↔ q ≤ p)
theorem setA_rd (x : Int) : ∀ (l out : List Int) (i : Int), (∀ y ∈ l, 0 ≤ y ∧ y < (out.length : Int)) → 0 ≤ i → rd (setA out x l) i = if i ∈ l then x else rd out i
  | [], out, i, _, i0 => by simp [setA]
  | y :: l, out, i, h, i0 => by
    obtain ⟨y0, y1⟩ := h y (List.mem_cons_self ..)
    have ih := setA_rd x l (out.set y.toNat x) i (fun z hz => by rw [List.length_set]; exact h z (List.mem_cons_of_mem _ hz)) i0
    have e : setA out x (y :: l) = setA (out.set y.toNat x) x l := rfl
    rw [e, ih]
    by_cases c : i ∈ l
    · rw [if_pos c, if_pos (List.mem_cons_of_mem _ c)]
    · rw [if_neg c, rd_set out y i x y0 (by omega) i0]
      by_cases d : i = y
      · rw [if_pos d, if_pos (by rw [d]; exact List.mem_cons_self ..)]
      · rw [if_neg d, if_neg (by simp [d, c])]
section
variable {W H : Int} {l2 l3 l4 l5 : List Int} (hv : cvB W H l2 l3 l4 l5 = true)
include hv
theorem great_lab {r : Int} (hr : -10000 ≤ r ∧ r ≤ 10000) : ∃ a, LabD W H l2 l3 l4 l5 r a (greatL W H l2 l3 l4 l5 r) := by
  obtain ⟨a, b, h⟩ := labD hv hr
  have e : greatL W H l2 l3 l4 l5 r = b := by unfold greatL; rw [h.labels]; rfl
  rw [e]
  exact ⟨a, h⟩
theorem great_mono {r r' : Int} (h0 : -10000 ≤ r) (h1 : r ≤ r') (h2 : r' ≤ 10000) (x : Int) (x0 : 0 ≤ x) (x1 : x < W * H) (hx : rdOf false (greatL W H l2 l3 l4 l5 r') x = true) : rdOf false (greatL W H l2 l3 l4 l5 r) x = true := by
  rcases Int.lt_or_eq_of_le h1 with q | q
  · obtain ⟨a, h⟩ := great_lab hv (r := r) ⟨h0, by omega⟩
    obtain ⟨a', h'⟩ := great_lab hv (r := r') ⟨by omega, h2⟩
    exact lab_le h x x0 x1 (lab_nested (cvB_ok hv) h h' q x x0 x1 hx)
  · rw [q]; exact hx
theorem part_ok (n : Nat) (hn : (n : Int) = W * H) : ∀ (k : Nat) (l : List Int) (lo hi : Int) (out : List Int), -10000 ≤ lo → lo < hi → hi ≤ 10000 → hi - lo ≤ 2 ^ k → out.length = n → (∀ x ∈ l, 0 ≤ x ∧ x < (n : Int) ∧ rdOf false (greatL W H l2 l3 l4 l5 lo) x = true ∧ rdOf false (greatL W H l2 l3 l4 l5 hi) x = false) →
    ∃ r, partP (wax_Cloth_labels.f W H l2 l3 l4 l5) (k + 1) l lo hi out = some r ∧ r.length = n ∧ ∀ x : Int, 0 ≤ x → x < n → (x ∈ l → isPrice W H l2 l3 l4 l5 x (rd r x)) ∧ (x ∉ l → rd r x = rd out x)
  | k, l, lo, hi, out, h1, h2, h3, hk, hout, hin => by
    by_cases c : l.length = 0 ∨ hi - lo = 1
    · refine ⟨setA out lo l, by simp only [partP]; rw [if_pos c], by rw [setA_len]; exact hout, fun x x0 x1 => ?_⟩
      rw [setA_rd lo l out x (fun y hy => ⟨(hin y hy).1, by have := (hin y hy).2.1; omega⟩) x0]
      refine ⟨fun hx => ?_, fun hx => by rw [if_neg hx]⟩
      rw [if_pos hx]
      obtain ⟨_, _, g0, g1⟩ := hin x hx
      intro q q0 q1
      have hd : hi - lo = 1 := by
        rcases c with c | c
        · rw [List.eq_nil_of_length_eq_zero c] at hx
          cases hx
        · exact c
      refine ⟨fun hg => ?_, fun hq => great_mono hv q0 hq (by omega) x x0 (by omega) g0⟩
      rcases Int.lt_or_le lo q with d | d
      · have := great_mono hv (r := hi) (r' := q) (by omega) (by omega) q1 x x0 (by omega) hg
        rw [g1] at this
        cases this
      · exact d
    · have hd : 2 ≤ hi - lo := by
        rcases Int.lt_or_le (hi - lo) 2 with q | q
        · exact absurd (show l.length = 0 ∨ hi - lo = 1 from .inr (by omega)) c
        · exact q
      obtain ⟨j, rfl⟩ : ∃ j, k = j + 1 := by
        cases k with
        | zero => simp at hk; omega
        | succ j => exact ⟨j, rfl⟩
      have hmid : Int.tdiv (hi - lo) 2 = (hi - lo) / 2 := Int.tdiv_eq_ediv_of_nonneg (by omega)
      have hpow : (2 : Int) ^ (j + 1) = 2 * 2 ^ j := by rw [Int.pow_succ, Int.mul_comm]
      rw [hpow] at hk
      obtain ⟨m, hm⟩ : ∃ m, m = lo + Int.tdiv (hi - lo) 2 := ⟨_, rfl⟩
      have m1 : lo < m ∧ m < hi := by rw [hm, hmid]; omega
      have m2 : m - lo ≤ 2 ^ j ∧ hi - m ≤ 2 ^ j := by rw [hm, hmid]; omega
      obtain ⟨a, b, h⟩ := labD hv (r := m) ⟨by omega, by omega⟩
      have eb : greatL W H l2 l3 l4 l5 m = b := by unfold greatL; rw [h.labels]; rfl
      have hlb := h.lb
      obtain ⟨o, ho, hol, hop⟩ := part_ok n hn j (l.filter fun i => rdOf false b i) m hi out (by omega) m1.2 h3 m2.2 hout (fun x hx => by
        obtain ⟨hx, hb⟩ := List.mem_filter.1 hx
        obtain ⟨x0, x1, g0, g1⟩ := hin x hx
        exact ⟨x0, x1, by rw [eb]; exact hb, g1⟩)
      obtain ⟨r, hr, hrl, hrp⟩ := part_ok n hn j (l.filter fun i => !rdOf false b i) lo m o h1 m1.1 (by omega) m2.1 hol (fun x hx => by
        obtain ⟨hx, hb⟩ := List.mem_filter.1 hx
        obtain ⟨x0, x1, g0, g1⟩ := hin x hx
        exact ⟨x0, x1, g0, by rw [eb]; simpa using hb⟩)
      refine ⟨r, ?_, hrl, fun x x0 x1 => ⟨fun hx => ?_, fun hx => ?_⟩⟩
      · rw [partP, if_neg c, ← hm, h.labels, Option.bind_some, if_pos (by show b.length = out.length; omega)]
        dsimp only
        rw [ho, Option.bind_some, hr]
      · cases hb : rdOf false b x with
        | true =>
          rw [(hrp x x0 x1).2 (fun q => by have := (List.mem_filter.1 q).2; rw [hb] at this; cases this)]
          exact (hop x x0 x1).1 (List.mem_filter.2 ⟨hx, hb⟩)
        | false => exact (hrp x x0 x1).1 (List.mem_filter.2 ⟨hx, by rw [hb]; rfl⟩)
      · rw [(hrp x x0 x1).2 (fun q => hx (List.mem_filter.1 q).1), (hop x x0 x1).2 (fun q => hx (List.mem_filter.1 q).1)]
theorem prices_f : ∃ r, wax_Prices.f W H l2 l3 l4 l5 = some (r, 0) ∧ (r.length : Int) = W * H ∧ ∀ x : Int, 0 ≤ x → x < W * H → isPrice W H l2 l3 l4 l5 x (rd r x) := by
  have hc := cvB_ok hv
  have hn := hc.n
  obtain ⟨n, hnn⟩ : ∃ n : Nat, (n : Int) = W * H := ⟨(W * H).toNat, by omega⟩
  have e : (W * H).toNat = n := by omega
  obtain ⟨r, hr, hrl, hrp⟩ := part_ok hv n hnn 19 (cellsL n) (-5001) 5001 (List.replicate n 0) (by omega) (by omega) (by omega) (by decide) (by simp) (fun x hx => by
    obtain ⟨j, hj, rfl⟩ := List.mem_map.1 hx
    have hj := List.mem_range.1 hj
    obtain ⟨a, h⟩ := great_lab hv (r := -5001) ⟨by omega, by omega⟩
    obtain ⟨a', h'⟩ := great_lab hv (r := 5001) ⟨by omega, by omega⟩
    exact ⟨by omega, by omega, lab_all hc h true (by simp) _ (by omega) (by omega), lab_all hc h' false (by simp) _ (by omega) (by omega)⟩)
  refine ⟨r, ?_, by omega, fun x x0 x1 => (hrp x x0 (by omega)).1 (List.mem_map.2 ⟨x.toNat, List.mem_range.2 (by omega), by omega⟩)⟩
  unfold wax_Prices.f
  rw [if_pos hv, e, hr]
  rfl
end
end Go.Proofs.Ytbamanjedfccpaa.HTab
end

section
set_option linter.unusedVariables false
set_option linter.unusedSimpArgs false
namespace Go.Proofs.Ytbamanjedfccpaa.HTab
open Go.RowKit Go.Proofs.YtbamanjedfccpaaW.PrintWords Go.Proofs.YtbamanjedfccpaaW.PrintLast Go.Proofs.YtbamanjedfccpaaW.PrintMore Go.Proofs.Ytbamanjedfccpaa.X
set_option linter.unusedVariables false
set_option linter.unusedSimpArgs false
end Go.Proofs.Ytbamanjedfccpaa.HTab
end

section
set_option linter.unusedVariables false
set_option linter.unusedSimpArgs false
namespace Go.Proofs.Ytbamanjedfccpaa.X
open Go.RowKit Go.Proofs.YtbamanjedfccpaaW.PrintWords Go.Proofs.YtbamanjedfccpaaW.PrintLast Go.Proofs.YtbamanjedfccpaaW.PrintMore
attribute [local go_sem] max2_int min2_int max_two min_two max_three min_three max_four min_four   -- for this text's walks alone
set_option linter.unusedVariables false
set_option linter.unusedSimpArgs false
end Go.Proofs.Ytbamanjedfccpaa.X
end

section
set_option linter.unusedVariables false
set_option linter.unusedSimpArgs false
namespace Go.Proofs.Ytbamanjedfccpaa.HTab
open Go.RowKit Go.Proofs.YtbamanjedfccpaaW.PrintWords Go.Proofs.YtbamanjedfccpaaW.PrintLast Go.Proofs.YtbamanjedfccpaaW.PrintMore Go.Proofs.Ytbamanjedfccpaa.X
set_option linter.unusedVariables false
set_option linter.unusedSimpArgs false
theorem labels_ok {W H : Int} {l2 l3 l4 l5 : List Int} (hv : cvB W H l2 l3 l4 l5 = true) {r : Int} (hr : -10000 ≤ r ∧ r ≤ 10000) {a b : List Bool} (h : LabD W H l2 l3 l4 l5 r a b) : wax_Labels.f W H l2 l3 l4 l5 r = some (a, b, 0) := by
  unfold wax_Labels.f wax_Cloth_valid.f
  rw [hv, Option.bind_some, if_pos rfl, if_neg (by omega), if_neg (by omega), h.labels]
  rfl
theorem labels_err {W H : Int} {l2 l3 l4 l5 : List Int} {r : Int} (h : ¬ (cvB W H l2 l3 l4 l5 = true ∧ -10000 ≤ r ∧ r ≤ 10000)) : wax_Labels.f W H l2 l3 l4 l5 r = some ([], [], 2) := by
  unfold wax_Labels.f wax_Cloth_valid.f
  rw [Option.bind_some]
  by_cases hv : cvB W H l2 l3 l4 l5 = true
  · have h2 : ¬ (-10000 ≤ r ∧ r ≤ 10000) := fun q => h ⟨hv, q⟩
    rw [if_pos hv]
    by_cases h1 : r < -10000
    · rw [if_pos h1]
    · rw [if_neg h1, if_pos (by omega)]
  · rw [if_neg hv]
end Go.Proofs.Ytbamanjedfccpaa.HTab
end

section
set_option linter.unusedVariables false
set_option linter.unusedSimpArgs false
namespace Go.Proofs.Ytbamanjedfccpaa.X
open Go.RowKit Go.Proofs.YtbamanjedfccpaaW.PrintWords Go.Proofs.YtbamanjedfccpaaW.PrintLast Go.Proofs.YtbamanjedfccpaaW.PrintMore
attribute [local go_sem] max2_int min2_int max_two min_two max_three min_three max_four min_four   -- for this text's walks alone
set_option linter.unusedVariables false
set_option linter.unusedSimpArgs false
mutual
def cantinglaw07_WaxNested.j0 : Nat → Int → List Int → Int → List Bool → List Bool → Int → List Bool → Int → Bool → Option (Bool)
  | 0, _, _, _, _, _, _, _, _, _ => none
  | k + 1, x1, x5, x6, x7, x8, x9, x11, x12, x52 => if x52 = true then (if x6 = 2 then (if x9 = 2 then (if x12 = 2 then ((cantinglaw07_awake.f).bind fun t886 => (some t886)) else (some false)) else (some false)) else (some false)) else (if (x8.length : Int) = (x5.length : Int) then (if (x11.length : Int) = (x5.length : Int) then (cantinglaw07_WaxNested.j1 k x1 x5 x7 x8 x11 ((x7.length : Int) != (x5.length : Int))) else (cantinglaw07_WaxNested.j1 k x1 x5 x7 x8 x11 true)) else (cantinglaw07_WaxNested.j1 k x1 x5 x7 x8 x11 true))
def cantinglaw07_WaxNested.j1 : Nat → Int → List Int → List Bool → List Bool → List Bool → Bool → Option (Bool)
  | 0, _, _, _, _, _, _ => none
  | k + 1, x1, x5, x7, x8, x11, x84 => if x84 = true then (some false) else (cantinglaw07_WaxNested.l0 k x1 x7 x8 x11 x5 (x5.length : Int) 0)
def cantinglaw07_WaxNested.l0 : Nat → Int → List Bool → List Bool → List Bool → List Int → Int → Int → Option (Bool)
  | 0, _, _, _, _, _, _, _ => none
  | k + 1, x1, x7, x8, x11, x85, x86, x87 => if x87 < x86 then (if 0 ≤ x87 then (if x87 < (x85.length : Int) then (if x87 < (x8.length : Int) then (if ((rdOf false x8 x87) != (decide ((rd x85 x87) ≥ x1))) = true then (some false) else (if x87 < (x11.length : Int) then (if rdOf false x11 x87 = true then (if x87 < (x7.length : Int) then (if rdOf false x7 x87 = true then (if rdOf false x8 x87 = true then (cantinglaw07_WaxNested.l0 k x1 x7 x8 x11 x85 x86 (wrap64 (x87 + 1))) else (some false)) else (some false)) else (none)) else (if x87 < (x7.length : Int) then (if rdOf false x7 x87 = true then (if rdOf false x8 x87 = true then (cantinglaw07_WaxNested.l0 k x1 x7 x8 x11 x85 x86 (wrap64 (x87 + 1))) else (some false)) else (cantinglaw07_WaxNested.l0 k x1 x7 x8 x11 x85 x86 (wrap64 (x87 + 1)))) else (none))) else (none))) else (none)) else (none)) else (none)) else ((cantinglaw07_awake.f).bind fun t895 => (some t895))
end
def cantinglaw07_WaxNested.f (k : Nat) (a0_0 : Int) (a0_1 : Int) (l0_2 : List Int) (l0_3 : List Int) (l0_4 : List Int) (l0_5 : List Int) (a1 : Int) : Option (Bool) := (cantinglaw07_cloth.f a0_0 a0_1 l0_2 l0_3 l0_4 l0_5).bind fun bt826 => ((wax_Prices.f bt826.1 bt826.2.1 bt826.2.2.1 bt826.2.2.2.1 bt826.2.2.2.2.1 bt826.2.2.2.2.2).bind fun bt840 => ((cantinglaw07_cloth.f a0_0 a0_1 l0_2 l0_3 l0_4 l0_5).bind fun bt844 => ((wax_Labels.f bt844.1 bt844.2.1 bt844.2.2.1 bt844.2.2.2.1 bt844.2.2.2.2.1 bt844.2.2.2.2.2 (wrap64 ((wrap64 (Int.tmod (IntKind.u64.wrap (a1)) 12001)) - 6000))).bind fun bt858 => ((cantinglaw07_cloth.f a0_0 a0_1 l0_2 l0_3 l0_4 l0_5).bind fun bt865 => ((wax_Labels.f bt865.1 bt865.2.1 bt865.2.2.1 bt865.2.2.2.1 bt865.2.2.2.2.1 bt865.2.2.2.2.2 (wrap64 ((wrap64 ((wrap64 (Int.tmod (IntKind.u64.wrap (a1)) 12001)) - 6000)) + 1))).bind fun bt879 => (if bt840.2 = 0 then (if bt858.2.2 = 0 then (cantinglaw07_WaxNested.j0 k (wrap64 ((wrap64 (Int.tmod (IntKind.u64.wrap (a1)) 12001)) - 6000)) bt840.1 bt840.2 bt858.1 bt858.2.1 bt858.2.2 bt879.2.1 bt879.2.2 (bt879.2.2 != 0)) else (cantinglaw07_WaxNested.j0 k (wrap64 ((wrap64 (Int.tmod (IntKind.u64.wrap (a1)) 12001)) - 6000)) bt840.1 bt840.2 bt858.1 bt858.2.1 bt858.2.2 bt879.2.1 bt879.2.2 true)) else (cantinglaw07_WaxNested.j0 k (wrap64 ((wrap64 (Int.tmod (IntKind.u64.wrap (a1)) 12001)) - 6000)) bt840.1 bt840.2 bt858.1 bt858.2.1 bt858.2.2 bt879.2.1 bt879.2.2 true)))))))
set_option maxHeartbeats 8000000 in
set_option maxRecDepth 100000 in
theorem cantinglaw07_WaxNested.calls (k : Nat) (a0_0 : Int) (a0_1 : Int) (A0_2 : Option Addr) (c0_2 : Nat) (l0_2 : List Int) (A0_3 : Option Addr) (c0_3 : Nat) (l0_3 : List Int) (A0_4 : Option Addr) (c0_4 : Nat) (l0_4 : List Int) (A0_5 : Option Addr) (c0_5 : Nat) (l0_5 : List Int) (a1 : Int) (r : Bool) (w : World) (hr0_2 : Kd.C (Kd.int .i64) w A0_2 l0_2.length l0_2) (hc0_2 : l0_2.length ≤ c0_2) (hr0_3 : Kd.C (Kd.int .i64) w A0_3 l0_3.length l0_3) (hc0_3 : l0_3.length ≤ c0_3) (hr0_4 : Kd.C (Kd.int .i64) w A0_4 l0_4.length l0_4) (hc0_4 : l0_4.length ≤ c0_4) (hr0_5 : Kd.C (Kd.int .i64) w A0_5 l0_5.length l0_5) (hc0_5 : l0_5.length ≤ c0_5) (h : cantinglaw07_WaxNested.f k a0_0 a0_1 l0_2 l0_3 l0_4 l0_5 a1 = some r) :
    Calls Try.prog 14 #[.agg #[.int .i64 a0_0, .int .i64 a0_1, .slice A0_2 l0_2.length c0_2, .slice A0_3 l0_3.length c0_3, .slice A0_4 l0_4.length c0_4, .slice A0_5 l0_5.length c0_5], .int .i64 a1] w fun e w' => e = .returned (.bool r) ∧ Below w.heap.size w w' := by
  have hu61 := Try.underlying61
  have HR0_2 := Aside0.mk hr0_2
  have HC0_2 := Aside0.mk hc0_2
  clear hr0_2 hc0_2
  have HR0_3 := Aside0.mk hr0_3
  have HC0_3 := Aside0.mk hc0_3
  clear hr0_3 hc0_3
  have HR0_4 := Aside0.mk hr0_4
  have HC0_4 := Aside0.mk hc0_4
  clear hr0_4 hc0_4
  have HR0_5 := Aside0.mk hr0_5
  have HC0_5 := Aside0.mk hc0_5
  clear hr0_5 hc0_5
  have HB := Aside0.mk (Below.refl w.heap.size w)
  have H : ((cantinglaw07_cloth.f a0_0 a0_1 l0_2 l0_3 l0_4 l0_5).bind fun bt826 => ((wax_Prices.f bt826.1 bt826.2.1 bt826.2.2.1 bt826.2.2.2.1 bt826.2.2.2.2.1 bt826.2.2.2.2.2).bind fun bt840 => ((cantinglaw07_cloth.f a0_0 a0_1 l0_2 l0_3 l0_4 l0_5).bind fun bt844 => ((wax_Labels.f bt844.1 bt844.2.1 bt844.2.2.1 bt844.2.2.2.1 bt844.2.2.2.2.1 bt844.2.2.2.2.2 (wrap64 ((wrap64 (Int.tmod (IntKind.u64.wrap (a1)) 12001)) - 6000))).bind fun bt858 => ((cantinglaw07_cloth.f a0_0 a0_1 l0_2 l0_3 l0_4 l0_5).bind fun bt865 => ((wax_Labels.f bt865.1 bt865.2.1 bt865.2.2.1 bt865.2.2.2.1 bt865.2.2.2.2.1 bt865.2.2.2.2.2 (wrap64 ((wrap64 ((wrap64 (Int.tmod (IntKind.u64.wrap (a1)) 12001)) - 6000)) + 1))).bind fun bt879 => (if bt840.2 = 0 then (if bt858.2.2 = 0 then (cantinglaw07_WaxNested.j0 k (wrap64 ((wrap64 (Int.tmod (IntKind.u64.wrap (a1)) 12001)) - 6000)) bt840.1 bt840.2 bt858.1 bt858.2.1 bt858.2.2 bt879.2.1 bt879.2.2 (bt879.2.2 != 0)) else (cantinglaw07_WaxNested.j0 k (wrap64 ((wrap64 (Int.tmod (IntKind.u64.wrap (a1)) 12001)) - 6000)) bt840.1 bt840.2 bt858.1 bt858.2.1 bt858.2.2 bt879.2.1 bt879.2.2 true)) else (cantinglaw07_WaxNested.j0 k (wrap64 ((wrap64 (Int.tmod (IntKind.u64.wrap (a1)) 12001)) - 6000)) bt840.1 bt840.2 bt858.1 bt858.2.1 bt858.2.2 bt879.2.1 bt879.2.2 true)))))))) = some r := h
  clear h
  replace H := Option.bind_eq_some_iff.mp H
  obtain ⟨⟨t826, t827, t828, t831, t834, t837⟩, A30, H⟩ := H
  replace H : ((wax_Prices.f t826 t827 t828 t831 t834 t837).bind fun bt840 => ((cantinglaw07_cloth.f a0_0 a0_1 l0_2 l0_3 l0_4 l0_5).bind fun bt844 => ((wax_Labels.f bt844.1 bt844.2.1 bt844.2.2.1 bt844.2.2.2.1 bt844.2.2.2.2.1 bt844.2.2.2.2.2 (wrap64 ((wrap64 (Int.tmod (IntKind.u64.wrap (a1)) 12001)) - 6000))).bind fun bt858 => ((cantinglaw07_cloth.f a0_0 a0_1 l0_2 l0_3 l0_4 l0_5).bind fun bt865 => ((wax_Labels.f bt865.1 bt865.2.1 bt865.2.2.1 bt865.2.2.2.1 bt865.2.2.2.2.1 bt865.2.2.2.2.2 (wrap64 ((wrap64 ((wrap64 (Int.tmod (IntKind.u64.wrap (a1)) 12001)) - 6000)) + 1))).bind fun bt879 => (if bt840.2 = 0 then (if bt858.2.2 = 0 then (cantinglaw07_WaxNested.j0 k (wrap64 ((wrap64 (Int.tmod (IntKind.u64.wrap (a1)) 12001)) - 6000)) bt840.1 bt840.2 bt858.1 bt858.2.1 bt858.2.2 bt879.2.1 bt879.2.2 (bt879.2.2 != 0)) else (cantinglaw07_WaxNested.j0 k (wrap64 ((wrap64 (Int.tmod (IntKind.u64.wrap (a1)) 12001)) - 6000)) bt840.1 bt840.2 bt858.1 bt858.2.1 bt858.2.2 bt879.2.1 bt879.2.2 true)) else (cantinglaw07_WaxNested.j0 k (wrap64 ((wrap64 (Int.tmod (IntKind.u64.wrap (a1)) 12001)) - 6000)) bt840.1 bt840.2 bt858.1 bt858.2.1 bt858.2.2 bt879.2.1 bt879.2.2 true))))))) = some r := H
  have A3 := Aside0.mk A30
  clear A30
  replace H := Option.bind_eq_some_iff.mp H
  obtain ⟨⟨t840, t843⟩, A40, H⟩ := H
  replace H : ((cantinglaw07_cloth.f a0_0 a0_1 l0_2 l0_3 l0_4 l0_5).bind fun bt844 => ((wax_Labels.f bt844.1 bt844.2.1 bt844.2.2.1 bt844.2.2.2.1 bt844.2.2.2.2.1 bt844.2.2.2.2.2 (wrap64 ((wrap64 (Int.tmod (IntKind.u64.wrap (a1)) 12001)) - 6000))).bind fun bt858 => ((cantinglaw07_cloth.f a0_0 a0_1 l0_2 l0_3 l0_4 l0_5).bind fun bt865 => ((wax_Labels.f bt865.1 bt865.2.1 bt865.2.2.1 bt865.2.2.2.1 bt865.2.2.2.2.1 bt865.2.2.2.2.2 (wrap64 ((wrap64 ((wrap64 (Int.tmod (IntKind.u64.wrap (a1)) 12001)) - 6000)) + 1))).bind fun bt879 => (if t843 = 0 then (if bt858.2.2 = 0 then (cantinglaw07_WaxNested.j0 k (wrap64 ((wrap64 (Int.tmod (IntKind.u64.wrap (a1)) 12001)) - 6000)) t840 t843 bt858.1 bt858.2.1 bt858.2.2 bt879.2.1 bt879.2.2 (bt879.2.2 != 0)) else (cantinglaw07_WaxNested.j0 k (wrap64 ((wrap64 (Int.tmod (IntKind.u64.wrap (a1)) 12001)) - 6000)) t840 t843 bt858.1 bt858.2.1 bt858.2.2 bt879.2.1 bt879.2.2 true)) else (cantinglaw07_WaxNested.j0 k (wrap64 ((wrap64 (Int.tmod (IntKind.u64.wrap (a1)) 12001)) - 6000)) t840 t843 bt858.1 bt858.2.1 bt858.2.2 bt879.2.1 bt879.2.2 true)))))) = some r := H
  have A4 := Aside0.mk A40
  clear A40
  replace H := Option.bind_eq_some_iff.mp H
  obtain ⟨⟨t844, t845, t846, t849, t852, t855⟩, A50, H⟩ := H
  replace H : ((wax_Labels.f t844 t845 t846 t849 t852 t855 (wrap64 ((wrap64 (Int.tmod (IntKind.u64.wrap (a1)) 12001)) - 6000))).bind fun bt858 => ((cantinglaw07_cloth.f a0_0 a0_1 l0_2 l0_3 l0_4 l0_5).bind fun bt865 => ((wax_Labels.f bt865.1 bt865.2.1 bt865.2.2.1 bt865.2.2.2.1 bt865.2.2.2.2.1 bt865.2.2.2.2.2 (wrap64 ((wrap64 ((wrap64 (Int.tmod (IntKind.u64.wrap (a1)) 12001)) - 6000)) + 1))).bind fun bt879 => (if t843 = 0 then (if bt858.2.2 = 0 then (cantinglaw07_WaxNested.j0 k (wrap64 ((wrap64 (Int.tmod (IntKind.u64.wrap (a1)) 12001)) - 6000)) t840 t843 bt858.1 bt858.2.1 bt858.2.2 bt879.2.1 bt879.2.2 (bt879.2.2 != 0)) else (cantinglaw07_WaxNested.j0 k (wrap64 ((wrap64 (Int.tmod (IntKind.u64.wrap (a1)) 12001)) - 6000)) t840 t843 bt858.1 bt858.2.1 bt858.2.2 bt879.2.1 bt879.2.2 true)) else (cantinglaw07_WaxNested.j0 k (wrap64 ((wrap64 (Int.tmod (IntKind.u64.wrap (a1)) 12001)) - 6000)) t840 t843 bt858.1 bt858.2.1 bt858.2.2 bt879.2.1 bt879.2.2 true))))) = some r := H
  have A5 := Aside0.mk A50
  clear A50
  replace H := Option.bind_eq_some_iff.mp H
  obtain ⟨⟨t858, t861, t864⟩, A60, H⟩ := H
  replace H : ((cantinglaw07_cloth.f a0_0 a0_1 l0_2 l0_3 l0_4 l0_5).bind fun bt865 => ((wax_Labels.f bt865.1 bt865.2.1 bt865.2.2.1 bt865.2.2.2.1 bt865.2.2.2.2.1 bt865.2.2.2.2.2 (wrap64 ((wrap64 ((wrap64 (Int.tmod (IntKind.u64.wrap (a1)) 12001)) - 6000)) + 1))).bind fun bt879 => (if t843 = 0 then (if t864 = 0 then (cantinglaw07_WaxNested.j0 k (wrap64 ((wrap64 (Int.tmod (IntKind.u64.wrap (a1)) 12001)) - 6000)) t840 t843 t858 t861 t864 bt879.2.1 bt879.2.2 (bt879.2.2 != 0)) else (cantinglaw07_WaxNested.j0 k (wrap64 ((wrap64 (Int.tmod (IntKind.u64.wrap (a1)) 12001)) - 6000)) t840 t843 t858 t861 t864 bt879.2.1 bt879.2.2 true)) else (cantinglaw07_WaxNested.j0 k (wrap64 ((wrap64 (Int.tmod (IntKind.u64.wrap (a1)) 12001)) - 6000)) t840 t843 t858 t861 t864 bt879.2.1 bt879.2.2 true)))) = some r := H
  have A6 := Aside0.mk A60
  clear A60
  replace H := Option.bind_eq_some_iff.mp H
  obtain ⟨⟨t865, t866, t867, t870, t873, t876⟩, A70, H⟩ := H
  replace H : ((wax_Labels.f t865 t866 t867 t870 t873 t876 (wrap64 ((wrap64 ((wrap64 (Int.tmod (IntKind.u64.wrap (a1)) 12001)) - 6000)) + 1))).bind fun bt879 => (if t843 = 0 then (if t864 = 0 then (cantinglaw07_WaxNested.j0 k (wrap64 ((wrap64 (Int.tmod (IntKind.u64.wrap (a1)) 12001)) - 6000)) t840 t843 t858 t861 t864 bt879.2.1 bt879.2.2 (bt879.2.2 != 0)) else (cantinglaw07_WaxNested.j0 k (wrap64 ((wrap64 (Int.tmod (IntKind.u64.wrap (a1)) 12001)) - 6000)) t840 t843 t858 t861 t864 bt879.2.1 bt879.2.2 true)) else (cantinglaw07_WaxNested.j0 k (wrap64 ((wrap64 (Int.tmod (IntKind.u64.wrap (a1)) 12001)) - 6000)) t840 t843 t858 t861 t864 bt879.2.1 bt879.2.2 true))) = some r := H
  have A7 := Aside0.mk A70
  clear A70
  replace H := Option.bind_eq_some_iff.mp H
  obtain ⟨⟨t879, t882, t885⟩, A80, H⟩ := H
  replace H : (if t843 = 0 then (if t864 = 0 then (cantinglaw07_WaxNested.j0 k (wrap64 ((wrap64 (Int.tmod (IntKind.u64.wrap (a1)) 12001)) - 6000)) t840 t843 t858 t861 t864 t882 t885 (t885 != 0)) else (cantinglaw07_WaxNested.j0 k (wrap64 ((wrap64 (Int.tmod (IntKind.u64.wrap (a1)) 12001)) - 6000)) t840 t843 t858 t861 t864 t882 t885 true)) else (cantinglaw07_WaxNested.j0 k (wrap64 ((wrap64 (Int.tmod (IntKind.u64.wrap (a1)) 12001)) - 6000)) t840 t843 t858 t861 t864 t882 t885 true)) = some r := H
  have A8 := Aside0.mk A80
  clear A80
  have HC9 := Aside0.mk H
  clear H
  go_enter Try.func14, Try.ntmps14
  go_upto_region 5 with (first | ((with_reducible refine gate_dst (N := 2) rfl ?_); (try (refine gate_guard (by rfl) ?_; dsimp only)); refine box_event ?hg (N := 2) ?hd (cs := #[.int .i64 a0_0, .int .i64 a0_1, .slice A0_2 l0_2.length c0_2, .slice A0_3 l0_3.length c0_3, .slice A0_4 l0_4.length c0_4, .slice A0_5 l0_5.length c0_5]) (t := 61) ?hr ?_; (case hd => rfl); (case hg => rfl); (case hr => first | (go_simp; done) | (go_simp; rfl)); intro gb825 hg w10 hbox hb; have n0_ := Aside0.mk (below_step (by repeat (first | (with_reducible first | exact HB.out | apply below_alloc | apply pw_below_drewN | apply below_drew1) | exact HB.out)) hb); have n1_ := Aside0.mk (hbox); have n2_ := Aside0.mk ((by rw [hg]; exact (below_size (by repeat (first | (with_reducible first | exact HB.out | apply below_alloc | apply pw_below_drewN | apply below_drew1) | exact HB.out))) : w.heap.size ≤ gb825)); have n3_ := Aside0.mk ((by rw [hg]; exact (below_size (by repeat (first | (with_reducible first | exact HB.out | apply below_alloc | apply pw_below_drewN | apply below_drew1) | exact HB.out))) : w.heap.size ≤ gb825)); clear HB; have HB := n0_; have BK825 := n1_; have GW825 := n2_; have GE825 := n3_; clear n0_ n1_ n2_ n3_; clear hb hbox hg; have hcz11_0 : w10.cell? ⟨gb825, 0, none⟩ = some (.int .i64 a0_0) := (blk_cell BK825.out 0).trans rfl; have hcz11_1 : w10.cell? ⟨gb825, 1, none⟩ = some (.int .i64 a0_1) := (blk_cell BK825.out 1).trans rfl; have hcz11_2 : w10.cell? ⟨gb825, 2, none⟩ = some (.slice A0_2 l0_2.length c0_2) := (blk_cell BK825.out 2).trans rfl; have hcz11_3 : w10.cell? ⟨gb825, 3, none⟩ = some (.slice A0_3 l0_3.length c0_3) := (blk_cell BK825.out 3).trans rfl; have hcz11_4 : w10.cell? ⟨gb825, 4, none⟩ = some (.slice A0_4 l0_4.length c0_4) := (blk_cell BK825.out 4).trans rfl; have hcz11_5 : w10.cell? ⟨gb825, 5, none⟩ = some (.slice A0_5 l0_5.length c0_5) := (blk_cell BK825.out 5).trans rfl; have hfz11_0 := blk_frozen BK825.out 0; have hfz11_1 := blk_frozen BK825.out 1; have hfz11_2 := blk_frozen BK825.out 2; have hfz11_3 := blk_frozen BK825.out 3; have hfz11_4 := blk_frozen BK825.out 4; have hfz11_5 := blk_frozen BK825.out 5) | ((with_reducible refine gate_callee (f := 32) rfl ?_); refine goesL_ (some 22) rfl rfl Try.func32 (by kernel_rfl) rfl #[.agg #[.int .i64 a0_0, .int .i64 a0_1, .slice A0_2 l0_2.length c0_2, .slice A0_3 l0_3.length c0_3, .slice A0_4 l0_4.length c0_4, .slice A0_5 l0_5.length c0_5]] rfl (by (try simp only [List.map_toArray, List.map_cons, List.map_nil]); first | done | rfl | (simp only [List.length_drop, List.length_take]; rfl)) ?_; (with_reducible refine (cantinglaw07_cloth.calls a0_0 a0_1 _ _ l0_2 _ _ l0_3 _ _ l0_4 _ _ l0_5 t826 t827 t828 t831 t834 t837 _ ?side1 ?side2 ?side3 ?side4 ?side5 ?side6 ?side7 ?side8 A3.out).mono ?_); (case side1 => repeat (first | exact (Kd.C_below HR0_2.out HB.out) | (with_reducible refine Kd.C_alloc ?_ _) | (with_reducible refine Kd.C_drewN ?_ _) | (with_reducible refine Kd.C_drew ?_))); (case side2 => exact HC0_2.out); (case side3 => repeat (first | exact (Kd.C_below HR0_3.out HB.out) | (with_reducible refine Kd.C_alloc ?_ _) | (with_reducible refine Kd.C_drewN ?_ _) | (with_reducible refine Kd.C_drew ?_))); (case side4 => exact HC0_3.out); (case side5 => repeat (first | exact (Kd.C_below HR0_4.out HB.out) | (with_reducible refine Kd.C_alloc ?_ _) | (with_reducible refine Kd.C_drewN ?_ _) | (with_reducible refine Kd.C_drew ?_))); (case side6 => exact HC0_4.out); (case side7 => repeat (first | exact (Kd.C_below HR0_5.out HB.out) | (with_reducible refine Kd.C_alloc ?_ _) | (with_reducible refine Kd.C_drewN ?_ _) | (with_reducible refine Kd.C_drew ?_))); (case side8 => exact HC0_5.out); rintro e w12 ⟨v829, v832, v835, v838, rfl, ho0, ho1, ho2, ho3, hb⟩; refine ⟨_, rfl, ?_⟩; have n0_ := Aside0.mk (Kd.R_lower ho0 (below_size (by repeat (first | (with_reducible first | exact HB.out | apply below_alloc | apply pw_below_drewN | apply below_drew1 | refine below_set ?_ GE825.out) | exact HB.out)))); have n1_ := Aside0.mk (Kd.R_lower ho1 (below_size (by repeat (first | (with_reducible first | exact HB.out | apply below_alloc | apply pw_below_drewN | apply below_drew1 | refine below_set ?_ GE825.out) | exact HB.out)))); have n2_ := Aside0.mk (Kd.R_lower ho2 (below_size (by repeat (first | (with_reducible first | exact HB.out | apply below_alloc | apply pw_below_drewN | apply below_drew1 | refine below_set ?_ GE825.out) | exact HB.out)))); have n3_ := Aside0.mk (Kd.R_lower ho3 (below_size (by repeat (first | (with_reducible first | exact HB.out | apply below_alloc | apply pw_below_drewN | apply below_drew1 | refine below_set ?_ GE825.out) | exact HB.out)))); have n4_ := Aside0.mk (blk_below (g := gb825) (o := .cells #[.int .i64 a0_0, .int .i64 a0_1, .slice A0_2 l0_2.length c0_2, .slice A0_3 l0_3.length c0_3, .slice A0_4 l0_4.length c0_4, .slice A0_5 l0_5.length c0_5] 61 (0, 0)) (by (with_reducible repeat (first | refine blk_drewN ?_ _ | refine blk_drew ?_ | refine blk_alloc ?_ _)); exact BK825.out) hb); have n5_ := Aside0.mk (below_step (by repeat (first | (with_reducible first | exact HB.out | apply below_alloc | apply pw_below_drewN | apply below_drew1 | refine below_set ?_ GE825.out) | exact HB.out)) hb); clear BK825; clear HB; have HO830 := n0_; have HO833 := n1_; have HO836 := n2_; have HO839 := n3_; have BK825 := n4_; have HB := n5_; clear n0_ n1_ n2_ n3_ n4_ n5_; (try clear hb); (try clear hb2); (try clear hk); (try clear hi); (try clear ho0); (try clear ho1); (try clear ho2); (try clear ho3); obtain ⟨Ao13, co13, eo13⟩ := Kd.R_slice HO830.out; subst eo13; obtain ⟨Ao14, co14, eo14⟩ := Kd.R_slice HO833.out; subst eo14; obtain ⟨Ao15, co15, eo15⟩ := Kd.R_slice HO836.out; subst eo15; obtain ⟨Ao16, co16, eo16⟩ := Kd.R_slice HO839.out; subst eo16) | ((with_reducible refine gate_callee (f := 44) rfl ?_); refine goesL_ (some 23) rfl rfl Try.func44 (by kernel_rfl) rfl #[.agg #[.int .i64 t826, .int .i64 t827, .slice Ao13 t828.length co13, .slice Ao14 t831.length co14, .slice Ao15 t834.length co15, .slice Ao16 t837.length co16]] rfl (by (try simp only [List.map_toArray, List.map_cons, List.map_nil]); first | done | rfl | (simp only [List.length_drop, List.length_take]; rfl)) ?_; (with_reducible refine (wax_Prices.calls t826 t827 _ _ t828 _ _ t831 _ _ t834 _ _ t837 t840 t843 _ ?side1 ?side2 ?side3 ?side4 ?side5 ?side6 ?side7 ?side8 A4.out).mono ?_); (case side1 => repeat (first | exact (Kd.R_reads' HO830.out).2.2 | (with_reducible refine Kd.C_alloc ?_ _) | (with_reducible refine Kd.C_drewN ?_ _) | (with_reducible refine Kd.C_drew ?_))); (case side2 => exact (Kd.R_reads' HO830.out).2.1); (case side3 => repeat (first | exact (Kd.R_reads' HO833.out).2.2 | (with_reducible refine Kd.C_alloc ?_ _) | (with_reducible refine Kd.C_drewN ?_ _) | (with_reducible refine Kd.C_drew ?_))); (case side4 => exact (Kd.R_reads' HO833.out).2.1); (case side5 => repeat (first | exact (Kd.R_reads' HO836.out).2.2 | (with_reducible refine Kd.C_alloc ?_ _) | (with_reducible refine Kd.C_drewN ?_ _) | (with_reducible refine Kd.C_drew ?_))); (case side6 => exact (Kd.R_reads' HO836.out).2.1); (case side7 => repeat (first | exact (Kd.R_reads' HO839.out).2.2 | (with_reducible refine Kd.C_alloc ?_ _) | (with_reducible refine Kd.C_drewN ?_ _) | (with_reducible refine Kd.C_drew ?_))); (case side8 => exact (Kd.R_reads' HO839.out).2.1); rintro e w17 ⟨v841, rfl, ho0, hb⟩; refine ⟨_, rfl, ?_⟩; have n0_ := Aside0.mk (Kd.R_elder' (by (with_reducible repeat (first | apply Kd.R_alloc | apply Kd.R_drewN | apply Kd.R_drew)); exact HO830.out) (Kd.R_base ho0) hb); have n1_ := Aside0.mk (Kd.R_elder' (by (with_reducible repeat (first | apply Kd.R_alloc | apply Kd.R_drewN | apply Kd.R_drew)); exact HO833.out) (Kd.R_base ho0) hb); have n2_ := Aside0.mk (Kd.R_elder' (by (with_reducible repeat (first | apply Kd.R_alloc | apply Kd.R_drewN | apply Kd.R_drew)); exact HO836.out) (Kd.R_base ho0) hb); have n3_ := Aside0.mk (Kd.R_elder' (by (with_reducible repeat (first | apply Kd.R_alloc | apply Kd.R_drewN | apply Kd.R_drew)); exact HO839.out) (Kd.R_base ho0) hb); have n4_ := Aside0.mk (Kd.R_lower (Kd.R_new' (Kd.R_new' (Kd.R_new' (Kd.R_new' ho0 (Kd.R_lt (by (with_reducible repeat (first | apply Kd.R_alloc | apply Kd.R_drewN | apply Kd.R_drew)); exact HO830.out))) (Kd.R_lt (by (with_reducible repeat (first | apply Kd.R_alloc | apply Kd.R_drewN | apply Kd.R_drew)); exact HO833.out))) (Kd.R_lt (by (with_reducible repeat (first | apply Kd.R_alloc | apply Kd.R_drewN | apply Kd.R_drew)); exact HO836.out))) (Kd.R_lt (by (with_reducible repeat (first | apply Kd.R_alloc | apply Kd.R_drewN | apply Kd.R_drew)); exact HO839.out))) (below_size (by repeat (first | (with_reducible first | exact HB.out | apply below_alloc | apply pw_below_drewN | apply below_drew1 | refine below_set ?_ GE825.out) | exact HB.out)))); have n5_ := Aside0.mk (blk_below (g := gb825) (o := .cells #[.int .i64 a0_0, .int .i64 a0_1, .slice A0_2 l0_2.length c0_2, .slice A0_3 l0_3.length c0_3, .slice A0_4 l0_4.length c0_4, .slice A0_5 l0_5.length c0_5] 61 (0, 0)) (by (with_reducible repeat (first | refine blk_drewN ?_ _ | refine blk_drew ?_ | refine blk_alloc ?_ _)); exact BK825.out) hb); have n6_ := Aside0.mk (below_step (by repeat (first | (with_reducible first | exact HB.out | apply below_alloc | apply pw_below_drewN | apply below_drew1 | refine below_set ?_ GE825.out) | exact HB.out)) hb); clear HO830; clear HO833; clear HO836; clear HO839; clear BK825; clear HB; have HO830 := n0_; have HO833 := n1_; have HO836 := n2_; have HO839 := n3_; have HO842 := n4_; have BK825 := n5_; have HB := n6_; clear n0_ n1_ n2_ n3_ n4_ n5_ n6_; (try clear hb); (try clear hb2); (try clear hk); (try clear hi); (try clear ho0); have hcz18_0 : w17.cell? ⟨gb825, 0, none⟩ = some (.int .i64 a0_0) := (blk_cell BK825.out 0).trans rfl; have hcz18_1 : w17.cell? ⟨gb825, 1, none⟩ = some (.int .i64 a0_1) := (blk_cell BK825.out 1).trans rfl; have hcz18_2 : w17.cell? ⟨gb825, 2, none⟩ = some (.slice A0_2 l0_2.length c0_2) := (blk_cell BK825.out 2).trans rfl; have hcz18_3 : w17.cell? ⟨gb825, 3, none⟩ = some (.slice A0_3 l0_3.length c0_3) := (blk_cell BK825.out 3).trans rfl; have hcz18_4 : w17.cell? ⟨gb825, 4, none⟩ = some (.slice A0_4 l0_4.length c0_4) := (blk_cell BK825.out 4).trans rfl; have hcz18_5 : w17.cell? ⟨gb825, 5, none⟩ = some (.slice A0_5 l0_5.length c0_5) := (blk_cell BK825.out 5).trans rfl; have hfz18_0 := blk_frozen BK825.out 0; have hfz18_1 := blk_frozen BK825.out 1; have hfz18_2 := blk_frozen BK825.out 2; have hfz18_3 := blk_frozen BK825.out 3; have hfz18_4 := blk_frozen BK825.out 4; have hfz18_5 := blk_frozen BK825.out 5) | ((with_reducible refine gate_callee (f := 32) rfl ?_); refine goesL_ (some 28) rfl rfl Try.func32 (by kernel_rfl) rfl #[.agg #[.int .i64 a0_0, .int .i64 a0_1, .slice A0_2 l0_2.length c0_2, .slice A0_3 l0_3.length c0_3, .slice A0_4 l0_4.length c0_4, .slice A0_5 l0_5.length c0_5]] rfl (by (try simp only [List.map_toArray, List.map_cons, List.map_nil]); first | done | rfl | (simp only [List.length_drop, List.length_take]; rfl)) ?_; (with_reducible refine (cantinglaw07_cloth.calls a0_0 a0_1 _ _ l0_2 _ _ l0_3 _ _ l0_4 _ _ l0_5 t844 t845 t846 t849 t852 t855 _ ?side1 ?side2 ?side3 ?side4 ?side5 ?side6 ?side7 ?side8 A5.out).mono ?_); (case side1 => repeat (first | exact (Kd.C_below HR0_2.out HB.out) | (with_reducible refine Kd.C_alloc ?_ _) | (with_reducible refine Kd.C_drewN ?_ _) | (with_reducible refine Kd.C_drew ?_))); (case side2 => exact HC0_2.out); (case side3 => repeat (first | exact (Kd.C_below HR0_3.out HB.out) | (with_reducible refine Kd.C_alloc ?_ _) | (with_reducible refine Kd.C_drewN ?_ _) | (with_reducible refine Kd.C_drew ?_))); (case side4 => exact HC0_3.out); (case side5 => repeat (first | exact (Kd.C_below HR0_4.out HB.out) | (with_reducible refine Kd.C_alloc ?_ _) | (with_reducible refine Kd.C_drewN ?_ _) | (with_reducible refine Kd.C_drew ?_))); (case side6 => exact HC0_4.out); (case side7 => repeat (first | exact (Kd.C_below HR0_5.out HB.out) | (with_reducible refine Kd.C_alloc ?_ _) | (with_reducible refine Kd.C_drewN ?_ _) | (with_reducible refine Kd.C_drew ?_))); (case side8 => exact HC0_5.out); rintro e w19 ⟨v847, v850, v853, v856, rfl, ho0, ho1, ho2, ho3, hb⟩; refine ⟨_, rfl, ?_⟩; have n0_ := Aside0.mk (Kd.R_mono (Kd.R_told (Kd.R_told (Kd.R_told (Kd.R_told (Kd.R_old (by (with_reducible repeat (first | apply Kd.R_alloc | apply Kd.R_drewN | apply Kd.R_drew)); exact HO830.out) hb) (Kd.R_base ho0)) (Kd.R_base ho1)) (Kd.R_base ho2)) (Kd.R_base ho3)) (fun _ h_ => h_.1)); have n1_ := Aside0.mk (Kd.R_mono (Kd.R_told (Kd.R_told (Kd.R_told (Kd.R_told (Kd.R_old (by (with_reducible repeat (first | apply Kd.R_alloc | apply Kd.R_drewN | apply Kd.R_drew)); exact HO833.out) hb) (Kd.R_base ho0)) (Kd.R_base ho1)) (Kd.R_base ho2)) (Kd.R_base ho3)) (fun _ h_ => h_.1)); have n2_ := Aside0.mk (Kd.R_mono (Kd.R_told (Kd.R_told (Kd.R_told (Kd.R_told (Kd.R_old (by (with_reducible repeat (first | apply Kd.R_alloc | apply Kd.R_drewN | apply Kd.R_drew)); exact HO836.out) hb) (Kd.R_base ho0)) (Kd.R_base ho1)) (Kd.R_base ho2)) (Kd.R_base ho3)) (fun _ h_ => h_.1)); have n3_ := Aside0.mk (Kd.R_mono (Kd.R_told (Kd.R_told (Kd.R_told (Kd.R_told (Kd.R_old (by (with_reducible repeat (first | apply Kd.R_alloc | apply Kd.R_drewN | apply Kd.R_drew)); exact HO839.out) hb) (Kd.R_base ho0)) (Kd.R_base ho1)) (Kd.R_base ho2)) (Kd.R_base ho3)) (fun _ h_ => h_.1)); have n4_ := Aside0.mk (Kd.R_mono (Kd.R_told (Kd.R_told (Kd.R_told (Kd.R_told (Kd.R_old (by (with_reducible repeat (first | apply Kd.R_alloc | apply Kd.R_drewN | apply Kd.R_drew)); exact HO842.out) hb) (Kd.R_base ho0)) (Kd.R_base ho1)) (Kd.R_base ho2)) (Kd.R_base ho3)) (fun _ h_ => h_.1)); have n5_ := Aside0.mk (Kd.R_lower (Kd.R_new' (Kd.R_new' (Kd.R_new' (Kd.R_new' (Kd.R_new' ho0 (Kd.R_lt (by (with_reducible repeat (first | apply Kd.R_alloc | apply Kd.R_drewN | apply Kd.R_drew)); exact HO830.out))) (Kd.R_lt (by (with_reducible repeat (first | apply Kd.R_alloc | apply Kd.R_drewN | apply Kd.R_drew)); exact HO833.out))) (Kd.R_lt (by (with_reducible repeat (first | apply Kd.R_alloc | apply Kd.R_drewN | apply Kd.R_drew)); exact HO836.out))) (Kd.R_lt (by (with_reducible repeat (first | apply Kd.R_alloc | apply Kd.R_drewN | apply Kd.R_drew)); exact HO839.out))) (Kd.R_lt (by (with_reducible repeat (first | apply Kd.R_alloc | apply Kd.R_drewN | apply Kd.R_drew)); exact HO842.out))) (below_size (by repeat (first | (with_reducible first | exact HB.out | apply below_alloc | apply pw_below_drewN | apply below_drew1 | refine below_set ?_ GE825.out) | exact HB.out)))); have n6_ := Aside0.mk (Kd.R_lower (Kd.R_new' (Kd.R_new' (Kd.R_new' (Kd.R_new' (Kd.R_new' ho1 (Kd.R_lt (by (with_reducible repeat (first | apply Kd.R_alloc | apply Kd.R_drewN | apply Kd.R_drew)); exact HO830.out))) (Kd.R_lt (by (with_reducible repeat (first | apply Kd.R_alloc | apply Kd.R_drewN | apply Kd.R_drew)); exact HO833.out))) (Kd.R_lt (by (with_reducible repeat (first | apply Kd.R_alloc | apply Kd.R_drewN | apply Kd.R_drew)); exact HO836.out))) (Kd.R_lt (by (with_reducible repeat (first | apply Kd.R_alloc | apply Kd.R_drewN | apply Kd.R_drew)); exact HO839.out))) (Kd.R_lt (by (with_reducible repeat (first | apply Kd.R_alloc | apply Kd.R_drewN | apply Kd.R_drew)); exact HO842.out))) (below_size (by repeat (first | (with_reducible first | exact HB.out | apply below_alloc | apply pw_below_drewN | apply below_drew1 | refine below_set ?_ GE825.out) | exact HB.out)))); have n7_ := Aside0.mk (Kd.R_lower (Kd.R_new' (Kd.R_new' (Kd.R_new' (Kd.R_new' (Kd.R_new' ho2 (Kd.R_lt (by (with_reducible repeat (first | apply Kd.R_alloc | apply Kd.R_drewN | apply Kd.R_drew)); exact HO830.out))) (Kd.R_lt (by (with_reducible repeat (first | apply Kd.R_alloc | apply Kd.R_drewN | apply Kd.R_drew)); exact HO833.out))) (Kd.R_lt (by (with_reducible repeat (first | apply Kd.R_alloc | apply Kd.R_drewN | apply Kd.R_drew)); exact HO836.out))) (Kd.R_lt (by (with_reducible repeat (first | apply Kd.R_alloc | apply Kd.R_drewN | apply Kd.R_drew)); exact HO839.out))) (Kd.R_lt (by (with_reducible repeat (first | apply Kd.R_alloc | apply Kd.R_drewN | apply Kd.R_drew)); exact HO842.out))) (below_size (by repeat (first | (with_reducible first | exact HB.out | apply below_alloc | apply pw_below_drewN | apply below_drew1 | refine below_set ?_ GE825.out) | exact HB.out)))); have n8_ := Aside0.mk (Kd.R_lower (Kd.R_new' (Kd.R_new' (Kd.R_new' (Kd.R_new' (Kd.R_new' ho3 (Kd.R_lt (by (with_reducible repeat (first | apply Kd.R_alloc | apply Kd.R_drewN | apply Kd.R_drew)); exact HO830.out))) (Kd.R_lt (by (with_reducible repeat (first | apply Kd.R_alloc | apply Kd.R_drewN | apply Kd.R_drew)); exact HO833.out))) (Kd.R_lt (by (with_reducible repeat (first | apply Kd.R_alloc | apply Kd.R_drewN | apply Kd.R_drew)); exact HO836.out))) (Kd.R_lt (by (with_reducible repeat (first | apply Kd.R_alloc | apply Kd.R_drewN | apply Kd.R_drew)); exact HO839.out))) (Kd.R_lt (by (with_reducible repeat (first | apply Kd.R_alloc | apply Kd.R_drewN | apply Kd.R_drew)); exact HO842.out))) (below_size (by repeat (first | (with_reducible first | exact HB.out | apply below_alloc | apply pw_below_drewN | apply below_drew1 | refine below_set ?_ GE825.out) | exact HB.out)))); have n9_ := Aside0.mk (blk_below (g := gb825) (o := .cells #[.int .i64 a0_0, .int .i64 a0_1, .slice A0_2 l0_2.length c0_2, .slice A0_3 l0_3.length c0_3, .slice A0_4 l0_4.length c0_4, .slice A0_5 l0_5.length c0_5] 61 (0, 0)) (by (with_reducible repeat (first | refine blk_drewN ?_ _ | refine blk_drew ?_ | refine blk_alloc ?_ _)); exact BK825.out) hb); have n10_ := Aside0.mk (below_step (by repeat (first | (with_reducible first | exact HB.out | apply below_alloc | apply pw_below_drewN | apply below_drew1 | refine below_set ?_ GE825.out) | exact HB.out)) hb); clear HO830; clear HO833; clear HO836; clear HO839; clear HO842; clear BK825; clear HB; have HO830 := n0_; have HO833 := n1_; have HO836 := n2_; have HO839 := n3_; have HO842 := n4_; have HO848 := n5_; have HO851 := n6_; have HO854 := n7_; have HO857 := n8_; have BK825 := n9_; have HB := n10_; clear n0_ n1_ n2_ n3_ n4_ n5_ n6_ n7_ n8_ n9_ n10_; (try clear hb); (try clear hb2); (try clear hk); (try clear hi); (try clear ho0); (try clear ho1); (try clear ho2); (try clear ho3); obtain ⟨Ao20, co20, eo20⟩ := Kd.R_slice HO848.out; subst eo20; obtain ⟨Ao21, co21, eo21⟩ := Kd.R_slice HO851.out; subst eo21; obtain ⟨Ao22, co22, eo22⟩ := Kd.R_slice HO854.out; subst eo22; obtain ⟨Ao23, co23, eo23⟩ := Kd.R_slice HO857.out; subst eo23) | ((with_reducible refine gate_callee (f := 41) rfl ?_); refine goesL_ (some 30) rfl rfl Try.func41 (by kernel_rfl) rfl #[.agg #[.int .i64 t844, .int .i64 t845, .slice Ao20 t846.length co20, .slice Ao21 t849.length co21, .slice Ao22 t852.length co22, .slice Ao23 t855.length co23], .int .i64 (wrap64 ((wrap64 (Int.tmod (IntKind.u64.wrap (a1)) 12001)) - 6000))] rfl (by (try simp only [List.map_toArray, List.map_cons, List.map_nil]); first | done | rfl | (simp only [List.length_drop, List.length_take]; rfl)) ?_; (with_reducible refine (wax_Labels.calls t844 t845 _ _ t846 _ _ t849 _ _ t852 _ _ t855 (wrap64 ((wrap64 (Int.tmod (IntKind.u64.wrap (a1)) 12001)) - 6000)) t858 t861 t864 _ ?side1 ?side2 ?side3 ?side4 ?side5 ?side6 ?side7 ?side8 A6.out).mono ?_); (case side1 => repeat (first | exact (Kd.R_reads' HO848.out).2.2 | (with_reducible refine Kd.C_alloc ?_ _) | (with_reducible refine Kd.C_drewN ?_ _) | (with_reducible refine Kd.C_drew ?_))); (case side2 => exact (Kd.R_reads' HO848.out).2.1); (case side3 => repeat (first | exact (Kd.R_reads' HO851.out).2.2 | (with_reducible refine Kd.C_alloc ?_ _) | (with_reducible refine Kd.C_drewN ?_ _) | (with_reducible refine Kd.C_drew ?_))); (case side4 => exact (Kd.R_reads' HO851.out).2.1); (case side5 => repeat (first | exact (Kd.R_reads' HO854.out).2.2 | (with_reducible refine Kd.C_alloc ?_ _) | (with_reducible refine Kd.C_drewN ?_ _) | (with_reducible refine Kd.C_drew ?_))); (case side6 => exact (Kd.R_reads' HO854.out).2.1); (case side7 => repeat (first | exact (Kd.R_reads' HO857.out).2.2 | (with_reducible refine Kd.C_alloc ?_ _) | (with_reducible refine Kd.C_drewN ?_ _) | (with_reducible refine Kd.C_drew ?_))); (case side8 => exact (Kd.R_reads' HO857.out).2.1); rintro e w24 ⟨v859, v862, rfl, ho0, ho1, hb⟩; refine ⟨_, rfl, ?_⟩; have n0_ := Aside0.mk (Kd.R_below (by (with_reducible repeat (first | apply Kd.R_alloc | apply Kd.R_drewN | apply Kd.R_drew)); exact HO830.out) hb); have n1_ := Aside0.mk (Kd.R_below (by (with_reducible repeat (first | apply Kd.R_alloc | apply Kd.R_drewN | apply Kd.R_drew)); exact HO833.out) hb); have n2_ := Aside0.mk (Kd.R_below (by (with_reducible repeat (first | apply Kd.R_alloc | apply Kd.R_drewN | apply Kd.R_drew)); exact HO836.out) hb); have n3_ := Aside0.mk (Kd.R_below (by (with_reducible repeat (first | apply Kd.R_alloc | apply Kd.R_drewN | apply Kd.R_drew)); exact HO839.out) hb); have n4_ := Aside0.mk (Kd.R_below (by (with_reducible repeat (first | apply Kd.R_alloc | apply Kd.R_drewN | apply Kd.R_drew)); exact HO842.out) hb); have n5_ := Aside0.mk (Kd.R_below (by (with_reducible repeat (first | apply Kd.R_alloc | apply Kd.R_drewN | apply Kd.R_drew)); exact HO848.out) hb); have n6_ := Aside0.mk (Kd.R_below (by (with_reducible repeat (first | apply Kd.R_alloc | apply Kd.R_drewN | apply Kd.R_drew)); exact HO851.out) hb); have n7_ := Aside0.mk (Kd.R_below (by (with_reducible repeat (first | apply Kd.R_alloc | apply Kd.R_drewN | apply Kd.R_drew)); exact HO854.out) hb); have n8_ := Aside0.mk (Kd.R_below (by (with_reducible repeat (first | apply Kd.R_alloc | apply Kd.R_drewN | apply Kd.R_drew)); exact HO857.out) hb); have n9_ := Aside0.mk (Kv.R_lower ho0 (below_size (by repeat (first | (with_reducible first | exact HB.out | apply below_alloc | apply pw_below_drewN | apply below_drew1 | refine below_set ?_ GE825.out) | exact HB.out)))); have n10_ := Aside0.mk (Kv.R_lower ho1 (below_size (by repeat (first | (with_reducible first | exact HB.out | apply below_alloc | apply pw_below_drewN | apply below_drew1 | refine below_set ?_ GE825.out) | exact HB.out)))); have n11_ := Aside0.mk (blk_below (g := gb825) (o := .cells #[.int .i64 a0_0, .int .i64 a0_1, .slice A0_2 l0_2.length c0_2, .slice A0_3 l0_3.length c0_3, .slice A0_4 l0_4.length c0_4, .slice A0_5 l0_5.length c0_5] 61 (0, 0)) (by (with_reducible repeat (first | refine blk_drewN ?_ _ | refine blk_drew ?_ | refine blk_alloc ?_ _)); exact BK825.out) hb); have n12_ := Aside0.mk (below_step (by repeat (first | (with_reducible first | exact HB.out | apply below_alloc | apply pw_below_drewN | apply below_drew1 | refine below_set ?_ GE825.out) | exact HB.out)) hb); clear HO830; clear HO833; clear HO836; clear HO839; clear HO842; clear HO848; clear HO851; clear HO854; clear HO857; clear BK825; clear HB; have HO830 := n0_; have HO833 := n1_; have HO836 := n2_; have HO839 := n3_; have HO842 := n4_; have HO848 := n5_; have HO851 := n6_; have HO854 := n7_; have HO857 := n8_; have HO860 := n9_; have HO863 := n10_; have BK825 := n11_; have HB := n12_; clear n0_ n1_ n2_ n3_ n4_ n5_ n6_ n7_ n8_ n9_ n10_ n11_ n12_; (try clear hb); (try clear hb2); (try clear hk); (try clear hi); (try clear ho0); (try clear ho1); have hcz25_0 : w24.cell? ⟨gb825, 0, none⟩ = some (.int .i64 a0_0) := (blk_cell BK825.out 0).trans rfl; have hcz25_1 : w24.cell? ⟨gb825, 1, none⟩ = some (.int .i64 a0_1) := (blk_cell BK825.out 1).trans rfl; have hcz25_2 : w24.cell? ⟨gb825, 2, none⟩ = some (.slice A0_2 l0_2.length c0_2) := (blk_cell BK825.out 2).trans rfl; have hcz25_3 : w24.cell? ⟨gb825, 3, none⟩ = some (.slice A0_3 l0_3.length c0_3) := (blk_cell BK825.out 3).trans rfl; have hcz25_4 : w24.cell? ⟨gb825, 4, none⟩ = some (.slice A0_4 l0_4.length c0_4) := (blk_cell BK825.out 4).trans rfl; have hcz25_5 : w24.cell? ⟨gb825, 5, none⟩ = some (.slice A0_5 l0_5.length c0_5) := (blk_cell BK825.out 5).trans rfl; have hfz25_0 := blk_frozen BK825.out 0; have hfz25_1 := blk_frozen BK825.out 1; have hfz25_2 := blk_frozen BK825.out 2; have hfz25_3 := blk_frozen BK825.out 3; have hfz25_4 := blk_frozen BK825.out 4; have hfz25_5 := blk_frozen BK825.out 5) | ((with_reducible refine gate_callee (f := 32) rfl ?_); refine goesL_ (some 36) rfl rfl Try.func32 (by kernel_rfl) rfl #[.agg #[.int .i64 a0_0, .int .i64 a0_1, .slice A0_2 l0_2.length c0_2, .slice A0_3 l0_3.length c0_3, .slice A0_4 l0_4.length c0_4, .slice A0_5 l0_5.length c0_5]] rfl (by (try simp only [List.map_toArray, List.map_cons, List.map_nil]); first | done | rfl | (simp only [List.length_drop, List.length_take]; rfl)) ?_; (with_reducible refine (cantinglaw07_cloth.calls a0_0 a0_1 _ _ l0_2 _ _ l0_3 _ _ l0_4 _ _ l0_5 t865 t866 t867 t870 t873 t876 _ ?side1 ?side2 ?side3 ?side4 ?side5 ?side6 ?side7 ?side8 A7.out).mono ?_); (case side1 => repeat (first | exact (Kd.C_below HR0_2.out HB.out) | (with_reducible refine Kd.C_alloc ?_ _) | (with_reducible refine Kd.C_drewN ?_ _) | (with_reducible refine Kd.C_drew ?_))); (case side2 => exact HC0_2.out); (case side3 => repeat (first | exact (Kd.C_below HR0_3.out HB.out) | (with_reducible refine Kd.C_alloc ?_ _) | (with_reducible refine Kd.C_drewN ?_ _) | (with_reducible refine Kd.C_drew ?_))); (case side4 => exact HC0_3.out); (case side5 => repeat (first | exact (Kd.C_below HR0_4.out HB.out) | (with_reducible refine Kd.C_alloc ?_ _) | (with_reducible refine Kd.C_drewN ?_ _) | (with_reducible refine Kd.C_drew ?_))); (case side6 => exact HC0_4.out); (case side7 => repeat (first | exact (Kd.C_below HR0_5.out HB.out) | (with_reducible refine Kd.C_alloc ?_ _) | (with_reducible refine Kd.C_drewN ?_ _) | (with_reducible refine Kd.C_drew ?_))); (case side8 => exact HC0_5.out); rintro e w26 ⟨v868, v871, v874, v877, rfl, ho0, ho1, ho2, ho3, hb⟩; refine ⟨_, rfl, ?_⟩; have n0_ := Aside0.mk (Kd.R_mono (Kd.R_told (Kd.R_told (Kd.R_told (Kd.R_told (Kd.R_old (by (with_reducible repeat (first | apply Kd.R_alloc | apply Kd.R_drewN | apply Kd.R_drew)); exact HO830.out) hb) (Kd.R_base ho0)) (Kd.R_base ho1)) (Kd.R_base ho2)) (Kd.R_base ho3)) (fun _ h_ => h_.1)); have n1_ := Aside0.mk (Kd.R_mono (Kd.R_told (Kd.R_told (Kd.R_told (Kd.R_told (Kd.R_old (by (with_reducible repeat (first | apply Kd.R_alloc | apply Kd.R_drewN | apply Kd.R_drew)); exact HO833.out) hb) (Kd.R_base ho0)) (Kd.R_base ho1)) (Kd.R_base ho2)) (Kd.R_base ho3)) (fun _ h_ => h_.1)); have n2_ := Aside0.mk (Kd.R_mono (Kd.R_told (Kd.R_told (Kd.R_told (Kd.R_told (Kd.R_old (by (with_reducible repeat (first | apply Kd.R_alloc | apply Kd.R_drewN | apply Kd.R_drew)); exact HO836.out) hb) (Kd.R_base ho0)) (Kd.R_base ho1)) (Kd.R_base ho2)) (Kd.R_base ho3)) (fun _ h_ => h_.1)); have n3_ := Aside0.mk (Kd.R_mono (Kd.R_told (Kd.R_told (Kd.R_told (Kd.R_told (Kd.R_old (by (with_reducible repeat (first | apply Kd.R_alloc | apply Kd.R_drewN | apply Kd.R_drew)); exact HO839.out) hb) (Kd.R_base ho0)) (Kd.R_base ho1)) (Kd.R_base ho2)) (Kd.R_base ho3)) (fun _ h_ => h_.1)); have n4_ := Aside0.mk (Kd.R_mono (Kd.R_told (Kd.R_told (Kd.R_told (Kd.R_told (Kd.R_old (by (with_reducible repeat (first | apply Kd.R_alloc | apply Kd.R_drewN | apply Kd.R_drew)); exact HO842.out) hb) (Kd.R_base ho0)) (Kd.R_base ho1)) (Kd.R_base ho2)) (Kd.R_base ho3)) (fun _ h_ => h_.1)); have n5_ := Aside0.mk (Kd.R_mono (Kd.R_told (Kd.R_told (Kd.R_told (Kd.R_told (Kd.R_old (by (with_reducible repeat (first | apply Kd.R_alloc | apply Kd.R_drewN | apply Kd.R_drew)); exact HO848.out) hb) (Kd.R_base ho0)) (Kd.R_base ho1)) (Kd.R_base ho2)) (Kd.R_base ho3)) (fun _ h_ => h_.1)); have n6_ := Aside0.mk (Kd.R_mono (Kd.R_told (Kd.R_told (Kd.R_told (Kd.R_told (Kd.R_old (by (with_reducible repeat (first | apply Kd.R_alloc | apply Kd.R_drewN | apply Kd.R_drew)); exact HO851.out) hb) (Kd.R_base ho0)) (Kd.R_base ho1)) (Kd.R_base ho2)) (Kd.R_base ho3)) (fun _ h_ => h_.1)); have n7_ := Aside0.mk (Kd.R_mono (Kd.R_told (Kd.R_told (Kd.R_told (Kd.R_told (Kd.R_old (by (with_reducible repeat (first | apply Kd.R_alloc | apply Kd.R_drewN | apply Kd.R_drew)); exact HO854.out) hb) (Kd.R_base ho0)) (Kd.R_base ho1)) (Kd.R_base ho2)) (Kd.R_base ho3)) (fun _ h_ => h_.1)); have n8_ := Aside0.mk (Kd.R_mono (Kd.R_told (Kd.R_told (Kd.R_told (Kd.R_told (Kd.R_old (by (with_reducible repeat (first | apply Kd.R_alloc | apply Kd.R_drewN | apply Kd.R_drew)); exact HO857.out) hb) (Kd.R_base ho0)) (Kd.R_base ho1)) (Kd.R_base ho2)) (Kd.R_base ho3)) (fun _ h_ => h_.1)); have n9_ := Aside0.mk (Kv.R_below (by (with_reducible repeat (first | apply Kv.R_alloc | apply Kv.R_drewN | apply Kv.R_drew)); exact HO860.out) hb); have n10_ := Aside0.mk (Kv.R_below (by (with_reducible repeat (first | apply Kv.R_alloc | apply Kv.R_drewN | apply Kv.R_drew)); exact HO863.out) hb); have n11_ := Aside0.mk (Kd.R_lower (Kd.R_new' (Kd.R_new' (Kd.R_new' (Kd.R_new' (Kd.R_new' (Kd.R_new' (Kd.R_new' (Kd.R_new' (Kd.R_new' ho0 (Kd.R_lt (by (with_reducible repeat (first | apply Kd.R_alloc | apply Kd.R_drewN | apply Kd.R_drew)); exact HO830.out))) (Kd.R_lt (by (with_reducible repeat (first | apply Kd.R_alloc | apply Kd.R_drewN | apply Kd.R_drew)); exact HO833.out))) (Kd.R_lt (by (with_reducible repeat (first | apply Kd.R_alloc | apply Kd.R_drewN | apply Kd.R_drew)); exact HO836.out))) (Kd.R_lt (by (with_reducible repeat (first | apply Kd.R_alloc | apply Kd.R_drewN | apply Kd.R_drew)); exact HO839.out))) (Kd.R_lt (by (with_reducible repeat (first | apply Kd.R_alloc | apply Kd.R_drewN | apply Kd.R_drew)); exact HO842.out))) (Kd.R_lt (by (with_reducible repeat (first | apply Kd.R_alloc | apply Kd.R_drewN | apply Kd.R_drew)); exact HO848.out))) (Kd.R_lt (by (with_reducible repeat (first | apply Kd.R_alloc | apply Kd.R_drewN | apply Kd.R_drew)); exact HO851.out))) (Kd.R_lt (by (with_reducible repeat (first | apply Kd.R_alloc | apply Kd.R_drewN | apply Kd.R_drew)); exact HO854.out))) (Kd.R_lt (by (with_reducible repeat (first | apply Kd.R_alloc | apply Kd.R_drewN | apply Kd.R_drew)); exact HO857.out))) (below_size (by repeat (first | (with_reducible first | exact HB.out | apply below_alloc | apply pw_below_drewN | apply below_drew1 | refine below_set ?_ GE825.out) | exact HB.out)))); have n12_ := Aside0.mk (Kd.R_lower (Kd.R_new' (Kd.R_new' (Kd.R_new' (Kd.R_new' (Kd.R_new' (Kd.R_new' (Kd.R_new' (Kd.R_new' (Kd.R_new' ho1 (Kd.R_lt (by (with_reducible repeat (first | apply Kd.R_alloc | apply Kd.R_drewN | apply Kd.R_drew)); exact HO830.out))) (Kd.R_lt (by (with_reducible repeat (first | apply Kd.R_alloc | apply Kd.R_drewN | apply Kd.R_drew)); exact HO833.out))) (Kd.R_lt (by (with_reducible repeat (first | apply Kd.R_alloc | apply Kd.R_drewN | apply Kd.R_drew)); exact HO836.out))) (Kd.R_lt (by (with_reducible repeat (first | apply Kd.R_alloc | apply Kd.R_drewN | apply Kd.R_drew)); exact HO839.out))) (Kd.R_lt (by (with_reducible repeat (first | apply Kd.R_alloc | apply Kd.R_drewN | apply Kd.R_drew)); exact HO842.out))) (Kd.R_lt (by (with_reducible repeat (first | apply Kd.R_alloc | apply Kd.R_drewN | apply Kd.R_drew)); exact HO848.out))) (Kd.R_lt (by (with_reducible repeat (first | apply Kd.R_alloc | apply Kd.R_drewN | apply Kd.R_drew)); exact HO851.out))) (Kd.R_lt (by (with_reducible repeat (first | apply Kd.R_alloc | apply Kd.R_drewN | apply Kd.R_drew)); exact HO854.out))) (Kd.R_lt (by (with_reducible repeat (first | apply Kd.R_alloc | apply Kd.R_drewN | apply Kd.R_drew)); exact HO857.out))) (below_size (by repeat (first | (with_reducible first | exact HB.out | apply below_alloc | apply pw_below_drewN | apply below_drew1 | refine below_set ?_ GE825.out) | exact HB.out)))); have n13_ := Aside0.mk (Kd.R_lower (Kd.R_new' (Kd.R_new' (Kd.R_new' (Kd.R_new' (Kd.R_new' (Kd.R_new' (Kd.R_new' (Kd.R_new' (Kd.R_new' ho2 (Kd.R_lt (by (with_reducible repeat (first | apply Kd.R_alloc | apply Kd.R_drewN | apply Kd.R_drew)); exact HO830.out))) (Kd.R_lt (by (with_reducible repeat (first | apply Kd.R_alloc | apply Kd.R_drewN | apply Kd.R_drew)); exact HO833.out))) (Kd.R_lt (by (with_reducible repeat (first | apply Kd.R_alloc | apply Kd.R_drewN | apply Kd.R_drew)); exact HO836.out))) (Kd.R_lt (by (with_reducible repeat (first | apply Kd.R_alloc | apply Kd.R_drewN | apply Kd.R_drew)); exact HO839.out))) (Kd.R_lt (by (with_reducible repeat (first | apply Kd.R_alloc | apply Kd.R_drewN | apply Kd.R_drew)); exact HO842.out))) (Kd.R_lt (by (with_reducible repeat (first | apply Kd.R_alloc | apply Kd.R_drewN | apply Kd.R_drew)); exact HO848.out))) (Kd.R_lt (by (with_reducible repeat (first | apply Kd.R_alloc | apply Kd.R_drewN | apply Kd.R_drew)); exact HO851.out))) (Kd.R_lt (by (with_reducible repeat (first | apply Kd.R_alloc | apply Kd.R_drewN | apply Kd.R_drew)); exact HO854.out))) (Kd.R_lt (by (with_reducible repeat (first | apply Kd.R_alloc | apply Kd.R_drewN | apply Kd.R_drew)); exact HO857.out))) (below_size (by repeat (first | (with_reducible first | exact HB.out | apply below_alloc | apply pw_below_drewN | apply below_drew1 | refine below_set ?_ GE825.out) | exact HB.out)))); have n14_ := Aside0.mk (Kd.R_lower (Kd.R_new' (Kd.R_new' (Kd.R_new' (Kd.R_new' (Kd.R_new' (Kd.R_new' (Kd.R_new' (Kd.R_new' (Kd.R_new' ho3 (Kd.R_lt (by (with_reducible repeat (first | apply Kd.R_alloc | apply Kd.R_drewN | apply Kd.R_drew)); exact HO830.out))) (Kd.R_lt (by (with_reducible repeat (first | apply Kd.R_alloc | apply Kd.R_drewN | apply Kd.R_drew)); exact HO833.out))) (Kd.R_lt (by (with_reducible repeat (first | apply Kd.R_alloc | apply Kd.R_drewN | apply Kd.R_drew)); exact HO836.out))) (Kd.R_lt (by (with_reducible repeat (first | apply Kd.R_alloc | apply Kd.R_drewN | apply Kd.R_drew)); exact HO839.out))) (Kd.R_lt (by (with_reducible repeat (first | apply Kd.R_alloc | apply Kd.R_drewN | apply Kd.R_drew)); exact HO842.out))) (Kd.R_lt (by (with_reducible repeat (first | apply Kd.R_alloc | apply Kd.R_drewN | apply Kd.R_drew)); exact HO848.out))) (Kd.R_lt (by (with_reducible repeat (first | apply Kd.R_alloc | apply Kd.R_drewN | apply Kd.R_drew)); exact HO851.out))) (Kd.R_lt (by (with_reducible repeat (first | apply Kd.R_alloc | apply Kd.R_drewN | apply Kd.R_drew)); exact HO854.out))) (Kd.R_lt (by (with_reducible repeat (first | apply Kd.R_alloc | apply Kd.R_drewN | apply Kd.R_drew)); exact HO857.out))) (below_size (by repeat (first | (with_reducible first | exact HB.out | apply below_alloc | apply pw_below_drewN | apply below_drew1 | refine below_set ?_ GE825.out) | exact HB.out)))); have n15_ := Aside0.mk (blk_below (g := gb825) (o := .cells #[.int .i64 a0_0, .int .i64 a0_1, .slice A0_2 l0_2.length c0_2, .slice A0_3 l0_3.length c0_3, .slice A0_4 l0_4.length c0_4, .slice A0_5 l0_5.length c0_5] 61 (0, 0)) (by (with_reducible repeat (first | refine blk_drewN ?_ _ | refine blk_drew ?_ | refine blk_alloc ?_ _)); exact BK825.out) hb); have n16_ := Aside0.mk (below_step (by repeat (first | (with_reducible first | exact HB.out | apply below_alloc | apply pw_below_drewN | apply below_drew1 | refine below_set ?_ GE825.out) | exact HB.out)) hb); clear HO830; clear HO833; clear HO836; clear HO839; clear HO842; clear HO848; clear HO851; clear HO854; clear HO857; clear HO860; clear HO863; clear BK825; clear HB; have HO830 := n0_; have HO833 := n1_; have HO836 := n2_; have HO839 := n3_; have HO842 := n4_; have HO848 := n5_; have HO851 := n6_; have HO854 := n7_; have HO857 := n8_; have HO860 := n9_; have HO863 := n10_; have HO869 := n11_; have HO872 := n12_; have HO875 := n13_; have HO878 := n14_; have BK825 := n15_; have HB := n16_; clear n0_ n1_ n2_ n3_ n4_ n5_ n6_ n7_ n8_ n9_ n10_ n11_ n12_ n13_ n14_ n15_ n16_; (try clear hb); (try clear hb2); (try clear hk); (try clear hi); (try clear ho0); (try clear ho1); (try clear ho2); (try clear ho3); obtain ⟨Ao27, co27, eo27⟩ := Kd.R_slice HO869.out; subst eo27; obtain ⟨Ao28, co28, eo28⟩ := Kd.R_slice HO872.out; subst eo28; obtain ⟨Ao29, co29, eo29⟩ := Kd.R_slice HO875.out; subst eo29; obtain ⟨Ao30, co30, eo30⟩ := Kd.R_slice HO878.out; subst eo30) | ((with_reducible refine gate_callee (f := 41) rfl ?_); refine goesL_ (some 39) rfl rfl Try.func41 (by kernel_rfl) rfl #[.agg #[.int .i64 t865, .int .i64 t866, .slice Ao27 t867.length co27, .slice Ao28 t870.length co28, .slice Ao29 t873.length co29, .slice Ao30 t876.length co30], .int .i64 (wrap64 ((wrap64 ((wrap64 (Int.tmod (IntKind.u64.wrap (a1)) 12001)) - 6000)) + 1))] rfl (by (try simp only [List.map_toArray, List.map_cons, List.map_nil]); first | done | rfl | (simp only [List.length_drop, List.length_take]; rfl)) ?_; (with_reducible refine (wax_Labels.calls t865 t866 _ _ t867 _ _ t870 _ _ t873 _ _ t876 (wrap64 ((wrap64 ((wrap64 (Int.tmod (IntKind.u64.wrap (a1)) 12001)) - 6000)) + 1)) t879 t882 t885 _ ?side1 ?side2 ?side3 ?side4 ?side5 ?side6 ?side7 ?side8 A8.out).mono ?_); (case side1 => repeat (first | exact (Kd.R_reads' HO869.out).2.2 | (with_reducible refine Kd.C_alloc ?_ _) | (with_reducible refine Kd.C_drewN ?_ _) | (with_reducible refine Kd.C_drew ?_))); (case side2 => exact (Kd.R_reads' HO869.out).2.1); (case side3 => repeat (first | exact (Kd.R_reads' HO872.out).2.2 | (with_reducible refine Kd.C_alloc ?_ _) | (with_reducible refine Kd.C_drewN ?_ _) | (with_reducible refine Kd.C_drew ?_))); (case side4 => exact (Kd.R_reads' HO872.out).2.1); (case side5 => repeat (first | exact (Kd.R_reads' HO875.out).2.2 | (with_reducible refine Kd.C_alloc ?_ _) | (with_reducible refine Kd.C_drewN ?_ _) | (with_reducible refine Kd.C_drew ?_))); (case side6 => exact (Kd.R_reads' HO875.out).2.1); (case side7 => repeat (first | exact (Kd.R_reads' HO878.out).2.2 | (with_reducible refine Kd.C_alloc ?_ _) | (with_reducible refine Kd.C_drewN ?_ _) | (with_reducible refine Kd.C_drew ?_))); (case side8 => exact (Kd.R_reads' HO878.out).2.1); rintro e w31 ⟨v880, v883, rfl, ho0, ho1, hb⟩; refine ⟨_, rfl, ?_⟩; have n0_ := Aside0.mk (Kd.R_below (by (with_reducible repeat (first | apply Kd.R_alloc | apply Kd.R_drewN | apply Kd.R_drew)); exact HO830.out) hb); have n1_ := Aside0.mk (Kd.R_below (by (with_reducible repeat (first | apply Kd.R_alloc | apply Kd.R_drewN | apply Kd.R_drew)); exact HO833.out) hb); have n2_ := Aside0.mk (Kd.R_below (by (with_reducible repeat (first | apply Kd.R_alloc | apply Kd.R_drewN | apply Kd.R_drew)); exact HO836.out) hb); have n3_ := Aside0.mk (Kd.R_below (by (with_reducible repeat (first | apply Kd.R_alloc | apply Kd.R_drewN | apply Kd.R_drew)); exact HO839.out) hb); have n4_ := Aside0.mk (Kd.R_below (by (with_reducible repeat (first | apply Kd.R_alloc | apply Kd.R_drewN | apply Kd.R_drew)); exact HO842.out) hb); have n5_ := Aside0.mk (Kd.R_below (by (with_reducible repeat (first | apply Kd.R_alloc | apply Kd.R_drewN | apply Kd.R_drew)); exact HO848.out) hb); have n6_ := Aside0.mk (Kd.R_below (by (with_reducible repeat (first | apply Kd.R_alloc | apply Kd.R_drewN | apply Kd.R_drew)); exact HO851.out) hb); have n7_ := Aside0.mk (Kd.R_below (by (with_reducible repeat (first | apply Kd.R_alloc | apply Kd.R_drewN | apply Kd.R_drew)); exact HO854.out) hb); have n8_ := Aside0.mk (Kd.R_below (by (with_reducible repeat (first | apply Kd.R_alloc | apply Kd.R_drewN | apply Kd.R_drew)); exact HO857.out) hb); have n9_ := Aside0.mk (Kv.R_mono (Kv.R_told (Kv.R_told (Kv.R_old (by (with_reducible repeat (first | apply Kv.R_alloc | apply Kv.R_drewN | apply Kv.R_drew)); exact HO860.out) hb) (Kv.R_base ho0)) (Kv.R_base ho1)) (fun _ h_ => h_.1)); have n10_ := Aside0.mk (Kv.R_mono (Kv.R_told (Kv.R_told (Kv.R_old (by (with_reducible repeat (first | apply Kv.R_alloc | apply Kv.R_drewN | apply Kv.R_drew)); exact HO863.out) hb) (Kv.R_base ho0)) (Kv.R_base ho1)) (fun _ h_ => h_.1)); have n11_ := Aside0.mk (Kd.R_below (by (with_reducible repeat (first | apply Kd.R_alloc | apply Kd.R_drewN | apply Kd.R_drew)); exact HO869.out) hb); have n12_ := Aside0.mk (Kd.R_below (by (with_reducible repeat (first | apply Kd.R_alloc | apply Kd.R_drewN | apply Kd.R_drew)); exact HO872.out) hb); have n13_ := Aside0.mk (Kd.R_below (by (with_reducible repeat (first | apply Kd.R_alloc | apply Kd.R_drewN | apply Kd.R_drew)); exact HO875.out) hb); have n14_ := Aside0.mk (Kd.R_below (by (with_reducible repeat (first | apply Kd.R_alloc | apply Kd.R_drewN | apply Kd.R_drew)); exact HO878.out) hb); have n15_ := Aside0.mk (Kv.R_lower (Kv.R_new' (Kv.R_new' ho0 (Kv.R_lt (by (with_reducible repeat (first | apply Kv.R_alloc | apply Kv.R_drewN | apply Kv.R_drew)); exact HO860.out))) (Kv.R_lt (by (with_reducible repeat (first | apply Kv.R_alloc | apply Kv.R_drewN | apply Kv.R_drew)); exact HO863.out))) (below_size (by repeat (first | (with_reducible first | exact HB.out | apply below_alloc | apply pw_below_drewN | apply below_drew1 | refine below_set ?_ GE825.out) | exact HB.out)))); have n16_ := Aside0.mk (Kv.R_lower (Kv.R_new' (Kv.R_new' ho1 (Kv.R_lt (by (with_reducible repeat (first | apply Kv.R_alloc | apply Kv.R_drewN | apply Kv.R_drew)); exact HO860.out))) (Kv.R_lt (by (with_reducible repeat (first | apply Kv.R_alloc | apply Kv.R_drewN | apply Kv.R_drew)); exact HO863.out))) (below_size (by repeat (first | (with_reducible first | exact HB.out | apply below_alloc | apply pw_below_drewN | apply below_drew1 | refine below_set ?_ GE825.out) | exact HB.out)))); have n17_ := Aside0.mk (blk_below (g := gb825) (o := .cells #[.int .i64 a0_0, .int .i64 a0_1, .slice A0_2 l0_2.length c0_2, .slice A0_3 l0_3.length c0_3, .slice A0_4 l0_4.length c0_4, .slice A0_5 l0_5.length c0_5] 61 (0, 0)) (by (with_reducible repeat (first | refine blk_drewN ?_ _ | refine blk_drew ?_ | refine blk_alloc ?_ _)); exact BK825.out) hb); have n18_ := Aside0.mk (below_step (by repeat (first | (with_reducible first | exact HB.out | apply below_alloc | apply pw_below_drewN | apply below_drew1 | refine below_set ?_ GE825.out) | exact HB.out)) hb); clear HO830; clear HO833; clear HO836; clear HO839; clear HO842; clear HO848; clear HO851; clear HO854; clear HO857; clear HO860; clear HO863; clear HO869; clear HO872; clear HO875; clear HO878; clear BK825; clear HB; have HO830 := n0_; have HO833 := n1_; have HO836 := n2_; have HO839 := n3_; have HO842 := n4_; have HO848 := n5_; have HO851 := n6_; have HO854 := n7_; have HO857 := n8_; have HO860 := n9_; have HO863 := n10_; have HO869 := n11_; have HO872 := n12_; have HO875 := n13_; have HO878 := n14_; have HO881 := n15_; have HO884 := n16_; have BK825 := n17_; have HB := n18_; clear n0_ n1_ n2_ n3_ n4_ n5_ n6_ n7_ n8_ n9_ n10_ n11_ n12_ n13_ n14_ n15_ n16_ n17_ n18_; (try clear hb); (try clear hb2); (try clear hk); (try clear hi); (try clear ho0); (try clear ho1)))
  (try simp only [Act.put, List.setIfInBounds_toArray, List.set_cons_zero, List.set_cons_succ])
  go_cut [52] (fun v52 wc => ∃ (kq : Nat) (x52_8 : Bool), v52 = .bool x52_8 ∧ Aside0 (cantinglaw07_WaxNested.j0 kq (wrap64 ((wrap64 (Int.tmod (IntKind.u64.wrap (a1)) 12001)) - 6000)) t840 t843 t858 t861 t864 t882 t885 x52_8 = some r) ∧ Aside0 (kq ≤ k) ∧ Aside0 (Kd.R (Kd.int .i64) 3 wc w.heap.size (fun _ => True) v841 t840) ∧ Aside0 (Kv.R wc w.heap.size (fun k_ => some k_ ≠ (v862 : Value).ownBlock ∧ some k_ ≠ (v883 : Value).ownBlock) v859 t858) ∧ Aside0 (Kv.R wc w.heap.size (fun k_ => some k_ ≠ (v859 : Value).ownBlock ∧ some k_ ≠ (v883 : Value).ownBlock) v862 t861) ∧ Aside0 (Kv.R wc w.heap.size (fun k_ => some k_ ≠ (v859 : Value).ownBlock ∧ some k_ ≠ (v862 : Value).ownBlock) v883 t882) ∧ Aside0 (wc.heap[gb825]? = some (.cells #[.int .i64 a0_0, .int .i64 a0_1, (.slice A0_2 l0_2.length c0_2), (.slice A0_3 l0_3.length c0_3), (.slice A0_4 l0_4.length c0_4), (.slice A0_5 l0_5.length c0_5)] 61 (0, 0))) ∧ Aside0 (Below w.heap.size w wc))
  case first =>
    have H := HC9.out
    clear HC9
    by_cases c32 : t843 = 0
    · rw [if_pos c32] at H
      have c32b0 : (t843 == 0) = true := beq_iff_eq.mpr c32
      have c32b1 : (t843 != 0) = false := bne_eq_false_iff_eq.mpr c32
      clear c32
      (first | rw [c32b0] | (simp only [i64_w, i32_w]; rw [c32b0]) | skip)
      by_cases c33 : t864 = 0
      · rw [if_pos c33] at H
        have c33b0 : (t864 == 0) = true := beq_iff_eq.mpr c33
        have c33b1 : (t864 != 0) = false := bne_eq_false_iff_eq.mpr c33
        clear c33
        have H' := Aside0.mk H
        clear H
        go_wp2
        go_meet
        case rel => exact ⟨_, ((t885 != 0)), (by first | rfl | (simp; done) | (simp [*]; done)), H', ⟨by first | omega | exact Nat.le_refl _⟩, ⟨by (with_reducible repeat (first | apply Kd.R_alloc | apply Kd.R_drewN | apply Kd.R_drew)); exact Kd.R_mono HO842.out (fun _ hk => trivial)⟩, ⟨by (with_reducible repeat (first | apply Kv.R_alloc | apply Kv.R_drewN | apply Kv.R_drew)); exact Kv.R_mono HO860.out (fun _ hk => ⟨hk.1.1, hk.2⟩)⟩, ⟨by (with_reducible repeat (first | apply Kv.R_alloc | apply Kv.R_drewN | apply Kv.R_drew)); exact Kv.R_mono HO863.out (fun _ hk => ⟨hk.1.1, hk.2⟩)⟩, ⟨by (with_reducible repeat (first | apply Kv.R_alloc | apply Kv.R_drewN | apply Kv.R_drew)); exact Kv.R_mono HO884.out (fun _ hk => ⟨hk.1.2, hk.2⟩)⟩, ⟨by (with_reducible repeat (first | refine blk_drewN ?_ _ | refine blk_drew ?_ | refine blk_alloc ?_ _)); exact BK825.out⟩, ⟨by repeat (first | (with_reducible first | exact HB.out | apply below_alloc | apply pw_below_drewN | apply below_drew1 | refine below_set ?_ GE825.out) | exact HB.out)⟩⟩
      · rw [if_neg c33] at H
        have c33b0 : (t864 == 0) = false := beq_eq_false_iff_ne.mpr c33
        have c33b1 : (t864 != 0) = true := bne_iff_ne.mpr c33
        have H' := Aside0.mk H
        clear H
        go_wp2
        go_meet
        case rel => exact ⟨_, (true), (by first | rfl | (simp; done) | (simp [*]; done)), H', ⟨by first | omega | exact Nat.le_refl _⟩, ⟨by (with_reducible repeat (first | apply Kd.R_alloc | apply Kd.R_drewN | apply Kd.R_drew)); exact Kd.R_mono HO842.out (fun _ hk => trivial)⟩, ⟨by (with_reducible repeat (first | apply Kv.R_alloc | apply Kv.R_drewN | apply Kv.R_drew)); exact Kv.R_mono HO860.out (fun _ hk => ⟨hk.1.1, hk.2⟩)⟩, ⟨by (with_reducible repeat (first | apply Kv.R_alloc | apply Kv.R_drewN | apply Kv.R_drew)); exact Kv.R_mono HO863.out (fun _ hk => ⟨hk.1.1, hk.2⟩)⟩, ⟨by (with_reducible repeat (first | apply Kv.R_alloc | apply Kv.R_drewN | apply Kv.R_drew)); exact Kv.R_mono HO884.out (fun _ hk => ⟨hk.1.2, hk.2⟩)⟩, ⟨by (with_reducible repeat (first | refine blk_drewN ?_ _ | refine blk_drew ?_ | refine blk_alloc ?_ _)); exact BK825.out⟩, ⟨by repeat (first | (with_reducible first | exact HB.out | apply below_alloc | apply pw_below_drewN | apply below_drew1 | refine below_set ?_ GE825.out) | exact HB.out)⟩⟩
    · rw [if_neg c32] at H
      have c32b0 : (t843 == 0) = false := beq_eq_false_iff_ne.mpr c32
      have c32b1 : (t843 != 0) = true := bne_iff_ne.mpr c32
      (first | rw [c32b0] | (simp only [i64_w, i32_w]; rw [c32b0]) | skip)
      have H' := Aside0.mk H
      clear H
      go_wp2
      go_meet
      case rel => exact ⟨_, (true), (by first | rfl | (simp; done) | (simp [*]; done)), H', ⟨by first | omega | exact Nat.le_refl _⟩, ⟨by (with_reducible repeat (first | apply Kd.R_alloc | apply Kd.R_drewN | apply Kd.R_drew)); exact Kd.R_mono HO842.out (fun _ hk => trivial)⟩, ⟨by (with_reducible repeat (first | apply Kv.R_alloc | apply Kv.R_drewN | apply Kv.R_drew)); exact Kv.R_mono HO860.out (fun _ hk => ⟨hk.1.1, hk.2⟩)⟩, ⟨by (with_reducible repeat (first | apply Kv.R_alloc | apply Kv.R_drewN | apply Kv.R_drew)); exact Kv.R_mono HO863.out (fun _ hk => ⟨hk.1.1, hk.2⟩)⟩, ⟨by (with_reducible repeat (first | apply Kv.R_alloc | apply Kv.R_drewN | apply Kv.R_drew)); exact Kv.R_mono HO884.out (fun _ hk => ⟨hk.1.2, hk.2⟩)⟩, ⟨by (with_reducible repeat (first | refine blk_drewN ?_ _ | refine blk_drew ?_ | refine blk_alloc ?_ _)); exact BK825.out⟩, ⟨by repeat (first | (with_reducible first | exact HB.out | apply below_alloc | apply pw_below_drewN | apply below_drew1 | refine below_set ?_ GE825.out) | exact HB.out)⟩⟩
  case rest =>
    clear HC9
    try clear c1
    try clear p2
    try clear c3
    try clear c4
    try clear p6
    try clear c14
    try clear c32
    try clear c32b0
    try clear c32b1
    try clear c33
    try clear c33b0
    try clear c33b1
    try clear hcz11_0
    try clear hcz11_1
    try clear hcz11_2
    try clear hcz11_3
    try clear hcz11_4
    try clear hcz11_5
    try clear hcz18_0
    try clear hcz18_1
    try clear hcz18_2
    try clear hcz18_3
    try clear hcz18_4
    try clear hcz18_5
    try clear hcz25_0
    try clear hcz25_1
    try clear hcz25_2
    try clear hcz25_3
    try clear hcz25_4
    try clear hcz25_5
    try clear hfz11_0
    try clear hfz11_1
    try clear hfz11_2
    try clear hfz11_3
    try clear hfz11_4
    try clear hfz11_5
    try clear hfz18_0
    try clear hfz18_1
    try clear hfz18_2
    try clear hfz18_3
    try clear hfz18_4
    try clear hfz18_5
    try clear hfz25_0
    try clear hfz25_1
    try clear hfz25_2
    try clear hfz25_3
    try clear hfz25_4
    try clear hfz25_5
    obtain ⟨kq, x52_8, rfl, HA, HJ8, HO_5, HO_7, HO_8, HO_11, BK825, HB⟩ := hcut
    cases kq with
    | zero => exact absurd HA.out (by simp [cantinglaw07_WaxNested.j0])
    | succ kj8 =>
      have H := HA.out
      clear HA
      simp only [cantinglaw07_WaxNested.j0] at H
      by_cases c34 : x52_8 = true
      · subst c34
        have H1 : (if t843 = 2 then (if t864 = 2 then (if t885 = 2 then ((cantinglaw07_awake.f).bind fun t886 => (some t886)) else (some false)) else (some false)) else (some false)) = some r := by rw [if_pos rfl] at H; exact H
        clear H
        have H := H1
        clear H1
        by_cases c35 : t843 = 2
        · rw [if_pos c35] at H
          have c35b0 : (t843 == 2) = true := beq_iff_eq.mpr c35
          have c35b1 : (t843 != 2) = false := bne_eq_false_iff_eq.mpr c35
          clear c35
          by_cases c36 : t864 = 2
          · rw [if_pos c36] at H
            have c36b0 : (t864 == 2) = true := beq_iff_eq.mpr c36
            have c36b1 : (t864 != 2) = false := bne_eq_false_iff_eq.mpr c36
            clear c36
            by_cases c37 : t885 = 2
            · rw [if_pos c37] at H
              have c37b0 : (t885 == 2) = true := beq_iff_eq.mpr c37
              have c37b1 : (t885 != 2) = false := bne_eq_false_iff_eq.mpr c37
              clear c37
              replace H := Option.bind_eq_some_iff.mp H
              obtain ⟨t886, A380, H⟩ := H
              replace H : (some t886) = some r := H
              have A38 := Aside0.mk A380
              clear A380
              obtain rfl := Option.some.inj H
              go_wp2_with (first | (go_at_call 18; (with_reducible refine (cantinglaw07_awake.calls  t886 _ A38.out).mono ?_); rintro e w39 ⟨rfl, hb⟩; have n0_ := Aside0.mk (Kd.R_below (by (with_reducible repeat (first | apply Kd.R_alloc | apply Kd.R_drewN | apply Kd.R_drew)); exact HO_5.out) hb); have n1_ := Aside0.mk (Kv.R_below (by (with_reducible repeat (first | apply Kv.R_alloc | apply Kv.R_drewN | apply Kv.R_drew)); exact HO_7.out) hb); have n2_ := Aside0.mk (Kv.R_below (by (with_reducible repeat (first | apply Kv.R_alloc | apply Kv.R_drewN | apply Kv.R_drew)); exact HO_8.out) hb); have n3_ := Aside0.mk (Kv.R_below (by (with_reducible repeat (first | apply Kv.R_alloc | apply Kv.R_drewN | apply Kv.R_drew)); exact HO_11.out) hb); have n4_ := Aside0.mk (blk_below (g := gb825) (o := .cells #[.int .i64 a0_0, .int .i64 a0_1, .slice A0_2 l0_2.length c0_2, .slice A0_3 l0_3.length c0_3, .slice A0_4 l0_4.length c0_4, .slice A0_5 l0_5.length c0_5] 61 (0, 0)) (by (with_reducible repeat (first | refine blk_drewN ?_ _ | refine blk_drew ?_ | refine blk_alloc ?_ _)); exact BK825.out) hb); have n5_ := Aside0.mk (below_step (by repeat (first | (with_reducible first | exact HB.out | apply below_alloc | apply pw_below_drewN | apply below_drew1 | refine below_set ?_ GE825.out) | exact HB.out)) hb); clear HO_5; clear HO_7; clear HO_8; clear HO_11; clear BK825; clear HB; have HO_5 := n0_; have HO_7 := n1_; have HO_8 := n2_; have HO_11 := n3_; have BK825 := n4_; have HB := n5_; clear n0_ n1_ n2_ n3_ n4_ n5_; (try clear hb); (try clear hb2); (try clear hk); (try clear hi)))
              go_ret
              exact ⟨by first | rfl | (simp [errW_none, errW_some] <;> rfl) | (simp [*, errW_none, errW_some] <;> rfl), by repeat (first | (with_reducible first | exact HB.out | apply below_alloc | apply pw_below_drewN | apply below_drew1 | refine below_set ?_ GE825.out) | exact HB.out)⟩
            · rw [if_neg c37] at H
              have c37b0 : (t885 == 2) = false := beq_eq_false_iff_ne.mpr c37
              have c37b1 : (t885 != 2) = true := bne_iff_ne.mpr c37
              obtain rfl := Option.some.inj H
              go_wp2
              go_ret
              exact ⟨by first | rfl | (simp [errW_none, errW_some] <;> rfl) | (simp [*, errW_none, errW_some] <;> rfl), by repeat (first | (with_reducible first | exact HB.out | apply below_alloc | apply pw_below_drewN | apply below_drew1 | refine below_set ?_ GE825.out) | exact HB.out)⟩
          · rw [if_neg c36] at H
            have c36b0 : (t864 == 2) = false := beq_eq_false_iff_ne.mpr c36
            have c36b1 : (t864 != 2) = true := bne_iff_ne.mpr c36
            obtain rfl := Option.some.inj H
            go_wp2
            go_ret
            exact ⟨by first | rfl | (simp [errW_none, errW_some] <;> rfl) | (simp [*, errW_none, errW_some] <;> rfl), by repeat (first | (with_reducible first | exact HB.out | apply below_alloc | apply pw_below_drewN | apply below_drew1 | refine below_set ?_ GE825.out) | exact HB.out)⟩
        · rw [if_neg c35] at H
          have c35b0 : (t843 == 2) = false := beq_eq_false_iff_ne.mpr c35
          have c35b1 : (t843 != 2) = true := bne_iff_ne.mpr c35
          obtain rfl := Option.some.inj H
          go_wp2
          go_ret
          exact ⟨by first | rfl | (simp [errW_none, errW_some] <;> rfl) | (simp [*, errW_none, errW_some] <;> rfl), by repeat (first | (with_reducible first | exact HB.out | apply below_alloc | apply pw_below_drewN | apply below_drew1 | refine below_set ?_ GE825.out) | exact HB.out)⟩
      · replace c34 := Bool.eq_false_iff.mpr c34
        subst c34
        have H1 : (if (t861.length : Int) = (t840.length : Int) then (if (t882.length : Int) = (t840.length : Int) then (cantinglaw07_WaxNested.j1 kj8 (wrap64 ((wrap64 (Int.tmod (IntKind.u64.wrap (a1)) 12001)) - 6000)) t840 t858 t861 t882 ((t858.length : Int) != (t840.length : Int))) else (cantinglaw07_WaxNested.j1 kj8 (wrap64 ((wrap64 (Int.tmod (IntKind.u64.wrap (a1)) 12001)) - 6000)) t840 t858 t861 t882 true)) else (cantinglaw07_WaxNested.j1 kj8 (wrap64 ((wrap64 (Int.tmod (IntKind.u64.wrap (a1)) 12001)) - 6000)) t840 t858 t861 t882 true)) = some r := by rw [if_neg (show ¬ (false = true) by decide)] at H; exact H
        clear H
        have H := H1
        clear H1
        have HC40 := Aside0.mk H
        clear H
        go_upto_region 7 with (fail)
        go_cut [84] (fun v84 wc => ∃ (kq : Nat) (x84_39 : Bool), v84 = .bool x84_39 ∧ Aside0 (cantinglaw07_WaxNested.j1 kq (wrap64 ((wrap64 (Int.tmod (IntKind.u64.wrap (a1)) 12001)) - 6000)) t840 t858 t861 t882 x84_39 = some r) ∧ Aside0 (kq ≤ kj8) ∧ Aside0 (Kd.R (Kd.int .i64) 3 wc w.heap.size (fun _ => True) v841 t840) ∧ Aside0 (Kv.R wc w.heap.size (fun k_ => some k_ ≠ (v862 : Value).ownBlock ∧ some k_ ≠ (v883 : Value).ownBlock) v859 t858) ∧ Aside0 (Kv.R wc w.heap.size (fun k_ => some k_ ≠ (v859 : Value).ownBlock ∧ some k_ ≠ (v883 : Value).ownBlock) v862 t861) ∧ Aside0 (Kv.R wc w.heap.size (fun k_ => some k_ ≠ (v859 : Value).ownBlock ∧ some k_ ≠ (v862 : Value).ownBlock) v883 t882) ∧ Aside0 (wc.heap[gb825]? = some (.cells #[.int .i64 a0_0, .int .i64 a0_1, (.slice A0_2 l0_2.length c0_2), (.slice A0_3 l0_3.length c0_3), (.slice A0_4 l0_4.length c0_4), (.slice A0_5 l0_5.length c0_5)] 61 (0, 0))) ∧ Aside0 (Below w.heap.size w wc))
        case first =>
          have H := HC40.out
          clear HC40
          by_cases c41 : (t861.length : Int) = (t840.length : Int)
          · rw [if_pos c41] at H
            have c41b0 : ((t861.length : Int) == (t840.length : Int)) = true := beq_iff_eq.mpr c41
            have c41b1 : ((t861.length : Int) != (t840.length : Int)) = false := bne_eq_false_iff_eq.mpr c41
            have c41b2 : (t861.length == t840.length) = true := by first | simpa using c41 | (simp at c41 ⊢; omega)
            clear c41
            (first | rw [c41b0] | (simp only [i64_w, i32_w]; rw [c41b0]) | skip)
            by_cases c42 : (t882.length : Int) = (t840.length : Int)
            · rw [if_pos c42] at H
              have c42b0 : ((t882.length : Int) == (t840.length : Int)) = true := beq_iff_eq.mpr c42
              have c42b1 : ((t882.length : Int) != (t840.length : Int)) = false := bne_eq_false_iff_eq.mpr c42
              have c42b2 : (t882.length == t840.length) = true := by first | simpa using c42 | (simp at c42 ⊢; omega)
              clear c42
              have H' := Aside0.mk H
              clear H
              obtain ⟨Ao43, co43, eo43⟩ := Kv.R_slice HO_8.out
              subst eo43
              obtain ⟨Ao44, co44, eo44⟩ := Kd.R_slice HO_5.out
              subst eo44
              obtain ⟨Ao45, co45, eo45⟩ := Kv.R_slice HO_11.out
              subst eo45
              obtain ⟨Ao46, co46, eo46⟩ := Kv.R_slice HO_7.out
              subst eo46
              go_wp2
              go_meet
              case rel => exact ⟨_, (((t858.length : Int) != (t840.length : Int))), (by first | rfl | (simp; done) | (simp [*]; done)), H', ⟨by have := HJ8.out; first | omega | exact Nat.le_refl _⟩, ⟨by (with_reducible repeat (first | apply Kd.R_alloc | apply Kd.R_drewN | apply Kd.R_drew)); exact HO_5.out⟩, ⟨by (with_reducible repeat (first | apply Kv.R_alloc | apply Kv.R_drewN | apply Kv.R_drew)); exact HO_7.out⟩, ⟨by (with_reducible repeat (first | apply Kv.R_alloc | apply Kv.R_drewN | apply Kv.R_drew)); exact HO_8.out⟩, ⟨by (with_reducible repeat (first | apply Kv.R_alloc | apply Kv.R_drewN | apply Kv.R_drew)); exact HO_11.out⟩, ⟨by (with_reducible repeat (first | refine blk_drewN ?_ _ | refine blk_drew ?_ | refine blk_alloc ?_ _)); exact BK825.out⟩, ⟨by repeat (first | (with_reducible first | exact HB.out | apply below_alloc | apply pw_below_drewN | apply below_drew1 | refine below_set ?_ GE825.out) | exact HB.out)⟩⟩
            · rw [if_neg c42] at H
              have c42b0 : ((t882.length : Int) == (t840.length : Int)) = false := beq_eq_false_iff_ne.mpr c42
              have c42b1 : ((t882.length : Int) != (t840.length : Int)) = true := bne_iff_ne.mpr c42
              have c42b2 : (t882.length == t840.length) = false := by first | simpa using c42 | (simp at c42 ⊢; omega)
              have H' := Aside0.mk H
              clear H
              obtain ⟨Ao47, co47, eo47⟩ := Kv.R_slice HO_8.out
              subst eo47
              obtain ⟨Ao48, co48, eo48⟩ := Kd.R_slice HO_5.out
              subst eo48
              obtain ⟨Ao49, co49, eo49⟩ := Kv.R_slice HO_11.out
              subst eo49
              go_wp2
              go_meet
              case rel => exact ⟨_, (true), (by first | rfl | (simp; done) | (simp [*]; done)), H', ⟨by have := HJ8.out; first | omega | exact Nat.le_refl _⟩, ⟨by (with_reducible repeat (first | apply Kd.R_alloc | apply Kd.R_drewN | apply Kd.R_drew)); exact HO_5.out⟩, ⟨by (with_reducible repeat (first | apply Kv.R_alloc | apply Kv.R_drewN | apply Kv.R_drew)); exact HO_7.out⟩, ⟨by (with_reducible repeat (first | apply Kv.R_alloc | apply Kv.R_drewN | apply Kv.R_drew)); exact HO_8.out⟩, ⟨by (with_reducible repeat (first | apply Kv.R_alloc | apply Kv.R_drewN | apply Kv.R_drew)); exact HO_11.out⟩, ⟨by (with_reducible repeat (first | refine blk_drewN ?_ _ | refine blk_drew ?_ | refine blk_alloc ?_ _)); exact BK825.out⟩, ⟨by repeat (first | (with_reducible first | exact HB.out | apply below_alloc | apply pw_below_drewN | apply below_drew1 | refine below_set ?_ GE825.out) | exact HB.out)⟩⟩
          · rw [if_neg c41] at H
            have c41b0 : ((t861.length : Int) == (t840.length : Int)) = false := beq_eq_false_iff_ne.mpr c41
            have c41b1 : ((t861.length : Int) != (t840.length : Int)) = true := bne_iff_ne.mpr c41
            have c41b2 : (t861.length == t840.length) = false := by first | simpa using c41 | (simp at c41 ⊢; omega)
            (first | rw [c41b0] | (simp only [i64_w, i32_w]; rw [c41b0]) | skip)
            have H' := Aside0.mk H
            clear H
            obtain ⟨Ao50, co50, eo50⟩ := Kv.R_slice HO_8.out
            subst eo50
            obtain ⟨Ao51, co51, eo51⟩ := Kd.R_slice HO_5.out
            subst eo51
            go_wp2
            go_meet
            case rel => exact ⟨_, (true), (by first | rfl | (simp; done) | (simp [*]; done)), H', ⟨by have := HJ8.out; first | omega | exact Nat.le_refl _⟩, ⟨by (with_reducible repeat (first | apply Kd.R_alloc | apply Kd.R_drewN | apply Kd.R_drew)); exact HO_5.out⟩, ⟨by (with_reducible repeat (first | apply Kv.R_alloc | apply Kv.R_drewN | apply Kv.R_drew)); exact HO_7.out⟩, ⟨by (with_reducible repeat (first | apply Kv.R_alloc | apply Kv.R_drewN | apply Kv.R_drew)); exact HO_8.out⟩, ⟨by (with_reducible repeat (first | apply Kv.R_alloc | apply Kv.R_drewN | apply Kv.R_drew)); exact HO_11.out⟩, ⟨by (with_reducible repeat (first | refine blk_drewN ?_ _ | refine blk_drew ?_ | refine blk_alloc ?_ _)); exact BK825.out⟩, ⟨by repeat (first | (with_reducible first | exact HB.out | apply below_alloc | apply pw_below_drewN | apply below_drew1 | refine below_set ?_ GE825.out) | exact HB.out)⟩⟩
        case rest =>
          clear HC40
          try clear c1
          try clear p2
          try clear c3
          try clear c4
          try clear p6
          try clear c14
          try clear c32
          try clear c32b0
          try clear c32b1
          try clear c33
          try clear c33b0
          try clear c33b1
          try clear c34
          try clear c35
          try clear c35b0
          try clear c35b1
          try clear c36
          try clear c36b0
          try clear c36b1
          try clear c37
          try clear c37b0
          try clear c37b1
          try clear c41
          try clear c41b0
          try clear c41b1
          try clear c41b2
          try clear c42
          try clear c42b0
          try clear c42b1
          try clear c42b2
          try clear c44
          try clear hcz11_0
          try clear hcz11_1
          try clear hcz11_2
          try clear hcz11_3
          try clear hcz11_4
          try clear hcz11_5
          try clear hcz18_0
          try clear hcz18_1
          try clear hcz18_2
          try clear hcz18_3
          try clear hcz18_4
          try clear hcz18_5
          try clear hcz25_0
          try clear hcz25_1
          try clear hcz25_2
          try clear hcz25_3
          try clear hcz25_4
          try clear hcz25_5
          try clear hfz11_0
          try clear hfz11_1
          try clear hfz11_2
          try clear hfz11_3
          try clear hfz11_4
          try clear hfz11_5
          try clear hfz18_0
          try clear hfz18_1
          try clear hfz18_2
          try clear hfz18_3
          try clear hfz18_4
          try clear hfz18_5
          try clear hfz25_0
          try clear hfz25_1
          try clear hfz25_2
          try clear hfz25_3
          try clear hfz25_4
          try clear hfz25_5
          try clear p2
          try clear p6
          obtain ⟨kq, x84_39, rfl, HA, HJ39, HO_5, HO_7, HO_8, HO_11, BK825, HB⟩ := hcut
          cases kq with
          | zero => exact absurd HA.out (by simp [cantinglaw07_WaxNested.j1])
          | succ kj39 =>
            have H := HA.out
            clear HA
            simp only [cantinglaw07_WaxNested.j1] at H
            by_cases c52 : x84_39 = true
            · subst c52
              have H1 : (some false) = some r := by rw [if_pos rfl] at H; exact H
              clear H
              have H := H1
              clear H1
              obtain rfl := Option.some.inj H
              go_wp2
              go_ret
              exact ⟨by first | rfl | (simp [errW_none, errW_some] <;> rfl) | (simp [*, errW_none, errW_some] <;> rfl), by repeat (first | (with_reducible first | exact HB.out | apply below_alloc | apply pw_below_drewN | apply below_drew1 | refine below_set ?_ GE825.out) | exact HB.out)⟩
            · replace c52 := Bool.eq_false_iff.mpr c52
              subst c52
              have H1 : (cantinglaw07_WaxNested.l0 kj39 (wrap64 ((wrap64 (Int.tmod (IntKind.u64.wrap (a1)) 12001)) - 6000)) t858 t861 t882 t840 (t840.length : Int) 0) = some r := by rw [if_neg (show ¬ (false = true) by decide)] at H; exact H
              clear H
              have H := H1
              clear H1
              have H' := Aside0.mk H
              clear H
              obtain ⟨Ao53, co53, eo53⟩ := Kd.R_slice HO_5.out
              subst eo53
              go_wp2
              go_loopg [87] kj39 (fun kq v87 w' => ∃ (x87_3 : Int), v87 = .int .i64 x87_3 ∧ Aside0 (cantinglaw07_WaxNested.l0 kq (wrap64 ((wrap64 (Int.tmod (IntKind.u64.wrap (a1)) 12001)) - 6000)) t858 t861 t882 t840 (t840.length : Int) x87_3 = some r) ∧ Aside0 (kq ≤ kj39) ∧ Aside0 (Kv.R w' w.heap.size (fun k_ => some k_ ≠ (v862 : Value).ownBlock ∧ some k_ ≠ (v883 : Value).ownBlock) v859 t858) ∧ Aside0 (Kv.R w' w.heap.size (fun k_ => some k_ ≠ (v859 : Value).ownBlock ∧ some k_ ≠ (v883 : Value).ownBlock) v862 t861) ∧ Aside0 (Kv.R w' w.heap.size (fun k_ => some k_ ≠ (v859 : Value).ownBlock ∧ some k_ ≠ (v862 : Value).ownBlock) v883 t882) ∧ Aside0 (Kd.R (Kd.int .i64) 3 w' w.heap.size (fun _ => True) (.slice Ao53 t840.length co53) t840) ∧ Aside0 (w'.heap[gb825]? = some (.cells #[.int .i64 a0_0, .int .i64 a0_1, (.slice A0_2 l0_2.length c0_2), (.slice A0_3 l0_3.length c0_3), (.slice A0_4 l0_4.length c0_4), (.slice A0_5 l0_5.length c0_5)] 61 (0, 0))) ∧ Aside0 (Below w.heap.size w w'))
              case atStart => exact ⟨(0), (by first | rfl | (simp; done) | (simp [*]; done)), H', ⟨Nat.le_refl _⟩, ⟨by (with_reducible repeat (first | apply Kv.R_alloc | apply Kv.R_drewN | apply Kv.R_drew)); exact HO_7.out⟩, ⟨by (with_reducible repeat (first | apply Kv.R_alloc | apply Kv.R_drewN | apply Kv.R_drew)); exact HO_8.out⟩, ⟨by (with_reducible repeat (first | apply Kv.R_alloc | apply Kv.R_drewN | apply Kv.R_drew)); exact HO_11.out⟩, ⟨by (with_reducible repeat (first | apply Kd.R_alloc | apply Kd.R_drewN | apply Kd.R_drew)); exact HO_5.out⟩, ⟨by (with_reducible repeat (first | refine blk_drewN ?_ _ | refine blk_drew ?_ | refine blk_alloc ?_ _)); exact BK825.out⟩, ⟨by repeat (first | (with_reducible first | exact HB.out | apply below_alloc | apply pw_below_drewN | apply below_drew1 | refine below_set ?_ GE825.out) | exact HB.out)⟩⟩
              case round =>
                clear H'
                try clear c1
                try clear p2
                try clear c3
                try clear c4
                try clear c5
                try clear p6
                try clear c14
                try clear c32
                try clear c32b0
                try clear c32b1
                try clear c33
                try clear c33b0
                try clear c33b1
                try clear c34
                try clear c35
                try clear c35b0
                try clear c35b1
                try clear c36
                try clear c36b0
                try clear c36b1
                try clear c37
                try clear c37b0
                try clear c37b1
                try clear c41
                try clear c41b0
                try clear c41b1
                try clear c41b2
                try clear c42
                try clear c42b0
                try clear c42b1
                try clear c42b2
                try clear c44
                try clear c52
                try clear hcz11_0
                try clear hcz11_1
                try clear hcz11_2
                try clear hcz11_3
                try clear hcz11_4
                try clear hcz11_5
                try clear hcz18_0
                try clear hcz18_1
                try clear hcz18_2
                try clear hcz18_3
                try clear hcz18_4
                try clear hcz18_5
                try clear hcz25_0
                try clear hcz25_1
                try clear hcz25_2
                try clear hcz25_3
                try clear hcz25_4
                try clear hcz25_5
                try clear hfz11_0
                try clear hfz11_1
                try clear hfz11_2
                try clear hfz11_3
                try clear hfz11_4
                try clear hfz11_5
                try clear hfz18_0
                try clear hfz18_1
                try clear hfz18_2
                try clear hfz18_3
                try clear hfz18_4
                try clear hfz18_5
                try clear hfz25_0
                try clear hfz25_1
                try clear hfz25_2
                try clear hfz25_3
                try clear hfz25_4
                try clear hfz25_5
                try clear p2
                try clear p6
                obtain ⟨x87_3, rfl, HA, HK3, HO_7, HO_8, HO_11, HO_85, BK825, HB⟩ := hrel
                cases gk with
                | zero => exact absurd HA.out (by simp [cantinglaw07_WaxNested.l0])
                | succ k3 =>
                  have H := HA.out
                  clear HA
                  simp only [cantinglaw07_WaxNested.l0] at H
                  by_cases c54 : x87_3 < (t840.length : Int)
                  · rw [if_pos c54] at H
                    have c54b0 : decide (x87_3 < (t840.length : Int)) = true := decide_eq_true c54
                    clear c54
                    by_cases c55 : 0 ≤ x87_3
                    · rw [if_pos c55] at H
                      have c55b0 : decide (0 ≤ x87_3) = true := decide_eq_true c55
                      clear c55
                      by_cases c56 : x87_3 < (t840.length : Int)
                      · rw [if_pos c56] at H
                        have c56b0 : decide (x87_3 < (t840.length : Int)) = true := decide_eq_true c56
                        clear c56
                        by_cases c57 : x87_3 < (t861.length : Int)
                        · rw [if_pos c57] at H
                          have c57b0 : decide (x87_3 < (t861.length : Int)) = true := decide_eq_true c57
                          clear c57
                          by_cases c58 : ((rdOf false t861 x87_3) != (decide ((rd t840 x87_3) ≥ (wrap64 ((wrap64 (Int.tmod (IntKind.u64.wrap (a1)) 12001)) - 6000))))) = true
                          · rw [if_pos c58] at H
                            have c58b0 : ((rdOf false t861 x87_3) != (decide ((rd t840 x87_3) ≥ (wrap64 ((wrap64 (Int.tmod (IntKind.u64.wrap (a1)) 12001)) - 6000))))) = true := c58
                            (try (have c58b1 : decide ((rdOf false t861 x87_3) = (decide ((rd t840 x87_3) ≥ (wrap64 ((wrap64 (Int.tmod (IntKind.u64.wrap (a1)) 12001)) - 6000))))) = false := by simpa using c58))
                            (try (have c58b2 : ((rdOf false t861 x87_3) == (decide ((rd t840 x87_3) ≥ (wrap64 ((wrap64 (Int.tmod (IntKind.u64.wrap (a1)) 12001)) - 6000))))) = false := by simpa using c58))
                            (try (have c58b3 : ¬ ((rdOf false t861 x87_3) = (decide ((rd t840 x87_3) ≥ (wrap64 ((wrap64 (Int.tmod (IntKind.u64.wrap (a1)) 12001)) - 6000))))) := by simpa using c58))
                            clear c58
                            obtain rfl := Option.some.inj H
                            have p887 : 0 ≤ (x87_3 : Int) := of_decide_eq_true (by first | (with_reducible assumption) | assumption)
                            have q887 : x87_3 < (t840.length : Int) := of_decide_eq_true (by first | (with_reducible assumption) | assumption)
                            obtain ⟨ad887, e887, hx887_0⟩ := Kd.at_int (Kd.R_reads' HO_85.out).2.2 x87_3 p887 q887
                            cases e887
                            replace p887 := eq_true p887
                            replace q887 := eq_true q887
                            obtain ⟨Ao59, co59, eo59⟩ := Kv.R_slice HO_8.out
                            subst eo59
                            have p888 : 0 ≤ (x87_3 : Int) := of_decide_eq_true (by first | (with_reducible assumption) | assumption)
                            have q888 : x87_3 < (t861.length : Int) := of_decide_eq_true (by first | (with_reducible assumption) | assumption)
                            obtain ⟨ad888, e888, hx888_0⟩ := Kd.at_bool (Kv.R_reads' HO_8.out).2.2 x87_3 p888 q888
                            cases e888
                            replace p888 := eq_true p888
                            replace q888 := eq_true q888
                            go_wp2
                            go_ret
                            exact ⟨by first | rfl | (simp [errW_none, errW_some] <;> rfl) | (simp [*, errW_none, errW_some] <;> rfl), by repeat (first | (with_reducible first | exact HB.out | apply below_alloc | apply pw_below_drewN | apply below_drew1 | refine below_set ?_ GE825.out) | exact HB.out)⟩
                          · rw [if_neg c58] at H
                            have c58b0 : ((rdOf false t861 x87_3) != (decide ((rd t840 x87_3) ≥ (wrap64 ((wrap64 (Int.tmod (IntKind.u64.wrap (a1)) 12001)) - 6000))))) = false := by simpa using c58
                            (try (have c58b1 : decide ((rdOf false t861 x87_3) = (decide ((rd t840 x87_3) ≥ (wrap64 ((wrap64 (Int.tmod (IntKind.u64.wrap (a1)) 12001)) - 6000))))) = true := by simpa using c58))
                            (try (have c58b2 : ((rdOf false t861 x87_3) == (decide ((rd t840 x87_3) ≥ (wrap64 ((wrap64 (Int.tmod (IntKind.u64.wrap (a1)) 12001)) - 6000))))) = true := by simpa using c58))
                            clear c58
                            by_cases c60 : x87_3 < (t882.length : Int)
                            · rw [if_pos c60] at H
                              have c60b0 : decide (x87_3 < (t882.length : Int)) = true := decide_eq_true c60
                              clear c60
                              obtain ⟨bq61, hbq61⟩ : ∃ b_ : Bool, b_ = (rdOf false t882 x87_3) := ⟨_, rfl⟩
                              replace H : (if bq61 = true then (if x87_3 < (t858.length : Int) then (if rdOf false t858 x87_3 = true then (if rdOf false t861 x87_3 = true then (cantinglaw07_WaxNested.l0 k3 (wrap64 ((wrap64 (Int.tmod (IntKind.u64.wrap (a1)) 12001)) - 6000)) t858 t861 t882 t840 (t840.length : Int) (wrap64 (x87_3 + 1))) else (some false)) else (some false)) else (none)) else (if x87_3 < (t858.length : Int) then (if rdOf false t858 x87_3 = true then (if rdOf false t861 x87_3 = true then (cantinglaw07_WaxNested.l0 k3 (wrap64 ((wrap64 (Int.tmod (IntKind.u64.wrap (a1)) 12001)) - 6000)) t858 t861 t882 t840 (t840.length : Int) (wrap64 (x87_3 + 1))) else (some false)) else (cantinglaw07_WaxNested.l0 k3 (wrap64 ((wrap64 (Int.tmod (IntKind.u64.wrap (a1)) 12001)) - 6000)) t858 t861 t882 t840 (t840.length : Int) (wrap64 (x87_3 + 1)))) else (none))) = some r := by rw [← hbq61] at H; exact H
                              have Nbq61 := Aside0.mk hbq61
                              clear hbq61
                              by_cases c62 : bq61 = true
                              · subst c62
                                have H1 : (if x87_3 < (t858.length : Int) then (if rdOf false t858 x87_3 = true then (if rdOf false t861 x87_3 = true then (cantinglaw07_WaxNested.l0 k3 (wrap64 ((wrap64 (Int.tmod (IntKind.u64.wrap (a1)) 12001)) - 6000)) t858 t861 t882 t840 (t840.length : Int) (wrap64 (x87_3 + 1))) else (some false)) else (some false)) else (none)) = some r := by rw [if_pos rfl] at H; exact H
                                clear H
                                have H := H1
                                clear H1
                                by_cases c63 : x87_3 < (t858.length : Int)
                                · rw [if_pos c63] at H
                                  have c63b0 : decide (x87_3 < (t858.length : Int)) = true := decide_eq_true c63
                                  clear c63
                                  obtain ⟨bq64, hbq64⟩ : ∃ b_ : Bool, b_ = (rdOf false t858 x87_3) := ⟨_, rfl⟩
                                  replace H : (if bq64 = true then (if rdOf false t861 x87_3 = true then (cantinglaw07_WaxNested.l0 k3 (wrap64 ((wrap64 (Int.tmod (IntKind.u64.wrap (a1)) 12001)) - 6000)) t858 t861 t882 t840 (t840.length : Int) (wrap64 (x87_3 + 1))) else (some false)) else (some false)) = some r := by rw [← hbq64] at H; exact H
                                  have Nbq64 := Aside0.mk hbq64
                                  clear hbq64
                                  by_cases c65 : bq64 = true
                                  · subst c65
                                    have H1 : (if rdOf false t861 x87_3 = true then (cantinglaw07_WaxNested.l0 k3 (wrap64 ((wrap64 (Int.tmod (IntKind.u64.wrap (a1)) 12001)) - 6000)) t858 t861 t882 t840 (t840.length : Int) (wrap64 (x87_3 + 1))) else (some false)) = some r := by rw [if_pos rfl] at H; exact H
                                    clear H
                                    have H := H1
                                    clear H1
                                    obtain ⟨bq66, hbq66⟩ : ∃ b_ : Bool, b_ = (rdOf false t861 x87_3) := ⟨_, rfl⟩
                                    replace H : (if bq66 = true then (cantinglaw07_WaxNested.l0 k3 (wrap64 ((wrap64 (Int.tmod (IntKind.u64.wrap (a1)) 12001)) - 6000)) t858 t861 t882 t840 (t840.length : Int) (wrap64 (x87_3 + 1))) else (some false)) = some r := by rw [← hbq66] at H; exact H
                                    have Nbq66 := Aside0.mk hbq66
                                    clear hbq66
                                    by_cases c67 : bq66 = true
                                    · subst c67
                                      have H1 : (cantinglaw07_WaxNested.l0 k3 (wrap64 ((wrap64 (Int.tmod (IntKind.u64.wrap (a1)) 12001)) - 6000)) t858 t861 t882 t840 (t840.length : Int) (wrap64 (x87_3 + 1))) = some r := by rw [if_pos rfl] at H; exact H
                                      clear H
                                      have H := H1
                                      clear H1
                                      have H' := Aside0.mk H
                                      clear H
                                      have p887 : 0 ≤ (x87_3 : Int) := of_decide_eq_true (by first | (with_reducible assumption) | assumption)
                                      have q887 : x87_3 < (t840.length : Int) := of_decide_eq_true (by first | (with_reducible assumption) | assumption)
                                      obtain ⟨ad887, e887, hx887_0⟩ := Kd.at_int (Kd.R_reads' HO_85.out).2.2 x87_3 p887 q887
                                      cases e887
                                      replace p887 := eq_true p887
                                      replace q887 := eq_true q887
                                      obtain ⟨Ao68, co68, eo68⟩ := Kv.R_slice HO_8.out
                                      subst eo68
                                      have p888 : 0 ≤ (x87_3 : Int) := of_decide_eq_true (by first | (with_reducible assumption) | assumption)
                                      have q888 : x87_3 < (t861.length : Int) := of_decide_eq_true (by first | (with_reducible assumption) | assumption)
                                      obtain ⟨ad888, e888, hx888_0⟩ := Kd.at_bool (Kv.R_reads' HO_8.out).2.2 x87_3 p888 q888
                                      (try rw [← Nbq61.out] at hx888_0)
                                      (try rw [← Nbq61.out] at hw888_0)
                                      (try rw [← Nbq64.out] at hx888_0)
                                      (try rw [← Nbq64.out] at hw888_0)
                                      (try rw [← Nbq66.out] at hx888_0)
                                      (try rw [← Nbq66.out] at hw888_0)
                                      cases e888
                                      replace p888 := eq_true p888
                                      replace q888 := eq_true q888
                                      obtain ⟨Ao69, co69, eo69⟩ := Kv.R_slice HO_11.out
                                      subst eo69
                                      have p889 : 0 ≤ (x87_3 : Int) := of_decide_eq_true (by first | (with_reducible assumption) | assumption)
                                      have q889 : x87_3 < (t882.length : Int) := of_decide_eq_true (by first | (with_reducible assumption) | assumption)
                                      obtain ⟨ad889, e889, hx889_0⟩ := Kd.at_bool (Kv.R_reads' HO_11.out).2.2 x87_3 p889 q889
                                      (try rw [← Nbq61.out] at hx889_0)
                                      (try rw [← Nbq61.out] at hw889_0)
                                      (try rw [← Nbq64.out] at hx889_0)
                                      (try rw [← Nbq64.out] at hw889_0)
                                      (try rw [← Nbq66.out] at hx889_0)
                                      (try rw [← Nbq66.out] at hw889_0)
                                      cases e889
                                      replace p889 := eq_true p889
                                      replace q889 := eq_true q889
                                      obtain ⟨Ao70, co70, eo70⟩ := Kv.R_slice HO_7.out
                                      subst eo70
                                      have p890 : 0 ≤ (x87_3 : Int) := of_decide_eq_true (by first | (with_reducible assumption) | assumption)
                                      have q890 : x87_3 < (t858.length : Int) := of_decide_eq_true (by first | (with_reducible assumption) | assumption)
                                      obtain ⟨ad890, e890, hx890_0⟩ := Kd.at_bool (Kv.R_reads' HO_7.out).2.2 x87_3 p890 q890
                                      (try rw [← Nbq61.out] at hx890_0)
                                      (try rw [← Nbq61.out] at hw890_0)
                                      (try rw [← Nbq64.out] at hx890_0)
                                      (try rw [← Nbq64.out] at hw890_0)
                                      (try rw [← Nbq66.out] at hx890_0)
                                      (try rw [← Nbq66.out] at hw890_0)
                                      cases e890
                                      replace p890 := eq_true p890
                                      replace q890 := eq_true q890
                                      have p891 : 0 ≤ (x87_3 : Int) := of_decide_eq_true (by first | (with_reducible assumption) | assumption)
                                      have q891 : x87_3 < (t858.length : Int) := of_decide_eq_true (by first | (with_reducible assumption) | assumption)
                                      obtain ⟨ad891, e891, hx891_0⟩ := Kd.at_bool (Kv.R_reads' HO_7.out).2.2 x87_3 p891 q891
                                      (try rw [← Nbq61.out] at hx891_0)
                                      (try rw [← Nbq61.out] at hw891_0)
                                      (try rw [← Nbq64.out] at hx891_0)
                                      (try rw [← Nbq64.out] at hw891_0)
                                      (try rw [← Nbq66.out] at hx891_0)
                                      (try rw [← Nbq66.out] at hw891_0)
                                      obtain rfl : ad890 = ad891 := (by injection e891)
                                      replace p891 := eq_true p891
                                      replace q891 := eq_true q891
                                      have p892 : 0 ≤ (x87_3 : Int) := of_decide_eq_true (by first | (with_reducible assumption) | assumption)
                                      have q892 : x87_3 < (t861.length : Int) := of_decide_eq_true (by first | (with_reducible assumption) | assumption)
                                      obtain ⟨ad892, e892, hx892_0⟩ := Kd.at_bool (Kv.R_reads' HO_8.out).2.2 x87_3 p892 q892
                                      (try rw [← Nbq61.out] at hx892_0)
                                      (try rw [← Nbq61.out] at hw892_0)
                                      (try rw [← Nbq64.out] at hx892_0)
                                      (try rw [← Nbq64.out] at hw892_0)
                                      (try rw [← Nbq66.out] at hx892_0)
                                      (try rw [← Nbq66.out] at hw892_0)
                                      obtain rfl : ad888 = ad892 := (by injection e892)
                                      replace p892 := eq_true p892
                                      replace q892 := eq_true q892
                                      have hb58 := c58b0
                                      rw [← Nbq66.out] at hb58
                                      first | (have hgeT : ((wrap64 ((wrap64 (Int.tmod (IntKind.u64.wrap (a1)) 12001)) - 6000)) ≤ rd t840 x87_3) = True := eq_true (by simpa using hb58)) | (have hgeF : ((wrap64 ((wrap64 (Int.tmod (IntKind.u64.wrap (a1)) 12001)) - 6000)) ≤ rd t840 x87_3) = False := eq_false (by simpa using hb58))
                                      clear hb58
                                      go_wp2
                                      go_roundg k3
                                      case measure => have := HJ8.out; have := HJ39.out; have := HK3.out; omega
                                      case rel => exact ⟨(wrap64 (x87_3 + 1)), (by first | rfl | (simp; done) | (simp [*]; done)), H', ⟨by have := HJ8.out; have := HJ39.out; have := HK3.out; omega⟩, ⟨by (with_reducible repeat (first | apply Kv.R_alloc | apply Kv.R_drewN | apply Kv.R_drew)); exact HO_7.out⟩, ⟨by (with_reducible repeat (first | apply Kv.R_alloc | apply Kv.R_drewN | apply Kv.R_drew)); exact HO_8.out⟩, ⟨by (with_reducible repeat (first | apply Kv.R_alloc | apply Kv.R_drewN | apply Kv.R_drew)); exact HO_11.out⟩, ⟨by (with_reducible repeat (first | apply Kd.R_alloc | apply Kd.R_drewN | apply Kd.R_drew)); exact HO_85.out⟩, ⟨by (with_reducible repeat (first | refine blk_drewN ?_ _ | refine blk_drew ?_ | refine blk_alloc ?_ _)); exact BK825.out⟩, ⟨by repeat (first | (with_reducible first | exact HB.out | apply below_alloc | apply pw_below_drewN | apply below_drew1 | refine below_set ?_ GE825.out) | exact HB.out)⟩⟩
                                    · replace c67 := Bool.eq_false_iff.mpr c67
                                      subst c67
                                      have H1 : (some false) = some r := by rw [if_neg (show ¬ (false = true) by decide)] at H; exact H
                                      clear H
                                      have H := H1
                                      clear H1
                                      obtain rfl := Option.some.inj H
                                      have p887 : 0 ≤ (x87_3 : Int) := of_decide_eq_true (by first | (with_reducible assumption) | assumption)
                                      have q887 : x87_3 < (t840.length : Int) := of_decide_eq_true (by first | (with_reducible assumption) | assumption)
                                      obtain ⟨ad887, e887, hx887_0⟩ := Kd.at_int (Kd.R_reads' HO_85.out).2.2 x87_3 p887 q887
                                      cases e887
                                      replace p887 := eq_true p887
                                      replace q887 := eq_true q887
                                      obtain ⟨Ao71, co71, eo71⟩ := Kv.R_slice HO_8.out
                                      subst eo71
                                      have p888 : 0 ≤ (x87_3 : Int) := of_decide_eq_true (by first | (with_reducible assumption) | assumption)
                                      have q888 : x87_3 < (t861.length : Int) := of_decide_eq_true (by first | (with_reducible assumption) | assumption)
                                      obtain ⟨ad888, e888, hx888_0⟩ := Kd.at_bool (Kv.R_reads' HO_8.out).2.2 x87_3 p888 q888
                                      (try rw [← Nbq61.out] at hx888_0)
                                      (try rw [← Nbq61.out] at hw888_0)
                                      (try rw [← Nbq64.out] at hx888_0)
                                      (try rw [← Nbq64.out] at hw888_0)
                                      (try rw [← Nbq66.out] at hx888_0)
                                      (try rw [← Nbq66.out] at hw888_0)
                                      cases e888
                                      replace p888 := eq_true p888
                                      replace q888 := eq_true q888
                                      obtain ⟨Ao72, co72, eo72⟩ := Kv.R_slice HO_11.out
                                      subst eo72
                                      have p889 : 0 ≤ (x87_3 : Int) := of_decide_eq_true (by first | (with_reducible assumption) | assumption)
                                      have q889 : x87_3 < (t882.length : Int) := of_decide_eq_true (by first | (with_reducible assumption) | assumption)
                                      obtain ⟨ad889, e889, hx889_0⟩ := Kd.at_bool (Kv.R_reads' HO_11.out).2.2 x87_3 p889 q889
                                      (try rw [← Nbq61.out] at hx889_0)
                                      (try rw [← Nbq61.out] at hw889_0)
                                      (try rw [← Nbq64.out] at hx889_0)
                                      (try rw [← Nbq64.out] at hw889_0)
                                      (try rw [← Nbq66.out] at hx889_0)
                                      (try rw [← Nbq66.out] at hw889_0)
                                      cases e889
                                      replace p889 := eq_true p889
                                      replace q889 := eq_true q889
                                      obtain ⟨Ao73, co73, eo73⟩ := Kv.R_slice HO_7.out
                                      subst eo73
                                      have p890 : 0 ≤ (x87_3 : Int) := of_decide_eq_true (by first | (with_reducible assumption) | assumption)
                                      have q890 : x87_3 < (t858.length : Int) := of_decide_eq_true (by first | (with_reducible assumption) | assumption)
                                      obtain ⟨ad890, e890, hx890_0⟩ := Kd.at_bool (Kv.R_reads' HO_7.out).2.2 x87_3 p890 q890
                                      (try rw [← Nbq61.out] at hx890_0)
                                      (try rw [← Nbq61.out] at hw890_0)
                                      (try rw [← Nbq64.out] at hx890_0)
                                      (try rw [← Nbq64.out] at hw890_0)
                                      (try rw [← Nbq66.out] at hx890_0)
                                      (try rw [← Nbq66.out] at hw890_0)
                                      cases e890
                                      replace p890 := eq_true p890
                                      replace q890 := eq_true q890
                                      have p891 : 0 ≤ (x87_3 : Int) := of_decide_eq_true (by first | (with_reducible assumption) | assumption)
                                      have q891 : x87_3 < (t858.length : Int) := of_decide_eq_true (by first | (with_reducible assumption) | assumption)
                                      obtain ⟨ad891, e891, hx891_0⟩ := Kd.at_bool (Kv.R_reads' HO_7.out).2.2 x87_3 p891 q891
                                      (try rw [← Nbq61.out] at hx891_0)
                                      (try rw [← Nbq61.out] at hw891_0)
                                      (try rw [← Nbq64.out] at hx891_0)
                                      (try rw [← Nbq64.out] at hw891_0)
                                      (try rw [← Nbq66.out] at hx891_0)
                                      (try rw [← Nbq66.out] at hw891_0)
                                      obtain rfl : ad890 = ad891 := (by injection e891)
                                      replace p891 := eq_true p891
                                      replace q891 := eq_true q891
                                      have p892 : 0 ≤ (x87_3 : Int) := of_decide_eq_true (by first | (with_reducible assumption) | assumption)
                                      have q892 : x87_3 < (t861.length : Int) := of_decide_eq_true (by first | (with_reducible assumption) | assumption)
                                      obtain ⟨ad892, e892, hx892_0⟩ := Kd.at_bool (Kv.R_reads' HO_8.out).2.2 x87_3 p892 q892
                                      (try rw [← Nbq61.out] at hx892_0)
                                      (try rw [← Nbq61.out] at hw892_0)
                                      (try rw [← Nbq64.out] at hx892_0)
                                      (try rw [← Nbq64.out] at hw892_0)
                                      (try rw [← Nbq66.out] at hx892_0)
                                      (try rw [← Nbq66.out] at hw892_0)
                                      obtain rfl : ad888 = ad892 := (by injection e892)
                                      replace p892 := eq_true p892
                                      replace q892 := eq_true q892
                                      have hb58 := c58b0
                                      rw [← Nbq66.out] at hb58
                                      first | (have hgeT : ((wrap64 ((wrap64 (Int.tmod (IntKind.u64.wrap (a1)) 12001)) - 6000)) ≤ rd t840 x87_3) = True := eq_true (by simpa using hb58)) | (have hgeF : ((wrap64 ((wrap64 (Int.tmod (IntKind.u64.wrap (a1)) 12001)) - 6000)) ≤ rd t840 x87_3) = False := eq_false (by simpa using hb58))
                                      clear hb58
                                      go_wp2
                                      go_ret
                                      exact ⟨by first | rfl | (simp [errW_none, errW_some] <;> rfl) | (simp [*, errW_none, errW_some] <;> rfl), by repeat (first | (with_reducible first | exact HB.out | apply below_alloc | apply pw_below_drewN | apply below_drew1 | refine below_set ?_ GE825.out) | exact HB.out)⟩
                                  · replace c65 := Bool.eq_false_iff.mpr c65
                                    subst c65
                                    have H1 : (some false) = some r := by rw [if_neg (show ¬ (false = true) by decide)] at H; exact H
                                    clear H
                                    have H := H1
                                    clear H1
                                    obtain rfl := Option.some.inj H
                                    have p887 : 0 ≤ (x87_3 : Int) := of_decide_eq_true (by first | (with_reducible assumption) | assumption)
                                    have q887 : x87_3 < (t840.length : Int) := of_decide_eq_true (by first | (with_reducible assumption) | assumption)
                                    obtain ⟨ad887, e887, hx887_0⟩ := Kd.at_int (Kd.R_reads' HO_85.out).2.2 x87_3 p887 q887
                                    cases e887
                                    replace p887 := eq_true p887
                                    replace q887 := eq_true q887
                                    obtain ⟨Ao74, co74, eo74⟩ := Kv.R_slice HO_8.out
                                    subst eo74
                                    have p888 : 0 ≤ (x87_3 : Int) := of_decide_eq_true (by first | (with_reducible assumption) | assumption)
                                    have q888 : x87_3 < (t861.length : Int) := of_decide_eq_true (by first | (with_reducible assumption) | assumption)
                                    obtain ⟨ad888, e888, hx888_0⟩ := Kd.at_bool (Kv.R_reads' HO_8.out).2.2 x87_3 p888 q888
                                    (try rw [← Nbq61.out] at hx888_0)
                                    (try rw [← Nbq61.out] at hw888_0)
                                    (try rw [← Nbq64.out] at hx888_0)
                                    (try rw [← Nbq64.out] at hw888_0)
                                    cases e888
                                    replace p888 := eq_true p888
                                    replace q888 := eq_true q888
                                    obtain ⟨Ao75, co75, eo75⟩ := Kv.R_slice HO_11.out
                                    subst eo75
                                    have p889 : 0 ≤ (x87_3 : Int) := of_decide_eq_true (by first | (with_reducible assumption) | assumption)
                                    have q889 : x87_3 < (t882.length : Int) := of_decide_eq_true (by first | (with_reducible assumption) | assumption)
                                    obtain ⟨ad889, e889, hx889_0⟩ := Kd.at_bool (Kv.R_reads' HO_11.out).2.2 x87_3 p889 q889
                                    (try rw [← Nbq61.out] at hx889_0)
                                    (try rw [← Nbq61.out] at hw889_0)
                                    (try rw [← Nbq64.out] at hx889_0)
                                    (try rw [← Nbq64.out] at hw889_0)
                                    cases e889
                                    replace p889 := eq_true p889
                                    replace q889 := eq_true q889
                                    obtain ⟨Ao76, co76, eo76⟩ := Kv.R_slice HO_7.out
                                    subst eo76
                                    have p890 : 0 ≤ (x87_3 : Int) := of_decide_eq_true (by first | (with_reducible assumption) | assumption)
                                    have q890 : x87_3 < (t858.length : Int) := of_decide_eq_true (by first | (with_reducible assumption) | assumption)
                                    obtain ⟨ad890, e890, hx890_0⟩ := Kd.at_bool (Kv.R_reads' HO_7.out).2.2 x87_3 p890 q890
                                    (try rw [← Nbq61.out] at hx890_0)
                                    (try rw [← Nbq61.out] at hw890_0)
                                    (try rw [← Nbq64.out] at hx890_0)
                                    (try rw [← Nbq64.out] at hw890_0)
                                    cases e890
                                    replace p890 := eq_true p890
                                    replace q890 := eq_true q890
                                    go_wp2
                                    go_ret
                                    exact ⟨by first | rfl | (simp [errW_none, errW_some] <;> rfl) | (simp [*, errW_none, errW_some] <;> rfl), by repeat (first | (with_reducible first | exact HB.out | apply below_alloc | apply pw_below_drewN | apply below_drew1 | refine below_set ?_ GE825.out) | exact HB.out)⟩
                                · rw [if_neg c63] at H
                                  exact absurd H (by simp)
                              · replace c62 := Bool.eq_false_iff.mpr c62
                                subst c62
                                have H1 : (if x87_3 < (t858.length : Int) then (if rdOf false t858 x87_3 = true then (if rdOf false t861 x87_3 = true then (cantinglaw07_WaxNested.l0 k3 (wrap64 ((wrap64 (Int.tmod (IntKind.u64.wrap (a1)) 12001)) - 6000)) t858 t861 t882 t840 (t840.length : Int) (wrap64 (x87_3 + 1))) else (some false)) else (cantinglaw07_WaxNested.l0 k3 (wrap64 ((wrap64 (Int.tmod (IntKind.u64.wrap (a1)) 12001)) - 6000)) t858 t861 t882 t840 (t840.length : Int) (wrap64 (x87_3 + 1)))) else (none)) = some r := by rw [if_neg (show ¬ (false = true) by decide)] at H; exact H
                                clear H
                                have H := H1
                                clear H1
                                by_cases c77 : x87_3 < (t858.length : Int)
                                · rw [if_pos c77] at H
                                  have c77b0 : decide (x87_3 < (t858.length : Int)) = true := decide_eq_true c77
                                  clear c77
                                  obtain ⟨bq78, hbq78⟩ : ∃ b_ : Bool, b_ = (rdOf false t858 x87_3) := ⟨_, rfl⟩
                                  replace H : (if bq78 = true then (if rdOf false t861 x87_3 = true then (cantinglaw07_WaxNested.l0 k3 (wrap64 ((wrap64 (Int.tmod (IntKind.u64.wrap (a1)) 12001)) - 6000)) t858 t861 t882 t840 (t840.length : Int) (wrap64 (x87_3 + 1))) else (some false)) else (cantinglaw07_WaxNested.l0 k3 (wrap64 ((wrap64 (Int.tmod (IntKind.u64.wrap (a1)) 12001)) - 6000)) t858 t861 t882 t840 (t840.length : Int) (wrap64 (x87_3 + 1)))) = some r := by rw [← hbq78] at H; exact H
                                  have Nbq78 := Aside0.mk hbq78
                                  clear hbq78
                                  by_cases c79 : bq78 = true
                                  · subst c79
                                    have H1 : (if rdOf false t861 x87_3 = true then (cantinglaw07_WaxNested.l0 k3 (wrap64 ((wrap64 (Int.tmod (IntKind.u64.wrap (a1)) 12001)) - 6000)) t858 t861 t882 t840 (t840.length : Int) (wrap64 (x87_3 + 1))) else (some false)) = some r := by rw [if_pos rfl] at H; exact H
                                    clear H
                                    have H := H1
                                    clear H1
                                    obtain ⟨bq80, hbq80⟩ : ∃ b_ : Bool, b_ = (rdOf false t861 x87_3) := ⟨_, rfl⟩
                                    replace H : (if bq80 = true then (cantinglaw07_WaxNested.l0 k3 (wrap64 ((wrap64 (Int.tmod (IntKind.u64.wrap (a1)) 12001)) - 6000)) t858 t861 t882 t840 (t840.length : Int) (wrap64 (x87_3 + 1))) else (some false)) = some r := by rw [← hbq80] at H; exact H
                                    have Nbq80 := Aside0.mk hbq80
                                    clear hbq80
                                    by_cases c81 : bq80 = true
                                    · subst c81
                                      have H1 : (cantinglaw07_WaxNested.l0 k3 (wrap64 ((wrap64 (Int.tmod (IntKind.u64.wrap (a1)) 12001)) - 6000)) t858 t861 t882 t840 (t840.length : Int) (wrap64 (x87_3 + 1))) = some r := by rw [if_pos rfl] at H; exact H
                                      clear H
                                      have H := H1
                                      clear H1
                                      have H' := Aside0.mk H
                                      clear H
                                      have p887 : 0 ≤ (x87_3 : Int) := of_decide_eq_true (by first | (with_reducible assumption) | assumption)
                                      have q887 : x87_3 < (t840.length : Int) := of_decide_eq_true (by first | (with_reducible assumption) | assumption)
                                      obtain ⟨ad887, e887, hx887_0⟩ := Kd.at_int (Kd.R_reads' HO_85.out).2.2 x87_3 p887 q887
                                      cases e887
                                      replace p887 := eq_true p887
                                      replace q887 := eq_true q887
                                      obtain ⟨Ao82, co82, eo82⟩ := Kv.R_slice HO_8.out
                                      subst eo82
                                      have p888 : 0 ≤ (x87_3 : Int) := of_decide_eq_true (by first | (with_reducible assumption) | assumption)
                                      have q888 : x87_3 < (t861.length : Int) := of_decide_eq_true (by first | (with_reducible assumption) | assumption)
                                      obtain ⟨ad888, e888, hx888_0⟩ := Kd.at_bool (Kv.R_reads' HO_8.out).2.2 x87_3 p888 q888
                                      (try rw [← Nbq61.out] at hx888_0)
                                      (try rw [← Nbq61.out] at hw888_0)
                                      (try rw [← Nbq78.out] at hx888_0)
                                      (try rw [← Nbq78.out] at hw888_0)
                                      (try rw [← Nbq80.out] at hx888_0)
                                      (try rw [← Nbq80.out] at hw888_0)
                                      cases e888
                                      replace p888 := eq_true p888
                                      replace q888 := eq_true q888
                                      obtain ⟨Ao83, co83, eo83⟩ := Kv.R_slice HO_11.out
                                      subst eo83
                                      have p889 : 0 ≤ (x87_3 : Int) := of_decide_eq_true (by first | (with_reducible assumption) | assumption)
                                      have q889 : x87_3 < (t882.length : Int) := of_decide_eq_true (by first | (with_reducible assumption) | assumption)
                                      obtain ⟨ad889, e889, hx889_0⟩ := Kd.at_bool (Kv.R_reads' HO_11.out).2.2 x87_3 p889 q889
                                      (try rw [← Nbq61.out] at hx889_0)
                                      (try rw [← Nbq61.out] at hw889_0)
                                      (try rw [← Nbq78.out] at hx889_0)
                                      (try rw [← Nbq78.out] at hw889_0)
                                      (try rw [← Nbq80.out] at hx889_0)
                                      (try rw [← Nbq80.out] at hw889_0)
                                      cases e889
                                      replace p889 := eq_true p889
                                      replace q889 := eq_true q889
                                      obtain ⟨Ao84, co84, eo84⟩ := Kv.R_slice HO_7.out
                                      subst eo84
                                      have p893 : 0 ≤ (x87_3 : Int) := of_decide_eq_true (by first | (with_reducible assumption) | assumption)
                                      have q893 : x87_3 < (t858.length : Int) := of_decide_eq_true (by first | (with_reducible assumption) | assumption)
                                      obtain ⟨ad893, e893, hx893_0⟩ := Kd.at_bool (Kv.R_reads' HO_7.out).2.2 x87_3 p893 q893
                                      (try rw [← Nbq61.out] at hx893_0)
                                      (try rw [← Nbq61.out] at hw893_0)
                                      (try rw [← Nbq78.out] at hx893_0)
                                      (try rw [← Nbq78.out] at hw893_0)
                                      (try rw [← Nbq80.out] at hx893_0)
                                      (try rw [← Nbq80.out] at hw893_0)
                                      cases e893
                                      replace p893 := eq_true p893
                                      replace q893 := eq_true q893
                                      have p894 : 0 ≤ (x87_3 : Int) := of_decide_eq_true (by first | (with_reducible assumption) | assumption)
                                      have q894 : x87_3 < (t861.length : Int) := of_decide_eq_true (by first | (with_reducible assumption) | assumption)
                                      obtain ⟨ad894, e894, hx894_0⟩ := Kd.at_bool (Kv.R_reads' HO_8.out).2.2 x87_3 p894 q894
                                      (try rw [← Nbq61.out] at hx894_0)
                                      (try rw [← Nbq61.out] at hw894_0)
                                      (try rw [← Nbq78.out] at hx894_0)
                                      (try rw [← Nbq78.out] at hw894_0)
                                      (try rw [← Nbq80.out] at hx894_0)
                                      (try rw [← Nbq80.out] at hw894_0)
                                      obtain rfl : ad888 = ad894 := (by injection e894)
                                      replace p894 := eq_true p894
                                      replace q894 := eq_true q894
                                      have hb58 := c58b0
                                      rw [← Nbq80.out] at hb58
                                      first | (have hgeT : ((wrap64 ((wrap64 (Int.tmod (IntKind.u64.wrap (a1)) 12001)) - 6000)) ≤ rd t840 x87_3) = True := eq_true (by simpa using hb58)) | (have hgeF : ((wrap64 ((wrap64 (Int.tmod (IntKind.u64.wrap (a1)) 12001)) - 6000)) ≤ rd t840 x87_3) = False := eq_false (by simpa using hb58))
                                      clear hb58
                                      go_wp2
                                      go_roundg k3
                                      case measure => have := HJ8.out; have := HJ39.out; have := HK3.out; omega
                                      case rel => exact ⟨(wrap64 (x87_3 + 1)), (by first | rfl | (simp; done) | (simp [*]; done)), H', ⟨by have := HJ8.out; have := HJ39.out; have := HK3.out; omega⟩, ⟨by (with_reducible repeat (first | apply Kv.R_alloc | apply Kv.R_drewN | apply Kv.R_drew)); exact HO_7.out⟩, ⟨by (with_reducible repeat (first | apply Kv.R_alloc | apply Kv.R_drewN | apply Kv.R_drew)); exact HO_8.out⟩, ⟨by (with_reducible repeat (first | apply Kv.R_alloc | apply Kv.R_drewN | apply Kv.R_drew)); exact HO_11.out⟩, ⟨by (with_reducible repeat (first | apply Kd.R_alloc | apply Kd.R_drewN | apply Kd.R_drew)); exact HO_85.out⟩, ⟨by (with_reducible repeat (first | refine blk_drewN ?_ _ | refine blk_drew ?_ | refine blk_alloc ?_ _)); exact BK825.out⟩, ⟨by repeat (first | (with_reducible first | exact HB.out | apply below_alloc | apply pw_below_drewN | apply below_drew1 | refine below_set ?_ GE825.out) | exact HB.out)⟩⟩
                                    · replace c81 := Bool.eq_false_iff.mpr c81
                                      subst c81
                                      have H1 : (some false) = some r := by rw [if_neg (show ¬ (false = true) by decide)] at H; exact H
                                      clear H
                                      have H := H1
                                      clear H1
                                      obtain rfl := Option.some.inj H
                                      have p887 : 0 ≤ (x87_3 : Int) := of_decide_eq_true (by first | (with_reducible assumption) | assumption)
                                      have q887 : x87_3 < (t840.length : Int) := of_decide_eq_true (by first | (with_reducible assumption) | assumption)
                                      obtain ⟨ad887, e887, hx887_0⟩ := Kd.at_int (Kd.R_reads' HO_85.out).2.2 x87_3 p887 q887
                                      cases e887
                                      replace p887 := eq_true p887
                                      replace q887 := eq_true q887
                                      obtain ⟨Ao85, co85, eo85⟩ := Kv.R_slice HO_8.out
                                      subst eo85
                                      have p888 : 0 ≤ (x87_3 : Int) := of_decide_eq_true (by first | (with_reducible assumption) | assumption)
                                      have q888 : x87_3 < (t861.length : Int) := of_decide_eq_true (by first | (with_reducible assumption) | assumption)
                                      obtain ⟨ad888, e888, hx888_0⟩ := Kd.at_bool (Kv.R_reads' HO_8.out).2.2 x87_3 p888 q888
                                      (try rw [← Nbq61.out] at hx888_0)
                                      (try rw [← Nbq61.out] at hw888_0)
                                      (try rw [← Nbq78.out] at hx888_0)
                                      (try rw [← Nbq78.out] at hw888_0)
                                      (try rw [← Nbq80.out] at hx888_0)
                                      (try rw [← Nbq80.out] at hw888_0)
                                      cases e888
                                      replace p888 := eq_true p888
                                      replace q888 := eq_true q888
                                      obtain ⟨Ao86, co86, eo86⟩ := Kv.R_slice HO_11.out
                                      subst eo86
                                      have p889 : 0 ≤ (x87_3 : Int) := of_decide_eq_true (by first | (with_reducible assumption) | assumption)
                                      have q889 : x87_3 < (t882.length : Int) := of_decide_eq_true (by first | (with_reducible assumption) | assumption)
                                      obtain ⟨ad889, e889, hx889_0⟩ := Kd.at_bool (Kv.R_reads' HO_11.out).2.2 x87_3 p889 q889
                                      (try rw [← Nbq61.out] at hx889_0)
                                      (try rw [← Nbq61.out] at hw889_0)
                                      (try rw [← Nbq78.out] at hx889_0)
                                      (try rw [← Nbq78.out] at hw889_0)
                                      (try rw [← Nbq80.out] at hx889_0)
                                      (try rw [← Nbq80.out] at hw889_0)
                                      cases e889
                                      replace p889 := eq_true p889
                                      replace q889 := eq_true q889
                                      obtain ⟨Ao87, co87, eo87⟩ := Kv.R_slice HO_7.out
                                      subst eo87
                                      have p893 : 0 ≤ (x87_3 : Int) := of_decide_eq_true (by first | (with_reducible assumption) | assumption)
                                      have q893 : x87_3 < (t858.length : Int) := of_decide_eq_true (by first | (with_reducible assumption) | assumption)
                                      obtain ⟨ad893, e893, hx893_0⟩ := Kd.at_bool (Kv.R_reads' HO_7.out).2.2 x87_3 p893 q893
                                      (try rw [← Nbq61.out] at hx893_0)
                                      (try rw [← Nbq61.out] at hw893_0)
                                      (try rw [← Nbq78.out] at hx893_0)
                                      (try rw [← Nbq78.out] at hw893_0)
                                      (try rw [← Nbq80.out] at hx893_0)
                                      (try rw [← Nbq80.out] at hw893_0)
                                      cases e893
                                      replace p893 := eq_true p893
                                      replace q893 := eq_true q893
                                      have p894 : 0 ≤ (x87_3 : Int) := of_decide_eq_true (by first | (with_reducible assumption) | assumption)
                                      have q894 : x87_3 < (t861.length : Int) := of_decide_eq_true (by first | (with_reducible assumption) | assumption)
                                      obtain ⟨ad894, e894, hx894_0⟩ := Kd.at_bool (Kv.R_reads' HO_8.out).2.2 x87_3 p894 q894
                                      (try rw [← Nbq61.out] at hx894_0)
                                      (try rw [← Nbq61.out] at hw894_0)
                                      (try rw [← Nbq78.out] at hx894_0)
                                      (try rw [← Nbq78.out] at hw894_0)
                                      (try rw [← Nbq80.out] at hx894_0)
                                      (try rw [← Nbq80.out] at hw894_0)
                                      obtain rfl : ad888 = ad894 := (by injection e894)
                                      replace p894 := eq_true p894
                                      replace q894 := eq_true q894
                                      have hb58 := c58b0
                                      rw [← Nbq80.out] at hb58
                                      first | (have hgeT : ((wrap64 ((wrap64 (Int.tmod (IntKind.u64.wrap (a1)) 12001)) - 6000)) ≤ rd t840 x87_3) = True := eq_true (by simpa using hb58)) | (have hgeF : ((wrap64 ((wrap64 (Int.tmod (IntKind.u64.wrap (a1)) 12001)) - 6000)) ≤ rd t840 x87_3) = False := eq_false (by simpa using hb58))
                                      clear hb58
                                      go_wp2
                                      go_ret
                                      exact ⟨by first | rfl | (simp [errW_none, errW_some] <;> rfl) | (simp [*, errW_none, errW_some] <;> rfl), by repeat (first | (with_reducible first | exact HB.out | apply below_alloc | apply pw_below_drewN | apply below_drew1 | refine below_set ?_ GE825.out) | exact HB.out)⟩
                                  · replace c79 := Bool.eq_false_iff.mpr c79
                                    subst c79
                                    have H1 : (cantinglaw07_WaxNested.l0 k3 (wrap64 ((wrap64 (Int.tmod (IntKind.u64.wrap (a1)) 12001)) - 6000)) t858 t861 t882 t840 (t840.length : Int) (wrap64 (x87_3 + 1))) = some r := by rw [if_neg (show ¬ (false = true) by decide)] at H; exact H
                                    clear H
                                    have H := H1
                                    clear H1
                                    have H' := Aside0.mk H
                                    clear H
                                    have p887 : 0 ≤ (x87_3 : Int) := of_decide_eq_true (by first | (with_reducible assumption) | assumption)
                                    have q887 : x87_3 < (t840.length : Int) := of_decide_eq_true (by first | (with_reducible assumption) | assumption)
                                    obtain ⟨ad887, e887, hx887_0⟩ := Kd.at_int (Kd.R_reads' HO_85.out).2.2 x87_3 p887 q887
                                    cases e887
                                    replace p887 := eq_true p887
                                    replace q887 := eq_true q887
                                    obtain ⟨Ao88, co88, eo88⟩ := Kv.R_slice HO_8.out
                                    subst eo88
                                    have p888 : 0 ≤ (x87_3 : Int) := of_decide_eq_true (by first | (with_reducible assumption) | assumption)
                                    have q888 : x87_3 < (t861.length : Int) := of_decide_eq_true (by first | (with_reducible assumption) | assumption)
                                    obtain ⟨ad888, e888, hx888_0⟩ := Kd.at_bool (Kv.R_reads' HO_8.out).2.2 x87_3 p888 q888
                                    (try rw [← Nbq61.out] at hx888_0)
                                    (try rw [← Nbq61.out] at hw888_0)
                                    (try rw [← Nbq78.out] at hx888_0)
                                    (try rw [← Nbq78.out] at hw888_0)
                                    cases e888
                                    replace p888 := eq_true p888
                                    replace q888 := eq_true q888
                                    obtain ⟨Ao89, co89, eo89⟩ := Kv.R_slice HO_11.out
                                    subst eo89
                                    have p889 : 0 ≤ (x87_3 : Int) := of_decide_eq_true (by first | (with_reducible assumption) | assumption)
                                    have q889 : x87_3 < (t882.length : Int) := of_decide_eq_true (by first | (with_reducible assumption) | assumption)
                                    obtain ⟨ad889, e889, hx889_0⟩ := Kd.at_bool (Kv.R_reads' HO_11.out).2.2 x87_3 p889 q889
                                    (try rw [← Nbq61.out] at hx889_0)
                                    (try rw [← Nbq61.out] at hw889_0)
                                    (try rw [← Nbq78.out] at hx889_0)
                                    (try rw [← Nbq78.out] at hw889_0)
                                    cases e889
                                    replace p889 := eq_true p889
                                    replace q889 := eq_true q889
                                    obtain ⟨Ao90, co90, eo90⟩ := Kv.R_slice HO_7.out
                                    subst eo90
                                    have p893 : 0 ≤ (x87_3 : Int) := of_decide_eq_true (by first | (with_reducible assumption) | assumption)
                                    have q893 : x87_3 < (t858.length : Int) := of_decide_eq_true (by first | (with_reducible assumption) | assumption)
                                    obtain ⟨ad893, e893, hx893_0⟩ := Kd.at_bool (Kv.R_reads' HO_7.out).2.2 x87_3 p893 q893
                                    (try rw [← Nbq61.out] at hx893_0)
                                    (try rw [← Nbq61.out] at hw893_0)
                                    (try rw [← Nbq78.out] at hx893_0)
                                    (try rw [← Nbq78.out] at hw893_0)
                                    cases e893
                                    replace p893 := eq_true p893
                                    replace q893 := eq_true q893
                                    go_wp2
                                    go_roundg k3
                                    case measure => have := HJ8.out; have := HJ39.out; have := HK3.out; omega
                                    case rel => exact ⟨(wrap64 (x87_3 + 1)), (by first | rfl | (simp; done) | (simp [*]; done)), H', ⟨by have := HJ8.out; have := HJ39.out; have := HK3.out; omega⟩, ⟨by (with_reducible repeat (first | apply Kv.R_alloc | apply Kv.R_drewN | apply Kv.R_drew)); exact HO_7.out⟩, ⟨by (with_reducible repeat (first | apply Kv.R_alloc | apply Kv.R_drewN | apply Kv.R_drew)); exact HO_8.out⟩, ⟨by (with_reducible repeat (first | apply Kv.R_alloc | apply Kv.R_drewN | apply Kv.R_drew)); exact HO_11.out⟩, ⟨by (with_reducible repeat (first | apply Kd.R_alloc | apply Kd.R_drewN | apply Kd.R_drew)); exact HO_85.out⟩, ⟨by (with_reducible repeat (first | refine blk_drewN ?_ _ | refine blk_drew ?_ | refine blk_alloc ?_ _)); exact BK825.out⟩, ⟨by repeat (first | (with_reducible first | exact HB.out | apply below_alloc | apply pw_below_drewN | apply below_drew1 | refine below_set ?_ GE825.out) | exact HB.out)⟩⟩
                                · rw [if_neg c77] at H
                                  exact absurd H (by simp)
                            · rw [if_neg c60] at H
                              exact absurd H (by simp)
                        · rw [if_neg c57] at H
                          exact absurd H (by simp)
                      · rw [if_neg c56] at H
                        exact absurd H (by simp)
                    · rw [if_neg c55] at H
                      exact absurd H (by simp)
                  · rw [if_neg c54] at H
                    have c54b0 : decide (x87_3 < (t840.length : Int)) = false := decide_eq_false c54
                    clear c54
                    replace H := Option.bind_eq_some_iff.mp H
                    obtain ⟨t895, A910, H⟩ := H
                    replace H : (some t895) = some r := H
                    have A91 := Aside0.mk A910
                    clear A910
                    obtain rfl := Option.some.inj H
                    go_wp2_with (first | ((with_reducible refine gate_callee (f := 18) rfl ?_); refine goesL_ (some 127) rfl rfl Try.func18 (by kernel_rfl) rfl #[] rfl (by (try simp only [List.map_toArray, List.map_cons, List.map_nil]); first | done | rfl | (simp only [List.length_drop, List.length_take]; rfl)) ?_; (with_reducible refine (cantinglaw07_awake.calls  t895 _ A91.out).mono ?_); rintro e w92 ⟨rfl, hb⟩; refine ⟨_, rfl, ?_⟩; have n0_ := Aside0.mk (Kv.R_below (by (with_reducible repeat (first | apply Kv.R_alloc | apply Kv.R_drewN | apply Kv.R_drew)); exact HO_7.out) hb); have n1_ := Aside0.mk (Kv.R_below (by (with_reducible repeat (first | apply Kv.R_alloc | apply Kv.R_drewN | apply Kv.R_drew)); exact HO_8.out) hb); have n2_ := Aside0.mk (Kv.R_below (by (with_reducible repeat (first | apply Kv.R_alloc | apply Kv.R_drewN | apply Kv.R_drew)); exact HO_11.out) hb); have n3_ := Aside0.mk (Kd.R_below (by (with_reducible repeat (first | apply Kd.R_alloc | apply Kd.R_drewN | apply Kd.R_drew)); exact HO_85.out) hb); have n4_ := Aside0.mk (blk_below (g := gb825) (o := .cells #[.int .i64 a0_0, .int .i64 a0_1, .slice A0_2 l0_2.length c0_2, .slice A0_3 l0_3.length c0_3, .slice A0_4 l0_4.length c0_4, .slice A0_5 l0_5.length c0_5] 61 (0, 0)) (by (with_reducible repeat (first | refine blk_drewN ?_ _ | refine blk_drew ?_ | refine blk_alloc ?_ _)); exact BK825.out) hb); have n5_ := Aside0.mk (below_step (by repeat (first | (with_reducible first | exact HB.out | apply below_alloc | apply pw_below_drewN | apply below_drew1 | refine below_set ?_ GE825.out) | exact HB.out)) hb); clear HO_7; clear HO_8; clear HO_11; clear HO_85; clear BK825; clear HB; have HO_7 := n0_; have HO_8 := n1_; have HO_11 := n2_; have HO_85 := n3_; have BK825 := n4_; have HB := n5_; clear n0_ n1_ n2_ n3_ n4_ n5_; (try clear hb); (try clear hb2); (try clear hk); (try clear hi)))
                    go_ret
                    exact ⟨by first | rfl | (simp [errW_none, errW_some] <;> rfl) | (simp [*, errW_none, errW_some] <;> rfl), by repeat (first | (with_reducible first | exact HB.out | apply below_alloc | apply pw_below_drewN | apply below_drew1 | refine below_set ?_ GE825.out) | exact HB.out)⟩
end Go.Proofs.Ytbamanjedfccpaa.X
end

section
set_option linter.unusedVariables false
set_option linter.unusedSimpArgs false
namespace Go.Proofs.Ytbamanjedfccpaa.HTab
open Go.RowKit Go.Proofs.YtbamanjedfccpaaW.PrintWords Go.Proofs.YtbamanjedfccpaaW.PrintLast Go.Proofs.YtbamanjedfccpaaW.PrintMore Go.Proofs.Ytbamanjedfccpaa.X
set_option linter.unusedVariables false
set_option linter.unusedSimpArgs false
theorem prices_err_f {W H : Int} {l2 l3 l4 l5 : List Int} (h : ¬ cvB W H l2 l3 l4 l5 = true) : wax_Prices.f W H l2 l3 l4 l5 = some ([], 2) := by
  unfold wax_Prices.f
  rw [if_neg h]
theorem nested_l0 (r : Int) (a b y : List Bool) (l : List Int) (n : Nat) (hn : n ≤ 1000) (hl : l.length = n) (ha : a.length = n) (hb : b.length = n) (hy : y.length = n) (h : ∀ x : Int, 0 ≤ x → x < n → (rdOf false b x = true ↔ r ≤ rd l x) ∧ (rdOf false y x = true → rdOf false a x = true) ∧ (rdOf false a x = true → rdOf false b x = true)) : ∀ (d i fu : Nat), i + d = n → d < fu → cantinglaw07_WaxNested.l0 fu r a b y l n i = some true
  | d, i, 0, hi, hf => by omega
  | 0, i, fu + 1, hi, hf => by
    simp only [cantinglaw07_WaxNested.l0]
    rw [if_neg (by omega), awake_f]
    rfl
  | d + 1, i, fu + 1, hi, hf => by
    have ih := nested_l0 r a b y l n hn hl ha hb hy h d (i + 1) fu (by omega) (by omega)
    obtain ⟨h1, h2, h3⟩ := h (i : Int) (by omega) (by omega)
    have e : ((rdOf false b (i : Int)) != decide ((rd l (i : Int)) ≥ r)) = false := by
      cases hq : rdOf false b (i : Int) with
      | true => rw [decide_eq_true (h1.1 hq)]; rfl
      | false => rw [decide_eq_false (fun q => by rw [h1.2 q] at hq; cases hq)]; rfl
    simp only [cantinglaw07_WaxNested.l0]
    rw [if_pos (by omega), if_pos (by omega), if_pos (by omega), if_pos (by omega), e, if_neg (by decide), if_pos (by omega), if_pos (show (i : Int) < (a.length : Int) by omega), show wrap64 ((i : Int) + 1) = ((i + 1 : Nat) : Int) from wrap_add1 (by omega) (by omega), ih]
    cases q1 : rdOf false y (i : Int) with
    | true =>
      have q2 := h2 q1
      rw [q2, h3 q2]
      simp
    | false =>
      cases q2 : rdOf false a (i : Int) with
      | true => rw [h3 q2]; simp; omega
      | false => simp; omega
theorem nested_k (W H : Int) (l2 l3 l4 l5 : List Int) (r : Int) (K : Nat) (hK : 1000 ≤ K) : cantinglaw07_WaxNested.f (K + 2) W H l2 l3 l4 l5 r = some true := by
  unfold cantinglaw07_WaxNested.f
  rw [cloth_f]
  simp only [Option.bind_some]
  obtain ⟨m2, e2⟩ : ∃ m, m = l2.take 50 := ⟨_, rfl⟩
  obtain ⟨m3, e3⟩ : ∃ m, m = l3.take 50 := ⟨_, rfl⟩
  obtain ⟨m4, e4⟩ : ∃ m, m = l4.take 50 := ⟨_, rfl⟩
  obtain ⟨m5, e5⟩ : ∃ m, m = l5.take 50 := ⟨_, rfl⟩
  rw [← e2, ← e3, ← e4, ← e5]
  obtain ⟨R, hR, hR1⟩ : ∃ R, wrap64 (wrap64 (Int.tmod (IntKind.u64.wrap r) 12001) - 6000) = R ∧ -6000 ≤ R ∧ R ≤ 6000 := by
    refine ⟨_, rfl, ?_⟩
    have h0 : 0 ≤ IntKind.u64.wrap r ∧ IntKind.u64.wrap r < 18446744073709551616 := by simp only [IntKind.wrap_u64]; omega
    have h1 : Int.tmod (IntKind.u64.wrap r) 12001 = (IntKind.u64.wrap r) % 12001 := Int.tmod_eq_emod_of_nonneg h0.1
    rw [h1, wrap_id (x := IntKind.u64.wrap r % 12001) (by omega) (by omega), wrap_id (by omega) (by omega)]
    omega
  rw [hR, show wrap64 (R + 1) = R + 1 from wrap_id (by omega) (by omega)]
  by_cases hv : cvB W H m2 m3 m4 m5 = true
  case neg =>
    rw [prices_err_f hv, labels_err (fun q => hv q.1), labels_err (fun q => hv q.1)]
    simp [cantinglaw07_WaxNested.j0, awake_f]
  have hc := cvB_ok hv
  have hn := hc.n
  obtain ⟨n, hnn⟩ : ∃ n : Nat, (n : Int) = W * H := ⟨(W * H).toNat, by omega⟩
  obtain ⟨l, hl, hll, hlp⟩ := prices_f hv
  obtain ⟨a, b, h⟩ := labD hv (r := R) ⟨by omega, by omega⟩
  obtain ⟨x, y, h'⟩ := labD hv (r := R + 1) ⟨by omega, by omega⟩
  have eb : greatL W H m2 m3 m4 m5 R = b := by unfold greatL; rw [h.labels]; rfl
  rw [hl, labels_ok hv ⟨by omega, by omega⟩ h, labels_ok hv ⟨by omega, by omega⟩ h']
  have ha := h.la
  have hb := h.lb
  have hy := h'.lb
  have hloop := nested_l0 R a b y l n (by omega) (by omega) (by omega) (by omega) (by omega) (fun x x0 x1 => by
    have p := hlp x x0 (by omega) R (by omega) (by omega)
    rw [eb] at p
    exact ⟨p, lab_nested hc h h' (by omega) x x0 (by omega), lab_le h x x0 (by omega)⟩) n 0 K (by omega) (by omega)
  simp only [Option.bind_some, if_true, cantinglaw07_WaxNested.j0]
  rw [show ((0 : Int) != 0) = false by decide, if_neg (by decide), if_pos (by omega), if_pos (by omega), show ((a.length : Int) != (l.length : Int)) = false by rw [show (a.length : Int) = (l.length : Int) by omega]; simp]
  simp only [cantinglaw07_WaxNested.j1]
  rw [if_neg (by decide), show (l.length : Int) = (n : Int) by omega]
  exact hloop
theorem nested_f (W H : Int) (l2 l3 l4 l5 : List Int) (r : Int) : cantinglaw07_WaxNested.f 1002 W H l2 l3 l4 l5 r = some true := nested_k W H l2 l3 l4 l5 r 1000 (by omega)
end Go.Proofs.Ytbamanjedfccpaa.HTab
end

section
set_option linter.unusedVariables false
set_option linter.unusedSimpArgs false
namespace Go.Proofs.Ytbamanjedfccpaa.waxNested
open Go.ChangeShapes Go.WideShapes Go.ChangeAt Go.RowKit Go.Proofs.YtbamanjedfccpaaW.PrintWords Go.Proofs.Ytbamanjedfccpaa.HTab Go.Proofs.Ytbamanjedfccpaa.X
open Go.ChangeMaps (open_string shut_string)
set_option linter.unusedVariables false
theorem own : ownKnob Try.prog.godebug = none := by kernel_rfl
theorem laidOut : laidOutB Try.prog = true := by kernel_rfl
set_option maxRecDepth 100000 in
theorem lifted (os : Os) (started : os.Started) (H : Type) (enc : TypeId × Value → H) :
    ReturnsInHanded {} Try.checked os 14 .any (Rows.waxNestedSpec.pre6 enc Try.prog Try.f14 Rows.waxNestedRow.domain false) (Rows.waxNestedSpec.post enc Try.prog Try.f14 false true false false) := by
  refine returnsInHanded_of_change_sized (C := Try.checked) own started (by kernel_rfl) Try.func14
    (ChangeSpec.witness6 (enc := enc) (C := Try.checked) false ⟨#[], #[.agg #[.int .i64 0, .int .i64 0, .slice none 0 0, .slice none 0 0, .slice none 0 0, .slice none 0 0], .int .i64 0], []⟩ 8 (by kernel_rfl) (by kernel_rfl) (by kernel_rfl) (by kernel_rfl)) ?_
  intro W base args ds gs before hval0 hW hcnd hsz0 _
  have hsz : (DataW.weightsEach Try.prog (Try.f14.params.toList ++ Rows.waxNestedSpec.plain.varTypes Try.prog) (ds ++ gs)).all (· ≤ reachBytes) = true := hsz0
  have hval : ∀ (j : Nat) t v, Try.f14.params[j]? = some t → args[j]? = some v → Value.okWide Try.prog W .any base t v := hval0
  have hW' := hW
  obtain ⟨p, q, hA0, hV, rfl, hfz, hnd⟩ := hW
  have hA : DataW.TrodAll enc Try.prog W 0 (fun _ => true) true Try.f14.params.toList args.toList ds p := hA0
  rw [Try.params14] at hA hval hsz
  obtain ⟨v0, vs0, d0, ds0, p0, q0, hargs, rfl, rfl, h0, r0⟩ := trodAll_cons hA
  obtain ⟨v1, vs1, d1, ds1, p1, q1, rfl, rfl, rfl, h1, r1⟩ := trodAll_cons r0
  obtain ⟨rfl, rfl, rfl⟩ := trodAll_nil r1
  obtain rfl : args = #[v0, v1] := by cases args; simp_all
  obtain ⟨rfl, rfl⟩ := trodVars_none hV
  have k0 := h0
  have lt0 : ∀ x ∈ p0, x.block < W.heap.size := by obtain ⟨m, hm⟩ := k0; exact DataW.trod_lt m _ _ _ hm
  obtain ⟨n0, m0, A0_2, c0_2, l0_2, A0_3, c0_3, l0_3, A0_4, c0_4, l0_4, A0_5, c0_5, l0_5, rfl, ⟨C0_2, L0_2⟩, ⟨C0_3, L0_3⟩, ⟨C0_4, L0_4⟩, ⟨C0_5, L0_5⟩, wn0, wm0⟩ := open_cloth (hval 0 61 v0 rfl rfl) h0
  obtain ⟨a1, rfl, rfl, rfl, w1⟩ := open_int Try.underlying3 (hval 1 3 v1 rfl rfl) h1
  clear hA0 hval0 hsz0 hsz
  refine (cantinglaw07_WaxNested.calls 1002 n0 m0 A0_2 c0_2 l0_2 A0_3 c0_3 l0_3 A0_4 c0_4 l0_4 A0_5 c0_5 l0_5 a1 true W C0_2 L0_2 C0_3 L0_3 C0_4 L0_4 C0_5 L0_5 (nested_f n0 m0 l0_2 l0_3 l0_4 l0_5 a1)).mono fun e W' ⟨he, bel⟩ => ?_
  subst he
  exact ⟨_, rfl, _, _, _, [], _, [], hW', trodAll_mk1 (shut_bool Try.underlying4 _), (trodAll_cons_mk (Below.trod laidOut (by kernel_rfl) (of_decide_eq_true (by kernel_rfl)) k0 bel lt0) (trodAll_cons_mk (shut_int Try.underlying3 w1) trodAll_mk0)), rfl, bel.frame _, fun h => by cases h⟩
theorem over : Rows.waxNestedRow.holds Try.pinned (OpenSpec.ofChange Rows.waxNestedSpec) :=
  OpenClaim.holds_of_wide 14 Try.f14 rfl rfl rfl rfl rfl rfl rfl ⟨rfl, rfl, rfl, rfl, rfl⟩ rfl rfl rfl rfl rfl (by kernel_rfl) Try.func14 (by kernel_rfl)
    (of_decide_eq_true (by kernel_rfl)) (by unfold Func.isWrapper; first | (rw [if_pos (by decide +kernel)]; kernel_rfl) | (rw [if_neg (by decide +kernel)]; exact ⟨rfl, rfl⟩))
    (fun os started H enc _ => lifted os started H enc)
theorem proved : Rows.WaxNestedSaid := over
end Go.Proofs.Ytbamanjedfccpaa.waxNested
namespace Go.Proofs.Ytbamanjedfccpaa
theorem waxNested_holds : Rows.WaxNestedSaid := waxNested.proved
end Go.Proofs.Ytbamanjedfccpaa
#print axioms Go.Proofs.Ytbamanjedfccpaa.waxNested_holds
end
