/- The law WaxCheapest holds of the program, for every input that its statement lets in. -/
import Derived.Test.YtbamanjedfccpaaBj
import Derived.Test.YtbamanjedfccpaaBq
import Derived.Test.YtbamanjedfccpaaBt
import Derived.Test.YtbamanjedfccpaaBs
import Derived.Laws.BitsLemmas
import Derived.Test.YtbamanjedfccpaaBc
import Derived.Test.YtbamanjedfccpaaBn
import Derived.Test.YtbamanjedfccpaaBi
import Derived.Test.YtbamanjedfccpaaBh
import Derived.Test.YtbamanjedfccpaaBu
import Derived.Test.YtbamanjedfccpaaBo
import Derived.Test.YtbamanjedfccpaaRows
import Derived.WalkKit
import Derived.ProofKit
import Derived.OpenShut
import Derived.ShutString
import Derived.ChangeOld
import Derived.Below
import Derived.SizedLaws
import Derived.Test.YtbamanjedfccpaaBb
section
set_option linter.unusedVariables false
set_option linter.unusedSimpArgs false
namespace Go.Proofs.Ytbamanjedfccpaa.HTab
open Go.ChangeShapes Go.WideShapes Go.ChangeAt Go.RowKit Go.Deep Go.Joins Go.Proofs.YtbamanjedfccpaaW.PrintWords Go.Proofs.Ytbamanjedfccpaa.X
set_option linter.unusedVariables false
theorem array6 {α : Type} {cs : Array α} (h : cs.size = 6) : ∃ c0 c1 c2 c3 c4 c5, cs = #[c0, c1, c2, c3, c4, c5] := by
  obtain ⟨l⟩ := cs
  match l, h with
  | [c0, c1, c2, c3, c4, c5], _ => exact ⟨c0, c1, c2, c3, c4, c5, rfl⟩
section
variable {H : Type} {enc : TypeId × Value → H} {W : World} {r : Reach} {b0 base : Nat} {sp : Nat → Bool} {held : Bool}
theorem trod_struct6 {P : Program} {t : TypeId} {f0 f1 f2 f3 f4 f5 : Field} {fuel : Nat} {cs : List Value} {x : DataW H × List MemPlace} (ht : P.underlying t = some (.struct #[f0, f1, f2, f3, f4, f5])) (h : DataW.trod enc P W base sp held fuel t cs = some x) :
    ∃ y0 y1 y2 y3 y4 y5 n, DataW.trod enc P W base sp held n f0.type ((cs.drop f0.offset).take (P.cellsOf f0.type)) = some y0 ∧
      DataW.trod enc P W base sp held n f1.type ((cs.drop f1.offset).take (P.cellsOf f1.type)) = some y1 ∧ DataW.trod enc P W base sp held n f2.type ((cs.drop f2.offset).take (P.cellsOf f2.type)) = some y2 ∧
      DataW.trod enc P W base sp held n f3.type ((cs.drop f3.offset).take (P.cellsOf f3.type)) = some y3 ∧ DataW.trod enc P W base sp held n f4.type ((cs.drop f4.offset).take (P.cellsOf f4.type)) = some y4 ∧ DataW.trod enc P W base sp held n f5.type ((cs.drop f5.offset).take (P.cellsOf f5.type)) = some y5 := by
  obtain ⟨xs, n, _, rfl, hl, hlen, hf⟩ := DataW.trod_struct ht h
  match xs, hlen with
  | [y0, y1, y2, y3, y4, y5], _ => exact ⟨y0, y1, y2, y3, y4, y5, n, by simpa using hf 0 f0 rfl, by simpa using hf 1 f1 rfl, by simpa using hf 2 f2 rfl, by simpa using hf 3 f3 rfl, by simpa using hf 4 f4 rfl, by simpa using hf 5 f5 rfl⟩
theorem open_agg6 {P : Program} {t : TypeId} {f0 f1 f2 f3 f4 f5 : Field} {v : Value} {d : DataW H} {p : List MemPlace} (hs : P.underlying t = some (.struct #[f0, f1, f2, f3, f4, f5])) (hone : oneCellFields P #[f0, f1, f2, f3, f4, f5] = true) (hC : P.cellsOf t = 6)
    (hv : Value.okWide P W r b0 t v) (h : DataW.Trod enc P W base sp held t v d p) :
    ∃ (v0 v1 v2 v3 v4 v5 : Value) (y0 y1 y2 y3 y4 y5 : DataW H × List MemPlace) (n : Nat), v = .agg #[v0, v1, v2, v3, v4, v5] ∧
      DataW.trod enc P W base sp held n f0.type [v0] = some y0 ∧ DataW.trod enc P W base sp held n f1.type [v1] = some y1 ∧ DataW.trod enc P W base sp held n f2.type [v2] = some y2 ∧ DataW.trod enc P W base sp held n f3.type [v3] = some y3 ∧ DataW.trod enc P W base sp held n f4.type [v4] = some y4 ∧ DataW.trod enc P W base sp held n f5.type [v5] = some y5 := by
  obtain ⟨cs, rfl, hsz⟩ := okWide_struct hs hv
  obtain ⟨c0, c1, c2, c3, c4, c5, rfl⟩ := array6 (hsz.trans hC)
  obtain ⟨fuel, hf⟩ := h
  obtain ⟨y0, y1, y2, y3, y4, y5, n, h0, h1, h2, h3, h4, h5⟩ := trod_struct6 hs hf
  obtain ⟨o0, k0⟩ := hone_of hone 0 f0 rfl
  obtain ⟨o1, k1⟩ := hone_of hone 1 f1 rfl
  obtain ⟨o2, k2⟩ := hone_of hone 2 f2 rfl
  obtain ⟨o3, k3⟩ := hone_of hone 3 f3 rfl
  obtain ⟨o4, k4⟩ := hone_of hone 4 f4 rfl
  obtain ⟨o5, k5⟩ := hone_of hone 5 f5 rfl
  exact ⟨c0, c1, c2, c3, c4, c5, y0, y1, y2, y3, y4, y5, n, rfl, by simpa [Value.cells, o0, k0] using h0, by simpa [Value.cells, o1, k1] using h1, by simpa [Value.cells, o2, k2] using h2, by simpa [Value.cells, o3, k3] using h3, by simpa [Value.cells, o4, k4] using h4, by simpa [Value.cells, o5, k5] using h5⟩
theorem field_ints {n : Nat} {v : Value} {y : DataW H × List MemPlace} (h : DataW.trod enc Try.prog W base sp held n 40 [v] = some y) : ∃ (A : Option Addr) (c : Nat) (l : List Int), v = .slice A l.length c ∧ Kd.C (Kd.int .i64) W A l.length l ∧ l.length ≤ c := by
  rcases open_slice Try.underlying40 h with ⟨hc, hx⟩ | ⟨a, len, cap, m, n', D, Pl, hcs, hb, hl, hm, hmm, hx, hi⟩
  · simp only [List.cons.injEq, and_true] at hc
    exact ⟨none, 0, [], hc, Kd.C_nil _ _, Nat.le_refl _⟩
  · simp only [List.cons.injEq, and_true] at hcs
    obtain ⟨l, hll⟩ : ∃ l : List Int, l = (List.range len).map fun i => intAt (W.cell? (a.add i)) := ⟨_, rfl⟩
    have hlen : l.length = len := by rw [hll]; simp
    have hlm : len ≤ m := by rw [hmm]; split <;> omega
    have hone : Try.prog.cellsOf 3 = 1 := by kernel_rfl
    have hcell : ∀ i, i < len → ∃ b : Int, W.cell? (a.add i) = some (.int .i64 b) := fun i hil => by
      obtain ⟨cs', h2, h3⟩ := hi i (by omega)
      rw [hone, Nat.mul_one] at h2
      obtain ⟨b, e, _, _⟩ := DataW.trod_int Try.underlying3 h3
      subst e
      obtain ⟨_, hcl, hat⟩ := World.cells?_some h2
      have := hat 0 (by omega)
      refine ⟨b, ?_⟩
      have h4 : (a.add i).add 0 = a.add i := by unfold Addr.add; split <;> simp_all
      rw [h4] at this
      simpa using this
    refine ⟨some a, cap, l, by rw [hcs, hlen], ?_, by omega⟩
    unfold maxLen at hm
    refine ⟨rfl, by omega, fun hp => ⟨a, rfl, fun i p hp2 => ?_⟩⟩
    have hil : i < len := by
      have := (List.getElem?_eq_some_iff.1 hp2).1
      omega
    obtain ⟨b, hc1⟩ := hcell i hil
    have hpe : p = b := by
      rw [hll, List.getElem?_map, List.getElem?_range hil] at hp2
      have : intAt (W.cell? (a.add i)) = p := by simpa using hp2
      rw [← this, hc1]
      rfl
    subst hpe
    refine ⟨[.int .i64 p], rfl, rfl, fun q u hq => ?_⟩
    match q, hq with
    | 0, hq =>
      simp only [List.getElem?_cons_zero, Option.some.injEq] at hq
      rw [← hq, show (Kd.int .i64).sz = 1 from rfl, Nat.mul_one, Nat.add_zero]
      exact hc1
    | q + 1, hq => simp at hq
set_option maxRecDepth 100000 in
theorem open_cloth {v : Value} {d : DataW H} {ps : List MemPlace} (hval : Value.okWide Try.prog W r b0 61 v) (hd : DataW.Trod enc Try.prog W base sp held 61 v d ps) :
    ∃ (w h : Int) (A2 : Option Addr) (c2 : Nat) (l2 : List Int) (A3 : Option Addr) (c3 : Nat) (l3 : List Int) (A4 : Option Addr) (c4 : Nat) (l4 : List Int) (A5 : Option Addr) (c5 : Nat) (l5 : List Int),
      v = .agg #[.int .i64 w, .int .i64 h, .slice A2 l2.length c2, .slice A3 l3.length c3, .slice A4 l4.length c4, .slice A5 l5.length c5] ∧ (Kd.C (Kd.int .i64) W A2 l2.length l2 ∧ l2.length ≤ c2) ∧ (Kd.C (Kd.int .i64) W A3 l3.length l3 ∧ l3.length ≤ c3) ∧ (Kd.C (Kd.int .i64) W A4 l4.length l4 ∧ l4.length ≤ c4) ∧ (Kd.C (Kd.int .i64) W A5 l5.length l5 ∧ l5.length ≤ c5) ∧ (Lit.int .i64 w).wf = true ∧ (Lit.int .i64 h).wf = true := by
  obtain ⟨v0, v1, v2, v3, v4, v5, y0, y1, y2, y3, y4, y5, n, rfl, h0, h1, h2, h3, h4, h5⟩ := open_agg6 Try.underlying61 (by kernel_rfl) (by kernel_rfl) hval hd
  obtain ⟨n0, e0, _, w0⟩ := DataW.trod_int Try.underlying3 h0
  obtain ⟨n1, e1, _, w1⟩ := DataW.trod_int Try.underlying3 h1
  simp only [List.cons.injEq, and_true] at e0 e1
  subst e0 e1
  obtain ⟨A2, c2, l2, rfl, q2, b2⟩ := field_ints h2
  obtain ⟨A3, c3, l3, rfl, q3, b3⟩ := field_ints h3
  obtain ⟨A4, c4, l4, rfl, q4, b4⟩ := field_ints h4
  obtain ⟨A5, c5, l5, rfl, q5, b5⟩ := field_ints h5
  exact ⟨n0, n1, A2, c2, l2, A3, c3, l3, A4, c4, l4, A5, c5, l5, rfl, ⟨q2, b2⟩, ⟨q3, b3⟩, ⟨q4, b4⟩, ⟨q5, b5⟩, w0, w1⟩
end
end Go.Proofs.Ytbamanjedfccpaa.HTab
end

section
set_option linter.unusedVariables false
set_option linter.unusedSimpArgs false
namespace Go.Proofs.Ytbamanjedfccpaa.HTab
open Go.RowKit Go.Proofs.YtbamanjedfccpaaW.PrintWords Go.Proofs.YtbamanjedfccpaaW.PrintLast Go.Proofs.YtbamanjedfccpaaW.PrintMore Go.Proofs.Ytbamanjedfccpaa.X
set_option linter.unusedVariables false
set_option linter.unusedSimpArgs false
theorem few_f (l : List Int) : cantinglaw07_few.f l = some (l.take 50) := by
  have e : (mn (l.length : Int) 50).toNat = min 50 l.length := by unfold mn; split <;> omega
  have h : mn (l.length : Int) 50 ≤ (l.length : Int) ∧ 0 ≤ mn (l.length : Int) 50 := by unfold mn; split <;> omega
  unfold cantinglaw07_few.f slices_Clone_int_int.f
  rw [if_pos h.2, if_pos h.1, e, if_pos (by rw [List.length_take]; omega)]
  have : l.take (min 50 l.length) = l.take 50 := by
    rcases Nat.le_total 50 l.length with q | q
    · rw [Nat.min_eq_left q]
    · rw [Nat.min_eq_right q, List.take_of_length_le (Nat.le_refl _), List.take_of_length_le q]
  rw [this]
  rfl
theorem cloth_f (W H : Int) (l2 l3 l4 l5 : List Int) : cantinglaw07_cloth.f W H l2 l3 l4 l5 = some (W, H, l2.take 50, l3.take 50, l4.take 50, l5.take 50) := by
  unfold cantinglaw07_cloth.f
  rw [few_f, few_f, few_f, few_f]
  rfl
def pairR (W : Int) (right : List Int) (i : Nat) : S100 := ⟨(i : Int) / (W - 1) * W + (i : Int) % (W - 1), (i : Int) / (W - 1) * W + (i : Int) % (W - 1) + 1, rd right (i : Int)⟩
def pairD (W : Int) (down : List Int) (i : Nat) : S100 := ⟨(i : Int), (i : Int) + W, rd down (i : Int)⟩
def pairsL (W : Int) (right down : List Int) : List S100 := (List.range right.length).map (pairR W right) ++ (List.range down.length).map (pairD W down)
structure ClOK (W H : Int) (l2 l3 l4 l5 : List Int) : Prop where
  w : 1 ≤ W ∧ W ≤ 6
  h : 1 ≤ H ∧ H ≤ 6
  n : 1 ≤ W * H ∧ W * H ≤ 36
  n2 : (l2.length : Int) = W * H
  n3 : (l3.length : Int) = W * H
  n4 : (l4.length : Int) = W * H - H
  n5 : (l5.length : Int) = W * H - W
  b2 : ∀ x ∈ l2, 0 ≤ x ∧ x ≤ 1000
  b3 : ∀ x ∈ l3, 0 ≤ x ∧ x ≤ 1000
  b4 : ∀ x ∈ l4, 0 ≤ x ∧ x ≤ 1000
  b5 : ∀ x ∈ l5, 0 ≤ x ∧ x ≤ 1000
theorem okL_iff (l : List Int) (n : Int) (h : okL l n = true) : (l.length : Int) = n ∧ ∀ x ∈ l, 0 ≤ x ∧ x ≤ 1000 := by
  unfold okL at h
  rw [Bool.and_eq_true, Bool.not_eq_true', decide_eq_true_eq, List.any_eq_false] at h
  refine ⟨h.1, fun x hx => ?_⟩
  have := h.2 x hx
  unfold badI at this
  rw [Bool.or_eq_true, decide_eq_true_eq, decide_eq_true_eq] at this
  omega
theorem cvB_ok {W H : Int} {l2 l3 l4 l5 : List Int} (h : cvB W H l2 l3 l4 l5 = true) : ClOK W H l2 l3 l4 l5 := by
  unfold cvB at h
  simp only [Bool.and_eq_true, decide_eq_true_eq] at h
  obtain ⟨⟨hw, hh⟩, h2, h3, h4, h5⟩ := h
  have hn : 1 ≤ W * H ∧ W * H ≤ 36 := by
    have h1 : W = 1 ∨ W = 2 ∨ W = 3 ∨ W = 4 ∨ W = 5 ∨ W = 6 := by omega
    rcases h1 with h1 | h1 | h1 | h1 | h1 | h1 <;> rw [h1] <;> omega
  have q2 := okL_iff _ _ h2
  have q3 := okL_iff _ _ h3
  have q4 := okL_iff _ _ h4
  have q5 := okL_iff _ _ h5
  exact ⟨hw, hh, hn, q2.1, q3.1, q4.1, q5.1, q2.2, q3.2, q4.2, q5.2⟩
theorem rd_in {l : List Int} (h : ∀ x ∈ l, 0 ≤ x ∧ x ≤ 1000) (i : Int) : 0 ≤ rd l i ∧ rd l i ≤ 1000 := by
  unfold rd
  rw [List.getD_eq_getElem?_getD]
  cases hq : l[i.toNat]? with
  | none => simp
  | some x => exact h x (List.mem_of_getElem? hq)
section
variable {W H : Int} {l2 l3 l4 l5 : List Int} (hc : ClOK W H l2 l3 l4 l5)
include hc
theorem right_in (i : Nat) (hi : i < l4.length) : 2 ≤ W ∧ 0 ≤ (i : Int) / (W - 1) * W + (i : Int) % (W - 1) ∧ (i : Int) / (W - 1) * W + (i : Int) % (W - 1) + 1 < W * H := by
  have hw := hc.w
  have hh := hc.h
  have h4 := hc.n4
  have h1 : W = 1 ∨ W = 2 ∨ W = 3 ∨ W = 4 ∨ W = 5 ∨ W = 6 := by omega
  rcases h1 with h1 | h1 | h1 | h1 | h1 | h1 <;> subst h1 <;> omega
theorem down_in (i : Nat) (hi : i < l5.length) : (i : Int) + W < W * H := by
  have h5 := hc.n5
  omega
theorem lens_le : l4.length ≤ 36 ∧ l5.length ≤ 36 := by
  have h4 := hc.n4
  have h5 := hc.n5
  have := hc.n
  have := hc.w
  have := hc.h
  omega
theorem pairs_l1 : ∀ (d i fu : Nat), i + d = l5.length → d < fu → wax_Cloth_pairs.l1 fu ((List.range l4.length).map (pairR W l4) ++ (List.range i).map (pairD W l5)) l5 l5.length i W H l2 l3 l4 l5 = some (pairsL W l4 l5)
  | d, i, 0, h, hf => by omega
  | 0, i, fu + 1, h, hf => by
    obtain rfl : i = l5.length := by omega
    simp only [wax_Cloth_pairs.l1]
    rw [if_neg (by omega)]
    rfl
  | d + 1, i, fu + 1, h, hf => by
    have ih := pairs_l1 d (i + 1) fu (by omega) (by omega)
    have hl := lens_le hc
    have hw := hc.w
    simp only [wax_Cloth_pairs.l1]
    rw [if_pos (by omega), if_pos (by omega), if_pos (by omega), if_pos (by simp; omega), show wrap64 ((i : Int) + 1) = ((i + 1 : Nat) : Int) from wrap_add1 (by omega) (by omega), show wrap64 ((i : Int) + W) = (i : Int) + W from wrap_id (by omega) (by omega)]
    rw [List.range_succ, List.map_append, ← List.append_assoc] at ih
    exact ih
theorem pairs_l0 : ∀ (d i fu : Nat), i + d = l4.length → d + l5.length + 2 ≤ fu → wax_Cloth_pairs.l0 fu ((List.range i).map (pairR W l4)) l4 l4.length i W H l2 l3 l4 l5 = some (pairsL W l4 l5)
  | d, i, 0, h, hf => by omega
  | 0, i, fu + 1, h, hf => by
    obtain rfl : i = l4.length := by omega
    have := pairs_l1 hc l5.length 0 fu (by omega) (by omega)
    simp only [wax_Cloth_pairs.l0]
    rw [if_neg (by omega)]
    rw [List.range_zero, List.map_nil, List.append_nil] at this
    exact this
  | d + 1, i, fu + 1, h, hf => by
    have ih := pairs_l0 d (i + 1) fu (by omega) (by omega)
    have hl := lens_le hc
    have hw := hc.w
    have hr := right_in hc i (by omega)
    have hn := hc.n
    have e0 : wrap64 (W - 1) = W - 1 := wrap_id (by omega) (by omega)
    have i0 : (0 : Int) ≤ (i : Int) := by omega
    have q1 : 0 ≤ (i : Int) / (W - 1) ∧ (i : Int) / (W - 1) ≤ 36 := ⟨Int.ediv_nonneg i0 (by clear e0; omega), Int.le_trans (Int.ediv_le_self _ i0) (by clear e0; omega)⟩
    have q2 : 0 ≤ (i : Int) % (W - 1) ∧ (i : Int) % (W - 1) < W - 1 := ⟨Int.emod_nonneg _ (by clear e0; omega), Int.emod_lt_of_pos _ (by clear e0; omega)⟩
    have q3 : 0 ≤ (i : Int) / (W - 1) * W := Int.mul_nonneg q1.1 (by clear e0; omega)
    simp only [wax_Cloth_pairs.l0]
    rw [e0, Int.tdiv_eq_ediv_of_nonneg i0, Int.tmod_eq_emod_of_nonneg i0]
    clear e0
    rw [show wrap64 ((i : Int) / (W - 1)) = (i : Int) / (W - 1) from wrap_id (by omega) (by omega), show wrap64 ((i : Int) / (W - 1) * W) = (i : Int) / (W - 1) * W from wrap_id (by omega) (by omega), show wrap64 ((i : Int) / (W - 1) * W + (i : Int) % (W - 1)) = (i : Int) / (W - 1) * W + (i : Int) % (W - 1) from wrap_id (by omega) (by omega), show wrap64 ((i : Int) / (W - 1) * W + (i : Int) % (W - 1) + 1) = (i : Int) / (W - 1) * W + (i : Int) % (W - 1) + 1 from wrap_id (by omega) (by omega)]
    rw [if_pos (by omega), if_pos (by omega), if_pos (by omega), if_neg (by omega), if_pos (by simp; omega), show wrap64 ((i : Int) + 1) = ((i + 1 : Nat) : Int) from wrap_add1 (by omega) (by omega)]
    rw [List.range_succ, List.map_append] at ih
    exact ih
theorem pairs_f (fu : Nat) (hf : 100 ≤ fu) : wax_Cloth_pairs.f fu W H l2 l3 l4 l5 = some (pairsL W l4 l5) := by
  have hl := lens_le hc
  have := pairs_l0 hc l4.length 0 fu (by omega) (by omega)
  exact this
theorem pairs_in : ∀ p ∈ pairsL W l4 l5, 0 ≤ p.f0 ∧ p.f0 < W * H ∧ 0 ≤ p.f1 ∧ p.f1 < W * H ∧ 0 ≤ p.f2 ∧ p.f2 ≤ 1000 := fun p hp => by
  unfold pairsL at hp
  rcases List.mem_append.1 hp with hp | hp
  · obtain ⟨i, hi, rfl⟩ := List.mem_map.1 hp
    have := right_in hc i (List.mem_range.1 hi)
    have hb := rd_in hc.b4 (i : Int)
    unfold pairR
    dsimp only
    omega
  · obtain ⟨i, hi, rfl⟩ := List.mem_map.1 hp
    have := down_in hc i (List.mem_range.1 hi)
    have hb := rd_in hc.b5 (i : Int)
    have hw := hc.w
    unfold pairD
    dsimp only
    omega
theorem pairs_len : (pairsL W l4 l5).length ≤ 72 := by
  have hl := lens_le hc
  unfold pairsL
  simp
  omega
end
def cellE (l2 l3 : List Int) (r : Int) (S : List Bool) (i : Int) : Int := if rdOf false S i then rd l3 i + r else rd l2 i
def pairE (S : List Bool) : List S100 → Int
  | [] => 0
  | p :: l => (if (rdOf false S p.f0 != rdOf false S p.f1) = true then p.f2 else 0) + pairE S l
def enE (W H : Int) (l2 l3 l4 l5 : List Int) (r : Int) (S : List Bool) : Int := sumF (cellE l2 l3 r S) (W * H).toNat + pairE S (pairsL W l4 l5)
theorem sumF_in {h : Int → Int} {C : Int} : ∀ n : Nat, (∀ v : Int, 0 ≤ v → v < n → -C ≤ h v ∧ h v ≤ C) → -(C * n) ≤ sumF h n ∧ sumF h n ≤ C * n
  | 0, _ => by simp [sumF]
  | n + 1, hh => by
    have ih := sumF_in n (fun v v0 v1 => hh v v0 (by omega))
    have h0 := hh n (by omega) (by omega)
    have e : C * ((n + 1 : Nat) : Int) = C * n + C := by rw [Int.natCast_add, Int.mul_add]; simp
    simp only [sumF]
    rw [e]
    omega
section
variable {W H : Int} {l2 l3 l4 l5 : List Int} (hc : ClOK W H l2 l3 l4 l5) {r : Int} (hr : -10000 ≤ r ∧ r ≤ 10000) (S : List Bool)
include hc hr
theorem cell_in (i : Int) : -11000 ≤ cellE l2 l3 r S i ∧ cellE l2 l3 r S i ≤ 11000 := by
  have h2 := rd_in hc.b2 i
  have h3 := rd_in hc.b3 i
  unfold cellE
  split <;> omega
omit hr in
theorem energy_l1 (n : Nat) (hS : S.length = n) (hn : (n : Int) = W * H) : ∀ (d i fu : Nat) (x : Int), i + d = (pairsL W l4 l5).length → d < fu → -500000 ≤ x → x + 1000 * d ≤ 600000 → wax_Energy.l1 fu S x (pairsL W l4 l5) (pairsL W l4 l5).length i = some (x + pairE S ((pairsL W l4 l5).drop i), 0)
  | d, i, 0, x, h, hf, x0, x1 => by omega
  | 0, i, fu + 1, x, h, hf, x0, x1 => by
    simp only [wax_Energy.l1]
    rw [if_neg (by omega), List.drop_eq_nil_of_le (by omega)]
    simp [pairE]
  | d + 1, i, fu + 1, x, h, hf, x0, x1 => by
    have hi : i < (pairsL W l4 l5).length := by omega
    have hrd : rd_T100 (pairsL W l4 l5) (i : Int) = (pairsL W l4 l5)[i] := by simp [rd_T100, hi]
    have hp := pairs_in hc _ (List.getElem_mem hi)
    have hpl := pairs_len hc
    obtain ⟨p, hpe⟩ : ∃ p, p = (pairsL W l4 l5)[i] := ⟨_, rfl⟩
    have ih := fun (x : Int) => energy_l1 n hS hn d (i + 1) fu x (by omega) (by omega)
    simp only [wax_Energy.l1]
    rw [if_pos (by omega), if_pos (by omega), if_pos (by omega), hrd, List.drop_eq_getElem_cons hi, ← hpe]
    rw [← hpe] at hp
    rw [if_pos hp.1, if_pos (by omega), if_pos hp.2.2.1, if_pos (by omega), show wrap64 ((i : Int) + 1) = ((i + 1 : Nat) : Int) from wrap_add1 (by omega) (by omega)]
    simp only [pairE]
    by_cases c : (rdOf false S p.f0 != rdOf false S p.f1) = true
    · rw [if_pos c, if_pos c, show wrap64 (x + p.f2) = x + p.f2 from wrap_id (by omega) (by omega), ih (x + p.f2) (by omega) (by omega), Int.add_assoc]
    · rw [if_neg c, if_neg c, ih x x0 (by omega), Int.zero_add]
theorem energy_l0 (n : Nat) (hS : S.length = n) (hn : (n : Int) = W * H) : ∀ (d i g : Nat), i + d = n → wax_Energy.l0 (g + d + 1) r S (sumF (cellE l2 l3 r S) i) S n i W H l2 l3 l4 l5 = (wax_Cloth_pairs.f g W H l2 l3 l4 l5).bind fun P => wax_Energy.l1 g S (sumF (cellE l2 l3 r S) n) P P.length 0
  | 0, i, g, h => by
    obtain rfl : i = n := by omega
    rw [Nat.add_zero, wax_Energy.l0]
    rw [if_neg (by omega)]
  | d + 1, i, g, h => by
    have ih := energy_l0 n hS hn d (i + 1) g (by omega)
    have hN := hc.n
    have h2 := hc.n2
    have h3 := hc.n3
    have hs := sumF_in i (fun v _ _ => cell_in hc hr S v)
    have hci := cell_in hc hr S (i : Int)
    have hb2 := rd_in hc.b2 (i : Int)
    have hb3 := rd_in hc.b3 (i : Int)
    simp only [sumF] at ih
    rw [show g + (d + 1) + 1 = (g + d + 1) + 1 by omega, wax_Energy.l0]
    rw [if_pos (by omega), if_pos (by omega), if_pos (by omega), show wrap64 ((i : Int) + 1) = ((i + 1 : Nat) : Int) from wrap_add1 (by omega) (by omega)]
    cases hq : rdOf false S (i : Int) with
    | true =>
      have e : cellE l2 l3 r S i = rd l3 i + r := by unfold cellE; rw [if_pos hq]
      rw [e] at ih hci
      rw [if_pos rfl, if_pos (by omega), show wrap64 (rd l3 (i : Int) + r) = rd l3 (i : Int) + r from wrap_id (by omega) (by omega), show wrap64 (sumF (cellE l2 l3 r S) i + (rd l3 (i : Int) + r)) = sumF (cellE l2 l3 r S) i + (rd l3 (i : Int) + r) from wrap_id (by omega) (by omega)]
      exact ih
    | false =>
      have e : cellE l2 l3 r S i = rd l2 i := by unfold cellE; rw [if_neg (by rw [hq]; decide)]
      rw [e] at ih hci
      rw [if_neg (by decide), if_pos (by omega), show wrap64 (sumF (cellE l2 l3 r S) i + rd l2 (i : Int)) = sumF (cellE l2 l3 r S) i + rd l2 (i : Int) from wrap_id (by omega) (by omega)]
      exact ih
end
theorem energy_f {W H : Int} {l2 l3 l4 l5 : List Int} (hv : cvB W H l2 l3 l4 l5 = true) {r : Int} (hr : -10000 ≤ r ∧ r ≤ 10000) (S : List Bool) (hS : (S.length : Int) = W * H) (fu : Nat) (hf : 300 ≤ fu) : wax_Energy.f fu W H l2 l3 l4 l5 r S = some (enE W H l2 l3 l4 l5 r S, 0) := by
  have hc := cvB_ok hv
  have hN := hc.n
  obtain ⟨n, hn⟩ : ∃ n : Nat, S.length = n := ⟨_, rfl⟩
  have hnn : (n : Int) = W * H := by omega
  have e : (W * H).toNat = n := by omega
  obtain ⟨g, rfl⟩ : ∃ g, fu = g + n + 1 + 1 := ⟨fu - n - 2, by omega⟩
  have h0 := energy_l0 hc hr S n hn hnn n 0 g (by omega)
  have hs := sumF_in n (fun v _ _ => cell_in hc hr S v)
  have h1 := energy_l1 hc S n hn hnn (pairsL W l4 l5).length 0 g (sumF (cellE l2 l3 r S) n) (by omega) (by have := pairs_len hc; omega) (by omega) (by have := pairs_len hc; omega)
  unfold wax_Energy.f wax_Cloth_valid.f
  rw [hv, Option.bind_some, if_pos rfl, if_neg (by omega), decide_eq_false (show ¬ r > 10000 by omega)]
  simp only [wax_Energy.j0, Bool.false_eq_true, if_false]
  rw [show wrap64 (W * H) = W * H from wrap_id (by omega) (by omega), if_pos hS, hn]
  refine h0.trans ?_
  rw [pairs_f hc g (by omega), Option.bind_some]
  refine h1.trans ?_
  unfold enE
  rw [e, List.drop_zero]
theorem energy_size {W H : Int} {l2 l3 l4 l5 : List Int} (hv : cvB W H l2 l3 l4 l5 = true) {r : Int} (hr : -10000 ≤ r ∧ r ≤ 10000) (S : List Bool) (hS : ¬ (S.length : Int) = W * H) (fu : Nat) (hf : 1 ≤ fu) : wax_Energy.f fu W H l2 l3 l4 l5 r S = some (0, 3) := by
  have hc := cvB_ok hv
  have hN := hc.n
  obtain ⟨fu, rfl⟩ : ∃ g, fu = g + 1 := ⟨fu - 1, by omega⟩
  unfold wax_Energy.f wax_Cloth_valid.f
  rw [hv, Option.bind_some, if_pos rfl, if_neg (by omega), decide_eq_false (show ¬ r > 10000 by omega)]
  simp only [wax_Energy.j0, Bool.false_eq_true, if_false]
  rw [show wrap64 (W * H) = W * H from wrap_id (by omega) (by omega), if_neg hS]
end Go.Proofs.Ytbamanjedfccpaa.HTab
end

section
set_option linter.unusedVariables false
set_option linter.unusedSimpArgs false
namespace Go.Proofs.Ytbamanjedfccpaa.HTab
open Go.RowKit Go.Proofs.YtbamanjedfccpaaW.PrintWords Go.Proofs.YtbamanjedfccpaaW.PrintLast Go.Proofs.YtbamanjedfccpaaW.PrintMore Go.Proofs.Ytbamanjedfccpaa.X
set_option linter.unusedVariables false
set_option linter.unusedSimpArgs false
section
variable (N : Nat) (hN2 : 2 ≤ N) (hN : N ≤ 12) (l : List S34) (hl : l.length ≤ 160) (hg : GoodR N l)
include hN2 hN hl hg
end
end Go.Proofs.Ytbamanjedfccpaa.HTab
end

section
set_option linter.unusedVariables false
set_option linter.unusedSimpArgs false
namespace Go.Proofs.Ytbamanjedfccpaa.X
open Go.RowKit Go.Proofs.YtbamanjedfccpaaW.PrintWords Go.Proofs.YtbamanjedfccpaaW.PrintLast Go.Proofs.YtbamanjedfccpaaW.PrintMore
attribute [local go_sem] max2_int min2_int max_two min_two max_three min_three max_four min_four   -- for this text's walks alone
set_option linter.unusedVariables false
set_option linter.unusedSimpArgs false
end Go.Proofs.Ytbamanjedfccpaa.X
end

section
set_option linter.unusedVariables false
set_option linter.unusedSimpArgs false
namespace Go.Proofs.Ytbamanjedfccpaa.HTab
open Go.RowKit Go.Proofs.YtbamanjedfccpaaW.PrintWords Go.Proofs.YtbamanjedfccpaaW.PrintLast Go.Proofs.YtbamanjedfccpaaW.PrintMore Go.Proofs.Ytbamanjedfccpaa.X
set_option linter.unusedVariables false
set_option linter.unusedSimpArgs false
def shortL (xs : List (List Bool)) : Prop := xs.length ≤ 10000 ∧ ∀ S ∈ xs, S.length ≤ 1000
instance (xs : List (List Bool)) : Decidable (shortL xs) := inferInstanceAs (Decidable (_ ∧ _))
end Go.Proofs.Ytbamanjedfccpaa.HTab
namespace Go.Proofs.Ytbamanjedfccpaa.X
open Go.RowKit Go.Proofs.YtbamanjedfccpaaW.PrintWords Go.Proofs.YtbamanjedfccpaaW.PrintLast Go.Proofs.YtbamanjedfccpaaW.PrintMore Go.Proofs.Ytbamanjedfccpaa.HTab
end Go.Proofs.Ytbamanjedfccpaa.X
end

section
set_option linter.unusedVariables false
set_option linter.unusedSimpArgs false
namespace Go.Proofs.Ytbamanjedfccpaa.X
open Go.RowKit Go.Proofs.YtbamanjedfccpaaW.PrintWords Go.Proofs.YtbamanjedfccpaaW.PrintLast Go.Proofs.YtbamanjedfccpaaW.PrintMore
attribute [local go_sem] max2_int min2_int max_two min_two max_three min_three max_four min_four   -- for this text's walks alone
set_option linter.unusedVariables false
set_option linter.unusedSimpArgs false
end Go.Proofs.Ytbamanjedfccpaa.X
end

section
set_option linter.unusedVariables false
set_option linter.unusedSimpArgs false
namespace Go.Proofs.Ytbamanjedfccpaa.HTab
open Go.RowKit Go.Proofs.YtbamanjedfccpaaW.PrintWords Go.Proofs.YtbamanjedfccpaaW.PrintLast Go.Proofs.YtbamanjedfccpaaW.PrintMore Go.Proofs.Ytbamanjedfccpaa.X
set_option linter.unusedVariables false
set_option linter.unusedSimpArgs false
end Go.Proofs.Ytbamanjedfccpaa.HTab
end

section
set_option linter.unusedVariables false
set_option linter.unusedSimpArgs false
namespace Go.Proofs.Ytbamanjedfccpaa.X
open Go.RowKit Go.Proofs.YtbamanjedfccpaaW.PrintWords Go.Proofs.YtbamanjedfccpaaW.PrintLast Go.Proofs.YtbamanjedfccpaaW.PrintMore
attribute [local go_sem] max2_int min2_int max_two min_two max_three min_three max_four min_four   -- for this text's walks alone
set_option linter.unusedVariables false
set_option linter.unusedSimpArgs false
end Go.Proofs.Ytbamanjedfccpaa.X
end

section
set_option linter.unusedVariables false
set_option linter.unusedSimpArgs false
namespace Go.Proofs.Ytbamanjedfccpaa.HTab
open Go.RowKit Go.Proofs.YtbamanjedfccpaaW.PrintWords Go.Proofs.YtbamanjedfccpaaW.PrintLast Go.Proofs.YtbamanjedfccpaaW.PrintMore Go.Proofs.Ytbamanjedfccpaa.X
set_option linter.unusedVariables false
set_option linter.unusedSimpArgs false
end Go.Proofs.Ytbamanjedfccpaa.HTab
end

section
set_option linter.unusedVariables false
set_option linter.unusedSimpArgs false
namespace Go.Proofs.Ytbamanjedfccpaa.X
open Go.RowKit Go.Proofs.YtbamanjedfccpaaW.PrintWords Go.Proofs.YtbamanjedfccpaaW.PrintLast Go.Proofs.YtbamanjedfccpaaW.PrintMore
attribute [local go_sem] max2_int min2_int max_two min_two max_three min_three max_four min_four   -- for this text's walks alone
set_option linter.unusedVariables false
set_option linter.unusedSimpArgs false
end Go.Proofs.Ytbamanjedfccpaa.X
end

section
set_option linter.unusedVariables false
set_option linter.unusedSimpArgs false
namespace Go.Proofs.Ytbamanjedfccpaa.HTab
open Go.RowKit Go.Proofs.YtbamanjedfccpaaW.PrintWords Go.Proofs.YtbamanjedfccpaaW.PrintLast Go.Proofs.YtbamanjedfccpaaW.PrintMore Go.Proofs.Ytbamanjedfccpaa.X
set_option linter.unusedVariables false
set_option linter.unusedSimpArgs false
theorem costF_app (both : Bool) (T : Int → Bool) : ∀ l m : List S35, costF both T (l ++ m) = costF both T l + costF both T m
  | [], m => by simp [costF]
  | a :: l, m => by
    simp only [List.cons_append, costF, costF_app both T l m]
    omega
end Go.Proofs.Ytbamanjedfccpaa.HTab
end

section
set_option linter.unusedVariables false
set_option linter.unusedSimpArgs false
namespace Go.Proofs.Ytbamanjedfccpaa.HTab
open Go.RowKit Go.Proofs.YtbamanjedfccpaaW.PrintWords Go.Proofs.YtbamanjedfccpaaW.PrintLast Go.Proofs.YtbamanjedfccpaaW.PrintMore Go.Proofs.Ytbamanjedfccpaa.X
set_option linter.unusedVariables false
set_option linter.unusedSimpArgs false
def lowC (l3 : List Int) (r i : Int) : Int := mn (rd l3 i + r) 0
def cellA (n : Int) (l2 l3 : List Int) (r : Int) (i : Nat) : List S35 := [⟨0, (i : Int) + 1, rd l2 (i : Int) - lowC l3 r (i : Int)⟩, ⟨(i : Int) + 1, n + 1, rd l3 (i : Int) + r - lowC l3 r (i : Int)⟩]
def pairA (p : S100) : List S35 := [⟨p.f0 + 1, p.f1 + 1, p.f2⟩, ⟨p.f1 + 1, p.f0 + 1, p.f2⟩]
def arcsL (W H : Int) (l2 l3 l4 l5 : List Int) (r : Int) : List S35 := (List.range (W * H).toNat).flatMap (cellA (W * H) l2 l3 r) ++ (pairsL W l4 l5).flatMap pairA
theorem flat_len {α : Type} (g : α → List S35) (hg : ∀ a, (g a).length = 2) : ∀ l : List α, (l.flatMap g).length = 2 * l.length
  | [] => rfl
  | a :: l => by
    rw [List.flatMap_cons, List.length_append, hg a, flat_len g hg l, List.length_cons]
    omega
theorem lowC_in {l3 : List Int} (h : ∀ x ∈ l3, 0 ≤ x ∧ x ≤ 1000) {r : Int} (hr : -10000 ≤ r ∧ r ≤ 10000) (i : Int) : -10000 ≤ lowC l3 r i ∧ lowC l3 r i ≤ 0 ∧ lowC l3 r i ≤ rd l3 i + r := by
  have := rd_in h i
  unfold lowC mn
  split <;> omega
section
variable {W H : Int} {l2 l3 l4 l5 : List Int} (hc : ClOK W H l2 l3 l4 l5)
include hc
theorem arcs_l1 (N : Int) : ∀ (d i fu : Nat) (X : List S35), i + d = (pairsL W l4 l5).length → d < fu → X.length + 2 * d ≤ 1000 →
    wax_Cloth_arcs.l1 fu (pairsL W l4 l5) (pairsL W l4 l5).length i N X = some (X ++ ((pairsL W l4 l5).drop i).flatMap pairA)
  | d, i, 0, X, h, hf, hX => by omega
  | 0, i, fu + 1, X, h, hf, hX => by
    simp only [wax_Cloth_arcs.l1]
    rw [if_neg (by omega), List.drop_eq_nil_of_le (by omega)]
    simp
  | d + 1, i, fu + 1, X, h, hf, hX => by
    have hi : i < (pairsL W l4 l5).length := by omega
    have hrd : rd_T100 (pairsL W l4 l5) (i : Int) = (pairsL W l4 l5)[i] := by simp [rd_T100, hi]
    have hp := pairs_in hc _ (List.getElem_mem hi)
    have hn := hc.n
    have hpl := pairs_len hc
    obtain ⟨p, hpe⟩ : ∃ p, p = (pairsL W l4 l5)[i] := ⟨_, rfl⟩
    have ih := fun X hX => arcs_l1 N d (i + 1) fu X (by omega) (by omega) hX
    simp only [wax_Cloth_arcs.l1]
    rw [if_pos (by omega), if_pos (by omega), if_pos (by omega), hrd, List.drop_eq_getElem_cons hi, ← hpe]
    rw [← hpe] at hp
    rw [show wrap64 ((i : Int) + 1) = ((i + 1 : Nat) : Int) from wrap_add1 (by omega) (by omega), show wrap64 (p.f0 + 1) = p.f0 + 1 from wrap_id (by omega) (by omega), show wrap64 (p.f1 + 1) = p.f1 + 1 from wrap_id (by omega) (by omega)]
    rw [Option.bind_some, if_pos (by simp; omega), ih _ (by simp; omega), List.flatMap_cons, ← List.append_assoc]
    rfl
theorem arcs_l0 {r : Int} (hr : -10000 ≤ r ∧ r ≤ 10000) (n : Nat) (hn : (n : Int) = W * H) : ∀ (d i fu : Nat) (X : List S35), i + d = n → d + 100 < fu → X.length + 2 * d ≤ 100 →
    wax_Cloth_arcs.l0 fu r n i W H l2 l3 l4 l5 ((n : Int) + 2) X = some (X ++ ((List.range n).drop i).flatMap (cellA n l2 l3 r) ++ (pairsL W l4 l5).flatMap pairA)
  | d, i, 0, X, h, hf, hX => by omega
  | 0, i, fu + 1, X, h, hf, hX => by
    have hpl := pairs_len hc
    simp only [wax_Cloth_arcs.l0]
    rw [if_neg (by omega), List.drop_eq_nil_of_le (by simp; omega), pairs_f hc fu (by omega), Option.bind_some]
    have := arcs_l1 hc ((n : Int) + 2) (pairsL W l4 l5).length 0 fu X (by omega) (by omega) (by omega)
    rw [List.drop_zero] at this
    rw [List.flatMap_nil, List.append_nil]
    exact this
  | d + 1, i, fu + 1, X, h, hf, hX => by
    have hN := hc.n
    have h2 := hc.n2
    have h3 := hc.n3
    have hb2 := rd_in hc.b2 (i : Int)
    have hb3 := rd_in hc.b3 (i : Int)
    have hlo := lowC_in hc.b3 hr (i : Int)
    have ih := fun X hX => arcs_l0 hr n hn d (i + 1) fu X (by omega) (by omega) hX
    simp only [wax_Cloth_arcs.l0]
    rw [if_pos (by omega), if_pos (by omega), if_pos (by omega), if_pos (by omega)]
    rw [show wrap64 (rd l3 (i : Int) + r) = rd l3 (i : Int) + r from wrap_id (by omega) (by omega)]
    rw [show mn (rd l3 (i : Int) + r) 0 = lowC l3 r i from rfl]
    rw [show wrap64 ((i : Int) + 1) = ((i + 1 : Nat) : Int) from wrap_add1 (by omega) (by omega), show wrap64 ((n : Int) + 2 - 1) = (n : Int) + 1 by rw [wrap_id (by omega) (by omega)]; omega, show wrap64 (rd l2 (i : Int) - lowC l3 r i) = rd l2 (i : Int) - lowC l3 r i from wrap_id (by omega) (by omega), show wrap64 (rd l3 (i : Int) + r - lowC l3 r i) = rd l3 (i : Int) + r - lowC l3 r i from wrap_id (by omega) (by omega)]
    rw [Option.bind_some, if_pos (by simp; omega), ih _ (by simp; omega), List.drop_eq_getElem_cons (l := List.range n) (i := i) (by simp; omega), List.flatMap_cons, List.getElem_range, ← List.append_assoc]
    rfl
theorem arcs_f {r : Int} (hr : -10000 ≤ r ∧ r ≤ 10000) (fu : Nat) (hf : 200 ≤ fu) : wax_Cloth_arcs.f fu W H l2 l3 l4 l5 r = some (arcsL W H l2 l3 l4 l5 r) := by
  have hN := hc.n
  obtain ⟨n, hn⟩ : ∃ n : Nat, (n : Int) = W * H := ⟨(W * H).toNat, by omega⟩
  have := arcs_l0 hc hr n hn n 0 fu [] (by omega) (by omega) (by simp; omega)
  unfold wax_Cloth_arcs.f arcsL
  rw [← hn, Int.toNat_natCast, show wrap64 (n : Int) = (n : Int) from wrap_id (by omega) (by omega), show wrap64 ((n : Int) + 2) = (n : Int) + 2 from wrap_id (by omega) (by omega)]
  exact this
theorem arcs_len (r : Int) : (arcsL W H l2 l3 l4 l5 r).length ≤ 300 := by
  have hN := hc.n
  have hpl := pairs_len hc
  unfold arcsL
  rw [List.length_append, flat_len _ (fun _ => rfl), flat_len _ (fun _ => rfl), List.length_range]
  omega
theorem arcs_good {r : Int} (hr : -10000 ≤ r ∧ r ≤ 10000) (N : Nat) (hN : (N : Int) = W * H + 2) : Good N (arcsL W H l2 l3 l4 l5 r) ∧ ∀ a ∈ arcsL W H l2 l3 l4 l5 r, 0 ≤ a.f2 ∧ a.f2 ≤ 1000000 := by
  have hn := hc.n
  have key : ∀ a ∈ arcsL W H l2 l3 l4 l5 r, (0 ≤ a.f0 ∧ a.f0 < (N : Int) ∧ 0 ≤ a.f1 ∧ a.f1 < (N : Int)) ∧ 0 ≤ a.f2 ∧ a.f2 ≤ 1000000 := fun a ha => by
    unfold arcsL at ha
    rcases List.mem_append.1 ha with ha | ha
    · obtain ⟨i, hi, ha⟩ := List.mem_flatMap.1 ha
      have hi := List.mem_range.1 hi
      have hb2 := rd_in hc.b2 (i : Int)
      have hb3 := rd_in hc.b3 (i : Int)
      have hlo := lowC_in hc.b3 hr (i : Int)
      unfold cellA at ha
      simp only [List.mem_cons, List.not_mem_nil, or_false] at ha
      rcases ha with rfl | rfl <;> dsimp only <;> omega
    · obtain ⟨p, hp, ha⟩ := List.mem_flatMap.1 ha
      have := pairs_in hc p hp
      unfold pairA at ha
      simp only [List.mem_cons, List.not_mem_nil, or_false] at ha
      rcases ha with rfl | rfl <;> dsimp only <;> omega
  exact ⟨fun a ha => (key a ha).1, fun a ha => (key a ha).2⟩
end
def sideL (S : List Bool) (v : Int) : Bool := decide (v = 0) || (decide (1 ≤ v) && rdOf false S (v - 1))
theorem rdOf_out (S : List Bool) (i : Int) (h : (S.length : Int) ≤ i) : rdOf false S i = false := by
  unfold rdOf
  rw [List.getD_eq_getElem?_getD, List.getElem?_eq_none (by omega)]
  rfl
theorem sideL_in (S : List Bool) (i : Int) (h : 0 ≤ i) : sideL S (i + 1) = rdOf false S i := by
  unfold sideL
  rw [decide_eq_false (by omega), decide_eq_true (show 1 ≤ i + 1 by omega), show i + 1 - 1 = i by omega]
  rfl
theorem sideL_side (S : List Bool) (N : Nat) (h : S.length + 2 = N) : side (sideL S) 0 ((N : Int) - 1) := by
  constructor
  · rfl
  · rw [show (N : Int) - 1 = (S.length : Int) + 1 by omega, sideL_in _ _ (by omega), rdOf_out _ _ (by omega)]
theorem cell_cost (n : Nat) (l2 l3 : List Int) (r : Int) (S : List Bool) (hS : S.length = n) : ∀ m : Nat, m ≤ n → costF false (sideL S) ((List.range m).flatMap (cellA n l2 l3 r)) = sumF (fun v => cellE l2 l3 r S v - lowC l3 r v) m
  | 0, _ => rfl
  | m + 1, h => by
    have ih := cell_cost n l2 l3 r S hS m (by omega)
    rw [List.range_succ, List.flatMap_append, costF_app, ih, List.flatMap_cons, List.flatMap_nil, List.append_nil]
    simp only [sumF]
    congr 1
    unfold cellA cellE
    simp only [costF]
    rw [sideL_in S m (by omega), sideL_in S n (by omega), rdOf_out S n (by omega), show sideL S 0 = true from rfl]
    cases rdOf false S (m : Int) <;> simp
theorem pair_cost (S : List Bool) : ∀ l : List S100, (∀ p ∈ l, 0 ≤ p.f0 ∧ 0 ≤ p.f1) → costF false (sideL S) (l.flatMap pairA) = pairE S l
  | [], _ => rfl
  | p :: l, h => by
    have ih := pair_cost S l (fun q hq => h q (List.mem_cons_of_mem _ hq))
    obtain ⟨h0, h1⟩ := h p (List.mem_cons_self ..)
    rw [List.flatMap_cons, costF_app, ih]
    simp only [pairE]
    congr 1
    unfold pairA
    simp only [costF]
    rw [sideL_in S _ h0, sideL_in S _ h1]
    cases rdOf false S p.f0 <;> cases rdOf false S p.f1 <;> simp
theorem en_cost {W H : Int} {l2 l3 l4 l5 : List Int} (hc : ClOK W H l2 l3 l4 l5) (r : Int) (S : List Bool) (hS : (S.length : Int) = W * H) :
    enE W H l2 l3 l4 l5 r S = costF false (sideL S) (arcsL W H l2 l3 l4 l5 r) + sumF (lowC l3 r) (W * H).toNat := by
  have h1 := cell_cost S.length l2 l3 r S rfl S.length (Nat.le_refl _)
  have h2 := pair_cost S (pairsL W l4 l5) (fun p hp => ⟨(pairs_in hc p hp).1, (pairs_in hc p hp).2.2.1⟩)
  unfold enE arcsL
  rw [costF_app, ← hS, Int.toNat_natCast, h1, h2, sumF_sub]
  omega
structure NetC (N : Nat) (arcs : List S35) (s : Int) (l1 D : List Int) (G : List Bool) : Prop where
  net : netM N arcs = some (midL (leastL D) N, midL G N)
  lok : LOK false arcs l1
  res : ∀ T, resF T arcs l1 = costF false T arcs - s * (ind T 0 - ind T ((N : Int) - 1))
  lv : LvD arcs l1 (outZ N arcs) 0 N D
  gr : GrD arcs l1 (outZ N arcs) ((N : Int) - 1) N G
  no : rd D ((N : Int) - 1) < 0
theorem netC {N : Nat} {arcs : List S35} (h3 : 3 ≤ N) (hN : N ≤ 1000) (hl : arcs.length ≤ 1000) (d : Good N arcs) (e : ∀ a ∈ arcs, 0 ≤ a.f2 ∧ a.f2 ≤ 1000000) : ∃ s l1 D G, NetC N arcs s l1 D G := by
  obtain ⟨s, l1, d1, n1, hF, hs, hL, hr, hv, hn⟩ := fillZ_ok false N arcs 0 ((N : Int) - 1) hN hl d e (by omega) (by omega) (by omega)
  obtain ⟨D, hD, hvD⟩ := level_ok arcs l1 (outZ N arcs) 0 ((N : Int) - 1) N d1 n1 (by omega) (by omega) (rows_in d) fuelW (by unfold fuelW; omega)
  obtain ⟨G, hG, hgG⟩ := great_ok arcs l1 (outZ N arcs) 0 ((N : Int) - 1) N D n1 (by omega) (rows_in d) fuelW (by unfold fuelW; omega)
  have hno : rd D ((N : Int) - 1) < 0 := by
    refine Int.not_le.1 (fun hq => ?_)
    have h0 := reach_zero d hL hv
    have := least_in d hL hvD (fun v => decide (0 ≤ rd d1 v)) (by simp [hv.s0]) h0 (rd D ((N : Int) - 1)).toNat ((N : Int) - 1) (by omega) (by omega) (by omega)
    have := of_decide_eq_true this
    omega
  refine ⟨s, l1, D, G, ?_, hL, hr, hvD, hgG, hno⟩
  unfold netM
  rw [if_pos ⟨h3, hN, hl, d⟩, hF, Option.bind_some]
  have hD' : levelP fuelW ((restP false N arcs 0 ((N : Int) - 1)).dat_ l1 d1 n1) = some D := hD
  have hG' : greatP fuelW ((restP false N arcs 0 ((N : Int) - 1)).dat_ l1 D n1) = some G := hG
  dsimp only
  rw [hD', Option.bind_some, hG', Option.bind_some, if_pos ⟨hL.len, hvD.len, hgG.len⟩]
section
variable {N : Nat} {arcs : List S35} {s : Int} {l1 D : List Int} {G : List Bool}
theorem NetC.min (h : NetC N arcs s l1 D G) (T : Int → Bool) (hT : side T 0 ((N : Int) - 1)) : s ≤ costF false T arcs := by
  have h1 := h.res T
  have h2 := resF_nonneg T h.lok
  rw [ind_side hT] at h1
  omega
theorem NetC.zero (h : NetC N arcs s l1 D G) (T : Int → Bool) (hT : side T 0 ((N : Int) - 1)) : costF false T arcs = s ↔ resF T arcs l1 = 0 := by
  have h1 := h.res T
  rw [ind_side hT] at h1
  omega
theorem NetC.least_rd (h : NetC N arcs s l1 D G) (x : Int) (x0 : 0 ≤ x) (x1 : x < N) : rdOf false (leastL D) x = decide (0 ≤ rd D x) := leastL_rd D x x0 (by rw [h.lv.len]; exact x1)
theorem NetC.least_side (h : NetC N arcs s l1 D G) (hN : 2 ≤ N) : side (fun v => rdOf false (leastL D) v) 0 ((N : Int) - 1) := by
  constructor
  · show rdOf false (leastL D) 0 = true
    rw [h.least_rd 0 (by omega) (by omega), h.lv.s0]
    rfl
  · show rdOf false (leastL D) ((N : Int) - 1) = false
    rw [h.least_rd _ (by omega) (by omega)]
    exact decide_eq_false (by have := h.no; omega)
theorem NetC.least_cost (h : NetC N arcs s l1 D G) (hN : 2 ≤ N) (hg : Good N arcs) : costF false (fun v => rdOf false (leastL D) v) arcs = s := by
  rw [costF_congr (N := N) false _ (fun v => decide (0 ≤ rd D v)) (fun v v0 v1 => h.least_rd v v0 v1) arcs hg]
  refine (h.zero _ ⟨by simp [h.lv.s0], ?_⟩).2 (reach_zero hg h.lok h.lv)
  exact decide_eq_false (by have := h.no; omega)
theorem NetC.great_side (h : NetC N arcs s l1 D G) (hN : 2 ≤ N) (hg : Good N arcs) : side (fun v => rdOf false G v) 0 ((N : Int) - 1) :=
  ⟨great_src hg h.lv h.gr h.no 0 (by omega) (by omega) (by rw [h.lv.s0]; omega), h.gr.s0⟩
theorem NetC.great_cost (h : NetC N arcs s l1 D G) (hN : 2 ≤ N) (hg : Good N arcs) : costF false (fun v => rdOf false G v) arcs = s :=
  (h.zero _ (h.great_side hN hg)).2 (great_zero hg h.lok h.gr)
theorem NetC.between (h : NetC N arcs s l1 D G) (hN : 2 ≤ N) (hg : Good N arcs) (T : Int → Bool) (hT : side T 0 ((N : Int) - 1)) (hc : costF false T arcs = s) (x : Int) (x0 : 0 ≤ x) (x1 : x < N) : (rdOf false (leastL D) x = true → T x = true) ∧ (T x = true → rdOf false G x = true) := by
  have h0 := (h.zero T hT).1 hc
  refine ⟨fun hx => ?_, fun hx => ?_⟩
  · rw [h.least_rd x x0 x1] at hx
    have := of_decide_eq_true hx
    exact least_in hg h.lok h.lv T hT.1 h0 (rd D x).toNat x x0 x1 (by omega)
  · cases hq : rdOf false G x with
    | true => rfl
    | false =>
      have := great_in hg h.lok h.gr T hT.2 h0 x x0 x1 hq
      rw [this] at hx
      cases hx
end
theorem midL_rd (S : List Bool) (N : Nat) (hS : S.length = N) (i : Int) (i0 : 0 ≤ i) (i1 : i < (N : Int) - 2) : rdOf false (midL S N) i = rdOf false S (i + 1) := by
  obtain ⟨n, rfl⟩ : ∃ n : Nat, i = n := ⟨i.toNat, by omega⟩
  unfold midL rdOf
  rw [List.getD_eq_getElem?_getD, List.getD_eq_getElem?_getD, List.getElem?_take, if_pos (by omega), List.getElem?_drop]
  congr 2
  omega
theorem sideL_mid (S : List Bool) (N : Nat) (h2 : 2 ≤ N) (hS : S.length = N) (h0 : rdOf false S 0 = true) (h1 : rdOf false S ((N : Int) - 1) = false) (v : Int) (v0 : 0 ≤ v) (v1 : v < N) : sideL (midL S N) v = rdOf false S v := by
  by_cases c : v = 0
  · subst c
    rw [h0]
    rfl
  · obtain ⟨i, rfl⟩ : ∃ i, v = i + 1 := ⟨v - 1, by omega⟩
    rw [sideL_in _ _ (by omega)]
    by_cases d : i < (N : Int) - 2
    · exact midL_rd S N hS i (by omega) d
    · obtain rfl : i = (N : Int) - 2 := by omega
      rw [rdOf_out _ _ (by rw [midL_len S N hS h2]; omega), show (N : Int) - 2 + 1 = (N : Int) - 1 by omega, h1]
structure LabD (W H : Int) (l2 l3 l4 l5 : List Int) (r : Int) (a b : List Bool) : Prop where
  labels : wax_Cloth_labels.f W H l2 l3 l4 l5 r = some (a, b)
  la : (a.length : Int) = W * H
  lb : (b.length : Int) = W * H
  min : ∀ S : List Bool, (S.length : Int) = W * H → enE W H l2 l3 l4 l5 r a ≤ enE W H l2 l3 l4 l5 r S
  eq : enE W H l2 l3 l4 l5 r b = enE W H l2 l3 l4 l5 r a
  btw : ∀ S : List Bool, (S.length : Int) = W * H → enE W H l2 l3 l4 l5 r S = enE W H l2 l3 l4 l5 r a → ∀ x : Int, 0 ≤ x → x < W * H → (rdOf false a x = true → rdOf false S x = true) ∧ (rdOf false S x = true → rdOf false b x = true)
theorem labD {W H : Int} {l2 l3 l4 l5 : List Int} (hv : cvB W H l2 l3 l4 l5 = true) {r : Int} (hr : -10000 ≤ r ∧ r ≤ 10000) : ∃ a b, LabD W H l2 l3 l4 l5 r a b := by
  have hc := cvB_ok hv
  have hn := hc.n
  obtain ⟨N, hN⟩ : ∃ N : Nat, (N : Int) = W * H + 2 := ⟨(W * H + 2).toNat, by omega⟩
  obtain ⟨hg, he⟩ := arcs_good hc hr N hN
  obtain ⟨s, l1, D, G, h⟩ := netC (N := N) (arcs := arcsL W H l2 l3 l4 l5 r) (by omega) (by omega) (by have := arcs_len hc r; omega) hg he
  have h2 : 2 ≤ N := by omega
  have hDl : (leastL D).length = N := by unfold leastL; rw [List.length_map]; exact h.lv.len
  have hGl := h.gr.len
  have sD := h.least_side h2
  have sG := h.great_side h2 hg
  have la := midL_len _ N hDl h2
  have lb := midL_len _ N hGl h2
  have cD := (costF_congr (N := N) false _ _ (fun v v0 v1 => sideL_mid (leastL D) N h2 hDl sD.1 sD.2 v v0 v1) _ hg).trans (h.least_cost h2 hg)
  have cG := (costF_congr (N := N) false _ _ (fun v v0 v1 => sideL_mid G N h2 hGl sG.1 sG.2 v v0 v1) _ hg).trans (h.great_cost h2 hg)
  refine ⟨midL (leastL D) N, midL G N, ?_, by omega, by omega, fun S hS => ?_, ?_, fun S hS hE x x0 x1 => ?_⟩
  · unfold wax_Cloth_labels.f
    rw [arcs_f hc hr 10000 (by omega), Option.bind_some, show wrap64 (W * H) = W * H from wrap_id (by omega) (by omega), show wrap64 (W * H + 2) = (N : Int) by rw [wrap_id (by omega) (by omega)]; omega, Int.toNat_natCast]
    exact h.net
  · rw [en_cost hc r S hS, en_cost hc r _ (by omega), cD]
    have := h.min (sideL S) (sideL_side S N (by omega))
    omega
  · rw [en_cost hc r _ (by omega), en_cost hc r _ (by omega), cD, cG]
  · rw [en_cost hc r S hS, en_cost hc r _ (by omega), cD] at hE
    have hb := h.between h2 hg (sideL S) (sideL_side S N (by omega)) (by omega) (x + 1) (by omega) (by omega)
    rw [sideL_in S x x0] at hb
    rw [midL_rd _ N hDl x x0 (by omega), midL_rd _ N hGl x x0 (by omega)]
    exact hb
end Go.Proofs.Ytbamanjedfccpaa.HTab
end

section
set_option linter.unusedVariables false
set_option linter.unusedSimpArgs false
namespace Go.Proofs.Ytbamanjedfccpaa.HTab
open Go.RowKit Go.Proofs.YtbamanjedfccpaaW.PrintWords Go.Proofs.YtbamanjedfccpaaW.PrintLast Go.Proofs.YtbamanjedfccpaaW.PrintMore Go.Proofs.Ytbamanjedfccpaa.X
set_option linter.unusedVariables false
set_option linter.unusedSimpArgs false
theorem between_l0 (a s b : List Bool) (ha : a.length = s.length) (hb : b.length = s.length) (hl : s.length < 10000000000000) (h : ∀ x : Int, 0 ≤ x → x < s.length → (rdOf false a x = true → rdOf false s x = true) ∧ (rdOf false s x = true → rdOf false b x = true)) : ∀ (d i fu : Nat), i + d = s.length → d < fu → cantinglaw07_between.l0 fu a b s s.length i = some true
  | d, i, 0, hi, hf => by omega
  | 0, i, fu + 1, hi, hf => by
    simp only [cantinglaw07_between.l0]
    rw [if_neg (by omega)]
  | d + 1, i, fu + 1, hi, hf => by
    have ih := between_l0 a s b ha hb hl h d (i + 1) fu (by omega) (by omega)
    have hx := h (i : Int) (by omega) (by omega)
    simp only [cantinglaw07_between.l0]
    rw [if_pos (by omega), if_pos (by omega), if_pos (by omega), if_pos (by omega), if_pos (show (i : Int) < (b.length : Int) by omega), show wrap64 ((i : Int) + 1) = ((i + 1 : Nat) : Int) from wrap_add1 (by omega) (by omega), ih]
    revert hx
    cases rdOf false a (i : Int) <;> cases rdOf false s (i : Int) <;> cases rdOf false b (i : Int) <;> simp
theorem between_f (a s b : List Bool) (ha : a.length = s.length) (hb : b.length = s.length) (hl : s.length < 10000000000000) (h : ∀ x : Int, 0 ≤ x → x < s.length → (rdOf false a x = true → rdOf false s x = true) ∧ (rdOf false s x = true → rdOf false b x = true)) (fu : Nat) (hf : s.length + 2 ≤ fu) : cantinglaw07_between.f fu a s b = some true := by
  obtain ⟨fu, rfl⟩ : ∃ g, fu = g + 1 := ⟨fu - 1, by omega⟩
  unfold cantinglaw07_between.f
  rw [if_pos (by omega), show ((b.length : Int) != (s.length : Int)) = false by simp [hb]]
  simp only [cantinglaw07_between.j0, Bool.false_eq_true, if_false]
  have := between_l0 a s b ha hb hl h s.length 0 fu (by omega) (by omega)
  exact this
end Go.Proofs.Ytbamanjedfccpaa.HTab
end

section
set_option linter.unusedVariables false
set_option linter.unusedSimpArgs false
namespace Go.Proofs.Ytbamanjedfccpaa.X
open Go.RowKit Go.Proofs.YtbamanjedfccpaaW.PrintWords Go.Proofs.YtbamanjedfccpaaW.PrintLast Go.Proofs.YtbamanjedfccpaaW.PrintMore
attribute [local go_sem] max2_int min2_int max_two min_two max_three min_three max_four min_four   -- for this text's walks alone
set_option linter.unusedVariables false
set_option linter.unusedSimpArgs false
def cantinglaw07_WaxCheapest.j0 : Nat → List Bool → List Bool → List Bool → Int → Int → Int → Bool → Option (Bool)
  | 0, _, _, _, _, _, _, _ => none
  | k + 1, x2, x7, x8, x10, x14, x15, x65 => if x65 = true then (some false) else (if x15 = 0 then (if x14 > x10 then ((cantinglaw07_awake.f).bind fun t752 => (some t752)) else (if x14 = x10 then ((cantinglaw07_between.f k x7 x2 x8).bind fun t753 => (if t753 = true then ((cantinglaw07_awake.f).bind fun t754 => (some t754)) else (some false))) else (some false))) else ((cantinglaw07_awake.f).bind fun t755 => (some t755)))
def cantinglaw07_WaxCheapest.f (k : Nat) (a0_0 : Int) (a0_1 : Int) (l0_2 : List Int) (l0_3 : List Int) (l0_4 : List Int) (l0_5 : List Int) (a1 : Int) (l2 : List Bool) : Option (Bool) := (cantinglaw07_cloth.f a0_0 a0_1 l0_2 l0_3 l0_4 l0_5).bind fun bt682 => ((wax_Labels.f bt682.1 bt682.2.1 bt682.2.2.1 bt682.2.2.2.1 bt682.2.2.2.2.1 bt682.2.2.2.2.2 a1).bind fun bt696 => (if bt696.2.2 = 0 then ((cantinglaw07_cloth.f a0_0 a0_1 l0_2 l0_3 l0_4 l0_5).bind fun bt704 => ((wax_Energy.f k bt704.1 bt704.2.1 bt704.2.2.1 bt704.2.2.2.1 bt704.2.2.2.2.1 bt704.2.2.2.2.2 a1 bt696.1).bind fun bt718 => ((cantinglaw07_cloth.f a0_0 a0_1 l0_2 l0_3 l0_4 l0_5).bind fun bt720 => ((wax_Energy.f k bt720.1 bt720.2.1 bt720.2.2.1 bt720.2.2.2.1 bt720.2.2.2.2.1 bt720.2.2.2.2.2 a1 bt696.2.1).bind fun bt734 => ((cantinglaw07_cloth.f a0_0 a0_1 l0_2 l0_3 l0_4 l0_5).bind fun bt736 => ((wax_Energy.f k bt736.1 bt736.2.1 bt736.2.2.1 bt736.2.2.2.1 bt736.2.2.2.2.1 bt736.2.2.2.2.2 a1 l2).bind fun bt750 => (if bt718.2 = 0 then (if bt734.2 = 0 then (cantinglaw07_WaxCheapest.j0 k l2 bt696.1 bt696.2.1 bt718.1 bt750.1 bt750.2 (bt718.1 != bt734.1)) else (cantinglaw07_WaxCheapest.j0 k l2 bt696.1 bt696.2.1 bt718.1 bt750.1 bt750.2 true)) else (cantinglaw07_WaxCheapest.j0 k l2 bt696.1 bt696.2.1 bt718.1 bt750.1 bt750.2 true)))))))) else (if bt696.2.2 = 2 then ((cantinglaw07_awake.f).bind fun t703 => (some t703)) else (some false))))
set_option maxHeartbeats 8000000 in
set_option maxRecDepth 100000 in
theorem cantinglaw07_WaxCheapest.calls (k : Nat) (a0_0 : Int) (a0_1 : Int) (A0_2 : Option Addr) (c0_2 : Nat) (l0_2 : List Int) (A0_3 : Option Addr) (c0_3 : Nat) (l0_3 : List Int) (A0_4 : Option Addr) (c0_4 : Nat) (l0_4 : List Int) (A0_5 : Option Addr) (c0_5 : Nat) (l0_5 : List Int) (a1 : Int) (A2 : Option Addr) (c2 : Nat) (l2 : List Bool) (r : Bool) (w : World) (hr0_2 : Kd.C (Kd.int .i64) w A0_2 l0_2.length l0_2) (hc0_2 : l0_2.length ≤ c0_2) (hr0_3 : Kd.C (Kd.int .i64) w A0_3 l0_3.length l0_3) (hc0_3 : l0_3.length ≤ c0_3) (hr0_4 : Kd.C (Kd.int .i64) w A0_4 l0_4.length l0_4) (hc0_4 : l0_4.length ≤ c0_4) (hr0_5 : Kd.C (Kd.int .i64) w A0_5 l0_5.length l0_5) (hc0_5 : l0_5.length ≤ c0_5) (hr2 : Kd.C Kd.bool w A2 l2.length l2) (hc2 : l2.length ≤ c2) (h : cantinglaw07_WaxCheapest.f k a0_0 a0_1 l0_2 l0_3 l0_4 l0_5 a1 l2 = some r) :
    Calls Try.prog 12 #[.agg #[.int .i64 a0_0, .int .i64 a0_1, .slice A0_2 l0_2.length c0_2, .slice A0_3 l0_3.length c0_3, .slice A0_4 l0_4.length c0_4, .slice A0_5 l0_5.length c0_5], .int .i64 a1, .slice A2 l2.length c2] w fun e w' => e = .returned (.bool r) ∧ Below w.heap.size w w' := by
  have hu61 := Try.underlying61
  have HR0_2 := Aside0.mk hr0_2
  have HC0_2 := Aside0.mk hc0_2
  clear hr0_2 hc0_2
  have HR0_3 := Aside0.mk hr0_3
  have HC0_3 := Aside0.mk hc0_3
  clear hr0_3 hc0_3
  have HR0_4 := Aside0.mk hr0_4
  have HC0_4 := Aside0.mk hc0_4
  clear hr0_4 hc0_4
  have HR0_5 := Aside0.mk hr0_5
  have HC0_5 := Aside0.mk hc0_5
  clear hr0_5 hc0_5
  have HR2 := Aside0.mk hr2
  have HC2 := Aside0.mk hc2
  clear hr2 hc2
  have HB := Aside0.mk (Below.refl w.heap.size w)
  have H : ((cantinglaw07_cloth.f a0_0 a0_1 l0_2 l0_3 l0_4 l0_5).bind fun bt682 => ((wax_Labels.f bt682.1 bt682.2.1 bt682.2.2.1 bt682.2.2.2.1 bt682.2.2.2.2.1 bt682.2.2.2.2.2 a1).bind fun bt696 => (if bt696.2.2 = 0 then ((cantinglaw07_cloth.f a0_0 a0_1 l0_2 l0_3 l0_4 l0_5).bind fun bt704 => ((wax_Energy.f k bt704.1 bt704.2.1 bt704.2.2.1 bt704.2.2.2.1 bt704.2.2.2.2.1 bt704.2.2.2.2.2 a1 bt696.1).bind fun bt718 => ((cantinglaw07_cloth.f a0_0 a0_1 l0_2 l0_3 l0_4 l0_5).bind fun bt720 => ((wax_Energy.f k bt720.1 bt720.2.1 bt720.2.2.1 bt720.2.2.2.1 bt720.2.2.2.2.1 bt720.2.2.2.2.2 a1 bt696.2.1).bind fun bt734 => ((cantinglaw07_cloth.f a0_0 a0_1 l0_2 l0_3 l0_4 l0_5).bind fun bt736 => ((wax_Energy.f k bt736.1 bt736.2.1 bt736.2.2.1 bt736.2.2.2.1 bt736.2.2.2.2.1 bt736.2.2.2.2.2 a1 l2).bind fun bt750 => (if bt718.2 = 0 then (if bt734.2 = 0 then (cantinglaw07_WaxCheapest.j0 k l2 bt696.1 bt696.2.1 bt718.1 bt750.1 bt750.2 (bt718.1 != bt734.1)) else (cantinglaw07_WaxCheapest.j0 k l2 bt696.1 bt696.2.1 bt718.1 bt750.1 bt750.2 true)) else (cantinglaw07_WaxCheapest.j0 k l2 bt696.1 bt696.2.1 bt718.1 bt750.1 bt750.2 true)))))))) else (if bt696.2.2 = 2 then ((cantinglaw07_awake.f).bind fun t703 => (some t703)) else (some false))))) = some r := h
  clear h
  replace H := Option.bind_eq_some_iff.mp H
  obtain ⟨⟨t682, t683, t684, t687, t690, t693⟩, A40, H⟩ := H
  replace H : ((wax_Labels.f t682 t683 t684 t687 t690 t693 a1).bind fun bt696 => (if bt696.2.2 = 0 then ((cantinglaw07_cloth.f a0_0 a0_1 l0_2 l0_3 l0_4 l0_5).bind fun bt704 => ((wax_Energy.f k bt704.1 bt704.2.1 bt704.2.2.1 bt704.2.2.2.1 bt704.2.2.2.2.1 bt704.2.2.2.2.2 a1 bt696.1).bind fun bt718 => ((cantinglaw07_cloth.f a0_0 a0_1 l0_2 l0_3 l0_4 l0_5).bind fun bt720 => ((wax_Energy.f k bt720.1 bt720.2.1 bt720.2.2.1 bt720.2.2.2.1 bt720.2.2.2.2.1 bt720.2.2.2.2.2 a1 bt696.2.1).bind fun bt734 => ((cantinglaw07_cloth.f a0_0 a0_1 l0_2 l0_3 l0_4 l0_5).bind fun bt736 => ((wax_Energy.f k bt736.1 bt736.2.1 bt736.2.2.1 bt736.2.2.2.1 bt736.2.2.2.2.1 bt736.2.2.2.2.2 a1 l2).bind fun bt750 => (if bt718.2 = 0 then (if bt734.2 = 0 then (cantinglaw07_WaxCheapest.j0 k l2 bt696.1 bt696.2.1 bt718.1 bt750.1 bt750.2 (bt718.1 != bt734.1)) else (cantinglaw07_WaxCheapest.j0 k l2 bt696.1 bt696.2.1 bt718.1 bt750.1 bt750.2 true)) else (cantinglaw07_WaxCheapest.j0 k l2 bt696.1 bt696.2.1 bt718.1 bt750.1 bt750.2 true)))))))) else (if bt696.2.2 = 2 then ((cantinglaw07_awake.f).bind fun t703 => (some t703)) else (some false)))) = some r := H
  have A4 := Aside0.mk A40
  clear A40
  replace H := Option.bind_eq_some_iff.mp H
  obtain ⟨⟨t696, t699, t702⟩, A50, H⟩ := H
  replace H : (if t702 = 0 then ((cantinglaw07_cloth.f a0_0 a0_1 l0_2 l0_3 l0_4 l0_5).bind fun bt704 => ((wax_Energy.f k bt704.1 bt704.2.1 bt704.2.2.1 bt704.2.2.2.1 bt704.2.2.2.2.1 bt704.2.2.2.2.2 a1 t696).bind fun bt718 => ((cantinglaw07_cloth.f a0_0 a0_1 l0_2 l0_3 l0_4 l0_5).bind fun bt720 => ((wax_Energy.f k bt720.1 bt720.2.1 bt720.2.2.1 bt720.2.2.2.1 bt720.2.2.2.2.1 bt720.2.2.2.2.2 a1 t699).bind fun bt734 => ((cantinglaw07_cloth.f a0_0 a0_1 l0_2 l0_3 l0_4 l0_5).bind fun bt736 => ((wax_Energy.f k bt736.1 bt736.2.1 bt736.2.2.1 bt736.2.2.2.1 bt736.2.2.2.2.1 bt736.2.2.2.2.2 a1 l2).bind fun bt750 => (if bt718.2 = 0 then (if bt734.2 = 0 then (cantinglaw07_WaxCheapest.j0 k l2 t696 t699 bt718.1 bt750.1 bt750.2 (bt718.1 != bt734.1)) else (cantinglaw07_WaxCheapest.j0 k l2 t696 t699 bt718.1 bt750.1 bt750.2 true)) else (cantinglaw07_WaxCheapest.j0 k l2 t696 t699 bt718.1 bt750.1 bt750.2 true)))))))) else (if t702 = 2 then ((cantinglaw07_awake.f).bind fun t703 => (some t703)) else (some false))) = some r := H
  have A5 := Aside0.mk A50
  clear A50
  by_cases c6 : t702 = 0
  · rw [if_pos c6] at H
    have c6b0 : (t702 == 0) = true := beq_iff_eq.mpr c6
    have c6b1 : (t702 != 0) = false := bne_eq_false_iff_eq.mpr c6
    clear c6
    replace H := Option.bind_eq_some_iff.mp H
    obtain ⟨⟨t704, t705, t706, t709, t712, t715⟩, A70, H⟩ := H
    replace H : ((wax_Energy.f k t704 t705 t706 t709 t712 t715 a1 t696).bind fun bt718 => ((cantinglaw07_cloth.f a0_0 a0_1 l0_2 l0_3 l0_4 l0_5).bind fun bt720 => ((wax_Energy.f k bt720.1 bt720.2.1 bt720.2.2.1 bt720.2.2.2.1 bt720.2.2.2.2.1 bt720.2.2.2.2.2 a1 t699).bind fun bt734 => ((cantinglaw07_cloth.f a0_0 a0_1 l0_2 l0_3 l0_4 l0_5).bind fun bt736 => ((wax_Energy.f k bt736.1 bt736.2.1 bt736.2.2.1 bt736.2.2.2.1 bt736.2.2.2.2.1 bt736.2.2.2.2.2 a1 l2).bind fun bt750 => (if bt718.2 = 0 then (if bt734.2 = 0 then (cantinglaw07_WaxCheapest.j0 k l2 t696 t699 bt718.1 bt750.1 bt750.2 (bt718.1 != bt734.1)) else (cantinglaw07_WaxCheapest.j0 k l2 t696 t699 bt718.1 bt750.1 bt750.2 true)) else (cantinglaw07_WaxCheapest.j0 k l2 t696 t699 bt718.1 bt750.1 bt750.2 true))))))) = some r := H
    have A7 := Aside0.mk A70
    clear A70
    replace H := Option.bind_eq_some_iff.mp H
    obtain ⟨⟨t718, t719⟩, A80, H⟩ := H
    replace H : ((cantinglaw07_cloth.f a0_0 a0_1 l0_2 l0_3 l0_4 l0_5).bind fun bt720 => ((wax_Energy.f k bt720.1 bt720.2.1 bt720.2.2.1 bt720.2.2.2.1 bt720.2.2.2.2.1 bt720.2.2.2.2.2 a1 t699).bind fun bt734 => ((cantinglaw07_cloth.f a0_0 a0_1 l0_2 l0_3 l0_4 l0_5).bind fun bt736 => ((wax_Energy.f k bt736.1 bt736.2.1 bt736.2.2.1 bt736.2.2.2.1 bt736.2.2.2.2.1 bt736.2.2.2.2.2 a1 l2).bind fun bt750 => (if t719 = 0 then (if bt734.2 = 0 then (cantinglaw07_WaxCheapest.j0 k l2 t696 t699 t718 bt750.1 bt750.2 (t718 != bt734.1)) else (cantinglaw07_WaxCheapest.j0 k l2 t696 t699 t718 bt750.1 bt750.2 true)) else (cantinglaw07_WaxCheapest.j0 k l2 t696 t699 t718 bt750.1 bt750.2 true)))))) = some r := H
    have A8 := Aside0.mk A80
    clear A80
    replace H := Option.bind_eq_some_iff.mp H
    obtain ⟨⟨t720, t721, t722, t725, t728, t731⟩, A90, H⟩ := H
    replace H : ((wax_Energy.f k t720 t721 t722 t725 t728 t731 a1 t699).bind fun bt734 => ((cantinglaw07_cloth.f a0_0 a0_1 l0_2 l0_3 l0_4 l0_5).bind fun bt736 => ((wax_Energy.f k bt736.1 bt736.2.1 bt736.2.2.1 bt736.2.2.2.1 bt736.2.2.2.2.1 bt736.2.2.2.2.2 a1 l2).bind fun bt750 => (if t719 = 0 then (if bt734.2 = 0 then (cantinglaw07_WaxCheapest.j0 k l2 t696 t699 t718 bt750.1 bt750.2 (t718 != bt734.1)) else (cantinglaw07_WaxCheapest.j0 k l2 t696 t699 t718 bt750.1 bt750.2 true)) else (cantinglaw07_WaxCheapest.j0 k l2 t696 t699 t718 bt750.1 bt750.2 true))))) = some r := H
    have A9 := Aside0.mk A90
    clear A90
    replace H := Option.bind_eq_some_iff.mp H
    obtain ⟨⟨t734, t735⟩, A100, H⟩ := H
    replace H : ((cantinglaw07_cloth.f a0_0 a0_1 l0_2 l0_3 l0_4 l0_5).bind fun bt736 => ((wax_Energy.f k bt736.1 bt736.2.1 bt736.2.2.1 bt736.2.2.2.1 bt736.2.2.2.2.1 bt736.2.2.2.2.2 a1 l2).bind fun bt750 => (if t719 = 0 then (if t735 = 0 then (cantinglaw07_WaxCheapest.j0 k l2 t696 t699 t718 bt750.1 bt750.2 (t718 != t734)) else (cantinglaw07_WaxCheapest.j0 k l2 t696 t699 t718 bt750.1 bt750.2 true)) else (cantinglaw07_WaxCheapest.j0 k l2 t696 t699 t718 bt750.1 bt750.2 true)))) = some r := H
    have A10 := Aside0.mk A100
    clear A100
    replace H := Option.bind_eq_some_iff.mp H
    obtain ⟨⟨t736, t737, t738, t741, t744, t747⟩, A110, H⟩ := H
    replace H : ((wax_Energy.f k t736 t737 t738 t741 t744 t747 a1 l2).bind fun bt750 => (if t719 = 0 then (if t735 = 0 then (cantinglaw07_WaxCheapest.j0 k l2 t696 t699 t718 bt750.1 bt750.2 (t718 != t734)) else (cantinglaw07_WaxCheapest.j0 k l2 t696 t699 t718 bt750.1 bt750.2 true)) else (cantinglaw07_WaxCheapest.j0 k l2 t696 t699 t718 bt750.1 bt750.2 true))) = some r := H
    have A11 := Aside0.mk A110
    clear A110
    replace H := Option.bind_eq_some_iff.mp H
    obtain ⟨⟨t750, t751⟩, A120, H⟩ := H
    replace H : (if t719 = 0 then (if t735 = 0 then (cantinglaw07_WaxCheapest.j0 k l2 t696 t699 t718 t750 t751 (t718 != t734)) else (cantinglaw07_WaxCheapest.j0 k l2 t696 t699 t718 t750 t751 true)) else (cantinglaw07_WaxCheapest.j0 k l2 t696 t699 t718 t750 t751 true)) = some r := H
    have A12 := Aside0.mk A120
    clear A120
    have HC13 := Aside0.mk H
    clear H
    go_enter Try.func12, Try.ntmps12
    go_upto_region 7 with (first | ((with_reducible refine gate_dst (N := 3) rfl ?_); refine box_event ?hg (N := 3) ?hd (cs := #[.int .i64 a0_0, .int .i64 a0_1, .slice A0_2 l0_2.length c0_2, .slice A0_3 l0_3.length c0_3, .slice A0_4 l0_4.length c0_4, .slice A0_5 l0_5.length c0_5]) (t := 61) ?hr ?_; (case hd => rfl); (case hg => rfl); (case hr => first | (go_simp; done) | (go_simp; rfl)); intro gb681 hg w14 hbox hb; have n0_ := Aside0.mk (below_step (by repeat (first | (with_reducible first | exact HB.out | apply below_alloc | apply pw_below_drewN | apply below_drew1) | exact HB.out)) hb); have n1_ := Aside0.mk (hbox); have n2_ := Aside0.mk ((by rw [hg]; exact (below_size (by repeat (first | (with_reducible first | exact HB.out | apply below_alloc | apply pw_below_drewN | apply below_drew1) | exact HB.out))) : w.heap.size ≤ gb681)); have n3_ := Aside0.mk ((by rw [hg]; exact (below_size (by repeat (first | (with_reducible first | exact HB.out | apply below_alloc | apply pw_below_drewN | apply below_drew1) | exact HB.out))) : w.heap.size ≤ gb681)); clear HB; have HB := n0_; have BK681 := n1_; have GW681 := n2_; have GE681 := n3_; clear n0_ n1_ n2_ n3_; clear hb hbox hg; have hcz15_0 : w14.cell? ⟨gb681, 0, none⟩ = some (.int .i64 a0_0) := (blk_cell BK681.out 0).trans rfl; have hcz15_1 : w14.cell? ⟨gb681, 1, none⟩ = some (.int .i64 a0_1) := (blk_cell BK681.out 1).trans rfl; have hcz15_2 : w14.cell? ⟨gb681, 2, none⟩ = some (.slice A0_2 l0_2.length c0_2) := (blk_cell BK681.out 2).trans rfl; have hcz15_3 : w14.cell? ⟨gb681, 3, none⟩ = some (.slice A0_3 l0_3.length c0_3) := (blk_cell BK681.out 3).trans rfl; have hcz15_4 : w14.cell? ⟨gb681, 4, none⟩ = some (.slice A0_4 l0_4.length c0_4) := (blk_cell BK681.out 4).trans rfl; have hcz15_5 : w14.cell? ⟨gb681, 5, none⟩ = some (.slice A0_5 l0_5.length c0_5) := (blk_cell BK681.out 5).trans rfl; have hfz15_0 := blk_frozen BK681.out 0; have hfz15_1 := blk_frozen BK681.out 1; have hfz15_2 := blk_frozen BK681.out 2; have hfz15_3 := blk_frozen BK681.out 3; have hfz15_4 := blk_frozen BK681.out 4; have hfz15_5 := blk_frozen BK681.out 5) | ((with_reducible refine gate_callee (f := 32) rfl ?_); refine goesL_ (some 18) rfl rfl Try.func32 (by kernel_rfl) rfl #[.agg #[.int .i64 a0_0, .int .i64 a0_1, .slice A0_2 l0_2.length c0_2, .slice A0_3 l0_3.length c0_3, .slice A0_4 l0_4.length c0_4, .slice A0_5 l0_5.length c0_5]] rfl (by (try simp only [List.map_toArray, List.map_cons, List.map_nil]); first | done | rfl | (simp only [List.length_drop, List.length_take]; rfl)) ?_; (with_reducible refine (cantinglaw07_cloth.calls a0_0 a0_1 _ _ l0_2 _ _ l0_3 _ _ l0_4 _ _ l0_5 t682 t683 t684 t687 t690 t693 _ ?side1 ?side2 ?side3 ?side4 ?side5 ?side6 ?side7 ?side8 A4.out).mono ?_); (case side1 => repeat (first | exact (Kd.C_below HR0_2.out HB.out) | (with_reducible refine Kd.C_alloc ?_ _) | (with_reducible refine Kd.C_drewN ?_ _) | (with_reducible refine Kd.C_drew ?_))); (case side2 => exact HC0_2.out); (case side3 => repeat (first | exact (Kd.C_below HR0_3.out HB.out) | (with_reducible refine Kd.C_alloc ?_ _) | (with_reducible refine Kd.C_drewN ?_ _) | (with_reducible refine Kd.C_drew ?_))); (case side4 => exact HC0_3.out); (case side5 => repeat (first | exact (Kd.C_below HR0_4.out HB.out) | (with_reducible refine Kd.C_alloc ?_ _) | (with_reducible refine Kd.C_drewN ?_ _) | (with_reducible refine Kd.C_drew ?_))); (case side6 => exact HC0_4.out); (case side7 => repeat (first | exact (Kd.C_below HR0_5.out HB.out) | (with_reducible refine Kd.C_alloc ?_ _) | (with_reducible refine Kd.C_drewN ?_ _) | (with_reducible refine Kd.C_drew ?_))); (case side8 => exact HC0_5.out); rintro e w16 ⟨v685, v688, v691, v694, rfl, ho0, ho1, ho2, ho3, hb⟩; refine ⟨_, rfl, ?_⟩; have n0_ := Aside0.mk (Kd.R_lower ho0 (below_size (by repeat (first | (with_reducible first | exact HB.out | apply below_alloc | apply pw_below_drewN | apply below_drew1 | refine below_set ?_ GE681.out) | exact HB.out)))); have n1_ := Aside0.mk (Kd.R_lower ho1 (below_size (by repeat (first | (with_reducible first | exact HB.out | apply below_alloc | apply pw_below_drewN | apply below_drew1 | refine below_set ?_ GE681.out) | exact HB.out)))); have n2_ := Aside0.mk (Kd.R_lower ho2 (below_size (by repeat (first | (with_reducible first | exact HB.out | apply below_alloc | apply pw_below_drewN | apply below_drew1 | refine below_set ?_ GE681.out) | exact HB.out)))); have n3_ := Aside0.mk (Kd.R_lower ho3 (below_size (by repeat (first | (with_reducible first | exact HB.out | apply below_alloc | apply pw_below_drewN | apply below_drew1 | refine below_set ?_ GE681.out) | exact HB.out)))); have n4_ := Aside0.mk (blk_below (g := gb681) (o := .cells #[.int .i64 a0_0, .int .i64 a0_1, .slice A0_2 l0_2.length c0_2, .slice A0_3 l0_3.length c0_3, .slice A0_4 l0_4.length c0_4, .slice A0_5 l0_5.length c0_5] 61 (0, 0)) (by (with_reducible repeat (first | refine blk_drewN ?_ _ | refine blk_drew ?_ | refine blk_alloc ?_ _)); exact BK681.out) hb); have n5_ := Aside0.mk (below_step (by repeat (first | (with_reducible first | exact HB.out | apply below_alloc | apply pw_below_drewN | apply below_drew1 | refine below_set ?_ GE681.out) | exact HB.out)) hb); clear BK681; clear HB; have HO686 := n0_; have HO689 := n1_; have HO692 := n2_; have HO695 := n3_; have BK681 := n4_; have HB := n5_; clear n0_ n1_ n2_ n3_ n4_ n5_; (try clear hb); (try clear hb2); (try clear hk); (try clear hi); (try clear ho0); (try clear ho1); (try clear ho2); (try clear ho3); obtain ⟨Ao17, co17, eo17⟩ := Kd.R_slice HO686.out; subst eo17; obtain ⟨Ao18, co18, eo18⟩ := Kd.R_slice HO689.out; subst eo18; obtain ⟨Ao19, co19, eo19⟩ := Kd.R_slice HO692.out; subst eo19; obtain ⟨Ao20, co20, eo20⟩ := Kd.R_slice HO695.out; subst eo20) | ((with_reducible refine gate_callee (f := 41) rfl ?_); refine goesL_ (some 20) rfl rfl Try.func41 (by kernel_rfl) rfl #[.agg #[.int .i64 t682, .int .i64 t683, .slice Ao17 t684.length co17, .slice Ao18 t687.length co18, .slice Ao19 t690.length co19, .slice Ao20 t693.length co20], .int .i64 a1] rfl (by (try simp only [List.map_toArray, List.map_cons, List.map_nil]); first | done | rfl | (simp only [List.length_drop, List.length_take]; rfl)) ?_; (with_reducible refine (wax_Labels.calls t682 t683 _ _ t684 _ _ t687 _ _ t690 _ _ t693 a1 t696 t699 t702 _ ?side1 ?side2 ?side3 ?side4 ?side5 ?side6 ?side7 ?side8 A5.out).mono ?_); (case side1 => repeat (first | exact (Kd.R_reads' HO686.out).2.2 | (with_reducible refine Kd.C_alloc ?_ _) | (with_reducible refine Kd.C_drewN ?_ _) | (with_reducible refine Kd.C_drew ?_))); (case side2 => exact (Kd.R_reads' HO686.out).2.1); (case side3 => repeat (first | exact (Kd.R_reads' HO689.out).2.2 | (with_reducible refine Kd.C_alloc ?_ _) | (with_reducible refine Kd.C_drewN ?_ _) | (with_reducible refine Kd.C_drew ?_))); (case side4 => exact (Kd.R_reads' HO689.out).2.1); (case side5 => repeat (first | exact (Kd.R_reads' HO692.out).2.2 | (with_reducible refine Kd.C_alloc ?_ _) | (with_reducible refine Kd.C_drewN ?_ _) | (with_reducible refine Kd.C_drew ?_))); (case side6 => exact (Kd.R_reads' HO692.out).2.1); (case side7 => repeat (first | exact (Kd.R_reads' HO695.out).2.2 | (with_reducible refine Kd.C_alloc ?_ _) | (with_reducible refine Kd.C_drewN ?_ _) | (with_reducible refine Kd.C_drew ?_))); (case side8 => exact (Kd.R_reads' HO695.out).2.1); rintro e w21 ⟨v697, v700, rfl, ho0, ho1, hb⟩; refine ⟨_, rfl, ?_⟩; have n0_ := Aside0.mk (Kd.R_below (by (with_reducible repeat (first | apply Kd.R_alloc | apply Kd.R_drewN | apply Kd.R_drew)); exact HO686.out) hb); have n1_ := Aside0.mk (Kd.R_below (by (with_reducible repeat (first | apply Kd.R_alloc | apply Kd.R_drewN | apply Kd.R_drew)); exact HO689.out) hb); have n2_ := Aside0.mk (Kd.R_below (by (with_reducible repeat (first | apply Kd.R_alloc | apply Kd.R_drewN | apply Kd.R_drew)); exact HO692.out) hb); have n3_ := Aside0.mk (Kd.R_below (by (with_reducible repeat (first | apply Kd.R_alloc | apply Kd.R_drewN | apply Kd.R_drew)); exact HO695.out) hb); have n4_ := Aside0.mk (Kv.R_lower ho0 (below_size (by repeat (first | (with_reducible first | exact HB.out | apply below_alloc | apply pw_below_drewN | apply below_drew1 | refine below_set ?_ GE681.out) | exact HB.out)))); have n5_ := Aside0.mk (Kv.R_lower ho1 (below_size (by repeat (first | (with_reducible first | exact HB.out | apply below_alloc | apply pw_below_drewN | apply below_drew1 | refine below_set ?_ GE681.out) | exact HB.out)))); have n6_ := Aside0.mk (blk_below (g := gb681) (o := .cells #[.int .i64 a0_0, .int .i64 a0_1, .slice A0_2 l0_2.length c0_2, .slice A0_3 l0_3.length c0_3, .slice A0_4 l0_4.length c0_4, .slice A0_5 l0_5.length c0_5] 61 (0, 0)) (by (with_reducible repeat (first | refine blk_drewN ?_ _ | refine blk_drew ?_ | refine blk_alloc ?_ _)); exact BK681.out) hb); have n7_ := Aside0.mk (below_step (by repeat (first | (with_reducible first | exact HB.out | apply below_alloc | apply pw_below_drewN | apply below_drew1 | refine below_set ?_ GE681.out) | exact HB.out)) hb); clear HO686; clear HO689; clear HO692; clear HO695; clear BK681; clear HB; have HO686 := n0_; have HO689 := n1_; have HO692 := n2_; have HO695 := n3_; have HO698 := n4_; have HO701 := n5_; have BK681 := n6_; have HB := n7_; clear n0_ n1_ n2_ n3_ n4_ n5_ n6_ n7_; (try clear hb); (try clear hb2); (try clear hk); (try clear hi); (try clear ho0); (try clear ho1); have hcz22_0 : w21.cell? ⟨gb681, 0, none⟩ = some (.int .i64 a0_0) := (blk_cell BK681.out 0).trans rfl; have hcz22_1 : w21.cell? ⟨gb681, 1, none⟩ = some (.int .i64 a0_1) := (blk_cell BK681.out 1).trans rfl; have hcz22_2 : w21.cell? ⟨gb681, 2, none⟩ = some (.slice A0_2 l0_2.length c0_2) := (blk_cell BK681.out 2).trans rfl; have hcz22_3 : w21.cell? ⟨gb681, 3, none⟩ = some (.slice A0_3 l0_3.length c0_3) := (blk_cell BK681.out 3).trans rfl; have hcz22_4 : w21.cell? ⟨gb681, 4, none⟩ = some (.slice A0_4 l0_4.length c0_4) := (blk_cell BK681.out 4).trans rfl; have hcz22_5 : w21.cell? ⟨gb681, 5, none⟩ = some (.slice A0_5 l0_5.length c0_5) := (blk_cell BK681.out 5).trans rfl; have hfz22_0 := blk_frozen BK681.out 0; have hfz22_1 := blk_frozen BK681.out 1; have hfz22_2 := blk_frozen BK681.out 2; have hfz22_3 := blk_frozen BK681.out 3; have hfz22_4 := blk_frozen BK681.out 4; have hfz22_5 := blk_frozen BK681.out 5) | ((with_reducible refine gate_callee (f := 32) rfl ?_); refine goesL_ (some 33) rfl rfl Try.func32 (by kernel_rfl) rfl #[.agg #[.int .i64 a0_0, .int .i64 a0_1, .slice A0_2 l0_2.length c0_2, .slice A0_3 l0_3.length c0_3, .slice A0_4 l0_4.length c0_4, .slice A0_5 l0_5.length c0_5]] rfl (by (try simp only [List.map_toArray, List.map_cons, List.map_nil]); first | done | rfl | (simp only [List.length_drop, List.length_take]; rfl)) ?_; (with_reducible refine (cantinglaw07_cloth.calls a0_0 a0_1 _ _ l0_2 _ _ l0_3 _ _ l0_4 _ _ l0_5 t704 t705 t706 t709 t712 t715 _ ?side1 ?side2 ?side3 ?side4 ?side5 ?side6 ?side7 ?side8 A7.out).mono ?_); (case side1 => repeat (first | exact (Kd.C_below HR0_2.out HB.out) | (with_reducible refine Kd.C_alloc ?_ _) | (with_reducible refine Kd.C_drewN ?_ _) | (with_reducible refine Kd.C_drew ?_))); (case side2 => exact HC0_2.out); (case side3 => repeat (first | exact (Kd.C_below HR0_3.out HB.out) | (with_reducible refine Kd.C_alloc ?_ _) | (with_reducible refine Kd.C_drewN ?_ _) | (with_reducible refine Kd.C_drew ?_))); (case side4 => exact HC0_3.out); (case side5 => repeat (first | exact (Kd.C_below HR0_4.out HB.out) | (with_reducible refine Kd.C_alloc ?_ _) | (with_reducible refine Kd.C_drewN ?_ _) | (with_reducible refine Kd.C_drew ?_))); (case side6 => exact HC0_4.out); (case side7 => repeat (first | exact (Kd.C_below HR0_5.out HB.out) | (with_reducible refine Kd.C_alloc ?_ _) | (with_reducible refine Kd.C_drewN ?_ _) | (with_reducible refine Kd.C_drew ?_))); (case side8 => exact HC0_5.out); rintro e w23 ⟨v707, v710, v713, v716, rfl, ho0, ho1, ho2, ho3, hb⟩; refine ⟨_, rfl, ?_⟩; have n0_ := Aside0.mk (Kd.R_mono (Kd.R_told (Kd.R_told (Kd.R_told (Kd.R_told (Kd.R_old (by (with_reducible repeat (first | apply Kd.R_alloc | apply Kd.R_drewN | apply Kd.R_drew)); exact HO686.out) hb) (Kd.R_base ho0)) (Kd.R_base ho1)) (Kd.R_base ho2)) (Kd.R_base ho3)) (fun _ h_ => h_.1)); have n1_ := Aside0.mk (Kd.R_mono (Kd.R_told (Kd.R_told (Kd.R_told (Kd.R_told (Kd.R_old (by (with_reducible repeat (first | apply Kd.R_alloc | apply Kd.R_drewN | apply Kd.R_drew)); exact HO689.out) hb) (Kd.R_base ho0)) (Kd.R_base ho1)) (Kd.R_base ho2)) (Kd.R_base ho3)) (fun _ h_ => h_.1)); have n2_ := Aside0.mk (Kd.R_mono (Kd.R_told (Kd.R_told (Kd.R_told (Kd.R_told (Kd.R_old (by (with_reducible repeat (first | apply Kd.R_alloc | apply Kd.R_drewN | apply Kd.R_drew)); exact HO692.out) hb) (Kd.R_base ho0)) (Kd.R_base ho1)) (Kd.R_base ho2)) (Kd.R_base ho3)) (fun _ h_ => h_.1)); have n3_ := Aside0.mk (Kd.R_mono (Kd.R_told (Kd.R_told (Kd.R_told (Kd.R_told (Kd.R_old (by (with_reducible repeat (first | apply Kd.R_alloc | apply Kd.R_drewN | apply Kd.R_drew)); exact HO695.out) hb) (Kd.R_base ho0)) (Kd.R_base ho1)) (Kd.R_base ho2)) (Kd.R_base ho3)) (fun _ h_ => h_.1)); have n4_ := Aside0.mk (Kv.R_below (by (with_reducible repeat (first | apply Kv.R_alloc | apply Kv.R_drewN | apply Kv.R_drew)); exact HO698.out) hb); have n5_ := Aside0.mk (Kv.R_below (by (with_reducible repeat (first | apply Kv.R_alloc | apply Kv.R_drewN | apply Kv.R_drew)); exact HO701.out) hb); have n6_ := Aside0.mk (Kd.R_lower (Kd.R_new' (Kd.R_new' (Kd.R_new' (Kd.R_new' ho0 (Kd.R_lt (by (with_reducible repeat (first | apply Kd.R_alloc | apply Kd.R_drewN | apply Kd.R_drew)); exact HO686.out))) (Kd.R_lt (by (with_reducible repeat (first | apply Kd.R_alloc | apply Kd.R_drewN | apply Kd.R_drew)); exact HO689.out))) (Kd.R_lt (by (with_reducible repeat (first | apply Kd.R_alloc | apply Kd.R_drewN | apply Kd.R_drew)); exact HO692.out))) (Kd.R_lt (by (with_reducible repeat (first | apply Kd.R_alloc | apply Kd.R_drewN | apply Kd.R_drew)); exact HO695.out))) (below_size (by repeat (first | (with_reducible first | exact HB.out | apply below_alloc | apply pw_below_drewN | apply below_drew1 | refine below_set ?_ GE681.out) | exact HB.out)))); have n7_ := Aside0.mk (Kd.R_lower (Kd.R_new' (Kd.R_new' (Kd.R_new' (Kd.R_new' ho1 (Kd.R_lt (by (with_reducible repeat (first | apply Kd.R_alloc | apply Kd.R_drewN | apply Kd.R_drew)); exact HO686.out))) (Kd.R_lt (by (with_reducible repeat (first | apply Kd.R_alloc | apply Kd.R_drewN | apply Kd.R_drew)); exact HO689.out))) (Kd.R_lt (by (with_reducible repeat (first | apply Kd.R_alloc | apply Kd.R_drewN | apply Kd.R_drew)); exact HO692.out))) (Kd.R_lt (by (with_reducible repeat (first | apply Kd.R_alloc | apply Kd.R_drewN | apply Kd.R_drew)); exact HO695.out))) (below_size (by repeat (first | (with_reducible first | exact HB.out | apply below_alloc | apply pw_below_drewN | apply below_drew1 | refine below_set ?_ GE681.out) | exact HB.out)))); have n8_ := Aside0.mk (Kd.R_lower (Kd.R_new' (Kd.R_new' (Kd.R_new' (Kd.R_new' ho2 (Kd.R_lt (by (with_reducible repeat (first | apply Kd.R_alloc | apply Kd.R_drewN | apply Kd.R_drew)); exact HO686.out))) (Kd.R_lt (by (with_reducible repeat (first | apply Kd.R_alloc | apply Kd.R_drewN | apply Kd.R_drew)); exact HO689.out))) (Kd.R_lt (by (with_reducible repeat (first | apply Kd.R_alloc | apply Kd.R_drewN | apply Kd.R_drew)); exact HO692.out))) (Kd.R_lt (by (with_reducible repeat (first | apply Kd.R_alloc | apply Kd.R_drewN | apply Kd.R_drew)); exact HO695.out))) (below_size (by repeat (first | (with_reducible first | exact HB.out | apply below_alloc | apply pw_below_drewN | apply below_drew1 | refine below_set ?_ GE681.out) | exact HB.out)))); have n9_ := Aside0.mk (Kd.R_lower (Kd.R_new' (Kd.R_new' (Kd.R_new' (Kd.R_new' ho3 (Kd.R_lt (by (with_reducible repeat (first | apply Kd.R_alloc | apply Kd.R_drewN | apply Kd.R_drew)); exact HO686.out))) (Kd.R_lt (by (with_reducible repeat (first | apply Kd.R_alloc | apply Kd.R_drewN | apply Kd.R_drew)); exact HO689.out))) (Kd.R_lt (by (with_reducible repeat (first | apply Kd.R_alloc | apply Kd.R_drewN | apply Kd.R_drew)); exact HO692.out))) (Kd.R_lt (by (with_reducible repeat (first | apply Kd.R_alloc | apply Kd.R_drewN | apply Kd.R_drew)); exact HO695.out))) (below_size (by repeat (first | (with_reducible first | exact HB.out | apply below_alloc | apply pw_below_drewN | apply below_drew1 | refine below_set ?_ GE681.out) | exact HB.out)))); have n10_ := Aside0.mk (blk_below (g := gb681) (o := .cells #[.int .i64 a0_0, .int .i64 a0_1, .slice A0_2 l0_2.length c0_2, .slice A0_3 l0_3.length c0_3, .slice A0_4 l0_4.length c0_4, .slice A0_5 l0_5.length c0_5] 61 (0, 0)) (by (with_reducible repeat (first | refine blk_drewN ?_ _ | refine blk_drew ?_ | refine blk_alloc ?_ _)); exact BK681.out) hb); have n11_ := Aside0.mk (below_step (by repeat (first | (with_reducible first | exact HB.out | apply below_alloc | apply pw_below_drewN | apply below_drew1 | refine below_set ?_ GE681.out) | exact HB.out)) hb); clear HO686; clear HO689; clear HO692; clear HO695; clear HO698; clear HO701; clear BK681; clear HB; have HO686 := n0_; have HO689 := n1_; have HO692 := n2_; have HO695 := n3_; have HO698 := n4_; have HO701 := n5_; have HO708 := n6_; have HO711 := n7_; have HO714 := n8_; have HO717 := n9_; have BK681 := n10_; have HB := n11_; clear n0_ n1_ n2_ n3_ n4_ n5_ n6_ n7_ n8_ n9_ n10_ n11_; (try clear hb); (try clear hb2); (try clear hk); (try clear hi); (try clear ho0); (try clear ho1); (try clear ho2); (try clear ho3); obtain ⟨Ao24, co24, eo24⟩ := Kd.R_slice HO708.out; subst eo24; obtain ⟨Ao25, co25, eo25⟩ := Kd.R_slice HO711.out; subst eo25; obtain ⟨Ao26, co26, eo26⟩ := Kd.R_slice HO714.out; subst eo26; obtain ⟨Ao27, co27, eo27⟩ := Kd.R_slice HO717.out; subst eo27; obtain ⟨Ao28, co28, eo28⟩ := Kv.R_slice HO698.out; subst eo28) | ((with_reducible refine gate_callee (f := 31) rfl ?_); refine goesL_ (some 36) rfl rfl Try.func31 (by kernel_rfl) rfl #[.agg #[.int .i64 t704, .int .i64 t705, .slice Ao24 t706.length co24, .slice Ao25 t709.length co25, .slice Ao26 t712.length co26, .slice Ao27 t715.length co27], .int .i64 a1, .slice Ao28 t696.length co28] rfl (by (try simp only [List.map_toArray, List.map_cons, List.map_nil]); first | done | rfl | (simp only [List.length_drop, List.length_take]; rfl)) ?_; (with_reducible refine (wax_Energy.calls k t704 t705 _ _ t706 _ _ t709 _ _ t712 _ _ t715 a1 _ _ t696 t718 t719 _ ?side1 ?side2 ?side3 ?side4 ?side5 ?side6 ?side7 ?side8 ?side9 ?side10 A8.out).mono ?_); (case side1 => repeat (first | exact (Kd.R_reads' HO708.out).2.2 | (with_reducible refine Kd.C_alloc ?_ _) | (with_reducible refine Kd.C_drewN ?_ _) | (with_reducible refine Kd.C_drew ?_))); (case side2 => exact (Kd.R_reads' HO708.out).2.1); (case side3 => repeat (first | exact (Kd.R_reads' HO711.out).2.2 | (with_reducible refine Kd.C_alloc ?_ _) | (with_reducible refine Kd.C_drewN ?_ _) | (with_reducible refine Kd.C_drew ?_))); (case side4 => exact (Kd.R_reads' HO711.out).2.1); (case side5 => repeat (first | exact (Kd.R_reads' HO714.out).2.2 | (with_reducible refine Kd.C_alloc ?_ _) | (with_reducible refine Kd.C_drewN ?_ _) | (with_reducible refine Kd.C_drew ?_))); (case side6 => exact (Kd.R_reads' HO714.out).2.1); (case side7 => repeat (first | exact (Kd.R_reads' HO717.out).2.2 | (with_reducible refine Kd.C_alloc ?_ _) | (with_reducible refine Kd.C_drewN ?_ _) | (with_reducible refine Kd.C_drew ?_))); (case side8 => exact (Kd.R_reads' HO717.out).2.1); (case side9 => repeat (first | exact (Kv.R_reads' HO698.out).2.2 | (with_reducible refine Kd.C_alloc ?_ _) | (with_reducible refine Kd.C_drewN ?_ _) | (with_reducible refine Kd.C_drew ?_))); (case side10 => exact (Kv.R_reads' HO698.out).2.1); rintro e w29 ⟨rfl, hb⟩; refine ⟨_, rfl, ?_⟩; have n0_ := Aside0.mk (Kd.R_below (by (with_reducible repeat (first | apply Kd.R_alloc | apply Kd.R_drewN | apply Kd.R_drew)); exact HO686.out) hb); have n1_ := Aside0.mk (Kd.R_below (by (with_reducible repeat (first | apply Kd.R_alloc | apply Kd.R_drewN | apply Kd.R_drew)); exact HO689.out) hb); have n2_ := Aside0.mk (Kd.R_below (by (with_reducible repeat (first | apply Kd.R_alloc | apply Kd.R_drewN | apply Kd.R_drew)); exact HO692.out) hb); have n3_ := Aside0.mk (Kd.R_below (by (with_reducible repeat (first | apply Kd.R_alloc | apply Kd.R_drewN | apply Kd.R_drew)); exact HO695.out) hb); have n4_ := Aside0.mk (Kv.R_below (by (with_reducible repeat (first | apply Kv.R_alloc | apply Kv.R_drewN | apply Kv.R_drew)); exact HO698.out) hb); have n5_ := Aside0.mk (Kv.R_below (by (with_reducible repeat (first | apply Kv.R_alloc | apply Kv.R_drewN | apply Kv.R_drew)); exact HO701.out) hb); have n6_ := Aside0.mk (Kd.R_below (by (with_reducible repeat (first | apply Kd.R_alloc | apply Kd.R_drewN | apply Kd.R_drew)); exact HO708.out) hb); have n7_ := Aside0.mk (Kd.R_below (by (with_reducible repeat (first | apply Kd.R_alloc | apply Kd.R_drewN | apply Kd.R_drew)); exact HO711.out) hb); have n8_ := Aside0.mk (Kd.R_below (by (with_reducible repeat (first | apply Kd.R_alloc | apply Kd.R_drewN | apply Kd.R_drew)); exact HO714.out) hb); have n9_ := Aside0.mk (Kd.R_below (by (with_reducible repeat (first | apply Kd.R_alloc | apply Kd.R_drewN | apply Kd.R_drew)); exact HO717.out) hb); have n10_ := Aside0.mk (blk_below (g := gb681) (o := .cells #[.int .i64 a0_0, .int .i64 a0_1, .slice A0_2 l0_2.length c0_2, .slice A0_3 l0_3.length c0_3, .slice A0_4 l0_4.length c0_4, .slice A0_5 l0_5.length c0_5] 61 (0, 0)) (by (with_reducible repeat (first | refine blk_drewN ?_ _ | refine blk_drew ?_ | refine blk_alloc ?_ _)); exact BK681.out) hb); have n11_ := Aside0.mk (below_step (by repeat (first | (with_reducible first | exact HB.out | apply below_alloc | apply pw_below_drewN | apply below_drew1 | refine below_set ?_ GE681.out) | exact HB.out)) hb); clear HO686; clear HO689; clear HO692; clear HO695; clear HO698; clear HO701; clear HO708; clear HO711; clear HO714; clear HO717; clear BK681; clear HB; have HO686 := n0_; have HO689 := n1_; have HO692 := n2_; have HO695 := n3_; have HO698 := n4_; have HO701 := n5_; have HO708 := n6_; have HO711 := n7_; have HO714 := n8_; have HO717 := n9_; have BK681 := n10_; have HB := n11_; clear n0_ n1_ n2_ n3_ n4_ n5_ n6_ n7_ n8_ n9_ n10_ n11_; (try clear hb); (try clear hb2); (try clear hk); (try clear hi); have hcz30_0 : w29.cell? ⟨gb681, 0, none⟩ = some (.int .i64 a0_0) := (blk_cell BK681.out 0).trans rfl; have hcz30_1 : w29.cell? ⟨gb681, 1, none⟩ = some (.int .i64 a0_1) := (blk_cell BK681.out 1).trans rfl; have hcz30_2 : w29.cell? ⟨gb681, 2, none⟩ = some (.slice A0_2 l0_2.length c0_2) := (blk_cell BK681.out 2).trans rfl; have hcz30_3 : w29.cell? ⟨gb681, 3, none⟩ = some (.slice A0_3 l0_3.length c0_3) := (blk_cell BK681.out 3).trans rfl; have hcz30_4 : w29.cell? ⟨gb681, 4, none⟩ = some (.slice A0_4 l0_4.length c0_4) := (blk_cell BK681.out 4).trans rfl; have hcz30_5 : w29.cell? ⟨gb681, 5, none⟩ = some (.slice A0_5 l0_5.length c0_5) := (blk_cell BK681.out 5).trans rfl; have hfz30_0 := blk_frozen BK681.out 0; have hfz30_1 := blk_frozen BK681.out 1; have hfz30_2 := blk_frozen BK681.out 2; have hfz30_3 := blk_frozen BK681.out 3; have hfz30_4 := blk_frozen BK681.out 4; have hfz30_5 := blk_frozen BK681.out 5) | ((with_reducible refine gate_callee (f := 32) rfl ?_); refine goesL_ (some 41) rfl rfl Try.func32 (by kernel_rfl) rfl #[.agg #[.int .i64 a0_0, .int .i64 a0_1, .slice A0_2 l0_2.length c0_2, .slice A0_3 l0_3.length c0_3, .slice A0_4 l0_4.length c0_4, .slice A0_5 l0_5.length c0_5]] rfl (by (try simp only [List.map_toArray, List.map_cons, List.map_nil]); first | done | rfl | (simp only [List.length_drop, List.length_take]; rfl)) ?_; (with_reducible refine (cantinglaw07_cloth.calls a0_0 a0_1 _ _ l0_2 _ _ l0_3 _ _ l0_4 _ _ l0_5 t720 t721 t722 t725 t728 t731 _ ?side1 ?side2 ?side3 ?side4 ?side5 ?side6 ?side7 ?side8 A9.out).mono ?_); (case side1 => repeat (first | exact (Kd.C_below HR0_2.out HB.out) | (with_reducible refine Kd.C_alloc ?_ _) | (with_reducible refine Kd.C_drewN ?_ _) | (with_reducible refine Kd.C_drew ?_))); (case side2 => exact HC0_2.out); (case side3 => repeat (first | exact (Kd.C_below HR0_3.out HB.out) | (with_reducible refine Kd.C_alloc ?_ _) | (with_reducible refine Kd.C_drewN ?_ _) | (with_reducible refine Kd.C_drew ?_))); (case side4 => exact HC0_3.out); (case side5 => repeat (first | exact (Kd.C_below HR0_4.out HB.out) | (with_reducible refine Kd.C_alloc ?_ _) | (with_reducible refine Kd.C_drewN ?_ _) | (with_reducible refine Kd.C_drew ?_))); (case side6 => exact HC0_4.out); (case side7 => repeat (first | exact (Kd.C_below HR0_5.out HB.out) | (with_reducible refine Kd.C_alloc ?_ _) | (with_reducible refine Kd.C_drewN ?_ _) | (with_reducible refine Kd.C_drew ?_))); (case side8 => exact HC0_5.out); rintro e w31 ⟨v723, v726, v729, v732, rfl, ho0, ho1, ho2, ho3, hb⟩; refine ⟨_, rfl, ?_⟩; have n0_ := Aside0.mk (Kd.R_mono (Kd.R_told (Kd.R_told (Kd.R_told (Kd.R_told (Kd.R_old (by (with_reducible repeat (first | apply Kd.R_alloc | apply Kd.R_drewN | apply Kd.R_drew)); exact HO686.out) hb) (Kd.R_base ho0)) (Kd.R_base ho1)) (Kd.R_base ho2)) (Kd.R_base ho3)) (fun _ h_ => h_.1)); have n1_ := Aside0.mk (Kd.R_mono (Kd.R_told (Kd.R_told (Kd.R_told (Kd.R_told (Kd.R_old (by (with_reducible repeat (first | apply Kd.R_alloc | apply Kd.R_drewN | apply Kd.R_drew)); exact HO689.out) hb) (Kd.R_base ho0)) (Kd.R_base ho1)) (Kd.R_base ho2)) (Kd.R_base ho3)) (fun _ h_ => h_.1)); have n2_ := Aside0.mk (Kd.R_mono (Kd.R_told (Kd.R_told (Kd.R_told (Kd.R_told (Kd.R_old (by (with_reducible repeat (first | apply Kd.R_alloc | apply Kd.R_drewN | apply Kd.R_drew)); exact HO692.out) hb) (Kd.R_base ho0)) (Kd.R_base ho1)) (Kd.R_base ho2)) (Kd.R_base ho3)) (fun _ h_ => h_.1)); have n3_ := Aside0.mk (Kd.R_mono (Kd.R_told (Kd.R_told (Kd.R_told (Kd.R_told (Kd.R_old (by (with_reducible repeat (first | apply Kd.R_alloc | apply Kd.R_drewN | apply Kd.R_drew)); exact HO695.out) hb) (Kd.R_base ho0)) (Kd.R_base ho1)) (Kd.R_base ho2)) (Kd.R_base ho3)) (fun _ h_ => h_.1)); have n4_ := Aside0.mk (Kv.R_below (by (with_reducible repeat (first | apply Kv.R_alloc | apply Kv.R_drewN | apply Kv.R_drew)); exact HO698.out) hb); have n5_ := Aside0.mk (Kv.R_below (by (with_reducible repeat (first | apply Kv.R_alloc | apply Kv.R_drewN | apply Kv.R_drew)); exact HO701.out) hb); have n6_ := Aside0.mk (Kd.R_mono (Kd.R_told (Kd.R_told (Kd.R_told (Kd.R_told (Kd.R_old (by (with_reducible repeat (first | apply Kd.R_alloc | apply Kd.R_drewN | apply Kd.R_drew)); exact HO708.out) hb) (Kd.R_base ho0)) (Kd.R_base ho1)) (Kd.R_base ho2)) (Kd.R_base ho3)) (fun _ h_ => h_.1)); have n7_ := Aside0.mk (Kd.R_mono (Kd.R_told (Kd.R_told (Kd.R_told (Kd.R_told (Kd.R_old (by (with_reducible repeat (first | apply Kd.R_alloc | apply Kd.R_drewN | apply Kd.R_drew)); exact HO711.out) hb) (Kd.R_base ho0)) (Kd.R_base ho1)) (Kd.R_base ho2)) (Kd.R_base ho3)) (fun _ h_ => h_.1)); have n8_ := Aside0.mk (Kd.R_mono (Kd.R_told (Kd.R_told (Kd.R_told (Kd.R_told (Kd.R_old (by (with_reducible repeat (first | apply Kd.R_alloc | apply Kd.R_drewN | apply Kd.R_drew)); exact HO714.out) hb) (Kd.R_base ho0)) (Kd.R_base ho1)) (Kd.R_base ho2)) (Kd.R_base ho3)) (fun _ h_ => h_.1)); have n9_ := Aside0.mk (Kd.R_mono (Kd.R_told (Kd.R_told (Kd.R_told (Kd.R_told (Kd.R_old (by (with_reducible repeat (first | apply Kd.R_alloc | apply Kd.R_drewN | apply Kd.R_drew)); exact HO717.out) hb) (Kd.R_base ho0)) (Kd.R_base ho1)) (Kd.R_base ho2)) (Kd.R_base ho3)) (fun _ h_ => h_.1)); have n10_ := Aside0.mk (Kd.R_lower (Kd.R_new' (Kd.R_new' (Kd.R_new' (Kd.R_new' (Kd.R_new' (Kd.R_new' (Kd.R_new' (Kd.R_new' ho0 (Kd.R_lt (by (with_reducible repeat (first | apply Kd.R_alloc | apply Kd.R_drewN | apply Kd.R_drew)); exact HO686.out))) (Kd.R_lt (by (with_reducible repeat (first | apply Kd.R_alloc | apply Kd.R_drewN | apply Kd.R_drew)); exact HO689.out))) (Kd.R_lt (by (with_reducible repeat (first | apply Kd.R_alloc | apply Kd.R_drewN | apply Kd.R_drew)); exact HO692.out))) (Kd.R_lt (by (with_reducible repeat (first | apply Kd.R_alloc | apply Kd.R_drewN | apply Kd.R_drew)); exact HO695.out))) (Kd.R_lt (by (with_reducible repeat (first | apply Kd.R_alloc | apply Kd.R_drewN | apply Kd.R_drew)); exact HO708.out))) (Kd.R_lt (by (with_reducible repeat (first | apply Kd.R_alloc | apply Kd.R_drewN | apply Kd.R_drew)); exact HO711.out))) (Kd.R_lt (by (with_reducible repeat (first | apply Kd.R_alloc | apply Kd.R_drewN | apply Kd.R_drew)); exact HO714.out))) (Kd.R_lt (by (with_reducible repeat (first | apply Kd.R_alloc | apply Kd.R_drewN | apply Kd.R_drew)); exact HO717.out))) (below_size (by repeat (first | (with_reducible first | exact HB.out | apply below_alloc | apply pw_below_drewN | apply below_drew1 | refine below_set ?_ GE681.out) | exact HB.out)))); have n11_ := Aside0.mk (Kd.R_lower (Kd.R_new' (Kd.R_new' (Kd.R_new' (Kd.R_new' (Kd.R_new' (Kd.R_new' (Kd.R_new' (Kd.R_new' ho1 (Kd.R_lt (by (with_reducible repeat (first | apply Kd.R_alloc | apply Kd.R_drewN | apply Kd.R_drew)); exact HO686.out))) (Kd.R_lt (by (with_reducible repeat (first | apply Kd.R_alloc | apply Kd.R_drewN | apply Kd.R_drew)); exact HO689.out))) (Kd.R_lt (by (with_reducible repeat (first | apply Kd.R_alloc | apply Kd.R_drewN | apply Kd.R_drew)); exact HO692.out))) (Kd.R_lt (by (with_reducible repeat (first | apply Kd.R_alloc | apply Kd.R_drewN | apply Kd.R_drew)); exact HO695.out))) (Kd.R_lt (by (with_reducible repeat (first | apply Kd.R_alloc | apply Kd.R_drewN | apply Kd.R_drew)); exact HO708.out))) (Kd.R_lt (by (with_reducible repeat (first | apply Kd.R_alloc | apply Kd.R_drewN | apply Kd.R_drew)); exact HO711.out))) (Kd.R_lt (by (with_reducible repeat (first | apply Kd.R_alloc | apply Kd.R_drewN | apply Kd.R_drew)); exact HO714.out))) (Kd.R_lt (by (with_reducible repeat (first | apply Kd.R_alloc | apply Kd.R_drewN | apply Kd.R_drew)); exact HO717.out))) (below_size (by repeat (first | (with_reducible first | exact HB.out | apply below_alloc | apply pw_below_drewN | apply below_drew1 | refine below_set ?_ GE681.out) | exact HB.out)))); have n12_ := Aside0.mk (Kd.R_lower (Kd.R_new' (Kd.R_new' (Kd.R_new' (Kd.R_new' (Kd.R_new' (Kd.R_new' (Kd.R_new' (Kd.R_new' ho2 (Kd.R_lt (by (with_reducible repeat (first | apply Kd.R_alloc | apply Kd.R_drewN | apply Kd.R_drew)); exact HO686.out))) (Kd.R_lt (by (with_reducible repeat (first | apply Kd.R_alloc | apply Kd.R_drewN | apply Kd.R_drew)); exact HO689.out))) (Kd.R_lt (by (with_reducible repeat (first | apply Kd.R_alloc | apply Kd.R_drewN | apply Kd.R_drew)); exact HO692.out))) (Kd.R_lt (by (with_reducible repeat (first | apply Kd.R_alloc | apply Kd.R_drewN | apply Kd.R_drew)); exact HO695.out))) (Kd.R_lt (by (with_reducible repeat (first | apply Kd.R_alloc | apply Kd.R_drewN | apply Kd.R_drew)); exact HO708.out))) (Kd.R_lt (by (with_reducible repeat (first | apply Kd.R_alloc | apply Kd.R_drewN | apply Kd.R_drew)); exact HO711.out))) (Kd.R_lt (by (with_reducible repeat (first | apply Kd.R_alloc | apply Kd.R_drewN | apply Kd.R_drew)); exact HO714.out))) (Kd.R_lt (by (with_reducible repeat (first | apply Kd.R_alloc | apply Kd.R_drewN | apply Kd.R_drew)); exact HO717.out))) (below_size (by repeat (first | (with_reducible first | exact HB.out | apply below_alloc | apply pw_below_drewN | apply below_drew1 | refine below_set ?_ GE681.out) | exact HB.out)))); have n13_ := Aside0.mk (Kd.R_lower (Kd.R_new' (Kd.R_new' (Kd.R_new' (Kd.R_new' (Kd.R_new' (Kd.R_new' (Kd.R_new' (Kd.R_new' ho3 (Kd.R_lt (by (with_reducible repeat (first | apply Kd.R_alloc | apply Kd.R_drewN | apply Kd.R_drew)); exact HO686.out))) (Kd.R_lt (by (with_reducible repeat (first | apply Kd.R_alloc | apply Kd.R_drewN | apply Kd.R_drew)); exact HO689.out))) (Kd.R_lt (by (with_reducible repeat (first | apply Kd.R_alloc | apply Kd.R_drewN | apply Kd.R_drew)); exact HO692.out))) (Kd.R_lt (by (with_reducible repeat (first | apply Kd.R_alloc | apply Kd.R_drewN | apply Kd.R_drew)); exact HO695.out))) (Kd.R_lt (by (with_reducible repeat (first | apply Kd.R_alloc | apply Kd.R_drewN | apply Kd.R_drew)); exact HO708.out))) (Kd.R_lt (by (with_reducible repeat (first | apply Kd.R_alloc | apply Kd.R_drewN | apply Kd.R_drew)); exact HO711.out))) (Kd.R_lt (by (with_reducible repeat (first | apply Kd.R_alloc | apply Kd.R_drewN | apply Kd.R_drew)); exact HO714.out))) (Kd.R_lt (by (with_reducible repeat (first | apply Kd.R_alloc | apply Kd.R_drewN | apply Kd.R_drew)); exact HO717.out))) (below_size (by repeat (first | (with_reducible first | exact HB.out | apply below_alloc | apply pw_below_drewN | apply below_drew1 | refine below_set ?_ GE681.out) | exact HB.out)))); have n14_ := Aside0.mk (blk_below (g := gb681) (o := .cells #[.int .i64 a0_0, .int .i64 a0_1, .slice A0_2 l0_2.length c0_2, .slice A0_3 l0_3.length c0_3, .slice A0_4 l0_4.length c0_4, .slice A0_5 l0_5.length c0_5] 61 (0, 0)) (by (with_reducible repeat (first | refine blk_drewN ?_ _ | refine blk_drew ?_ | refine blk_alloc ?_ _)); exact BK681.out) hb); have n15_ := Aside0.mk (below_step (by repeat (first | (with_reducible first | exact HB.out | apply below_alloc | apply pw_below_drewN | apply below_drew1 | refine below_set ?_ GE681.out) | exact HB.out)) hb); clear HO686; clear HO689; clear HO692; clear HO695; clear HO698; clear HO701; clear HO708; clear HO711; clear HO714; clear HO717; clear BK681; clear HB; have HO686 := n0_; have HO689 := n1_; have HO692 := n2_; have HO695 := n3_; have HO698 := n4_; have HO701 := n5_; have HO708 := n6_; have HO711 := n7_; have HO714 := n8_; have HO717 := n9_; have HO724 := n10_; have HO727 := n11_; have HO730 := n12_; have HO733 := n13_; have BK681 := n14_; have HB := n15_; clear n0_ n1_ n2_ n3_ n4_ n5_ n6_ n7_ n8_ n9_ n10_ n11_ n12_ n13_ n14_ n15_; (try clear hb); (try clear hb2); (try clear hk); (try clear hi); (try clear ho0); (try clear ho1); (try clear ho2); (try clear ho3); obtain ⟨Ao32, co32, eo32⟩ := Kd.R_slice HO724.out; subst eo32; obtain ⟨Ao33, co33, eo33⟩ := Kd.R_slice HO727.out; subst eo33; obtain ⟨Ao34, co34, eo34⟩ := Kd.R_slice HO730.out; subst eo34; obtain ⟨Ao35, co35, eo35⟩ := Kd.R_slice HO733.out; subst eo35; obtain ⟨Ao36, co36, eo36⟩ := Kv.R_slice HO701.out; subst eo36) | ((with_reducible refine gate_callee (f := 31) rfl ?_); refine goesL_ (some 44) rfl rfl Try.func31 (by kernel_rfl) rfl #[.agg #[.int .i64 t720, .int .i64 t721, .slice Ao32 t722.length co32, .slice Ao33 t725.length co33, .slice Ao34 t728.length co34, .slice Ao35 t731.length co35], .int .i64 a1, .slice Ao36 t699.length co36] rfl (by (try simp only [List.map_toArray, List.map_cons, List.map_nil]); first | done | rfl | (simp only [List.length_drop, List.length_take]; rfl)) ?_; (with_reducible refine (wax_Energy.calls k t720 t721 _ _ t722 _ _ t725 _ _ t728 _ _ t731 a1 _ _ t699 t734 t735 _ ?side1 ?side2 ?side3 ?side4 ?side5 ?side6 ?side7 ?side8 ?side9 ?side10 A10.out).mono ?_); (case side1 => repeat (first | exact (Kd.R_reads' HO724.out).2.2 | (with_reducible refine Kd.C_alloc ?_ _) | (with_reducible refine Kd.C_drewN ?_ _) | (with_reducible refine Kd.C_drew ?_))); (case side2 => exact (Kd.R_reads' HO724.out).2.1); (case side3 => repeat (first | exact (Kd.R_reads' HO727.out).2.2 | (with_reducible refine Kd.C_alloc ?_ _) | (with_reducible refine Kd.C_drewN ?_ _) | (with_reducible refine Kd.C_drew ?_))); (case side4 => exact (Kd.R_reads' HO727.out).2.1); (case side5 => repeat (first | exact (Kd.R_reads' HO730.out).2.2 | (with_reducible refine Kd.C_alloc ?_ _) | (with_reducible refine Kd.C_drewN ?_ _) | (with_reducible refine Kd.C_drew ?_))); (case side6 => exact (Kd.R_reads' HO730.out).2.1); (case side7 => repeat (first | exact (Kd.R_reads' HO733.out).2.2 | (with_reducible refine Kd.C_alloc ?_ _) | (with_reducible refine Kd.C_drewN ?_ _) | (with_reducible refine Kd.C_drew ?_))); (case side8 => exact (Kd.R_reads' HO733.out).2.1); (case side9 => repeat (first | exact (Kv.R_reads' HO701.out).2.2 | (with_reducible refine Kd.C_alloc ?_ _) | (with_reducible refine Kd.C_drewN ?_ _) | (with_reducible refine Kd.C_drew ?_))); (case side10 => exact (Kv.R_reads' HO701.out).2.1); rintro e w37 ⟨rfl, hb⟩; refine ⟨_, rfl, ?_⟩; have n0_ := Aside0.mk (Kd.R_below (by (with_reducible repeat (first | apply Kd.R_alloc | apply Kd.R_drewN | apply Kd.R_drew)); exact HO686.out) hb); have n1_ := Aside0.mk (Kd.R_below (by (with_reducible repeat (first | apply Kd.R_alloc | apply Kd.R_drewN | apply Kd.R_drew)); exact HO689.out) hb); have n2_ := Aside0.mk (Kd.R_below (by (with_reducible repeat (first | apply Kd.R_alloc | apply Kd.R_drewN | apply Kd.R_drew)); exact HO692.out) hb); have n3_ := Aside0.mk (Kd.R_below (by (with_reducible repeat (first | apply Kd.R_alloc | apply Kd.R_drewN | apply Kd.R_drew)); exact HO695.out) hb); have n4_ := Aside0.mk (Kv.R_below (by (with_reducible repeat (first | apply Kv.R_alloc | apply Kv.R_drewN | apply Kv.R_drew)); exact HO698.out) hb); have n5_ := Aside0.mk (Kv.R_below (by (with_reducible repeat (first | apply Kv.R_alloc | apply Kv.R_drewN | apply Kv.R_drew)); exact HO701.out) hb); have n6_ := Aside0.mk (Kd.R_below (by (with_reducible repeat (first | apply Kd.R_alloc | apply Kd.R_drewN | apply Kd.R_drew)); exact HO708.out) hb); have n7_ := Aside0.mk (Kd.R_below (by (with_reducible repeat (first | apply Kd.R_alloc | apply Kd.R_drewN | apply Kd.R_drew)); exact HO711.out) hb); have n8_ := Aside0.mk (Kd.R_below (by (with_reducible repeat (first | apply Kd.R_alloc | apply Kd.R_drewN | apply Kd.R_drew)); exact HO714.out) hb); have n9_ := Aside0.mk (Kd.R_below (by (with_reducible repeat (first | apply Kd.R_alloc | apply Kd.R_drewN | apply Kd.R_drew)); exact HO717.out) hb); have n10_ := Aside0.mk (Kd.R_below (by (with_reducible repeat (first | apply Kd.R_alloc | apply Kd.R_drewN | apply Kd.R_drew)); exact HO724.out) hb); have n11_ := Aside0.mk (Kd.R_below (by (with_reducible repeat (first | apply Kd.R_alloc | apply Kd.R_drewN | apply Kd.R_drew)); exact HO727.out) hb); have n12_ := Aside0.mk (Kd.R_below (by (with_reducible repeat (first | apply Kd.R_alloc | apply Kd.R_drewN | apply Kd.R_drew)); exact HO730.out) hb); have n13_ := Aside0.mk (Kd.R_below (by (with_reducible repeat (first | apply Kd.R_alloc | apply Kd.R_drewN | apply Kd.R_drew)); exact HO733.out) hb); have n14_ := Aside0.mk (blk_below (g := gb681) (o := .cells #[.int .i64 a0_0, .int .i64 a0_1, .slice A0_2 l0_2.length c0_2, .slice A0_3 l0_3.length c0_3, .slice A0_4 l0_4.length c0_4, .slice A0_5 l0_5.length c0_5] 61 (0, 0)) (by (with_reducible repeat (first | refine blk_drewN ?_ _ | refine blk_drew ?_ | refine blk_alloc ?_ _)); exact BK681.out) hb); have n15_ := Aside0.mk (below_step (by repeat (first | (with_reducible first | exact HB.out | apply below_alloc | apply pw_below_drewN | apply below_drew1 | refine below_set ?_ GE681.out) | exact HB.out)) hb); clear HO686; clear HO689; clear HO692; clear HO695; clear HO698; clear HO701; clear HO708; clear HO711; clear HO714; clear HO717; clear HO724; clear HO727; clear HO730; clear HO733; clear BK681; clear HB; have HO686 := n0_; have HO689 := n1_; have HO692 := n2_; have HO695 := n3_; have HO698 := n4_; have HO701 := n5_; have HO708 := n6_; have HO711 := n7_; have HO714 := n8_; have HO717 := n9_; have HO724 := n10_; have HO727 := n11_; have HO730 := n12_; have HO733 := n13_; have BK681 := n14_; have HB := n15_; clear n0_ n1_ n2_ n3_ n4_ n5_ n6_ n7_ n8_ n9_ n10_ n11_ n12_ n13_ n14_ n15_; (try clear hb); (try clear hb2); (try clear hk); (try clear hi); have hcz38_0 : w37.cell? ⟨gb681, 0, none⟩ = some (.int .i64 a0_0) := (blk_cell BK681.out 0).trans rfl; have hcz38_1 : w37.cell? ⟨gb681, 1, none⟩ = some (.int .i64 a0_1) := (blk_cell BK681.out 1).trans rfl; have hcz38_2 : w37.cell? ⟨gb681, 2, none⟩ = some (.slice A0_2 l0_2.length c0_2) := (blk_cell BK681.out 2).trans rfl; have hcz38_3 : w37.cell? ⟨gb681, 3, none⟩ = some (.slice A0_3 l0_3.length c0_3) := (blk_cell BK681.out 3).trans rfl; have hcz38_4 : w37.cell? ⟨gb681, 4, none⟩ = some (.slice A0_4 l0_4.length c0_4) := (blk_cell BK681.out 4).trans rfl; have hcz38_5 : w37.cell? ⟨gb681, 5, none⟩ = some (.slice A0_5 l0_5.length c0_5) := (blk_cell BK681.out 5).trans rfl; have hfz38_0 := blk_frozen BK681.out 0; have hfz38_1 := blk_frozen BK681.out 1; have hfz38_2 := blk_frozen BK681.out 2; have hfz38_3 := blk_frozen BK681.out 3; have hfz38_4 := blk_frozen BK681.out 4; have hfz38_5 := blk_frozen BK681.out 5) | ((with_reducible refine gate_callee (f := 32) rfl ?_); refine goesL_ (some 49) rfl rfl Try.func32 (by kernel_rfl) rfl #[.agg #[.int .i64 a0_0, .int .i64 a0_1, .slice A0_2 l0_2.length c0_2, .slice A0_3 l0_3.length c0_3, .slice A0_4 l0_4.length c0_4, .slice A0_5 l0_5.length c0_5]] rfl (by (try simp only [List.map_toArray, List.map_cons, List.map_nil]); first | done | rfl | (simp only [List.length_drop, List.length_take]; rfl)) ?_; (with_reducible refine (cantinglaw07_cloth.calls a0_0 a0_1 _ _ l0_2 _ _ l0_3 _ _ l0_4 _ _ l0_5 t736 t737 t738 t741 t744 t747 _ ?side1 ?side2 ?side3 ?side4 ?side5 ?side6 ?side7 ?side8 A11.out).mono ?_); (case side1 => repeat (first | exact (Kd.C_below HR0_2.out HB.out) | (with_reducible refine Kd.C_alloc ?_ _) | (with_reducible refine Kd.C_drewN ?_ _) | (with_reducible refine Kd.C_drew ?_))); (case side2 => exact HC0_2.out); (case side3 => repeat (first | exact (Kd.C_below HR0_3.out HB.out) | (with_reducible refine Kd.C_alloc ?_ _) | (with_reducible refine Kd.C_drewN ?_ _) | (with_reducible refine Kd.C_drew ?_))); (case side4 => exact HC0_3.out); (case side5 => repeat (first | exact (Kd.C_below HR0_4.out HB.out) | (with_reducible refine Kd.C_alloc ?_ _) | (with_reducible refine Kd.C_drewN ?_ _) | (with_reducible refine Kd.C_drew ?_))); (case side6 => exact HC0_4.out); (case side7 => repeat (first | exact (Kd.C_below HR0_5.out HB.out) | (with_reducible refine Kd.C_alloc ?_ _) | (with_reducible refine Kd.C_drewN ?_ _) | (with_reducible refine Kd.C_drew ?_))); (case side8 => exact HC0_5.out); rintro e w39 ⟨v739, v742, v745, v748, rfl, ho0, ho1, ho2, ho3, hb⟩; refine ⟨_, rfl, ?_⟩; have n0_ := Aside0.mk (Kd.R_mono (Kd.R_told (Kd.R_told (Kd.R_told (Kd.R_told (Kd.R_old (by (with_reducible repeat (first | apply Kd.R_alloc | apply Kd.R_drewN | apply Kd.R_drew)); exact HO686.out) hb) (Kd.R_base ho0)) (Kd.R_base ho1)) (Kd.R_base ho2)) (Kd.R_base ho3)) (fun _ h_ => h_.1)); have n1_ := Aside0.mk (Kd.R_mono (Kd.R_told (Kd.R_told (Kd.R_told (Kd.R_told (Kd.R_old (by (with_reducible repeat (first | apply Kd.R_alloc | apply Kd.R_drewN | apply Kd.R_drew)); exact HO689.out) hb) (Kd.R_base ho0)) (Kd.R_base ho1)) (Kd.R_base ho2)) (Kd.R_base ho3)) (fun _ h_ => h_.1)); have n2_ := Aside0.mk (Kd.R_mono (Kd.R_told (Kd.R_told (Kd.R_told (Kd.R_told (Kd.R_old (by (with_reducible repeat (first | apply Kd.R_alloc | apply Kd.R_drewN | apply Kd.R_drew)); exact HO692.out) hb) (Kd.R_base ho0)) (Kd.R_base ho1)) (Kd.R_base ho2)) (Kd.R_base ho3)) (fun _ h_ => h_.1)); have n3_ := Aside0.mk (Kd.R_mono (Kd.R_told (Kd.R_told (Kd.R_told (Kd.R_told (Kd.R_old (by (with_reducible repeat (first | apply Kd.R_alloc | apply Kd.R_drewN | apply Kd.R_drew)); exact HO695.out) hb) (Kd.R_base ho0)) (Kd.R_base ho1)) (Kd.R_base ho2)) (Kd.R_base ho3)) (fun _ h_ => h_.1)); have n4_ := Aside0.mk (Kv.R_below (by (with_reducible repeat (first | apply Kv.R_alloc | apply Kv.R_drewN | apply Kv.R_drew)); exact HO698.out) hb); have n5_ := Aside0.mk (Kv.R_below (by (with_reducible repeat (first | apply Kv.R_alloc | apply Kv.R_drewN | apply Kv.R_drew)); exact HO701.out) hb); have n6_ := Aside0.mk (Kd.R_mono (Kd.R_told (Kd.R_told (Kd.R_told (Kd.R_told (Kd.R_old (by (with_reducible repeat (first | apply Kd.R_alloc | apply Kd.R_drewN | apply Kd.R_drew)); exact HO708.out) hb) (Kd.R_base ho0)) (Kd.R_base ho1)) (Kd.R_base ho2)) (Kd.R_base ho3)) (fun _ h_ => h_.1)); have n7_ := Aside0.mk (Kd.R_mono (Kd.R_told (Kd.R_told (Kd.R_told (Kd.R_told (Kd.R_old (by (with_reducible repeat (first | apply Kd.R_alloc | apply Kd.R_drewN | apply Kd.R_drew)); exact HO711.out) hb) (Kd.R_base ho0)) (Kd.R_base ho1)) (Kd.R_base ho2)) (Kd.R_base ho3)) (fun _ h_ => h_.1)); have n8_ := Aside0.mk (Kd.R_mono (Kd.R_told (Kd.R_told (Kd.R_told (Kd.R_told (Kd.R_old (by (with_reducible repeat (first | apply Kd.R_alloc | apply Kd.R_drewN | apply Kd.R_drew)); exact HO714.out) hb) (Kd.R_base ho0)) (Kd.R_base ho1)) (Kd.R_base ho2)) (Kd.R_base ho3)) (fun _ h_ => h_.1)); have n9_ := Aside0.mk (Kd.R_mono (Kd.R_told (Kd.R_told (Kd.R_told (Kd.R_told (Kd.R_old (by (with_reducible repeat (first | apply Kd.R_alloc | apply Kd.R_drewN | apply Kd.R_drew)); exact HO717.out) hb) (Kd.R_base ho0)) (Kd.R_base ho1)) (Kd.R_base ho2)) (Kd.R_base ho3)) (fun _ h_ => h_.1)); have n10_ := Aside0.mk (Kd.R_mono (Kd.R_told (Kd.R_told (Kd.R_told (Kd.R_told (Kd.R_old (by (with_reducible repeat (first | apply Kd.R_alloc | apply Kd.R_drewN | apply Kd.R_drew)); exact HO724.out) hb) (Kd.R_base ho0)) (Kd.R_base ho1)) (Kd.R_base ho2)) (Kd.R_base ho3)) (fun _ h_ => h_.1)); have n11_ := Aside0.mk (Kd.R_mono (Kd.R_told (Kd.R_told (Kd.R_told (Kd.R_told (Kd.R_old (by (with_reducible repeat (first | apply Kd.R_alloc | apply Kd.R_drewN | apply Kd.R_drew)); exact HO727.out) hb) (Kd.R_base ho0)) (Kd.R_base ho1)) (Kd.R_base ho2)) (Kd.R_base ho3)) (fun _ h_ => h_.1)); have n12_ := Aside0.mk (Kd.R_mono (Kd.R_told (Kd.R_told (Kd.R_told (Kd.R_told (Kd.R_old (by (with_reducible repeat (first | apply Kd.R_alloc | apply Kd.R_drewN | apply Kd.R_drew)); exact HO730.out) hb) (Kd.R_base ho0)) (Kd.R_base ho1)) (Kd.R_base ho2)) (Kd.R_base ho3)) (fun _ h_ => h_.1)); have n13_ := Aside0.mk (Kd.R_mono (Kd.R_told (Kd.R_told (Kd.R_told (Kd.R_told (Kd.R_old (by (with_reducible repeat (first | apply Kd.R_alloc | apply Kd.R_drewN | apply Kd.R_drew)); exact HO733.out) hb) (Kd.R_base ho0)) (Kd.R_base ho1)) (Kd.R_base ho2)) (Kd.R_base ho3)) (fun _ h_ => h_.1)); have n14_ := Aside0.mk (Kd.R_lower (Kd.R_new' (Kd.R_new' (Kd.R_new' (Kd.R_new' (Kd.R_new' (Kd.R_new' (Kd.R_new' (Kd.R_new' (Kd.R_new' (Kd.R_new' (Kd.R_new' (Kd.R_new' ho0 (Kd.R_lt (by (with_reducible repeat (first | apply Kd.R_alloc | apply Kd.R_drewN | apply Kd.R_drew)); exact HO686.out))) (Kd.R_lt (by (with_reducible repeat (first | apply Kd.R_alloc | apply Kd.R_drewN | apply Kd.R_drew)); exact HO689.out))) (Kd.R_lt (by (with_reducible repeat (first | apply Kd.R_alloc | apply Kd.R_drewN | apply Kd.R_drew)); exact HO692.out))) (Kd.R_lt (by (with_reducible repeat (first | apply Kd.R_alloc | apply Kd.R_drewN | apply Kd.R_drew)); exact HO695.out))) (Kd.R_lt (by (with_reducible repeat (first | apply Kd.R_alloc | apply Kd.R_drewN | apply Kd.R_drew)); exact HO708.out))) (Kd.R_lt (by (with_reducible repeat (first | apply Kd.R_alloc | apply Kd.R_drewN | apply Kd.R_drew)); exact HO711.out))) (Kd.R_lt (by (with_reducible repeat (first | apply Kd.R_alloc | apply Kd.R_drewN | apply Kd.R_drew)); exact HO714.out))) (Kd.R_lt (by (with_reducible repeat (first | apply Kd.R_alloc | apply Kd.R_drewN | apply Kd.R_drew)); exact HO717.out))) (Kd.R_lt (by (with_reducible repeat (first | apply Kd.R_alloc | apply Kd.R_drewN | apply Kd.R_drew)); exact HO724.out))) (Kd.R_lt (by (with_reducible repeat (first | apply Kd.R_alloc | apply Kd.R_drewN | apply Kd.R_drew)); exact HO727.out))) (Kd.R_lt (by (with_reducible repeat (first | apply Kd.R_alloc | apply Kd.R_drewN | apply Kd.R_drew)); exact HO730.out))) (Kd.R_lt (by (with_reducible repeat (first | apply Kd.R_alloc | apply Kd.R_drewN | apply Kd.R_drew)); exact HO733.out))) (below_size (by repeat (first | (with_reducible first | exact HB.out | apply below_alloc | apply pw_below_drewN | apply below_drew1 | refine below_set ?_ GE681.out) | exact HB.out)))); have n15_ := Aside0.mk (Kd.R_lower (Kd.R_new' (Kd.R_new' (Kd.R_new' (Kd.R_new' (Kd.R_new' (Kd.R_new' (Kd.R_new' (Kd.R_new' (Kd.R_new' (Kd.R_new' (Kd.R_new' (Kd.R_new' ho1 (Kd.R_lt (by (with_reducible repeat (first | apply Kd.R_alloc | apply Kd.R_drewN | apply Kd.R_drew)); exact HO686.out))) (Kd.R_lt (by (with_reducible repeat (first | apply Kd.R_alloc | apply Kd.R_drewN | apply Kd.R_drew)); exact HO689.out))) (Kd.R_lt (by (with_reducible repeat (first | apply Kd.R_alloc | apply Kd.R_drewN | apply Kd.R_drew)); exact HO692.out))) (Kd.R_lt (by (with_reducible repeat (first | apply Kd.R_alloc | apply Kd.R_drewN | apply Kd.R_drew)); exact HO695.out))) (Kd.R_lt (by (with_reducible repeat (first | apply Kd.R_alloc | apply Kd.R_drewN | apply Kd.R_drew)); exact HO708.out))) (Kd.R_lt (by (with_reducible repeat (first | apply Kd.R_alloc | apply Kd.R_drewN | apply Kd.R_drew)); exact HO711.out))) (Kd.R_lt (by (with_reducible repeat (first | apply Kd.R_alloc | apply Kd.R_drewN | apply Kd.R_drew)); exact HO714.out))) (Kd.R_lt (by (with_reducible repeat (first | apply Kd.R_alloc | apply Kd.R_drewN | apply Kd.R_drew)); exact HO717.out))) (Kd.R_lt (by (with_reducible repeat (first | apply Kd.R_alloc | apply Kd.R_drewN | apply Kd.R_drew)); exact HO724.out))) (Kd.R_lt (by (with_reducible repeat (first | apply Kd.R_alloc | apply Kd.R_drewN | apply Kd.R_drew)); exact HO727.out))) (Kd.R_lt (by (with_reducible repeat (first | apply Kd.R_alloc | apply Kd.R_drewN | apply Kd.R_drew)); exact HO730.out))) (Kd.R_lt (by (with_reducible repeat (first | apply Kd.R_alloc | apply Kd.R_drewN | apply Kd.R_drew)); exact HO733.out))) (below_size (by repeat (first | (with_reducible first | exact HB.out | apply below_alloc | apply pw_below_drewN | apply below_drew1 | refine below_set ?_ GE681.out) | exact HB.out)))); have n16_ := Aside0.mk (Kd.R_lower (Kd.R_new' (Kd.R_new' (Kd.R_new' (Kd.R_new' (Kd.R_new' (Kd.R_new' (Kd.R_new' (Kd.R_new' (Kd.R_new' (Kd.R_new' (Kd.R_new' (Kd.R_new' ho2 (Kd.R_lt (by (with_reducible repeat (first | apply Kd.R_alloc | apply Kd.R_drewN | apply Kd.R_drew)); exact HO686.out))) (Kd.R_lt (by (with_reducible repeat (first | apply Kd.R_alloc | apply Kd.R_drewN | apply Kd.R_drew)); exact HO689.out))) (Kd.R_lt (by (with_reducible repeat (first | apply Kd.R_alloc | apply Kd.R_drewN | apply Kd.R_drew)); exact HO692.out))) (Kd.R_lt (by (with_reducible repeat (first | apply Kd.R_alloc | apply Kd.R_drewN | apply Kd.R_drew)); exact HO695.out))) (Kd.R_lt (by (with_reducible repeat (first | apply Kd.R_alloc | apply Kd.R_drewN | apply Kd.R_drew)); exact HO708.out))) (Kd.R_lt (by (with_reducible repeat (first | apply Kd.R_alloc | apply Kd.R_drewN | apply Kd.R_drew)); exact HO711.out))) (Kd.R_lt (by (with_reducible repeat (first | apply Kd.R_alloc | apply Kd.R_drewN | apply Kd.R_drew)); exact HO714.out))) (Kd.R_lt (by (with_reducible repeat (first | apply Kd.R_alloc | apply Kd.R_drewN | apply Kd.R_drew)); exact HO717.out))) (Kd.R_lt (by (with_reducible repeat (first | apply Kd.R_alloc | apply Kd.R_drewN | apply Kd.R_drew)); exact HO724.out))) (Kd.R_lt (by (with_reducible repeat (first | apply Kd.R_alloc | apply Kd.R_drewN | apply Kd.R_drew)); exact HO727.out))) (Kd.R_lt (by (with_reducible repeat (first | apply Kd.R_alloc | apply Kd.R_drewN | apply Kd.R_drew)); exact HO730.out))) (Kd.R_lt (by (with_reducible repeat (first | apply Kd.R_alloc | apply Kd.R_drewN | apply Kd.R_drew)); exact HO733.out))) (below_size (by repeat (first | (with_reducible first | exact HB.out | apply below_alloc | apply pw_below_drewN | apply below_drew1 | refine below_set ?_ GE681.out) | exact HB.out)))); have n17_ := Aside0.mk (Kd.R_lower (Kd.R_new' (Kd.R_new' (Kd.R_new' (Kd.R_new' (Kd.R_new' (Kd.R_new' (Kd.R_new' (Kd.R_new' (Kd.R_new' (Kd.R_new' (Kd.R_new' (Kd.R_new' ho3 (Kd.R_lt (by (with_reducible repeat (first | apply Kd.R_alloc | apply Kd.R_drewN | apply Kd.R_drew)); exact HO686.out))) (Kd.R_lt (by (with_reducible repeat (first | apply Kd.R_alloc | apply Kd.R_drewN | apply Kd.R_drew)); exact HO689.out))) (Kd.R_lt (by (with_reducible repeat (first | apply Kd.R_alloc | apply Kd.R_drewN | apply Kd.R_drew)); exact HO692.out))) (Kd.R_lt (by (with_reducible repeat (first | apply Kd.R_alloc | apply Kd.R_drewN | apply Kd.R_drew)); exact HO695.out))) (Kd.R_lt (by (with_reducible repeat (first | apply Kd.R_alloc | apply Kd.R_drewN | apply Kd.R_drew)); exact HO708.out))) (Kd.R_lt (by (with_reducible repeat (first | apply Kd.R_alloc | apply Kd.R_drewN | apply Kd.R_drew)); exact HO711.out))) (Kd.R_lt (by (with_reducible repeat (first | apply Kd.R_alloc | apply Kd.R_drewN | apply Kd.R_drew)); exact HO714.out))) (Kd.R_lt (by (with_reducible repeat (first | apply Kd.R_alloc | apply Kd.R_drewN | apply Kd.R_drew)); exact HO717.out))) (Kd.R_lt (by (with_reducible repeat (first | apply Kd.R_alloc | apply Kd.R_drewN | apply Kd.R_drew)); exact HO724.out))) (Kd.R_lt (by (with_reducible repeat (first | apply Kd.R_alloc | apply Kd.R_drewN | apply Kd.R_drew)); exact HO727.out))) (Kd.R_lt (by (with_reducible repeat (first | apply Kd.R_alloc | apply Kd.R_drewN | apply Kd.R_drew)); exact HO730.out))) (Kd.R_lt (by (with_reducible repeat (first | apply Kd.R_alloc | apply Kd.R_drewN | apply Kd.R_drew)); exact HO733.out))) (below_size (by repeat (first | (with_reducible first | exact HB.out | apply below_alloc | apply pw_below_drewN | apply below_drew1 | refine below_set ?_ GE681.out) | exact HB.out)))); have n18_ := Aside0.mk (blk_below (g := gb681) (o := .cells #[.int .i64 a0_0, .int .i64 a0_1, .slice A0_2 l0_2.length c0_2, .slice A0_3 l0_3.length c0_3, .slice A0_4 l0_4.length c0_4, .slice A0_5 l0_5.length c0_5] 61 (0, 0)) (by (with_reducible repeat (first | refine blk_drewN ?_ _ | refine blk_drew ?_ | refine blk_alloc ?_ _)); exact BK681.out) hb); have n19_ := Aside0.mk (below_step (by repeat (first | (with_reducible first | exact HB.out | apply below_alloc | apply pw_below_drewN | apply below_drew1 | refine below_set ?_ GE681.out) | exact HB.out)) hb); clear HO686; clear HO689; clear HO692; clear HO695; clear HO698; clear HO701; clear HO708; clear HO711; clear HO714; clear HO717; clear HO724; clear HO727; clear HO730; clear HO733; clear BK681; clear HB; have HO686 := n0_; have HO689 := n1_; have HO692 := n2_; have HO695 := n3_; have HO698 := n4_; have HO701 := n5_; have HO708 := n6_; have HO711 := n7_; have HO714 := n8_; have HO717 := n9_; have HO724 := n10_; have HO727 := n11_; have HO730 := n12_; have HO733 := n13_; have HO740 := n14_; have HO743 := n15_; have HO746 := n16_; have HO749 := n17_; have BK681 := n18_; have HB := n19_; clear n0_ n1_ n2_ n3_ n4_ n5_ n6_ n7_ n8_ n9_ n10_ n11_ n12_ n13_ n14_ n15_ n16_ n17_ n18_ n19_; (try clear hb); (try clear hb2); (try clear hk); (try clear hi); (try clear ho0); (try clear ho1); (try clear ho2); (try clear ho3); obtain ⟨Ao40, co40, eo40⟩ := Kd.R_slice HO740.out; subst eo40; obtain ⟨Ao41, co41, eo41⟩ := Kd.R_slice HO743.out; subst eo41; obtain ⟨Ao42, co42, eo42⟩ := Kd.R_slice HO746.out; subst eo42; obtain ⟨Ao43, co43, eo43⟩ := Kd.R_slice HO749.out; subst eo43) | ((with_reducible refine gate_callee (f := 31) rfl ?_); refine goesL_ (some 52) rfl rfl Try.func31 (by kernel_rfl) rfl #[.agg #[.int .i64 t736, .int .i64 t737, .slice Ao40 t738.length co40, .slice Ao41 t741.length co41, .slice Ao42 t744.length co42, .slice Ao43 t747.length co43], .int .i64 a1, .slice A2 l2.length c2] rfl (by (try simp only [List.map_toArray, List.map_cons, List.map_nil]); first | done | rfl | (simp only [List.length_drop, List.length_take]; rfl)) ?_; (with_reducible refine (wax_Energy.calls k t736 t737 _ _ t738 _ _ t741 _ _ t744 _ _ t747 a1 _ _ l2 t750 t751 _ ?side1 ?side2 ?side3 ?side4 ?side5 ?side6 ?side7 ?side8 ?side9 ?side10 A12.out).mono ?_); (case side1 => repeat (first | exact (Kd.R_reads' HO740.out).2.2 | (with_reducible refine Kd.C_alloc ?_ _) | (with_reducible refine Kd.C_drewN ?_ _) | (with_reducible refine Kd.C_drew ?_))); (case side2 => exact (Kd.R_reads' HO740.out).2.1); (case side3 => repeat (first | exact (Kd.R_reads' HO743.out).2.2 | (with_reducible refine Kd.C_alloc ?_ _) | (with_reducible refine Kd.C_drewN ?_ _) | (with_reducible refine Kd.C_drew ?_))); (case side4 => exact (Kd.R_reads' HO743.out).2.1); (case side5 => repeat (first | exact (Kd.R_reads' HO746.out).2.2 | (with_reducible refine Kd.C_alloc ?_ _) | (with_reducible refine Kd.C_drewN ?_ _) | (with_reducible refine Kd.C_drew ?_))); (case side6 => exact (Kd.R_reads' HO746.out).2.1); (case side7 => repeat (first | exact (Kd.R_reads' HO749.out).2.2 | (with_reducible refine Kd.C_alloc ?_ _) | (with_reducible refine Kd.C_drewN ?_ _) | (with_reducible refine Kd.C_drew ?_))); (case side8 => exact (Kd.R_reads' HO749.out).2.1); (case side9 => repeat (first | exact (Kd.C_below HR2.out HB.out) | (with_reducible refine Kd.C_alloc ?_ _) | (with_reducible refine Kd.C_drewN ?_ _) | (with_reducible refine Kd.C_drew ?_))); (case side10 => exact HC2.out); rintro e w44 ⟨rfl, hb⟩; refine ⟨_, rfl, ?_⟩; have n0_ := Aside0.mk (Kd.R_below (by (with_reducible repeat (first | apply Kd.R_alloc | apply Kd.R_drewN | apply Kd.R_drew)); exact HO686.out) hb); have n1_ := Aside0.mk (Kd.R_below (by (with_reducible repeat (first | apply Kd.R_alloc | apply Kd.R_drewN | apply Kd.R_drew)); exact HO689.out) hb); have n2_ := Aside0.mk (Kd.R_below (by (with_reducible repeat (first | apply Kd.R_alloc | apply Kd.R_drewN | apply Kd.R_drew)); exact HO692.out) hb); have n3_ := Aside0.mk (Kd.R_below (by (with_reducible repeat (first | apply Kd.R_alloc | apply Kd.R_drewN | apply Kd.R_drew)); exact HO695.out) hb); have n4_ := Aside0.mk (Kv.R_below (by (with_reducible repeat (first | apply Kv.R_alloc | apply Kv.R_drewN | apply Kv.R_drew)); exact HO698.out) hb); have n5_ := Aside0.mk (Kv.R_below (by (with_reducible repeat (first | apply Kv.R_alloc | apply Kv.R_drewN | apply Kv.R_drew)); exact HO701.out) hb); have n6_ := Aside0.mk (Kd.R_below (by (with_reducible repeat (first | apply Kd.R_alloc | apply Kd.R_drewN | apply Kd.R_drew)); exact HO708.out) hb); have n7_ := Aside0.mk (Kd.R_below (by (with_reducible repeat (first | apply Kd.R_alloc | apply Kd.R_drewN | apply Kd.R_drew)); exact HO711.out) hb); have n8_ := Aside0.mk (Kd.R_below (by (with_reducible repeat (first | apply Kd.R_alloc | apply Kd.R_drewN | apply Kd.R_drew)); exact HO714.out) hb); have n9_ := Aside0.mk (Kd.R_below (by (with_reducible repeat (first | apply Kd.R_alloc | apply Kd.R_drewN | apply Kd.R_drew)); exact HO717.out) hb); have n10_ := Aside0.mk (Kd.R_below (by (with_reducible repeat (first | apply Kd.R_alloc | apply Kd.R_drewN | apply Kd.R_drew)); exact HO724.out) hb); have n11_ := Aside0.mk (Kd.R_below (by (with_reducible repeat (first | apply Kd.R_alloc | apply Kd.R_drewN | apply Kd.R_drew)); exact HO727.out) hb); have n12_ := Aside0.mk (Kd.R_below (by (with_reducible repeat (first | apply Kd.R_alloc | apply Kd.R_drewN | apply Kd.R_drew)); exact HO730.out) hb); have n13_ := Aside0.mk (Kd.R_below (by (with_reducible repeat (first | apply Kd.R_alloc | apply Kd.R_drewN | apply Kd.R_drew)); exact HO733.out) hb); have n14_ := Aside0.mk (Kd.R_below (by (with_reducible repeat (first | apply Kd.R_alloc | apply Kd.R_drewN | apply Kd.R_drew)); exact HO740.out) hb); have n15_ := Aside0.mk (Kd.R_below (by (with_reducible repeat (first | apply Kd.R_alloc | apply Kd.R_drewN | apply Kd.R_drew)); exact HO743.out) hb); have n16_ := Aside0.mk (Kd.R_below (by (with_reducible repeat (first | apply Kd.R_alloc | apply Kd.R_drewN | apply Kd.R_drew)); exact HO746.out) hb); have n17_ := Aside0.mk (Kd.R_below (by (with_reducible repeat (first | apply Kd.R_alloc | apply Kd.R_drewN | apply Kd.R_drew)); exact HO749.out) hb); have n18_ := Aside0.mk (blk_below (g := gb681) (o := .cells #[.int .i64 a0_0, .int .i64 a0_1, .slice A0_2 l0_2.length c0_2, .slice A0_3 l0_3.length c0_3, .slice A0_4 l0_4.length c0_4, .slice A0_5 l0_5.length c0_5] 61 (0, 0)) (by (with_reducible repeat (first | refine blk_drewN ?_ _ | refine blk_drew ?_ | refine blk_alloc ?_ _)); exact BK681.out) hb); have n19_ := Aside0.mk (below_step (by repeat (first | (with_reducible first | exact HB.out | apply below_alloc | apply pw_below_drewN | apply below_drew1 | refine below_set ?_ GE681.out) | exact HB.out)) hb); clear HO686; clear HO689; clear HO692; clear HO695; clear HO698; clear HO701; clear HO708; clear HO711; clear HO714; clear HO717; clear HO724; clear HO727; clear HO730; clear HO733; clear HO740; clear HO743; clear HO746; clear HO749; clear BK681; clear HB; have HO686 := n0_; have HO689 := n1_; have HO692 := n2_; have HO695 := n3_; have HO698 := n4_; have HO701 := n5_; have HO708 := n6_; have HO711 := n7_; have HO714 := n8_; have HO717 := n9_; have HO724 := n10_; have HO727 := n11_; have HO730 := n12_; have HO733 := n13_; have HO740 := n14_; have HO743 := n15_; have HO746 := n16_; have HO749 := n17_; have BK681 := n18_; have HB := n19_; clear n0_ n1_ n2_ n3_ n4_ n5_ n6_ n7_ n8_ n9_ n10_ n11_ n12_ n13_ n14_ n15_ n16_ n17_ n18_ n19_; (try clear hb); (try clear hb2); (try clear hk); (try clear hi)))
    (try simp only [Act.put, List.setIfInBounds_toArray, List.set_cons_zero, List.set_cons_succ])
    go_cut [65] (fun v65 wc => ∃ (kq : Nat) (x65_12 : Bool), v65 = .bool x65_12 ∧ Aside0 (cantinglaw07_WaxCheapest.j0 kq l2 t696 t699 t718 t750 t751 x65_12 = some r) ∧ Aside0 (kq ≤ k) ∧ Aside0 (Kv.R wc w.heap.size (fun k_ => some k_ ≠ ((.slice Ao36 t699.length co36) : Value).ownBlock) (.slice Ao28 t696.length co28) t696) ∧ Aside0 (Kv.R wc w.heap.size (fun k_ => some k_ ≠ ((.slice Ao28 t696.length co28) : Value).ownBlock) (.slice Ao36 t699.length co36) t699) ∧ Aside0 (wc.heap[gb681]? = some (.cells #[.int .i64 a0_0, .int .i64 a0_1, (.slice A0_2 l0_2.length c0_2), (.slice A0_3 l0_3.length c0_3), (.slice A0_4 l0_4.length c0_4), (.slice A0_5 l0_5.length c0_5)] 61 (0, 0))) ∧ Aside0 (Below w.heap.size w wc))
    case first =>
      have H := HC13.out
      clear HC13
      by_cases c45 : t719 = 0
      · rw [if_pos c45] at H
        have c45b0 : (t719 == 0) = true := beq_iff_eq.mpr c45
        have c45b1 : (t719 != 0) = false := bne_eq_false_iff_eq.mpr c45
        clear c45
        (first | rw [c45b0] | (simp only [i64_w, i32_w]; rw [c45b0]) | skip)
        by_cases c46 : t735 = 0
        · rw [if_pos c46] at H
          have c46b0 : (t735 == 0) = true := beq_iff_eq.mpr c46
          have c46b1 : (t735 != 0) = false := bne_eq_false_iff_eq.mpr c46
          clear c46
          have H' := Aside0.mk H
          clear H
          go_wp2
          go_meet
          case rel => exact ⟨_, ((t718 != t734)), (by first | rfl | (simp; done) | (simp [*]; done)), H', ⟨by first | omega | exact Nat.le_refl _⟩, ⟨by (with_reducible repeat (first | apply Kv.R_alloc | apply Kv.R_drewN | apply Kv.R_drew)); exact HO698.out⟩, ⟨by (with_reducible repeat (first | apply Kv.R_alloc | apply Kv.R_drewN | apply Kv.R_drew)); exact HO701.out⟩, ⟨by (with_reducible repeat (first | refine blk_drewN ?_ _ | refine blk_drew ?_ | refine blk_alloc ?_ _)); exact BK681.out⟩, ⟨by repeat (first | (with_reducible first | exact HB.out | apply below_alloc | apply pw_below_drewN | apply below_drew1 | refine below_set ?_ GE681.out) | exact HB.out)⟩⟩
        · rw [if_neg c46] at H
          have c46b0 : (t735 == 0) = false := beq_eq_false_iff_ne.mpr c46
          have c46b1 : (t735 != 0) = true := bne_iff_ne.mpr c46
          have H' := Aside0.mk H
          clear H
          go_wp2
          go_meet
          case rel => exact ⟨_, (true), (by first | rfl | (simp; done) | (simp [*]; done)), H', ⟨by first | omega | exact Nat.le_refl _⟩, ⟨by (with_reducible repeat (first | apply Kv.R_alloc | apply Kv.R_drewN | apply Kv.R_drew)); exact HO698.out⟩, ⟨by (with_reducible repeat (first | apply Kv.R_alloc | apply Kv.R_drewN | apply Kv.R_drew)); exact HO701.out⟩, ⟨by (with_reducible repeat (first | refine blk_drewN ?_ _ | refine blk_drew ?_ | refine blk_alloc ?_ _)); exact BK681.out⟩, ⟨by repeat (first | (with_reducible first | exact HB.out | apply below_alloc | apply pw_below_drewN | apply below_drew1 | refine below_set ?_ GE681.out) | exact HB.out)⟩⟩
      · rw [if_neg c45] at H
        have c45b0 : (t719 == 0) = false := beq_eq_false_iff_ne.mpr c45
        have c45b1 : (t719 != 0) = true := bne_iff_ne.mpr c45
        (first | rw [c45b0] | (simp only [i64_w, i32_w]; rw [c45b0]) | skip)
        have H' := Aside0.mk H
        clear H
        go_wp2
        go_meet
        case rel => exact ⟨_, (true), (by first | rfl | (simp; done) | (simp [*]; done)), H', ⟨by first | omega | exact Nat.le_refl _⟩, ⟨by (with_reducible repeat (first | apply Kv.R_alloc | apply Kv.R_drewN | apply Kv.R_drew)); exact HO698.out⟩, ⟨by (with_reducible repeat (first | apply Kv.R_alloc | apply Kv.R_drewN | apply Kv.R_drew)); exact HO701.out⟩, ⟨by (with_reducible repeat (first | refine blk_drewN ?_ _ | refine blk_drew ?_ | refine blk_alloc ?_ _)); exact BK681.out⟩, ⟨by repeat (first | (with_reducible first | exact HB.out | apply below_alloc | apply pw_below_drewN | apply below_drew1 | refine below_set ?_ GE681.out) | exact HB.out)⟩⟩
    case rest =>
      clear HC13
      try clear c1
      try clear c2
      try clear p2
      try clear c3
      try clear c4
      try clear c6
      try clear c6b0
      try clear c6b1
      try clear c12
      try clear c31
      try clear c32
      try clear c41
      try clear c45
      try clear c45b0
      try clear c45b1
      try clear c46
      try clear c46b0
      try clear c46b1
      try clear hcz15_0
      try clear hcz15_1
      try clear hcz15_2
      try clear hcz15_3
      try clear hcz15_4
      try clear hcz15_5
      try clear hcz22_0
      try clear hcz22_1
      try clear hcz22_2
      try clear hcz22_3
      try clear hcz22_4
      try clear hcz22_5
      try clear hcz30_0
      try clear hcz30_1
      try clear hcz30_2
      try clear hcz30_3
      try clear hcz30_4
      try clear hcz30_5
      try clear hcz38_0
      try clear hcz38_1
      try clear hcz38_2
      try clear hcz38_3
      try clear hcz38_4
      try clear hcz38_5
      try clear hfz15_0
      try clear hfz15_1
      try clear hfz15_2
      try clear hfz15_3
      try clear hfz15_4
      try clear hfz15_5
      try clear hfz22_0
      try clear hfz22_1
      try clear hfz22_2
      try clear hfz22_3
      try clear hfz22_4
      try clear hfz22_5
      try clear hfz30_0
      try clear hfz30_1
      try clear hfz30_2
      try clear hfz30_3
      try clear hfz30_4
      try clear hfz30_5
      try clear hfz38_0
      try clear hfz38_1
      try clear hfz38_2
      try clear hfz38_3
      try clear hfz38_4
      try clear hfz38_5
      obtain ⟨kq, x65_12, rfl, HA, HJ12, HO_7, HO_8, BK681, HB⟩ := hcut
      cases kq with
      | zero => exact absurd HA.out (by simp [cantinglaw07_WaxCheapest.j0])
      | succ kj12 =>
        have H := HA.out
        clear HA
        simp only [cantinglaw07_WaxCheapest.j0] at H
        by_cases c47 : x65_12 = true
        · subst c47
          have H1 : (some false) = some r := by rw [if_pos rfl] at H; exact H
          clear H
          have H := H1
          clear H1
          obtain rfl := Option.some.inj H
          go_wp2
          go_ret
          exact ⟨by first | rfl | (simp [errW_none, errW_some] <;> rfl) | (simp [*, errW_none, errW_some] <;> rfl), by repeat (first | (with_reducible first | exact HB.out | apply below_alloc | apply pw_below_drewN | apply below_drew1 | refine below_set ?_ GE681.out) | exact HB.out)⟩
        · replace c47 := Bool.eq_false_iff.mpr c47
          subst c47
          have H1 : (if t751 = 0 then (if t750 > t718 then ((cantinglaw07_awake.f).bind fun t752 => (some t752)) else (if t750 = t718 then ((cantinglaw07_between.f kj12 t696 l2 t699).bind fun t753 => (if t753 = true then ((cantinglaw07_awake.f).bind fun t754 => (some t754)) else (some false))) else (some false))) else ((cantinglaw07_awake.f).bind fun t755 => (some t755))) = some r := by rw [if_neg (show ¬ (false = true) by decide)] at H; exact H
          clear H
          have H := H1
          clear H1
          by_cases c48 : t751 = 0
          · rw [if_pos c48] at H
            have c48b0 : (t751 == 0) = true := beq_iff_eq.mpr c48
            have c48b1 : (t751 != 0) = false := bne_eq_false_iff_eq.mpr c48
            clear c48
            by_cases c49 : t750 > t718
            · rw [if_pos c49] at H
              have c49b0 : decide (t718 < t750) = true := decide_eq_true c49
              clear c49
              replace H := Option.bind_eq_some_iff.mp H
              obtain ⟨t752, A500, H⟩ := H
              replace H : (some t752) = some r := H
              have A50 := Aside0.mk A500
              clear A500
              obtain rfl := Option.some.inj H
              go_wp2_with (first | (go_at_call 18; (with_reducible refine (cantinglaw07_awake.calls  t752 _ A50.out).mono ?_); rintro e w51 ⟨rfl, hb⟩; have n0_ := Aside0.mk (Kv.R_below (by (with_reducible repeat (first | apply Kv.R_alloc | apply Kv.R_drewN | apply Kv.R_drew)); exact HO_7.out) hb); have n1_ := Aside0.mk (Kv.R_below (by (with_reducible repeat (first | apply Kv.R_alloc | apply Kv.R_drewN | apply Kv.R_drew)); exact HO_8.out) hb); have n2_ := Aside0.mk (blk_below (g := gb681) (o := .cells #[.int .i64 a0_0, .int .i64 a0_1, .slice A0_2 l0_2.length c0_2, .slice A0_3 l0_3.length c0_3, .slice A0_4 l0_4.length c0_4, .slice A0_5 l0_5.length c0_5] 61 (0, 0)) (by (with_reducible repeat (first | refine blk_drewN ?_ _ | refine blk_drew ?_ | refine blk_alloc ?_ _)); exact BK681.out) hb); have n3_ := Aside0.mk (below_step (by repeat (first | (with_reducible first | exact HB.out | apply below_alloc | apply pw_below_drewN | apply below_drew1 | refine below_set ?_ GE681.out) | exact HB.out)) hb); clear HO_7; clear HO_8; clear BK681; clear HB; have HO_7 := n0_; have HO_8 := n1_; have BK681 := n2_; have HB := n3_; clear n0_ n1_ n2_ n3_; (try clear hb); (try clear hb2); (try clear hk); (try clear hi)))
              go_ret
              exact ⟨by first | rfl | (simp [errW_none, errW_some] <;> rfl) | (simp [*, errW_none, errW_some] <;> rfl), by repeat (first | (with_reducible first | exact HB.out | apply below_alloc | apply pw_below_drewN | apply below_drew1 | refine below_set ?_ GE681.out) | exact HB.out)⟩
            · rw [if_neg c49] at H
              have c49b0 : decide (t718 < t750) = false := decide_eq_false c49
              clear c49
              by_cases c52 : t750 = t718
              · rw [if_pos c52] at H
                have c52b0 : (t750 == t718) = true := beq_iff_eq.mpr c52
                have c52b1 : (t750 != t718) = false := bne_eq_false_iff_eq.mpr c52
                clear c52
                replace H := Option.bind_eq_some_iff.mp H
                obtain ⟨t753, A530, H⟩ := H
                replace H : (if t753 = true then ((cantinglaw07_awake.f).bind fun t754 => (some t754)) else (some false)) = some r := H
                have A53 := Aside0.mk A530
                clear A530
                by_cases c54 : t753 = true
                · subst c54
                  have H1 : ((cantinglaw07_awake.f).bind fun t754 => (some t754)) = some r := by rw [if_pos rfl] at H; exact H
                  clear H
                  have H := H1
                  clear H1
                  replace H := Option.bind_eq_some_iff.mp H
                  obtain ⟨t754, A550, H⟩ := H
                  replace H : (some t754) = some r := H
                  have A55 := Aside0.mk A550
                  clear A550
                  obtain rfl := Option.some.inj H
                  go_wp2_with (first | (go_at_call 36; (with_reducible refine (cantinglaw07_between.calls kj12 _ _ t696 _ _ l2 _ _ t699 true _ ?side1 ?side2 ?side3 ?side4 ?side5 ?side6 A53.out).mono ?_); (case side1 => repeat (first | exact (Kv.R_reads' HO_7.out).2.2 | (with_reducible refine Kd.C_alloc ?_ _) | (with_reducible refine Kd.C_drewN ?_ _) | (with_reducible refine Kd.C_drew ?_))); (case side2 => exact (Kv.R_reads' HO_7.out).2.1); (case side3 => repeat (first | exact (Kd.C_below HR2.out HB.out) | (with_reducible refine Kd.C_alloc ?_ _) | (with_reducible refine Kd.C_drewN ?_ _) | (with_reducible refine Kd.C_drew ?_))); (case side4 => exact HC2.out); (case side5 => repeat (first | exact (Kv.R_reads' HO_8.out).2.2 | (with_reducible refine Kd.C_alloc ?_ _) | (with_reducible refine Kd.C_drewN ?_ _) | (with_reducible refine Kd.C_drew ?_))); (case side6 => exact (Kv.R_reads' HO_8.out).2.1); rintro e w' ⟨rfl, ⟨nd, rfl⟩⟩) | (go_at_call 18; (with_reducible refine (cantinglaw07_awake.calls  t754 _ A55.out).mono ?_); rintro e w56 ⟨rfl, hb⟩; have n0_ := Aside0.mk (Kv.R_below (by (with_reducible repeat (first | apply Kv.R_alloc | apply Kv.R_drewN | apply Kv.R_drew)); exact HO_7.out) hb); have n1_ := Aside0.mk (Kv.R_below (by (with_reducible repeat (first | apply Kv.R_alloc | apply Kv.R_drewN | apply Kv.R_drew)); exact HO_8.out) hb); have n2_ := Aside0.mk (blk_below (g := gb681) (o := .cells #[.int .i64 a0_0, .int .i64 a0_1, .slice A0_2 l0_2.length c0_2, .slice A0_3 l0_3.length c0_3, .slice A0_4 l0_4.length c0_4, .slice A0_5 l0_5.length c0_5] 61 (0, 0)) (by (with_reducible repeat (first | refine blk_drewN ?_ _ | refine blk_drew ?_ | refine blk_alloc ?_ _)); exact BK681.out) hb); have n3_ := Aside0.mk (below_step (by repeat (first | (with_reducible first | exact HB.out | apply below_alloc | apply pw_below_drewN | apply below_drew1 | refine below_set ?_ GE681.out) | exact HB.out)) hb); clear HO_7; clear HO_8; clear BK681; clear HB; have HO_7 := n0_; have HO_8 := n1_; have BK681 := n2_; have HB := n3_; clear n0_ n1_ n2_ n3_; (try clear hb); (try clear hb2); (try clear hk); (try clear hi)))
                  go_ret
                  exact ⟨by first | rfl | (simp [errW_none, errW_some] <;> rfl) | (simp [*, errW_none, errW_some] <;> rfl), by repeat (first | (with_reducible first | exact HB.out | apply below_alloc | apply pw_below_drewN | apply below_drew1 | refine below_set ?_ GE681.out) | exact HB.out)⟩
                · replace c54 := Bool.eq_false_iff.mpr c54
                  subst c54
                  have H1 : (some false) = some r := by rw [if_neg (show ¬ (false = true) by decide)] at H; exact H
                  clear H
                  have H := H1
                  clear H1
                  obtain rfl := Option.some.inj H
                  go_wp2_with (first | (go_at_call 36; (with_reducible refine (cantinglaw07_between.calls kj12 _ _ t696 _ _ l2 _ _ t699 false _ ?side1 ?side2 ?side3 ?side4 ?side5 ?side6 A53.out).mono ?_); (case side1 => repeat (first | exact (Kv.R_reads' HO_7.out).2.2 | (with_reducible refine Kd.C_alloc ?_ _) | (with_reducible refine Kd.C_drewN ?_ _) | (with_reducible refine Kd.C_drew ?_))); (case side2 => exact (Kv.R_reads' HO_7.out).2.1); (case side3 => repeat (first | exact (Kd.C_below HR2.out HB.out) | (with_reducible refine Kd.C_alloc ?_ _) | (with_reducible refine Kd.C_drewN ?_ _) | (with_reducible refine Kd.C_drew ?_))); (case side4 => exact HC2.out); (case side5 => repeat (first | exact (Kv.R_reads' HO_8.out).2.2 | (with_reducible refine Kd.C_alloc ?_ _) | (with_reducible refine Kd.C_drewN ?_ _) | (with_reducible refine Kd.C_drew ?_))); (case side6 => exact (Kv.R_reads' HO_8.out).2.1); rintro e w' ⟨rfl, ⟨nd, rfl⟩⟩))
                  go_ret
                  exact ⟨by first | rfl | (simp [errW_none, errW_some] <;> rfl) | (simp [*, errW_none, errW_some] <;> rfl), by repeat (first | (with_reducible first | exact HB.out | apply below_alloc | apply pw_below_drewN | apply below_drew1 | refine below_set ?_ GE681.out) | exact HB.out)⟩
              · rw [if_neg c52] at H
                have c52b0 : (t750 == t718) = false := beq_eq_false_iff_ne.mpr c52
                have c52b1 : (t750 != t718) = true := bne_iff_ne.mpr c52
                obtain rfl := Option.some.inj H
                go_wp2
                go_ret
                exact ⟨by first | rfl | (simp [errW_none, errW_some] <;> rfl) | (simp [*, errW_none, errW_some] <;> rfl), by repeat (first | (with_reducible first | exact HB.out | apply below_alloc | apply pw_below_drewN | apply below_drew1 | refine below_set ?_ GE681.out) | exact HB.out)⟩
          · rw [if_neg c48] at H
            have c48b0 : (t751 == 0) = false := beq_eq_false_iff_ne.mpr c48
            have c48b1 : (t751 != 0) = true := bne_iff_ne.mpr c48
            replace H := Option.bind_eq_some_iff.mp H
            obtain ⟨t755, A570, H⟩ := H
            replace H : (some t755) = some r := H
            have A57 := Aside0.mk A570
            clear A570
            obtain rfl := Option.some.inj H
            go_wp2_with (first | (go_at_call 18; (with_reducible refine (cantinglaw07_awake.calls  t755 _ A57.out).mono ?_); rintro e w58 ⟨rfl, hb⟩; have n0_ := Aside0.mk (Kv.R_below (by (with_reducible repeat (first | apply Kv.R_alloc | apply Kv.R_drewN | apply Kv.R_drew)); exact HO_7.out) hb); have n1_ := Aside0.mk (Kv.R_below (by (with_reducible repeat (first | apply Kv.R_alloc | apply Kv.R_drewN | apply Kv.R_drew)); exact HO_8.out) hb); have n2_ := Aside0.mk (blk_below (g := gb681) (o := .cells #[.int .i64 a0_0, .int .i64 a0_1, .slice A0_2 l0_2.length c0_2, .slice A0_3 l0_3.length c0_3, .slice A0_4 l0_4.length c0_4, .slice A0_5 l0_5.length c0_5] 61 (0, 0)) (by (with_reducible repeat (first | refine blk_drewN ?_ _ | refine blk_drew ?_ | refine blk_alloc ?_ _)); exact BK681.out) hb); have n3_ := Aside0.mk (below_step (by repeat (first | (with_reducible first | exact HB.out | apply below_alloc | apply pw_below_drewN | apply below_drew1 | refine below_set ?_ GE681.out) | exact HB.out)) hb); clear HO_7; clear HO_8; clear BK681; clear HB; have HO_7 := n0_; have HO_8 := n1_; have BK681 := n2_; have HB := n3_; clear n0_ n1_ n2_ n3_; (try clear hb); (try clear hb2); (try clear hk); (try clear hi)))
            go_ret
            exact ⟨by first | rfl | (simp [errW_none, errW_some] <;> rfl) | (simp [*, errW_none, errW_some] <;> rfl), by repeat (first | (with_reducible first | exact HB.out | apply below_alloc | apply pw_below_drewN | apply below_drew1 | refine below_set ?_ GE681.out) | exact HB.out)⟩
  · rw [if_neg c6] at H
    have c6b0 : (t702 == 0) = false := beq_eq_false_iff_ne.mpr c6
    have c6b1 : (t702 != 0) = true := bne_iff_ne.mpr c6
    by_cases c59 : t702 = 2
    · rw [if_pos c59] at H
      have c59b0 : (t702 == 2) = true := beq_iff_eq.mpr c59
      have c59b1 : (t702 != 2) = false := bne_eq_false_iff_eq.mpr c59
      clear c59
      replace H := Option.bind_eq_some_iff.mp H
      obtain ⟨t703, A600, H⟩ := H
      replace H : (some t703) = some r := H
      have A60 := Aside0.mk A600
      clear A600
      obtain rfl := Option.some.inj H
      go_enter Try.func12, Try.ntmps12
      go_wp2_with (first | ((with_reducible refine gate_dst (N := 3) rfl ?_); refine box_event ?hg (N := 3) ?hd (cs := #[.int .i64 a0_0, .int .i64 a0_1, .slice A0_2 l0_2.length c0_2, .slice A0_3 l0_3.length c0_3, .slice A0_4 l0_4.length c0_4, .slice A0_5 l0_5.length c0_5]) (t := 61) ?hr ?_; (case hd => rfl); (case hg => rfl); (case hr => first | (go_simp; done) | (go_simp; rfl)); intro gb681 hg w61 hbox hb; have n0_ := Aside0.mk (below_step (by repeat (first | (with_reducible first | exact HB.out | apply below_alloc | apply pw_below_drewN | apply below_drew1) | exact HB.out)) hb); have n1_ := Aside0.mk (hbox); have n2_ := Aside0.mk ((by rw [hg]; exact (below_size (by repeat (first | (with_reducible first | exact HB.out | apply below_alloc | apply pw_below_drewN | apply below_drew1) | exact HB.out))) : w.heap.size ≤ gb681)); have n3_ := Aside0.mk ((by rw [hg]; exact (below_size (by repeat (first | (with_reducible first | exact HB.out | apply below_alloc | apply pw_below_drewN | apply below_drew1) | exact HB.out))) : w.heap.size ≤ gb681)); clear HB; have HB := n0_; have BK681 := n1_; have GW681 := n2_; have GE681 := n3_; clear n0_ n1_ n2_ n3_; clear hb hbox hg; have hcz62_0 : w61.cell? ⟨gb681, 0, none⟩ = some (.int .i64 a0_0) := (blk_cell BK681.out 0).trans rfl; have hcz62_1 : w61.cell? ⟨gb681, 1, none⟩ = some (.int .i64 a0_1) := (blk_cell BK681.out 1).trans rfl; have hcz62_2 : w61.cell? ⟨gb681, 2, none⟩ = some (.slice A0_2 l0_2.length c0_2) := (blk_cell BK681.out 2).trans rfl; have hcz62_3 : w61.cell? ⟨gb681, 3, none⟩ = some (.slice A0_3 l0_3.length c0_3) := (blk_cell BK681.out 3).trans rfl; have hcz62_4 : w61.cell? ⟨gb681, 4, none⟩ = some (.slice A0_4 l0_4.length c0_4) := (blk_cell BK681.out 4).trans rfl; have hcz62_5 : w61.cell? ⟨gb681, 5, none⟩ = some (.slice A0_5 l0_5.length c0_5) := (blk_cell BK681.out 5).trans rfl; have hfz62_0 := blk_frozen BK681.out 0; have hfz62_1 := blk_frozen BK681.out 1; have hfz62_2 := blk_frozen BK681.out 2; have hfz62_3 := blk_frozen BK681.out 3; have hfz62_4 := blk_frozen BK681.out 4; have hfz62_5 := blk_frozen BK681.out 5) | ((with_reducible refine gate_callee (f := 32) rfl ?_); refine goesL_ (some 18) rfl rfl Try.func32 (by kernel_rfl) rfl #[.agg #[.int .i64 a0_0, .int .i64 a0_1, .slice A0_2 l0_2.length c0_2, .slice A0_3 l0_3.length c0_3, .slice A0_4 l0_4.length c0_4, .slice A0_5 l0_5.length c0_5]] rfl (by (try simp only [List.map_toArray, List.map_cons, List.map_nil]); first | done | rfl | (simp only [List.length_drop, List.length_take]; rfl)) ?_; (with_reducible refine (cantinglaw07_cloth.calls a0_0 a0_1 _ _ l0_2 _ _ l0_3 _ _ l0_4 _ _ l0_5 t682 t683 t684 t687 t690 t693 _ ?side1 ?side2 ?side3 ?side4 ?side5 ?side6 ?side7 ?side8 A4.out).mono ?_); (case side1 => repeat (first | exact (Kd.C_below HR0_2.out HB.out) | (with_reducible refine Kd.C_alloc ?_ _) | (with_reducible refine Kd.C_drewN ?_ _) | (with_reducible refine Kd.C_drew ?_))); (case side2 => exact HC0_2.out); (case side3 => repeat (first | exact (Kd.C_below HR0_3.out HB.out) | (with_reducible refine Kd.C_alloc ?_ _) | (with_reducible refine Kd.C_drewN ?_ _) | (with_reducible refine Kd.C_drew ?_))); (case side4 => exact HC0_3.out); (case side5 => repeat (first | exact (Kd.C_below HR0_4.out HB.out) | (with_reducible refine Kd.C_alloc ?_ _) | (with_reducible refine Kd.C_drewN ?_ _) | (with_reducible refine Kd.C_drew ?_))); (case side6 => exact HC0_4.out); (case side7 => repeat (first | exact (Kd.C_below HR0_5.out HB.out) | (with_reducible refine Kd.C_alloc ?_ _) | (with_reducible refine Kd.C_drewN ?_ _) | (with_reducible refine Kd.C_drew ?_))); (case side8 => exact HC0_5.out); rintro e w63 ⟨v685, v688, v691, v694, rfl, ho0, ho1, ho2, ho3, hb⟩; refine ⟨_, rfl, ?_⟩; have n0_ := Aside0.mk (Kd.R_lower ho0 (below_size (by repeat (first | (with_reducible first | exact HB.out | apply below_alloc | apply pw_below_drewN | apply below_drew1 | refine below_set ?_ GE681.out) | exact HB.out)))); have n1_ := Aside0.mk (Kd.R_lower ho1 (below_size (by repeat (first | (with_reducible first | exact HB.out | apply below_alloc | apply pw_below_drewN | apply below_drew1 | refine below_set ?_ GE681.out) | exact HB.out)))); have n2_ := Aside0.mk (Kd.R_lower ho2 (below_size (by repeat (first | (with_reducible first | exact HB.out | apply below_alloc | apply pw_below_drewN | apply below_drew1 | refine below_set ?_ GE681.out) | exact HB.out)))); have n3_ := Aside0.mk (Kd.R_lower ho3 (below_size (by repeat (first | (with_reducible first | exact HB.out | apply below_alloc | apply pw_below_drewN | apply below_drew1 | refine below_set ?_ GE681.out) | exact HB.out)))); have n4_ := Aside0.mk (blk_below (g := gb681) (o := .cells #[.int .i64 a0_0, .int .i64 a0_1, .slice A0_2 l0_2.length c0_2, .slice A0_3 l0_3.length c0_3, .slice A0_4 l0_4.length c0_4, .slice A0_5 l0_5.length c0_5] 61 (0, 0)) (by (with_reducible repeat (first | refine blk_drewN ?_ _ | refine blk_drew ?_ | refine blk_alloc ?_ _)); exact BK681.out) hb); have n5_ := Aside0.mk (below_step (by repeat (first | (with_reducible first | exact HB.out | apply below_alloc | apply pw_below_drewN | apply below_drew1 | refine below_set ?_ GE681.out) | exact HB.out)) hb); clear BK681; clear HB; have HO686 := n0_; have HO689 := n1_; have HO692 := n2_; have HO695 := n3_; have BK681 := n4_; have HB := n5_; clear n0_ n1_ n2_ n3_ n4_ n5_; (try clear hb); (try clear hb2); (try clear hk); (try clear hi); (try clear ho0); (try clear ho1); (try clear ho2); (try clear ho3); obtain ⟨Ao64, co64, eo64⟩ := Kd.R_slice HO686.out; subst eo64; obtain ⟨Ao65, co65, eo65⟩ := Kd.R_slice HO689.out; subst eo65; obtain ⟨Ao66, co66, eo66⟩ := Kd.R_slice HO692.out; subst eo66; obtain ⟨Ao67, co67, eo67⟩ := Kd.R_slice HO695.out; subst eo67) | ((with_reducible refine gate_callee (f := 41) rfl ?_); refine goesL_ (some 20) rfl rfl Try.func41 (by kernel_rfl) rfl #[.agg #[.int .i64 t682, .int .i64 t683, .slice Ao64 t684.length co64, .slice Ao65 t687.length co65, .slice Ao66 t690.length co66, .slice Ao67 t693.length co67], .int .i64 a1] rfl (by (try simp only [List.map_toArray, List.map_cons, List.map_nil]); first | done | rfl | (simp only [List.length_drop, List.length_take]; rfl)) ?_; (with_reducible refine (wax_Labels.calls t682 t683 _ _ t684 _ _ t687 _ _ t690 _ _ t693 a1 t696 t699 t702 _ ?side1 ?side2 ?side3 ?side4 ?side5 ?side6 ?side7 ?side8 A5.out).mono ?_); (case side1 => repeat (first | exact (Kd.R_reads' HO686.out).2.2 | (with_reducible refine Kd.C_alloc ?_ _) | (with_reducible refine Kd.C_drewN ?_ _) | (with_reducible refine Kd.C_drew ?_))); (case side2 => exact (Kd.R_reads' HO686.out).2.1); (case side3 => repeat (first | exact (Kd.R_reads' HO689.out).2.2 | (with_reducible refine Kd.C_alloc ?_ _) | (with_reducible refine Kd.C_drewN ?_ _) | (with_reducible refine Kd.C_drew ?_))); (case side4 => exact (Kd.R_reads' HO689.out).2.1); (case side5 => repeat (first | exact (Kd.R_reads' HO692.out).2.2 | (with_reducible refine Kd.C_alloc ?_ _) | (with_reducible refine Kd.C_drewN ?_ _) | (with_reducible refine Kd.C_drew ?_))); (case side6 => exact (Kd.R_reads' HO692.out).2.1); (case side7 => repeat (first | exact (Kd.R_reads' HO695.out).2.2 | (with_reducible refine Kd.C_alloc ?_ _) | (with_reducible refine Kd.C_drewN ?_ _) | (with_reducible refine Kd.C_drew ?_))); (case side8 => exact (Kd.R_reads' HO695.out).2.1); rintro e w68 ⟨v697, v700, rfl, ho0, ho1, hb⟩; refine ⟨_, rfl, ?_⟩; have n0_ := Aside0.mk (Kd.R_below (by (with_reducible repeat (first | apply Kd.R_alloc | apply Kd.R_drewN | apply Kd.R_drew)); exact HO686.out) hb); have n1_ := Aside0.mk (Kd.R_below (by (with_reducible repeat (first | apply Kd.R_alloc | apply Kd.R_drewN | apply Kd.R_drew)); exact HO689.out) hb); have n2_ := Aside0.mk (Kd.R_below (by (with_reducible repeat (first | apply Kd.R_alloc | apply Kd.R_drewN | apply Kd.R_drew)); exact HO692.out) hb); have n3_ := Aside0.mk (Kd.R_below (by (with_reducible repeat (first | apply Kd.R_alloc | apply Kd.R_drewN | apply Kd.R_drew)); exact HO695.out) hb); have n4_ := Aside0.mk (Kv.R_lower ho0 (below_size (by repeat (first | (with_reducible first | exact HB.out | apply below_alloc | apply pw_below_drewN | apply below_drew1 | refine below_set ?_ GE681.out) | exact HB.out)))); have n5_ := Aside0.mk (Kv.R_lower ho1 (below_size (by repeat (first | (with_reducible first | exact HB.out | apply below_alloc | apply pw_below_drewN | apply below_drew1 | refine below_set ?_ GE681.out) | exact HB.out)))); have n6_ := Aside0.mk (blk_below (g := gb681) (o := .cells #[.int .i64 a0_0, .int .i64 a0_1, .slice A0_2 l0_2.length c0_2, .slice A0_3 l0_3.length c0_3, .slice A0_4 l0_4.length c0_4, .slice A0_5 l0_5.length c0_5] 61 (0, 0)) (by (with_reducible repeat (first | refine blk_drewN ?_ _ | refine blk_drew ?_ | refine blk_alloc ?_ _)); exact BK681.out) hb); have n7_ := Aside0.mk (below_step (by repeat (first | (with_reducible first | exact HB.out | apply below_alloc | apply pw_below_drewN | apply below_drew1 | refine below_set ?_ GE681.out) | exact HB.out)) hb); clear HO686; clear HO689; clear HO692; clear HO695; clear BK681; clear HB; have HO686 := n0_; have HO689 := n1_; have HO692 := n2_; have HO695 := n3_; have HO698 := n4_; have HO701 := n5_; have BK681 := n6_; have HB := n7_; clear n0_ n1_ n2_ n3_ n4_ n5_ n6_ n7_; (try clear hb); (try clear hb2); (try clear hk); (try clear hi); (try clear ho0); (try clear ho1)) | (go_at_call 18; (with_reducible refine (cantinglaw07_awake.calls  t703 _ A60.out).mono ?_); rintro e w69 ⟨rfl, hb⟩; have n0_ := Aside0.mk (Kd.R_below (by (with_reducible repeat (first | apply Kd.R_alloc | apply Kd.R_drewN | apply Kd.R_drew)); exact HO686.out) hb); have n1_ := Aside0.mk (Kd.R_below (by (with_reducible repeat (first | apply Kd.R_alloc | apply Kd.R_drewN | apply Kd.R_drew)); exact HO689.out) hb); have n2_ := Aside0.mk (Kd.R_below (by (with_reducible repeat (first | apply Kd.R_alloc | apply Kd.R_drewN | apply Kd.R_drew)); exact HO692.out) hb); have n3_ := Aside0.mk (Kd.R_below (by (with_reducible repeat (first | apply Kd.R_alloc | apply Kd.R_drewN | apply Kd.R_drew)); exact HO695.out) hb); have n4_ := Aside0.mk (Kv.R_below (by (with_reducible repeat (first | apply Kv.R_alloc | apply Kv.R_drewN | apply Kv.R_drew)); exact HO698.out) hb); have n5_ := Aside0.mk (Kv.R_below (by (with_reducible repeat (first | apply Kv.R_alloc | apply Kv.R_drewN | apply Kv.R_drew)); exact HO701.out) hb); have n6_ := Aside0.mk (blk_below (g := gb681) (o := .cells #[.int .i64 a0_0, .int .i64 a0_1, .slice A0_2 l0_2.length c0_2, .slice A0_3 l0_3.length c0_3, .slice A0_4 l0_4.length c0_4, .slice A0_5 l0_5.length c0_5] 61 (0, 0)) (by (with_reducible repeat (first | refine blk_drewN ?_ _ | refine blk_drew ?_ | refine blk_alloc ?_ _)); exact BK681.out) hb); have n7_ := Aside0.mk (below_step (by repeat (first | (with_reducible first | exact HB.out | apply below_alloc | apply pw_below_drewN | apply below_drew1 | refine below_set ?_ GE681.out) | exact HB.out)) hb); clear HO686; clear HO689; clear HO692; clear HO695; clear HO698; clear HO701; clear BK681; clear HB; have HO686 := n0_; have HO689 := n1_; have HO692 := n2_; have HO695 := n3_; have HO698 := n4_; have HO701 := n5_; have BK681 := n6_; have HB := n7_; clear n0_ n1_ n2_ n3_ n4_ n5_ n6_ n7_; (try clear hb); (try clear hb2); (try clear hk); (try clear hi)))
      go_ret
      exact ⟨by first | rfl | (simp [errW_none, errW_some] <;> rfl) | (simp [*, errW_none, errW_some] <;> rfl), by repeat (first | (with_reducible first | exact HB.out | apply below_alloc | apply pw_below_drewN | apply below_drew1 | refine below_set ?_ GE681.out) | exact HB.out)⟩
    · rw [if_neg c59] at H
      have c59b0 : (t702 == 2) = false := beq_eq_false_iff_ne.mpr c59
      have c59b1 : (t702 != 2) = true := bne_iff_ne.mpr c59
      obtain rfl := Option.some.inj H
      go_enter Try.func12, Try.ntmps12
      go_wp2_with (first | ((with_reducible refine gate_dst (N := 3) rfl ?_); refine box_event ?hg (N := 3) ?hd (cs := #[.int .i64 a0_0, .int .i64 a0_1, .slice A0_2 l0_2.length c0_2, .slice A0_3 l0_3.length c0_3, .slice A0_4 l0_4.length c0_4, .slice A0_5 l0_5.length c0_5]) (t := 61) ?hr ?_; (case hd => rfl); (case hg => rfl); (case hr => first | (go_simp; done) | (go_simp; rfl)); intro gb681 hg w70 hbox hb; have n0_ := Aside0.mk (below_step (by repeat (first | (with_reducible first | exact HB.out | apply below_alloc | apply pw_below_drewN | apply below_drew1) | exact HB.out)) hb); have n1_ := Aside0.mk (hbox); have n2_ := Aside0.mk ((by rw [hg]; exact (below_size (by repeat (first | (with_reducible first | exact HB.out | apply below_alloc | apply pw_below_drewN | apply below_drew1) | exact HB.out))) : w.heap.size ≤ gb681)); have n3_ := Aside0.mk ((by rw [hg]; exact (below_size (by repeat (first | (with_reducible first | exact HB.out | apply below_alloc | apply pw_below_drewN | apply below_drew1) | exact HB.out))) : w.heap.size ≤ gb681)); clear HB; have HB := n0_; have BK681 := n1_; have GW681 := n2_; have GE681 := n3_; clear n0_ n1_ n2_ n3_; clear hb hbox hg; have hcz71_0 : w70.cell? ⟨gb681, 0, none⟩ = some (.int .i64 a0_0) := (blk_cell BK681.out 0).trans rfl; have hcz71_1 : w70.cell? ⟨gb681, 1, none⟩ = some (.int .i64 a0_1) := (blk_cell BK681.out 1).trans rfl; have hcz71_2 : w70.cell? ⟨gb681, 2, none⟩ = some (.slice A0_2 l0_2.length c0_2) := (blk_cell BK681.out 2).trans rfl; have hcz71_3 : w70.cell? ⟨gb681, 3, none⟩ = some (.slice A0_3 l0_3.length c0_3) := (blk_cell BK681.out 3).trans rfl; have hcz71_4 : w70.cell? ⟨gb681, 4, none⟩ = some (.slice A0_4 l0_4.length c0_4) := (blk_cell BK681.out 4).trans rfl; have hcz71_5 : w70.cell? ⟨gb681, 5, none⟩ = some (.slice A0_5 l0_5.length c0_5) := (blk_cell BK681.out 5).trans rfl; have hfz71_0 := blk_frozen BK681.out 0; have hfz71_1 := blk_frozen BK681.out 1; have hfz71_2 := blk_frozen BK681.out 2; have hfz71_3 := blk_frozen BK681.out 3; have hfz71_4 := blk_frozen BK681.out 4; have hfz71_5 := blk_frozen BK681.out 5) | ((with_reducible refine gate_callee (f := 32) rfl ?_); refine goesL_ (some 18) rfl rfl Try.func32 (by kernel_rfl) rfl #[.agg #[.int .i64 a0_0, .int .i64 a0_1, .slice A0_2 l0_2.length c0_2, .slice A0_3 l0_3.length c0_3, .slice A0_4 l0_4.length c0_4, .slice A0_5 l0_5.length c0_5]] rfl (by (try simp only [List.map_toArray, List.map_cons, List.map_nil]); first | done | rfl | (simp only [List.length_drop, List.length_take]; rfl)) ?_; (with_reducible refine (cantinglaw07_cloth.calls a0_0 a0_1 _ _ l0_2 _ _ l0_3 _ _ l0_4 _ _ l0_5 t682 t683 t684 t687 t690 t693 _ ?side1 ?side2 ?side3 ?side4 ?side5 ?side6 ?side7 ?side8 A4.out).mono ?_); (case side1 => repeat (first | exact (Kd.C_below HR0_2.out HB.out) | (with_reducible refine Kd.C_alloc ?_ _) | (with_reducible refine Kd.C_drewN ?_ _) | (with_reducible refine Kd.C_drew ?_))); (case side2 => exact HC0_2.out); (case side3 => repeat (first | exact (Kd.C_below HR0_3.out HB.out) | (with_reducible refine Kd.C_alloc ?_ _) | (with_reducible refine Kd.C_drewN ?_ _) | (with_reducible refine Kd.C_drew ?_))); (case side4 => exact HC0_3.out); (case side5 => repeat (first | exact (Kd.C_below HR0_4.out HB.out) | (with_reducible refine Kd.C_alloc ?_ _) | (with_reducible refine Kd.C_drewN ?_ _) | (with_reducible refine Kd.C_drew ?_))); (case side6 => exact HC0_4.out); (case side7 => repeat (first | exact (Kd.C_below HR0_5.out HB.out) | (with_reducible refine Kd.C_alloc ?_ _) | (with_reducible refine Kd.C_drewN ?_ _) | (with_reducible refine Kd.C_drew ?_))); (case side8 => exact HC0_5.out); rintro e w72 ⟨v685, v688, v691, v694, rfl, ho0, ho1, ho2, ho3, hb⟩; refine ⟨_, rfl, ?_⟩; have n0_ := Aside0.mk (Kd.R_lower ho0 (below_size (by repeat (first | (with_reducible first | exact HB.out | apply below_alloc | apply pw_below_drewN | apply below_drew1 | refine below_set ?_ GE681.out) | exact HB.out)))); have n1_ := Aside0.mk (Kd.R_lower ho1 (below_size (by repeat (first | (with_reducible first | exact HB.out | apply below_alloc | apply pw_below_drewN | apply below_drew1 | refine below_set ?_ GE681.out) | exact HB.out)))); have n2_ := Aside0.mk (Kd.R_lower ho2 (below_size (by repeat (first | (with_reducible first | exact HB.out | apply below_alloc | apply pw_below_drewN | apply below_drew1 | refine below_set ?_ GE681.out) | exact HB.out)))); have n3_ := Aside0.mk (Kd.R_lower ho3 (below_size (by repeat (first | (with_reducible first | exact HB.out | apply below_alloc | apply pw_below_drewN | apply below_drew1 | refine below_set ?_ GE681.out) | exact HB.out)))); have n4_ := Aside0.mk (blk_below (g := gb681) (o := .cells #[.int .i64 a0_0, .int .i64 a0_1, .slice A0_2 l0_2.length c0_2, .slice A0_3 l0_3.length c0_3, .slice A0_4 l0_4.length c0_4, .slice A0_5 l0_5.length c0_5] 61 (0, 0)) (by (with_reducible repeat (first | refine blk_drewN ?_ _ | refine blk_drew ?_ | refine blk_alloc ?_ _)); exact BK681.out) hb); have n5_ := Aside0.mk (below_step (by repeat (first | (with_reducible first | exact HB.out | apply below_alloc | apply pw_below_drewN | apply below_drew1 | refine below_set ?_ GE681.out) | exact HB.out)) hb); clear BK681; clear HB; have HO686 := n0_; have HO689 := n1_; have HO692 := n2_; have HO695 := n3_; have BK681 := n4_; have HB := n5_; clear n0_ n1_ n2_ n3_ n4_ n5_; (try clear hb); (try clear hb2); (try clear hk); (try clear hi); (try clear ho0); (try clear ho1); (try clear ho2); (try clear ho3); obtain ⟨Ao73, co73, eo73⟩ := Kd.R_slice HO686.out; subst eo73; obtain ⟨Ao74, co74, eo74⟩ := Kd.R_slice HO689.out; subst eo74; obtain ⟨Ao75, co75, eo75⟩ := Kd.R_slice HO692.out; subst eo75; obtain ⟨Ao76, co76, eo76⟩ := Kd.R_slice HO695.out; subst eo76) | ((with_reducible refine gate_callee (f := 41) rfl ?_); refine goesL_ (some 20) rfl rfl Try.func41 (by kernel_rfl) rfl #[.agg #[.int .i64 t682, .int .i64 t683, .slice Ao73 t684.length co73, .slice Ao74 t687.length co74, .slice Ao75 t690.length co75, .slice Ao76 t693.length co76], .int .i64 a1] rfl (by (try simp only [List.map_toArray, List.map_cons, List.map_nil]); first | done | rfl | (simp only [List.length_drop, List.length_take]; rfl)) ?_; (with_reducible refine (wax_Labels.calls t682 t683 _ _ t684 _ _ t687 _ _ t690 _ _ t693 a1 t696 t699 t702 _ ?side1 ?side2 ?side3 ?side4 ?side5 ?side6 ?side7 ?side8 A5.out).mono ?_); (case side1 => repeat (first | exact (Kd.R_reads' HO686.out).2.2 | (with_reducible refine Kd.C_alloc ?_ _) | (with_reducible refine Kd.C_drewN ?_ _) | (with_reducible refine Kd.C_drew ?_))); (case side2 => exact (Kd.R_reads' HO686.out).2.1); (case side3 => repeat (first | exact (Kd.R_reads' HO689.out).2.2 | (with_reducible refine Kd.C_alloc ?_ _) | (with_reducible refine Kd.C_drewN ?_ _) | (with_reducible refine Kd.C_drew ?_))); (case side4 => exact (Kd.R_reads' HO689.out).2.1); (case side5 => repeat (first | exact (Kd.R_reads' HO692.out).2.2 | (with_reducible refine Kd.C_alloc ?_ _) | (with_reducible refine Kd.C_drewN ?_ _) | (with_reducible refine Kd.C_drew ?_))); (case side6 => exact (Kd.R_reads' HO692.out).2.1); (case side7 => repeat (first | exact (Kd.R_reads' HO695.out).2.2 | (with_reducible refine Kd.C_alloc ?_ _) | (with_reducible refine Kd.C_drewN ?_ _) | (with_reducible refine Kd.C_drew ?_))); (case side8 => exact (Kd.R_reads' HO695.out).2.1); rintro e w77 ⟨v697, v700, rfl, ho0, ho1, hb⟩; refine ⟨_, rfl, ?_⟩; have n0_ := Aside0.mk (Kd.R_below (by (with_reducible repeat (first | apply Kd.R_alloc | apply Kd.R_drewN | apply Kd.R_drew)); exact HO686.out) hb); have n1_ := Aside0.mk (Kd.R_below (by (with_reducible repeat (first | apply Kd.R_alloc | apply Kd.R_drewN | apply Kd.R_drew)); exact HO689.out) hb); have n2_ := Aside0.mk (Kd.R_below (by (with_reducible repeat (first | apply Kd.R_alloc | apply Kd.R_drewN | apply Kd.R_drew)); exact HO692.out) hb); have n3_ := Aside0.mk (Kd.R_below (by (with_reducible repeat (first | apply Kd.R_alloc | apply Kd.R_drewN | apply Kd.R_drew)); exact HO695.out) hb); have n4_ := Aside0.mk (Kv.R_lower ho0 (below_size (by repeat (first | (with_reducible first | exact HB.out | apply below_alloc | apply pw_below_drewN | apply below_drew1 | refine below_set ?_ GE681.out) | exact HB.out)))); have n5_ := Aside0.mk (Kv.R_lower ho1 (below_size (by repeat (first | (with_reducible first | exact HB.out | apply below_alloc | apply pw_below_drewN | apply below_drew1 | refine below_set ?_ GE681.out) | exact HB.out)))); have n6_ := Aside0.mk (blk_below (g := gb681) (o := .cells #[.int .i64 a0_0, .int .i64 a0_1, .slice A0_2 l0_2.length c0_2, .slice A0_3 l0_3.length c0_3, .slice A0_4 l0_4.length c0_4, .slice A0_5 l0_5.length c0_5] 61 (0, 0)) (by (with_reducible repeat (first | refine blk_drewN ?_ _ | refine blk_drew ?_ | refine blk_alloc ?_ _)); exact BK681.out) hb); have n7_ := Aside0.mk (below_step (by repeat (first | (with_reducible first | exact HB.out | apply below_alloc | apply pw_below_drewN | apply below_drew1 | refine below_set ?_ GE681.out) | exact HB.out)) hb); clear HO686; clear HO689; clear HO692; clear HO695; clear BK681; clear HB; have HO686 := n0_; have HO689 := n1_; have HO692 := n2_; have HO695 := n3_; have HO698 := n4_; have HO701 := n5_; have BK681 := n6_; have HB := n7_; clear n0_ n1_ n2_ n3_ n4_ n5_ n6_ n7_; (try clear hb); (try clear hb2); (try clear hk); (try clear hi); (try clear ho0); (try clear ho1)))
      go_ret
      exact ⟨by first | rfl | (simp [errW_none, errW_some] <;> rfl) | (simp [*, errW_none, errW_some] <;> rfl), by repeat (first | (with_reducible first | exact HB.out | apply below_alloc | apply pw_below_drewN | apply below_drew1 | refine below_set ?_ GE681.out) | exact HB.out)⟩
end Go.Proofs.Ytbamanjedfccpaa.X
end

section
set_option linter.unusedVariables false
set_option linter.unusedSimpArgs false
namespace Go.Proofs.Ytbamanjedfccpaa.HTab
open Go.RowKit Go.Proofs.YtbamanjedfccpaaW.PrintWords Go.Proofs.YtbamanjedfccpaaW.PrintLast Go.Proofs.YtbamanjedfccpaaW.PrintMore Go.Proofs.Ytbamanjedfccpaa.X
set_option linter.unusedVariables false
set_option linter.unusedSimpArgs false
theorem labels_ok {W H : Int} {l2 l3 l4 l5 : List Int} (hv : cvB W H l2 l3 l4 l5 = true) {r : Int} (hr : -10000 ≤ r ∧ r ≤ 10000) {a b : List Bool} (h : LabD W H l2 l3 l4 l5 r a b) : wax_Labels.f W H l2 l3 l4 l5 r = some (a, b, 0) := by
  unfold wax_Labels.f wax_Cloth_valid.f
  rw [hv, Option.bind_some, if_pos rfl, if_neg (by omega), if_neg (by omega), h.labels]
  rfl
theorem labels_err {W H : Int} {l2 l3 l4 l5 : List Int} {r : Int} (h : ¬ (cvB W H l2 l3 l4 l5 = true ∧ -10000 ≤ r ∧ r ≤ 10000)) : wax_Labels.f W H l2 l3 l4 l5 r = some ([], [], 2) := by
  unfold wax_Labels.f wax_Cloth_valid.f
  rw [Option.bind_some]
  by_cases hv : cvB W H l2 l3 l4 l5 = true
  · have h2 : ¬ (-10000 ≤ r ∧ r ≤ 10000) := fun q => h ⟨hv, q⟩
    rw [if_pos hv]
    by_cases h1 : r < -10000
    · rw [if_pos h1]
    · rw [if_neg h1, if_pos (by omega)]
  · rw [if_neg hv]
theorem cheapest_k (W H : Int) (l2 l3 l4 l5 : List Int) (r : Int) (l : List Bool) (K : Nat) (hK : 1000 ≤ K) : cantinglaw07_WaxCheapest.f (K + 1) W H l2 l3 l4 l5 r l = some true := by
  unfold cantinglaw07_WaxCheapest.f
  rw [cloth_f]
  simp only [Option.bind_some]
  obtain ⟨m2, e2⟩ : ∃ m, m = l2.take 50 := ⟨_, rfl⟩
  obtain ⟨m3, e3⟩ : ∃ m, m = l3.take 50 := ⟨_, rfl⟩
  obtain ⟨m4, e4⟩ : ∃ m, m = l4.take 50 := ⟨_, rfl⟩
  obtain ⟨m5, e5⟩ : ∃ m, m = l5.take 50 := ⟨_, rfl⟩
  rw [← e2, ← e3, ← e4, ← e5]
  by_cases hv : cvB W H m2 m3 m4 m5 = true ∧ -10000 ≤ r ∧ r ≤ 10000
  case neg =>
    rw [labels_err hv]
    simp [awake_f]
  obtain ⟨hv, hr⟩ := hv
  have hc := cvB_ok hv
  have hn := hc.n
  obtain ⟨a, b, h⟩ := labD hv hr
  rw [labels_ok hv hr h]
  simp only [Option.bind_some, if_true]
  rw [energy_f hv hr a h.la (K + 1) (by omega), energy_f hv hr b h.lb (K + 1) (by omega)]
  simp only [Option.bind_some, if_true]
  rw [show (enE W H m2 m3 m4 m5 r a != enE W H m2 m3 m4 m5 r b) = false by rw [h.eq]; simp]
  by_cases hl : (l.length : Int) = W * H
  case neg =>
    rw [energy_size hv hr l hl (K + 1) (by omega)]
    simp [cantinglaw07_WaxCheapest.j0, awake_f]
  rw [energy_f hv hr l hl (K + 1) (by omega)]
  simp only [Option.bind_some, cantinglaw07_WaxCheapest.j0, Bool.false_eq_true, if_false, if_true]
  have hm := h.min l hl
  by_cases c : enE W H m2 m3 m4 m5 r l > enE W H m2 m3 m4 m5 r a
  · rw [if_pos c, awake_f]; rfl
  · have c2 : enE W H m2 m3 m4 m5 r l = enE W H m2 m3 m4 m5 r a := by omega
    have hla := h.la
    have hlb := h.lb
    rw [if_neg c, if_pos c2, between_f a l b (by omega) (by omega) (by omega) (fun x x0 x1 => h.btw l hl c2 x x0 (by omega)) K (by omega)]
    simp [awake_f]
theorem cheapest_f (W H : Int) (l2 l3 l4 l5 : List Int) (r : Int) (l : List Bool) : cantinglaw07_WaxCheapest.f 1001 W H l2 l3 l4 l5 r l = some true := cheapest_k W H l2 l3 l4 l5 r l 1000 (by omega)
end Go.Proofs.Ytbamanjedfccpaa.HTab
end

section
set_option linter.unusedVariables false
set_option linter.unusedSimpArgs false
namespace Go.Proofs.Ytbamanjedfccpaa.waxCheapest
open Go.ChangeShapes Go.WideShapes Go.ChangeAt Go.RowKit Go.Proofs.YtbamanjedfccpaaW.PrintWords Go.Proofs.Ytbamanjedfccpaa.HTab Go.Proofs.Ytbamanjedfccpaa.X
open Go.ChangeMaps (open_string shut_string)
set_option linter.unusedVariables false
theorem own : ownKnob Try.prog.godebug = none := by kernel_rfl
theorem laidOut : laidOutB Try.prog = true := by kernel_rfl
set_option maxRecDepth 100000 in
theorem lifted (os : Os) (started : os.Started) (H : Type) (enc : TypeId × Value → H) :
    ReturnsInHanded {} Try.checked os 12 .any (Rows.waxCheapestSpec.pre6 enc Try.prog Try.f12 Rows.waxCheapestRow.domain false) (Rows.waxCheapestSpec.post enc Try.prog Try.f12 false true false false) := by
  refine returnsInHanded_of_change_sized (C := Try.checked) own started (by kernel_rfl) Try.func12
    (ChangeSpec.witness6 (enc := enc) (C := Try.checked) false ⟨#[], #[.agg #[.int .i64 0, .int .i64 0, .slice none 0 0, .slice none 0 0, .slice none 0 0, .slice none 0 0], .int .i64 0, .slice none 0 0], []⟩ 8 (by kernel_rfl) (by kernel_rfl) (by kernel_rfl) (by kernel_rfl)) ?_
  intro W base args ds gs before hval0 hW hcnd hsz0 _
  have hsz : (DataW.weightsEach Try.prog (Try.f12.params.toList ++ Rows.waxCheapestSpec.plain.varTypes Try.prog) (ds ++ gs)).all (· ≤ reachBytes) = true := hsz0
  have hval : ∀ (j : Nat) t v, Try.f12.params[j]? = some t → args[j]? = some v → Value.okWide Try.prog W .any base t v := hval0
  have hW' := hW
  obtain ⟨p, q, hA0, hV, rfl, hfz, hnd⟩ := hW
  have hA : DataW.TrodAll enc Try.prog W 0 (fun _ => true) true Try.f12.params.toList args.toList ds p := hA0
  rw [Try.params12] at hA hval hsz
  obtain ⟨v0, vs0, d0, ds0, p0, q0, hargs, rfl, rfl, h0, r0⟩ := trodAll_cons hA
  obtain ⟨v1, vs1, d1, ds1, p1, q1, rfl, rfl, rfl, h1, r1⟩ := trodAll_cons r0
  obtain ⟨v2, vs2, d2, ds2, p2, q2, rfl, rfl, rfl, h2, r2⟩ := trodAll_cons r1
  obtain ⟨rfl, rfl, rfl⟩ := trodAll_nil r2
  obtain rfl : args = #[v0, v1, v2] := by cases args; simp_all
  obtain ⟨rfl, rfl⟩ := trodVars_none hV
  have k0 := h0
  have lt0 : ∀ x ∈ p0, x.block < W.heap.size := by obtain ⟨m, hm⟩ := k0; exact DataW.trod_lt m _ _ _ hm
  obtain ⟨n0, m0, A0_2, c0_2, l0_2, A0_3, c0_3, l0_3, A0_4, c0_4, l0_4, A0_5, c0_5, l0_5, rfl, ⟨C0_2, L0_2⟩, ⟨C0_3, L0_3⟩, ⟨C0_4, L0_4⟩, ⟨C0_5, L0_5⟩, wn0, wm0⟩ := open_cloth (hval 0 61 v0 rfl rfl) h0
  obtain ⟨a1, rfl, rfl, rfl, w1⟩ := open_int Try.underlying3 (hval 1 3 v1 rfl rfl) h1
  have k2 := h2
  have lt2 : ∀ x ∈ p2, x.block < W.heap.size := by obtain ⟨m, hm⟩ := k2; exact DataW.trod_lt m _ _ _ hm
  obtain ⟨A2, c2, l2, rfl, C2, L2, B2⟩ := open_bools (hval 2 45 v2 rfl rfl) h2 hsz (j := 2) rfl rfl
  clear hA0 hval0 hsz0 hsz
  refine (cantinglaw07_WaxCheapest.calls 1001 n0 m0 A0_2 c0_2 l0_2 A0_3 c0_3 l0_3 A0_4 c0_4 l0_4 A0_5 c0_5 l0_5 a1 A2 c2 l2 true W C0_2 L0_2 C0_3 L0_3 C0_4 L0_4 C0_5 L0_5 C2 L2 (cheapest_f n0 m0 l0_2 l0_3 l0_4 l0_5 a1 l2)).mono fun e W' ⟨he, bel⟩ => ?_
  subst he
  exact ⟨_, rfl, _, _, _, [], _, [], hW', trodAll_mk1 (shut_bool Try.underlying4 _), (trodAll_cons_mk (Below.trod laidOut (by kernel_rfl) (of_decide_eq_true (by kernel_rfl)) k0 bel lt0) (trodAll_cons_mk (shut_int Try.underlying3 w1) (trodAll_cons_mk (Below.trod laidOut (by kernel_rfl) (of_decide_eq_true (by kernel_rfl)) k2 bel lt2) trodAll_mk0))), rfl, bel.frame _, fun h => by cases h⟩
theorem over : Rows.waxCheapestRow.holds Try.pinned (OpenSpec.ofChange Rows.waxCheapestSpec) :=
  OpenClaim.holds_of_wide 12 Try.f12 rfl rfl rfl rfl rfl rfl rfl ⟨rfl, rfl, rfl, rfl, rfl⟩ rfl rfl rfl rfl rfl (by kernel_rfl) Try.func12 (by kernel_rfl)
    (of_decide_eq_true (by kernel_rfl)) (by unfold Func.isWrapper; first | (rw [if_pos (by decide +kernel)]; kernel_rfl) | (rw [if_neg (by decide +kernel)]; exact ⟨rfl, rfl⟩))
    (fun os started H enc _ => lifted os started H enc)
theorem proved : Rows.WaxCheapestSaid := over
end Go.Proofs.Ytbamanjedfccpaa.waxCheapest
namespace Go.Proofs.Ytbamanjedfccpaa
theorem waxCheapest_holds : Rows.WaxCheapestSaid := waxCheapest.proved
end Go.Proofs.Ytbamanjedfccpaa
#print axioms Go.Proofs.Ytbamanjedfccpaa.waxCheapest_holds
end
