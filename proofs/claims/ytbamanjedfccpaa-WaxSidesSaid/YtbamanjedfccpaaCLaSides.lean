/- The law WaxSides holds of the program, for every input that its statement lets in. -/
import Derived.Test.YtbamanjedfccpaaBq
import Derived.Test.YtbamanjedfccpaaBs
import Derived.Laws.BitsLemmas
import Derived.Test.YtbamanjedfccpaaBc
import Derived.Test.YtbamanjedfccpaaBn
import Derived.Test.YtbamanjedfccpaaBk
import Derived.Test.YtbamanjedfccpaaBm
import Derived.Test.YtbamanjedfccpaaBi
import Derived.Test.YtbamanjedfccpaaRows
import Derived.Test.YtbamanjedfccpaaBj
import Derived.WalkKit
import Derived.ProofKit
import Derived.OpenShut
import Derived.ShutString
import Derived.ChangeOld
import Derived.Below
import Derived.SizedLaws
import Derived.Test.YtbamanjedfccpaaBb
section
set_option linter.unusedVariables false
set_option linter.unusedSimpArgs false
namespace Go.Proofs.Ytbamanjedfccpaa.HTab
open Go.RowKit Go.Proofs.YtbamanjedfccpaaW.PrintWords Go.Proofs.YtbamanjedfccpaaW.PrintLast Go.Proofs.YtbamanjedfccpaaW.PrintMore Go.Proofs.Ytbamanjedfccpaa.X
set_option linter.unusedVariables false
set_option linter.unusedSimpArgs false
theorem wraps_i64 (n : Int) (h₀ : 0 ≤ n) (h₁ : n < 2 ^ 63) : IntKind.i64.wrap n = n := by rw [IntKind.wrap_i64]; omega
theorem and_one {x : Int} (h0 : 0 ≤ x) (h1 : x < 2 ^ 63) : Go.bits .and .i64 x 1 = x % 2 := bits_mask .i64 63 (by decide) wraps_i64 1 (by decide) x h0 h1
theorem shl1 {k : Int} (h0 : 0 ≤ k) (h : k ≤ 12) : shl .i64 1 k = ((2 ^ k.toNat : Nat) : Int) := by
  have : k = 0 ∨ k = 1 ∨ k = 2 ∨ k = 3 ∨ k = 4 ∨ k = 5 ∨ k = 6 ∨ k = 7 ∨ k = 8 ∨ k = 9 ∨ k = 10 ∨ k = 11 ∨ k = 12 := by omega
  rcases this with h | h | h | h | h | h | h | h | h | h | h | h | h <;> rw [h] <;> decide
theorem p12 {k : Nat} (h : k ≤ 12) : 1 ≤ 2 ^ k ∧ 2 ^ k ≤ 4096 := ⟨Nat.two_pow_pos k, Nat.pow_le_pow_right (by omega) h⟩
theorem bit_test (s k : Nat) (hs : s < 4096) (hk : k ≤ 62) : (Go.bits .and .i64 (shr .i64 (s : Int) (k : Int)) 1 == 1) = s.testBit k := by
  unfold shr
  rw [Int.toNat_natCast, Nat.min_eq_left (show k ≤ IntKind.i64.bits from (by show k ≤ 64; omega))]
  have e : ((s : Int) / 2 ^ k) = ((s / 2 ^ k : Nat) : Int) := by rw [Int.natCast_ediv, Int.natCast_pow]; rfl
  have hle : s / 2 ^ k ≤ s := Nat.div_le_self _ _
  rw [e, Nat.testBit_eq_decide_div_mod_eq]
  generalize s / 2 ^ k = q at hle ⊢
  rw [and_one (by omega) (by omega)]
  by_cases h : q % 2 = 1
  · rw [decide_eq_true h]
    have : ((q : Int) % 2) = 1 := by omega
    rw [this]; rfl
  · rw [decide_eq_false h]
    have : ((q : Int) % 2) = 0 := by omega
    rw [this]; rfl
def sideN (N s : Nat) : List Bool := (List.range N).map fun v => decide (v = 0) || (decide (1 ≤ v) && decide (v + 1 < N) && s.testBit (N - 2 - v))
theorem sideN_len (N s : Nat) : (sideN N s).length = N := by simp [sideN]
theorem sideN_rd (N s v : Nat) (hv : v < N) : rdOf false (sideN N s) (v : Int) = (decide (v = 0) || (decide (1 ≤ v) && decide (v + 1 < N) && s.testBit (N - 2 - v))) := by
  simp [rdOf, sideN, hv]
theorem bools_ext {a b : List Bool} {N : Nat} (ha : a.length = N) (hb : b.length = N) (h : ∀ v : Nat, v < N → rdOf false a (v : Int) = rdOf false b (v : Int)) : a = b := by
  refine List.ext_getElem (by omega) (fun i h1 h2 => ?_)
  have := h i (by omega)
  simp only [rdOf, Int.toNat_natCast, List.getD_eq_getElem?_getD, List.getElem?_eq_getElem h1, List.getElem?_eq_getElem h2] at this
  exact this
theorem rdB_nat (d : List Bool) (w v : Nat) (val : Bool) (hw : w < d.length) : rdOf false (d.set w val) (v : Int) = if v = w then val else rdOf false d (v : Int) := by
  have := rdB_set d (w : Int) (v : Int) val (by omega) (by omega) (by omega)
  rw [Int.toNat_natCast] at this
  rw [this]
  by_cases h : v = w
  · rw [if_pos h, if_pos (by omega)]
  · rw [if_neg h, if_neg (by omega)]
section
variable (N : Nat) (hN2 : 2 ≤ N) (hN : N ≤ 12) (l : List S34) (hl : l.length ≤ 160) (hg : GoodR N l)
include hN2 hN hl hg
theorem cost_at (S : List Bool) (hS : S.length = N) (fu : Nat) (hf : 170 ≤ fu) : wax_Net_cost.f fu N (l.map cvA) S = some (csF S l 0) := by
  unfold wax_Net_cost.f
  have := cost_l0 N hN2 (by omega) l hl hg S hS l.length 0 fu 0 (by omega) (by omega)
  rw [List.length_map]
  exact this
theorem sides_l1 (val : Int) (out : List (List Bool)) (tot : Int) (s : Nat) (hs : s < 4096) : ∀ (d v g : Nat) (x : List Bool), v + d = N - 1 → 1 ≤ v → 170 ≤ g → x.length = N → (∀ u : Nat, u < N → rdOf false x (u : Int) = (decide (u = 0) || (decide (1 ≤ u) && decide (u < v) && s.testBit (N - 2 - u)))) →
    wax_Sides.l1 (g + d + 1) val out s x v tot s N (l.map cvA) = if csF (sideN N s) l 0 = val then (if out.length < 5864062014805 then wax_Sides.l0 g val (out ++ [sideN N s]) tot ((s + 1 : Nat) : Int) N (l.map cvA) else none) else wax_Sides.l0 g val out tot ((s + 1 : Nat) : Int) N (l.map cvA)
  | 0, v, g, x, hd, hv, hgf, hx, hr => by
    have w : wrap64 ((N : Int) - 1) = (N : Int) - 1 := wrap_id (by omega) (by omega)
    have e : x = sideN N s := bools_ext hx (sideN_len N s) (fun u hu => by
      rw [hr u hu, sideN_rd N s u hu]
      have : decide (u < v) = decide (u + 1 < N) := by
        by_cases h : u < v
        · rw [decide_eq_true h, decide_eq_true (by omega)]
        · rw [decide_eq_false h, decide_eq_false (by omega)]
      rw [this])
    simp only [wax_Sides.l1]
    rw [w]
    clear w
    rw [if_neg (by omega), Nat.add_zero, cost_at N hN2 hN l hl hg x hx g hgf, Option.bind_some, e, show wrap64 ((s : Int) + 1) = ((s + 1 : Nat) : Int) from wrap_add1 (by omega) (by omega)]
  | d + 1, v, g, x, hd, hv, hgf, hx, hr => by
    have w : wrap64 ((N : Int) - 1) = (N : Int) - 1 := wrap_id (by omega) (by omega)
    have w2 : wrap64 ((N : Int) - 2) = (N : Int) - 2 := wrap_id (by omega) (by omega)
    have w3 : wrap64 ((N : Int) - 2 - v) = ((N - 2 - v : Nat) : Int) := by rw [wrap_id (by clear w w2; omega) (by clear w w2; omega)]; omega
    have ih := sides_l1 val out tot s hs d (v + 1) g (x.set v (s.testBit (N - 2 - v))) (by clear w w2 w3; omega) (by clear w w2 w3; omega) hgf (by rw [List.length_set]; exact hx) (fun u hu => by
      clear w w2 w3
      rw [rdB_nat x v u _ (by omega)]
      by_cases h : u = v
      · rw [if_pos h, h, decide_eq_false (show ¬ v = 0 by omega), decide_eq_true hv, decide_eq_true (show v < v + 1 by omega)]
        rfl
      · rw [if_neg h, hr u hu]
        have : decide (u < v) = decide (u < v + 1) := by
          by_cases h : u < v
          · rw [decide_eq_true h, decide_eq_true (by omega)]
          · rw [decide_eq_false h, decide_eq_false (by omega)]
        rw [this])
    obtain ⟨m, hm⟩ : ∃ m, m = g + d + 1 := ⟨_, rfl⟩
    rw [show g + (d + 1) + 1 = m + 1 by omega]
    rw [← hm] at ih
    simp only [wax_Sides.l1]
    rw [w, w2, w3, bit_test s _ hs (by clear w w2 w3; omega)]
    clear w w2 w3
    rw [if_pos (by omega), if_pos (by omega), if_pos (by omega), if_pos (by omega), Int.toNat_natCast, show wrap64 ((v : Int) + 1) = ((v + 1 : Nat) : Int) from wrap_add1 (by omega) (by omega)]
    exact ih
def okS (l : List S34) (val : Int) (S : List Bool) : Bool := decide (csF S l 0 = val)
theorem sides_l0 (val : Int) (T : Nat) (hT : T ≤ 1024) : ∀ (d s fu : Nat) (out : List (List Bool)), s + d = T → d * 20 + 300 ≤ fu → out.length ≤ s → wax_Sides.l0 fu val out T s N (l.map cvA) = some (out ++ ((List.range' s d).map (sideN N)).filter (okS l val), 0)
  | d, s, 0, out, hd, hf, ho => by omega
  | 0, s, fu + 1, out, hd, hf, ho => by
    simp only [wax_Sides.l0]
    rw [if_neg (by omega)]
    simp
  | d + 1, s, fu + 1, out, hd, hf, ho => by
    have hx : (List.replicate N false).set 0 true = ((List.replicate N false).set 0 true) := rfl
    obtain ⟨g, rfl⟩ : ∃ g, fu = g + (N - 2) + 1 := ⟨fu - (N - 2) - 1, by omega⟩
    have h1 := sides_l1 N hN2 hN l hl hg val out T s (by omega) (N - 2) 1 g ((List.replicate N false).set 0 true) (by omega) (by omega) (by omega) (by simp) (fun u hu => by
      rw [rdB_nat _ 0 u true (by simp; omega)]
      by_cases h : u = 0
      · rw [if_pos h, decide_eq_true h]; rfl
      · rw [if_neg h, decide_eq_false h, decide_eq_false (show ¬ u < 1 by omega)]
        simp [rdOf, hu])
    simp only [wax_Sides.l0]
    rw [if_pos (by omega), if_pos (by omega), if_pos (by omega), Option.bind_some, Int.toNat_natCast, List.length_replicate, if_pos (by omega)]
    have h1' : wax_Sides.l1 (g + (N - 2) + 1) val out s ((List.replicate N false).set (0 : Int).toNat true) 1 T s N (l.map cvA) = _ := h1
    rw [h1', List.range'_succ, List.map_cons, List.filter_cons]
    rw [show okS l val (sideN N s) = decide (csF (sideN N s) l 0 = val) from rfl]
    by_cases c : csF (sideN N s) l 0 = val
    · rw [if_pos c, if_pos (by omega), if_pos (decide_eq_true c), sides_l0 val T hT d (s + 1) g _ (by omega) (by omega) (by rw [List.length_append, List.length_singleton]; omega)]
      simp
    · rw [if_neg c, if_neg (by simpa using c), sides_l0 val T hT d (s + 1) g out (by omega) (by omega) (by omega)]
def sidesL (N : Nat) (l : List S34) (val : Int) : List (List Bool) := ((List.range (2 ^ (N - 2))).map (sideN N)).filter (okS l val)
theorem sides_f {s : Int} {l1 D : List Int} {G : List Bool} (hv : vdB N (l.map cvA) = true) (h : NetD N (l.map cvA) s l1 D G) (fu : Nat) (hf : 30000 ≤ fu) : wax_Sides.f fu N (l.map cvA) = some (sidesL N l s, 0) := by
  have hp := p12 (show N - 2 ≤ 12 by omega)
  have hp2 : 2 ^ (N - 2) ≤ 1024 := Nat.le_trans (Nat.pow_le_pow_right (by omega) (show N - 2 ≤ 10 by omega)) (by decide)
  have w2 : wrap64 ((N : Int) - 2) = ((N - 2 : Nat) : Int) := by rw [wrap_id (by omega) (by omega)]; omega
  have h0 := sides_l0 N hN2 hN l hl hg s (2 ^ (N - 2)) hp2 (2 ^ (N - 2)) 0 fu [] (by omega) (by omega) (by simp)
  unfold wax_Sides.f wax_Net_valid.f
  rw [hv, Option.bind_some, if_pos rfl, if_neg (by clear w2; omega), h.value, Option.bind_some, w2, if_pos (by clear w2; omega), shl1 (by clear w2; omega) (by clear w2; omega), Int.toNat_natCast]
  rw [List.nil_append, ← List.range_eq_range'] at h0
  exact h0
end
theorem bits_of (g : Nat → Bool) : ∀ m : Nat, ∃ s, s < 2 ^ m ∧ ∀ k, k < m → s.testBit k = g k
  | 0 => ⟨0, by simp, fun k hk => by omega⟩
  | m + 1 => by
    obtain ⟨s, h1, h2⟩ := bits_of g m
    have hp : 2 ^ (m + 1) = 2 ^ m + 2 ^ m := by rw [Nat.pow_succ]; omega
    cases hg : g m with
    | false =>
      refine ⟨s, by omega, fun k hk => ?_⟩
      by_cases e : k = m
      · rw [e, hg]; exact Nat.testBit_lt_two_pow h1
      · exact h2 k (by omega)
    | true =>
      refine ⟨2 ^ m + s, by omega, fun k hk => ?_⟩
      by_cases e : k = m
      · rw [e, hg, Nat.testBit_two_pow_add_eq, Nat.testBit_lt_two_pow h1]; rfl
      · rw [Nat.testBit_two_pow_add_gt (by omega)]; exact h2 k (by omega)
theorem sideN_of {N : Nat} (hN2 : 2 ≤ N) (S : List Bool) (hS : S.length = N) (h0 : rdOf false S 0 = true) (h1 : rdOf false S ((N : Int) - 1) = false) : ∃ s, s < 2 ^ (N - 2) ∧ S = sideN N s := by
  obtain ⟨s, hs, hb⟩ := bits_of (fun k => rdOf false S ((N - 2 - k : Nat) : Int)) (N - 2)
  refine ⟨s, hs, bools_ext hS (sideN_len N s) (fun v hv => ?_)⟩
  rw [sideN_rd N s v hv]
  by_cases e0 : v = 0
  · rw [decide_eq_true e0, e0]; exact h0
  · rw [decide_eq_false e0, decide_eq_true (show 1 ≤ v by omega)]
    by_cases e1 : v + 1 < N
    · rw [decide_eq_true e1, hb (N - 2 - v) (by omega), show N - 2 - (N - 2 - v) = v by omega]
      rfl
    · rw [decide_eq_false e1, show (v : Int) = (N : Int) - 1 by omega, h1]
      rfl
theorem mem_sidesL {N : Nat} (hN2 : 2 ≤ N) (l : List S34) (val : Int) (S : List Bool) : S ∈ sidesL N l val ↔ S.length = N ∧ rdOf false S 0 = true ∧ rdOf false S ((N : Int) - 1) = false ∧ csF S l 0 = val := by
  unfold sidesL
  rw [List.mem_filter, List.mem_map]
  constructor
  · rintro ⟨⟨s, hs, rfl⟩, hc⟩
    have e := sideN_rd N s (N - 1) (by omega)
    rw [show ((N - 1 : Nat) : Int) = (N : Int) - 1 by omega] at e
    refine ⟨sideN_len N s, ?_, ?_, of_decide_eq_true hc⟩
    · have := sideN_rd N s 0 (by omega)
      exact this.trans (by rfl)
    · rw [e, decide_eq_false (show ¬ N - 1 = 0 by omega), decide_eq_false (show ¬ N - 1 + 1 < N by omega)]
      simp
  · rintro ⟨a, b, c, d⟩
    obtain ⟨s, hs, rfl⟩ := sideN_of hN2 S a b c
    exact ⟨⟨s, List.mem_range.2 hs, rfl⟩, decide_eq_true d⟩
end Go.Proofs.Ytbamanjedfccpaa.HTab
end

section
set_option linter.unusedVariables false
set_option linter.unusedSimpArgs false
namespace Go.Proofs.Ytbamanjedfccpaa.HTab
open Go.RowKit Go.Proofs.YtbamanjedfccpaaW.PrintWords Go.Proofs.YtbamanjedfccpaaW.PrintLast Go.Proofs.YtbamanjedfccpaaW.PrintMore Go.Proofs.Ytbamanjedfccpaa.X
set_option linter.unusedVariables false
set_option linter.unusedSimpArgs false
structure RNetD (N : Nat) (l : List S34) (v : Int) (G : List (List Int)) (fr bk : List Int) : Prop where
  grt : rgrt N l = some (v, G)
  ok : GOK N G
  res : ∀ T, resG N T G = costF false T (l.map cvA) - v * (ind T 0 - ind T ((N : Int) - 1))
  v0 : 0 ≤ v
  f1 : cantingref07_way.f fuelK G 0 = some fr
  w1 : WayD N G 0 fr
  no : rd fr ((N : Int) - 1) < 0
  f2 : cantingref07_way.f fuelK (backG N G) ((N : Int) - 1) = some bk
  w2 : WayD N (backG N G) ((N : Int) - 1) bk
theorem back_sq (N : Nat) (G : List (List Int)) : GSq N (backG N G) ∧ ∀ i j : Int, 0 ≤ i → i < N → 0 ≤ j → j < N → gr (backG N G) i j = gr G j i := by
  have e : ∀ i : Int, 0 ≤ i → i < N → rd_L4 (backG N G) i = (List.range N).map fun (j : Nat) => gr G (j : Int) i := fun i i0 i1 => by
    obtain ⟨n, rfl⟩ : ∃ n : Nat, i = n := ⟨i.toNat, by omega⟩
    have hn : n < N := by omega
    simp [rd_L4, backG, hn]
  refine ⟨⟨by simp [backG], fun i i0 i1 => by rw [e i i0 i1]; simp⟩, fun i j i0 i1 j0 j1 => ?_⟩
  have h2 : gr (backG N G) i j = rd (rd_L4 (backG N G) i) j := rfl
  rw [h2, e i i0 i1]
  obtain ⟨n, rfl⟩ : ∃ n : Nat, j = n := ⟨j.toNat, by omega⟩
  have hn : n < N := by omega
  simp [rd, hn]
theorem rnetD {N : Nat} {l : List S34} (h2 : 2 ≤ N) (hN : N ≤ 40) (hl : l.length ≤ 160) (hg : GoodR N l) (hc : CapR l) : ∃ v G fr bk, RNetD N l v G fr bk := by
  obtain ⟨c1, c2⟩ := cap_ok hg hc hl
  have hcost := costF_le false (fun v => v == (0 : Int)) (l.map cvA) (fun a ha => by obtain ⟨b, hb, rfl⟩ := List.mem_map.1 ha; exact hc b hb)
  rw [List.length_map] at hcost
  obtain ⟨v, G, fr, e, ok, r, le, f1, w1, no⟩ := grtP_ok hN (s := 0) (t := (N : Int) - 1) (by omega) (by omega) (by omega) fuelW (capG N l) 0 c1 (Int.le_refl _) (by rw [c2]; omega) (by rw [c2]; unfold fuelW; omega)
  have hNN : N * (N + 2) ≤ 40 * 42 := Nat.mul_le_mul hN (by omega)
  obtain ⟨bk, f2, w2⟩ := way_f (by omega) (back_sq N G).1 (s := (N : Int) - 1) (by omega) fuelK (by unfold fuelK; omega)
  exact ⟨v, G, fr, bk, e, ok, fun T => by rw [r T, c2 T, Int.sub_zero], le, f1, w1, no, f2, w2⟩
section
variable {N : Nat} {l : List S34} {v : Int} {G : List (List Int)} {fr bk : List Int}
theorem RNetD.reach (h : RNetD N l v G fr bk) : resG N (fun x => decide (0 ≤ rd fr x)) G = 0 := resG_zero _ (fun i j i0 i1 j0 j1 hi hj => by
  have h1 := of_decide_eq_true hi
  have h2 := of_decide_eq_false hj
  have h3 := h.ok.nn i j i0 i1 j0 j1
  rcases Int.lt_or_eq_of_le h3 with q | q
  · exact absurd (h.w1.clo i j i0 i1 j0 j1 h1 q) h2
  · exact q.symm)
theorem RNetD.isMin (h : RNetD N l v G fr bk) : IsMin false (l.map cvA) 0 ((N : Int) - 1) v := by
  have hs : side (fun x => decide (0 ≤ rd fr x)) 0 ((N : Int) - 1) := ⟨by simp [h.w1.s0], decide_eq_false (by have := h.no; omega)⟩
  refine ⟨⟨_, hs, ?_⟩, fun T hT => ?_⟩
  · have h1 := h.res (fun x => decide (0 ≤ rd fr x))
    rw [h.reach, ind_side hs] at h1
    omega
  · have h1 := h.res T
    have h2 := resG_nonneg h.ok T
    rw [ind_side hT] at h1
    omega
end
theorem NetD.isMin {N : Nat} {arcs : List S35} {s : Int} {l1 D : List Int} {G : List Bool} (h : NetD N arcs s l1 D G) (hN : 2 ≤ N) (hg : Good N arcs) : IsMin false arcs 0 ((N : Int) - 1) s :=
  ⟨⟨_, h.least_side hN, h.least_cost hN hg⟩, fun T hT => h.min T hT⟩
end Go.Proofs.Ytbamanjedfccpaa.HTab
end

section
set_option linter.unusedVariables false
set_option linter.unusedSimpArgs false
namespace Go.Proofs.Ytbamanjedfccpaa.X
open Go.RowKit Go.Proofs.YtbamanjedfccpaaW.PrintWords Go.Proofs.YtbamanjedfccpaaW.PrintLast Go.Proofs.YtbamanjedfccpaaW.PrintMore
attribute [local go_sem] max2_int min2_int max_two min_two max_three min_three max_four min_four   -- for this text's walks alone
set_option linter.unusedVariables false
set_option linter.unusedSimpArgs false
def slices_Equal_bool_bool.l0 : Nat → List Bool → List Bool → Int → Int → Option (Bool)
  | 0, _, _, _, _ => none
  | k + 1, x0, x1, x12, x13 => if x13 < x12 then (if 0 ≤ x13 then (if x13 < (x0.length : Int) then (if x13 < (x1.length : Int) then (if ((rdOf false x0 x13) != (rdOf false x1 x13)) = true then (some false) else (slices_Equal_bool_bool.l0 k x0 x1 x12 (wrap64 (x13 + 1)))) else (none)) else (none)) else (none)) else (some true)
def slices_Equal_bool_bool.f (k : Nat) (l0 : List Bool) (l1 : List Bool) : Option (Bool) := if (l0.length : Int) = (l1.length : Int) then (slices_Equal_bool_bool.l0 k l0 l1 (l0.length : Int) 0) else (some false)
set_option maxHeartbeats 8000000 in
set_option maxRecDepth 100000 in
theorem slices_Equal_bool_bool.calls (k : Nat) (A0 : Option Addr) (c0 : Nat) (l0 : List Bool) (A1 : Option Addr) (c1 : Nat) (l1 : List Bool) (r : Bool) (w : World) (hr0 : Kd.C Kd.bool w A0 l0.length l0) (hc0 : l0.length ≤ c0) (hr1 : Kd.C Kd.bool w A1 l1.length l1) (hc1 : l1.length ≤ c1) (h : slices_Equal_bool_bool.f k l0 l1 = some r) :
    Calls Try.prog 30 #[.slice A0 l0.length c0, .slice A1 l1.length c1] w fun e w' => e = .returned (.bool r) ∧ Drawn0 w w' := by
  have HR0 := Aside0.mk hr0
  have HC0 := Aside0.mk hc0
  clear hr0 hc0
  have HR1 := Aside0.mk hr1
  have HC1 := Aside0.mk hc1
  clear hr1 hc1
  have H : (if (l0.length : Int) = (l1.length : Int) then (slices_Equal_bool_bool.l0 k l0 l1 (l0.length : Int) 0) else (some false)) = some r := h
  clear h
  by_cases c3 : (l0.length : Int) = (l1.length : Int)
  · rw [if_pos c3] at H
    have c3b0 : ((l0.length : Int) == (l1.length : Int)) = true := beq_iff_eq.mpr c3
    have c3b1 : ((l0.length : Int) != (l1.length : Int)) = false := bne_eq_false_iff_eq.mpr c3
    have c3b2 : (l0.length == l1.length) = true := by first | simpa using c3 | (simp at c3 ⊢; omega)
    clear c3
    have H' := Aside0.mk H
    clear H
    go_enter Try.func30, Try.ntmps30
    go_wp2
    repeat (go_quiet (fail); try go_wp2)
    go_loopg [13] k (fun kq v13 w' => ∃ (x13_1 : Int), v13 = .int .i64 x13_1 ∧ Aside0 (slices_Equal_bool_bool.l0 kq l0 l1 (l0.length : Int) x13_1 = some r) ∧ Aside0 (kq ≤ k) ∧ Drawn0 w w')
    case atStart => exact ⟨(0), (by first | rfl | (simp; done) | (simp [*]; done)), H', ⟨Nat.le_refl _⟩, by repeat (first | exact Drawn0.refl _ | apply Drawn0.step)⟩
    case round =>
      clear H'
      try clear c1
      try clear p2
      try clear c3
      try clear c3b0
      try clear c3b1
      try clear c3b2
      obtain ⟨x13_1, rfl, HA, HK1, ⟨m1, rfl⟩⟩ := hrel
      cases gk with
      | zero => exact absurd HA.out (by simp [slices_Equal_bool_bool.l0])
      | succ k1 =>
        have H := HA.out
        clear HA
        simp only [slices_Equal_bool_bool.l0] at H
        by_cases c4 : x13_1 < (l0.length : Int)
        · rw [if_pos c4] at H
          have c4b0 : decide (x13_1 < (l0.length : Int)) = true := decide_eq_true c4
          clear c4
          by_cases c5 : 0 ≤ x13_1
          · rw [if_pos c5] at H
            have c5b0 : decide (0 ≤ x13_1) = true := decide_eq_true c5
            clear c5
            by_cases c6 : x13_1 < (l0.length : Int)
            · rw [if_pos c6] at H
              have c6b0 : decide (x13_1 < (l0.length : Int)) = true := decide_eq_true c6
              clear c6
              by_cases c7 : x13_1 < (l1.length : Int)
              · rw [if_pos c7] at H
                have c7b0 : decide (x13_1 < (l1.length : Int)) = true := decide_eq_true c7
                clear c7
                by_cases c8 : ((rdOf false l0 x13_1) != (rdOf false l1 x13_1)) = true
                · rw [if_pos c8] at H
                  have c8b0 : ((rdOf false l0 x13_1) != (rdOf false l1 x13_1)) = true := c8
                  (try (have c8b1 : decide ((rdOf false l0 x13_1) = (rdOf false l1 x13_1)) = false := by simpa using c8))
                  (try (have c8b2 : ((rdOf false l0 x13_1) == (rdOf false l1 x13_1)) = false := by simpa using c8))
                  (try (have c8b3 : ¬ ((rdOf false l0 x13_1) = (rdOf false l1 x13_1)) := by simpa using c8))
                  clear c8
                  obtain rfl := Option.some.inj H
                  have p402 : 0 ≤ (x13_1 : Int) := of_decide_eq_true (by first | (with_reducible assumption) | assumption)
                  have q402 : x13_1 < (l0.length : Int) := of_decide_eq_true (by first | (with_reducible assumption) | assumption)
                  obtain ⟨ad402, e402, hx402_0⟩ := Kd.at_bool HR0.out x13_1 p402 q402
                  cases e402
                  replace p402 := eq_true p402
                  replace q402 := eq_true q402
                  have p403 : 0 ≤ (x13_1 : Int) := of_decide_eq_true (by first | (with_reducible assumption) | assumption)
                  have q403 : x13_1 < (l1.length : Int) := of_decide_eq_true (by first | (with_reducible assumption) | assumption)
                  obtain ⟨ad403, e403, hx403_0⟩ := Kd.at_bool HR1.out x13_1 p403 q403
                  cases e403
                  replace p403 := eq_true p403
                  replace q403 := eq_true q403
                  go_wp2
                  repeat (go_quiet (fail); try go_wp2)
                  go_ret
                  exact ⟨by first | rfl | (simp; done) | (simp [*]; done), by repeat (first | exact Drawn0.refl _ | apply Drawn0.step)⟩
                · rw [if_neg c8] at H
                  have c8b0 : ((rdOf false l0 x13_1) != (rdOf false l1 x13_1)) = false := by simpa using c8
                  (try (have c8b1 : decide ((rdOf false l0 x13_1) = (rdOf false l1 x13_1)) = true := by simpa using c8))
                  (try (have c8b2 : ((rdOf false l0 x13_1) == (rdOf false l1 x13_1)) = true := by simpa using c8))
                  clear c8
                  have H' := Aside0.mk H
                  clear H
                  have p402 : 0 ≤ (x13_1 : Int) := of_decide_eq_true (by first | (with_reducible assumption) | assumption)
                  have q402 : x13_1 < (l0.length : Int) := of_decide_eq_true (by first | (with_reducible assumption) | assumption)
                  obtain ⟨ad402, e402, hx402_0⟩ := Kd.at_bool HR0.out x13_1 p402 q402
                  cases e402
                  replace p402 := eq_true p402
                  replace q402 := eq_true q402
                  have p403 : 0 ≤ (x13_1 : Int) := of_decide_eq_true (by first | (with_reducible assumption) | assumption)
                  have q403 : x13_1 < (l1.length : Int) := of_decide_eq_true (by first | (with_reducible assumption) | assumption)
                  obtain ⟨ad403, e403, hx403_0⟩ := Kd.at_bool HR1.out x13_1 p403 q403
                  cases e403
                  replace p403 := eq_true p403
                  replace q403 := eq_true q403
                  go_wp2
                  repeat (go_quiet (fail); try go_wp2)
                  go_roundg k1
                  case measure => have := HK1.out; omega
                  case rel => exact ⟨(wrap64 (x13_1 + 1)), (by first | rfl | (simp; done) | (simp [*]; done)), H', ⟨by have := HK1.out; omega⟩, by repeat (first | exact Drawn0.refl _ | apply Drawn0.step)⟩
              · rw [if_neg c7] at H
                exact absurd H (by simp)
            · rw [if_neg c6] at H
              exact absurd H (by simp)
          · rw [if_neg c5] at H
            exact absurd H (by simp)
        · rw [if_neg c4] at H
          have c4b0 : decide (x13_1 < (l0.length : Int)) = false := decide_eq_false c4
          clear c4
          obtain rfl := Option.some.inj H
          go_wp2
          repeat (go_quiet (fail); try go_wp2)
          go_ret
          exact ⟨by first | rfl | (simp; done) | (simp [*]; done), by repeat (first | exact Drawn0.refl _ | apply Drawn0.step)⟩
  · rw [if_neg c3] at H
    have c3b0 : ((l0.length : Int) == (l1.length : Int)) = false := beq_eq_false_iff_ne.mpr c3
    have c3b1 : ((l0.length : Int) != (l1.length : Int)) = true := bne_iff_ne.mpr c3
    have c3b2 : (l0.length == l1.length) = false := by first | simpa using c3 | (simp at c3 ⊢; omega)
    obtain rfl := Option.some.inj H
    go_enter Try.func30, Try.ntmps30
    go_wp2
    repeat (go_quiet (fail); try go_wp2)
    go_ret
    exact ⟨by first | rfl | (simp; done) | (simp [*]; done), by repeat (first | exact Drawn0.refl _ | apply Drawn0.step)⟩
end Go.Proofs.Ytbamanjedfccpaa.X
end

section
set_option linter.unusedVariables false
set_option linter.unusedSimpArgs false
namespace Go.Proofs.Ytbamanjedfccpaa.HTab
open Go.RowKit Go.Proofs.YtbamanjedfccpaaW.PrintWords Go.Proofs.YtbamanjedfccpaaW.PrintLast Go.Proofs.YtbamanjedfccpaaW.PrintMore Go.Proofs.Ytbamanjedfccpaa.X
set_option linter.unusedVariables false
set_option linter.unusedSimpArgs false
theorem eqB_l0 (a b : List Bool) (hab : a.length = b.length) (hl : a.length < 10000000000000) : ∀ (d i fu : Nat), i + d = a.length → d < fu → slices_Equal_bool_bool.l0 fu a b a.length i = some (decide (a.drop i = b.drop i))
  | d, i, 0, h, hf => by omega
  | 0, i, fu + 1, h, hf => by
    simp only [slices_Equal_bool_bool.l0]
    rw [if_neg (by omega), List.drop_eq_nil_of_le (by omega), List.drop_eq_nil_of_le (by omega)]
    rfl
  | d + 1, i, fu + 1, h, hf => by
    have h1 : i < a.length := by omega
    have h2 : i < b.length := by omega
    have ih := eqB_l0 a b hab hl d (i + 1) fu (by omega) (by omega)
    have ra : rdOf false a (i : Int) = a[i] := by simp [rdOf, h1]
    have rb : rdOf false b (i : Int) = b[i] := by simp [rdOf, h2]
    simp only [slices_Equal_bool_bool.l0]
    rw [if_pos (by omega), if_pos (by omega), if_pos (by omega), if_pos (by omega), show wrap64 ((i : Int) + 1) = ((i + 1 : Nat) : Int) from wrap_add1 (by omega) (by omega), ih, ra, rb, List.drop_eq_getElem_cons h1, List.drop_eq_getElem_cons h2]
    by_cases e : a[i] = b[i]
    · rw [if_neg (by simpa using e), e]
      exact congrArg some (decide_eq_decide.2 ⟨fun q => by rw [q], fun q => (List.cons.inj q).2⟩)
    · rw [if_pos (by simpa using e), decide_eq_false (fun q => e (List.cons.inj q).1)]
theorem eqB_f (a b : List Bool) (hl : a.length < 10000000000000) (fu : Nat) (hf : a.length < fu) : slices_Equal_bool_bool.f fu a b = some (decide (a = b)) := by
  unfold slices_Equal_bool_bool.f
  by_cases h : a.length = b.length
  · rw [if_pos (by omega)]
    have := eqB_l0 a b h hl a.length 0 fu (by omega) hf
    simpa using this
  · rw [if_neg (by omega), decide_eq_false (fun e => h (by rw [e]))]
def shortL (xs : List (List Bool)) : Prop := xs.length ≤ 10000 ∧ ∀ S ∈ xs, S.length ≤ 1000
instance (xs : List (List Bool)) : Decidable (shortL xs) := inferInstanceAs (Decidable (_ ∧ _))
set_option maxRecDepth 100000 in
set_option maxHeartbeats 8000000 in
theorem eqf_ok (A0 : Option Addr) (c0 : Nat) (xs : List (List Bool)) (A1 : Option Addr) (c1 : Nat) (ys : List (List Bool)) (w : World) (h0 : Kd.C (Kd.slice 4 Kd.bool) w A0 xs.length xs) (hc0 : xs.length ≤ c0) (h1 : Kd.C (Kd.slice 4 Kd.bool) w A1 ys.length ys) (hc1 : ys.length ≤ c1) (hs : shortL xs) :
    Calls Try.prog 40 #[.slice A0 xs.length c0, .slice A1 ys.length c1, .func (.func 30) #[] #[]] w fun e w' => e = .returned (.bool (decide (xs = ys))) ∧ Below w.heap.size w w' := by
  have H0 := Aside0.mk h0
  have H1 := Aside0.mk h1
  have HS := Aside0.mk hs
  have hm := hs.1
  clear h0 h1
  by_cases hl : xs.length = ys.length
  case neg =>
    have d0 : (((xs.length : Nat) : Int) != (ys.length : Int)) = true := bne_iff_ne.2 (by omega)
    rw [decide_eq_false (fun e => hl (by rw [e]))]
    clear hl
    go_enter Try.func40, Try.ntmps40
    go_wp2
    go_ret
    exact ⟨rfl, Below.refl _ _⟩
  have d0 : (((xs.length : Nat) : Int) != (ys.length : Int)) = false := by rw [hl]; simp
  have HL := Aside0.mk hl
  clear hl
  go_enter Try.func40, Try.ntmps40
  go_wp2
  go_loopg [17] (xs.length) (fun kq v17 w' => ∃ i : Nat, i + kq = xs.length ∧ v17 = .int .i64 i ∧ Aside0 (xs.take i = ys.take i) ∧ Aside0 (Below w.heap.size w w'))
  case atStart => exact ⟨0, by omega, rfl, ⟨rfl⟩, ⟨Below.refl _ _⟩⟩
  case round =>
    obtain ⟨i, hi, rfl, HT, HW⟩ := hrel
    by_cases hlt : i < xs.length
    · have hdec : decide (i < xs.length) = true := decide_eq_true hlt
      have hly := HL.out
      have i0 : ((i : Int) < 0) = False := eq_false (by omega)
      have i1 : ((i : Int) < (xs.length : Int)) = True := eq_true (by omega)
      have i2 : ((i : Int) < (ys.length : Int)) = True := eq_true (by omega)
      obtain ⟨ad, Ax, cx, rfl, kx, lx, Cx⟩ := at_L7 (Kd.C_below H0.out HW.out) (i : Int) (by omega) (by omega)
      obtain ⟨ae, Ay, cy, rfl, ky, ly, Cy⟩ := at_L7 (Kd.C_below H1.out HW.out) (i : Int) (by omega) (by omega)
      have ex : rd_L7 xs (i : Int) = xs[i] := by simp [rd_L7, hlt]
      have hly2 : i < ys.length := by omega
      have ey : rd_L7 ys (i : Int) = ys[i] := by simp [rd_L7, hly2]
      simp only [Int.toNat_natCast] at kx ky
      rw [ex] at kx lx Cx
      rw [ey] at ky ly Cy
      have hxl := HS.out.2 xs[i] (List.getElem_mem _)
      obtain ⟨x, hx⟩ : ∃ x, x = xs[i] := ⟨_, rfl⟩
      obtain ⟨y, hy⟩ : ∃ y, y = ys[i] := ⟨_, rfl⟩
      rw [← hx] at kx lx Cx hxl
      rw [← hy] at ky ly Cy
      have HTx : Aside0 (xs.take (i + 1) = xs.take i ++ [x]) := ⟨by rw [List.take_succ_eq_append_getElem hlt, hx]⟩
      have HTy : Aside0 (ys.take (i + 1) = ys.take i ++ [y]) := ⟨by rw [List.take_succ_eq_append_getElem hly2, hy]⟩
      have HE : Aside0 (x ≠ y → xs ≠ ys) := ⟨fun hne e => hne (by rw [hx, hy]; simp [e])⟩
      have HCx := Aside0.mk Cx
      have HCy := Aside0.mk Cy
      have HLx := Aside0.mk lx
      have HLy := Aside0.mk ly
      clear ex ey hx hy Cx Cy lx ly hly
      go_wp2_with fail
      refine (slices_Equal_bool_bool.calls 1001 Ax cx x Ay cy y (decide (x = y)) wr HCx.out HLx.out HCy.out HLy.out (eqB_f x y (by omega) 1001 (by omega))).mono ?_
      rintro e w2 ⟨rfl, ⟨nd, rfl⟩⟩
      have HW2 := Aside0.mk (below_then HW.out HW.out.size (pw_below_drewN (Below.refl _ _) nd))
      by_cases e : x = y
      · have d1 : decide (x = y) = true := decide_eq_true e
        rw [d1]
        have HT2 : Aside0 (xs.take (i + 1) = ys.take (i + 1)) := ⟨by rw [HTx.out, HTy.out, HT.out, e]⟩
        clear d1 e kx ky
        go_wp2
        go_roundg (xs.length - (i + 1))
        case measure => omega
        case rel => exact ⟨i + 1, by omega, by go_num, HT2, HW2⟩
      · have d1 : decide (x = y) = false := decide_eq_false e
        rw [d1]
        have hne : decide (xs = ys) = false := decide_eq_false (HE.out e)
        replace hne := Aside0.mk hne
        clear d1 e kx ky
        go_wp2
        go_ret
        exact ⟨congrArg (fun b => Ending.returned (Value.bool b)) hne.out.symm, HW2.out⟩
    · have hdec : decide (i < xs.length) = false := decide_eq_false hlt
      have he : decide (xs = ys) = true := decide_eq_true (by have h1 := HT.out; have := HL.out; rwa [List.take_of_length_le (by omega), List.take_of_length_le (by omega)] at h1)
      replace he := Aside0.mk he
      clear hlt
      go_wp2
      go_ret
      exact ⟨congrArg (fun b => Ending.returned (Value.bool b)) he.out.symm, HW.out⟩
end Go.Proofs.Ytbamanjedfccpaa.HTab
namespace Go.Proofs.Ytbamanjedfccpaa.X
open Go.RowKit Go.Proofs.YtbamanjedfccpaaW.PrintWords Go.Proofs.YtbamanjedfccpaaW.PrintLast Go.Proofs.YtbamanjedfccpaaW.PrintMore Go.Proofs.Ytbamanjedfccpaa.HTab
def slices_EqualFunc_bool_bool_bool_bool.f (l0 l1 : List (List Bool)) : Option Bool := if shortL l0 then some (decide (l0 = l1)) else none
theorem slices_EqualFunc_bool_bool_bool_bool.calls (A0 : Option Addr) (c0 : Nat) (l0 : List (List Bool)) (A1 : Option Addr) (c1 : Nat) (l1 : List (List Bool)) (r : Bool) (w : World) (hr0 : Kd.C (Kd.slice 4 Kd.bool) w A0 l0.length l0) (hc0 : l0.length ≤ c0) (hr1 : Kd.C (Kd.slice 4 Kd.bool) w A1 l1.length l1) (hc1 : l1.length ≤ c1) (h : slices_EqualFunc_bool_bool_bool_bool.f l0 l1 = some r) :
    Calls Try.prog 40 #[.slice A0 l0.length c0, .slice A1 l1.length c1, .func (.func 30) #[] #[]] w fun e w' => e = .returned (.bool r) ∧ Below w.heap.size w w' := by
  unfold slices_EqualFunc_bool_bool_bool_bool.f at h
  by_cases hs : shortL l0
  · rw [if_pos hs] at h
    injection h with h
    subst h
    exact eqf_ok A0 c0 l0 A1 c1 l1 w hr0 hc0 hr1 hc1 hs
  · rw [if_neg hs] at h; cases h
end Go.Proofs.Ytbamanjedfccpaa.X
end

section
set_option linter.unusedVariables false
set_option linter.unusedSimpArgs false
namespace Go.Proofs.Ytbamanjedfccpaa.X
open Go.RowKit Go.Proofs.YtbamanjedfccpaaW.PrintWords Go.Proofs.YtbamanjedfccpaaW.PrintLast Go.Proofs.YtbamanjedfccpaaW.PrintMore
attribute [local go_sem] max2_int min2_int max_two min_two max_three min_three max_four min_four   -- for this text's walks alone
set_option linter.unusedVariables false
set_option linter.unusedSimpArgs false
mutual
def cantingref07_Sides.l0 : Nat → List (List Bool) → Int → Int → Int → Int → List (S34) → Option ((List (List Bool)) × Int)
  | 0, _, _, _, _, _, _ => none
  | k + 1, x4, x5, x19, x20, x517000, x517001 => if x20 < x19 then (if 0 ≤ x517000 then (if (x517000 : Int).toNat ≤ 281474976710656 then ((some (List.replicate (x517000 : Int).toNat false : List Bool)).bind fun y518 => (cantingref07_Sides.l1 k x4 x5 x20 y518 x19 x20 (y518.length : Int) 0 x517000 x517001)) else (none)) else (none)) else (some (x4, 0))
def cantingref07_Sides.l1 : Nat → List (List Bool) → Int → Int → List Bool → Int → Int → Int → Int → Int → List (S34) → Option ((List (List Bool)) × Int)
  | 0, _, _, _, _, _, _, _, _, _, _ => none
  | k + 1, x4, x5, x6, x7, x19, x20, x27, x28, x517000, x517001 => if x28 < x27 then (if 0 ≤ (wrap64 ((wrap64 (x517000 - 1)) - x28)) then (if 0 ≤ x28 then (if x28 < (x7.length : Int) then (cantingref07_Sides.l1 k x4 x5 x6 (x7.set (x28 : Int).toNat ((Go.bits .and .i64 (shr .i64 x6 (wrap64 ((wrap64 (x517000 - 1)) - x28))) 1) == 1)) x19 x20 x27 (wrap64 (x28 + 1)) x517000 x517001) else (none)) else (none)) else (none)) else ((cantingref07_Side.f k x517000 x517001 x7).bind fun bt522 => (if bt522.2 = true then (cantingref07_Sides.j2 k x4 x5 x7 bt522.1 x19 x20 (decide (bt522.1 > x5)) x517000 x517001) else (cantingref07_Sides.j2 k x4 x5 x7 bt522.1 x19 x20 true x517000 x517001)))
def cantingref07_Sides.j2 : Nat → List (List Bool) → Int → List Bool → Int → Int → Int → Bool → Int → List (S34) → Option ((List (List Bool)) × Int)
  | 0, _, _, _, _, _, _, _, _, _ => none
  | k + 1, x4, x5, x7, x9, x19, x20, x56, x517000, x517001 => if x56 = true then (cantingref07_Sides.l0 k x4 x5 x19 (wrap64 (x20 + 1)) x517000 x517001) else (if x9 < x5 then (if ([] : List (List Bool)).length < 5864062014805 then (cantingref07_Sides.l0 k (([] : List (List Bool)) ++ [x7]) x9 x19 (wrap64 (x20 + 1)) x517000 x517001) else (none)) else (if x4.length < 5864062014805 then (cantingref07_Sides.l0 k (x4 ++ [x7]) x9 x19 (wrap64 (x20 + 1)) x517000 x517001) else (none)))
end
def cantingref07_Sides.f (k : Nat) (a0_0 : Int) (l0_1 : List (S34)) : Option ((List (List Bool)) × Int) := (cantingref07_Valid.f k a0_0 l0_1).bind fun t517 => (if t517 = true then (if a0_0 > 12 then (some (([] : List (List Bool)), 3)) else (if 0 ≤ a0_0 then (cantingref07_Sides.l0 k ([] : List (List Bool)) 1152921504606846976 (shl .i64 1 a0_0) 0 a0_0 l0_1) else (none))) else (some (([] : List (List Bool)), 2)))
set_option maxHeartbeats 8000000 in
set_option maxRecDepth 100000 in
theorem cantingref07_Sides.calls (k : Nat) (a0_0 : Int) (A0_1 : Option Addr) (c0_1 : Nat) (l0_1 : List (S34)) (r1 : List (List Bool)) (r2 : Int) (w : World) (hr0_1 : Kd.C k34 w A0_1 l0_1.length l0_1) (hc0_1 : l0_1.length ≤ c0_1) (h : cantingref07_Sides.f k a0_0 l0_1 = some (r1, r2)) :
    Calls Try.prog 39 #[.agg #[.int .i64 a0_0, .slice A0_1 l0_1.length c0_1]] w fun e w' => ∃ v0_ : Value, e = .returned (.tuple #[v0_, .int .i64 r2]) ∧ Kd.S (Kd.slice 4 Kd.bool) 45 w' w.heap.size (fun _ => True) v0_ r1 ∧ Below w.heap.size w w' := by
  have hu24 := Try.underlying24
  have HR0_1 := Aside0.mk hr0_1
  have HC0_1 := Aside0.mk hc0_1
  clear hr0_1 hc0_1
  have HB := Aside0.mk (Below.refl w.heap.size w)
  have H : ((cantingref07_Valid.f k a0_0 l0_1).bind fun t517 => (if t517 = true then (if a0_0 > 12 then (some (([] : List (List Bool)), 3)) else (if 0 ≤ a0_0 then (cantingref07_Sides.l0 k ([] : List (List Bool)) 1152921504606846976 (shl .i64 1 a0_0) 0 a0_0 l0_1) else (none))) else (some (([] : List (List Bool)), 2)))) = some (r1, r2) := h
  clear h
  replace H := Option.bind_eq_some_iff.mp H
  obtain ⟨t517, A20, H⟩ := H
  replace H : (if t517 = true then (if a0_0 > 12 then (some (([] : List (List Bool)), 3)) else (if 0 ≤ a0_0 then (cantingref07_Sides.l0 k ([] : List (List Bool)) 1152921504606846976 (shl .i64 1 a0_0) 0 a0_0 l0_1) else (none))) else (some (([] : List (List Bool)), 2))) = some (r1, r2) := H
  have A2 := Aside0.mk A20
  clear A20
  by_cases c3 : t517 = true
  · subst c3
    have H1 : (if a0_0 > 12 then (some (([] : List (List Bool)), 3)) else (if 0 ≤ a0_0 then (cantingref07_Sides.l0 k ([] : List (List Bool)) 1152921504606846976 (shl .i64 1 a0_0) 0 a0_0 l0_1) else (none))) = some (r1, r2) := by rw [if_pos rfl] at H; exact H
    clear H
    have H := H1
    clear H1
    by_cases c4 : a0_0 > 12
    · rw [if_pos c4] at H
      have c4b0 : decide (12 < a0_0) = true := decide_eq_true c4
      (try (have c4b0_0 := c4b0; rw [hl7_2] at c4b0_0))
      clear c4
      simp only [Option.some.injEq, Prod.mk.injEq] at H
      obtain ⟨rfl, rfl⟩ := H
      go_enter Try.func39, Try.ntmps39
      go_wp2_with (first | ((with_reducible refine gate_dst (N := 1) rfl ?_); refine box_event ?hg (N := 1) ?hd (cs := #[.int .i64 a0_0, .slice A0_1 l0_1.length c0_1]) (t := 24) ?hr ?_; (case hd => rfl); (case hg => rfl); (case hr => first | (go_simp; done) | (go_simp; rfl)); intro gb516 hg w5 hbox hb; have n0_ := Aside0.mk (below_step (by repeat (first | (with_reducible first | exact HB.out | apply below_alloc | apply pw_below_drewN | apply below_drew1) | exact HB.out)) hb); have n1_ := Aside0.mk (hbox); have n2_ := Aside0.mk ((by rw [hg]; exact (below_size (by repeat (first | (with_reducible first | exact HB.out | apply below_alloc | apply pw_below_drewN | apply below_drew1) | exact HB.out))) : w.heap.size ≤ gb516)); have n3_ := Aside0.mk ((by rw [hg]; exact (below_size (by repeat (first | (with_reducible first | exact HB.out | apply below_alloc | apply pw_below_drewN | apply below_drew1) | exact HB.out))) : w.heap.size ≤ gb516)); clear HB; have HB := n0_; have BK516 := n1_; have GW516 := n2_; have GE516 := n3_; clear n0_ n1_ n2_ n3_; clear hb hbox hg; have hcz6_0 : w5.cell? ⟨gb516, 0, none⟩ = some (.int .i64 a0_0) := (blk_cell BK516.out 0).trans rfl; have hcz6_1 : w5.cell? ⟨gb516, 1, none⟩ = some (.slice A0_1 l0_1.length c0_1) := (blk_cell BK516.out 1).trans rfl; have hfz6_0 := blk_frozen BK516.out 0; have hfz6_1 := blk_frozen BK516.out 1) | ((with_reducible refine gate_callee (f := 53) rfl ?_); refine goesL_ (some 12) rfl rfl Try.func53 (by kernel_rfl) rfl #[.agg #[.int .i64 a0_0, .slice A0_1 l0_1.length c0_1]] rfl (by (try simp only [List.map_toArray, List.map_cons, List.map_nil]); first | done | rfl | (simp only [List.length_drop, List.length_take]; rfl)) ?_; (with_reducible refine (cantingref07_Valid.calls k a0_0 _ _ l0_1 true _ ?side1 ?side2 A2.out).mono ?_); (case side1 => repeat (first | exact (Kd.C_below HR0_1.out HB.out) | (with_reducible refine Kd.C_alloc ?_ _) | (with_reducible refine Kd.C_drewN ?_ _) | (with_reducible refine Kd.C_drew ?_))); (case side2 => exact HC0_1.out); rintro e w7 ⟨rfl, hb⟩; refine ⟨_, rfl, ?_⟩; have n0_ := Aside0.mk (blk_below (g := gb516) (o := .cells #[.int .i64 a0_0, .slice A0_1 l0_1.length c0_1] 24 (0, 0)) (by (with_reducible repeat (first | refine blk_drewN ?_ _ | refine blk_drew ?_ | refine blk_alloc ?_ _)); exact BK516.out) hb); have n1_ := Aside0.mk (below_step (by repeat (first | (with_reducible first | exact HB.out | apply below_alloc | apply pw_below_drewN | apply below_drew1 | refine below_set ?_ GE516.out) | exact HB.out)) hb); clear BK516; clear HB; have BK516 := n0_; have HB := n1_; clear n0_ n1_; (try clear hb); (try clear hb2); (try clear hk); (try clear hi); have hcz8_0 : w7.cell? ⟨gb516, 0, none⟩ = some (.int .i64 a0_0) := (blk_cell BK516.out 0).trans rfl; have hcz8_1 : w7.cell? ⟨gb516, 1, none⟩ = some (.slice A0_1 l0_1.length c0_1) := (blk_cell BK516.out 1).trans rfl; have hfz8_0 := blk_frozen BK516.out 0; have hfz8_1 := blk_frozen BK516.out 1))
      go_ret2
      exact ⟨_, by first | rfl | (simp [errW_none, errW_some] <;> rfl) | (simp [*, errW_none, errW_some] <;> rfl), by first | exact Kd.S_nil _ _ _ _ _ | exact Kd.N_nil _ _ _ _ _ | exact Kd.V_nil _ _ _ _ _ | exact Kd.Q_nil _ _ _ _ _ | exact Kd.R_nil _ _ _ _ _, by repeat (first | (with_reducible first | exact HB.out | apply below_alloc | apply pw_below_drewN | apply below_drew1 | refine below_set ?_ GE516.out) | exact HB.out)⟩
    · rw [if_neg c4] at H
      have c4b0 : decide (12 < a0_0) = false := decide_eq_false c4
      (try (have c4b0_0 := c4b0; rw [hl7_2] at c4b0_0))
      clear c4
      by_cases c9 : 0 ≤ a0_0
      · rw [if_pos c9] at H
        have c9b0 := eq_true c9
        (try (have c9b0_0 := c9b0; rw [hl7_2] at c9b0_0))
        have c9b1 : decide (0 ≤ a0_0) = true := decide_eq_true c9
        (try (have c9b1_0 := c9b1; rw [hl7_2] at c9b1_0))
        clear c9
        obtain ⟨ji10, hji10⟩ : ∃ j_ : Int, (shl .i64 1 a0_0) = j_ := ⟨_, rfl⟩
        replace H : (cantingref07_Sides.l0 k ([] : List (List Bool)) 1152921504606846976 ji10 0 a0_0 l0_1) = some (r1, r2) := by first | (rw [hji10] at H; exact H) | (simp only [hji10] at H ⊢; exact H)
        (try rw [hji10] at A2)
        have hji10_ : (IntKind.i64.wrap (1 * 2 ^ min a0_0.toNat 64)) = ji10 := hji10
        have hji10z : a0_0 ≤ 64 → (IntKind.i64.wrap (1 * 2 ^ a0_0.toNat)) = ji10 := shl_small hji10
        have hji10u : (IntKind.i64.wrap (2 ^ min a0_0.toNat 64)) = ji10 := by have h_ := hji10_; rw [Int.one_mul] at h_; exact h_
        have hji10v : a0_0 ≤ 64 → (IntKind.i64.wrap (2 ^ a0_0.toNat)) = ji10 := fun hle_ => by have h_ := hji10z hle_; rw [Int.one_mul] at h_; exact h_
        have hji10y : (wrap64 (1 * 2 ^ min a0_0.toNat 64)) = ji10 := (i64_w _).symm.trans hji10_
        have hji10x : a0_0 ≤ 64 → (wrap64 (1 * 2 ^ a0_0.toNat)) = ji10 := fun h_ => (i64_w _).symm.trans (hji10z h_)
        have H' := Aside0.mk H
        clear H
        go_enter Try.func39, Try.ntmps39
        go_wp2_with (first | ((with_reducible refine gate_dst (N := 1) rfl ?_); refine box_event ?hg (N := 1) ?hd (cs := #[.int .i64 a0_0, .slice A0_1 l0_1.length c0_1]) (t := 24) ?hr ?_; (case hd => rfl); (case hg => rfl); (case hr => first | (go_simp; done) | (go_simp; rfl)); intro gb516 hg w11 hbox hb; have n0_ := Aside0.mk (below_step (by repeat (first | (with_reducible first | exact HB.out | apply below_alloc | apply pw_below_drewN | apply below_drew1) | exact HB.out)) hb); have n1_ := Aside0.mk (hbox); have n2_ := Aside0.mk ((by rw [hg]; exact (below_size (by repeat (first | (with_reducible first | exact HB.out | apply below_alloc | apply pw_below_drewN | apply below_drew1) | exact HB.out))) : w.heap.size ≤ gb516)); have n3_ := Aside0.mk ((by rw [hg]; exact (below_size (by repeat (first | (with_reducible first | exact HB.out | apply below_alloc | apply pw_below_drewN | apply below_drew1) | exact HB.out))) : w.heap.size ≤ gb516)); clear HB; have HB := n0_; have BK516 := n1_; have GW516 := n2_; have GE516 := n3_; clear n0_ n1_ n2_ n3_; clear hb hbox hg; have hcz12_0 : w11.cell? ⟨gb516, 0, none⟩ = some (.int .i64 a0_0) := (blk_cell BK516.out 0).trans rfl; have hcz12_1 : w11.cell? ⟨gb516, 1, none⟩ = some (.slice A0_1 l0_1.length c0_1) := (blk_cell BK516.out 1).trans rfl; have hfz12_0 := blk_frozen BK516.out 0; have hfz12_1 := blk_frozen BK516.out 1) | ((with_reducible refine gate_callee (f := 53) rfl ?_); refine goesL_ (some 12) rfl rfl Try.func53 (by kernel_rfl) rfl #[.agg #[.int .i64 a0_0, .slice A0_1 l0_1.length c0_1]] rfl (by (try simp only [List.map_toArray, List.map_cons, List.map_nil]); first | done | rfl | (simp only [List.length_drop, List.length_take]; rfl)) ?_; (with_reducible refine (cantingref07_Valid.calls k a0_0 _ _ l0_1 true _ ?side1 ?side2 A2.out).mono ?_); (case side1 => repeat (first | exact (Kd.C_below HR0_1.out HB.out) | (with_reducible refine Kd.C_alloc ?_ _) | (with_reducible refine Kd.C_drewN ?_ _) | (with_reducible refine Kd.C_drew ?_))); (case side2 => exact HC0_1.out); rintro e w13 ⟨rfl, hb⟩; refine ⟨_, rfl, ?_⟩; have n0_ := Aside0.mk (blk_below (g := gb516) (o := .cells #[.int .i64 a0_0, .slice A0_1 l0_1.length c0_1] 24 (0, 0)) (by (with_reducible repeat (first | refine blk_drewN ?_ _ | refine blk_drew ?_ | refine blk_alloc ?_ _)); exact BK516.out) hb); have n1_ := Aside0.mk (below_step (by repeat (first | (with_reducible first | exact HB.out | apply below_alloc | apply pw_below_drewN | apply below_drew1 | refine below_set ?_ GE516.out) | exact HB.out)) hb); clear BK516; clear HB; have BK516 := n0_; have HB := n1_; clear n0_ n1_; (try clear hb); (try clear hb2); (try clear hk); (try clear hi); have hcz14_0 : w13.cell? ⟨gb516, 0, none⟩ = some (.int .i64 a0_0) := (blk_cell BK516.out 0).trans rfl; have hcz14_1 : w13.cell? ⟨gb516, 1, none⟩ = some (.slice A0_1 l0_1.length c0_1) := (blk_cell BK516.out 1).trans rfl; have hfz14_0 := blk_frozen BK516.out 0; have hfz14_1 := blk_frozen BK516.out 1))
        go_loopg [4, 5, 20] k (fun kq v4 v5 v20 w' => ∃ (x4_1 : List (List Bool)) (x5_1 : Int) (x20_1 : Int), v5 = .int .i64 x5_1 ∧ v20 = .int .i64 x20_1 ∧ Aside0 (cantingref07_Sides.l0 kq x4_1 x5_1 ji10 x20_1 a0_0 l0_1 = some (r1, r2)) ∧ Aside0 (kq ≤ k) ∧ Aside0 (Kd.S (Kd.slice 4 Kd.bool) 45 w' w.heap.size (fun _ => True) v4 x4_1) ∧ Aside0 (w'.heap[gb516]? = some (.cells #[.int .i64 a0_0, (.slice A0_1 l0_1.length c0_1)] 24 (0, 0))) ∧ Aside0 (Below w.heap.size w w'))
        case atStart => exact ⟨(([] : List (List Bool))), (1152921504606846976), (0), (by first | rfl | (simp; done) | (simp [*]; done)), (by first | rfl | (simp; done) | (simp [*]; done)), H', ⟨Nat.le_refl _⟩, ⟨by first | exact Kd.S_nil _ _ _ _ _ | exact Kd.N_nil _ _ _ _ _ | exact Kd.V_nil _ _ _ _ _ | exact Kd.Q_nil _ _ _ _ _ | exact Kd.R_nil _ _ _ _ _⟩, ⟨by (with_reducible repeat (first | refine blk_drewN ?_ _ | refine blk_drew ?_ | refine blk_alloc ?_ _)); exact BK516.out⟩, ⟨by repeat (first | (with_reducible first | exact HB.out | apply below_alloc | apply pw_below_drewN | apply below_drew1 | refine below_set ?_ GE516.out) | exact HB.out)⟩⟩
        case round =>
          clear H'
          try clear p2
          try clear c3
          try clear c4
          try clear c4b0
          try clear c5
          try clear p6
          try clear c9
          try clear c9b0
          try clear c9b1
          try clear hcz12_0
          try clear hcz12_1
          try clear hcz14_0
          try clear hcz14_1
          try clear hcz6_0
          try clear hcz6_1
          try clear hcz8_0
          try clear hcz8_1
          try clear hfz12_0
          try clear hfz12_1
          try clear hfz14_0
          try clear hfz14_1
          try clear hfz6_0
          try clear hfz6_1
          try clear hfz8_0
          try clear hfz8_1
          obtain ⟨x4_1, x5_1, x20_1, rfl, rfl, HA, HK1, HO_4, BK516, HB⟩ := hrel
          cases gk with
          | zero => exact absurd HA.out (by simp [cantingref07_Sides.l0])
          | succ k1 =>
            have H := HA.out
            clear HA
            simp only [cantingref07_Sides.l0] at H
            by_cases c15 : x20_1 < ji10
            · rw [if_pos c15] at H
              have c15b0 : decide (x20_1 < ji10) = true := decide_eq_true c15
              (try (have c15b0_0 := c15b0; rw [hl7_2] at c15b0_0))
              clear c15
              by_cases c16 : 0 ≤ a0_0
              · rw [if_pos c16] at H
                have c16b0 := eq_true c16
                (try (have c16b0_0 := c16b0; rw [hl7_2] at c16b0_0))
                have c16b1 : decide (0 ≤ a0_0) = true := decide_eq_true c16
                (try (have c16b1_0 := c16b1; rw [hl7_2] at c16b1_0))
                clear c16
                by_cases c17 : (a0_0 : Int).toNat ≤ 281474976710656
                · rw [if_pos c17] at H
                  have c17b0 := eq_true c17
                  (try (have c17b0_0 := c17b0; rw [hl7_2] at c17b0_0))
                  have c17b1 : decide ((a0_0 : Int).toNat ≤ 281474976710656) = true := decide_eq_true c17
                  (try (have c17b1_0 := c17b1; rw [hl7_2] at c17b1_0))
                  clear c17
                  obtain ⟨y518, hy518⟩ : ∃ y_ : List Bool, y_ = (List.replicate (a0_0 : Int).toNat false) := ⟨_, rfl⟩
                  replace H : (cantingref07_Sides.l1 k1 x4_1 x5_1 x20_1 y518 ji10 x20_1 (y518.length : Int) 0 a0_0 l0_1) = some (r1, r2) := by first | (rw [hy518]; with_reducible exact H) | (have H2_ := (Option.bind_some _ _).symm.trans H; rw [hy518]; with_reducible exact H2_) | (have H2_ := (Option.bind_some _ _).symm.trans H; with_reducible exact H2_) | with_reducible exact H | (rw [hy518]; exact H) | exact H
                  have Ny518 := Aside0.mk hy518
                  clear hy518
                  have H' := Aside0.mk H
                  clear H
                  have hcz18_0 : wr.cell? ⟨gb516, 0, none⟩ = some (.int .i64 a0_0) := (blk_cell BK516.out 0).trans rfl
                  have hcz18_1 : wr.cell? ⟨gb516, 1, none⟩ = some (.slice A0_1 l0_1.length c0_1) := (blk_cell BK516.out 1).trans rfl
                  have hfz18_0 := blk_frozen BK516.out 0
                  have hfz18_1 := blk_frozen BK516.out 1
                  go_wp2_with (first | ((with_reducible refine gate_dst (N := 25) rfl ?_); refine Kd.R_make Kd.bool _ 4 rfl (N := 25) rfl 45 _ _ rfl a0_0 rfl rfl Try.underlying45 (.bool false) 1 info4 rfl (by decide) (by omega) false (ok := fun _ => True) (okp := fun _ => True) rfl (fun _ hk => hk) trivial (of_decide_eq_true (by first | (with_reducible assumption) | assumption)) (Nat.le_trans (Nat.mul_le_mul_right _ (of_decide_eq_true (by first | (with_reducible assumption) | assumption) : a0_0.toNat ≤ 281474976710656)) (by omega)) (Below.refl _ _) (Nat.le_refl _) ?_; intro v519 w19 ho20 hb hg_ hnew_; clear hg_ hnew_; (first | rw [← Ny518.out] at ho20 | (simp only [Int.reduceToNat] at ho20; rw [← Ny518.out] at ho20)); have n0_ := Aside0.mk (Kd.S_elder' (by (with_reducible repeat (first | apply Kd.S_alloc | apply Kd.S_drewN | apply Kd.S_drew)); exact HO_4.out) (Kd.R_base ho20) hb); have n1_ := Aside0.mk (Kd.R_lower ho20 (below_size (by repeat (first | (with_reducible first | exact HB.out | apply below_alloc | apply pw_below_drewN | apply below_drew1 | refine below_set ?_ GE516.out) | exact HB.out)))); have n2_ := Aside0.mk (blk_below (g := gb516) (o := .cells #[.int .i64 a0_0, .slice A0_1 l0_1.length c0_1] 24 (0, 0)) (by (with_reducible repeat (first | refine blk_drewN ?_ _ | refine blk_drew ?_ | refine blk_alloc ?_ _)); exact BK516.out) hb); have n3_ := Aside0.mk (below_step (by repeat (first | (with_reducible first | exact HB.out | apply below_alloc | apply pw_below_drewN | apply below_drew1 | refine below_set ?_ GE516.out) | exact HB.out)) hb); clear HO_4; clear BK516; clear HB; have HO_4 := n0_; have HO520 := n1_; have BK516 := n2_; have HB := n3_; clear n0_ n1_ n2_ n3_; clear hb ho20; obtain ⟨Ao21, co21, eo21⟩ := Kd.R_slice HO520.out; subst eo21))
                  go_loopg [28] k1 (fun kq v28 w' => ∃ (x7_2 : List Bool) (x28_2 : Int), v28 = .int .i64 x28_2 ∧ Aside0 (cantingref07_Sides.l1 kq x4_1 x5_1 x20_1 x7_2 ji10 x20_1 (y518.length : Int) x28_2 a0_0 l0_1 = some (r1, r2)) ∧ Aside0 (kq ≤ k1) ∧ Aside0 (Kd.S (Kd.slice 4 Kd.bool) 45 w' w.heap.size (fun k_ => some k_ ≠ ((.slice Ao21 y518.length co21) : Value).ownBlock) u4 x4_1) ∧ Aside0 (Kd.R Kd.bool 4 w' w.heap.size (fun _ => True) (.slice Ao21 y518.length co21) x7_2) ∧ Aside0 (w'.heap[gb516]? = some (.cells #[.int .i64 a0_0, (.slice A0_1 l0_1.length c0_1)] 24 (0, 0))) ∧ Aside0 (Below w.heap.size w w'))
                  case atStart => exact ⟨(y518), (0), (by first | rfl | (simp; done) | (simp [*]; done)), H', ⟨Nat.le_refl _⟩, ⟨by (with_reducible repeat (first | apply Kd.S_alloc | apply Kd.S_drewN | apply Kd.S_drew)); exact Kd.S_mono HO_4.out (fun _ hk => hk.2)⟩, ⟨by (with_reducible repeat (first | apply Kd.R_alloc | apply Kd.R_drewN | apply Kd.R_drew)); exact HO520.out⟩, ⟨by (with_reducible repeat (first | refine blk_drewN ?_ _ | refine blk_drew ?_ | refine blk_alloc ?_ _)); exact BK516.out⟩, ⟨by repeat (first | (with_reducible first | exact HB.out | apply below_alloc | apply pw_below_drewN | apply below_drew1 | refine below_set ?_ GE516.out) | exact HB.out)⟩⟩
                  case round =>
                    clear H'
                    try clear c1
                    try clear p2
                    try clear c3
                    try clear c4
                    try clear c4b0
                    try clear c5
                    try clear p6
                    try clear c9
                    try clear c9b0
                    try clear c9b1
                    try clear c15
                    try clear c15b0
                    try clear c16
                    try clear c16b0
                    try clear c16b1
                    try clear c17
                    try clear c17b0
                    try clear c17b1
                    try clear hcz12_0
                    try clear hcz12_1
                    try clear hcz14_0
                    try clear hcz14_1
                    try clear hcz18_0
                    try clear hcz18_1
                    try clear hcz6_0
                    try clear hcz6_1
                    try clear hcz8_0
                    try clear hcz8_1
                    try clear hfz12_0
                    try clear hfz12_1
                    try clear hfz14_0
                    try clear hfz14_1
                    try clear hfz18_0
                    try clear hfz18_1
                    try clear hfz6_0
                    try clear hfz6_1
                    try clear hfz8_0
                    try clear hfz8_1
                    try clear p2
                    try clear p6
                    obtain ⟨x7_2, x28_2, rfl, HA, HK2, HO_4, HO_7, BK516, HB⟩ := hrel
                    have hl7_2 := (Kd.R_reads' HO_7.out).1
                    rw [hl7_2] at HO_7
                    (try simp only [hl7_2])
                    (try simp only [hl7_2] at BK516)
                    (try simp only [hl7_2] at HO_4)
                    cases gk with
                    | zero => exact absurd HA.out (by simp [cantingref07_Sides.l1])
                    | succ k2 =>
                      have H := HA.out
                      clear HA
                      simp only [cantingref07_Sides.l1] at H
                      by_cases c22 : x28_2 < (y518.length : Int)
                      · rw [if_pos c22] at H
                        have c22b0 : decide (x28_2 < (y518.length : Int)) = true := decide_eq_true c22
                        (try (have c22b0_0 := c22b0; rw [hl7_2] at c22b0_0))
                        clear c22
                        obtain ⟨ji23, hji23⟩ : ∃ j_ : Int, (wrap64 ((wrap64 (a0_0 - 1)) - x28_2)) = j_ := ⟨_, rfl⟩
                        replace H : (if 0 ≤ (ji23) then (if 0 ≤ x28_2 then (if x28_2 < (x7_2.length : Int) then (cantingref07_Sides.l1 k2 x4_1 x5_1 x20_1 (x7_2.set (x28_2 : Int).toNat ((Go.bits .and .i64 (shr .i64 x20_1 (ji23)) 1) == 1)) ji10 x20_1 (y518.length : Int) (wrap64 (x28_2 + 1)) a0_0 l0_1) else (none)) else (none)) else (none)) = some (r1, r2) := by first | (rw [hji23] at H; exact H) | (simp only [hji23] at H ⊢; exact H)
                        have hji23w : (IntKind.i64.wrap ((wrap64 (a0_0 - 1)) - x28_2)) = ji23 := (i64_w _).trans hji23
                        by_cases c24 : 0 ≤ (ji23)
                        · rw [if_pos c24] at H
                          have c24b0 := eq_true c24
                          (try (have c24b0_0 := c24b0; rw [hl7_2] at c24b0_0))
                          have c24b1 : decide (0 ≤ (ji23)) = true := decide_eq_true c24
                          (try (have c24b1_0 := c24b1; rw [hl7_2] at c24b1_0))
                          clear c24
                          obtain ⟨ji25, hji25⟩ : ∃ j_ : Int, (shr .i64 x20_1 (ji23)) = j_ := ⟨_, rfl⟩
                          replace H : (if 0 ≤ x28_2 then (if x28_2 < (x7_2.length : Int) then (cantingref07_Sides.l1 k2 x4_1 x5_1 x20_1 (x7_2.set (x28_2 : Int).toNat ((Go.bits .and .i64 (ji25) 1) == 1)) ji10 x20_1 (y518.length : Int) (wrap64 (x28_2 + 1)) a0_0 l0_1) else (none)) else (none)) = some (r1, r2) := by first | (rw [hji25] at H; exact H) | (simp only [hji25] at H ⊢; exact H)
                          have hji25_ : (x20_1 / 2 ^ min (ji23).toNat 64) = ji25 := hji25
                          have hji25z : (ji23) ≤ 64 → (x20_1 / 2 ^ (ji23).toNat) = ji25 := shr_small hji25
                          by_cases c26 : 0 ≤ x28_2
                          · rw [if_pos c26] at H
                            have c26b0 : decide (0 ≤ x28_2) = true := decide_eq_true c26
                            (try (have c26b0_0 := c26b0; rw [hl7_2] at c26b0_0))
                            clear c26
                            by_cases c27 : x28_2 < (x7_2.length : Int)
                            · rw [if_pos c27] at H
                              have c27b0 : decide (x28_2 < (x7_2.length : Int)) = true := decide_eq_true c27
                              (try (have c27b0_0 := c27b0; rw [hl7_2] at c27b0_0))
                              clear c27
                              obtain ⟨y521, hy521⟩ : ∃ y_ : List Bool, y_ = (x7_2.set (x28_2 : Int).toNat ((Go.bits .and .i64 (ji25) 1) == 1)) := ⟨_, rfl⟩
                              replace H : (cantingref07_Sides.l1 k2 x4_1 x5_1 x20_1 y521 ji10 x20_1 (y518.length : Int) (wrap64 (x28_2 + 1)) a0_0 l0_1) = some (r1, r2) := by first | (rw [hy521]; with_reducible exact H) | (have H2_ := (Option.bind_some _ _).symm.trans H; rw [hy521]; with_reducible exact H2_) | (have H2_ := (Option.bind_some _ _).symm.trans H; with_reducible exact H2_) | with_reducible exact H | (rw [hy521]; exact H) | exact H
                              have Ny521 := Aside0.mk hy521
                              clear hy521
                              have H' := Aside0.mk H
                              clear H
                              have hcz29_0 : wr.cell? ⟨gb516, 0, none⟩ = some (.int .i64 a0_0) := (blk_cell BK516.out 0).trans rfl
                              have hcz29_1 : wr.cell? ⟨gb516, 1, none⟩ = some (.slice A0_1 l0_1.length c0_1) := (blk_cell BK516.out 1).trans rfl
                              have hfz29_0 := blk_frozen BK516.out 0
                              have hfz29_1 := blk_frozen BK516.out 1
                              have p28 : 0 ≤ (x28_2 : Int) := of_decide_eq_true (by first | (with_reducible assumption) | assumption)
                              have q28 : (x28_2 : Int) < ((x7_2.length : Int) : Int) := of_decide_eq_true (by first | (with_reducible assumption) | assumption)
                              obtain ⟨go28, co28, eo28, gb28, gl28, cl28, HG28⟩ := Kd.R_form HO_7.out (by omega)
                              (first | cases eo28 | (injection eo28 with ea_ en_ ec_; (first | subst ea_ | (injection ea_ with ea_; subst ea_)); subst ec_; clear en_))
                              have GB28 := Aside0.mk gb28
                              have GG28 := Aside0.mk HG28
                              clear gb28 gl28 HG28
                              obtain ⟨hx28_0, hf28_0⟩ := Kd.R_celln false HO_7.out (x28_2 : Int) p28 q28
                              replace p28 := eq_true p28
                              replace q28 := eq_true q28
                              have HP30 := Kd.R_putg HO_7.out (x28_2 : Int) ((Go.bits .and .i64 (ji25) 1) == 1)
                              go_wp2_with (first | ((with_reducible refine gate_store (t := 4) (p := 42) rfl ?_); refine store_event (t := 4) (p := 42) (v := ?vo_w31) (w1 := (wr.setCell ⟨go28, (x28_2 : Int).toNat, none⟩ (.bool ((Go.bits .and .i64 (ji25) 1) == 1)))) ?hg ?ho ?hn ?hr ?_; (case ho => rfl); (case hg => rfl); (case hn => rfl); (case hr => first | (go_simp; done) | (go_simp; rfl)); intro w31 hw; have hg : wr.grownBy w31 (some go28) := (by rw [hw]; exact HP30.2); have hp_ : Kd.R Kd.bool 4 w31 w.heap.size (fun _ => True) (.slice (some ⟨go28, 0, none⟩) x7_2.length co21) y521 := (by rw [hw, Ny521.out]; exact HP30.1); clear HP30; have n0_ := Aside0.mk (Kd.S_after (v := (.slice (some ⟨go28, 0, none⟩) x7_2.length co21)) (v1 := (.slice (some ⟨go28, 0, none⟩) x7_2.length co21)) (ok := (fun _ => True)) (by (with_reducible repeat (first | apply Kd.S_alloc | apply Kd.S_drewN | apply Kd.S_drew)); exact Kd.S_mono HO_4.out (fun _ hk => ⟨trivial, hk⟩)) hg (.inl rfl)); have n1_ := Aside0.mk (hp_); have n2_ := Aside0.mk (blk_grown (g := gb516) (o := .cells #[.int .i64 a0_0, .slice A0_1 l0_1.length c0_1] 24 (0, 0)) (by (with_reducible repeat (first | refine blk_drewN ?_ _ | refine blk_drew ?_ | refine blk_alloc ?_ _)); exact BK516.out) hg (Kd.R_ne HO_7.out BK516.out (by decide))); have n3_ := Aside0.mk ((by rw [hw]; exact below_set (HB.out) GB28.out : Below w.heap.size w w31)); clear HO_4; clear HO_7; clear BK516; clear HB; have HO_4 := n0_; have HO_7 := n1_; have BK516 := n2_; have HB := n3_; clear n0_ n1_ n2_ n3_; clear hg hw hp_))
                              (try simp only [← hl7_2])
                              go_roundg k2
                              case measure => have := HK1.out; have := HK2.out; omega
                              case rel => exact ⟨(y521), (wrap64 (x28_2 + 1)), (by first | rfl | (simp; done) | (simp [*]; done)), H', ⟨by have := HK1.out; have := HK2.out; omega⟩, ⟨by (try simp only [hl7_2]); (with_reducible repeat (first | apply Kd.S_alloc | apply Kd.S_drewN | apply Kd.S_drew)); exact Kd.S_mono HO_4.out (fun _ hk => hk.2)⟩, ⟨by (try simp only [hl7_2]); (with_reducible repeat (first | apply Kd.R_alloc | apply Kd.R_drewN | apply Kd.R_drew)); exact HO_7.out⟩, ⟨by (try simp only [hl7_2]); (with_reducible repeat (first | refine blk_drewN ?_ _ | refine blk_drew ?_ | refine blk_alloc ?_ _)); exact BK516.out⟩, ⟨by repeat (first | (with_reducible first | exact HB.out | apply below_alloc | apply pw_below_drewN | apply below_drew1 | refine below_set ?_ GE516.out) | exact HB.out)⟩⟩
                            · rw [if_neg c27] at H
                              exact absurd H (by simp)
                          · rw [if_neg c26] at H
                            exact absurd H (by simp)
                        · rw [if_neg c24] at H
                          exact absurd H (by simp)
                      · rw [if_neg c22] at H
                        have c22b0 : decide (x28_2 < (y518.length : Int)) = false := decide_eq_false c22
                        (try (have c22b0_0 := c22b0; rw [hl7_2] at c22b0_0))
                        clear c22
                        replace H := Option.bind_eq_some_iff.mp H
                        obtain ⟨⟨t522, t523⟩, A320, H⟩ := H
                        replace H : (if t523 = true then (cantingref07_Sides.j2 k2 x4_1 x5_1 x7_2 t522 ji10 x20_1 (decide (t522 > x5_1)) a0_0 l0_1) else (cantingref07_Sides.j2 k2 x4_1 x5_1 x7_2 t522 ji10 x20_1 true a0_0 l0_1)) = some (r1, r2) := H
                        have A32 := Aside0.mk A320
                        clear A320
                        have HC33 := Aside0.mk H
                        clear H
                        have hcz34_0 : wr.cell? ⟨gb516, 0, none⟩ = some (.int .i64 a0_0) := (blk_cell BK516.out 0).trans rfl
                        have hcz34_1 : wr.cell? ⟨gb516, 1, none⟩ = some (.slice A0_1 l0_1.length c0_1) := (blk_cell BK516.out 1).trans rfl
                        have hfz34_0 := blk_frozen BK516.out 0
                        have hfz34_1 := blk_frozen BK516.out 1
                        go_upto_region 17 with (first | ((with_reducible refine gate_callee (f := 35) rfl ?_); refine goesL_ (some 47) rfl rfl Try.func35 (by kernel_rfl) rfl #[.agg #[.int .i64 a0_0, .slice A0_1 l0_1.length c0_1], .slice Ao21 x7_2.length co21] rfl (by (try simp only [List.map_toArray, List.map_cons, List.map_nil]); first | done | rfl | (simp only [List.length_drop, List.length_take]; rfl)) ?_; (with_reducible refine (cantingref07_Side.calls k2 a0_0 _ _ l0_1 _ _ x7_2 t522 t523 _ ?side1 ?side2 ?side3 ?side4 A32.out).mono ?_); (case side1 => repeat (first | exact (Kd.C_below HR0_1.out HB.out) | (with_reducible refine Kd.C_alloc ?_ _) | (with_reducible refine Kd.C_drewN ?_ _) | (with_reducible refine Kd.C_drew ?_))); (case side2 => exact HC0_1.out); (case side3 => repeat (first | exact (Kd.R_reads' HO_7.out).2.2 | (with_reducible refine Kd.C_alloc ?_ _) | (with_reducible refine Kd.C_drewN ?_ _) | (with_reducible refine Kd.C_drew ?_))); (case side4 => exact (Kd.R_reads' HO_7.out).2.1); rintro e w35 ⟨rfl, hb⟩; refine ⟨_, rfl, ?_⟩; have n0_ := Aside0.mk (Kd.S_below (by (with_reducible repeat (first | apply Kd.S_alloc | apply Kd.S_drewN | apply Kd.S_drew)); exact HO_4.out) hb); have n1_ := Aside0.mk (Kd.R_below (by (with_reducible repeat (first | apply Kd.R_alloc | apply Kd.R_drewN | apply Kd.R_drew)); exact HO_7.out) hb); have n2_ := Aside0.mk (blk_below (g := gb516) (o := .cells #[.int .i64 a0_0, .slice A0_1 l0_1.length c0_1] 24 (0, 0)) (by (with_reducible repeat (first | refine blk_drewN ?_ _ | refine blk_drew ?_ | refine blk_alloc ?_ _)); exact BK516.out) hb); have n3_ := Aside0.mk (below_step (by repeat (first | (with_reducible first | exact HB.out | apply below_alloc | apply pw_below_drewN | apply below_drew1 | refine below_set ?_ GE516.out) | exact HB.out)) hb); clear HO_4; clear HO_7; clear BK516; clear HB; have HO_4 := n0_; have HO_7 := n1_; have BK516 := n2_; have HB := n3_; clear n0_ n1_ n2_ n3_; (try clear hb); (try clear hb2); (try clear hk); (try clear hi)))
                        (try simp only [Act.put, List.setIfInBounds_toArray, List.set_cons_zero, List.set_cons_succ])
                        go_cut [56] (fun v56 wc => ∃ (kq : Nat) (x56_32 : Bool), v56 = .bool x56_32 ∧ Aside0 (cantingref07_Sides.j2 kq x4_1 x5_1 x7_2 t522 ji10 x20_1 x56_32 a0_0 l0_1 = some (r1, r2)) ∧ Aside0 (kq ≤ k2) ∧ Aside0 (Kd.S (Kd.slice 4 Kd.bool) 45 wc w.heap.size (fun k_ => some k_ ≠ ((.slice Ao21 x7_2.length co21) : Value).ownBlock) u4 x4_1) ∧ Aside0 (Kd.R Kd.bool 4 wc w.heap.size (fun _ => True) (.slice Ao21 x7_2.length co21) x7_2) ∧ Aside0 (wc.heap[gb516]? = some (.cells #[.int .i64 a0_0, (.slice A0_1 l0_1.length c0_1)] 24 (0, 0))) ∧ Aside0 (Below w.heap.size w wc))
                        case first =>
                          have H := HC33.out
                          clear HC33
                          by_cases c36 : t523 = true
                          · subst c36
                            have H1 : (cantingref07_Sides.j2 k2 x4_1 x5_1 x7_2 t522 ji10 x20_1 (decide (t522 > x5_1)) a0_0 l0_1) = some (r1, r2) := by rw [if_pos rfl] at H; exact H
                            clear H
                            have H := H1
                            clear H1
                            have H' := Aside0.mk H
                            clear H
                            go_wp2
                            go_meet
                            case rel => exact ⟨_, (decide (t522 > x5_1)), (by first | rfl | (simp; done) | (simp [*]; done)), H', ⟨by have := HK1.out; have := HK2.out; first | omega | exact Nat.le_refl _⟩, ⟨by (try simp only [hl7_2]); (with_reducible repeat (first | apply Kd.S_alloc | apply Kd.S_drewN | apply Kd.S_drew)); exact HO_4.out⟩, ⟨by (try simp only [hl7_2]); (with_reducible repeat (first | apply Kd.R_alloc | apply Kd.R_drewN | apply Kd.R_drew)); exact HO_7.out⟩, ⟨by (try simp only [hl7_2]); (with_reducible repeat (first | refine blk_drewN ?_ _ | refine blk_drew ?_ | refine blk_alloc ?_ _)); exact BK516.out⟩, ⟨by repeat (first | (with_reducible first | exact HB.out | apply below_alloc | apply pw_below_drewN | apply below_drew1 | refine below_set ?_ GE516.out) | exact HB.out)⟩⟩
                          · replace c36 := Bool.eq_false_iff.mpr c36
                            subst c36
                            have H1 : (cantingref07_Sides.j2 k2 x4_1 x5_1 x7_2 t522 ji10 x20_1 true a0_0 l0_1) = some (r1, r2) := by rw [if_neg (show ¬ (false = true) by decide)] at H; exact H
                            clear H
                            have H := H1
                            clear H1
                            have H' := Aside0.mk H
                            clear H
                            go_wp2
                            go_meet
                            case rel => exact ⟨_, (true), (by first | rfl | (simp; done) | (simp [*]; done)), H', ⟨by have := HK1.out; have := HK2.out; first | omega | exact Nat.le_refl _⟩, ⟨by (try simp only [hl7_2]); (with_reducible repeat (first | apply Kd.S_alloc | apply Kd.S_drewN | apply Kd.S_drew)); exact HO_4.out⟩, ⟨by (try simp only [hl7_2]); (with_reducible repeat (first | apply Kd.R_alloc | apply Kd.R_drewN | apply Kd.R_drew)); exact HO_7.out⟩, ⟨by (try simp only [hl7_2]); (with_reducible repeat (first | refine blk_drewN ?_ _ | refine blk_drew ?_ | refine blk_alloc ?_ _)); exact BK516.out⟩, ⟨by repeat (first | (with_reducible first | exact HB.out | apply below_alloc | apply pw_below_drewN | apply below_drew1 | refine below_set ?_ GE516.out) | exact HB.out)⟩⟩
                        case rest =>
                          clear HC33
                          try clear c1
                          try clear c2
                          try clear p2
                          try clear q2
                          try clear hx2
                          try clear hf2
                          try clear c3
                          try clear c4
                          try clear c4b0
                          try clear c5
                          try clear p6
                          try clear c9
                          try clear c9b0
                          try clear c9b1
                          try clear c15
                          try clear c15b0
                          try clear c16
                          try clear c16b0
                          try clear c16b1
                          try clear c17
                          try clear c17b0
                          try clear c17b1
                          try clear c22
                          try clear c22b0
                          try clear c24
                          try clear c24b0
                          try clear c24b1
                          try clear c26
                          try clear c26b0
                          try clear c27
                          try clear c27b0
                          try clear p28
                          try clear q28
                          try clear hx28
                          try clear hf28
                          try clear c35
                          try clear c36
                          try clear hcz12_0
                          try clear hcz12_1
                          try clear hcz14_0
                          try clear hcz14_1
                          try clear hcz18_0
                          try clear hcz18_1
                          try clear hcz29_0
                          try clear hcz29_1
                          try clear hcz34_0
                          try clear hcz34_1
                          try clear hcz6_0
                          try clear hcz6_1
                          try clear hcz8_0
                          try clear hcz8_1
                          try clear hfz12_0
                          try clear hfz12_1
                          try clear hfz14_0
                          try clear hfz14_1
                          try clear hfz18_0
                          try clear hfz18_1
                          try clear hfz29_0
                          try clear hfz29_1
                          try clear hfz34_0
                          try clear hfz34_1
                          try clear hfz6_0
                          try clear hfz6_1
                          try clear hfz8_0
                          try clear hfz8_1
                          try clear hx28_0
                          try clear p2
                          try clear p28
                          try clear p6
                          try clear q28
                          obtain ⟨kq, x56_32, rfl, HA, HJ32, HO_4, HO_7, BK516, HB⟩ := hcut
                          cases kq with
                          | zero => exact absurd HA.out (by simp [cantingref07_Sides.j2])
                          | succ kj32 =>
                            have H := HA.out
                            clear HA
                            simp only [cantingref07_Sides.j2] at H
                            by_cases c37 : x56_32 = true
                            · subst c37
                              have H1 : (cantingref07_Sides.l0 kj32 x4_1 x5_1 ji10 (wrap64 (x20_1 + 1)) a0_0 l0_1) = some (r1, r2) := by rw [if_pos rfl] at H; exact H
                              clear H
                              have H := H1
                              clear H1
                              have H' := Aside0.mk H
                              clear H
                              go_wp2
                              (try simp only [← hl7_2])
                              go_roundg kj32
                              case measure => have := HK1.out; have := HK2.out; have := HJ32.out; omega
                              case rel => exact ⟨(x4_1), (x5_1), (wrap64 (x20_1 + 1)), (by first | rfl | (simp; done) | (simp [*]; done)), (by first | rfl | (simp; done) | (simp [*]; done)), H', ⟨by have := HK1.out; have := HK2.out; have := HJ32.out; omega⟩, ⟨by (try simp only [hl7_2]); (with_reducible repeat (first | apply Kd.S_alloc | apply Kd.S_drewN | apply Kd.S_drew)); exact Kd.S_mono HO_4.out (fun _ hk => trivial)⟩, ⟨by (try simp only [hl7_2]); (with_reducible repeat (first | refine blk_drewN ?_ _ | refine blk_drew ?_ | refine blk_alloc ?_ _)); exact BK516.out⟩, ⟨by repeat (first | (with_reducible first | exact HB.out | apply below_alloc | apply pw_below_drewN | apply below_drew1 | refine below_set ?_ GE516.out) | exact HB.out)⟩⟩
                            · replace c37 := Bool.eq_false_iff.mpr c37
                              subst c37
                              have H1 : (if t522 < x5_1 then (if ([] : List (List Bool)).length < 5864062014805 then (cantingref07_Sides.l0 kj32 (([] : List (List Bool)) ++ [x7_2]) t522 ji10 (wrap64 (x20_1 + 1)) a0_0 l0_1) else (none)) else (if x4_1.length < 5864062014805 then (cantingref07_Sides.l0 kj32 (x4_1 ++ [x7_2]) t522 ji10 (wrap64 (x20_1 + 1)) a0_0 l0_1) else (none))) = some (r1, r2) := by rw [if_neg (show ¬ (false = true) by decide)] at H; exact H
                              clear H
                              have H := H1
                              clear H1
                              by_cases c38 : t522 < x5_1
                              · rw [if_pos c38] at H
                                have c38b0 : decide (t522 < x5_1) = true := decide_eq_true c38
                                (try (have c38b0_0 := c38b0; rw [hl7_2] at c38b0_0))
                                clear c38
                                by_cases c39 : ([] : List (List Bool)).length < 5864062014805
                                · rw [if_pos c39] at H
                                  have LMc39 := Aside0.mk c39
                                  clear c39
                                  obtain ⟨y524, hy524⟩ : ∃ y_ : List (List Bool), y_ = (([] : List (List Bool)) ++ [x7_2]) := ⟨_, rfl⟩
                                  replace H : (cantingref07_Sides.l0 kj32 y524 t522 ji10 (wrap64 (x20_1 + 1)) a0_0 l0_1) = some (r1, r2) := by first | (rw [hy524]; with_reducible exact H) | (have H2_ := (Option.bind_some _ _).symm.trans H; rw [hy524]; with_reducible exact H2_) | (have H2_ := (Option.bind_some _ _).symm.trans H; with_reducible exact H2_) | with_reducible exact H | (rw [hy524]; exact H) | exact H
                                  have Ny524 := Aside0.mk hy524
                                  clear hy524
                                  have H' := Aside0.mk H
                                  clear H
                                  go_wp2_with (first | ((with_reducible refine gate_builtin (b := .append) (xs := #[.tmp 61, .tmp 63]) rfl ?_); at_builtin; refine Kd.S_append (Kd.slice 4 Kd.bool) (w0 := w) w.heap.size rfl (.tmp 61) (.tmp 63) 55 45 (.slice none 0 0) 24 rfl Try.underlying55 info45 rfl (by decide) (by omega) (.slice none 0 0) ([] : List (List Bool)) x7_2 [.slice Ao21 x7_2.length co21] (fun k_ => some k_ ≠ (u4 : Value).ownBlock) (fun k_ => some k_ = (.slice Ao21 x7_2.length co21 : Value).ownBlock) rfl rfl ?aP (fun k_ hk_ => ((Kd.R_mono (ok' := fun k_ => ((fun k_ => some k_ ≠ (u4 : Value).ownBlock)) k_ ∧ some k_ ≠ (.slice none 0 0 : Value).ownBlock) (Kd.R_apart' (HO_7.out) (Kd.S_typed HO_4.out) (by decide)) (fun k_ hk => ⟨hk.2, (by simp [Value.ownBlock])⟩))).1 k_ hk_.symm) ?aF ?aO ?aB ?aS ?aL ?_; (case aP => exact Kd.M_row (Kd.R_mono (Kd.R_tight rfl (Kd.R_mono (ok' := fun k_ => ((fun k_ => some k_ ≠ (u4 : Value).ownBlock)) k_ ∧ some k_ ≠ (.slice none 0 0 : Value).ownBlock) (Kd.R_apart' (HO_7.out) (Kd.S_typed HO_4.out) (by decide)) (fun k_ hk => ⟨hk.2, (by simp [Value.ownBlock])⟩))) (fun _ h_ => h_))); (case aB => exact (by repeat (first | (with_reducible first | exact HB.out | apply below_alloc | apply pw_below_drewN | apply below_drew1 | refine below_set ?_ GE516.out) | exact HB.out))); (case aF => exact (fun k_ hk => Kd.fresh' (Kd.S_lt (by (with_reducible repeat (first | apply Kd.S_alloc | apply Kd.S_drewN | apply Kd.S_drew)); exact HO_4.out)) k_ hk)); (case aO => exact ((Kd.S_nil _ _ _ _ _))); (case aS => exact (below_size (by repeat (first | (with_reducible first | exact HB.out | apply below_alloc | apply pw_below_drewN | apply below_drew1 | refine below_set ?_ GE516.out) | exact HB.out)))); (case aL => have := LMc39.out; omega); intro v525 w40 ho hb hg hat; rw [← Ny524.out] at ho; have n0_ := Aside0.mk (Kd.S_after (Kd.S_apart_nil (by (with_reducible repeat (first | apply Kd.S_alloc | apply Kd.S_drewN | apply Kd.S_drew)); exact HO_4.out)) hg hat); have n1_ := Aside0.mk (blk_grown (g := gb516) (o := .cells #[.int .i64 a0_0, .slice A0_1 l0_1.length c0_1] 24 (0, 0)) (by (with_reducible repeat (first | refine blk_drewN ?_ _ | refine blk_drew ?_ | refine blk_alloc ?_ _)); exact BK516.out) hg (by simp [Value.ownBlock])); have n2_ := Aside0.mk (hb); have n3_ := Aside0.mk (ho); clear HO_4; clear BK516; clear HB; clear HO_7; have HO_4 := n0_; have BK516 := n1_; have HB := n2_; have HO526 := n3_; clear n0_ n1_ n2_ n3_; clear ho hb hg hat))
                                  (try simp only [← hl7_2])
                                  go_roundg kj32
                                  case measure => have := HK1.out; have := HK2.out; have := HJ32.out; omega
                                  case rel => exact ⟨(y524), (t522), (wrap64 (x20_1 + 1)), (by first | rfl | (simp; done) | (simp [*]; done)), (by first | rfl | (simp; done) | (simp [*]; done)), H', ⟨by have := HK1.out; have := HK2.out; have := HJ32.out; omega⟩, ⟨by (try simp only [hl7_2]); (with_reducible repeat (first | apply Kd.S_alloc | apply Kd.S_drewN | apply Kd.S_drew)); exact Kd.S_mono HO526.out (fun _ hk => trivial)⟩, ⟨by (try simp only [hl7_2]); (with_reducible repeat (first | refine blk_drewN ?_ _ | refine blk_drew ?_ | refine blk_alloc ?_ _)); exact BK516.out⟩, ⟨by repeat (first | (with_reducible first | exact HB.out | apply below_alloc | apply pw_below_drewN | apply below_drew1 | refine below_set ?_ GE516.out) | exact HB.out)⟩⟩
                                · rw [if_neg c39] at H
                                  exact absurd H (by simp)
                              · rw [if_neg c38] at H
                                have c38b0 : decide (t522 < x5_1) = false := decide_eq_false c38
                                (try (have c38b0_0 := c38b0; rw [hl7_2] at c38b0_0))
                                clear c38
                                by_cases c41 : x4_1.length < 5864062014805
                                · rw [if_pos c41] at H
                                  have LMc41 := Aside0.mk c41
                                  clear c41
                                  obtain ⟨y527, hy527⟩ : ∃ y_ : List (List Bool), y_ = (x4_1 ++ [x7_2]) := ⟨_, rfl⟩
                                  replace H : (cantingref07_Sides.l0 kj32 y527 t522 ji10 (wrap64 (x20_1 + 1)) a0_0 l0_1) = some (r1, r2) := by first | (rw [hy527]; with_reducible exact H) | (have H2_ := (Option.bind_some _ _).symm.trans H; rw [hy527]; with_reducible exact H2_) | (have H2_ := (Option.bind_some _ _).symm.trans H; with_reducible exact H2_) | with_reducible exact H | (rw [hy527]; exact H) | exact H
                                  have Ny527 := Aside0.mk hy527
                                  clear hy527
                                  have H' := Aside0.mk H
                                  clear H
                                  go_wp2_with (first | ((with_reducible refine gate_builtin (b := .append) (xs := #[.tmp 61, .tmp 63]) rfl ?_); at_builtin; refine Kd.S_append (Kd.slice 4 Kd.bool) (w0 := w) w.heap.size rfl (.tmp 61) (.tmp 63) 55 45 (.slice none 0 0) 24 rfl Try.underlying55 info45 rfl (by decide) (by omega) u4 x4_1 x7_2 [.slice Ao21 x7_2.length co21] (fun _ => True) (fun k_ => some k_ = (.slice Ao21 x7_2.length co21 : Value).ownBlock) rfl rfl ?aP (fun k_ hk_ => ((Kd.R_mono (ok' := fun k_ => ((fun _ => True)) k_ ∧ some k_ ≠ (u4 : Value).ownBlock) (Kd.R_apart' (HO_7.out) (Kd.S_typed HO_4.out) (by decide)) (fun k_ hk => ⟨trivial, hk.2⟩))).1 k_ hk_.symm) ?aF ?aO ?aB ?aS ?aL ?_; (case aP => exact Kd.M_row (Kd.R_mono (Kd.R_tight rfl (Kd.R_mono (ok' := fun k_ => ((fun _ => True)) k_ ∧ some k_ ≠ (u4 : Value).ownBlock) (Kd.R_apart' (HO_7.out) (Kd.S_typed HO_4.out) (by decide)) (fun k_ hk => ⟨trivial, hk.2⟩))) (fun _ h_ => h_))); (case aB => exact (by repeat (first | (with_reducible first | exact HB.out | apply below_alloc | apply pw_below_drewN | apply below_drew1 | refine below_set ?_ GE516.out) | exact HB.out))); (case aF => exact (fun _ _ => trivial)); (case aO => exact (by (with_reducible repeat (first | apply Kd.S_alloc | apply Kd.S_drewN | apply Kd.S_drew)); exact Kd.S_mono HO_4.out (fun k_ hk => ⟨trivial, fun e_ => hk e_⟩))); (case aS => exact (below_size (by repeat (first | (with_reducible first | exact HB.out | apply below_alloc | apply pw_below_drewN | apply below_drew1 | refine below_set ?_ GE516.out) | exact HB.out)))); (case aL => have := LMc41.out; omega); intro v528 w42 ho hb hg hat; rw [← Ny527.out] at ho; have n0_ := Aside0.mk (blk_grown (g := gb516) (o := .cells #[.int .i64 a0_0, .slice A0_1 l0_1.length c0_1] 24 (0, 0)) (by (with_reducible repeat (first | refine blk_drewN ?_ _ | refine blk_drew ?_ | refine blk_alloc ?_ _)); exact BK516.out) hg (Kd.S_ne HO_4.out BK516.out (by decide))); have n1_ := Aside0.mk (hb); have n2_ := Aside0.mk (ho); clear BK516; clear HB; clear HO_4; clear HO_7; have BK516 := n0_; have HB := n1_; have HO529 := n2_; clear n0_ n1_ n2_; clear ho hb hg hat))
                                  (try simp only [← hl7_2])
                                  go_roundg kj32
                                  case measure => have := HK1.out; have := HK2.out; have := HJ32.out; omega
                                  case rel => exact ⟨(y527), (t522), (wrap64 (x20_1 + 1)), (by first | rfl | (simp; done) | (simp [*]; done)), (by first | rfl | (simp; done) | (simp [*]; done)), H', ⟨by have := HK1.out; have := HK2.out; have := HJ32.out; omega⟩, ⟨by (try simp only [hl7_2]); (with_reducible repeat (first | apply Kd.S_alloc | apply Kd.S_drewN | apply Kd.S_drew)); exact HO529.out⟩, ⟨by (try simp only [hl7_2]); (with_reducible repeat (first | refine blk_drewN ?_ _ | refine blk_drew ?_ | refine blk_alloc ?_ _)); exact BK516.out⟩, ⟨by repeat (first | (with_reducible first | exact HB.out | apply below_alloc | apply pw_below_drewN | apply below_drew1 | refine below_set ?_ GE516.out) | exact HB.out)⟩⟩
                                · rw [if_neg c41] at H
                                  exact absurd H (by simp)
                · rw [if_neg c17] at H
                  exact absurd H (by simp)
              · rw [if_neg c16] at H
                exact absurd H (by simp)
            · rw [if_neg c15] at H
              have c15b0 : decide (x20_1 < ji10) = false := decide_eq_false c15
              (try (have c15b0_0 := c15b0; rw [hl7_2] at c15b0_0))
              clear c15
              simp only [Option.some.injEq, Prod.mk.injEq] at H
              obtain ⟨rfl, rfl⟩ := H
              go_wp2
              go_ret2
              exact ⟨_, by first | rfl | (simp [errW_none, errW_some] <;> rfl) | (simp only [← hji10]; first | rfl | (simp [errW_none, errW_some] <;> rfl)) | (simp [*, errW_none, errW_some] <;> rfl), by (with_reducible repeat (first | apply Kd.S_alloc | apply Kd.S_drewN | apply Kd.S_drew)); exact HO_4.out, by repeat (first | (with_reducible first | exact HB.out | apply below_alloc | apply pw_below_drewN | apply below_drew1 | refine below_set ?_ GE516.out) | exact HB.out)⟩
      · rw [if_neg c9] at H
        exact absurd H (by simp)
  · replace c3 := Bool.eq_false_iff.mpr c3
    subst c3
    have H1 : (some (([] : List (List Bool)), 2)) = some (r1, r2) := by rw [if_neg (show ¬ (false = true) by decide)] at H; exact H
    clear H
    have H := H1
    clear H1
    simp only [Option.some.injEq, Prod.mk.injEq] at H
    obtain ⟨rfl, rfl⟩ := H
    go_enter Try.func39, Try.ntmps39
    go_wp2_with (first | ((with_reducible refine gate_dst (N := 1) rfl ?_); refine box_event ?hg (N := 1) ?hd (cs := #[.int .i64 a0_0, .slice A0_1 l0_1.length c0_1]) (t := 24) ?hr ?_; (case hd => rfl); (case hg => rfl); (case hr => first | (go_simp; done) | (go_simp; rfl)); intro gb516 hg w43 hbox hb; have n0_ := Aside0.mk (below_step (by repeat (first | (with_reducible first | exact HB.out | apply below_alloc | apply pw_below_drewN | apply below_drew1) | exact HB.out)) hb); have n1_ := Aside0.mk (hbox); have n2_ := Aside0.mk ((by rw [hg]; exact (below_size (by repeat (first | (with_reducible first | exact HB.out | apply below_alloc | apply pw_below_drewN | apply below_drew1) | exact HB.out))) : w.heap.size ≤ gb516)); have n3_ := Aside0.mk ((by rw [hg]; exact (below_size (by repeat (first | (with_reducible first | exact HB.out | apply below_alloc | apply pw_below_drewN | apply below_drew1) | exact HB.out))) : w.heap.size ≤ gb516)); clear HB; have HB := n0_; have BK516 := n1_; have GW516 := n2_; have GE516 := n3_; clear n0_ n1_ n2_ n3_; clear hb hbox hg; have hcz44_0 : w43.cell? ⟨gb516, 0, none⟩ = some (.int .i64 a0_0) := (blk_cell BK516.out 0).trans rfl; have hcz44_1 : w43.cell? ⟨gb516, 1, none⟩ = some (.slice A0_1 l0_1.length c0_1) := (blk_cell BK516.out 1).trans rfl; have hfz44_0 := blk_frozen BK516.out 0; have hfz44_1 := blk_frozen BK516.out 1) | ((with_reducible refine gate_callee (f := 53) rfl ?_); refine goesL_ (some 12) rfl rfl Try.func53 (by kernel_rfl) rfl #[.agg #[.int .i64 a0_0, .slice A0_1 l0_1.length c0_1]] rfl (by (try simp only [List.map_toArray, List.map_cons, List.map_nil]); first | done | rfl | (simp only [List.length_drop, List.length_take]; rfl)) ?_; (with_reducible refine (cantingref07_Valid.calls k a0_0 _ _ l0_1 false _ ?side1 ?side2 A2.out).mono ?_); (case side1 => repeat (first | exact (Kd.C_below HR0_1.out HB.out) | (with_reducible refine Kd.C_alloc ?_ _) | (with_reducible refine Kd.C_drewN ?_ _) | (with_reducible refine Kd.C_drew ?_))); (case side2 => exact HC0_1.out); rintro e w45 ⟨rfl, hb⟩; refine ⟨_, rfl, ?_⟩; have n0_ := Aside0.mk (blk_below (g := gb516) (o := .cells #[.int .i64 a0_0, .slice A0_1 l0_1.length c0_1] 24 (0, 0)) (by (with_reducible repeat (first | refine blk_drewN ?_ _ | refine blk_drew ?_ | refine blk_alloc ?_ _)); exact BK516.out) hb); have n1_ := Aside0.mk (below_step (by repeat (first | (with_reducible first | exact HB.out | apply below_alloc | apply pw_below_drewN | apply below_drew1 | refine below_set ?_ GE516.out) | exact HB.out)) hb); clear BK516; clear HB; have BK516 := n0_; have HB := n1_; clear n0_ n1_; (try clear hb); (try clear hb2); (try clear hk); (try clear hi)))
    go_ret2
    exact ⟨_, by first | rfl | (simp [errW_none, errW_some] <;> rfl) | (simp [*, errW_none, errW_some] <;> rfl), by first | exact Kd.S_nil _ _ _ _ _ | exact Kd.N_nil _ _ _ _ _ | exact Kd.V_nil _ _ _ _ _ | exact Kd.Q_nil _ _ _ _ _ | exact Kd.R_nil _ _ _ _ _, by repeat (first | (with_reducible first | exact HB.out | apply below_alloc | apply pw_below_drewN | apply below_drew1 | refine below_set ?_ GE516.out) | exact HB.out)⟩
end Go.Proofs.Ytbamanjedfccpaa.X
end

section
set_option linter.unusedVariables false
set_option linter.unusedSimpArgs false
namespace Go.Proofs.Ytbamanjedfccpaa.X
open Go.RowKit Go.Proofs.YtbamanjedfccpaaW.PrintWords Go.Proofs.YtbamanjedfccpaaW.PrintLast Go.Proofs.YtbamanjedfccpaaW.PrintMore
attribute [local go_sem] max2_int min2_int max_two min_two max_three min_three max_four min_four   -- for this text's walks alone
set_option linter.unusedVariables false
set_option linter.unusedSimpArgs false
def cantinglaw07_WaxSides.j0 : Nat → Bool → Int → List (S34) → Option (Bool)
  | 0, _, _, _ => none
  | k + 1, x34, x531000, x531001 => if x34 = true then (some false) else ((cantinglaw07_net.f k x531000 x531001).bind fun bt545 => ((wax_Greatest.f bt545.1 bt545.2).bind fun bt549 => ((cantingref07_Greatest.f x531000 x531001).bind fun bt553 => ((cantinglaw07_net.f k x531000 x531001).bind fun bt557 => ((wax_Sides.f k bt557.1 bt557.2).bind fun bt561 => ((cantingref07_Sides.f k x531000 x531001).bind fun bt565 => ((slices_Equal_bool_bool.f k bt549.1 bt553.1).bind fun t569 => (if t569 = true then (if bt549.2 = bt553.2 then ((slices_EqualFunc_bool_bool_bool_bool.f bt561.1 bt565.1).bind fun t570 => (if t570 = true then (some (bt561.2 == bt565.2)) else (some false))) else (some false)) else (some false)))))))))
def cantinglaw07_WaxSides.f (k : Nat) (a0_0 : Int) (l0_1 : List (S34)) : Option (Bool) := (cantinglaw07_net.f k a0_0 l0_1).bind fun bt531 => ((wax_Least.f bt531.1 bt531.2).bind fun bt535 => ((cantingref07_Least.f a0_0 l0_1).bind fun bt539 => ((slices_Equal_bool_bool.f k bt535.1 bt539.1).bind fun t543 => (if t543 = true then (if bt535.2 = bt539.2 then ((cantinglaw07_awake.f).bind fun t544 => (cantinglaw07_WaxSides.j0 k (!t544) a0_0 l0_1)) else (cantinglaw07_WaxSides.j0 k true a0_0 l0_1)) else (cantinglaw07_WaxSides.j0 k true a0_0 l0_1)))))
set_option maxHeartbeats 8000000 in
set_option maxRecDepth 100000 in
theorem cantinglaw07_WaxSides.calls (k : Nat) (a0_0 : Int) (A0_1 : Option Addr) (c0_1 : Nat) (l0_1 : List (S34)) (r : Bool) (w : World) (hr0_1 : Kd.C k34 w A0_1 l0_1.length l0_1) (hc0_1 : l0_1.length ≤ c0_1) (h : cantinglaw07_WaxSides.f k a0_0 l0_1 = some r) :
    Calls Try.prog 11 #[.agg #[.int .i64 a0_0, .slice A0_1 l0_1.length c0_1]] w fun e w' => e = .returned (.bool r) ∧ Below w.heap.size w w' := by
  have hu24 := Try.underlying24
  have HR0_1 := Aside0.mk hr0_1
  have HC0_1 := Aside0.mk hc0_1
  clear hr0_1 hc0_1
  have HB := Aside0.mk (Below.refl w.heap.size w)
  have H : ((cantinglaw07_net.f k a0_0 l0_1).bind fun bt531 => ((wax_Least.f bt531.1 bt531.2).bind fun bt535 => ((cantingref07_Least.f a0_0 l0_1).bind fun bt539 => ((slices_Equal_bool_bool.f k bt535.1 bt539.1).bind fun t543 => (if t543 = true then (if bt535.2 = bt539.2 then ((cantinglaw07_awake.f).bind fun t544 => (cantinglaw07_WaxSides.j0 k (!t544) a0_0 l0_1)) else (cantinglaw07_WaxSides.j0 k true a0_0 l0_1)) else (cantinglaw07_WaxSides.j0 k true a0_0 l0_1)))))) = some r := h
  clear h
  replace H := Option.bind_eq_some_iff.mp H
  obtain ⟨⟨t531, t532⟩, A20, H⟩ := H
  replace H : ((wax_Least.f t531 t532).bind fun bt535 => ((cantingref07_Least.f a0_0 l0_1).bind fun bt539 => ((slices_Equal_bool_bool.f k bt535.1 bt539.1).bind fun t543 => (if t543 = true then (if bt535.2 = bt539.2 then ((cantinglaw07_awake.f).bind fun t544 => (cantinglaw07_WaxSides.j0 k (!t544) a0_0 l0_1)) else (cantinglaw07_WaxSides.j0 k true a0_0 l0_1)) else (cantinglaw07_WaxSides.j0 k true a0_0 l0_1))))) = some r := H
  have A2 := Aside0.mk A20
  clear A20
  replace H := Option.bind_eq_some_iff.mp H
  obtain ⟨⟨t535, t538⟩, A30, H⟩ := H
  replace H : ((cantingref07_Least.f a0_0 l0_1).bind fun bt539 => ((slices_Equal_bool_bool.f k t535 bt539.1).bind fun t543 => (if t543 = true then (if t538 = bt539.2 then ((cantinglaw07_awake.f).bind fun t544 => (cantinglaw07_WaxSides.j0 k (!t544) a0_0 l0_1)) else (cantinglaw07_WaxSides.j0 k true a0_0 l0_1)) else (cantinglaw07_WaxSides.j0 k true a0_0 l0_1)))) = some r := H
  have A3 := Aside0.mk A30
  clear A30
  replace H := Option.bind_eq_some_iff.mp H
  obtain ⟨⟨t539, t542⟩, A40, H⟩ := H
  replace H : ((slices_Equal_bool_bool.f k t535 t539).bind fun t543 => (if t543 = true then (if t538 = t542 then ((cantinglaw07_awake.f).bind fun t544 => (cantinglaw07_WaxSides.j0 k (!t544) a0_0 l0_1)) else (cantinglaw07_WaxSides.j0 k true a0_0 l0_1)) else (cantinglaw07_WaxSides.j0 k true a0_0 l0_1))) = some r := H
  have A4 := Aside0.mk A40
  clear A40
  have HC5 := Aside0.mk H
  clear H
  go_enter Try.func11, Try.ntmps11
  go_upto_region 3 with (first | ((with_reducible refine gate_dst (N := 1) rfl ?_); refine box_event ?hg (N := 1) ?hd (cs := #[.int .i64 a0_0, .slice A0_1 l0_1.length c0_1]) (t := 24) ?hr ?_; (case hd => rfl); (case hg => rfl); (case hr => first | (go_simp; done) | (go_simp; rfl)); intro gb530 hg w6 hbox hb; have n0_ := Aside0.mk (below_step (by repeat (first | (with_reducible first | exact HB.out | apply below_alloc | apply pw_below_drewN | apply below_drew1) | exact HB.out)) hb); have n1_ := Aside0.mk (hbox); have n2_ := Aside0.mk ((by rw [hg]; exact (below_size (by repeat (first | (with_reducible first | exact HB.out | apply below_alloc | apply pw_below_drewN | apply below_drew1) | exact HB.out))) : w.heap.size ≤ gb530)); have n3_ := Aside0.mk ((by rw [hg]; exact (below_size (by repeat (first | (with_reducible first | exact HB.out | apply below_alloc | apply pw_below_drewN | apply below_drew1) | exact HB.out))) : w.heap.size ≤ gb530)); clear HB; have HB := n0_; have BK530 := n1_; have GW530 := n2_; have GE530 := n3_; clear n0_ n1_ n2_ n3_; clear hb hbox hg; have hcz7_0 : w6.cell? ⟨gb530, 0, none⟩ = some (.int .i64 a0_0) := (blk_cell BK530.out 0).trans rfl; have hcz7_1 : w6.cell? ⟨gb530, 1, none⟩ = some (.slice A0_1 l0_1.length c0_1) := (blk_cell BK530.out 1).trans rfl; have hfz7_0 := blk_frozen BK530.out 0; have hfz7_1 := blk_frozen BK530.out 1) | ((with_reducible refine gate_callee (f := 17) rfl ?_); refine goesL_ (some 13) rfl rfl Try.func17 (by kernel_rfl) rfl #[.agg #[.int .i64 a0_0, .slice A0_1 l0_1.length c0_1]] rfl (by (try simp only [List.map_toArray, List.map_cons, List.map_nil]); first | done | rfl | (simp only [List.length_drop, List.length_take]; rfl)) ?_; (with_reducible refine (cantinglaw07_net.calls k a0_0 _ _ l0_1 t531 t532 _ ?side1 ?side2 A2.out).mono ?_); (case side1 => repeat (first | exact (Kd.C_below HR0_1.out HB.out) | (with_reducible refine Kd.C_alloc ?_ _) | (with_reducible refine Kd.C_drewN ?_ _) | (with_reducible refine Kd.C_drew ?_))); (case side2 => exact HC0_1.out); rintro e w8 ⟨v533, rfl, ho0, hb⟩; refine ⟨_, rfl, ?_⟩; have n0_ := Aside0.mk (Kd.R_lower ho0 (below_size (by repeat (first | (with_reducible first | exact HB.out | apply below_alloc | apply pw_below_drewN | apply below_drew1 | refine below_set ?_ GE530.out) | exact HB.out)))); have n1_ := Aside0.mk (blk_below (g := gb530) (o := .cells #[.int .i64 a0_0, .slice A0_1 l0_1.length c0_1] 24 (0, 0)) (by (with_reducible repeat (first | refine blk_drewN ?_ _ | refine blk_drew ?_ | refine blk_alloc ?_ _)); exact BK530.out) hb); have n2_ := Aside0.mk (below_step (by repeat (first | (with_reducible first | exact HB.out | apply below_alloc | apply pw_below_drewN | apply below_drew1 | refine below_set ?_ GE530.out) | exact HB.out)) hb); clear BK530; clear HB; have HO534 := n0_; have BK530 := n1_; have HB := n2_; clear n0_ n1_ n2_; (try clear hb); (try clear hb2); (try clear hk); (try clear hi); (try clear ho0); obtain ⟨Ao9, co9, eo9⟩ := Kd.R_slice HO534.out; subst eo9) | ((with_reducible refine gate_callee (f := 33) rfl ?_); refine goesL_ (some 14) rfl rfl Try.func33 (by kernel_rfl) rfl #[.agg #[.int .i64 t531, .slice Ao9 t532.length co9]] rfl (by (try simp only [List.map_toArray, List.map_cons, List.map_nil]); first | done | rfl | (simp only [List.length_drop, List.length_take]; rfl)) ?_; (with_reducible refine (wax_Least.calls t531 _ _ t532 t535 t538 _ ?side1 ?side2 A3.out).mono ?_); (case side1 => repeat (first | exact (Kd.R_reads' HO534.out).2.2 | (with_reducible refine Kd.C_alloc ?_ _) | (with_reducible refine Kd.C_drewN ?_ _) | (with_reducible refine Kd.C_drew ?_))); (case side2 => exact (Kd.R_reads' HO534.out).2.1); rintro e w10 ⟨v536, rfl, ho0, hb⟩; refine ⟨_, rfl, ?_⟩; have n0_ := Aside0.mk (Kd.R_below (by (with_reducible repeat (first | apply Kd.R_alloc | apply Kd.R_drewN | apply Kd.R_drew)); exact HO534.out) hb); have n1_ := Aside0.mk (Kd.R_lower ho0 (below_size (by repeat (first | (with_reducible first | exact HB.out | apply below_alloc | apply pw_below_drewN | apply below_drew1 | refine below_set ?_ GE530.out) | exact HB.out)))); have n2_ := Aside0.mk (blk_below (g := gb530) (o := .cells #[.int .i64 a0_0, .slice A0_1 l0_1.length c0_1] 24 (0, 0)) (by (with_reducible repeat (first | refine blk_drewN ?_ _ | refine blk_drew ?_ | refine blk_alloc ?_ _)); exact BK530.out) hb); have n3_ := Aside0.mk (below_step (by repeat (first | (with_reducible first | exact HB.out | apply below_alloc | apply pw_below_drewN | apply below_drew1 | refine below_set ?_ GE530.out) | exact HB.out)) hb); clear HO534; clear BK530; clear HB; have HO534 := n0_; have HO537 := n1_; have BK530 := n2_; have HB := n3_; clear n0_ n1_ n2_ n3_; (try clear hb); (try clear hb2); (try clear hk); (try clear hi); (try clear ho0); have hcz11_0 : w10.cell? ⟨gb530, 0, none⟩ = some (.int .i64 a0_0) := (blk_cell BK530.out 0).trans rfl; have hcz11_1 : w10.cell? ⟨gb530, 1, none⟩ = some (.slice A0_1 l0_1.length c0_1) := (blk_cell BK530.out 1).trans rfl; have hfz11_0 := blk_frozen BK530.out 0; have hfz11_1 := blk_frozen BK530.out 1) | ((with_reducible refine gate_callee (f := 37) rfl ?_); refine goesL_ (some 19) rfl rfl Try.func37 (by kernel_rfl) rfl #[.agg #[.int .i64 a0_0, .slice A0_1 l0_1.length c0_1]] rfl (by (try simp only [List.map_toArray, List.map_cons, List.map_nil]); first | done | rfl | (simp only [List.length_drop, List.length_take]; rfl)) ?_; (with_reducible refine (cantingref07_Least.calls a0_0 _ _ l0_1 t539 t542 _ ?side1 ?side2 A4.out).mono ?_); (case side1 => repeat (first | exact (Kd.C_below HR0_1.out HB.out) | (with_reducible refine Kd.C_alloc ?_ _) | (with_reducible refine Kd.C_drewN ?_ _) | (with_reducible refine Kd.C_drew ?_))); (case side2 => exact HC0_1.out); rintro e w12 ⟨v540, rfl, ho0, hb⟩; refine ⟨_, rfl, ?_⟩; have n0_ := Aside0.mk (Kd.R_below (by (with_reducible repeat (first | apply Kd.R_alloc | apply Kd.R_drewN | apply Kd.R_drew)); exact HO534.out) hb); have n1_ := Aside0.mk (Kd.R_elder' (by (with_reducible repeat (first | apply Kd.R_alloc | apply Kd.R_drewN | apply Kd.R_drew)); exact HO537.out) (Kd.R_base ho0) hb); have n2_ := Aside0.mk (Kd.R_lower (Kd.R_new' ho0 (Kd.R_lt (by (with_reducible repeat (first | apply Kd.R_alloc | apply Kd.R_drewN | apply Kd.R_drew)); exact HO537.out))) (below_size (by repeat (first | (with_reducible first | exact HB.out | apply below_alloc | apply pw_below_drewN | apply below_drew1 | refine below_set ?_ GE530.out) | exact HB.out)))); have n3_ := Aside0.mk (blk_below (g := gb530) (o := .cells #[.int .i64 a0_0, .slice A0_1 l0_1.length c0_1] 24 (0, 0)) (by (with_reducible repeat (first | refine blk_drewN ?_ _ | refine blk_drew ?_ | refine blk_alloc ?_ _)); exact BK530.out) hb); have n4_ := Aside0.mk (below_step (by repeat (first | (with_reducible first | exact HB.out | apply below_alloc | apply pw_below_drewN | apply below_drew1 | refine below_set ?_ GE530.out) | exact HB.out)) hb); clear HO534; clear HO537; clear BK530; clear HB; have HO534 := n0_; have HO537 := n1_; have HO541 := n2_; have BK530 := n3_; have HB := n4_; clear n0_ n1_ n2_ n3_ n4_; (try clear hb); (try clear hb2); (try clear hk); (try clear hi); (try clear ho0)))
  (try simp only [Act.put, List.setIfInBounds_toArray, List.set_cons_zero, List.set_cons_succ])
  go_cut [34] (fun v34 wc => ∃ (kq : Nat) (x34_4 : Bool), v34 = .bool x34_4 ∧ Aside0 (cantinglaw07_WaxSides.j0 kq x34_4 a0_0 l0_1 = some r) ∧ Aside0 (kq ≤ k) ∧ Aside0 (wc.heap[gb530]? = some (.cells #[.int .i64 a0_0, (.slice A0_1 l0_1.length c0_1)] 24 (0, 0))) ∧ Aside0 (Below w.heap.size w wc))
  case first =>
    have H := HC5.out
    clear HC5
    replace H := Option.bind_eq_some_iff.mp H
    obtain ⟨t543, A130, H⟩ := H
    replace H : (if t543 = true then (if t538 = t542 then ((cantinglaw07_awake.f).bind fun t544 => (cantinglaw07_WaxSides.j0 k (!t544) a0_0 l0_1)) else (cantinglaw07_WaxSides.j0 k true a0_0 l0_1)) else (cantinglaw07_WaxSides.j0 k true a0_0 l0_1)) = some r := H
    have A13 := Aside0.mk A130
    clear A130
    by_cases c14 : t543 = true
    · subst c14
      have H1 : (if t538 = t542 then ((cantinglaw07_awake.f).bind fun t544 => (cantinglaw07_WaxSides.j0 k (!t544) a0_0 l0_1)) else (cantinglaw07_WaxSides.j0 k true a0_0 l0_1)) = some r := by rw [if_pos rfl] at H; exact H
      clear H
      have H := H1
      clear H1
      by_cases c15 : t538 = t542
      · rw [if_pos c15] at H
        have c15b0 : (t538 == t542) = true := beq_iff_eq.mpr c15
        have c15b1 : (t538 != t542) = false := bne_eq_false_iff_eq.mpr c15
        clear c15
        (first | rw [c15b0] | (simp only [i64_w, i32_w]; rw [c15b0]) | skip)
        replace H := Option.bind_eq_some_iff.mp H
        obtain ⟨t544, A160, H⟩ := H
        replace H : (cantinglaw07_WaxSides.j0 k (!t544) a0_0 l0_1) = some r := H
        have A16 := Aside0.mk A160
        clear A160
        have H' := Aside0.mk H
        clear H
        obtain ⟨Ao17, co17, eo17⟩ := Kd.R_slice HO537.out
        subst eo17
        obtain ⟨Ao18, co18, eo18⟩ := Kd.R_slice HO541.out
        subst eo18
        go_wp2_with (first | ((with_reducible refine gate_callee (f := 30) rfl ?_); refine goesL_ (some 24) rfl rfl Try.func30 (by kernel_rfl) rfl #[.slice Ao17 t535.length co17, .slice Ao18 t539.length co18] rfl (by (try simp only [List.map_toArray, List.map_cons, List.map_nil]); first | done | rfl | (simp only [List.length_drop, List.length_take]; rfl)) ?_; (with_reducible refine (slices_Equal_bool_bool.calls k _ _ t535 _ _ t539 true _ ?side1 ?side2 ?side3 ?side4 A13.out).mono ?_); (case side1 => repeat (first | exact (Kd.R_reads' HO537.out).2.2 | (with_reducible refine Kd.C_alloc ?_ _) | (with_reducible refine Kd.C_drewN ?_ _) | (with_reducible refine Kd.C_drew ?_))); (case side2 => exact (Kd.R_reads' HO537.out).2.1); (case side3 => repeat (first | exact (Kd.R_reads' HO541.out).2.2 | (with_reducible refine Kd.C_alloc ?_ _) | (with_reducible refine Kd.C_drewN ?_ _) | (with_reducible refine Kd.C_drew ?_))); (case side4 => exact (Kd.R_reads' HO541.out).2.1); rintro e w' ⟨rfl, ⟨nd, rfl⟩⟩; refine ⟨_, rfl, ?_⟩) | (go_at_call 18; (with_reducible refine (cantinglaw07_awake.calls  t544 _ A16.out).mono ?_); rintro e w19 ⟨rfl, hb⟩; have n0_ := Aside0.mk (Kd.R_below (by (with_reducible repeat (first | apply Kd.R_alloc | apply Kd.R_drewN | apply Kd.R_drew)); exact HO534.out) hb); have n1_ := Aside0.mk (Kd.R_below (by (with_reducible repeat (first | apply Kd.R_alloc | apply Kd.R_drewN | apply Kd.R_drew)); exact HO537.out) hb); have n2_ := Aside0.mk (Kd.R_below (by (with_reducible repeat (first | apply Kd.R_alloc | apply Kd.R_drewN | apply Kd.R_drew)); exact HO541.out) hb); have n3_ := Aside0.mk (blk_below (g := gb530) (o := .cells #[.int .i64 a0_0, .slice A0_1 l0_1.length c0_1] 24 (0, 0)) (by (with_reducible repeat (first | refine blk_drewN ?_ _ | refine blk_drew ?_ | refine blk_alloc ?_ _)); exact BK530.out) hb); have n4_ := Aside0.mk (below_step (by repeat (first | (with_reducible first | exact HB.out | apply below_alloc | apply pw_below_drewN | apply below_drew1 | refine below_set ?_ GE530.out) | exact HB.out)) hb); clear HO534; clear HO537; clear HO541; clear BK530; clear HB; have HO534 := n0_; have HO537 := n1_; have HO541 := n2_; have BK530 := n3_; have HB := n4_; clear n0_ n1_ n2_ n3_ n4_; (try clear hb); (try clear hb2); (try clear hk); (try clear hi)))
        go_meet
        case rel => exact ⟨_, (!t544), (by first | rfl | (simp; done) | (simp [*]; done)), H', ⟨by first | omega | exact Nat.le_refl _⟩, ⟨by (with_reducible repeat (first | refine blk_drewN ?_ _ | refine blk_drew ?_ | refine blk_alloc ?_ _)); exact BK530.out⟩, ⟨by repeat (first | (with_reducible first | exact HB.out | apply below_alloc | apply pw_below_drewN | apply below_drew1 | refine below_set ?_ GE530.out) | exact HB.out)⟩⟩
      · rw [if_neg c15] at H
        have c15b0 : (t538 == t542) = false := beq_eq_false_iff_ne.mpr c15
        have c15b1 : (t538 != t542) = true := bne_iff_ne.mpr c15
        (first | rw [c15b0] | (simp only [i64_w, i32_w]; rw [c15b0]) | skip)
        have H' := Aside0.mk H
        clear H
        obtain ⟨Ao20, co20, eo20⟩ := Kd.R_slice HO537.out
        subst eo20
        obtain ⟨Ao21, co21, eo21⟩ := Kd.R_slice HO541.out
        subst eo21
        go_wp2_with (first | ((with_reducible refine gate_callee (f := 30) rfl ?_); refine goesL_ (some 24) rfl rfl Try.func30 (by kernel_rfl) rfl #[.slice Ao20 t535.length co20, .slice Ao21 t539.length co21] rfl (by (try simp only [List.map_toArray, List.map_cons, List.map_nil]); first | done | rfl | (simp only [List.length_drop, List.length_take]; rfl)) ?_; (with_reducible refine (slices_Equal_bool_bool.calls k _ _ t535 _ _ t539 true _ ?side1 ?side2 ?side3 ?side4 A13.out).mono ?_); (case side1 => repeat (first | exact (Kd.R_reads' HO537.out).2.2 | (with_reducible refine Kd.C_alloc ?_ _) | (with_reducible refine Kd.C_drewN ?_ _) | (with_reducible refine Kd.C_drew ?_))); (case side2 => exact (Kd.R_reads' HO537.out).2.1); (case side3 => repeat (first | exact (Kd.R_reads' HO541.out).2.2 | (with_reducible refine Kd.C_alloc ?_ _) | (with_reducible refine Kd.C_drewN ?_ _) | (with_reducible refine Kd.C_drew ?_))); (case side4 => exact (Kd.R_reads' HO541.out).2.1); rintro e w' ⟨rfl, ⟨nd, rfl⟩⟩; refine ⟨_, rfl, ?_⟩))
        go_meet
        case rel => exact ⟨_, (true), (by first | rfl | (simp; done) | (simp [*]; done)), H', ⟨by first | omega | exact Nat.le_refl _⟩, ⟨by (with_reducible repeat (first | refine blk_drewN ?_ _ | refine blk_drew ?_ | refine blk_alloc ?_ _)); exact BK530.out⟩, ⟨by repeat (first | (with_reducible first | exact HB.out | apply below_alloc | apply pw_below_drewN | apply below_drew1 | refine below_set ?_ GE530.out) | exact HB.out)⟩⟩
    · replace c14 := Bool.eq_false_iff.mpr c14
      subst c14
      have H1 : (cantinglaw07_WaxSides.j0 k true a0_0 l0_1) = some r := by rw [if_neg (show ¬ (false = true) by decide)] at H; exact H
      clear H
      have H := H1
      clear H1
      have H' := Aside0.mk H
      clear H
      obtain ⟨Ao22, co22, eo22⟩ := Kd.R_slice HO537.out
      subst eo22
      obtain ⟨Ao23, co23, eo23⟩ := Kd.R_slice HO541.out
      subst eo23
      go_wp2_with (first | ((with_reducible refine gate_callee (f := 30) rfl ?_); refine goesL_ (some 24) rfl rfl Try.func30 (by kernel_rfl) rfl #[.slice Ao22 t535.length co22, .slice Ao23 t539.length co23] rfl (by (try simp only [List.map_toArray, List.map_cons, List.map_nil]); first | done | rfl | (simp only [List.length_drop, List.length_take]; rfl)) ?_; (with_reducible refine (slices_Equal_bool_bool.calls k _ _ t535 _ _ t539 false _ ?side1 ?side2 ?side3 ?side4 A13.out).mono ?_); (case side1 => repeat (first | exact (Kd.R_reads' HO537.out).2.2 | (with_reducible refine Kd.C_alloc ?_ _) | (with_reducible refine Kd.C_drewN ?_ _) | (with_reducible refine Kd.C_drew ?_))); (case side2 => exact (Kd.R_reads' HO537.out).2.1); (case side3 => repeat (first | exact (Kd.R_reads' HO541.out).2.2 | (with_reducible refine Kd.C_alloc ?_ _) | (with_reducible refine Kd.C_drewN ?_ _) | (with_reducible refine Kd.C_drew ?_))); (case side4 => exact (Kd.R_reads' HO541.out).2.1); rintro e w' ⟨rfl, ⟨nd, rfl⟩⟩; refine ⟨_, rfl, ?_⟩))
      go_meet
      case rel => exact ⟨_, (true), (by first | rfl | (simp; done) | (simp [*]; done)), H', ⟨by first | omega | exact Nat.le_refl _⟩, ⟨by (with_reducible repeat (first | refine blk_drewN ?_ _ | refine blk_drew ?_ | refine blk_alloc ?_ _)); exact BK530.out⟩, ⟨by repeat (first | (with_reducible first | exact HB.out | apply below_alloc | apply pw_below_drewN | apply below_drew1 | refine below_set ?_ GE530.out) | exact HB.out)⟩⟩
  case rest =>
    clear HC5
    try clear c1
    try clear p2
    try clear c3
    try clear c11
    try clear c14
    try clear c15
    try clear c15b0
    try clear c15b1
    try clear c17
    try clear hcz11_0
    try clear hcz11_1
    try clear hcz7_0
    try clear hcz7_1
    try clear hfz11_0
    try clear hfz11_1
    try clear hfz7_0
    try clear hfz7_1
    obtain ⟨kq, x34_4, rfl, HA, HJ4, BK530, HB⟩ := hcut
    cases kq with
    | zero => exact absurd HA.out (by simp [cantinglaw07_WaxSides.j0])
    | succ kj4 =>
      have H := HA.out
      clear HA
      simp only [cantinglaw07_WaxSides.j0] at H
      by_cases c24 : x34_4 = true
      · subst c24
        have H1 : (some false) = some r := by rw [if_pos rfl] at H; exact H
        clear H
        have H := H1
        clear H1
        obtain rfl := Option.some.inj H
        go_wp2
        go_ret
        exact ⟨by first | rfl | (simp [errW_none, errW_some] <;> rfl) | (simp [*, errW_none, errW_some] <;> rfl), by repeat (first | (with_reducible first | exact HB.out | apply below_alloc | apply pw_below_drewN | apply below_drew1 | refine below_set ?_ GE530.out) | exact HB.out)⟩
      · replace c24 := Bool.eq_false_iff.mpr c24
        subst c24
        have H1 : ((cantinglaw07_net.f kj4 a0_0 l0_1).bind fun bt545 => ((wax_Greatest.f bt545.1 bt545.2).bind fun bt549 => ((cantingref07_Greatest.f a0_0 l0_1).bind fun bt553 => ((cantinglaw07_net.f kj4 a0_0 l0_1).bind fun bt557 => ((wax_Sides.f kj4 bt557.1 bt557.2).bind fun bt561 => ((cantingref07_Sides.f kj4 a0_0 l0_1).bind fun bt565 => ((slices_Equal_bool_bool.f kj4 bt549.1 bt553.1).bind fun t569 => (if t569 = true then (if bt549.2 = bt553.2 then ((slices_EqualFunc_bool_bool_bool_bool.f bt561.1 bt565.1).bind fun t570 => (if t570 = true then (some (bt561.2 == bt565.2)) else (some false))) else (some false)) else (some false))))))))) = some r := by rw [if_neg (show ¬ (false = true) by decide)] at H; exact H
        clear H
        have H := H1
        clear H1
        replace H := Option.bind_eq_some_iff.mp H
        obtain ⟨⟨t545, t546⟩, A250, H⟩ := H
        replace H : ((wax_Greatest.f t545 t546).bind fun bt549 => ((cantingref07_Greatest.f a0_0 l0_1).bind fun bt553 => ((cantinglaw07_net.f kj4 a0_0 l0_1).bind fun bt557 => ((wax_Sides.f kj4 bt557.1 bt557.2).bind fun bt561 => ((cantingref07_Sides.f kj4 a0_0 l0_1).bind fun bt565 => ((slices_Equal_bool_bool.f kj4 bt549.1 bt553.1).bind fun t569 => (if t569 = true then (if bt549.2 = bt553.2 then ((slices_EqualFunc_bool_bool_bool_bool.f bt561.1 bt565.1).bind fun t570 => (if t570 = true then (some (bt561.2 == bt565.2)) else (some false))) else (some false)) else (some false)))))))) = some r := H
        have A25 := Aside0.mk A250
        clear A250
        replace H := Option.bind_eq_some_iff.mp H
        obtain ⟨⟨t549, t552⟩, A260, H⟩ := H
        replace H : ((cantingref07_Greatest.f a0_0 l0_1).bind fun bt553 => ((cantinglaw07_net.f kj4 a0_0 l0_1).bind fun bt557 => ((wax_Sides.f kj4 bt557.1 bt557.2).bind fun bt561 => ((cantingref07_Sides.f kj4 a0_0 l0_1).bind fun bt565 => ((slices_Equal_bool_bool.f kj4 t549 bt553.1).bind fun t569 => (if t569 = true then (if t552 = bt553.2 then ((slices_EqualFunc_bool_bool_bool_bool.f bt561.1 bt565.1).bind fun t570 => (if t570 = true then (some (bt561.2 == bt565.2)) else (some false))) else (some false)) else (some false))))))) = some r := H
        have A26 := Aside0.mk A260
        clear A260
        replace H := Option.bind_eq_some_iff.mp H
        obtain ⟨⟨t553, t556⟩, A270, H⟩ := H
        replace H : ((cantinglaw07_net.f kj4 a0_0 l0_1).bind fun bt557 => ((wax_Sides.f kj4 bt557.1 bt557.2).bind fun bt561 => ((cantingref07_Sides.f kj4 a0_0 l0_1).bind fun bt565 => ((slices_Equal_bool_bool.f kj4 t549 t553).bind fun t569 => (if t569 = true then (if t552 = t556 then ((slices_EqualFunc_bool_bool_bool_bool.f bt561.1 bt565.1).bind fun t570 => (if t570 = true then (some (bt561.2 == bt565.2)) else (some false))) else (some false)) else (some false)))))) = some r := H
        have A27 := Aside0.mk A270
        clear A270
        replace H := Option.bind_eq_some_iff.mp H
        obtain ⟨⟨t557, t558⟩, A280, H⟩ := H
        replace H : ((wax_Sides.f kj4 t557 t558).bind fun bt561 => ((cantingref07_Sides.f kj4 a0_0 l0_1).bind fun bt565 => ((slices_Equal_bool_bool.f kj4 t549 t553).bind fun t569 => (if t569 = true then (if t552 = t556 then ((slices_EqualFunc_bool_bool_bool_bool.f bt561.1 bt565.1).bind fun t570 => (if t570 = true then (some (bt561.2 == bt565.2)) else (some false))) else (some false)) else (some false))))) = some r := H
        have A28 := Aside0.mk A280
        clear A280
        replace H := Option.bind_eq_some_iff.mp H
        obtain ⟨⟨t561, t564⟩, A290, H⟩ := H
        replace H : ((cantingref07_Sides.f kj4 a0_0 l0_1).bind fun bt565 => ((slices_Equal_bool_bool.f kj4 t549 t553).bind fun t569 => (if t569 = true then (if t552 = t556 then ((slices_EqualFunc_bool_bool_bool_bool.f t561 bt565.1).bind fun t570 => (if t570 = true then (some (t564 == bt565.2)) else (some false))) else (some false)) else (some false)))) = some r := H
        have A29 := Aside0.mk A290
        clear A290
        replace H := Option.bind_eq_some_iff.mp H
        obtain ⟨⟨t565, t568⟩, A300, H⟩ := H
        replace H : ((slices_Equal_bool_bool.f kj4 t549 t553).bind fun t569 => (if t569 = true then (if t552 = t556 then ((slices_EqualFunc_bool_bool_bool_bool.f t561 t565).bind fun t570 => (if t570 = true then (some (t564 == t568)) else (some false))) else (some false)) else (some false))) = some r := H
        have A30 := Aside0.mk A300
        clear A300
        replace H := Option.bind_eq_some_iff.mp H
        obtain ⟨t569, A310, H⟩ := H
        replace H : (if t569 = true then (if t552 = t556 then ((slices_EqualFunc_bool_bool_bool_bool.f t561 t565).bind fun t570 => (if t570 = true then (some (t564 == t568)) else (some false))) else (some false)) else (some false)) = some r := H
        have A31 := Aside0.mk A310
        clear A310
        by_cases c32 : t569 = true
        · subst c32
          have H1 : (if t552 = t556 then ((slices_EqualFunc_bool_bool_bool_bool.f t561 t565).bind fun t570 => (if t570 = true then (some (t564 == t568)) else (some false))) else (some false)) = some r := by rw [if_pos rfl] at H; exact H
          clear H
          have H := H1
          clear H1
          by_cases c33 : t552 = t556
          · rw [if_pos c33] at H
            have c33b0 : (t552 == t556) = true := beq_iff_eq.mpr c33
            have c33b1 : (t552 != t556) = false := bne_eq_false_iff_eq.mpr c33
            clear c33
            replace H := Option.bind_eq_some_iff.mp H
            obtain ⟨t570, A340, H⟩ := H
            replace H : (if t570 = true then (some (t564 == t568)) else (some false)) = some r := H
            have A34 := Aside0.mk A340
            clear A340
            by_cases c35 : t570 = true
            · subst c35
              have H1 : (some (t564 == t568)) = some r := by rw [if_pos rfl] at H; exact H
              clear H
              have H := H1
              clear H1
              obtain rfl := Option.some.inj H
              have hcz36_0 : wc.cell? ⟨gb530, 0, none⟩ = some (.int .i64 a0_0) := (blk_cell BK530.out 0).trans rfl
              have hcz36_1 : wc.cell? ⟨gb530, 1, none⟩ = some (.slice A0_1 l0_1.length c0_1) := (blk_cell BK530.out 1).trans rfl
              have hfz36_0 := blk_frozen BK530.out 0
              have hfz36_1 := blk_frozen BK530.out 1
              go_wp2_with (first | ((with_reducible refine gate_callee (f := 17) rfl ?_); refine goesL_ (some 37) rfl rfl Try.func17 (by kernel_rfl) rfl #[.agg #[.int .i64 a0_0, .slice A0_1 l0_1.length c0_1]] rfl (by (try simp only [List.map_toArray, List.map_cons, List.map_nil]); first | done | rfl | (simp only [List.length_drop, List.length_take]; rfl)) ?_; (with_reducible refine (cantinglaw07_net.calls kj4 a0_0 _ _ l0_1 t545 t546 _ ?side1 ?side2 A25.out).mono ?_); (case side1 => repeat (first | exact (Kd.C_below HR0_1.out HB.out) | (with_reducible refine Kd.C_alloc ?_ _) | (with_reducible refine Kd.C_drewN ?_ _) | (with_reducible refine Kd.C_drew ?_))); (case side2 => exact HC0_1.out); rintro e w37 ⟨v547, rfl, ho0, hb⟩; refine ⟨_, rfl, ?_⟩; have n0_ := Aside0.mk (Kd.R_lower ho0 (below_size (by repeat (first | (with_reducible first | exact HB.out | apply below_alloc | apply pw_below_drewN | apply below_drew1 | refine below_set ?_ GE530.out) | exact HB.out)))); have n1_ := Aside0.mk (blk_below (g := gb530) (o := .cells #[.int .i64 a0_0, .slice A0_1 l0_1.length c0_1] 24 (0, 0)) (by (with_reducible repeat (first | refine blk_drewN ?_ _ | refine blk_drew ?_ | refine blk_alloc ?_ _)); exact BK530.out) hb); have n2_ := Aside0.mk (below_step (by repeat (first | (with_reducible first | exact HB.out | apply below_alloc | apply pw_below_drewN | apply below_drew1 | refine below_set ?_ GE530.out) | exact HB.out)) hb); clear BK530; clear HB; have HO548 := n0_; have BK530 := n1_; have HB := n2_; clear n0_ n1_ n2_; (try clear hb); (try clear hb2); (try clear hk); (try clear hi); (try clear ho0); obtain ⟨Ao38, co38, eo38⟩ := Kd.R_slice HO548.out; subst eo38) | ((with_reducible refine gate_callee (f := 34) rfl ?_); refine goesL_ (some 38) rfl rfl Try.func34 (by kernel_rfl) rfl #[.agg #[.int .i64 t545, .slice Ao38 t546.length co38]] rfl (by (try simp only [List.map_toArray, List.map_cons, List.map_nil]); first | done | rfl | (simp only [List.length_drop, List.length_take]; rfl)) ?_; (with_reducible refine (wax_Greatest.calls t545 _ _ t546 t549 t552 _ ?side1 ?side2 A26.out).mono ?_); (case side1 => repeat (first | exact (Kd.R_reads' HO548.out).2.2 | (with_reducible refine Kd.C_alloc ?_ _) | (with_reducible refine Kd.C_drewN ?_ _) | (with_reducible refine Kd.C_drew ?_))); (case side2 => exact (Kd.R_reads' HO548.out).2.1); rintro e w39 ⟨v550, rfl, ho0, hb⟩; refine ⟨_, rfl, ?_⟩; have n0_ := Aside0.mk (Kd.R_below (by (with_reducible repeat (first | apply Kd.R_alloc | apply Kd.R_drewN | apply Kd.R_drew)); exact HO548.out) hb); have n1_ := Aside0.mk (Kd.R_lower ho0 (below_size (by repeat (first | (with_reducible first | exact HB.out | apply below_alloc | apply pw_below_drewN | apply below_drew1 | refine below_set ?_ GE530.out) | exact HB.out)))); have n2_ := Aside0.mk (blk_below (g := gb530) (o := .cells #[.int .i64 a0_0, .slice A0_1 l0_1.length c0_1] 24 (0, 0)) (by (with_reducible repeat (first | refine blk_drewN ?_ _ | refine blk_drew ?_ | refine blk_alloc ?_ _)); exact BK530.out) hb); have n3_ := Aside0.mk (below_step (by repeat (first | (with_reducible first | exact HB.out | apply below_alloc | apply pw_below_drewN | apply below_drew1 | refine below_set ?_ GE530.out) | exact HB.out)) hb); clear HO548; clear BK530; clear HB; have HO548 := n0_; have HO551 := n1_; have BK530 := n2_; have HB := n3_; clear n0_ n1_ n2_ n3_; (try clear hb); (try clear hb2); (try clear hk); (try clear hi); (try clear ho0); have hcz40_0 : w39.cell? ⟨gb530, 0, none⟩ = some (.int .i64 a0_0) := (blk_cell BK530.out 0).trans rfl; have hcz40_1 : w39.cell? ⟨gb530, 1, none⟩ = some (.slice A0_1 l0_1.length c0_1) := (blk_cell BK530.out 1).trans rfl; have hfz40_0 := blk_frozen BK530.out 0; have hfz40_1 := blk_frozen BK530.out 1) | ((with_reducible refine gate_callee (f := 38) rfl ?_); refine goesL_ (some 43) rfl rfl Try.func38 (by kernel_rfl) rfl #[.agg #[.int .i64 a0_0, .slice A0_1 l0_1.length c0_1]] rfl (by (try simp only [List.map_toArray, List.map_cons, List.map_nil]); first | done | rfl | (simp only [List.length_drop, List.length_take]; rfl)) ?_; (with_reducible refine (cantingref07_Greatest.calls a0_0 _ _ l0_1 t553 t556 _ ?side1 ?side2 A27.out).mono ?_); (case side1 => repeat (first | exact (Kd.C_below HR0_1.out HB.out) | (with_reducible refine Kd.C_alloc ?_ _) | (with_reducible refine Kd.C_drewN ?_ _) | (with_reducible refine Kd.C_drew ?_))); (case side2 => exact HC0_1.out); rintro e w41 ⟨v554, rfl, ho0, hb⟩; refine ⟨_, rfl, ?_⟩; have n0_ := Aside0.mk (Kd.R_below (by (with_reducible repeat (first | apply Kd.R_alloc | apply Kd.R_drewN | apply Kd.R_drew)); exact HO548.out) hb); have n1_ := Aside0.mk (Kd.R_elder' (by (with_reducible repeat (first | apply Kd.R_alloc | apply Kd.R_drewN | apply Kd.R_drew)); exact HO551.out) (Kd.R_base ho0) hb); have n2_ := Aside0.mk (Kd.R_lower (Kd.R_new' ho0 (Kd.R_lt (by (with_reducible repeat (first | apply Kd.R_alloc | apply Kd.R_drewN | apply Kd.R_drew)); exact HO551.out))) (below_size (by repeat (first | (with_reducible first | exact HB.out | apply below_alloc | apply pw_below_drewN | apply below_drew1 | refine below_set ?_ GE530.out) | exact HB.out)))); have n3_ := Aside0.mk (blk_below (g := gb530) (o := .cells #[.int .i64 a0_0, .slice A0_1 l0_1.length c0_1] 24 (0, 0)) (by (with_reducible repeat (first | refine blk_drewN ?_ _ | refine blk_drew ?_ | refine blk_alloc ?_ _)); exact BK530.out) hb); have n4_ := Aside0.mk (below_step (by repeat (first | (with_reducible first | exact HB.out | apply below_alloc | apply pw_below_drewN | apply below_drew1 | refine below_set ?_ GE530.out) | exact HB.out)) hb); clear HO548; clear HO551; clear BK530; clear HB; have HO548 := n0_; have HO551 := n1_; have HO555 := n2_; have BK530 := n3_; have HB := n4_; clear n0_ n1_ n2_ n3_ n4_; (try clear hb); (try clear hb2); (try clear hk); (try clear hi); (try clear ho0); have hcz42_0 : w41.cell? ⟨gb530, 0, none⟩ = some (.int .i64 a0_0) := (blk_cell BK530.out 0).trans rfl; have hcz42_1 : w41.cell? ⟨gb530, 1, none⟩ = some (.slice A0_1 l0_1.length c0_1) := (blk_cell BK530.out 1).trans rfl; have hfz42_0 := blk_frozen BK530.out 0; have hfz42_1 := blk_frozen BK530.out 1) | ((with_reducible refine gate_callee (f := 17) rfl ?_); refine goesL_ (some 48) rfl rfl Try.func17 (by kernel_rfl) rfl #[.agg #[.int .i64 a0_0, .slice A0_1 l0_1.length c0_1]] rfl (by (try simp only [List.map_toArray, List.map_cons, List.map_nil]); first | done | rfl | (simp only [List.length_drop, List.length_take]; rfl)) ?_; (with_reducible refine (cantinglaw07_net.calls kj4 a0_0 _ _ l0_1 t557 t558 _ ?side1 ?side2 A28.out).mono ?_); (case side1 => repeat (first | exact (Kd.C_below HR0_1.out HB.out) | (with_reducible refine Kd.C_alloc ?_ _) | (with_reducible refine Kd.C_drewN ?_ _) | (with_reducible refine Kd.C_drew ?_))); (case side2 => exact HC0_1.out); rintro e w43 ⟨v559, rfl, ho0, hb⟩; refine ⟨_, rfl, ?_⟩; have n0_ := Aside0.mk (Kd.R_elder' (by (with_reducible repeat (first | apply Kd.R_alloc | apply Kd.R_drewN | apply Kd.R_drew)); exact HO548.out) (Kd.R_base ho0) hb); have n1_ := Aside0.mk (Kd.R_below (by (with_reducible repeat (first | apply Kd.R_alloc | apply Kd.R_drewN | apply Kd.R_drew)); exact HO551.out) hb); have n2_ := Aside0.mk (Kd.R_below (by (with_reducible repeat (first | apply Kd.R_alloc | apply Kd.R_drewN | apply Kd.R_drew)); exact HO555.out) hb); have n3_ := Aside0.mk (Kd.R_lower (Kd.R_new' ho0 (Kd.R_lt (by (with_reducible repeat (first | apply Kd.R_alloc | apply Kd.R_drewN | apply Kd.R_drew)); exact HO548.out))) (below_size (by repeat (first | (with_reducible first | exact HB.out | apply below_alloc | apply pw_below_drewN | apply below_drew1 | refine below_set ?_ GE530.out) | exact HB.out)))); have n4_ := Aside0.mk (blk_below (g := gb530) (o := .cells #[.int .i64 a0_0, .slice A0_1 l0_1.length c0_1] 24 (0, 0)) (by (with_reducible repeat (first | refine blk_drewN ?_ _ | refine blk_drew ?_ | refine blk_alloc ?_ _)); exact BK530.out) hb); have n5_ := Aside0.mk (below_step (by repeat (first | (with_reducible first | exact HB.out | apply below_alloc | apply pw_below_drewN | apply below_drew1 | refine below_set ?_ GE530.out) | exact HB.out)) hb); clear HO548; clear HO551; clear HO555; clear BK530; clear HB; have HO548 := n0_; have HO551 := n1_; have HO555 := n2_; have HO560 := n3_; have BK530 := n4_; have HB := n5_; clear n0_ n1_ n2_ n3_ n4_ n5_; (try clear hb); (try clear hb2); (try clear hk); (try clear hi); (try clear ho0); obtain ⟨Ao44, co44, eo44⟩ := Kd.R_slice HO560.out; subst eo44) | ((with_reducible refine gate_callee (f := 29) rfl ?_); refine goesL_ (some 49) rfl rfl Try.func29 (by kernel_rfl) rfl #[.agg #[.int .i64 t557, .slice Ao44 t558.length co44]] rfl (by (try simp only [List.map_toArray, List.map_cons, List.map_nil]); first | done | rfl | (simp only [List.length_drop, List.length_take]; rfl)) ?_; (with_reducible refine (wax_Sides.calls kj4 t557 _ _ t558 t561 t564 _ ?side1 ?side2 A29.out).mono ?_); (case side1 => repeat (first | exact (Kd.R_reads' HO560.out).2.2 | (with_reducible refine Kd.C_alloc ?_ _) | (with_reducible refine Kd.C_drewN ?_ _) | (with_reducible refine Kd.C_drew ?_))); (case side2 => exact (Kd.R_reads' HO560.out).2.1); rintro e w45 ⟨v562, rfl, ho0, hb⟩; refine ⟨_, rfl, ?_⟩; have n0_ := Aside0.mk (Kd.R_below (by (with_reducible repeat (first | apply Kd.R_alloc | apply Kd.R_drewN | apply Kd.R_drew)); exact HO548.out) hb); have n1_ := Aside0.mk (Kd.R_below (by (with_reducible repeat (first | apply Kd.R_alloc | apply Kd.R_drewN | apply Kd.R_drew)); exact HO551.out) hb); have n2_ := Aside0.mk (Kd.R_below (by (with_reducible repeat (first | apply Kd.R_alloc | apply Kd.R_drewN | apply Kd.R_drew)); exact HO555.out) hb); have n3_ := Aside0.mk (Kd.R_below (by (with_reducible repeat (first | apply Kd.R_alloc | apply Kd.R_drewN | apply Kd.R_drew)); exact HO560.out) hb); have n4_ := Aside0.mk (Kd.S_lower (Kd.S_new' (Kd.S_new' ho0 (Kd.R_lt (by (with_reducible repeat (first | apply Kd.R_alloc | apply Kd.R_drewN | apply Kd.R_drew)); exact HO551.out))) (Kd.R_lt (by (with_reducible repeat (first | apply Kd.R_alloc | apply Kd.R_drewN | apply Kd.R_drew)); exact HO555.out))) (below_size (by repeat (first | (with_reducible first | exact HB.out | apply below_alloc | apply pw_below_drewN | apply below_drew1 | refine below_set ?_ GE530.out) | exact HB.out)))); have n5_ := Aside0.mk (blk_below (g := gb530) (o := .cells #[.int .i64 a0_0, .slice A0_1 l0_1.length c0_1] 24 (0, 0)) (by (with_reducible repeat (first | refine blk_drewN ?_ _ | refine blk_drew ?_ | refine blk_alloc ?_ _)); exact BK530.out) hb); have n6_ := Aside0.mk (below_step (by repeat (first | (with_reducible first | exact HB.out | apply below_alloc | apply pw_below_drewN | apply below_drew1 | refine below_set ?_ GE530.out) | exact HB.out)) hb); clear HO548; clear HO551; clear HO555; clear HO560; clear BK530; clear HB; have HO548 := n0_; have HO551 := n1_; have HO555 := n2_; have HO560 := n3_; have HO563 := n4_; have BK530 := n5_; have HB := n6_; clear n0_ n1_ n2_ n3_ n4_ n5_ n6_; (try clear hb); (try clear hb2); (try clear hk); (try clear hi); (try clear ho0); have hcz46_0 : w45.cell? ⟨gb530, 0, none⟩ = some (.int .i64 a0_0) := (blk_cell BK530.out 0).trans rfl; have hcz46_1 : w45.cell? ⟨gb530, 1, none⟩ = some (.slice A0_1 l0_1.length c0_1) := (blk_cell BK530.out 1).trans rfl; have hfz46_0 := blk_frozen BK530.out 0; have hfz46_1 := blk_frozen BK530.out 1) | ((with_reducible refine gate_callee (f := 39) rfl ?_); refine goesL_ (some 54) rfl rfl Try.func39 (by kernel_rfl) rfl #[.agg #[.int .i64 a0_0, .slice A0_1 l0_1.length c0_1]] rfl (by (try simp only [List.map_toArray, List.map_cons, List.map_nil]); first | done | rfl | (simp only [List.length_drop, List.length_take]; rfl)) ?_; (with_reducible refine (cantingref07_Sides.calls kj4 a0_0 _ _ l0_1 t565 t568 _ ?side1 ?side2 A30.out).mono ?_); (case side1 => repeat (first | exact (Kd.C_below HR0_1.out HB.out) | (with_reducible refine Kd.C_alloc ?_ _) | (with_reducible refine Kd.C_drewN ?_ _) | (with_reducible refine Kd.C_drew ?_))); (case side2 => exact HC0_1.out); rintro e w47 ⟨v566, rfl, ho0, hb⟩; refine ⟨_, rfl, ?_⟩; have n0_ := Aside0.mk (Kd.R_below (by (with_reducible repeat (first | apply Kd.R_alloc | apply Kd.R_drewN | apply Kd.R_drew)); exact HO548.out) hb); have n1_ := Aside0.mk (Kd.R_below (by (with_reducible repeat (first | apply Kd.R_alloc | apply Kd.R_drewN | apply Kd.R_drew)); exact HO551.out) hb); have n2_ := Aside0.mk (Kd.R_below (by (with_reducible repeat (first | apply Kd.R_alloc | apply Kd.R_drewN | apply Kd.R_drew)); exact HO555.out) hb); have n3_ := Aside0.mk (Kd.R_below (by (with_reducible repeat (first | apply Kd.R_alloc | apply Kd.R_drewN | apply Kd.R_drew)); exact HO560.out) hb); have n4_ := Aside0.mk (Kd.S_elder' (by (with_reducible repeat (first | apply Kd.S_alloc | apply Kd.S_drewN | apply Kd.S_drew)); exact HO563.out) (Kd.S_base ho0) hb); have n5_ := Aside0.mk (Kd.S_lower (Kd.S_new' (Kd.S_new' (Kd.S_new' ho0 (Kd.R_lt (by (with_reducible repeat (first | apply Kd.R_alloc | apply Kd.R_drewN | apply Kd.R_drew)); exact HO551.out))) (Kd.R_lt (by (with_reducible repeat (first | apply Kd.R_alloc | apply Kd.R_drewN | apply Kd.R_drew)); exact HO555.out))) (Kd.S_lt (by (with_reducible repeat (first | apply Kd.S_alloc | apply Kd.S_drewN | apply Kd.S_drew)); exact HO563.out))) (below_size (by repeat (first | (with_reducible first | exact HB.out | apply below_alloc | apply pw_below_drewN | apply below_drew1 | refine below_set ?_ GE530.out) | exact HB.out)))); have n6_ := Aside0.mk (blk_below (g := gb530) (o := .cells #[.int .i64 a0_0, .slice A0_1 l0_1.length c0_1] 24 (0, 0)) (by (with_reducible repeat (first | refine blk_drewN ?_ _ | refine blk_drew ?_ | refine blk_alloc ?_ _)); exact BK530.out) hb); have n7_ := Aside0.mk (below_step (by repeat (first | (with_reducible first | exact HB.out | apply below_alloc | apply pw_below_drewN | apply below_drew1 | refine below_set ?_ GE530.out) | exact HB.out)) hb); clear HO548; clear HO551; clear HO555; clear HO560; clear HO563; clear BK530; clear HB; have HO548 := n0_; have HO551 := n1_; have HO555 := n2_; have HO560 := n3_; have HO563 := n4_; have HO567 := n5_; have BK530 := n6_; have HB := n7_; clear n0_ n1_ n2_ n3_ n4_ n5_ n6_ n7_; (try clear hb); (try clear hb2); (try clear hk); (try clear hi); (try clear ho0); obtain ⟨Ao48, co48, eo48⟩ := Kd.R_slice HO551.out; subst eo48; obtain ⟨Ao49, co49, eo49⟩ := Kd.R_slice HO555.out; subst eo49) | ((with_reducible refine gate_callee (f := 30) rfl ?_); refine goesL_ (some 59) rfl rfl Try.func30 (by kernel_rfl) rfl #[.slice Ao48 t549.length co48, .slice Ao49 t553.length co49] rfl (by (try simp only [List.map_toArray, List.map_cons, List.map_nil]); first | done | rfl | (simp only [List.length_drop, List.length_take]; rfl)) ?_; (with_reducible refine (slices_Equal_bool_bool.calls kj4 _ _ t549 _ _ t553 true _ ?side1 ?side2 ?side3 ?side4 A31.out).mono ?_); (case side1 => repeat (first | exact (Kd.R_reads' HO551.out).2.2 | (with_reducible refine Kd.C_alloc ?_ _) | (with_reducible refine Kd.C_drewN ?_ _) | (with_reducible refine Kd.C_drew ?_))); (case side2 => exact (Kd.R_reads' HO551.out).2.1); (case side3 => repeat (first | exact (Kd.R_reads' HO555.out).2.2 | (with_reducible refine Kd.C_alloc ?_ _) | (with_reducible refine Kd.C_drewN ?_ _) | (with_reducible refine Kd.C_drew ?_))); (case side4 => exact (Kd.R_reads' HO555.out).2.1); rintro e w' ⟨rfl, ⟨nd, rfl⟩⟩; refine ⟨_, rfl, ?_⟩; obtain ⟨Ao50, co50, eo50⟩ := Kd.S_slice HO563.out; subst eo50; obtain ⟨Ao51, co51, eo51⟩ := Kd.S_slice HO567.out; subst eo51) | (go_at_call 40; (with_reducible refine (slices_EqualFunc_bool_bool_bool_bool.calls _ _ t561 _ _ t565 true _ ?side1 ?side2 ?side3 ?side4 A34.out).mono ?_); (case side1 => repeat (first | exact (Kd.S_reads' HO563.out).2.2 | (with_reducible refine Kd.C_alloc ?_ _) | (with_reducible refine Kd.C_drewN ?_ _) | (with_reducible refine Kd.C_drew ?_))); (case side2 => exact (Kd.S_reads' HO563.out).2.1); (case side3 => repeat (first | exact (Kd.S_reads' HO567.out).2.2 | (with_reducible refine Kd.C_alloc ?_ _) | (with_reducible refine Kd.C_drewN ?_ _) | (with_reducible refine Kd.C_drew ?_))); (case side4 => exact (Kd.S_reads' HO567.out).2.1); rintro e w52 ⟨rfl, hb⟩; have n0_ := Aside0.mk (Kd.R_below (by (with_reducible repeat (first | apply Kd.R_alloc | apply Kd.R_drewN | apply Kd.R_drew)); exact HO548.out) hb); have n1_ := Aside0.mk (Kd.R_below (by (with_reducible repeat (first | apply Kd.R_alloc | apply Kd.R_drewN | apply Kd.R_drew)); exact HO551.out) hb); have n2_ := Aside0.mk (Kd.R_below (by (with_reducible repeat (first | apply Kd.R_alloc | apply Kd.R_drewN | apply Kd.R_drew)); exact HO555.out) hb); have n3_ := Aside0.mk (Kd.R_below (by (with_reducible repeat (first | apply Kd.R_alloc | apply Kd.R_drewN | apply Kd.R_drew)); exact HO560.out) hb); have n4_ := Aside0.mk (Kd.S_below (by (with_reducible repeat (first | apply Kd.S_alloc | apply Kd.S_drewN | apply Kd.S_drew)); exact HO563.out) hb); have n5_ := Aside0.mk (Kd.S_below (by (with_reducible repeat (first | apply Kd.S_alloc | apply Kd.S_drewN | apply Kd.S_drew)); exact HO567.out) hb); have n6_ := Aside0.mk (blk_below (g := gb530) (o := .cells #[.int .i64 a0_0, .slice A0_1 l0_1.length c0_1] 24 (0, 0)) (by (with_reducible repeat (first | refine blk_drewN ?_ _ | refine blk_drew ?_ | refine blk_alloc ?_ _)); exact BK530.out) hb); have n7_ := Aside0.mk (below_step (by repeat (first | (with_reducible first | exact HB.out | apply below_alloc | apply pw_below_drewN | apply below_drew1 | refine below_set ?_ GE530.out) | exact HB.out)) hb); clear HO548; clear HO551; clear HO555; clear HO560; clear HO563; clear HO567; clear BK530; clear HB; have HO548 := n0_; have HO551 := n1_; have HO555 := n2_; have HO560 := n3_; have HO563 := n4_; have HO567 := n5_; have BK530 := n6_; have HB := n7_; clear n0_ n1_ n2_ n3_ n4_ n5_ n6_ n7_; (try clear hb); (try clear hb2); (try clear hk); (try clear hi)))
              go_ret
              exact ⟨by first | rfl | (simp [errW_none, errW_some] <;> rfl) | (simp [*, errW_none, errW_some] <;> rfl), by repeat (first | (with_reducible first | exact HB.out | apply below_alloc | apply pw_below_drewN | apply below_drew1 | refine below_set ?_ GE530.out) | exact HB.out)⟩
            · replace c35 := Bool.eq_false_iff.mpr c35
              subst c35
              have H1 : (some false) = some r := by rw [if_neg (show ¬ (false = true) by decide)] at H; exact H
              clear H
              have H := H1
              clear H1
              obtain rfl := Option.some.inj H
              have hcz53_0 : wc.cell? ⟨gb530, 0, none⟩ = some (.int .i64 a0_0) := (blk_cell BK530.out 0).trans rfl
              have hcz53_1 : wc.cell? ⟨gb530, 1, none⟩ = some (.slice A0_1 l0_1.length c0_1) := (blk_cell BK530.out 1).trans rfl
              have hfz53_0 := blk_frozen BK530.out 0
              have hfz53_1 := blk_frozen BK530.out 1
              go_wp2_with (first | ((with_reducible refine gate_callee (f := 17) rfl ?_); refine goesL_ (some 37) rfl rfl Try.func17 (by kernel_rfl) rfl #[.agg #[.int .i64 a0_0, .slice A0_1 l0_1.length c0_1]] rfl (by (try simp only [List.map_toArray, List.map_cons, List.map_nil]); first | done | rfl | (simp only [List.length_drop, List.length_take]; rfl)) ?_; (with_reducible refine (cantinglaw07_net.calls kj4 a0_0 _ _ l0_1 t545 t546 _ ?side1 ?side2 A25.out).mono ?_); (case side1 => repeat (first | exact (Kd.C_below HR0_1.out HB.out) | (with_reducible refine Kd.C_alloc ?_ _) | (with_reducible refine Kd.C_drewN ?_ _) | (with_reducible refine Kd.C_drew ?_))); (case side2 => exact HC0_1.out); rintro e w54 ⟨v547, rfl, ho0, hb⟩; refine ⟨_, rfl, ?_⟩; have n0_ := Aside0.mk (Kd.R_lower ho0 (below_size (by repeat (first | (with_reducible first | exact HB.out | apply below_alloc | apply pw_below_drewN | apply below_drew1 | refine below_set ?_ GE530.out) | exact HB.out)))); have n1_ := Aside0.mk (blk_below (g := gb530) (o := .cells #[.int .i64 a0_0, .slice A0_1 l0_1.length c0_1] 24 (0, 0)) (by (with_reducible repeat (first | refine blk_drewN ?_ _ | refine blk_drew ?_ | refine blk_alloc ?_ _)); exact BK530.out) hb); have n2_ := Aside0.mk (below_step (by repeat (first | (with_reducible first | exact HB.out | apply below_alloc | apply pw_below_drewN | apply below_drew1 | refine below_set ?_ GE530.out) | exact HB.out)) hb); clear BK530; clear HB; have HO548 := n0_; have BK530 := n1_; have HB := n2_; clear n0_ n1_ n2_; (try clear hb); (try clear hb2); (try clear hk); (try clear hi); (try clear ho0); obtain ⟨Ao55, co55, eo55⟩ := Kd.R_slice HO548.out; subst eo55) | ((with_reducible refine gate_callee (f := 34) rfl ?_); refine goesL_ (some 38) rfl rfl Try.func34 (by kernel_rfl) rfl #[.agg #[.int .i64 t545, .slice Ao55 t546.length co55]] rfl (by (try simp only [List.map_toArray, List.map_cons, List.map_nil]); first | done | rfl | (simp only [List.length_drop, List.length_take]; rfl)) ?_; (with_reducible refine (wax_Greatest.calls t545 _ _ t546 t549 t552 _ ?side1 ?side2 A26.out).mono ?_); (case side1 => repeat (first | exact (Kd.R_reads' HO548.out).2.2 | (with_reducible refine Kd.C_alloc ?_ _) | (with_reducible refine Kd.C_drewN ?_ _) | (with_reducible refine Kd.C_drew ?_))); (case side2 => exact (Kd.R_reads' HO548.out).2.1); rintro e w56 ⟨v550, rfl, ho0, hb⟩; refine ⟨_, rfl, ?_⟩; have n0_ := Aside0.mk (Kd.R_below (by (with_reducible repeat (first | apply Kd.R_alloc | apply Kd.R_drewN | apply Kd.R_drew)); exact HO548.out) hb); have n1_ := Aside0.mk (Kd.R_lower ho0 (below_size (by repeat (first | (with_reducible first | exact HB.out | apply below_alloc | apply pw_below_drewN | apply below_drew1 | refine below_set ?_ GE530.out) | exact HB.out)))); have n2_ := Aside0.mk (blk_below (g := gb530) (o := .cells #[.int .i64 a0_0, .slice A0_1 l0_1.length c0_1] 24 (0, 0)) (by (with_reducible repeat (first | refine blk_drewN ?_ _ | refine blk_drew ?_ | refine blk_alloc ?_ _)); exact BK530.out) hb); have n3_ := Aside0.mk (below_step (by repeat (first | (with_reducible first | exact HB.out | apply below_alloc | apply pw_below_drewN | apply below_drew1 | refine below_set ?_ GE530.out) | exact HB.out)) hb); clear HO548; clear BK530; clear HB; have HO548 := n0_; have HO551 := n1_; have BK530 := n2_; have HB := n3_; clear n0_ n1_ n2_ n3_; (try clear hb); (try clear hb2); (try clear hk); (try clear hi); (try clear ho0); have hcz57_0 : w56.cell? ⟨gb530, 0, none⟩ = some (.int .i64 a0_0) := (blk_cell BK530.out 0).trans rfl; have hcz57_1 : w56.cell? ⟨gb530, 1, none⟩ = some (.slice A0_1 l0_1.length c0_1) := (blk_cell BK530.out 1).trans rfl; have hfz57_0 := blk_frozen BK530.out 0; have hfz57_1 := blk_frozen BK530.out 1) | ((with_reducible refine gate_callee (f := 38) rfl ?_); refine goesL_ (some 43) rfl rfl Try.func38 (by kernel_rfl) rfl #[.agg #[.int .i64 a0_0, .slice A0_1 l0_1.length c0_1]] rfl (by (try simp only [List.map_toArray, List.map_cons, List.map_nil]); first | done | rfl | (simp only [List.length_drop, List.length_take]; rfl)) ?_; (with_reducible refine (cantingref07_Greatest.calls a0_0 _ _ l0_1 t553 t556 _ ?side1 ?side2 A27.out).mono ?_); (case side1 => repeat (first | exact (Kd.C_below HR0_1.out HB.out) | (with_reducible refine Kd.C_alloc ?_ _) | (with_reducible refine Kd.C_drewN ?_ _) | (with_reducible refine Kd.C_drew ?_))); (case side2 => exact HC0_1.out); rintro e w58 ⟨v554, rfl, ho0, hb⟩; refine ⟨_, rfl, ?_⟩; have n0_ := Aside0.mk (Kd.R_below (by (with_reducible repeat (first | apply Kd.R_alloc | apply Kd.R_drewN | apply Kd.R_drew)); exact HO548.out) hb); have n1_ := Aside0.mk (Kd.R_elder' (by (with_reducible repeat (first | apply Kd.R_alloc | apply Kd.R_drewN | apply Kd.R_drew)); exact HO551.out) (Kd.R_base ho0) hb); have n2_ := Aside0.mk (Kd.R_lower (Kd.R_new' ho0 (Kd.R_lt (by (with_reducible repeat (first | apply Kd.R_alloc | apply Kd.R_drewN | apply Kd.R_drew)); exact HO551.out))) (below_size (by repeat (first | (with_reducible first | exact HB.out | apply below_alloc | apply pw_below_drewN | apply below_drew1 | refine below_set ?_ GE530.out) | exact HB.out)))); have n3_ := Aside0.mk (blk_below (g := gb530) (o := .cells #[.int .i64 a0_0, .slice A0_1 l0_1.length c0_1] 24 (0, 0)) (by (with_reducible repeat (first | refine blk_drewN ?_ _ | refine blk_drew ?_ | refine blk_alloc ?_ _)); exact BK530.out) hb); have n4_ := Aside0.mk (below_step (by repeat (first | (with_reducible first | exact HB.out | apply below_alloc | apply pw_below_drewN | apply below_drew1 | refine below_set ?_ GE530.out) | exact HB.out)) hb); clear HO548; clear HO551; clear BK530; clear HB; have HO548 := n0_; have HO551 := n1_; have HO555 := n2_; have BK530 := n3_; have HB := n4_; clear n0_ n1_ n2_ n3_ n4_; (try clear hb); (try clear hb2); (try clear hk); (try clear hi); (try clear ho0); have hcz59_0 : w58.cell? ⟨gb530, 0, none⟩ = some (.int .i64 a0_0) := (blk_cell BK530.out 0).trans rfl; have hcz59_1 : w58.cell? ⟨gb530, 1, none⟩ = some (.slice A0_1 l0_1.length c0_1) := (blk_cell BK530.out 1).trans rfl; have hfz59_0 := blk_frozen BK530.out 0; have hfz59_1 := blk_frozen BK530.out 1) | ((with_reducible refine gate_callee (f := 17) rfl ?_); refine goesL_ (some 48) rfl rfl Try.func17 (by kernel_rfl) rfl #[.agg #[.int .i64 a0_0, .slice A0_1 l0_1.length c0_1]] rfl (by (try simp only [List.map_toArray, List.map_cons, List.map_nil]); first | done | rfl | (simp only [List.length_drop, List.length_take]; rfl)) ?_; (with_reducible refine (cantinglaw07_net.calls kj4 a0_0 _ _ l0_1 t557 t558 _ ?side1 ?side2 A28.out).mono ?_); (case side1 => repeat (first | exact (Kd.C_below HR0_1.out HB.out) | (with_reducible refine Kd.C_alloc ?_ _) | (with_reducible refine Kd.C_drewN ?_ _) | (with_reducible refine Kd.C_drew ?_))); (case side2 => exact HC0_1.out); rintro e w60 ⟨v559, rfl, ho0, hb⟩; refine ⟨_, rfl, ?_⟩; have n0_ := Aside0.mk (Kd.R_elder' (by (with_reducible repeat (first | apply Kd.R_alloc | apply Kd.R_drewN | apply Kd.R_drew)); exact HO548.out) (Kd.R_base ho0) hb); have n1_ := Aside0.mk (Kd.R_below (by (with_reducible repeat (first | apply Kd.R_alloc | apply Kd.R_drewN | apply Kd.R_drew)); exact HO551.out) hb); have n2_ := Aside0.mk (Kd.R_below (by (with_reducible repeat (first | apply Kd.R_alloc | apply Kd.R_drewN | apply Kd.R_drew)); exact HO555.out) hb); have n3_ := Aside0.mk (Kd.R_lower (Kd.R_new' ho0 (Kd.R_lt (by (with_reducible repeat (first | apply Kd.R_alloc | apply Kd.R_drewN | apply Kd.R_drew)); exact HO548.out))) (below_size (by repeat (first | (with_reducible first | exact HB.out | apply below_alloc | apply pw_below_drewN | apply below_drew1 | refine below_set ?_ GE530.out) | exact HB.out)))); have n4_ := Aside0.mk (blk_below (g := gb530) (o := .cells #[.int .i64 a0_0, .slice A0_1 l0_1.length c0_1] 24 (0, 0)) (by (with_reducible repeat (first | refine blk_drewN ?_ _ | refine blk_drew ?_ | refine blk_alloc ?_ _)); exact BK530.out) hb); have n5_ := Aside0.mk (below_step (by repeat (first | (with_reducible first | exact HB.out | apply below_alloc | apply pw_below_drewN | apply below_drew1 | refine below_set ?_ GE530.out) | exact HB.out)) hb); clear HO548; clear HO551; clear HO555; clear BK530; clear HB; have HO548 := n0_; have HO551 := n1_; have HO555 := n2_; have HO560 := n3_; have BK530 := n4_; have HB := n5_; clear n0_ n1_ n2_ n3_ n4_ n5_; (try clear hb); (try clear hb2); (try clear hk); (try clear hi); (try clear ho0); obtain ⟨Ao61, co61, eo61⟩ := Kd.R_slice HO560.out; subst eo61) | ((with_reducible refine gate_callee (f := 29) rfl ?_); refine goesL_ (some 49) rfl rfl Try.func29 (by kernel_rfl) rfl #[.agg #[.int .i64 t557, .slice Ao61 t558.length co61]] rfl (by (try simp only [List.map_toArray, List.map_cons, List.map_nil]); first | done | rfl | (simp only [List.length_drop, List.length_take]; rfl)) ?_; (with_reducible refine (wax_Sides.calls kj4 t557 _ _ t558 t561 t564 _ ?side1 ?side2 A29.out).mono ?_); (case side1 => repeat (first | exact (Kd.R_reads' HO560.out).2.2 | (with_reducible refine Kd.C_alloc ?_ _) | (with_reducible refine Kd.C_drewN ?_ _) | (with_reducible refine Kd.C_drew ?_))); (case side2 => exact (Kd.R_reads' HO560.out).2.1); rintro e w62 ⟨v562, rfl, ho0, hb⟩; refine ⟨_, rfl, ?_⟩; have n0_ := Aside0.mk (Kd.R_below (by (with_reducible repeat (first | apply Kd.R_alloc | apply Kd.R_drewN | apply Kd.R_drew)); exact HO548.out) hb); have n1_ := Aside0.mk (Kd.R_below (by (with_reducible repeat (first | apply Kd.R_alloc | apply Kd.R_drewN | apply Kd.R_drew)); exact HO551.out) hb); have n2_ := Aside0.mk (Kd.R_below (by (with_reducible repeat (first | apply Kd.R_alloc | apply Kd.R_drewN | apply Kd.R_drew)); exact HO555.out) hb); have n3_ := Aside0.mk (Kd.R_below (by (with_reducible repeat (first | apply Kd.R_alloc | apply Kd.R_drewN | apply Kd.R_drew)); exact HO560.out) hb); have n4_ := Aside0.mk (Kd.S_lower (Kd.S_new' (Kd.S_new' ho0 (Kd.R_lt (by (with_reducible repeat (first | apply Kd.R_alloc | apply Kd.R_drewN | apply Kd.R_drew)); exact HO551.out))) (Kd.R_lt (by (with_reducible repeat (first | apply Kd.R_alloc | apply Kd.R_drewN | apply Kd.R_drew)); exact HO555.out))) (below_size (by repeat (first | (with_reducible first | exact HB.out | apply below_alloc | apply pw_below_drewN | apply below_drew1 | refine below_set ?_ GE530.out) | exact HB.out)))); have n5_ := Aside0.mk (blk_below (g := gb530) (o := .cells #[.int .i64 a0_0, .slice A0_1 l0_1.length c0_1] 24 (0, 0)) (by (with_reducible repeat (first | refine blk_drewN ?_ _ | refine blk_drew ?_ | refine blk_alloc ?_ _)); exact BK530.out) hb); have n6_ := Aside0.mk (below_step (by repeat (first | (with_reducible first | exact HB.out | apply below_alloc | apply pw_below_drewN | apply below_drew1 | refine below_set ?_ GE530.out) | exact HB.out)) hb); clear HO548; clear HO551; clear HO555; clear HO560; clear BK530; clear HB; have HO548 := n0_; have HO551 := n1_; have HO555 := n2_; have HO560 := n3_; have HO563 := n4_; have BK530 := n5_; have HB := n6_; clear n0_ n1_ n2_ n3_ n4_ n5_ n6_; (try clear hb); (try clear hb2); (try clear hk); (try clear hi); (try clear ho0); have hcz63_0 : w62.cell? ⟨gb530, 0, none⟩ = some (.int .i64 a0_0) := (blk_cell BK530.out 0).trans rfl; have hcz63_1 : w62.cell? ⟨gb530, 1, none⟩ = some (.slice A0_1 l0_1.length c0_1) := (blk_cell BK530.out 1).trans rfl; have hfz63_0 := blk_frozen BK530.out 0; have hfz63_1 := blk_frozen BK530.out 1) | ((with_reducible refine gate_callee (f := 39) rfl ?_); refine goesL_ (some 54) rfl rfl Try.func39 (by kernel_rfl) rfl #[.agg #[.int .i64 a0_0, .slice A0_1 l0_1.length c0_1]] rfl (by (try simp only [List.map_toArray, List.map_cons, List.map_nil]); first | done | rfl | (simp only [List.length_drop, List.length_take]; rfl)) ?_; (with_reducible refine (cantingref07_Sides.calls kj4 a0_0 _ _ l0_1 t565 t568 _ ?side1 ?side2 A30.out).mono ?_); (case side1 => repeat (first | exact (Kd.C_below HR0_1.out HB.out) | (with_reducible refine Kd.C_alloc ?_ _) | (with_reducible refine Kd.C_drewN ?_ _) | (with_reducible refine Kd.C_drew ?_))); (case side2 => exact HC0_1.out); rintro e w64 ⟨v566, rfl, ho0, hb⟩; refine ⟨_, rfl, ?_⟩; have n0_ := Aside0.mk (Kd.R_below (by (with_reducible repeat (first | apply Kd.R_alloc | apply Kd.R_drewN | apply Kd.R_drew)); exact HO548.out) hb); have n1_ := Aside0.mk (Kd.R_below (by (with_reducible repeat (first | apply Kd.R_alloc | apply Kd.R_drewN | apply Kd.R_drew)); exact HO551.out) hb); have n2_ := Aside0.mk (Kd.R_below (by (with_reducible repeat (first | apply Kd.R_alloc | apply Kd.R_drewN | apply Kd.R_drew)); exact HO555.out) hb); have n3_ := Aside0.mk (Kd.R_below (by (with_reducible repeat (first | apply Kd.R_alloc | apply Kd.R_drewN | apply Kd.R_drew)); exact HO560.out) hb); have n4_ := Aside0.mk (Kd.S_elder' (by (with_reducible repeat (first | apply Kd.S_alloc | apply Kd.S_drewN | apply Kd.S_drew)); exact HO563.out) (Kd.S_base ho0) hb); have n5_ := Aside0.mk (Kd.S_lower (Kd.S_new' (Kd.S_new' (Kd.S_new' ho0 (Kd.R_lt (by (with_reducible repeat (first | apply Kd.R_alloc | apply Kd.R_drewN | apply Kd.R_drew)); exact HO551.out))) (Kd.R_lt (by (with_reducible repeat (first | apply Kd.R_alloc | apply Kd.R_drewN | apply Kd.R_drew)); exact HO555.out))) (Kd.S_lt (by (with_reducible repeat (first | apply Kd.S_alloc | apply Kd.S_drewN | apply Kd.S_drew)); exact HO563.out))) (below_size (by repeat (first | (with_reducible first | exact HB.out | apply below_alloc | apply pw_below_drewN | apply below_drew1 | refine below_set ?_ GE530.out) | exact HB.out)))); have n6_ := Aside0.mk (blk_below (g := gb530) (o := .cells #[.int .i64 a0_0, .slice A0_1 l0_1.length c0_1] 24 (0, 0)) (by (with_reducible repeat (first | refine blk_drewN ?_ _ | refine blk_drew ?_ | refine blk_alloc ?_ _)); exact BK530.out) hb); have n7_ := Aside0.mk (below_step (by repeat (first | (with_reducible first | exact HB.out | apply below_alloc | apply pw_below_drewN | apply below_drew1 | refine below_set ?_ GE530.out) | exact HB.out)) hb); clear HO548; clear HO551; clear HO555; clear HO560; clear HO563; clear BK530; clear HB; have HO548 := n0_; have HO551 := n1_; have HO555 := n2_; have HO560 := n3_; have HO563 := n4_; have HO567 := n5_; have BK530 := n6_; have HB := n7_; clear n0_ n1_ n2_ n3_ n4_ n5_ n6_ n7_; (try clear hb); (try clear hb2); (try clear hk); (try clear hi); (try clear ho0); obtain ⟨Ao65, co65, eo65⟩ := Kd.R_slice HO551.out; subst eo65; obtain ⟨Ao66, co66, eo66⟩ := Kd.R_slice HO555.out; subst eo66) | ((with_reducible refine gate_callee (f := 30) rfl ?_); refine goesL_ (some 59) rfl rfl Try.func30 (by kernel_rfl) rfl #[.slice Ao65 t549.length co65, .slice Ao66 t553.length co66] rfl (by (try simp only [List.map_toArray, List.map_cons, List.map_nil]); first | done | rfl | (simp only [List.length_drop, List.length_take]; rfl)) ?_; (with_reducible refine (slices_Equal_bool_bool.calls kj4 _ _ t549 _ _ t553 true _ ?side1 ?side2 ?side3 ?side4 A31.out).mono ?_); (case side1 => repeat (first | exact (Kd.R_reads' HO551.out).2.2 | (with_reducible refine Kd.C_alloc ?_ _) | (with_reducible refine Kd.C_drewN ?_ _) | (with_reducible refine Kd.C_drew ?_))); (case side2 => exact (Kd.R_reads' HO551.out).2.1); (case side3 => repeat (first | exact (Kd.R_reads' HO555.out).2.2 | (with_reducible refine Kd.C_alloc ?_ _) | (with_reducible refine Kd.C_drewN ?_ _) | (with_reducible refine Kd.C_drew ?_))); (case side4 => exact (Kd.R_reads' HO555.out).2.1); rintro e w' ⟨rfl, ⟨nd, rfl⟩⟩; refine ⟨_, rfl, ?_⟩; obtain ⟨Ao67, co67, eo67⟩ := Kd.S_slice HO563.out; subst eo67; obtain ⟨Ao68, co68, eo68⟩ := Kd.S_slice HO567.out; subst eo68) | (go_at_call 40; (with_reducible refine (slices_EqualFunc_bool_bool_bool_bool.calls _ _ t561 _ _ t565 false _ ?side1 ?side2 ?side3 ?side4 A34.out).mono ?_); (case side1 => repeat (first | exact (Kd.S_reads' HO563.out).2.2 | (with_reducible refine Kd.C_alloc ?_ _) | (with_reducible refine Kd.C_drewN ?_ _) | (with_reducible refine Kd.C_drew ?_))); (case side2 => exact (Kd.S_reads' HO563.out).2.1); (case side3 => repeat (first | exact (Kd.S_reads' HO567.out).2.2 | (with_reducible refine Kd.C_alloc ?_ _) | (with_reducible refine Kd.C_drewN ?_ _) | (with_reducible refine Kd.C_drew ?_))); (case side4 => exact (Kd.S_reads' HO567.out).2.1); rintro e w69 ⟨rfl, hb⟩; have n0_ := Aside0.mk (Kd.R_below (by (with_reducible repeat (first | apply Kd.R_alloc | apply Kd.R_drewN | apply Kd.R_drew)); exact HO548.out) hb); have n1_ := Aside0.mk (Kd.R_below (by (with_reducible repeat (first | apply Kd.R_alloc | apply Kd.R_drewN | apply Kd.R_drew)); exact HO551.out) hb); have n2_ := Aside0.mk (Kd.R_below (by (with_reducible repeat (first | apply Kd.R_alloc | apply Kd.R_drewN | apply Kd.R_drew)); exact HO555.out) hb); have n3_ := Aside0.mk (Kd.R_below (by (with_reducible repeat (first | apply Kd.R_alloc | apply Kd.R_drewN | apply Kd.R_drew)); exact HO560.out) hb); have n4_ := Aside0.mk (Kd.S_below (by (with_reducible repeat (first | apply Kd.S_alloc | apply Kd.S_drewN | apply Kd.S_drew)); exact HO563.out) hb); have n5_ := Aside0.mk (Kd.S_below (by (with_reducible repeat (first | apply Kd.S_alloc | apply Kd.S_drewN | apply Kd.S_drew)); exact HO567.out) hb); have n6_ := Aside0.mk (blk_below (g := gb530) (o := .cells #[.int .i64 a0_0, .slice A0_1 l0_1.length c0_1] 24 (0, 0)) (by (with_reducible repeat (first | refine blk_drewN ?_ _ | refine blk_drew ?_ | refine blk_alloc ?_ _)); exact BK530.out) hb); have n7_ := Aside0.mk (below_step (by repeat (first | (with_reducible first | exact HB.out | apply below_alloc | apply pw_below_drewN | apply below_drew1 | refine below_set ?_ GE530.out) | exact HB.out)) hb); clear HO548; clear HO551; clear HO555; clear HO560; clear HO563; clear HO567; clear BK530; clear HB; have HO548 := n0_; have HO551 := n1_; have HO555 := n2_; have HO560 := n3_; have HO563 := n4_; have HO567 := n5_; have BK530 := n6_; have HB := n7_; clear n0_ n1_ n2_ n3_ n4_ n5_ n6_ n7_; (try clear hb); (try clear hb2); (try clear hk); (try clear hi)))
              go_ret
              exact ⟨by first | rfl | (simp [errW_none, errW_some] <;> rfl) | (simp [*, errW_none, errW_some] <;> rfl), by repeat (first | (with_reducible first | exact HB.out | apply below_alloc | apply pw_below_drewN | apply below_drew1 | refine below_set ?_ GE530.out) | exact HB.out)⟩
          · rw [if_neg c33] at H
            have c33b0 : (t552 == t556) = false := beq_eq_false_iff_ne.mpr c33
            have c33b1 : (t552 != t556) = true := bne_iff_ne.mpr c33
            obtain rfl := Option.some.inj H
            have hcz70_0 : wc.cell? ⟨gb530, 0, none⟩ = some (.int .i64 a0_0) := (blk_cell BK530.out 0).trans rfl
            have hcz70_1 : wc.cell? ⟨gb530, 1, none⟩ = some (.slice A0_1 l0_1.length c0_1) := (blk_cell BK530.out 1).trans rfl
            have hfz70_0 := blk_frozen BK530.out 0
            have hfz70_1 := blk_frozen BK530.out 1
            go_wp2_with (first | ((with_reducible refine gate_callee (f := 17) rfl ?_); refine goesL_ (some 37) rfl rfl Try.func17 (by kernel_rfl) rfl #[.agg #[.int .i64 a0_0, .slice A0_1 l0_1.length c0_1]] rfl (by (try simp only [List.map_toArray, List.map_cons, List.map_nil]); first | done | rfl | (simp only [List.length_drop, List.length_take]; rfl)) ?_; (with_reducible refine (cantinglaw07_net.calls kj4 a0_0 _ _ l0_1 t545 t546 _ ?side1 ?side2 A25.out).mono ?_); (case side1 => repeat (first | exact (Kd.C_below HR0_1.out HB.out) | (with_reducible refine Kd.C_alloc ?_ _) | (with_reducible refine Kd.C_drewN ?_ _) | (with_reducible refine Kd.C_drew ?_))); (case side2 => exact HC0_1.out); rintro e w71 ⟨v547, rfl, ho0, hb⟩; refine ⟨_, rfl, ?_⟩; have n0_ := Aside0.mk (Kd.R_lower ho0 (below_size (by repeat (first | (with_reducible first | exact HB.out | apply below_alloc | apply pw_below_drewN | apply below_drew1 | refine below_set ?_ GE530.out) | exact HB.out)))); have n1_ := Aside0.mk (blk_below (g := gb530) (o := .cells #[.int .i64 a0_0, .slice A0_1 l0_1.length c0_1] 24 (0, 0)) (by (with_reducible repeat (first | refine blk_drewN ?_ _ | refine blk_drew ?_ | refine blk_alloc ?_ _)); exact BK530.out) hb); have n2_ := Aside0.mk (below_step (by repeat (first | (with_reducible first | exact HB.out | apply below_alloc | apply pw_below_drewN | apply below_drew1 | refine below_set ?_ GE530.out) | exact HB.out)) hb); clear BK530; clear HB; have HO548 := n0_; have BK530 := n1_; have HB := n2_; clear n0_ n1_ n2_; (try clear hb); (try clear hb2); (try clear hk); (try clear hi); (try clear ho0); obtain ⟨Ao72, co72, eo72⟩ := Kd.R_slice HO548.out; subst eo72) | ((with_reducible refine gate_callee (f := 34) rfl ?_); refine goesL_ (some 38) rfl rfl Try.func34 (by kernel_rfl) rfl #[.agg #[.int .i64 t545, .slice Ao72 t546.length co72]] rfl (by (try simp only [List.map_toArray, List.map_cons, List.map_nil]); first | done | rfl | (simp only [List.length_drop, List.length_take]; rfl)) ?_; (with_reducible refine (wax_Greatest.calls t545 _ _ t546 t549 t552 _ ?side1 ?side2 A26.out).mono ?_); (case side1 => repeat (first | exact (Kd.R_reads' HO548.out).2.2 | (with_reducible refine Kd.C_alloc ?_ _) | (with_reducible refine Kd.C_drewN ?_ _) | (with_reducible refine Kd.C_drew ?_))); (case side2 => exact (Kd.R_reads' HO548.out).2.1); rintro e w73 ⟨v550, rfl, ho0, hb⟩; refine ⟨_, rfl, ?_⟩; have n0_ := Aside0.mk (Kd.R_below (by (with_reducible repeat (first | apply Kd.R_alloc | apply Kd.R_drewN | apply Kd.R_drew)); exact HO548.out) hb); have n1_ := Aside0.mk (Kd.R_lower ho0 (below_size (by repeat (first | (with_reducible first | exact HB.out | apply below_alloc | apply pw_below_drewN | apply below_drew1 | refine below_set ?_ GE530.out) | exact HB.out)))); have n2_ := Aside0.mk (blk_below (g := gb530) (o := .cells #[.int .i64 a0_0, .slice A0_1 l0_1.length c0_1] 24 (0, 0)) (by (with_reducible repeat (first | refine blk_drewN ?_ _ | refine blk_drew ?_ | refine blk_alloc ?_ _)); exact BK530.out) hb); have n3_ := Aside0.mk (below_step (by repeat (first | (with_reducible first | exact HB.out | apply below_alloc | apply pw_below_drewN | apply below_drew1 | refine below_set ?_ GE530.out) | exact HB.out)) hb); clear HO548; clear BK530; clear HB; have HO548 := n0_; have HO551 := n1_; have BK530 := n2_; have HB := n3_; clear n0_ n1_ n2_ n3_; (try clear hb); (try clear hb2); (try clear hk); (try clear hi); (try clear ho0); have hcz74_0 : w73.cell? ⟨gb530, 0, none⟩ = some (.int .i64 a0_0) := (blk_cell BK530.out 0).trans rfl; have hcz74_1 : w73.cell? ⟨gb530, 1, none⟩ = some (.slice A0_1 l0_1.length c0_1) := (blk_cell BK530.out 1).trans rfl; have hfz74_0 := blk_frozen BK530.out 0; have hfz74_1 := blk_frozen BK530.out 1) | ((with_reducible refine gate_callee (f := 38) rfl ?_); refine goesL_ (some 43) rfl rfl Try.func38 (by kernel_rfl) rfl #[.agg #[.int .i64 a0_0, .slice A0_1 l0_1.length c0_1]] rfl (by (try simp only [List.map_toArray, List.map_cons, List.map_nil]); first | done | rfl | (simp only [List.length_drop, List.length_take]; rfl)) ?_; (with_reducible refine (cantingref07_Greatest.calls a0_0 _ _ l0_1 t553 t556 _ ?side1 ?side2 A27.out).mono ?_); (case side1 => repeat (first | exact (Kd.C_below HR0_1.out HB.out) | (with_reducible refine Kd.C_alloc ?_ _) | (with_reducible refine Kd.C_drewN ?_ _) | (with_reducible refine Kd.C_drew ?_))); (case side2 => exact HC0_1.out); rintro e w75 ⟨v554, rfl, ho0, hb⟩; refine ⟨_, rfl, ?_⟩; have n0_ := Aside0.mk (Kd.R_below (by (with_reducible repeat (first | apply Kd.R_alloc | apply Kd.R_drewN | apply Kd.R_drew)); exact HO548.out) hb); have n1_ := Aside0.mk (Kd.R_elder' (by (with_reducible repeat (first | apply Kd.R_alloc | apply Kd.R_drewN | apply Kd.R_drew)); exact HO551.out) (Kd.R_base ho0) hb); have n2_ := Aside0.mk (Kd.R_lower (Kd.R_new' ho0 (Kd.R_lt (by (with_reducible repeat (first | apply Kd.R_alloc | apply Kd.R_drewN | apply Kd.R_drew)); exact HO551.out))) (below_size (by repeat (first | (with_reducible first | exact HB.out | apply below_alloc | apply pw_below_drewN | apply below_drew1 | refine below_set ?_ GE530.out) | exact HB.out)))); have n3_ := Aside0.mk (blk_below (g := gb530) (o := .cells #[.int .i64 a0_0, .slice A0_1 l0_1.length c0_1] 24 (0, 0)) (by (with_reducible repeat (first | refine blk_drewN ?_ _ | refine blk_drew ?_ | refine blk_alloc ?_ _)); exact BK530.out) hb); have n4_ := Aside0.mk (below_step (by repeat (first | (with_reducible first | exact HB.out | apply below_alloc | apply pw_below_drewN | apply below_drew1 | refine below_set ?_ GE530.out) | exact HB.out)) hb); clear HO548; clear HO551; clear BK530; clear HB; have HO548 := n0_; have HO551 := n1_; have HO555 := n2_; have BK530 := n3_; have HB := n4_; clear n0_ n1_ n2_ n3_ n4_; (try clear hb); (try clear hb2); (try clear hk); (try clear hi); (try clear ho0); have hcz76_0 : w75.cell? ⟨gb530, 0, none⟩ = some (.int .i64 a0_0) := (blk_cell BK530.out 0).trans rfl; have hcz76_1 : w75.cell? ⟨gb530, 1, none⟩ = some (.slice A0_1 l0_1.length c0_1) := (blk_cell BK530.out 1).trans rfl; have hfz76_0 := blk_frozen BK530.out 0; have hfz76_1 := blk_frozen BK530.out 1) | ((with_reducible refine gate_callee (f := 17) rfl ?_); refine goesL_ (some 48) rfl rfl Try.func17 (by kernel_rfl) rfl #[.agg #[.int .i64 a0_0, .slice A0_1 l0_1.length c0_1]] rfl (by (try simp only [List.map_toArray, List.map_cons, List.map_nil]); first | done | rfl | (simp only [List.length_drop, List.length_take]; rfl)) ?_; (with_reducible refine (cantinglaw07_net.calls kj4 a0_0 _ _ l0_1 t557 t558 _ ?side1 ?side2 A28.out).mono ?_); (case side1 => repeat (first | exact (Kd.C_below HR0_1.out HB.out) | (with_reducible refine Kd.C_alloc ?_ _) | (with_reducible refine Kd.C_drewN ?_ _) | (with_reducible refine Kd.C_drew ?_))); (case side2 => exact HC0_1.out); rintro e w77 ⟨v559, rfl, ho0, hb⟩; refine ⟨_, rfl, ?_⟩; have n0_ := Aside0.mk (Kd.R_elder' (by (with_reducible repeat (first | apply Kd.R_alloc | apply Kd.R_drewN | apply Kd.R_drew)); exact HO548.out) (Kd.R_base ho0) hb); have n1_ := Aside0.mk (Kd.R_below (by (with_reducible repeat (first | apply Kd.R_alloc | apply Kd.R_drewN | apply Kd.R_drew)); exact HO551.out) hb); have n2_ := Aside0.mk (Kd.R_below (by (with_reducible repeat (first | apply Kd.R_alloc | apply Kd.R_drewN | apply Kd.R_drew)); exact HO555.out) hb); have n3_ := Aside0.mk (Kd.R_lower (Kd.R_new' ho0 (Kd.R_lt (by (with_reducible repeat (first | apply Kd.R_alloc | apply Kd.R_drewN | apply Kd.R_drew)); exact HO548.out))) (below_size (by repeat (first | (with_reducible first | exact HB.out | apply below_alloc | apply pw_below_drewN | apply below_drew1 | refine below_set ?_ GE530.out) | exact HB.out)))); have n4_ := Aside0.mk (blk_below (g := gb530) (o := .cells #[.int .i64 a0_0, .slice A0_1 l0_1.length c0_1] 24 (0, 0)) (by (with_reducible repeat (first | refine blk_drewN ?_ _ | refine blk_drew ?_ | refine blk_alloc ?_ _)); exact BK530.out) hb); have n5_ := Aside0.mk (below_step (by repeat (first | (with_reducible first | exact HB.out | apply below_alloc | apply pw_below_drewN | apply below_drew1 | refine below_set ?_ GE530.out) | exact HB.out)) hb); clear HO548; clear HO551; clear HO555; clear BK530; clear HB; have HO548 := n0_; have HO551 := n1_; have HO555 := n2_; have HO560 := n3_; have BK530 := n4_; have HB := n5_; clear n0_ n1_ n2_ n3_ n4_ n5_; (try clear hb); (try clear hb2); (try clear hk); (try clear hi); (try clear ho0); obtain ⟨Ao78, co78, eo78⟩ := Kd.R_slice HO560.out; subst eo78) | ((with_reducible refine gate_callee (f := 29) rfl ?_); refine goesL_ (some 49) rfl rfl Try.func29 (by kernel_rfl) rfl #[.agg #[.int .i64 t557, .slice Ao78 t558.length co78]] rfl (by (try simp only [List.map_toArray, List.map_cons, List.map_nil]); first | done | rfl | (simp only [List.length_drop, List.length_take]; rfl)) ?_; (with_reducible refine (wax_Sides.calls kj4 t557 _ _ t558 t561 t564 _ ?side1 ?side2 A29.out).mono ?_); (case side1 => repeat (first | exact (Kd.R_reads' HO560.out).2.2 | (with_reducible refine Kd.C_alloc ?_ _) | (with_reducible refine Kd.C_drewN ?_ _) | (with_reducible refine Kd.C_drew ?_))); (case side2 => exact (Kd.R_reads' HO560.out).2.1); rintro e w79 ⟨v562, rfl, ho0, hb⟩; refine ⟨_, rfl, ?_⟩; have n0_ := Aside0.mk (Kd.R_below (by (with_reducible repeat (first | apply Kd.R_alloc | apply Kd.R_drewN | apply Kd.R_drew)); exact HO548.out) hb); have n1_ := Aside0.mk (Kd.R_below (by (with_reducible repeat (first | apply Kd.R_alloc | apply Kd.R_drewN | apply Kd.R_drew)); exact HO551.out) hb); have n2_ := Aside0.mk (Kd.R_below (by (with_reducible repeat (first | apply Kd.R_alloc | apply Kd.R_drewN | apply Kd.R_drew)); exact HO555.out) hb); have n3_ := Aside0.mk (Kd.R_below (by (with_reducible repeat (first | apply Kd.R_alloc | apply Kd.R_drewN | apply Kd.R_drew)); exact HO560.out) hb); have n4_ := Aside0.mk (Kd.S_lower (Kd.S_new' (Kd.S_new' ho0 (Kd.R_lt (by (with_reducible repeat (first | apply Kd.R_alloc | apply Kd.R_drewN | apply Kd.R_drew)); exact HO551.out))) (Kd.R_lt (by (with_reducible repeat (first | apply Kd.R_alloc | apply Kd.R_drewN | apply Kd.R_drew)); exact HO555.out))) (below_size (by repeat (first | (with_reducible first | exact HB.out | apply below_alloc | apply pw_below_drewN | apply below_drew1 | refine below_set ?_ GE530.out) | exact HB.out)))); have n5_ := Aside0.mk (blk_below (g := gb530) (o := .cells #[.int .i64 a0_0, .slice A0_1 l0_1.length c0_1] 24 (0, 0)) (by (with_reducible repeat (first | refine blk_drewN ?_ _ | refine blk_drew ?_ | refine blk_alloc ?_ _)); exact BK530.out) hb); have n6_ := Aside0.mk (below_step (by repeat (first | (with_reducible first | exact HB.out | apply below_alloc | apply pw_below_drewN | apply below_drew1 | refine below_set ?_ GE530.out) | exact HB.out)) hb); clear HO548; clear HO551; clear HO555; clear HO560; clear BK530; clear HB; have HO548 := n0_; have HO551 := n1_; have HO555 := n2_; have HO560 := n3_; have HO563 := n4_; have BK530 := n5_; have HB := n6_; clear n0_ n1_ n2_ n3_ n4_ n5_ n6_; (try clear hb); (try clear hb2); (try clear hk); (try clear hi); (try clear ho0); have hcz80_0 : w79.cell? ⟨gb530, 0, none⟩ = some (.int .i64 a0_0) := (blk_cell BK530.out 0).trans rfl; have hcz80_1 : w79.cell? ⟨gb530, 1, none⟩ = some (.slice A0_1 l0_1.length c0_1) := (blk_cell BK530.out 1).trans rfl; have hfz80_0 := blk_frozen BK530.out 0; have hfz80_1 := blk_frozen BK530.out 1) | ((with_reducible refine gate_callee (f := 39) rfl ?_); refine goesL_ (some 54) rfl rfl Try.func39 (by kernel_rfl) rfl #[.agg #[.int .i64 a0_0, .slice A0_1 l0_1.length c0_1]] rfl (by (try simp only [List.map_toArray, List.map_cons, List.map_nil]); first | done | rfl | (simp only [List.length_drop, List.length_take]; rfl)) ?_; (with_reducible refine (cantingref07_Sides.calls kj4 a0_0 _ _ l0_1 t565 t568 _ ?side1 ?side2 A30.out).mono ?_); (case side1 => repeat (first | exact (Kd.C_below HR0_1.out HB.out) | (with_reducible refine Kd.C_alloc ?_ _) | (with_reducible refine Kd.C_drewN ?_ _) | (with_reducible refine Kd.C_drew ?_))); (case side2 => exact HC0_1.out); rintro e w81 ⟨v566, rfl, ho0, hb⟩; refine ⟨_, rfl, ?_⟩; have n0_ := Aside0.mk (Kd.R_below (by (with_reducible repeat (first | apply Kd.R_alloc | apply Kd.R_drewN | apply Kd.R_drew)); exact HO548.out) hb); have n1_ := Aside0.mk (Kd.R_below (by (with_reducible repeat (first | apply Kd.R_alloc | apply Kd.R_drewN | apply Kd.R_drew)); exact HO551.out) hb); have n2_ := Aside0.mk (Kd.R_below (by (with_reducible repeat (first | apply Kd.R_alloc | apply Kd.R_drewN | apply Kd.R_drew)); exact HO555.out) hb); have n3_ := Aside0.mk (Kd.R_below (by (with_reducible repeat (first | apply Kd.R_alloc | apply Kd.R_drewN | apply Kd.R_drew)); exact HO560.out) hb); have n4_ := Aside0.mk (Kd.S_elder' (by (with_reducible repeat (first | apply Kd.S_alloc | apply Kd.S_drewN | apply Kd.S_drew)); exact HO563.out) (Kd.S_base ho0) hb); have n5_ := Aside0.mk (Kd.S_lower (Kd.S_new' (Kd.S_new' (Kd.S_new' ho0 (Kd.R_lt (by (with_reducible repeat (first | apply Kd.R_alloc | apply Kd.R_drewN | apply Kd.R_drew)); exact HO551.out))) (Kd.R_lt (by (with_reducible repeat (first | apply Kd.R_alloc | apply Kd.R_drewN | apply Kd.R_drew)); exact HO555.out))) (Kd.S_lt (by (with_reducible repeat (first | apply Kd.S_alloc | apply Kd.S_drewN | apply Kd.S_drew)); exact HO563.out))) (below_size (by repeat (first | (with_reducible first | exact HB.out | apply below_alloc | apply pw_below_drewN | apply below_drew1 | refine below_set ?_ GE530.out) | exact HB.out)))); have n6_ := Aside0.mk (blk_below (g := gb530) (o := .cells #[.int .i64 a0_0, .slice A0_1 l0_1.length c0_1] 24 (0, 0)) (by (with_reducible repeat (first | refine blk_drewN ?_ _ | refine blk_drew ?_ | refine blk_alloc ?_ _)); exact BK530.out) hb); have n7_ := Aside0.mk (below_step (by repeat (first | (with_reducible first | exact HB.out | apply below_alloc | apply pw_below_drewN | apply below_drew1 | refine below_set ?_ GE530.out) | exact HB.out)) hb); clear HO548; clear HO551; clear HO555; clear HO560; clear HO563; clear BK530; clear HB; have HO548 := n0_; have HO551 := n1_; have HO555 := n2_; have HO560 := n3_; have HO563 := n4_; have HO567 := n5_; have BK530 := n6_; have HB := n7_; clear n0_ n1_ n2_ n3_ n4_ n5_ n6_ n7_; (try clear hb); (try clear hb2); (try clear hk); (try clear hi); (try clear ho0); obtain ⟨Ao82, co82, eo82⟩ := Kd.R_slice HO551.out; subst eo82; obtain ⟨Ao83, co83, eo83⟩ := Kd.R_slice HO555.out; subst eo83) | ((with_reducible refine gate_callee (f := 30) rfl ?_); refine goesL_ (some 59) rfl rfl Try.func30 (by kernel_rfl) rfl #[.slice Ao82 t549.length co82, .slice Ao83 t553.length co83] rfl (by (try simp only [List.map_toArray, List.map_cons, List.map_nil]); first | done | rfl | (simp only [List.length_drop, List.length_take]; rfl)) ?_; (with_reducible refine (slices_Equal_bool_bool.calls kj4 _ _ t549 _ _ t553 true _ ?side1 ?side2 ?side3 ?side4 A31.out).mono ?_); (case side1 => repeat (first | exact (Kd.R_reads' HO551.out).2.2 | (with_reducible refine Kd.C_alloc ?_ _) | (with_reducible refine Kd.C_drewN ?_ _) | (with_reducible refine Kd.C_drew ?_))); (case side2 => exact (Kd.R_reads' HO551.out).2.1); (case side3 => repeat (first | exact (Kd.R_reads' HO555.out).2.2 | (with_reducible refine Kd.C_alloc ?_ _) | (with_reducible refine Kd.C_drewN ?_ _) | (with_reducible refine Kd.C_drew ?_))); (case side4 => exact (Kd.R_reads' HO555.out).2.1); rintro e w' ⟨rfl, ⟨nd, rfl⟩⟩; refine ⟨_, rfl, ?_⟩))
            go_ret
            exact ⟨by first | rfl | (simp [errW_none, errW_some] <;> rfl) | (simp [*, errW_none, errW_some] <;> rfl), by repeat (first | (with_reducible first | exact HB.out | apply below_alloc | apply pw_below_drewN | apply below_drew1 | refine below_set ?_ GE530.out) | exact HB.out)⟩
        · replace c32 := Bool.eq_false_iff.mpr c32
          subst c32
          have H1 : (some false) = some r := by rw [if_neg (show ¬ (false = true) by decide)] at H; exact H
          clear H
          have H := H1
          clear H1
          obtain rfl := Option.some.inj H
          have hcz84_0 : wc.cell? ⟨gb530, 0, none⟩ = some (.int .i64 a0_0) := (blk_cell BK530.out 0).trans rfl
          have hcz84_1 : wc.cell? ⟨gb530, 1, none⟩ = some (.slice A0_1 l0_1.length c0_1) := (blk_cell BK530.out 1).trans rfl
          have hfz84_0 := blk_frozen BK530.out 0
          have hfz84_1 := blk_frozen BK530.out 1
          go_wp2_with (first | ((with_reducible refine gate_callee (f := 17) rfl ?_); refine goesL_ (some 37) rfl rfl Try.func17 (by kernel_rfl) rfl #[.agg #[.int .i64 a0_0, .slice A0_1 l0_1.length c0_1]] rfl (by (try simp only [List.map_toArray, List.map_cons, List.map_nil]); first | done | rfl | (simp only [List.length_drop, List.length_take]; rfl)) ?_; (with_reducible refine (cantinglaw07_net.calls kj4 a0_0 _ _ l0_1 t545 t546 _ ?side1 ?side2 A25.out).mono ?_); (case side1 => repeat (first | exact (Kd.C_below HR0_1.out HB.out) | (with_reducible refine Kd.C_alloc ?_ _) | (with_reducible refine Kd.C_drewN ?_ _) | (with_reducible refine Kd.C_drew ?_))); (case side2 => exact HC0_1.out); rintro e w85 ⟨v547, rfl, ho0, hb⟩; refine ⟨_, rfl, ?_⟩; have n0_ := Aside0.mk (Kd.R_lower ho0 (below_size (by repeat (first | (with_reducible first | exact HB.out | apply below_alloc | apply pw_below_drewN | apply below_drew1 | refine below_set ?_ GE530.out) | exact HB.out)))); have n1_ := Aside0.mk (blk_below (g := gb530) (o := .cells #[.int .i64 a0_0, .slice A0_1 l0_1.length c0_1] 24 (0, 0)) (by (with_reducible repeat (first | refine blk_drewN ?_ _ | refine blk_drew ?_ | refine blk_alloc ?_ _)); exact BK530.out) hb); have n2_ := Aside0.mk (below_step (by repeat (first | (with_reducible first | exact HB.out | apply below_alloc | apply pw_below_drewN | apply below_drew1 | refine below_set ?_ GE530.out) | exact HB.out)) hb); clear BK530; clear HB; have HO548 := n0_; have BK530 := n1_; have HB := n2_; clear n0_ n1_ n2_; (try clear hb); (try clear hb2); (try clear hk); (try clear hi); (try clear ho0); obtain ⟨Ao86, co86, eo86⟩ := Kd.R_slice HO548.out; subst eo86) | ((with_reducible refine gate_callee (f := 34) rfl ?_); refine goesL_ (some 38) rfl rfl Try.func34 (by kernel_rfl) rfl #[.agg #[.int .i64 t545, .slice Ao86 t546.length co86]] rfl (by (try simp only [List.map_toArray, List.map_cons, List.map_nil]); first | done | rfl | (simp only [List.length_drop, List.length_take]; rfl)) ?_; (with_reducible refine (wax_Greatest.calls t545 _ _ t546 t549 t552 _ ?side1 ?side2 A26.out).mono ?_); (case side1 => repeat (first | exact (Kd.R_reads' HO548.out).2.2 | (with_reducible refine Kd.C_alloc ?_ _) | (with_reducible refine Kd.C_drewN ?_ _) | (with_reducible refine Kd.C_drew ?_))); (case side2 => exact (Kd.R_reads' HO548.out).2.1); rintro e w87 ⟨v550, rfl, ho0, hb⟩; refine ⟨_, rfl, ?_⟩; have n0_ := Aside0.mk (Kd.R_below (by (with_reducible repeat (first | apply Kd.R_alloc | apply Kd.R_drewN | apply Kd.R_drew)); exact HO548.out) hb); have n1_ := Aside0.mk (Kd.R_lower ho0 (below_size (by repeat (first | (with_reducible first | exact HB.out | apply below_alloc | apply pw_below_drewN | apply below_drew1 | refine below_set ?_ GE530.out) | exact HB.out)))); have n2_ := Aside0.mk (blk_below (g := gb530) (o := .cells #[.int .i64 a0_0, .slice A0_1 l0_1.length c0_1] 24 (0, 0)) (by (with_reducible repeat (first | refine blk_drewN ?_ _ | refine blk_drew ?_ | refine blk_alloc ?_ _)); exact BK530.out) hb); have n3_ := Aside0.mk (below_step (by repeat (first | (with_reducible first | exact HB.out | apply below_alloc | apply pw_below_drewN | apply below_drew1 | refine below_set ?_ GE530.out) | exact HB.out)) hb); clear HO548; clear BK530; clear HB; have HO548 := n0_; have HO551 := n1_; have BK530 := n2_; have HB := n3_; clear n0_ n1_ n2_ n3_; (try clear hb); (try clear hb2); (try clear hk); (try clear hi); (try clear ho0); have hcz88_0 : w87.cell? ⟨gb530, 0, none⟩ = some (.int .i64 a0_0) := (blk_cell BK530.out 0).trans rfl; have hcz88_1 : w87.cell? ⟨gb530, 1, none⟩ = some (.slice A0_1 l0_1.length c0_1) := (blk_cell BK530.out 1).trans rfl; have hfz88_0 := blk_frozen BK530.out 0; have hfz88_1 := blk_frozen BK530.out 1) | ((with_reducible refine gate_callee (f := 38) rfl ?_); refine goesL_ (some 43) rfl rfl Try.func38 (by kernel_rfl) rfl #[.agg #[.int .i64 a0_0, .slice A0_1 l0_1.length c0_1]] rfl (by (try simp only [List.map_toArray, List.map_cons, List.map_nil]); first | done | rfl | (simp only [List.length_drop, List.length_take]; rfl)) ?_; (with_reducible refine (cantingref07_Greatest.calls a0_0 _ _ l0_1 t553 t556 _ ?side1 ?side2 A27.out).mono ?_); (case side1 => repeat (first | exact (Kd.C_below HR0_1.out HB.out) | (with_reducible refine Kd.C_alloc ?_ _) | (with_reducible refine Kd.C_drewN ?_ _) | (with_reducible refine Kd.C_drew ?_))); (case side2 => exact HC0_1.out); rintro e w89 ⟨v554, rfl, ho0, hb⟩; refine ⟨_, rfl, ?_⟩; have n0_ := Aside0.mk (Kd.R_below (by (with_reducible repeat (first | apply Kd.R_alloc | apply Kd.R_drewN | apply Kd.R_drew)); exact HO548.out) hb); have n1_ := Aside0.mk (Kd.R_elder' (by (with_reducible repeat (first | apply Kd.R_alloc | apply Kd.R_drewN | apply Kd.R_drew)); exact HO551.out) (Kd.R_base ho0) hb); have n2_ := Aside0.mk (Kd.R_lower (Kd.R_new' ho0 (Kd.R_lt (by (with_reducible repeat (first | apply Kd.R_alloc | apply Kd.R_drewN | apply Kd.R_drew)); exact HO551.out))) (below_size (by repeat (first | (with_reducible first | exact HB.out | apply below_alloc | apply pw_below_drewN | apply below_drew1 | refine below_set ?_ GE530.out) | exact HB.out)))); have n3_ := Aside0.mk (blk_below (g := gb530) (o := .cells #[.int .i64 a0_0, .slice A0_1 l0_1.length c0_1] 24 (0, 0)) (by (with_reducible repeat (first | refine blk_drewN ?_ _ | refine blk_drew ?_ | refine blk_alloc ?_ _)); exact BK530.out) hb); have n4_ := Aside0.mk (below_step (by repeat (first | (with_reducible first | exact HB.out | apply below_alloc | apply pw_below_drewN | apply below_drew1 | refine below_set ?_ GE530.out) | exact HB.out)) hb); clear HO548; clear HO551; clear BK530; clear HB; have HO548 := n0_; have HO551 := n1_; have HO555 := n2_; have BK530 := n3_; have HB := n4_; clear n0_ n1_ n2_ n3_ n4_; (try clear hb); (try clear hb2); (try clear hk); (try clear hi); (try clear ho0); have hcz90_0 : w89.cell? ⟨gb530, 0, none⟩ = some (.int .i64 a0_0) := (blk_cell BK530.out 0).trans rfl; have hcz90_1 : w89.cell? ⟨gb530, 1, none⟩ = some (.slice A0_1 l0_1.length c0_1) := (blk_cell BK530.out 1).trans rfl; have hfz90_0 := blk_frozen BK530.out 0; have hfz90_1 := blk_frozen BK530.out 1) | ((with_reducible refine gate_callee (f := 17) rfl ?_); refine goesL_ (some 48) rfl rfl Try.func17 (by kernel_rfl) rfl #[.agg #[.int .i64 a0_0, .slice A0_1 l0_1.length c0_1]] rfl (by (try simp only [List.map_toArray, List.map_cons, List.map_nil]); first | done | rfl | (simp only [List.length_drop, List.length_take]; rfl)) ?_; (with_reducible refine (cantinglaw07_net.calls kj4 a0_0 _ _ l0_1 t557 t558 _ ?side1 ?side2 A28.out).mono ?_); (case side1 => repeat (first | exact (Kd.C_below HR0_1.out HB.out) | (with_reducible refine Kd.C_alloc ?_ _) | (with_reducible refine Kd.C_drewN ?_ _) | (with_reducible refine Kd.C_drew ?_))); (case side2 => exact HC0_1.out); rintro e w91 ⟨v559, rfl, ho0, hb⟩; refine ⟨_, rfl, ?_⟩; have n0_ := Aside0.mk (Kd.R_elder' (by (with_reducible repeat (first | apply Kd.R_alloc | apply Kd.R_drewN | apply Kd.R_drew)); exact HO548.out) (Kd.R_base ho0) hb); have n1_ := Aside0.mk (Kd.R_below (by (with_reducible repeat (first | apply Kd.R_alloc | apply Kd.R_drewN | apply Kd.R_drew)); exact HO551.out) hb); have n2_ := Aside0.mk (Kd.R_below (by (with_reducible repeat (first | apply Kd.R_alloc | apply Kd.R_drewN | apply Kd.R_drew)); exact HO555.out) hb); have n3_ := Aside0.mk (Kd.R_lower (Kd.R_new' ho0 (Kd.R_lt (by (with_reducible repeat (first | apply Kd.R_alloc | apply Kd.R_drewN | apply Kd.R_drew)); exact HO548.out))) (below_size (by repeat (first | (with_reducible first | exact HB.out | apply below_alloc | apply pw_below_drewN | apply below_drew1 | refine below_set ?_ GE530.out) | exact HB.out)))); have n4_ := Aside0.mk (blk_below (g := gb530) (o := .cells #[.int .i64 a0_0, .slice A0_1 l0_1.length c0_1] 24 (0, 0)) (by (with_reducible repeat (first | refine blk_drewN ?_ _ | refine blk_drew ?_ | refine blk_alloc ?_ _)); exact BK530.out) hb); have n5_ := Aside0.mk (below_step (by repeat (first | (with_reducible first | exact HB.out | apply below_alloc | apply pw_below_drewN | apply below_drew1 | refine below_set ?_ GE530.out) | exact HB.out)) hb); clear HO548; clear HO551; clear HO555; clear BK530; clear HB; have HO548 := n0_; have HO551 := n1_; have HO555 := n2_; have HO560 := n3_; have BK530 := n4_; have HB := n5_; clear n0_ n1_ n2_ n3_ n4_ n5_; (try clear hb); (try clear hb2); (try clear hk); (try clear hi); (try clear ho0); obtain ⟨Ao92, co92, eo92⟩ := Kd.R_slice HO560.out; subst eo92) | ((with_reducible refine gate_callee (f := 29) rfl ?_); refine goesL_ (some 49) rfl rfl Try.func29 (by kernel_rfl) rfl #[.agg #[.int .i64 t557, .slice Ao92 t558.length co92]] rfl (by (try simp only [List.map_toArray, List.map_cons, List.map_nil]); first | done | rfl | (simp only [List.length_drop, List.length_take]; rfl)) ?_; (with_reducible refine (wax_Sides.calls kj4 t557 _ _ t558 t561 t564 _ ?side1 ?side2 A29.out).mono ?_); (case side1 => repeat (first | exact (Kd.R_reads' HO560.out).2.2 | (with_reducible refine Kd.C_alloc ?_ _) | (with_reducible refine Kd.C_drewN ?_ _) | (with_reducible refine Kd.C_drew ?_))); (case side2 => exact (Kd.R_reads' HO560.out).2.1); rintro e w93 ⟨v562, rfl, ho0, hb⟩; refine ⟨_, rfl, ?_⟩; have n0_ := Aside0.mk (Kd.R_below (by (with_reducible repeat (first | apply Kd.R_alloc | apply Kd.R_drewN | apply Kd.R_drew)); exact HO548.out) hb); have n1_ := Aside0.mk (Kd.R_below (by (with_reducible repeat (first | apply Kd.R_alloc | apply Kd.R_drewN | apply Kd.R_drew)); exact HO551.out) hb); have n2_ := Aside0.mk (Kd.R_below (by (with_reducible repeat (first | apply Kd.R_alloc | apply Kd.R_drewN | apply Kd.R_drew)); exact HO555.out) hb); have n3_ := Aside0.mk (Kd.R_below (by (with_reducible repeat (first | apply Kd.R_alloc | apply Kd.R_drewN | apply Kd.R_drew)); exact HO560.out) hb); have n4_ := Aside0.mk (Kd.S_lower (Kd.S_new' (Kd.S_new' ho0 (Kd.R_lt (by (with_reducible repeat (first | apply Kd.R_alloc | apply Kd.R_drewN | apply Kd.R_drew)); exact HO551.out))) (Kd.R_lt (by (with_reducible repeat (first | apply Kd.R_alloc | apply Kd.R_drewN | apply Kd.R_drew)); exact HO555.out))) (below_size (by repeat (first | (with_reducible first | exact HB.out | apply below_alloc | apply pw_below_drewN | apply below_drew1 | refine below_set ?_ GE530.out) | exact HB.out)))); have n5_ := Aside0.mk (blk_below (g := gb530) (o := .cells #[.int .i64 a0_0, .slice A0_1 l0_1.length c0_1] 24 (0, 0)) (by (with_reducible repeat (first | refine blk_drewN ?_ _ | refine blk_drew ?_ | refine blk_alloc ?_ _)); exact BK530.out) hb); have n6_ := Aside0.mk (below_step (by repeat (first | (with_reducible first | exact HB.out | apply below_alloc | apply pw_below_drewN | apply below_drew1 | refine below_set ?_ GE530.out) | exact HB.out)) hb); clear HO548; clear HO551; clear HO555; clear HO560; clear BK530; clear HB; have HO548 := n0_; have HO551 := n1_; have HO555 := n2_; have HO560 := n3_; have HO563 := n4_; have BK530 := n5_; have HB := n6_; clear n0_ n1_ n2_ n3_ n4_ n5_ n6_; (try clear hb); (try clear hb2); (try clear hk); (try clear hi); (try clear ho0); have hcz94_0 : w93.cell? ⟨gb530, 0, none⟩ = some (.int .i64 a0_0) := (blk_cell BK530.out 0).trans rfl; have hcz94_1 : w93.cell? ⟨gb530, 1, none⟩ = some (.slice A0_1 l0_1.length c0_1) := (blk_cell BK530.out 1).trans rfl; have hfz94_0 := blk_frozen BK530.out 0; have hfz94_1 := blk_frozen BK530.out 1) | ((with_reducible refine gate_callee (f := 39) rfl ?_); refine goesL_ (some 54) rfl rfl Try.func39 (by kernel_rfl) rfl #[.agg #[.int .i64 a0_0, .slice A0_1 l0_1.length c0_1]] rfl (by (try simp only [List.map_toArray, List.map_cons, List.map_nil]); first | done | rfl | (simp only [List.length_drop, List.length_take]; rfl)) ?_; (with_reducible refine (cantingref07_Sides.calls kj4 a0_0 _ _ l0_1 t565 t568 _ ?side1 ?side2 A30.out).mono ?_); (case side1 => repeat (first | exact (Kd.C_below HR0_1.out HB.out) | (with_reducible refine Kd.C_alloc ?_ _) | (with_reducible refine Kd.C_drewN ?_ _) | (with_reducible refine Kd.C_drew ?_))); (case side2 => exact HC0_1.out); rintro e w95 ⟨v566, rfl, ho0, hb⟩; refine ⟨_, rfl, ?_⟩; have n0_ := Aside0.mk (Kd.R_below (by (with_reducible repeat (first | apply Kd.R_alloc | apply Kd.R_drewN | apply Kd.R_drew)); exact HO548.out) hb); have n1_ := Aside0.mk (Kd.R_below (by (with_reducible repeat (first | apply Kd.R_alloc | apply Kd.R_drewN | apply Kd.R_drew)); exact HO551.out) hb); have n2_ := Aside0.mk (Kd.R_below (by (with_reducible repeat (first | apply Kd.R_alloc | apply Kd.R_drewN | apply Kd.R_drew)); exact HO555.out) hb); have n3_ := Aside0.mk (Kd.R_below (by (with_reducible repeat (first | apply Kd.R_alloc | apply Kd.R_drewN | apply Kd.R_drew)); exact HO560.out) hb); have n4_ := Aside0.mk (Kd.S_elder' (by (with_reducible repeat (first | apply Kd.S_alloc | apply Kd.S_drewN | apply Kd.S_drew)); exact HO563.out) (Kd.S_base ho0) hb); have n5_ := Aside0.mk (Kd.S_lower (Kd.S_new' (Kd.S_new' (Kd.S_new' ho0 (Kd.R_lt (by (with_reducible repeat (first | apply Kd.R_alloc | apply Kd.R_drewN | apply Kd.R_drew)); exact HO551.out))) (Kd.R_lt (by (with_reducible repeat (first | apply Kd.R_alloc | apply Kd.R_drewN | apply Kd.R_drew)); exact HO555.out))) (Kd.S_lt (by (with_reducible repeat (first | apply Kd.S_alloc | apply Kd.S_drewN | apply Kd.S_drew)); exact HO563.out))) (below_size (by repeat (first | (with_reducible first | exact HB.out | apply below_alloc | apply pw_below_drewN | apply below_drew1 | refine below_set ?_ GE530.out) | exact HB.out)))); have n6_ := Aside0.mk (blk_below (g := gb530) (o := .cells #[.int .i64 a0_0, .slice A0_1 l0_1.length c0_1] 24 (0, 0)) (by (with_reducible repeat (first | refine blk_drewN ?_ _ | refine blk_drew ?_ | refine blk_alloc ?_ _)); exact BK530.out) hb); have n7_ := Aside0.mk (below_step (by repeat (first | (with_reducible first | exact HB.out | apply below_alloc | apply pw_below_drewN | apply below_drew1 | refine below_set ?_ GE530.out) | exact HB.out)) hb); clear HO548; clear HO551; clear HO555; clear HO560; clear HO563; clear BK530; clear HB; have HO548 := n0_; have HO551 := n1_; have HO555 := n2_; have HO560 := n3_; have HO563 := n4_; have HO567 := n5_; have BK530 := n6_; have HB := n7_; clear n0_ n1_ n2_ n3_ n4_ n5_ n6_ n7_; (try clear hb); (try clear hb2); (try clear hk); (try clear hi); (try clear ho0); obtain ⟨Ao96, co96, eo96⟩ := Kd.R_slice HO551.out; subst eo96; obtain ⟨Ao97, co97, eo97⟩ := Kd.R_slice HO555.out; subst eo97) | ((with_reducible refine gate_callee (f := 30) rfl ?_); refine goesL_ (some 59) rfl rfl Try.func30 (by kernel_rfl) rfl #[.slice Ao96 t549.length co96, .slice Ao97 t553.length co97] rfl (by (try simp only [List.map_toArray, List.map_cons, List.map_nil]); first | done | rfl | (simp only [List.length_drop, List.length_take]; rfl)) ?_; (with_reducible refine (slices_Equal_bool_bool.calls kj4 _ _ t549 _ _ t553 false _ ?side1 ?side2 ?side3 ?side4 A31.out).mono ?_); (case side1 => repeat (first | exact (Kd.R_reads' HO551.out).2.2 | (with_reducible refine Kd.C_alloc ?_ _) | (with_reducible refine Kd.C_drewN ?_ _) | (with_reducible refine Kd.C_drew ?_))); (case side2 => exact (Kd.R_reads' HO551.out).2.1); (case side3 => repeat (first | exact (Kd.R_reads' HO555.out).2.2 | (with_reducible refine Kd.C_alloc ?_ _) | (with_reducible refine Kd.C_drewN ?_ _) | (with_reducible refine Kd.C_drew ?_))); (case side4 => exact (Kd.R_reads' HO555.out).2.1); rintro e w' ⟨rfl, ⟨nd, rfl⟩⟩; refine ⟨_, rfl, ?_⟩))
          go_ret
          exact ⟨by first | rfl | (simp [errW_none, errW_some] <;> rfl) | (simp [*, errW_none, errW_some] <;> rfl), by repeat (first | (with_reducible first | exact HB.out | apply below_alloc | apply pw_below_drewN | apply below_drew1 | refine below_set ?_ GE530.out) | exact HB.out)⟩
end Go.Proofs.Ytbamanjedfccpaa.X
end

section
set_option linter.unusedVariables false
set_option linter.unusedSimpArgs false
namespace Go.Proofs.Ytbamanjedfccpaa.HTab
open Go.RowKit Go.Proofs.YtbamanjedfccpaaW.PrintWords Go.Proofs.YtbamanjedfccpaaW.PrintLast Go.Proofs.YtbamanjedfccpaaW.PrintMore Go.Proofs.Ytbamanjedfccpaa.X
set_option linter.unusedVariables false
set_option linter.unusedSimpArgs false
theorem fromL_len (fr : List Int) (N : Nat) : (fromL fr N).length = N := by simp [fromL]
theorem toL_len (fr : List Int) (N : Nat) : (toL fr N).length = N := by simp [toL]
theorem fromL_rd (fr : List Int) (N v : Nat) (h : v < N) : rdOf false (fromL fr N) (v : Int) = decide (0 ≤ rd fr (v : Int)) := by
  have e : rdOf false (fromL fr N) (v : Int) = (fromL fr N).getD v false := by simp [rdOf]
  rw [e]
  simp [fromL, h]
theorem toL_rd (fr : List Int) (N v : Nat) (h : v < N) : rdOf false (toL fr N) (v : Int) = decide (rd fr (v : Int) < 0) := by
  have e : rdOf false (toL fr N) (v : Int) = (toL fr N).getD v false := by simp [rdOf]
  rw [e]
  simp [toL, h]
theorem WayD.all_in {N : Nat} {g : List (List Int)} {s : Int} {fr : List Int} (h : WayD N g s fr) (P : Int → Prop) (hs : P s) (hP : ∀ y x : Int, 0 ≤ y → y < N → 0 ≤ x → x < N → 0 ≤ rd fr y → P y → 0 < gr g y x → P x) : ∀ x : Int, 0 ≤ x → x < N → 0 ≤ rd fr x → P x := by
  obtain ⟨p, hp1, hp2⟩ := h.rank
  have key : ∀ (k : Nat) (x : Int), p x ≤ k → 0 ≤ x → x < N → 0 ≤ rd fr x → P x := by
    intro k
    induction k with
    | zero =>
      intro x hk x0 x1 hx
      by_cases e : x = s
      · rw [e]; exact hs
      · obtain ⟨a, b, c⟩ := hp2 x x0 x1 e hx
        omega
    | succ k ih =>
      intro x hk x0 x1 hx
      by_cases e : x = s
      · rw [e]; exact hs
      · obtain ⟨a, b, c⟩ := hp2 x x0 x1 e hx
        have hl := h.lo x x0 x1
        exact hP (rd fr x) x hx hl.2 x0 x1 a (ih (rd fr x) (by omega) hx hl.2 a) c
  exact fun x x0 x1 hx => key (p x) x (Nat.le_refl _) x0 x1 hx
section
variable {N : Nat} {l : List S34} {v : Int} {G : List (List Int)} {fr bk : List Int} {l1 D : List Int} {GB : List Bool}
theorem RNetD.zero (r : RNetD N l v G fr bk) (T : Int → Bool) (hT : side T 0 ((N : Int) - 1)) : costF false T (l.map cvA) = v ↔ resG N T G = 0 := by
  have h1 := r.res T
  rw [ind_side hT] at h1
  omega
theorem least_eq (h : NetD N (l.map cvA) v l1 D GB) (r : RNetD N l v G fr bk) (a : 2 ≤ N) (d : Good N (l.map cvA)) : leastL D = fromL fr N := by
  refine bools_ext (N := N) (by unfold leastL; rw [List.length_map]; exact h.lv.len) (fromL_len fr N) (fun x hx => ?_)
  rw [h.least_rd (x : Int) (by omega) (by omega), fromL_rd fr N x hx]
  have hs2 : side (fun x => decide (0 ≤ rd fr x)) 0 ((N : Int) - 1) := ⟨by simp [r.w1.s0], decide_eq_false (by have := r.no; omega)⟩
  have h1 := (h.between a d _ hs2 ((r.zero _ hs2).2 r.reach) (x : Int) (by omega) (by omega)).1
  rw [h.least_rd (x : Int) (by omega) (by omega)] at h1
  have h2 := (r.zero _ (h.least_side a)).1 (h.least_cost a d)
  have h3 := r.w1.all_in (fun y => rdOf false (leastL D) y = true) (h.least_side a).1 (fun y x y0 y1 x0 x1 hy hp hg => by
    cases hq : rdOf false (leastL D) x with
    | true => rfl
    | false =>
      have := resG_pos r.ok _ h2 y x y0 y1 x0 x1 hp hq
      omega) (x : Int) (by omega) (by omega)
  rw [h.least_rd (x : Int) (by omega) (by omega)] at h3
  by_cases c : 0 ≤ rd fr (x : Int)
  · rw [decide_eq_true c, h3 c]
  · rw [decide_eq_false c]
    exact decide_eq_false (fun q => c (of_decide_eq_true (h1 (decide_eq_true q))))
theorem back_side (r : RNetD N l v G fr bk) (a : 2 ≤ N) : side (fun x => decide (rd bk x < 0)) 0 ((N : Int) - 1) ∧ resG N (fun x => decide (rd bk x < 0)) G = 0 := by
  have hb := (back_sq N G).2
  refine ⟨⟨decide_eq_true (Int.not_le.1 (fun q => ?_)), decide_eq_false (by rw [r.w2.s0]; omega)⟩, resG_zero _ (fun i j i0 i1 j0 j1 hi hj => ?_)⟩
  · have := r.w2.all_in (fun y => rd fr y < 0) r.no (fun y x y0 y1 x0 x1 hy hp hg => by
      rw [hb y x y0 y1 x0 x1] at hg
      exact Int.not_le.1 (fun q => by have := r.w1.clo x y x0 x1 y0 y1 q hg; omega)) 0 (by omega) (by omega) q
    rw [r.w1.s0] at this
    omega
  · have h1 := of_decide_eq_true hi
    have h2 := of_decide_eq_false hj
    have h3 := r.ok.nn i j i0 i1 j0 j1
    rcases Int.lt_or_eq_of_le h3 with q | q
    · have := r.w2.clo j i j0 j1 i0 i1 (by omega) (by rw [hb j i j0 j1 i0 i1]; exact q)
      omega
    · exact q.symm
theorem great_eq (h : NetD N (l.map cvA) v l1 D GB) (r : RNetD N l v G fr bk) (a : 2 ≤ N) (d : Good N (l.map cvA)) : GB = toL bk N := by
  refine bools_ext (N := N) h.gr.len (toL_len bk N) (fun x hx => ?_)
  rw [toL_rd bk N x hx]
  obtain ⟨hs2, hz⟩ := back_side r a
  have h1 := (h.between a d _ hs2 ((r.zero _ hs2).2 hz) (x : Int) (by omega) (by omega)).2
  have h2 := (r.zero _ (h.great_side a d)).1 (h.great_cost a d)
  have h3 := r.w2.all_in (fun y => rdOf false GB y = false) h.gr.s0 (fun y x y0 y1 x0 x1 hy hp hg => by
    cases hq : rdOf false GB x with
    | false => rfl
    | true =>
      have := resG_pos r.ok _ h2 x y x0 x1 y0 y1 hq hp
      rw [(back_sq N G).2 y x y0 y1 x0 x1] at hg
      omega) (x : Int) (by omega) (by omega)
  by_cases c : rd bk (x : Int) < 0
  · rw [decide_eq_true c]; exact h1 (decide_eq_true c)
  · rw [decide_eq_false c]; exact h3 (by omega)
end
def sideR (N s : Nat) : List Bool := (List.range N).map fun v => s.testBit (N - 1 - v)
theorem sideR_len (N s : Nat) : (sideR N s).length = N := by simp [sideR]
theorem sideR_rd (N s v : Nat) (hv : v < N) : rdOf false (sideR N s) (v : Int) = s.testBit (N - 1 - v) := by
  have e : rdOf false (sideR N s) (v : Int) = (sideR N s).getD v false := by simp [rdOf]
  rw [e]
  simp [sideR, hv]
def okR (N : Nat) (S : List Bool) : Bool := rdOf false S 0 && !rdOf false S ((N : Int) - 1)
def stepR (N : Nat) (l : List S34) (st : List (List Bool) × Int) (S : List Bool) : List (List Bool) × Int :=
  if okR N S then (if csF S l 0 > st.2 then st else if csF S l 0 < st.2 then ([S], csF S l 0) else (st.1 ++ [S], csF S l 0)) else st
theorem fold_min (N : Nat) (l : List S34) (m : Int) : ∀ (Ls out : List (List Bool)) (best : Int), (∀ S ∈ Ls, okR N S = true → m ≤ csF S l 0) → m ≤ best → (best = m ∨ ∃ S ∈ Ls, okR N S = true ∧ csF S l 0 = m) →
    Ls.foldl (stepR N l) (out, best) = ((if best = m then out else []) ++ Ls.filter (fun S => okR N S && decide (csF S l 0 = m)), m)
  | [], out, best, h1, h2, h3 => by
    have hb : best = m := h3.elim id (fun ⟨S, hS, _⟩ => by cases hS)
    rw [if_pos hb, hb]
    simp
  | S :: Ls, out, best, h1, h2, h3 => by
    have h1' : ∀ S ∈ Ls, okR N S = true → m ≤ csF S l 0 := fun T hT => h1 T (List.mem_cons_of_mem _ hT)
    rw [List.foldl_cons, List.filter_cons]
    cases hk : okR N S with
    | false =>
      have e : stepR N l (out, best) S = (out, best) := by unfold stepR; rw [hk]; rfl
      rw [e, Bool.false_and, if_neg (show ¬ false = true by decide)]
      refine fold_min N l m Ls out best h1' h2 (h3.imp id (fun ⟨T, hT, a, b⟩ => ?_))
      rcases List.mem_cons.1 hT with rfl | hT
      · rw [hk] at a; cases a
      · exact ⟨T, hT, a, b⟩
    | true =>
      have hm := h1 S (List.mem_cons_self ..) hk
      rw [Bool.true_and]
      by_cases c1 : csF S l 0 > best
      · have e : stepR N l (out, best) S = (out, best) := by unfold stepR; rw [hk, if_pos rfl, if_pos c1]
        rw [e, if_neg (show ¬ decide (csF S l 0 = m) = true by simpa using (show ¬ csF S l 0 = m by omega))]
        refine fold_min N l m Ls out best h1' h2 (h3.imp id (fun ⟨T, hT, a, b⟩ => ?_))
        rcases List.mem_cons.1 hT with rfl | hT
        · omega
        · exact ⟨T, hT, a, b⟩
      · by_cases c2 : csF S l 0 < best
        · have e : stepR N l (out, best) S = ([S], csF S l 0) := by unfold stepR; rw [hk, if_pos rfl, if_neg c1, if_pos c2]
          rw [e, if_neg (show ¬ best = m by omega), fold_min N l m Ls [S] (csF S l 0) h1' hm (by
            rcases h3 with q | ⟨T, hT, a, b⟩
            · omega
            · rcases List.mem_cons.1 hT with rfl | hT
              · exact .inl b
              · exact .inr ⟨T, hT, a, b⟩)]
          by_cases c3 : csF S l 0 = m
          · rw [if_pos c3, if_pos (decide_eq_true c3)]; rfl
          · rw [if_neg c3, if_neg (show ¬ decide (csF S l 0 = m) = true by simpa using c3)]
        · have e : stepR N l (out, best) S = (out ++ [S], csF S l 0) := by unfold stepR; rw [hk, if_pos rfl, if_neg c1, if_neg c2]
          have hb : csF S l 0 = best := by omega
          rw [e, fold_min N l m Ls (out ++ [S]) (csF S l 0) h1' hm (by
            rcases h3 with q | ⟨T, hT, a, b⟩
            · exact .inl (by omega)
            · rcases List.mem_cons.1 hT with rfl | hT
              · exact .inl b
              · exact .inr ⟨T, hT, a, b⟩)]
          by_cases c3 : csF S l 0 = m
          · rw [if_pos c3, if_pos (show best = m by omega), if_pos (decide_eq_true c3)]; simp
          · rw [if_neg c3, if_neg (show ¬ best = m by omega), if_neg (show ¬ decide (csF S l 0 = m) = true by simpa using c3)]
theorem evens : ∀ M : Nat, (List.range (2 * M)).filter (fun k => !k.testBit 0) = (List.range M).map (fun t => 2 * t)
  | 0 => rfl
  | M + 1 => by
    have e1 : (2 * M).testBit 0 = false := by rw [Nat.testBit_zero]; exact decide_eq_false (by omega)
    have e2 : (2 * M + 1).testBit 0 = true := by rw [Nat.testBit_zero]; exact decide_eq_true (by omega)
    rw [show 2 * (M + 1) = 2 * M + 1 + 1 by omega, List.range_succ, List.range_succ, List.range_succ, List.filter_append, List.filter_append, evens M, List.map_append]
    simp [e1, e2]
theorem ok_filter {N : Nat} (a : 2 ≤ N) : ((List.range (2 ^ N)).map (sideR N)).filter (okR N) = (List.range (2 ^ (N - 2))).map (sideN N) := by
  have hp1 : 2 ^ N = 2 ^ (N - 1) + 2 ^ (N - 1) := by
    have : 2 ^ (N - 1 + 1) = 2 ^ (N - 1) * 2 := Nat.pow_succ ..
    rw [show N - 1 + 1 = N by omega] at this
    omega
  have hp2 : 2 ^ (N - 1) = 2 * 2 ^ (N - 2) := by
    have : 2 ^ (N - 2 + 1) = 2 ^ (N - 2) * 2 := Nat.pow_succ ..
    rw [show N - 2 + 1 = N - 1 by omega] at this
    omega
  have hok : ∀ s : Nat, okR N (sideR N s) = (s.testBit (N - 1) && !s.testBit 0) := fun s => by
    unfold okR
    have h1 := sideR_rd N s 0 (by omega)
    have h2 := sideR_rd N s (N - 1) (by omega)
    rw [show ((N - 1 : Nat) : Int) = (N : Int) - 1 by omega, show N - 1 - (N - 1) = 0 by omega] at h2
    rw [h2]
    have h1' : rdOf false (sideR N s) 0 = _ := h1
    rw [h1']
    rfl
  rw [List.filter_map, hp1, List.range_add, List.filter_append]
  have e1 : (List.range (2 ^ (N - 1))).filter (okR N ∘ sideR N) = [] := by
    rw [List.filter_eq_nil_iff]
    intro s hs
    have := Nat.testBit_lt_two_pow (List.mem_range.1 hs)
    rw [Function.comp_apply, hok, this]
    simp
  have e2 : ((List.range (2 ^ (N - 1))).map (2 ^ (N - 1) + ·)).filter (okR N ∘ sideR N) = ((List.range (2 ^ (N - 2))).map (fun t => 2 * t)).map (2 ^ (N - 1) + ·) := by
    rw [List.filter_map, ← evens, ← hp2]
    congr 1
    refine List.filter_congr (fun s hs => ?_)
    have hlt := List.mem_range.1 hs
    rw [Function.comp_apply, Function.comp_apply, hok, Nat.testBit_two_pow_add_eq, Nat.testBit_lt_two_pow hlt, Nat.testBit_two_pow_add_gt (by omega)]
    rfl
  rw [e1, e2, List.nil_append, List.map_map, List.map_map]
  refine List.map_congr_left (fun t ht => ?_)
  have hlt := List.mem_range.1 ht
  refine bools_ext (sideR_len N _) (sideN_len N t) (fun v hv => ?_)
  show rdOf false (sideR N (2 ^ (N - 1) + 2 * t)) (v : Int) = _
  rw [sideR_rd N _ v hv, sideN_rd N t v hv]
  by_cases c0 : v = 0
  · rw [c0, Nat.sub_zero, Nat.testBit_two_pow_add_eq, Nat.testBit_lt_two_pow (by omega)]
    rfl
  · rw [decide_eq_false c0, decide_eq_true (show 1 ≤ v by omega), Nat.testBit_two_pow_add_gt (by omega)]
    by_cases c1 : v + 1 < N
    · rw [decide_eq_true c1, show N - 1 - v = (N - 2 - v) + 1 by omega, Nat.testBit_succ, show 2 * t / 2 = t by omega]
      rfl
    · rw [decide_eq_false c1, show N - 1 - v = 0 by omega, Nat.testBit_zero]
      rw [decide_eq_false (by omega)]
      rfl
theorem stepR_len (N : Nat) (l : List S34) (st : List (List Bool) × Int) (S : List Bool) : (stepR N l st S).1.length ≤ st.1.length + 1 := by
  unfold stepR
  split
  · split
    · omega
    · split <;> simp
  · omega
section
variable (N : Nat) (hN2 : 2 ≤ N) (hN : N ≤ 12) (l : List S34) (hl : l.length ≤ 160) (hg : GoodR N l)
include hN2 hN hl hg
theorem side_at (S : List Bool) (hS : S.length = N) (fu : Nat) (hf : 170 ≤ fu) : cantingref07_Side.f fu N l S = some (csF S l 0, okR N S) := by
  have := side_l0 N hN2 (by omega) l hl hg S hS l.length 0 fu 0 (by omega) (by omega)
  exact this
theorem rsides_l1 (out : List (List Bool)) (best tot : Int) (s : Nat) (hs : s < 4096) (ho : out.length ≤ 5000) : ∀ (d v g : Nat) (x : List Bool), v + d = N → 170 ≤ g → x.length = N → (∀ u : Nat, u < N → rdOf false x (u : Int) = (decide (u < v) && s.testBit (N - 1 - u))) →
    cantingref07_Sides.l1 (g + 1 + d + 1) out best s x tot s N v N l = cantingref07_Sides.l0 g (stepR N l (out, best) (sideR N s)).1 (stepR N l (out, best) (sideR N s)).2 tot ((s + 1 : Nat) : Int) N l
  | 0, v, g, x, hd, hgf, hx, hr => by
    have e : x = sideR N s := bools_ext hx (sideR_len N s) (fun u hu => by
      rw [hr u hu, sideR_rd N s u hu, decide_eq_true (by omega), Bool.true_and])
    have w : wrap64 ((s : Int) + 1) = ((s + 1 : Nat) : Int) := wrap_add1 (by omega) (by omega)
    rw [Nat.add_zero, cantingref07_Sides.l1]
    rw [if_neg (by clear w; omega), side_at N hN2 hN l hl hg x hx (g + 1) (by clear w; omega), Option.bind_some, e]
    unfold stepR
    cases hk : okR N (sideR N s) with
    | false =>
      simp only [cantingref07_Sides.j2, if_true, Bool.false_eq_true, if_false]
      rw [w]
    | true =>
      simp only [cantingref07_Sides.j2, if_true]
      by_cases c1 : csF (sideR N s) l 0 > best
      · rw [if_pos (decide_eq_true c1), if_pos c1, w]
      · rw [if_neg (by simpa using c1), if_neg c1]
        by_cases c2 : csF (sideR N s) l 0 < best
        · rw [if_pos c2, if_pos c2, if_pos (by simp), w]
          rfl
        · rw [if_neg c2, if_neg c2, if_pos (by clear w; omega), w]
  | d + 1, v, g, x, hd, hgf, hx, hr => by
    have w : wrap64 ((N : Int) - 1) = (N : Int) - 1 := wrap_id (by omega) (by omega)
    have w3 : wrap64 ((N : Int) - 1 - v) = ((N - 1 - v : Nat) : Int) := by rw [wrap_id (by clear w; omega) (by clear w; omega)]; omega
    have ih := rsides_l1 out best tot s hs ho d (v + 1) g (x.set v (s.testBit (N - 1 - v))) (by clear w w3; omega) hgf (by rw [List.length_set]; exact hx) (fun u hu => by
      clear w w3
      rw [rdB_nat x v u _ (by omega)]
      by_cases h : u = v
      · rw [if_pos h, h, decide_eq_true (show v < v + 1 by omega)]
        rfl
      · rw [if_neg h, hr u hu]
        have : decide (u < v) = decide (u < v + 1) := by
          by_cases h : u < v
          · rw [decide_eq_true h, decide_eq_true (by omega)]
          · rw [decide_eq_false h, decide_eq_false (by omega)]
        rw [this])
    rw [show g + 1 + (d + 1) + 1 = (g + 1 + d + 1) + 1 by omega, cantingref07_Sides.l1]
    rw [w, w3, bit_test s _ hs (by clear w w3; omega)]
    clear w w3
    rw [if_pos (by omega), if_pos (by omega), if_pos (by omega), if_pos (by omega), Int.toNat_natCast, show wrap64 ((v : Int) + 1) = ((v + 1 : Nat) : Int) from wrap_add1 (by omega) (by omega)]
    exact ih
theorem rsides_l0 (T : Nat) (hT : T ≤ 4096) : ∀ (d s fu : Nat) (out : List (List Bool)) (best : Int), s + d = T → d * 20 + 300 ≤ fu → out.length ≤ s → cantingref07_Sides.l0 fu out best T s N l = some ((((List.range' s d).map (sideR N)).foldl (stepR N l) (out, best)).1, 0)
  | d, s, 0, out, best, hd, hf, ho => by omega
  | 0, s, fu + 1, out, best, hd, hf, ho => by
    simp only [cantingref07_Sides.l0]
    rw [if_neg (by omega)]
    rfl
  | d + 1, s, fu + 1, out, best, hd, hf, ho => by
    obtain ⟨g, rfl⟩ : ∃ g, fu = g + 1 + N + 1 := ⟨fu - N - 2, by omega⟩
    have h1 := rsides_l1 N hN2 hN l hl hg out best T s (by omega) (by omega) N 0 g (List.replicate N false) (by omega) (by omega) (by simp) (fun u hu => by
      rw [decide_eq_false (show ¬ u < 0 by omega)]
      simp [rdOf, hu])
    have hst := stepR_len N l (out, best) (sideR N s)
    dsimp only at hst
    have ih := rsides_l0 T hT d (s + 1) g (stepR N l (out, best) (sideR N s)).1 (stepR N l (out, best) (sideR N s)).2 (by omega) (by omega) (by omega)
    rw [cantingref07_Sides.l0]
    rw [if_pos (by omega), if_pos (by omega), if_pos (by omega), Option.bind_some, Int.toNat_natCast, List.length_replicate, List.range'_succ, List.map_cons, List.foldl_cons]
    exact h1.trans ih
theorem rsides_f (hc : CapR l) (m : Int) (hm : ∀ S : List Bool, S.length = N → okR N S = true → m ≤ csF S l 0) (hex : ∃ S : List Bool, S.length = N ∧ okR N S = true ∧ csF S l 0 = m) (hm2 : m ≤ 1152921504606846976) (hv : vdB N (netL l) = true) (fu : Nat) (hf : 100000 ≤ fu) : cantingref07_Sides.f fu N l = some (sidesL N l m, 0) := by
  have hp := p12 hN
  have h0 := rsides_l0 N hN2 hN l hl hg (2 ^ N) hp.2 (2 ^ N) 0 fu [] 1152921504606846976 (by omega) (by omega) (by simp)
  have hall : ∀ S ∈ (List.range (2 ^ N)).map (sideR N), S.length = N := fun S hS => by
    obtain ⟨s, _, rfl⟩ := List.mem_map.1 hS
    exact sideR_len N s
  have hok : ∀ S, S ∈ ((List.range (2 ^ N)).map (sideR N)).filter (okR N) ↔ S.length = N ∧ okR N S = true := fun S => by
    rw [ok_filter hN2, List.mem_map]
    constructor
    · rintro ⟨s, hs, rfl⟩
      have h1 : sideN N s ∈ ((List.range (2 ^ N)).map (sideR N)).filter (okR N) := by rw [ok_filter hN2]; exact List.mem_map_of_mem hs
      exact ⟨sideN_len N s, (List.mem_filter.1 h1).2⟩
    · rintro ⟨h1, h2⟩
      unfold okR at h2
      rw [Bool.and_eq_true, Bool.not_eq_true'] at h2
      obtain ⟨s, hs, e⟩ := sideN_of hN2 S h1 h2.1 h2.2
      exact ⟨s, List.mem_range.2 hs, e.symm⟩
  obtain ⟨S0, a0, b0, c0⟩ := hex
  have hmem := (List.mem_filter.1 ((hok S0).2 ⟨a0, b0⟩)).1
  have hf2 := fold_min N l m ((List.range (2 ^ N)).map (sideR N)) [] 1152921504606846976 (fun S hS hk => hm S (hall S hS) hk) hm2 (.inr ⟨S0, hmem, b0, c0⟩)
  rw [← List.range_eq_range', hf2] at h0
  unfold cantingref07_Sides.f
  rw [rvalid_g _ _ _ (by omega), hv, Option.bind_some, if_pos rfl, if_neg (by omega), if_pos (by omega), shl1 (by omega) (by omega), Int.toNat_natCast]
  refine h0.trans ?_
  rw [ite_self, List.nil_append]
  have e : ((List.range (2 ^ N)).map (sideR N)).filter (fun S => okR N S && decide (csF S l 0 = m)) = sidesL N l m := by
    unfold sidesL
    rw [← ok_filter hN2, List.filter_filter]
    refine List.filter_congr (fun S _ => ?_)
    rw [Bool.and_comm]
    rfl
  rw [e]
end
theorem sides_k (n : Int) (l : List S34) (hl : l.length < 10000000000000) (K : Nat) (hK : 100001 ≤ K) : cantinglaw07_WaxSides.f (K + 1) n l = some true := by
  have fin : ∀ (b : Int), (some (b == b) : Option Bool) = some true := fun b => by simp
  unfold cantinglaw07_WaxSides.f
  rw [net_f l hl n (K + 1) (by omega)]
  simp only [Option.bind_some]
  cases hv : vdB n (netL l) with
  | false =>
    have e1 : wax_Least.f n (netL l) = some ([], 2) := by unfold wax_Least.f; rw [hv]; rfl
    have e2 : wax_Greatest.f n (netL l) = some ([], 2) := by unfold wax_Greatest.f; rw [hv]; rfl
    have e3 : cantingref07_Least.f n l = some ([], 2) := by unfold cantingref07_Least.f; rw [hv]; rfl
    have e4 : cantingref07_Greatest.f n l = some ([], 2) := by unfold cantingref07_Greatest.f; rw [hv]; rfl
    have e5 : ∀ k, wax_Sides.f k n (netL l) = some ([], 2) := fun k => by unfold wax_Sides.f wax_Net_valid.f; rw [hv]; rfl
    have e6 : ∀ k, 200 ≤ k → cantingref07_Sides.f k n l = some ([], 2) := fun k hk => by unfold cantingref07_Sides.f; rw [rvalid_g _ _ _ hk, hv]; rfl
    have e7 : ∀ k, 1 ≤ k → slices_Equal_bool_bool.f k [] [] = some true := fun k hk => by rw [eqB_f [] [] (by simp) k (show 0 < k by omega)]; rfl
    have e8 : slices_EqualFunc_bool_bool_bool_bool.f [] [] = some true := by unfold slices_EqualFunc_bool_bool_bool_bool.f; rw [if_pos ⟨by simp, by simp⟩]; rfl
    rw [e1, e3]
    simp only [Option.bind_some]
    rw [e7 _ (by omega), awake_f]
    simp only [Option.bind_some, if_true, Bool.not_true, cantinglaw07_WaxSides.j0, Bool.false_eq_true, if_false]
    rw [net_f l hl n K (by omega)]
    simp only [Option.bind_some]
    rw [e2, e4, e5, e6 K (by omega)]
    simp only [Option.bind_some]
    rw [e7 K (by omega), e8]
    simp
  | true =>
    obtain ⟨N, rfl, a, b, hlen, hnl, hg, hc⟩ := vd_facts hv
    have hv2 := hv
    rw [hnl] at hv2
    obtain ⟨N', e1, -, -, -, d, -⟩ := vdB_facts hv2
    obtain rfl : N = N' := by omega
    obtain ⟨w, l1, D, GB, h⟩ := netD hv2
    obtain ⟨v, G1, fr, bk, r⟩ := rnetD a b hlen hg hc
    have hvw : w = v := (h.isMin a d).eq r.isMin
    subst hvw
    have hre : rends N l = some (fromL fr N, toL bk N) := by
      unfold rends
      rw [r.grt, Option.bind_some, r.f1, Option.bind_some, r.f2, Option.bind_some, if_pos ⟨r.w1.len, r.w2.len⟩]
    have e3 : cantingref07_Least.f N l = some (fromL fr N, 0) := by unfold cantingref07_Least.f; rw [hv, if_pos rfl, Int.toNat_natCast, hre]; rfl
    have e4 : cantingref07_Greatest.f N l = some (toL bk N, 0) := by unfold cantingref07_Greatest.f; rw [hv, if_pos rfl, Int.toNat_natCast, hre]; rfl
    have q1 := least_eq h r a d
    have q2 := great_eq h r a d
    rw [hnl, h.least, e3, q1, Option.bind_some, Option.bind_some, eqB_f _ _ (by rw [fromL_len]; omega) (K + 1) (by rw [fromL_len]; omega), awake_f]
    simp only [Option.bind_some, decide_true, if_true, Bool.not_true, cantinglaw07_WaxSides.j0, Bool.false_eq_true, if_false]
    rw [net_f l hl N K (by omega)]
    simp only [Option.bind_some]
    rw [hnl, h.great, e4, q2]
    simp only [Option.bind_some]
    rw [eqB_f _ _ (by rw [toL_len]; omega) K (by rw [toL_len]; omega)]
    by_cases hN : N ≤ 12
    · have hcs : ∀ S : List Bool, csF S l 0 = costF false (fun v => rdOf false S v) (l.map cvA) := fun S => by
        rw [csF_cost S l 0 hc (by omega) (by omega), Int.zero_add]
      have hls := h.least_side a
      have hw2 : w ≤ 1152921504606846976 := by
        have h1 := h.least_cost a d
        have h2 := (costF_le false (fun v => rdOf false (leastL D) v) (l.map cvA) (fun a ha => by obtain ⟨b, hb, rfl⟩ := List.mem_map.1 ha; exact hc b hb)).2
        rw [List.length_map] at h2
        omega
      have hrs := rsides_f N a hN l hlen hg hc w (fun S hS hk => by
        unfold okR at hk
        rw [Bool.and_eq_true, Bool.not_eq_true'] at hk
        rw [hcs]
        exact h.min _ hk) ⟨leastL D, by unfold leastL; rw [List.length_map]; exact h.lv.len, by unfold okR; rw [Bool.and_eq_true, Bool.not_eq_true']; exact hls, by rw [hcs]; exact h.least_cost a d⟩ hw2 hv K (by omega)
      have hps := sides_f N a hN l hlen hg hv2 h K (by omega)
      have hsh : shortL (sidesL N l w) := by
        refine ⟨?_, fun S hS => ?_⟩
        · unfold sidesL
          refine Nat.le_trans (List.length_filter_le _ _) ?_
          rw [List.length_map, List.length_range]
          exact Nat.le_trans (p12 (show N - 2 ≤ 12 by omega)).2 (by omega)
        · have := ((mem_sidesL a l w S).1 hS).1
          omega
      have e8 : slices_EqualFunc_bool_bool_bool_bool.f (sidesL N l w) (sidesL N l w) = some true := by unfold slices_EqualFunc_bool_bool_bool_bool.f; rw [if_pos hsh]; simp
      rw [hps, hrs]
      simp only [Option.bind_some]
      rw [e8]
      simp
    · have e5 : wax_Sides.f K N (l.map cvA) = some ([], 3) := by unfold wax_Sides.f wax_Net_valid.f; rw [hv2, Option.bind_some, if_pos rfl, if_pos (by omega)]
      have e6 : cantingref07_Sides.f K N l = some ([], 3) := by unfold cantingref07_Sides.f; rw [rvalid_g _ _ _ (by omega), hv, Option.bind_some, if_pos rfl, if_pos (by omega)]
      have e8 : slices_EqualFunc_bool_bool_bool_bool.f [] [] = some true := by unfold slices_EqualFunc_bool_bool_bool_bool.f; rw [if_pos ⟨by simp, by simp⟩]; rfl
      rw [e5, e6]
      simp only [Option.bind_some]
      rw [e8]
      simp
theorem sides_law (n : Int) (l : List S34) (hl : l.length < 10000000000000) : cantinglaw07_WaxSides.f 100002 n l = some true := sides_k n l hl 100001 (by omega)
end Go.Proofs.Ytbamanjedfccpaa.HTab
end

section
set_option linter.unusedVariables false
set_option linter.unusedSimpArgs false
namespace Go.Proofs.Ytbamanjedfccpaa.waxSides
open Go.ChangeShapes Go.WideShapes Go.ChangeAt Go.RowKit Go.Proofs.YtbamanjedfccpaaW.PrintWords Go.Proofs.Ytbamanjedfccpaa.HTab Go.Proofs.Ytbamanjedfccpaa.X
open Go.ChangeMaps (open_string shut_string)
set_option linter.unusedVariables false
theorem own : ownKnob Try.prog.godebug = none := by kernel_rfl
theorem laidOut : laidOutB Try.prog = true := by kernel_rfl
set_option maxRecDepth 100000 in
theorem lifted (os : Os) (started : os.Started) (H : Type) (enc : TypeId × Value → H) :
    ReturnsInHanded {} Try.checked os 11 .any (Rows.waxSidesSpec.pre6 enc Try.prog Try.f11 Rows.waxSidesRow.domain false) (Rows.waxSidesSpec.post enc Try.prog Try.f11 false true false false) := by
  refine returnsInHanded_of_change_sized (C := Try.checked) own started (by kernel_rfl) Try.func11
    (ChangeSpec.witness6 (enc := enc) (C := Try.checked) false ⟨#[], #[.agg #[.int .i64 0, .slice none 0 0]], []⟩ 8 (by kernel_rfl) (by kernel_rfl) (by kernel_rfl) (by kernel_rfl)) ?_
  intro W base args ds gs before hval0 hW hcnd hsz0 _
  have hsz : (DataW.weightsEach Try.prog (Try.f11.params.toList ++ Rows.waxSidesSpec.plain.varTypes Try.prog) (ds ++ gs)).all (· ≤ reachBytes) = true := hsz0
  have hval : ∀ (j : Nat) t v, Try.f11.params[j]? = some t → args[j]? = some v → Value.okWide Try.prog W .any base t v := hval0
  have hW' := hW
  obtain ⟨p, q, hA0, hV, rfl, hfz, hnd⟩ := hW
  have hA : DataW.TrodAll enc Try.prog W 0 (fun _ => true) true Try.f11.params.toList args.toList ds p := hA0
  rw [Try.params11] at hA hval hsz
  obtain ⟨v0, vs0, d0, ds0, p0, q0, hargs, rfl, rfl, h0, r0⟩ := trodAll_cons hA
  obtain ⟨rfl, rfl, rfl⟩ := trodAll_nil r0
  obtain rfl : args = #[v0] := by cases args; simp_all
  obtain ⟨rfl, rfl⟩ := trodVars_none hV
  have k0 := h0
  have lt0 : ∀ x ∈ p0, x.block < W.heap.size := by obtain ⟨m, hm⟩ := k0; exact DataW.trod_lt m _ _ _ hm
  obtain ⟨n0, A0, c0, l0, rfl, C0, L0, B0, wn0⟩ := open_net (hval 0 24 v0 rfl rfl) h0 hsz (j := 0) rfl rfl
  clear hA0 hval0 hsz0 hsz
  refine ((cantinglaw07_WaxSides.calls 100002 n0 A0 c0 l0 true W C0 L0 (sides_law n0 l0 B0))).mono fun e W' ⟨he, bel⟩ => ?_
  subst he
  exact ⟨_, rfl, _, _, _, [], _, [], hW', trodAll_mk1 (shut_bool Try.underlying4 _), (trodAll_cons_mk (Below.trod laidOut (by kernel_rfl) (of_decide_eq_true (by kernel_rfl)) k0 bel lt0) trodAll_mk0), rfl, bel.frame _, fun h => by cases h⟩
theorem over : Rows.waxSidesRow.holds Try.pinned (OpenSpec.ofChange Rows.waxSidesSpec) :=
  OpenClaim.holds_of_wide 11 Try.f11 rfl rfl rfl rfl rfl rfl rfl ⟨rfl, rfl, rfl, rfl, rfl⟩ rfl rfl rfl rfl rfl (by kernel_rfl) Try.func11 (by kernel_rfl)
    (of_decide_eq_true (by kernel_rfl)) (by unfold Func.isWrapper; first | (rw [if_pos (by decide +kernel)]; kernel_rfl) | (rw [if_neg (by decide +kernel)]; exact ⟨rfl, rfl⟩))
    (fun os started H enc _ => lifted os started H enc)
theorem proved : Rows.WaxSidesSaid := over
end Go.Proofs.Ytbamanjedfccpaa.waxSides
namespace Go.Proofs.Ytbamanjedfccpaa
theorem waxSides_holds : Rows.WaxSidesSaid := waxSides.proved
end Go.Proofs.Ytbamanjedfccpaa
#print axioms Go.Proofs.Ytbamanjedfccpaa.waxSides_holds
end
