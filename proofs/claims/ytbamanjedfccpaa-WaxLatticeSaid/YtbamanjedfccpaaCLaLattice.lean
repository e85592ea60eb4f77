/- The law WaxLattice holds of the program, for every input that its statement lets in. -/
import Derived.Test.YtbamanjedfccpaaBq
import Derived.Test.YtbamanjedfccpaaBs
import Derived.Laws.BitsLemmas
import Derived.Test.YtbamanjedfccpaaBc
import Derived.Test.YtbamanjedfccpaaBi
import Derived.Test.YtbamanjedfccpaaRows
import Derived.Test.YtbamanjedfccpaaBj
import Derived.WalkKit
import Derived.ProofKit
import Derived.OpenShut
import Derived.ShutString
import Derived.ChangeOld
import Derived.Below
import Derived.SizedLaws
import Derived.Test.YtbamanjedfccpaaBb
section
set_option linter.unusedVariables false
set_option linter.unusedSimpArgs false
namespace Go.Proofs.Ytbamanjedfccpaa.HTab
open Go.RowKit Go.Proofs.YtbamanjedfccpaaW.PrintWords Go.Proofs.YtbamanjedfccpaaW.PrintLast Go.Proofs.YtbamanjedfccpaaW.PrintMore Go.Proofs.Ytbamanjedfccpaa.X
set_option linter.unusedVariables false
set_option linter.unusedSimpArgs false
theorem wraps_i64 (n : Int) (h₀ : 0 ≤ n) (h₁ : n < 2 ^ 63) : IntKind.i64.wrap n = n := by rw [IntKind.wrap_i64]; omega
theorem and_one {x : Int} (h0 : 0 ≤ x) (h1 : x < 2 ^ 63) : Go.bits .and .i64 x 1 = x % 2 := bits_mask .i64 63 (by decide) wraps_i64 1 (by decide) x h0 h1
theorem shl1 {k : Int} (h0 : 0 ≤ k) (h : k ≤ 12) : shl .i64 1 k = ((2 ^ k.toNat : Nat) : Int) := by
  have : k = 0 ∨ k = 1 ∨ k = 2 ∨ k = 3 ∨ k = 4 ∨ k = 5 ∨ k = 6 ∨ k = 7 ∨ k = 8 ∨ k = 9 ∨ k = 10 ∨ k = 11 ∨ k = 12 := by omega
  rcases this with h | h | h | h | h | h | h | h | h | h | h | h | h <;> rw [h] <;> decide
theorem p12 {k : Nat} (h : k ≤ 12) : 1 ≤ 2 ^ k ∧ 2 ^ k ≤ 4096 := ⟨Nat.two_pow_pos k, Nat.pow_le_pow_right (by omega) h⟩
theorem bit_test (s k : Nat) (hs : s < 4096) (hk : k ≤ 62) : (Go.bits .and .i64 (shr .i64 (s : Int) (k : Int)) 1 == 1) = s.testBit k := by
  unfold shr
  rw [Int.toNat_natCast, Nat.min_eq_left (show k ≤ IntKind.i64.bits from (by show k ≤ 64; omega))]
  have e : ((s : Int) / 2 ^ k) = ((s / 2 ^ k : Nat) : Int) := by rw [Int.natCast_ediv, Int.natCast_pow]; rfl
  have hle : s / 2 ^ k ≤ s := Nat.div_le_self _ _
  rw [e, Nat.testBit_eq_decide_div_mod_eq]
  generalize s / 2 ^ k = q at hle ⊢
  rw [and_one (by omega) (by omega)]
  by_cases h : q % 2 = 1
  · rw [decide_eq_true h]
    have : ((q : Int) % 2) = 1 := by omega
    rw [this]; rfl
  · rw [decide_eq_false h]
    have : ((q : Int) % 2) = 0 := by omega
    rw [this]; rfl
def sideN (N s : Nat) : List Bool := (List.range N).map fun v => decide (v = 0) || (decide (1 ≤ v) && decide (v + 1 < N) && s.testBit (N - 2 - v))
theorem sideN_len (N s : Nat) : (sideN N s).length = N := by simp [sideN]
theorem sideN_rd (N s v : Nat) (hv : v < N) : rdOf false (sideN N s) (v : Int) = (decide (v = 0) || (decide (1 ≤ v) && decide (v + 1 < N) && s.testBit (N - 2 - v))) := by
  simp [rdOf, sideN, hv]
theorem bools_ext {a b : List Bool} {N : Nat} (ha : a.length = N) (hb : b.length = N) (h : ∀ v : Nat, v < N → rdOf false a (v : Int) = rdOf false b (v : Int)) : a = b := by
  refine List.ext_getElem (by omega) (fun i h1 h2 => ?_)
  have := h i (by omega)
  simp only [rdOf, Int.toNat_natCast, List.getD_eq_getElem?_getD, List.getElem?_eq_getElem h1, List.getElem?_eq_getElem h2] at this
  exact this
theorem rdB_nat (d : List Bool) (w v : Nat) (val : Bool) (hw : w < d.length) : rdOf false (d.set w val) (v : Int) = if v = w then val else rdOf false d (v : Int) := by
  have := rdB_set d (w : Int) (v : Int) val (by omega) (by omega) (by omega)
  rw [Int.toNat_natCast] at this
  rw [this]
  by_cases h : v = w
  · rw [if_pos h, if_pos (by omega)]
  · rw [if_neg h, if_neg (by omega)]
section
variable (N : Nat) (hN2 : 2 ≤ N) (hN : N ≤ 12) (l : List S34) (hl : l.length ≤ 160) (hg : GoodR N l)
include hN2 hN hl hg
theorem cost_at (S : List Bool) (hS : S.length = N) (fu : Nat) (hf : 170 ≤ fu) : wax_Net_cost.f fu N (l.map cvA) S = some (csF S l 0) := by
  unfold wax_Net_cost.f
  have := cost_l0 N hN2 (by omega) l hl hg S hS l.length 0 fu 0 (by omega) (by omega)
  rw [List.length_map]
  exact this
theorem sides_l1 (val : Int) (out : List (List Bool)) (tot : Int) (s : Nat) (hs : s < 4096) : ∀ (d v g : Nat) (x : List Bool), v + d = N - 1 → 1 ≤ v → 170 ≤ g → x.length = N → (∀ u : Nat, u < N → rdOf false x (u : Int) = (decide (u = 0) || (decide (1 ≤ u) && decide (u < v) && s.testBit (N - 2 - u)))) →
    wax_Sides.l1 (g + d + 1) val out s x v tot s N (l.map cvA) = if csF (sideN N s) l 0 = val then (if out.length < 5864062014805 then wax_Sides.l0 g val (out ++ [sideN N s]) tot ((s + 1 : Nat) : Int) N (l.map cvA) else none) else wax_Sides.l0 g val out tot ((s + 1 : Nat) : Int) N (l.map cvA)
  | 0, v, g, x, hd, hv, hgf, hx, hr => by
    have w : wrap64 ((N : Int) - 1) = (N : Int) - 1 := wrap_id (by omega) (by omega)
    have e : x = sideN N s := bools_ext hx (sideN_len N s) (fun u hu => by
      rw [hr u hu, sideN_rd N s u hu]
      have : decide (u < v) = decide (u + 1 < N) := by
        by_cases h : u < v
        · rw [decide_eq_true h, decide_eq_true (by omega)]
        · rw [decide_eq_false h, decide_eq_false (by omega)]
      rw [this])
    simp only [wax_Sides.l1]
    rw [w]
    clear w
    rw [if_neg (by omega), Nat.add_zero, cost_at N hN2 hN l hl hg x hx g hgf, Option.bind_some, e, show wrap64 ((s : Int) + 1) = ((s + 1 : Nat) : Int) from wrap_add1 (by omega) (by omega)]
  | d + 1, v, g, x, hd, hv, hgf, hx, hr => by
    have w : wrap64 ((N : Int) - 1) = (N : Int) - 1 := wrap_id (by omega) (by omega)
    have w2 : wrap64 ((N : Int) - 2) = (N : Int) - 2 := wrap_id (by omega) (by omega)
    have w3 : wrap64 ((N : Int) - 2 - v) = ((N - 2 - v : Nat) : Int) := by rw [wrap_id (by clear w w2; omega) (by clear w w2; omega)]; omega
    have ih := sides_l1 val out tot s hs d (v + 1) g (x.set v (s.testBit (N - 2 - v))) (by clear w w2 w3; omega) (by clear w w2 w3; omega) hgf (by rw [List.length_set]; exact hx) (fun u hu => by
      clear w w2 w3
      rw [rdB_nat x v u _ (by omega)]
      by_cases h : u = v
      · rw [if_pos h, h, decide_eq_false (show ¬ v = 0 by omega), decide_eq_true hv, decide_eq_true (show v < v + 1 by omega)]
        rfl
      · rw [if_neg h, hr u hu]
        have : decide (u < v) = decide (u < v + 1) := by
          by_cases h : u < v
          · rw [decide_eq_true h, decide_eq_true (by omega)]
          · rw [decide_eq_false h, decide_eq_false (by omega)]
        rw [this])
    obtain ⟨m, hm⟩ : ∃ m, m = g + d + 1 := ⟨_, rfl⟩
    rw [show g + (d + 1) + 1 = m + 1 by omega]
    rw [← hm] at ih
    simp only [wax_Sides.l1]
    rw [w, w2, w3, bit_test s _ hs (by clear w w2 w3; omega)]
    clear w w2 w3
    rw [if_pos (by omega), if_pos (by omega), if_pos (by omega), if_pos (by omega), Int.toNat_natCast, show wrap64 ((v : Int) + 1) = ((v + 1 : Nat) : Int) from wrap_add1 (by omega) (by omega)]
    exact ih
def okS (l : List S34) (val : Int) (S : List Bool) : Bool := decide (csF S l 0 = val)
theorem sides_l0 (val : Int) (T : Nat) (hT : T ≤ 1024) : ∀ (d s fu : Nat) (out : List (List Bool)), s + d = T → d * 20 + 300 ≤ fu → out.length ≤ s → wax_Sides.l0 fu val out T s N (l.map cvA) = some (out ++ ((List.range' s d).map (sideN N)).filter (okS l val), 0)
  | d, s, 0, out, hd, hf, ho => by omega
  | 0, s, fu + 1, out, hd, hf, ho => by
    simp only [wax_Sides.l0]
    rw [if_neg (by omega)]
    simp
  | d + 1, s, fu + 1, out, hd, hf, ho => by
    have hx : (List.replicate N false).set 0 true = ((List.replicate N false).set 0 true) := rfl
    obtain ⟨g, rfl⟩ : ∃ g, fu = g + (N - 2) + 1 := ⟨fu - (N - 2) - 1, by omega⟩
    have h1 := sides_l1 N hN2 hN l hl hg val out T s (by omega) (N - 2) 1 g ((List.replicate N false).set 0 true) (by omega) (by omega) (by omega) (by simp) (fun u hu => by
      rw [rdB_nat _ 0 u true (by simp; omega)]
      by_cases h : u = 0
      · rw [if_pos h, decide_eq_true h]; rfl
      · rw [if_neg h, decide_eq_false h, decide_eq_false (show ¬ u < 1 by omega)]
        simp [rdOf, hu])
    simp only [wax_Sides.l0]
    rw [if_pos (by omega), if_pos (by omega), if_pos (by omega), Option.bind_some, Int.toNat_natCast, List.length_replicate, if_pos (by omega)]
    have h1' : wax_Sides.l1 (g + (N - 2) + 1) val out s ((List.replicate N false).set (0 : Int).toNat true) 1 T s N (l.map cvA) = _ := h1
    rw [h1', List.range'_succ, List.map_cons, List.filter_cons]
    rw [show okS l val (sideN N s) = decide (csF (sideN N s) l 0 = val) from rfl]
    by_cases c : csF (sideN N s) l 0 = val
    · rw [if_pos c, if_pos (by omega), if_pos (decide_eq_true c), sides_l0 val T hT d (s + 1) g _ (by omega) (by omega) (by rw [List.length_append, List.length_singleton]; omega)]
      simp
    · rw [if_neg c, if_neg (by simpa using c), sides_l0 val T hT d (s + 1) g out (by omega) (by omega) (by omega)]
def sidesL (N : Nat) (l : List S34) (val : Int) : List (List Bool) := ((List.range (2 ^ (N - 2))).map (sideN N)).filter (okS l val)
theorem sides_f {s : Int} {l1 D : List Int} {G : List Bool} (hv : vdB N (l.map cvA) = true) (h : NetD N (l.map cvA) s l1 D G) (fu : Nat) (hf : 30000 ≤ fu) : wax_Sides.f fu N (l.map cvA) = some (sidesL N l s, 0) := by
  have hp := p12 (show N - 2 ≤ 12 by omega)
  have hp2 : 2 ^ (N - 2) ≤ 1024 := Nat.le_trans (Nat.pow_le_pow_right (by omega) (show N - 2 ≤ 10 by omega)) (by decide)
  have w2 : wrap64 ((N : Int) - 2) = ((N - 2 : Nat) : Int) := by rw [wrap_id (by omega) (by omega)]; omega
  have h0 := sides_l0 N hN2 hN l hl hg s (2 ^ (N - 2)) hp2 (2 ^ (N - 2)) 0 fu [] (by omega) (by omega) (by simp)
  unfold wax_Sides.f wax_Net_valid.f
  rw [hv, Option.bind_some, if_pos rfl, if_neg (by clear w2; omega), h.value, Option.bind_some, w2, if_pos (by clear w2; omega), shl1 (by clear w2; omega) (by clear w2; omega), Int.toNat_natCast]
  rw [List.nil_append, ← List.range_eq_range'] at h0
  exact h0
end
theorem bits_of (g : Nat → Bool) : ∀ m : Nat, ∃ s, s < 2 ^ m ∧ ∀ k, k < m → s.testBit k = g k
  | 0 => ⟨0, by simp, fun k hk => by omega⟩
  | m + 1 => by
    obtain ⟨s, h1, h2⟩ := bits_of g m
    have hp : 2 ^ (m + 1) = 2 ^ m + 2 ^ m := by rw [Nat.pow_succ]; omega
    cases hg : g m with
    | false =>
      refine ⟨s, by omega, fun k hk => ?_⟩
      by_cases e : k = m
      · rw [e, hg]; exact Nat.testBit_lt_two_pow h1
      · exact h2 k (by omega)
    | true =>
      refine ⟨2 ^ m + s, by omega, fun k hk => ?_⟩
      by_cases e : k = m
      · rw [e, hg, Nat.testBit_two_pow_add_eq, Nat.testBit_lt_two_pow h1]; rfl
      · rw [Nat.testBit_two_pow_add_gt (by omega)]; exact h2 k (by omega)
theorem sideN_of {N : Nat} (hN2 : 2 ≤ N) (S : List Bool) (hS : S.length = N) (h0 : rdOf false S 0 = true) (h1 : rdOf false S ((N : Int) - 1) = false) : ∃ s, s < 2 ^ (N - 2) ∧ S = sideN N s := by
  obtain ⟨s, hs, hb⟩ := bits_of (fun k => rdOf false S ((N - 2 - k : Nat) : Int)) (N - 2)
  refine ⟨s, hs, bools_ext hS (sideN_len N s) (fun v hv => ?_)⟩
  rw [sideN_rd N s v hv]
  by_cases e0 : v = 0
  · rw [decide_eq_true e0, e0]; exact h0
  · rw [decide_eq_false e0, decide_eq_true (show 1 ≤ v by omega)]
    by_cases e1 : v + 1 < N
    · rw [decide_eq_true e1, hb (N - 2 - v) (by omega), show N - 2 - (N - 2 - v) = v by omega]
      rfl
    · rw [decide_eq_false e1, show (v : Int) = (N : Int) - 1 by omega, h1]
      rfl
theorem mem_sidesL {N : Nat} (hN2 : 2 ≤ N) (l : List S34) (val : Int) (S : List Bool) : S ∈ sidesL N l val ↔ S.length = N ∧ rdOf false S 0 = true ∧ rdOf false S ((N : Int) - 1) = false ∧ csF S l 0 = val := by
  unfold sidesL
  rw [List.mem_filter, List.mem_map]
  constructor
  · rintro ⟨⟨s, hs, rfl⟩, hc⟩
    have e := sideN_rd N s (N - 1) (by omega)
    rw [show ((N - 1 : Nat) : Int) = (N : Int) - 1 by omega] at e
    refine ⟨sideN_len N s, ?_, ?_, of_decide_eq_true hc⟩
    · have := sideN_rd N s 0 (by omega)
      exact this.trans (by rfl)
    · rw [e, decide_eq_false (show ¬ N - 1 = 0 by omega), decide_eq_false (show ¬ N - 1 + 1 < N by omega)]
      simp
  · rintro ⟨a, b, c, d⟩
    obtain ⟨s, hs, rfl⟩ := sideN_of hN2 S a b c
    exact ⟨⟨s, List.mem_range.2 hs, rfl⟩, decide_eq_true d⟩
end Go.Proofs.Ytbamanjedfccpaa.HTab
end

section
set_option linter.unusedVariables false
set_option linter.unusedSimpArgs false
namespace Go.Proofs.Ytbamanjedfccpaa.X
open Go.RowKit Go.Proofs.YtbamanjedfccpaaW.PrintWords Go.Proofs.YtbamanjedfccpaaW.PrintLast Go.Proofs.YtbamanjedfccpaaW.PrintMore
attribute [local go_sem] max2_int min2_int max_two min_two max_three min_three max_four min_four   -- for this text's walks alone
set_option linter.unusedVariables false
set_option linter.unusedSimpArgs false
def slices_Equal_bool_bool.l0 : Nat → List Bool → List Bool → Int → Int → Option (Bool)
  | 0, _, _, _, _ => none
  | k + 1, x0, x1, x12, x13 => if x13 < x12 then (if 0 ≤ x13 then (if x13 < (x0.length : Int) then (if x13 < (x1.length : Int) then (if ((rdOf false x0 x13) != (rdOf false x1 x13)) = true then (some false) else (slices_Equal_bool_bool.l0 k x0 x1 x12 (wrap64 (x13 + 1)))) else (none)) else (none)) else (none)) else (some true)
def slices_Equal_bool_bool.f (k : Nat) (l0 : List Bool) (l1 : List Bool) : Option (Bool) := if (l0.length : Int) = (l1.length : Int) then (slices_Equal_bool_bool.l0 k l0 l1 (l0.length : Int) 0) else (some false)
set_option maxHeartbeats 8000000 in
set_option maxRecDepth 100000 in
theorem slices_Equal_bool_bool.calls (k : Nat) (A0 : Option Addr) (c0 : Nat) (l0 : List Bool) (A1 : Option Addr) (c1 : Nat) (l1 : List Bool) (r : Bool) (w : World) (hr0 : Kd.C Kd.bool w A0 l0.length l0) (hc0 : l0.length ≤ c0) (hr1 : Kd.C Kd.bool w A1 l1.length l1) (hc1 : l1.length ≤ c1) (h : slices_Equal_bool_bool.f k l0 l1 = some r) :
    Calls Try.prog 30 #[.slice A0 l0.length c0, .slice A1 l1.length c1] w fun e w' => e = .returned (.bool r) ∧ Drawn0 w w' := by
  have HR0 := Aside0.mk hr0
  have HC0 := Aside0.mk hc0
  clear hr0 hc0
  have HR1 := Aside0.mk hr1
  have HC1 := Aside0.mk hc1
  clear hr1 hc1
  have H : (if (l0.length : Int) = (l1.length : Int) then (slices_Equal_bool_bool.l0 k l0 l1 (l0.length : Int) 0) else (some false)) = some r := h
  clear h
  by_cases c3 : (l0.length : Int) = (l1.length : Int)
  · rw [if_pos c3] at H
    have c3b0 : ((l0.length : Int) == (l1.length : Int)) = true := beq_iff_eq.mpr c3
    have c3b1 : ((l0.length : Int) != (l1.length : Int)) = false := bne_eq_false_iff_eq.mpr c3
    have c3b2 : (l0.length == l1.length) = true := by first | simpa using c3 | (simp at c3 ⊢; omega)
    clear c3
    have H' := Aside0.mk H
    clear H
    go_enter Try.func30, Try.ntmps30
    go_wp2
    repeat (go_quiet (fail); try go_wp2)
    go_loopg [13] k (fun kq v13 w' => ∃ (x13_1 : Int), v13 = .int .i64 x13_1 ∧ Aside0 (slices_Equal_bool_bool.l0 kq l0 l1 (l0.length : Int) x13_1 = some r) ∧ Aside0 (kq ≤ k) ∧ Drawn0 w w')
    case atStart => exact ⟨(0), (by first | rfl | (simp; done) | (simp [*]; done)), H', ⟨Nat.le_refl _⟩, by repeat (first | exact Drawn0.refl _ | apply Drawn0.step)⟩
    case round =>
      clear H'
      try clear c1
      try clear p2
      try clear c3
      try clear c3b0
      try clear c3b1
      try clear c3b2
      obtain ⟨x13_1, rfl, HA, HK1, ⟨m1, rfl⟩⟩ := hrel
      cases gk with
      | zero => exact absurd HA.out (by simp [slices_Equal_bool_bool.l0])
      | succ k1 =>
        have H := HA.out
        clear HA
        simp only [slices_Equal_bool_bool.l0] at H
        by_cases c4 : x13_1 < (l0.length : Int)
        · rw [if_pos c4] at H
          have c4b0 : decide (x13_1 < (l0.length : Int)) = true := decide_eq_true c4
          clear c4
          by_cases c5 : 0 ≤ x13_1
          · rw [if_pos c5] at H
            have c5b0 : decide (0 ≤ x13_1) = true := decide_eq_true c5
            clear c5
            by_cases c6 : x13_1 < (l0.length : Int)
            · rw [if_pos c6] at H
              have c6b0 : decide (x13_1 < (l0.length : Int)) = true := decide_eq_true c6
              clear c6
              by_cases c7 : x13_1 < (l1.length : Int)
              · rw [if_pos c7] at H
                have c7b0 : decide (x13_1 < (l1.length : Int)) = true := decide_eq_true c7
                clear c7
                by_cases c8 : ((rdOf false l0 x13_1) != (rdOf false l1 x13_1)) = true
                · rw [if_pos c8] at H
                  have c8b0 : ((rdOf false l0 x13_1) != (rdOf false l1 x13_1)) = true := c8
                  (try (have c8b1 : decide ((rdOf false l0 x13_1) = (rdOf false l1 x13_1)) = false := by simpa using c8))
                  (try (have c8b2 : ((rdOf false l0 x13_1) == (rdOf false l1 x13_1)) = false := by simpa using c8))
                  (try (have c8b3 : ¬ ((rdOf false l0 x13_1) = (rdOf false l1 x13_1)) := by simpa using c8))
                  clear c8
                  obtain rfl := Option.some.inj H
                  have p402 : 0 ≤ (x13_1 : Int) := of_decide_eq_true (by first | (with_reducible assumption) | assumption)
                  have q402 : x13_1 < (l0.length : Int) := of_decide_eq_true (by first | (with_reducible assumption) | assumption)
                  obtain ⟨ad402, e402, hx402_0⟩ := Kd.at_bool HR0.out x13_1 p402 q402
                  cases e402
                  replace p402 := eq_true p402
                  replace q402 := eq_true q402
                  have p403 : 0 ≤ (x13_1 : Int) := of_decide_eq_true (by first | (with_reducible assumption) | assumption)
                  have q403 : x13_1 < (l1.length : Int) := of_decide_eq_true (by first | (with_reducible assumption) | assumption)
                  obtain ⟨ad403, e403, hx403_0⟩ := Kd.at_bool HR1.out x13_1 p403 q403
                  cases e403
                  replace p403 := eq_true p403
                  replace q403 := eq_true q403
                  go_wp2
                  repeat (go_quiet (fail); try go_wp2)
                  go_ret
                  exact ⟨by first | rfl | (simp; done) | (simp [*]; done), by repeat (first | exact Drawn0.refl _ | apply Drawn0.step)⟩
                · rw [if_neg c8] at H
                  have c8b0 : ((rdOf false l0 x13_1) != (rdOf false l1 x13_1)) = false := by simpa using c8
                  (try (have c8b1 : decide ((rdOf false l0 x13_1) = (rdOf false l1 x13_1)) = true := by simpa using c8))
                  (try (have c8b2 : ((rdOf false l0 x13_1) == (rdOf false l1 x13_1)) = true := by simpa using c8))
                  clear c8
                  have H' := Aside0.mk H
                  clear H
                  have p402 : 0 ≤ (x13_1 : Int) := of_decide_eq_true (by first | (with_reducible assumption) | assumption)
                  have q402 : x13_1 < (l0.length : Int) := of_decide_eq_true (by first | (with_reducible assumption) | assumption)
                  obtain ⟨ad402, e402, hx402_0⟩ := Kd.at_bool HR0.out x13_1 p402 q402
                  cases e402
                  replace p402 := eq_true p402
                  replace q402 := eq_true q402
                  have p403 : 0 ≤ (x13_1 : Int) := of_decide_eq_true (by first | (with_reducible assumption) | assumption)
                  have q403 : x13_1 < (l1.length : Int) := of_decide_eq_true (by first | (with_reducible assumption) | assumption)
                  obtain ⟨ad403, e403, hx403_0⟩ := Kd.at_bool HR1.out x13_1 p403 q403
                  cases e403
                  replace p403 := eq_true p403
                  replace q403 := eq_true q403
                  go_wp2
                  repeat (go_quiet (fail); try go_wp2)
                  go_roundg k1
                  case measure => have := HK1.out; omega
                  case rel => exact ⟨(wrap64 (x13_1 + 1)), (by first | rfl | (simp; done) | (simp [*]; done)), H', ⟨by have := HK1.out; omega⟩, by repeat (first | exact Drawn0.refl _ | apply Drawn0.step)⟩
              · rw [if_neg c7] at H
                exact absurd H (by simp)
            · rw [if_neg c6] at H
              exact absurd H (by simp)
          · rw [if_neg c5] at H
            exact absurd H (by simp)
        · rw [if_neg c4] at H
          have c4b0 : decide (x13_1 < (l0.length : Int)) = false := decide_eq_false c4
          clear c4
          obtain rfl := Option.some.inj H
          go_wp2
          repeat (go_quiet (fail); try go_wp2)
          go_ret
          exact ⟨by first | rfl | (simp; done) | (simp [*]; done), by repeat (first | exact Drawn0.refl _ | apply Drawn0.step)⟩
  · rw [if_neg c3] at H
    have c3b0 : ((l0.length : Int) == (l1.length : Int)) = false := beq_eq_false_iff_ne.mpr c3
    have c3b1 : ((l0.length : Int) != (l1.length : Int)) = true := bne_iff_ne.mpr c3
    have c3b2 : (l0.length == l1.length) = false := by first | simpa using c3 | (simp at c3 ⊢; omega)
    obtain rfl := Option.some.inj H
    go_enter Try.func30, Try.ntmps30
    go_wp2
    repeat (go_quiet (fail); try go_wp2)
    go_ret
    exact ⟨by first | rfl | (simp; done) | (simp [*]; done), by repeat (first | exact Drawn0.refl _ | apply Drawn0.step)⟩
end Go.Proofs.Ytbamanjedfccpaa.X
end

section
set_option linter.unusedVariables false
set_option linter.unusedSimpArgs false
namespace Go.Proofs.Ytbamanjedfccpaa.X
open Go.RowKit Go.Proofs.YtbamanjedfccpaaW.PrintWords Go.Proofs.YtbamanjedfccpaaW.PrintLast Go.Proofs.YtbamanjedfccpaaW.PrintMore
attribute [local go_sem] max2_int min2_int max_two min_two max_three min_three max_four min_four   -- for this text's walks alone
set_option linter.unusedVariables false
set_option linter.unusedSimpArgs false
mutual
def cantinglaw07_WaxLattice.j0 : Nat → Int → Int → List (List Bool) → Int → Bool → Option (Bool)
  | 0, _, _, _, _, _ => none
  | k + 1, x1, x2, x7, x8, x31 => if x31 = true then (if x8 = 2 then ((cantinglaw07_awake.f).bind fun t413 => (some t413)) else (if x8 = 3 then ((cantinglaw07_awake.f).bind fun t414 => (some t414)) else (some false))) else (if (IntKind.u64.wrap ((x7.length : Int))) = 0 then (none) else (if 0 ≤ (wrap64 (Int.tmod (IntKind.u64.wrap (x1)) (IntKind.u64.wrap ((x7.length : Int))))) then (if (wrap64 (Int.tmod (IntKind.u64.wrap (x1)) (IntKind.u64.wrap ((x7.length : Int))))) < (x7.length : Int) then (if 0 ≤ (wrap64 (Int.tmod (IntKind.u64.wrap (x2)) (IntKind.u64.wrap ((x7.length : Int))))) then (if (wrap64 (Int.tmod (IntKind.u64.wrap (x2)) (IntKind.u64.wrap ((x7.length : Int))))) < (x7.length : Int) then (if ((rd_L7 x7 (wrap64 (Int.tmod (IntKind.u64.wrap (x1)) (IntKind.u64.wrap ((x7.length : Int)))))).length : Int) = ((rd_L7 x7 (wrap64 (Int.tmod (IntKind.u64.wrap (x2)) (IntKind.u64.wrap ((x7.length : Int)))))).length : Int) then (cantinglaw07_WaxLattice.l0 k x7 (rd_L7 x7 (wrap64 (Int.tmod (IntKind.u64.wrap (x2)) (IntKind.u64.wrap ((x7.length : Int)))))) ([] : List Bool) ([] : List Bool) (rd_L7 x7 (wrap64 (Int.tmod (IntKind.u64.wrap (x1)) (IntKind.u64.wrap ((x7.length : Int)))))) ((rd_L7 x7 (wrap64 (Int.tmod (IntKind.u64.wrap (x1)) (IntKind.u64.wrap ((x7.length : Int)))))).length : Int) 0) else (some false)) else (none)) else (none)) else (none)) else (none)))
def cantinglaw07_WaxLattice.l0 : Nat → List (List Bool) → List Bool → List Bool → List Bool → List Bool → Int → Int → Option (Bool)
  | 0, _, _, _, _, _, _, _ => none
  | k + 1, x7, x10, x11, x12, x66, x67, x68 => if x68 < x67 then (if 0 ≤ x68 then (if x68 < (x66.length : Int) then (if rdOf false x66 x68 = true then (if x68 < (x10.length : Int) then (if x11.length < 140737488355328 then (if x12.length < 140737488355328 then (cantinglaw07_WaxLattice.l0 k x7 x10 (x11 ++ [rdOf false x10 x68]) (x12 ++ [true]) x66 x67 (wrap64 (x68 + 1))) else (none)) else (none)) else (none)) else (if x11.length < 140737488355328 then (if x68 < (x10.length : Int) then (if x12.length < 140737488355328 then (cantinglaw07_WaxLattice.l0 k x7 x10 (x11 ++ [false]) (x12 ++ [rdOf false x10 x68]) x66 x67 (wrap64 (x68 + 1))) else (none)) else (none)) else (none))) else (none)) else (none)) else (cantinglaw07_WaxLattice.l1 k x11 x12 false false x7 (x7.length : Int) 0)
def cantinglaw07_WaxLattice.l1 : Nat → List Bool → List Bool → Bool → Bool → List (List Bool) → Int → Int → Option (Bool)
  | 0, _, _, _, _, _, _, _ => none
  | k + 1, x11, x12, x15, x16, x94, x95, x96 => if x96 < x95 then (if 0 ≤ x96 then (if x96 < (x94.length : Int) then (if x15 = true then (if x16 = true then (cantinglaw07_WaxLattice.l1 k x11 x12 true true x94 x95 (wrap64 (x96 + 1))) else ((slices_Equal_bool_bool.f k (rd_L7 x94 x96) x12).bind fun t433 => (cantinglaw07_WaxLattice.l1 k x11 x12 true t433 x94 x95 (wrap64 (x96 + 1))))) else ((slices_Equal_bool_bool.f k (rd_L7 x94 x96) x11).bind fun t434 => (if x16 = true then (cantinglaw07_WaxLattice.l1 k x11 x12 t434 true x94 x95 (wrap64 (x96 + 1))) else ((slices_Equal_bool_bool.f k (rd_L7 x94 x96) x12).bind fun t435 => (cantinglaw07_WaxLattice.l1 k x11 x12 t434 t435 x94 x95 (wrap64 (x96 + 1))))))) else (none)) else (none)) else (if x15 = true then (if x16 = true then ((cantinglaw07_awake.f).bind fun t436 => (some t436)) else (some false)) else (some false))
end
def cantinglaw07_WaxLattice.f (k : Nat) (a0_0 : Int) (l0_1 : List (S34)) (a1 : Int) (a2 : Int) : Option (Bool) := (cantinglaw07_net.f k a0_0 l0_1).bind fun bt405 => ((wax_Sides.f k bt405.1 bt405.2).bind fun bt409 => (if bt409.2 = 0 then (cantinglaw07_WaxLattice.j0 k a1 a2 bt409.1 bt409.2 ((bt409.1.length : Int) == 0)) else (cantinglaw07_WaxLattice.j0 k a1 a2 bt409.1 bt409.2 true)))
set_option maxHeartbeats 8000000 in
set_option maxRecDepth 100000 in
theorem cantinglaw07_WaxLattice.calls (k : Nat) (a0_0 : Int) (A0_1 : Option Addr) (c0_1 : Nat) (l0_1 : List (S34)) (a1 : Int) (a2 : Int) (r : Bool) (w : World) (hr0_1 : Kd.C k34 w A0_1 l0_1.length l0_1) (hc0_1 : l0_1.length ≤ c0_1) (h : cantinglaw07_WaxLattice.f k a0_0 l0_1 a1 a2 = some r) :
    Calls Try.prog 8 #[.agg #[.int .i64 a0_0, .slice A0_1 l0_1.length c0_1], .int .i64 a1, .int .i64 a2] w fun e w' => e = .returned (.bool r) ∧ Below w.heap.size w w' := by
  have hu24 := Try.underlying24
  have HR0_1 := Aside0.mk hr0_1
  have HC0_1 := Aside0.mk hc0_1
  clear hr0_1 hc0_1
  have HB := Aside0.mk (Below.refl w.heap.size w)
  have H : ((cantinglaw07_net.f k a0_0 l0_1).bind fun bt405 => ((wax_Sides.f k bt405.1 bt405.2).bind fun bt409 => (if bt409.2 = 0 then (cantinglaw07_WaxLattice.j0 k a1 a2 bt409.1 bt409.2 ((bt409.1.length : Int) == 0)) else (cantinglaw07_WaxLattice.j0 k a1 a2 bt409.1 bt409.2 true)))) = some r := h
  clear h
  replace H := Option.bind_eq_some_iff.mp H
  obtain ⟨⟨t405, t406⟩, A40, H⟩ := H
  replace H : ((wax_Sides.f k t405 t406).bind fun bt409 => (if bt409.2 = 0 then (cantinglaw07_WaxLattice.j0 k a1 a2 bt409.1 bt409.2 ((bt409.1.length : Int) == 0)) else (cantinglaw07_WaxLattice.j0 k a1 a2 bt409.1 bt409.2 true))) = some r := H
  have A4 := Aside0.mk A40
  clear A40
  replace H := Option.bind_eq_some_iff.mp H
  obtain ⟨⟨t409, t412⟩, A50, H⟩ := H
  replace H : (if t412 = 0 then (cantinglaw07_WaxLattice.j0 k a1 a2 t409 t412 ((t409.length : Int) == 0)) else (cantinglaw07_WaxLattice.j0 k a1 a2 t409 t412 true)) = some r := H
  have A5 := Aside0.mk A50
  clear A50
  have HC6 := Aside0.mk H
  clear H
  go_enter Try.func8, Try.ntmps8
  go_upto_region 2 with (first | ((with_reducible refine gate_dst (N := 3) rfl ?_); (try (refine gate_guard (by rfl) ?_; dsimp only)); refine box_event ?hg (N := 3) ?hd (cs := #[.int .i64 a0_0, .slice A0_1 l0_1.length c0_1]) (t := 24) ?hr ?_; (case hd => rfl); (case hg => rfl); (case hr => first | (go_simp; done) | (go_simp; rfl)); intro gb404 hg w7 hbox hb; have n0_ := Aside0.mk (below_step (by repeat (first | (with_reducible first | exact HB.out | apply below_alloc | apply pw_below_drewN | apply below_drew1) | exact HB.out)) hb); have n1_ := Aside0.mk (hbox); have n2_ := Aside0.mk ((by rw [hg]; exact (below_size (by repeat (first | (with_reducible first | exact HB.out | apply below_alloc | apply pw_below_drewN | apply below_drew1) | exact HB.out))) : w.heap.size ≤ gb404)); have n3_ := Aside0.mk ((by rw [hg]; exact (below_size (by repeat (first | (with_reducible first | exact HB.out | apply below_alloc | apply pw_below_drewN | apply below_drew1) | exact HB.out))) : w.heap.size ≤ gb404)); clear HB; have HB := n0_; have BK404 := n1_; have GW404 := n2_; have GE404 := n3_; clear n0_ n1_ n2_ n3_; clear hb hbox hg; have hcz8_0 : w7.cell? ⟨gb404, 0, none⟩ = some (.int .i64 a0_0) := (blk_cell BK404.out 0).trans rfl; have hcz8_1 : w7.cell? ⟨gb404, 1, none⟩ = some (.slice A0_1 l0_1.length c0_1) := (blk_cell BK404.out 1).trans rfl; have hfz8_0 := blk_frozen BK404.out 0; have hfz8_1 := blk_frozen BK404.out 1) | (go_at_call 17; (with_reducible refine (cantinglaw07_net.calls k a0_0 _ _ l0_1 t405 t406 _ ?side1 ?side2 A4.out).mono ?_); (case side1 => repeat (first | exact (Kd.C_below HR0_1.out HB.out) | (with_reducible refine Kd.C_alloc ?_ _) | (with_reducible refine Kd.C_drewN ?_ _) | (with_reducible refine Kd.C_drew ?_))); (case side2 => exact HC0_1.out); rintro e w9 ⟨v407, rfl, ho0, hb⟩; have n0_ := Aside0.mk (Kd.R_lower ho0 (below_size (by repeat (first | (with_reducible first | exact HB.out | apply below_alloc | apply pw_below_drewN | apply below_drew1 | refine below_set ?_ GE404.out) | exact HB.out)))); have n1_ := Aside0.mk (blk_below (g := gb404) (o := .cells #[.int .i64 a0_0, .slice A0_1 l0_1.length c0_1] 24 (0, 0)) (by (with_reducible repeat (first | refine blk_drewN ?_ _ | refine blk_drew ?_ | refine blk_alloc ?_ _)); exact BK404.out) hb); have n2_ := Aside0.mk (below_step (by repeat (first | (with_reducible first | exact HB.out | apply below_alloc | apply pw_below_drewN | apply below_drew1 | refine below_set ?_ GE404.out) | exact HB.out)) hb); clear BK404; clear HB; have HO408 := n0_; have BK404 := n1_; have HB := n2_; clear n0_ n1_ n2_; (try clear hb); (try clear hb2); (try clear hk); (try clear hi); (try clear ho0); obtain ⟨Ao10, co10, eo10⟩ := Kd.R_slice HO408.out; subst eo10) | (go_at_call 29; (with_reducible refine (wax_Sides.calls k t405 _ _ t406 t409 t412 _ ?side1 ?side2 A5.out).mono ?_); (case side1 => repeat (first | exact (Kd.R_reads' HO408.out).2.2 | (with_reducible refine Kd.C_alloc ?_ _) | (with_reducible refine Kd.C_drewN ?_ _) | (with_reducible refine Kd.C_drew ?_))); (case side2 => exact (Kd.R_reads' HO408.out).2.1); rintro e w11 ⟨v410, rfl, ho0, hb⟩; have n0_ := Aside0.mk (Kd.R_below (by (with_reducible repeat (first | apply Kd.R_alloc | apply Kd.R_drewN | apply Kd.R_drew)); exact HO408.out) hb); have n1_ := Aside0.mk (Kd.S_lower ho0 (below_size (by repeat (first | (with_reducible first | exact HB.out | apply below_alloc | apply pw_below_drewN | apply below_drew1 | refine below_set ?_ GE404.out) | exact HB.out)))); have n2_ := Aside0.mk (blk_below (g := gb404) (o := .cells #[.int .i64 a0_0, .slice A0_1 l0_1.length c0_1] 24 (0, 0)) (by (with_reducible repeat (first | refine blk_drewN ?_ _ | refine blk_drew ?_ | refine blk_alloc ?_ _)); exact BK404.out) hb); have n3_ := Aside0.mk (below_step (by repeat (first | (with_reducible first | exact HB.out | apply below_alloc | apply pw_below_drewN | apply below_drew1 | refine below_set ?_ GE404.out) | exact HB.out)) hb); clear HO408; clear BK404; clear HB; have HO408 := n0_; have HO411 := n1_; have BK404 := n2_; have HB := n3_; clear n0_ n1_ n2_ n3_; (try clear hb); (try clear hb2); (try clear hk); (try clear hi); (try clear ho0)))
  repeat (go_quiet (first | ((with_reducible refine gate_dst (N := 3) rfl ?_); (try (refine gate_guard (by rfl) ?_; dsimp only)); refine box_event ?hg (N := 3) ?hd (cs := #[.int .i64 a0_0, .slice A0_1 l0_1.length c0_1]) (t := 24) ?hr ?_; (case hd => rfl); (case hg => rfl); (case hr => first | (go_simp; done) | (go_simp; rfl)); intro gb404 hg w7 hbox hb; have n0_ := Aside0.mk (below_step (by repeat (first | (with_reducible first | exact HB.out | apply below_alloc | apply pw_below_drewN | apply below_drew1) | exact HB.out)) hb); have n1_ := Aside0.mk (hbox); have n2_ := Aside0.mk ((by rw [hg]; exact (below_size (by repeat (first | (with_reducible first | exact HB.out | apply below_alloc | apply pw_below_drewN | apply below_drew1) | exact HB.out))) : w.heap.size ≤ gb404)); have n3_ := Aside0.mk ((by rw [hg]; exact (below_size (by repeat (first | (with_reducible first | exact HB.out | apply below_alloc | apply pw_below_drewN | apply below_drew1) | exact HB.out))) : w.heap.size ≤ gb404)); clear HB; have HB := n0_; have BK404 := n1_; have GW404 := n2_; have GE404 := n3_; clear n0_ n1_ n2_ n3_; clear hb hbox hg; have hcz8_0 : w7.cell? ⟨gb404, 0, none⟩ = some (.int .i64 a0_0) := (blk_cell BK404.out 0).trans rfl; have hcz8_1 : w7.cell? ⟨gb404, 1, none⟩ = some (.slice A0_1 l0_1.length c0_1) := (blk_cell BK404.out 1).trans rfl; have hfz8_0 := blk_frozen BK404.out 0; have hfz8_1 := blk_frozen BK404.out 1) | (go_at_call 17; (with_reducible refine (cantinglaw07_net.calls k a0_0 _ _ l0_1 t405 t406 _ ?side1 ?side2 A4.out).mono ?_); (case side1 => repeat (first | exact (Kd.C_below HR0_1.out HB.out) | (with_reducible refine Kd.C_alloc ?_ _) | (with_reducible refine Kd.C_drewN ?_ _) | (with_reducible refine Kd.C_drew ?_))); (case side2 => exact HC0_1.out); rintro e w9 ⟨v407, rfl, ho0, hb⟩; have n0_ := Aside0.mk (Kd.R_lower ho0 (below_size (by repeat (first | (with_reducible first | exact HB.out | apply below_alloc | apply pw_below_drewN | apply below_drew1 | refine below_set ?_ GE404.out) | exact HB.out)))); have n1_ := Aside0.mk (blk_below (g := gb404) (o := .cells #[.int .i64 a0_0, .slice A0_1 l0_1.length c0_1] 24 (0, 0)) (by (with_reducible repeat (first | refine blk_drewN ?_ _ | refine blk_drew ?_ | refine blk_alloc ?_ _)); exact BK404.out) hb); have n2_ := Aside0.mk (below_step (by repeat (first | (with_reducible first | exact HB.out | apply below_alloc | apply pw_below_drewN | apply below_drew1 | refine below_set ?_ GE404.out) | exact HB.out)) hb); clear BK404; clear HB; have HO408 := n0_; have BK404 := n1_; have HB := n2_; clear n0_ n1_ n2_; (try clear hb); (try clear hb2); (try clear hk); (try clear hi); (try clear ho0); obtain ⟨Ao10, co10, eo10⟩ := Kd.R_slice HO408.out; subst eo10) | (go_at_call 29; (with_reducible refine (wax_Sides.calls k t405 _ _ t406 t409 t412 _ ?side1 ?side2 A5.out).mono ?_); (case side1 => repeat (first | exact (Kd.R_reads' HO408.out).2.2 | (with_reducible refine Kd.C_alloc ?_ _) | (with_reducible refine Kd.C_drewN ?_ _) | (with_reducible refine Kd.C_drew ?_))); (case side2 => exact (Kd.R_reads' HO408.out).2.1); rintro e w11 ⟨v410, rfl, ho0, hb⟩; have n0_ := Aside0.mk (Kd.R_below (by (with_reducible repeat (first | apply Kd.R_alloc | apply Kd.R_drewN | apply Kd.R_drew)); exact HO408.out) hb); have n1_ := Aside0.mk (Kd.S_lower ho0 (below_size (by repeat (first | (with_reducible first | exact HB.out | apply below_alloc | apply pw_below_drewN | apply below_drew1 | refine below_set ?_ GE404.out) | exact HB.out)))); have n2_ := Aside0.mk (blk_below (g := gb404) (o := .cells #[.int .i64 a0_0, .slice A0_1 l0_1.length c0_1] 24 (0, 0)) (by (with_reducible repeat (first | refine blk_drewN ?_ _ | refine blk_drew ?_ | refine blk_alloc ?_ _)); exact BK404.out) hb); have n3_ := Aside0.mk (below_step (by repeat (first | (with_reducible first | exact HB.out | apply below_alloc | apply pw_below_drewN | apply below_drew1 | refine below_set ?_ GE404.out) | exact HB.out)) hb); clear HO408; clear BK404; clear HB; have HO408 := n0_; have HO411 := n1_; have BK404 := n2_; have HB := n3_; clear n0_ n1_ n2_ n3_; (try clear hb); (try clear hb2); (try clear hk); (try clear hi); (try clear ho0))); go_upto_region 2 with (first | ((with_reducible refine gate_dst (N := 3) rfl ?_); (try (refine gate_guard (by rfl) ?_; dsimp only)); refine box_event ?hg (N := 3) ?hd (cs := #[.int .i64 a0_0, .slice A0_1 l0_1.length c0_1]) (t := 24) ?hr ?_; (case hd => rfl); (case hg => rfl); (case hr => first | (go_simp; done) | (go_simp; rfl)); intro gb404 hg w7 hbox hb; have n0_ := Aside0.mk (below_step (by repeat (first | (with_reducible first | exact HB.out | apply below_alloc | apply pw_below_drewN | apply below_drew1) | exact HB.out)) hb); have n1_ := Aside0.mk (hbox); have n2_ := Aside0.mk ((by rw [hg]; exact (below_size (by repeat (first | (with_reducible first | exact HB.out | apply below_alloc | apply pw_below_drewN | apply below_drew1) | exact HB.out))) : w.heap.size ≤ gb404)); have n3_ := Aside0.mk ((by rw [hg]; exact (below_size (by repeat (first | (with_reducible first | exact HB.out | apply below_alloc | apply pw_below_drewN | apply below_drew1) | exact HB.out))) : w.heap.size ≤ gb404)); clear HB; have HB := n0_; have BK404 := n1_; have GW404 := n2_; have GE404 := n3_; clear n0_ n1_ n2_ n3_; clear hb hbox hg; have hcz8_0 : w7.cell? ⟨gb404, 0, none⟩ = some (.int .i64 a0_0) := (blk_cell BK404.out 0).trans rfl; have hcz8_1 : w7.cell? ⟨gb404, 1, none⟩ = some (.slice A0_1 l0_1.length c0_1) := (blk_cell BK404.out 1).trans rfl; have hfz8_0 := blk_frozen BK404.out 0; have hfz8_1 := blk_frozen BK404.out 1) | (go_at_call 17; (with_reducible refine (cantinglaw07_net.calls k a0_0 _ _ l0_1 t405 t406 _ ?side1 ?side2 A4.out).mono ?_); (case side1 => repeat (first | exact (Kd.C_below HR0_1.out HB.out) | (with_reducible refine Kd.C_alloc ?_ _) | (with_reducible refine Kd.C_drewN ?_ _) | (with_reducible refine Kd.C_drew ?_))); (case side2 => exact HC0_1.out); rintro e w9 ⟨v407, rfl, ho0, hb⟩; have n0_ := Aside0.mk (Kd.R_lower ho0 (below_size (by repeat (first | (with_reducible first | exact HB.out | apply below_alloc | apply pw_below_drewN | apply below_drew1 | refine below_set ?_ GE404.out) | exact HB.out)))); have n1_ := Aside0.mk (blk_below (g := gb404) (o := .cells #[.int .i64 a0_0, .slice A0_1 l0_1.length c0_1] 24 (0, 0)) (by (with_reducible repeat (first | refine blk_drewN ?_ _ | refine blk_drew ?_ | refine blk_alloc ?_ _)); exact BK404.out) hb); have n2_ := Aside0.mk (below_step (by repeat (first | (with_reducible first | exact HB.out | apply below_alloc | apply pw_below_drewN | apply below_drew1 | refine below_set ?_ GE404.out) | exact HB.out)) hb); clear BK404; clear HB; have HO408 := n0_; have BK404 := n1_; have HB := n2_; clear n0_ n1_ n2_; (try clear hb); (try clear hb2); (try clear hk); (try clear hi); (try clear ho0); obtain ⟨Ao10, co10, eo10⟩ := Kd.R_slice HO408.out; subst eo10) | (go_at_call 29; (with_reducible refine (wax_Sides.calls k t405 _ _ t406 t409 t412 _ ?side1 ?side2 A5.out).mono ?_); (case side1 => repeat (first | exact (Kd.R_reads' HO408.out).2.2 | (with_reducible refine Kd.C_alloc ?_ _) | (with_reducible refine Kd.C_drewN ?_ _) | (with_reducible refine Kd.C_drew ?_))); (case side2 => exact (Kd.R_reads' HO408.out).2.1); rintro e w11 ⟨v410, rfl, ho0, hb⟩; have n0_ := Aside0.mk (Kd.R_below (by (with_reducible repeat (first | apply Kd.R_alloc | apply Kd.R_drewN | apply Kd.R_drew)); exact HO408.out) hb); have n1_ := Aside0.mk (Kd.S_lower ho0 (below_size (by repeat (first | (with_reducible first | exact HB.out | apply below_alloc | apply pw_below_drewN | apply below_drew1 | refine below_set ?_ GE404.out) | exact HB.out)))); have n2_ := Aside0.mk (blk_below (g := gb404) (o := .cells #[.int .i64 a0_0, .slice A0_1 l0_1.length c0_1] 24 (0, 0)) (by (with_reducible repeat (first | refine blk_drewN ?_ _ | refine blk_drew ?_ | refine blk_alloc ?_ _)); exact BK404.out) hb); have n3_ := Aside0.mk (below_step (by repeat (first | (with_reducible first | exact HB.out | apply below_alloc | apply pw_below_drewN | apply below_drew1 | refine below_set ?_ GE404.out) | exact HB.out)) hb); clear HO408; clear BK404; clear HB; have HO408 := n0_; have HO411 := n1_; have BK404 := n2_; have HB := n3_; clear n0_ n1_ n2_ n3_; (try clear hb); (try clear hb2); (try clear hk); (try clear hi); (try clear ho0))))
  (try simp only [Act.put, List.setIfInBounds_toArray, List.set_cons_zero, List.set_cons_succ])
  go_cut [31] (fun v31 wc => ∃ (kq : Nat) (x31_5 : Bool), v31 = .bool x31_5 ∧ Aside0 (cantinglaw07_WaxLattice.j0 kq a1 a2 t409 t412 x31_5 = some r) ∧ Aside0 (kq ≤ k) ∧ Aside0 (Kd.S (Kd.slice 4 Kd.bool) 45 wc w.heap.size (fun _ => True) v410 t409) ∧ Aside0 (wc.heap[gb404]? = some (.cells #[.int .i64 a0_0, (.slice A0_1 l0_1.length c0_1)] 24 (0, 0))) ∧ Aside0 (Below w.heap.size w wc))
  case first =>
    have H := HC6.out
    clear HC6
    by_cases c12 : t412 = 0
    · rw [if_pos c12] at H
      have c12b0 : (t412 == 0) = true := beq_iff_eq.mpr c12
      have c12b1 : (t412 != 0) = false := bne_eq_false_iff_eq.mpr c12
      clear c12
      (first | rw [c12b0] | (simp only [i64_w, i32_w]; rw [c12b0]) | skip)
      have H' := Aside0.mk H
      clear H
      obtain ⟨Ao13, co13, eo13⟩ := Kd.S_slice HO411.out
      subst eo13
      go_wp2
      repeat (go_quiet (fail); try go_wp2)
      go_meet
      case rel => exact ⟨_, (((t409.length : Int) == 0)), (by first | rfl | (simp; done) | (simp [*]; done)), H', ⟨by first | omega | exact Nat.le_refl _⟩, ⟨by (with_reducible repeat (first | apply Kd.S_alloc | apply Kd.S_drewN | apply Kd.S_drew)); exact HO411.out⟩, ⟨by (with_reducible repeat (first | refine blk_drewN ?_ _ | refine blk_drew ?_ | refine blk_alloc ?_ _)); exact BK404.out⟩, ⟨by repeat (first | (with_reducible first | exact HB.out | apply below_alloc | apply pw_below_drewN | apply below_drew1 | refine below_set ?_ GE404.out) | exact HB.out)⟩⟩
    · rw [if_neg c12] at H
      have c12b0 : (t412 == 0) = false := beq_eq_false_iff_ne.mpr c12
      have c12b1 : (t412 != 0) = true := bne_iff_ne.mpr c12
      (first | rw [c12b0] | (simp only [i64_w, i32_w]; rw [c12b0]) | skip)
      have H' := Aside0.mk H
      clear H
      go_wp2
      repeat (go_quiet (fail); try go_wp2)
      go_meet
      case rel => exact ⟨_, (true), (by first | rfl | (simp; done) | (simp [*]; done)), H', ⟨by first | omega | exact Nat.le_refl _⟩, ⟨by (with_reducible repeat (first | apply Kd.S_alloc | apply Kd.S_drewN | apply Kd.S_drew)); exact HO411.out⟩, ⟨by (with_reducible repeat (first | refine blk_drewN ?_ _ | refine blk_drew ?_ | refine blk_alloc ?_ _)); exact BK404.out⟩, ⟨by repeat (first | (with_reducible first | exact HB.out | apply below_alloc | apply pw_below_drewN | apply below_drew1 | refine below_set ?_ GE404.out) | exact HB.out)⟩⟩
  case rest =>
    clear HC6
    try clear c1
    try clear p2
    try clear c8
    try clear c12
    try clear c12b0
    try clear c12b1
    try clear hcz8_0
    try clear hcz8_1
    try clear hfz8_0
    try clear hfz8_1
    obtain ⟨kq, x31_5, rfl, HA, HJ5, HO_7, BK404, HB⟩ := hcut
    cases kq with
    | zero => exact absurd HA.out (by simp [cantinglaw07_WaxLattice.j0])
    | succ kj5 =>
      have H := HA.out
      clear HA
      simp only [cantinglaw07_WaxLattice.j0] at H
      by_cases c14 : x31_5 = true
      · subst c14
        have H1 : (if t412 = 2 then ((cantinglaw07_awake.f).bind fun t413 => (some t413)) else (if t412 = 3 then ((cantinglaw07_awake.f).bind fun t414 => (some t414)) else (some false))) = some r := by rw [if_pos rfl] at H; exact H
        clear H
        have H := H1
        clear H1
        by_cases c15 : t412 = 2
        · rw [if_pos c15] at H
          have c15b0 : (t412 == 2) = true := beq_iff_eq.mpr c15
          have c15b1 : (t412 != 2) = false := bne_eq_false_iff_eq.mpr c15
          clear c15
          replace H := Option.bind_eq_some_iff.mp H
          obtain ⟨t413, A160, H⟩ := H
          replace H : (some t413) = some r := H
          have A16 := Aside0.mk A160
          clear A160
          obtain rfl := Option.some.inj H
          go_wp2_with (first | (go_at_call 18; (with_reducible refine (cantinglaw07_awake.calls  t413 _ A16.out).mono ?_); rintro e w17 ⟨rfl, hb⟩; have n0_ := Aside0.mk (Kd.S_below (by (with_reducible repeat (first | apply Kd.S_alloc | apply Kd.S_drewN | apply Kd.S_drew)); exact HO_7.out) hb); have n1_ := Aside0.mk (blk_below (g := gb404) (o := .cells #[.int .i64 a0_0, .slice A0_1 l0_1.length c0_1] 24 (0, 0)) (by (with_reducible repeat (first | refine blk_drewN ?_ _ | refine blk_drew ?_ | refine blk_alloc ?_ _)); exact BK404.out) hb); have n2_ := Aside0.mk (below_step (by repeat (first | (with_reducible first | exact HB.out | apply below_alloc | apply pw_below_drewN | apply below_drew1 | refine below_set ?_ GE404.out) | exact HB.out)) hb); clear HO_7; clear BK404; clear HB; have HO_7 := n0_; have BK404 := n1_; have HB := n2_; clear n0_ n1_ n2_; (try clear hb); (try clear hb2); (try clear hk); (try clear hi)))
          repeat (go_quiet (first | (go_at_call 18; (with_reducible refine (cantinglaw07_awake.calls  t413 _ A16.out).mono ?_); rintro e w17 ⟨rfl, hb⟩; have n0_ := Aside0.mk (Kd.S_below (by (with_reducible repeat (first | apply Kd.S_alloc | apply Kd.S_drewN | apply Kd.S_drew)); exact HO_7.out) hb); have n1_ := Aside0.mk (blk_below (g := gb404) (o := .cells #[.int .i64 a0_0, .slice A0_1 l0_1.length c0_1] 24 (0, 0)) (by (with_reducible repeat (first | refine blk_drewN ?_ _ | refine blk_drew ?_ | refine blk_alloc ?_ _)); exact BK404.out) hb); have n2_ := Aside0.mk (below_step (by repeat (first | (with_reducible first | exact HB.out | apply below_alloc | apply pw_below_drewN | apply below_drew1 | refine below_set ?_ GE404.out) | exact HB.out)) hb); clear HO_7; clear BK404; clear HB; have HO_7 := n0_; have BK404 := n1_; have HB := n2_; clear n0_ n1_ n2_; (try clear hb); (try clear hb2); (try clear hk); (try clear hi))); try go_wp2_with (first | (go_at_call 18; (with_reducible refine (cantinglaw07_awake.calls  t413 _ A16.out).mono ?_); rintro e w17 ⟨rfl, hb⟩; have n0_ := Aside0.mk (Kd.S_below (by (with_reducible repeat (first | apply Kd.S_alloc | apply Kd.S_drewN | apply Kd.S_drew)); exact HO_7.out) hb); have n1_ := Aside0.mk (blk_below (g := gb404) (o := .cells #[.int .i64 a0_0, .slice A0_1 l0_1.length c0_1] 24 (0, 0)) (by (with_reducible repeat (first | refine blk_drewN ?_ _ | refine blk_drew ?_ | refine blk_alloc ?_ _)); exact BK404.out) hb); have n2_ := Aside0.mk (below_step (by repeat (first | (with_reducible first | exact HB.out | apply below_alloc | apply pw_below_drewN | apply below_drew1 | refine below_set ?_ GE404.out) | exact HB.out)) hb); clear HO_7; clear BK404; clear HB; have HO_7 := n0_; have BK404 := n1_; have HB := n2_; clear n0_ n1_ n2_; (try clear hb); (try clear hb2); (try clear hk); (try clear hi))))
          go_ret
          exact ⟨by first | rfl | (simp [errW_none, errW_some] <;> rfl) | (simp [*, errW_none, errW_some] <;> rfl), by repeat (first | (with_reducible first | exact HB.out | apply below_alloc | apply pw_below_drewN | apply below_drew1 | refine below_set ?_ GE404.out) | exact HB.out)⟩
        · rw [if_neg c15] at H
          have c15b0 : (t412 == 2) = false := beq_eq_false_iff_ne.mpr c15
          have c15b1 : (t412 != 2) = true := bne_iff_ne.mpr c15
          by_cases c18 : t412 = 3
          · rw [if_pos c18] at H
            have c18b0 : (t412 == 3) = true := beq_iff_eq.mpr c18
            have c18b1 : (t412 != 3) = false := bne_eq_false_iff_eq.mpr c18
            clear c18
            replace H := Option.bind_eq_some_iff.mp H
            obtain ⟨t414, A190, H⟩ := H
            replace H : (some t414) = some r := H
            have A19 := Aside0.mk A190
            clear A190
            obtain rfl := Option.some.inj H
            go_wp2_with (first | (go_at_call 18; (with_reducible refine (cantinglaw07_awake.calls  t414 _ A19.out).mono ?_); rintro e w20 ⟨rfl, hb⟩; have n0_ := Aside0.mk (Kd.S_below (by (with_reducible repeat (first | apply Kd.S_alloc | apply Kd.S_drewN | apply Kd.S_drew)); exact HO_7.out) hb); have n1_ := Aside0.mk (blk_below (g := gb404) (o := .cells #[.int .i64 a0_0, .slice A0_1 l0_1.length c0_1] 24 (0, 0)) (by (with_reducible repeat (first | refine blk_drewN ?_ _ | refine blk_drew ?_ | refine blk_alloc ?_ _)); exact BK404.out) hb); have n2_ := Aside0.mk (below_step (by repeat (first | (with_reducible first | exact HB.out | apply below_alloc | apply pw_below_drewN | apply below_drew1 | refine below_set ?_ GE404.out) | exact HB.out)) hb); clear HO_7; clear BK404; clear HB; have HO_7 := n0_; have BK404 := n1_; have HB := n2_; clear n0_ n1_ n2_; (try clear hb); (try clear hb2); (try clear hk); (try clear hi)))
            repeat (go_quiet (first | (go_at_call 18; (with_reducible refine (cantinglaw07_awake.calls  t414 _ A19.out).mono ?_); rintro e w20 ⟨rfl, hb⟩; have n0_ := Aside0.mk (Kd.S_below (by (with_reducible repeat (first | apply Kd.S_alloc | apply Kd.S_drewN | apply Kd.S_drew)); exact HO_7.out) hb); have n1_ := Aside0.mk (blk_below (g := gb404) (o := .cells #[.int .i64 a0_0, .slice A0_1 l0_1.length c0_1] 24 (0, 0)) (by (with_reducible repeat (first | refine blk_drewN ?_ _ | refine blk_drew ?_ | refine blk_alloc ?_ _)); exact BK404.out) hb); have n2_ := Aside0.mk (below_step (by repeat (first | (with_reducible first | exact HB.out | apply below_alloc | apply pw_below_drewN | apply below_drew1 | refine below_set ?_ GE404.out) | exact HB.out)) hb); clear HO_7; clear BK404; clear HB; have HO_7 := n0_; have BK404 := n1_; have HB := n2_; clear n0_ n1_ n2_; (try clear hb); (try clear hb2); (try clear hk); (try clear hi))); try go_wp2_with (first | (go_at_call 18; (with_reducible refine (cantinglaw07_awake.calls  t414 _ A19.out).mono ?_); rintro e w20 ⟨rfl, hb⟩; have n0_ := Aside0.mk (Kd.S_below (by (with_reducible repeat (first | apply Kd.S_alloc | apply Kd.S_drewN | apply Kd.S_drew)); exact HO_7.out) hb); have n1_ := Aside0.mk (blk_below (g := gb404) (o := .cells #[.int .i64 a0_0, .slice A0_1 l0_1.length c0_1] 24 (0, 0)) (by (with_reducible repeat (first | refine blk_drewN ?_ _ | refine blk_drew ?_ | refine blk_alloc ?_ _)); exact BK404.out) hb); have n2_ := Aside0.mk (below_step (by repeat (first | (with_reducible first | exact HB.out | apply below_alloc | apply pw_below_drewN | apply below_drew1 | refine below_set ?_ GE404.out) | exact HB.out)) hb); clear HO_7; clear BK404; clear HB; have HO_7 := n0_; have BK404 := n1_; have HB := n2_; clear n0_ n1_ n2_; (try clear hb); (try clear hb2); (try clear hk); (try clear hi))))
            go_ret
            exact ⟨by first | rfl | (simp [errW_none, errW_some] <;> rfl) | (simp [*, errW_none, errW_some] <;> rfl), by repeat (first | (with_reducible first | exact HB.out | apply below_alloc | apply pw_below_drewN | apply below_drew1 | refine below_set ?_ GE404.out) | exact HB.out)⟩
          · rw [if_neg c18] at H
            have c18b0 : (t412 == 3) = false := beq_eq_false_iff_ne.mpr c18
            have c18b1 : (t412 != 3) = true := bne_iff_ne.mpr c18
            obtain rfl := Option.some.inj H
            go_wp2
            repeat (go_quiet (fail); try go_wp2)
            go_ret
            exact ⟨by first | rfl | (simp [errW_none, errW_some] <;> rfl) | (simp [*, errW_none, errW_some] <;> rfl), by repeat (first | (with_reducible first | exact HB.out | apply below_alloc | apply pw_below_drewN | apply below_drew1 | refine below_set ?_ GE404.out) | exact HB.out)⟩
      · replace c14 := Bool.eq_false_iff.mpr c14
        subst c14
        have H1 : (if (IntKind.u64.wrap ((t409.length : Int))) = 0 then (none) else (if 0 ≤ (wrap64 (Int.tmod (IntKind.u64.wrap (a1)) (IntKind.u64.wrap ((t409.length : Int))))) then (if (wrap64 (Int.tmod (IntKind.u64.wrap (a1)) (IntKind.u64.wrap ((t409.length : Int))))) < (t409.length : Int) then (if 0 ≤ (wrap64 (Int.tmod (IntKind.u64.wrap (a2)) (IntKind.u64.wrap ((t409.length : Int))))) then (if (wrap64 (Int.tmod (IntKind.u64.wrap (a2)) (IntKind.u64.wrap ((t409.length : Int))))) < (t409.length : Int) then (if ((rd_L7 t409 (wrap64 (Int.tmod (IntKind.u64.wrap (a1)) (IntKind.u64.wrap ((t409.length : Int)))))).length : Int) = ((rd_L7 t409 (wrap64 (Int.tmod (IntKind.u64.wrap (a2)) (IntKind.u64.wrap ((t409.length : Int)))))).length : Int) then (cantinglaw07_WaxLattice.l0 kj5 t409 (rd_L7 t409 (wrap64 (Int.tmod (IntKind.u64.wrap (a2)) (IntKind.u64.wrap ((t409.length : Int)))))) ([] : List Bool) ([] : List Bool) (rd_L7 t409 (wrap64 (Int.tmod (IntKind.u64.wrap (a1)) (IntKind.u64.wrap ((t409.length : Int)))))) ((rd_L7 t409 (wrap64 (Int.tmod (IntKind.u64.wrap (a1)) (IntKind.u64.wrap ((t409.length : Int)))))).length : Int) 0) else (some false)) else (none)) else (none)) else (none)) else (none))) = some r := by rw [if_neg (show ¬ (false = true) by decide)] at H; exact H
        clear H
        have H := H1
        clear H1
        by_cases c21 : (IntKind.u64.wrap ((t409.length : Int))) = 0
        · rw [if_pos c21] at H
          exact absurd H (by simp)
        · rw [if_neg c21] at H
          have c21b0 : ((IntKind.u64.wrap ((t409.length : Int))) == 0) = false := beq_eq_false_iff_ne.mpr c21
          have c21b1 : ((IntKind.u64.wrap ((t409.length : Int))) != 0) = true := bne_iff_ne.mpr c21
          obtain ⟨ji22, hji22⟩ : ∃ j_ : Int, (wrap64 (Int.tmod (IntKind.u64.wrap (a1)) (IntKind.u64.wrap ((t409.length : Int))))) = j_ := ⟨_, rfl⟩
          replace H : (if 0 ≤ (ji22) then (if (ji22) < (t409.length : Int) then (if 0 ≤ (wrap64 (Int.tmod (IntKind.u64.wrap (a2)) (IntKind.u64.wrap ((t409.length : Int))))) then (if (wrap64 (Int.tmod (IntKind.u64.wrap (a2)) (IntKind.u64.wrap ((t409.length : Int))))) < (t409.length : Int) then (if ((rd_L7 t409 (ji22)).length : Int) = ((rd_L7 t409 (wrap64 (Int.tmod (IntKind.u64.wrap (a2)) (IntKind.u64.wrap ((t409.length : Int)))))).length : Int) then (cantinglaw07_WaxLattice.l0 kj5 t409 (rd_L7 t409 (wrap64 (Int.tmod (IntKind.u64.wrap (a2)) (IntKind.u64.wrap ((t409.length : Int)))))) ([] : List Bool) ([] : List Bool) (rd_L7 t409 (ji22)) ((rd_L7 t409 (ji22)).length : Int) 0) else (some false)) else (none)) else (none)) else (none)) else (none)) = some r := by first | (rw [hji22] at H; exact H) | (simp only [hji22] at H ⊢; exact H)
          have hji22w : (IntKind.i64.wrap (Int.tmod (IntKind.u64.wrap (a1)) (IntKind.u64.wrap ((t409.length : Int))))) = ji22 := (i64_w _).trans hji22
          by_cases c23 : 0 ≤ (ji22)
          · rw [if_pos c23] at H
            have c23b0 : decide (0 ≤ (ji22)) = true := decide_eq_true c23
            (try (have c23b0_0 := c23b0; rw [hl415_0] at c23b0_0))
            (try (have c23b0_1 := c23b0; rw [hl416_0] at c23b0_1))
            (try (have c23b0_2 := c23b0; rw [hl432_0] at c23b0_2))
            clear c23
            by_cases c24 : (ji22) < (t409.length : Int)
            · rw [if_pos c24] at H
              have c24b0 : decide ((ji22) < (t409.length : Int)) = true := decide_eq_true c24
              (try (have c24b0_0 := c24b0; rw [hl415_0] at c24b0_0))
              (try (have c24b0_1 := c24b0; rw [hl416_0] at c24b0_1))
              (try (have c24b0_2 := c24b0; rw [hl432_0] at c24b0_2))
              clear c24
              obtain ⟨ji25, hji25⟩ : ∃ j_ : Int, (wrap64 (Int.tmod (IntKind.u64.wrap (a2)) (IntKind.u64.wrap ((t409.length : Int))))) = j_ := ⟨_, rfl⟩
              replace H : (if 0 ≤ (ji25) then (if (ji25) < (t409.length : Int) then (if ((rd_L7 t409 (ji22)).length : Int) = ((rd_L7 t409 (ji25)).length : Int) then (cantinglaw07_WaxLattice.l0 kj5 t409 (rd_L7 t409 (ji25)) ([] : List Bool) ([] : List Bool) (rd_L7 t409 (ji22)) ((rd_L7 t409 (ji22)).length : Int) 0) else (some false)) else (none)) else (none)) = some r := by first | (rw [hji25] at H; exact H) | (simp only [hji25] at H ⊢; exact H)
              have hji25w : (IntKind.i64.wrap (Int.tmod (IntKind.u64.wrap (a2)) (IntKind.u64.wrap ((t409.length : Int))))) = ji25 := (i64_w _).trans hji25
              by_cases c26 : 0 ≤ (ji25)
              · rw [if_pos c26] at H
                have c26b0 : decide (0 ≤ (ji25)) = true := decide_eq_true c26
                (try (have c26b0_0 := c26b0; rw [hl415_0] at c26b0_0))
                (try (have c26b0_1 := c26b0; rw [hl416_0] at c26b0_1))
                (try (have c26b0_2 := c26b0; rw [hl432_0] at c26b0_2))
                clear c26
                by_cases c27 : (ji25) < (t409.length : Int)
                · rw [if_pos c27] at H
                  have c27b0 : decide ((ji25) < (t409.length : Int)) = true := decide_eq_true c27
                  (try (have c27b0_0 := c27b0; rw [hl415_0] at c27b0_0))
                  (try (have c27b0_1 := c27b0; rw [hl416_0] at c27b0_1))
                  (try (have c27b0_2 := c27b0; rw [hl432_0] at c27b0_2))
                  clear c27
                  by_cases c28 : ((rd_L7 t409 (ji22)).length : Int) = ((rd_L7 t409 (ji25)).length : Int)
                  · rw [if_pos c28] at H
                    have c28b0 : (((rd_L7 t409 (ji22)).length : Int) == ((rd_L7 t409 (ji25)).length : Int)) = true := beq_iff_eq.mpr c28
                    have c28b1 : (((rd_L7 t409 (ji22)).length : Int) != ((rd_L7 t409 (ji25)).length : Int)) = false := bne_eq_false_iff_eq.mpr c28
                    have c28b2 : ((rd_L7 t409 (ji22)).length == (rd_L7 t409 (ji25)).length) = true := by first | simpa using c28 | (simp at c28 ⊢; omega)
                    clear c28
                    have H' := Aside0.mk H
                    clear H
                    obtain ⟨Ao29, co29, eo29⟩ := Kd.S_slice HO_7.out
                    subst eo29
                    have p415 : 0 ≤ ((ji22) : Int) := of_decide_eq_true (by first | (with_reducible assumption) | assumption)
                    have q415 : (ji22) < (t409.length : Int) := of_decide_eq_true (by first | (with_reducible assumption) | assumption)
                    obtain ⟨ad415, A415_0, c415_0, e415, hx415_0, hl415_0, hi415_0⟩ := at_L7 (Kd.S_reads' HO_7.out).2.2 (ji22) p415 q415
                    cases e415
                    obtain ⟨ce415, hce415, hMe415, hcc415⟩ := Kd.S_get HO_7.out [] (ji22) p415 (by first | exact q415 | exact of_decide_eq_true (by first | (with_reducible assumption) | assumption) | (have e_ := (Kd.S_reads' HO_7.out).1; omega))
                    obtain ⟨ve415_0, rfl, ge415_0⟩ := hMe415
                    have hv415_0 := hcc415 0 _ rfl
                    rw [Nat.add_zero, show ((Kd.slice 4 Kd.bool)).sz = 1 from rfl, Nat.mul_one] at hv415_0
                    replace hv415_0 := Option.some.inj (hv415_0.symm.trans hx415_0)
                    rw [hv415_0] at ge415_0
                    have HL415_0 := Aside0.mk (show Kd.R Kd.bool 4 _ _ _ _ (rd_L7 t409 (ji22)) from ge415_0)
                    clear hv415_0 ge415_0
                    clear hcc415 hce415
                    have HR415_0 := Aside0.mk hi415_0
                    have HC415_0 := Aside0.mk hl415_0
                    clear hi415_0 hl415_0
                    replace p415 := eq_true p415
                    replace q415 := eq_true q415
                    have p416 : 0 ≤ ((ji25) : Int) := of_decide_eq_true (by first | (with_reducible assumption) | assumption)
                    have q416 : (ji25) < (t409.length : Int) := of_decide_eq_true (by first | (with_reducible assumption) | assumption)
                    obtain ⟨ad416, A416_0, c416_0, e416, hx416_0, hl416_0, hi416_0⟩ := at_L7 (Kd.S_reads' HO_7.out).2.2 (ji25) p416 q416
                    obtain rfl : ad415 = ad416 := (by injection e416)
                    obtain ⟨ce416, hce416, hMe416, hcc416⟩ := Kd.S_get HO_7.out [] (ji25) p416 (by first | exact q416 | exact of_decide_eq_true (by first | (with_reducible assumption) | assumption) | (have e_ := (Kd.S_reads' HO_7.out).1; omega))
                    obtain ⟨ve416_0, rfl, ge416_0⟩ := hMe416
                    have hv416_0 := hcc416 0 _ rfl
                    rw [Nat.add_zero, show ((Kd.slice 4 Kd.bool)).sz = 1 from rfl, Nat.mul_one] at hv416_0
                    replace hv416_0 := Option.some.inj (hv416_0.symm.trans hx416_0)
                    rw [hv416_0] at ge416_0
                    have HL416_0 := Aside0.mk (show Kd.R Kd.bool 4 _ _ _ _ (rd_L7 t409 (ji25)) from ge416_0)
                    clear hv416_0 ge416_0
                    clear hcc416 hce416
                    have HR416_0 := Aside0.mk hi416_0
                    have HC416_0 := Aside0.mk hl416_0
                    clear hi416_0 hl416_0
                    replace p416 := eq_true p416
                    replace q416 := eq_true q416
                    go_wp2
                    repeat (go_quiet (fail); try go_wp2)
                    have HBo := HB
                    go_loopg [11, 12, 68] kj5 (fun kq v11 v12 v68 w' => ∃ (x11_2 : List Bool) (x12_2 : List Bool) (x68_2 : Int), v68 = .int .i64 x68_2 ∧ Aside0 (cantinglaw07_WaxLattice.l0 kq t409 (rd_L7 t409 (ji25)) x11_2 x12_2 (rd_L7 t409 (ji22)) ((rd_L7 t409 (ji22)).length : Int) x68_2 = some r) ∧ Aside0 (kq ≤ kj5) ∧ Aside0 (Kd.S (Kd.slice 4 Kd.bool) 45 w' w.heap.size (fun k_ => some k_ ≠ (v11 : Value).ownBlock ∧ some k_ ≠ (v12 : Value).ownBlock) (.slice (some ad415) t409.length co29) t409) ∧ Aside0 (Kd.R Kd.bool 4 w' wc.heap.size (fun k_ => some k_ ≠ (v12 : Value).ownBlock) v11 x11_2) ∧ Aside0 (Kd.R Kd.bool 4 w' wc.heap.size (fun k_ => some k_ ≠ (v11 : Value).ownBlock) v12 x12_2) ∧ Aside0 (w'.heap[gb404]? = some (.cells #[.int .i64 a0_0, (.slice A0_1 l0_1.length c0_1)] 24 (0, 0))) ∧ Aside0 (Below wc.heap.size wc w'))
                    case atStart => exact ⟨(([] : List Bool)), (([] : List Bool)), (0), (by first | rfl | (simp; done) | (simp [*]; done)), H', ⟨Nat.le_refl _⟩, ⟨by (with_reducible repeat (first | apply Kd.S_alloc | apply Kd.S_drewN | apply Kd.S_drew)); exact Kd.S_mono HO_7.out (fun _ hk => ⟨(by simp [Value.ownBlock]), (by simp [Value.ownBlock])⟩)⟩, ⟨by first | exact Kd.R_nil _ _ _ _ _ | exact Kd.N_nil _ _ _ _ _ | exact Kd.V_nil _ _ _ _ _ | exact Kd.Q_nil _ _ _ _ _ | exact Kd.S_nil _ _ _ _ _⟩, ⟨by first | exact Kd.R_nil _ _ _ _ _ | exact Kd.N_nil _ _ _ _ _ | exact Kd.V_nil _ _ _ _ _ | exact Kd.Q_nil _ _ _ _ _ | exact Kd.S_nil _ _ _ _ _⟩, ⟨by (with_reducible repeat (first | refine blk_drewN ?_ _ | refine blk_drew ?_ | refine blk_alloc ?_ _)); exact BK404.out⟩, ⟨by first | exact Below.refl _ _ | exact pw_below_drewN (Below.refl _ _) _ | exact below_drew (Below.refl _ _)⟩⟩
                    case round =>
                      clear H'
                      try clear c1
                      try clear c2
                      try clear p2
                      try clear c4
                      try clear p4
                      try clear q4
                      try clear hx4
                      try clear p6
                      try clear c8
                      try clear c12
                      try clear c12b0
                      try clear c12b1
                      try clear c14
                      try clear c15
                      try clear c15b0
                      try clear c15b1
                      try clear c18
                      try clear c18b0
                      try clear c18b1
                      try clear c21
                      try clear c21b0
                      try clear c21b1
                      try clear c23
                      try clear c23b0
                      try clear c24
                      try clear c24b0
                      try clear c26
                      try clear c26b0
                      try clear c27
                      try clear c27b0
                      try clear c28
                      try clear c28b0
                      try clear c28b1
                      try clear c28b2
                      try clear hcz8_0
                      try clear hcz8_1
                      try clear hfz8_0
                      try clear hfz8_1
                      try clear hx415_0
                      try clear hx416_0
                      try clear p2
                      try clear p415
                      try clear p416
                      try clear q415
                      try clear q416
                      obtain ⟨x11_2, x12_2, x68_2, rfl, HA, HK2, HO_7, HO_11, HO_12, BK404, HB⟩ := hrel
                      cases gk with
                      | zero => exact absurd HA.out (by simp [cantinglaw07_WaxLattice.l0])
                      | succ k2 =>
                        have H := HA.out
                        clear HA
                        simp only [cantinglaw07_WaxLattice.l0] at H
                        by_cases c30 : x68_2 < ((rd_L7 t409 (ji22)).length : Int)
                        · rw [if_pos c30] at H
                          have c30b0 : decide (x68_2 < ((rd_L7 t409 (ji22)).length : Int)) = true := decide_eq_true c30
                          (try (have c30b0_0 := c30b0; rw [hl415_0] at c30b0_0))
                          (try (have c30b0_1 := c30b0; rw [hl416_0] at c30b0_1))
                          (try (have c30b0_2 := c30b0; rw [hl432_0] at c30b0_2))
                          clear c30
                          by_cases c31 : 0 ≤ x68_2
                          · rw [if_pos c31] at H
                            have c31b0 : decide (0 ≤ x68_2) = true := decide_eq_true c31
                            (try (have c31b0_0 := c31b0; rw [hl415_0] at c31b0_0))
                            (try (have c31b0_1 := c31b0; rw [hl416_0] at c31b0_1))
                            (try (have c31b0_2 := c31b0; rw [hl432_0] at c31b0_2))
                            clear c31
                            by_cases c32 : x68_2 < ((rd_L7 t409 (ji22)).length : Int)
                            · rw [if_pos c32] at H
                              have c32b0 : decide (x68_2 < ((rd_L7 t409 (ji22)).length : Int)) = true := decide_eq_true c32
                              (try (have c32b0_0 := c32b0; rw [hl415_0] at c32b0_0))
                              (try (have c32b0_1 := c32b0; rw [hl416_0] at c32b0_1))
                              (try (have c32b0_2 := c32b0; rw [hl432_0] at c32b0_2))
                              clear c32
                              obtain ⟨bq33, hbq33⟩ : ∃ b_ : Bool, b_ = (rdOf false (rd_L7 t409 (ji22)) x68_2) := ⟨_, rfl⟩
                              replace H : (if bq33 = true then (if x68_2 < ((rd_L7 t409 (ji25)).length : Int) then (if x11_2.length < 140737488355328 then (if x12_2.length < 140737488355328 then (cantinglaw07_WaxLattice.l0 k2 t409 (rd_L7 t409 (ji25)) (x11_2 ++ [rdOf false (rd_L7 t409 (ji25)) x68_2]) (x12_2 ++ [true]) (rd_L7 t409 (ji22)) ((rd_L7 t409 (ji22)).length : Int) (wrap64 (x68_2 + 1))) else (none)) else (none)) else (none)) else (if x11_2.length < 140737488355328 then (if x68_2 < ((rd_L7 t409 (ji25)).length : Int) then (if x12_2.length < 140737488355328 then (cantinglaw07_WaxLattice.l0 k2 t409 (rd_L7 t409 (ji25)) (x11_2 ++ [false]) (x12_2 ++ [rdOf false (rd_L7 t409 (ji25)) x68_2]) (rd_L7 t409 (ji22)) ((rd_L7 t409 (ji22)).length : Int) (wrap64 (x68_2 + 1))) else (none)) else (none)) else (none))) = some r := by rw [← hbq33] at H; exact H
                              have Nbq33 := Aside0.mk hbq33
                              clear hbq33
                              by_cases c34 : bq33 = true
                              · subst c34
                                have H1 : (if x68_2 < ((rd_L7 t409 (ji25)).length : Int) then (if x11_2.length < 140737488355328 then (if x12_2.length < 140737488355328 then (cantinglaw07_WaxLattice.l0 k2 t409 (rd_L7 t409 (ji25)) (x11_2 ++ [rdOf false (rd_L7 t409 (ji25)) x68_2]) (x12_2 ++ [true]) (rd_L7 t409 (ji22)) ((rd_L7 t409 (ji22)).length : Int) (wrap64 (x68_2 + 1))) else (none)) else (none)) else (none)) = some r := by rw [if_pos rfl] at H; exact H
                                clear H
                                have H := H1
                                clear H1
                                by_cases c35 : x68_2 < ((rd_L7 t409 (ji25)).length : Int)
                                · rw [if_pos c35] at H
                                  have c35b0 : decide (x68_2 < ((rd_L7 t409 (ji25)).length : Int)) = true := decide_eq_true c35
                                  (try (have c35b0_0 := c35b0; rw [hl415_0] at c35b0_0))
                                  (try (have c35b0_1 := c35b0; rw [hl416_0] at c35b0_1))
                                  (try (have c35b0_2 := c35b0; rw [hl432_0] at c35b0_2))
                                  clear c35
                                  by_cases c36 : x11_2.length < 140737488355328
                                  · rw [if_pos c36] at H
                                    have LMc36 := Aside0.mk c36
                                    clear c36
                                    obtain ⟨y419, hy419⟩ : ∃ y_ : List Bool, y_ = (x11_2 ++ [rdOf false (rd_L7 t409 (ji25)) x68_2]) := ⟨_, rfl⟩
                                    replace H : (if x12_2.length < 140737488355328 then (cantinglaw07_WaxLattice.l0 k2 t409 (rd_L7 t409 (ji25)) y419 (x12_2 ++ [true]) (rd_L7 t409 (ji22)) ((rd_L7 t409 (ji22)).length : Int) (wrap64 (x68_2 + 1))) else (none)) = some r := by first | (rw [hy419]; with_reducible exact H) | (have H2_ := (Option.bind_some _ _).symm.trans H; rw [hy419]; with_reducible exact H2_) | (have H2_ := (Option.bind_some _ _).symm.trans H; with_reducible exact H2_) | with_reducible exact H | (rw [hy419]; exact H) | exact H
                                    have Ny419 := Aside0.mk hy419
                                    clear hy419
                                    by_cases c37 : x12_2.length < 140737488355328
                                    · rw [if_pos c37] at H
                                      have LMc37 := Aside0.mk c37
                                      clear c37
                                      obtain ⟨y422, hy422⟩ : ∃ y_ : List Bool, y_ = (x12_2 ++ [true]) := ⟨_, rfl⟩
                                      replace H : (cantinglaw07_WaxLattice.l0 k2 t409 (rd_L7 t409 (ji25)) y419 y422 (rd_L7 t409 (ji22)) ((rd_L7 t409 (ji22)).length : Int) (wrap64 (x68_2 + 1))) = some r := by first | (rw [hy422]; with_reducible exact H) | (have H2_ := (Option.bind_some _ _).symm.trans H; rw [hy422]; with_reducible exact H2_) | (have H2_ := (Option.bind_some _ _).symm.trans H; with_reducible exact H2_) | with_reducible exact H | (rw [hy422]; exact H) | exact H
                                      have Ny422 := Aside0.mk hy422
                                      clear hy422
                                      have H' := Aside0.mk H
                                      clear H
                                      have p417 : 0 ≤ (x68_2 : Int) := of_decide_eq_true (by first | (with_reducible assumption) | assumption)
                                      have q417 : x68_2 < ((rd_L7 t409 (ji22)).length : Int) := of_decide_eq_true (by first | (with_reducible assumption) | assumption)
                                      obtain ⟨ad417, e417, hx417_0⟩ := Kd.at_bool HR415_0.out x68_2 p417 q417
                                      (try rw [← Nbq33.out] at hx417_0)
                                      (try rw [← Nbq33.out] at hw417_0)
                                      cases e417
                                      replace hx417_0 := (HB.out.cell (World.block_lt_of_cell? wc _ hx417_0)).trans hx417_0
                                      replace p417 := eq_true p417
                                      replace q417 := eq_true q417
                                      have p418 : 0 ≤ (x68_2 : Int) := of_decide_eq_true (by first | (with_reducible assumption) | assumption)
                                      have q418 : x68_2 < ((rd_L7 t409 (ji25)).length : Int) := of_decide_eq_true (by first | (with_reducible assumption) | assumption)
                                      obtain ⟨ad418, e418, hx418_0⟩ := Kd.at_bool HR416_0.out x68_2 p418 q418
                                      (try rw [← Nbq33.out] at hx418_0)
                                      (try rw [← Nbq33.out] at hw418_0)
                                      cases e418
                                      replace hx418_0 := (HB.out.cell (World.block_lt_of_cell? wc _ hx418_0)).trans hx418_0
                                      replace p418 := eq_true p418
                                      replace q418 := eq_true q418
                                      go_wp2_with (first | ((with_reducible refine gate_builtin (b := .append) (xs := #[.tmp 73, .tmp 81]) rfl ?_); (try (refine gate_guard (by rfl) ?_; dsimp only)); at_builtin; refine Kd.R_append Kd.bool (w0 := wc) wc.heap.size rfl (.tmp 73) (.tmp 81) 45 4 (.bool false) 1 rfl Try.underlying45 info4 rfl (by decide) (by omega) u11 x11_2 (rdOf false (rd_L7 t409 (ji25)) x68_2) [.bool (rdOf false (rd_L7 t409 (ji25)) x68_2)] (fun k_ => some k_ ≠ (u12 : Value).ownBlock) (fun _ => False) rfl rfl ?aP (fun _ hk => hk.elim) ?aF ?aO ?aB ?aS ?aL ?_; (case aP => exact rfl); (case aB => exact (by repeat (first | (with_reducible first | exact HB.out | apply below_alloc | apply pw_below_drewN | apply below_drew1 | refine below_set ?_ GE404.out) | exact HB.out))); (case aF => exact (fun k_ hk => Kd.fresh' (Kd.R_lt (by (with_reducible repeat (first | apply Kd.R_alloc | apply Kd.R_drewN | apply Kd.R_drew)); exact HO_12.out)) k_ hk)); (case aO => exact (by (with_reducible repeat (first | apply Kd.R_alloc | apply Kd.R_drewN | apply Kd.R_drew)); exact HO_11.out)); (case aS => exact (below_size (by repeat (first | (with_reducible first | exact HB.out | apply below_alloc | apply pw_below_drewN | apply below_drew1 | refine below_set ?_ GE404.out) | exact HB.out)))); (case aL => have := LMc36.out; omega); intro v420 w38 ho hb hg hat; rw [← Ny419.out] at ho; have n0_ := Aside0.mk (Kd.S_after (ok := (fun k_ => some k_ ≠ (u12 : Value).ownBlock)) (by (with_reducible repeat (first | apply Kd.S_alloc | apply Kd.S_drewN | apply Kd.S_drew)); exact Kd.S_mono HO_7.out (fun _ hk => ⟨hk.2, hk.1⟩)) hg hat); have n1_ := Aside0.mk (Kd.R_after (ok := (fun _ => True)) (by (with_reducible repeat (first | apply Kd.R_alloc | apply Kd.R_drewN | apply Kd.R_drew)); exact Kd.R_mono HO_12.out (fun _ hk => ⟨trivial, hk⟩)) hg hat); have n2_ := Aside0.mk (blk_grown (g := gb404) (o := .cells #[.int .i64 a0_0, .slice A0_1 l0_1.length c0_1] 24 (0, 0)) (by (with_reducible repeat (first | refine blk_drewN ?_ _ | refine blk_drew ?_ | refine blk_alloc ?_ _)); exact BK404.out) hg (Kd.R_ne HO_11.out BK404.out (by decide))); have n3_ := Aside0.mk (hb); have n4_ := Aside0.mk (ho); clear HO_7; clear HO_12; clear BK404; clear HB; clear HO_11; have HO_7 := n0_; have HO_12 := n1_; have BK404 := n2_; have HB := n3_; have HO421 := n4_; clear n0_ n1_ n2_ n3_ n4_; clear ho hb hg hat) | ((with_reducible refine gate_builtin (b := .append) (xs := #[.tmp 83, .tmp 91]) rfl ?_); (try (refine gate_guard (by rfl) ?_; dsimp only)); at_builtin; refine Kd.R_append Kd.bool (w0 := wc) wc.heap.size rfl (.tmp 83) (.tmp 91) 45 4 (.bool false) 1 rfl Try.underlying45 info4 rfl (by decide) (by omega) u12 x12_2 true [.bool true] (fun k_ => some k_ ≠ (v420 : Value).ownBlock) (fun _ => False) rfl rfl ?aP (fun _ hk => hk.elim) ?aF ?aO ?aB ?aS ?aL ?_; (case aP => exact rfl); (case aB => exact (by repeat (first | (with_reducible first | exact HB.out | apply below_alloc | apply pw_below_drewN | apply below_drew1 | refine below_set ?_ GE404.out) | exact HB.out))); (case aF => exact (fun k_ hk => Kd.fresh' (Kd.R_lt (by (with_reducible repeat (first | apply Kd.R_alloc | apply Kd.R_drewN | apply Kd.R_drew)); exact HO421.out)) k_ hk)); (case aO => exact (by (with_reducible repeat (first | apply Kd.R_alloc | apply Kd.R_drewN | apply Kd.R_drew)); exact Kd.R_mono HO_12.out (fun _ hk => hk.2))); (case aS => exact (below_size (by repeat (first | (with_reducible first | exact HB.out | apply below_alloc | apply pw_below_drewN | apply below_drew1 | refine below_set ?_ GE404.out) | exact HB.out)))); (case aL => have := LMc37.out; omega); intro v423 w39 ho hb hg hat; rw [← Ny422.out] at ho; have n0_ := Aside0.mk (Kd.S_after (ok := (fun k_ => some k_ ≠ (v420 : Value).ownBlock)) (by (with_reducible repeat (first | apply Kd.S_alloc | apply Kd.S_drewN | apply Kd.S_drew)); exact Kd.S_mono HO_7.out (fun _ hk => ⟨hk.2, hk.1⟩)) hg hat); have n1_ := Aside0.mk (blk_grown (g := gb404) (o := .cells #[.int .i64 a0_0, .slice A0_1 l0_1.length c0_1] 24 (0, 0)) (by (with_reducible repeat (first | refine blk_drewN ?_ _ | refine blk_drew ?_ | refine blk_alloc ?_ _)); exact BK404.out) hg (Kd.R_ne HO_12.out BK404.out (by decide))); have n2_ := Aside0.mk (Kd.R_after (ok := (fun _ => True)) (by (with_reducible repeat (first | apply Kd.R_alloc | apply Kd.R_drewN | apply Kd.R_drew)); exact Kd.R_mono HO421.out (fun _ hk => ⟨trivial, hk⟩)) hg hat); have n3_ := Aside0.mk (hb); have n4_ := Aside0.mk (ho); clear HO_7; clear BK404; clear HO421; clear HB; clear HO_12; have HO_7 := n0_; have BK404 := n1_; have HO421 := n2_; have HB := n3_; have HO424 := n4_; clear n0_ n1_ n2_ n3_ n4_; clear ho hb hg hat))
                                      repeat (go_quiet (first | ((with_reducible refine gate_builtin (b := .append) (xs := #[.tmp 73, .tmp 81]) rfl ?_); (try (refine gate_guard (by rfl) ?_; dsimp only)); at_builtin; refine Kd.R_append Kd.bool (w0 := wc) wc.heap.size rfl (.tmp 73) (.tmp 81) 45 4 (.bool false) 1 rfl Try.underlying45 info4 rfl (by decide) (by omega) u11 x11_2 (rdOf false (rd_L7 t409 (ji25)) x68_2) [.bool (rdOf false (rd_L7 t409 (ji25)) x68_2)] (fun k_ => some k_ ≠ (u12 : Value).ownBlock) (fun _ => False) rfl rfl ?aP (fun _ hk => hk.elim) ?aF ?aO ?aB ?aS ?aL ?_; (case aP => exact rfl); (case aB => exact (by repeat (first | (with_reducible first | exact HB.out | apply below_alloc | apply pw_below_drewN | apply below_drew1 | refine below_set ?_ GE404.out) | exact HB.out))); (case aF => exact (fun k_ hk => Kd.fresh' (Kd.R_lt (by (with_reducible repeat (first | apply Kd.R_alloc | apply Kd.R_drewN | apply Kd.R_drew)); exact HO_12.out)) k_ hk)); (case aO => exact (by (with_reducible repeat (first | apply Kd.R_alloc | apply Kd.R_drewN | apply Kd.R_drew)); exact HO_11.out)); (case aS => exact (below_size (by repeat (first | (with_reducible first | exact HB.out | apply below_alloc | apply pw_below_drewN | apply below_drew1 | refine below_set ?_ GE404.out) | exact HB.out)))); (case aL => have := LMc36.out; omega); intro v420 w38 ho hb hg hat; rw [← Ny419.out] at ho; have n0_ := Aside0.mk (Kd.S_after (ok := (fun k_ => some k_ ≠ (u12 : Value).ownBlock)) (by (with_reducible repeat (first | apply Kd.S_alloc | apply Kd.S_drewN | apply Kd.S_drew)); exact Kd.S_mono HO_7.out (fun _ hk => ⟨hk.2, hk.1⟩)) hg hat); have n1_ := Aside0.mk (Kd.R_after (ok := (fun _ => True)) (by (with_reducible repeat (first | apply Kd.R_alloc | apply Kd.R_drewN | apply Kd.R_drew)); exact Kd.R_mono HO_12.out (fun _ hk => ⟨trivial, hk⟩)) hg hat); have n2_ := Aside0.mk (blk_grown (g := gb404) (o := .cells #[.int .i64 a0_0, .slice A0_1 l0_1.length c0_1] 24 (0, 0)) (by (with_reducible repeat (first | refine blk_drewN ?_ _ | refine blk_drew ?_ | refine blk_alloc ?_ _)); exact BK404.out) hg (Kd.R_ne HO_11.out BK404.out (by decide))); have n3_ := Aside0.mk (hb); have n4_ := Aside0.mk (ho); clear HO_7; clear HO_12; clear BK404; clear HB; clear HO_11; have HO_7 := n0_; have HO_12 := n1_; have BK404 := n2_; have HB := n3_; have HO421 := n4_; clear n0_ n1_ n2_ n3_ n4_; clear ho hb hg hat) | ((with_reducible refine gate_builtin (b := .append) (xs := #[.tmp 83, .tmp 91]) rfl ?_); (try (refine gate_guard (by rfl) ?_; dsimp only)); at_builtin; refine Kd.R_append Kd.bool (w0 := wc) wc.heap.size rfl (.tmp 83) (.tmp 91) 45 4 (.bool false) 1 rfl Try.underlying45 info4 rfl (by decide) (by omega) u12 x12_2 true [.bool true] (fun k_ => some k_ ≠ (v420 : Value).ownBlock) (fun _ => False) rfl rfl ?aP (fun _ hk => hk.elim) ?aF ?aO ?aB ?aS ?aL ?_; (case aP => exact rfl); (case aB => exact (by repeat (first | (with_reducible first | exact HB.out | apply below_alloc | apply pw_below_drewN | apply below_drew1 | refine below_set ?_ GE404.out) | exact HB.out))); (case aF => exact (fun k_ hk => Kd.fresh' (Kd.R_lt (by (with_reducible repeat (first | apply Kd.R_alloc | apply Kd.R_drewN | apply Kd.R_drew)); exact HO421.out)) k_ hk)); (case aO => exact (by (with_reducible repeat (first | apply Kd.R_alloc | apply Kd.R_drewN | apply Kd.R_drew)); exact Kd.R_mono HO_12.out (fun _ hk => hk.2))); (case aS => exact (below_size (by repeat (first | (with_reducible first | exact HB.out | apply below_alloc | apply pw_below_drewN | apply below_drew1 | refine below_set ?_ GE404.out) | exact HB.out)))); (case aL => have := LMc37.out; omega); intro v423 w39 ho hb hg hat; rw [← Ny422.out] at ho; have n0_ := Aside0.mk (Kd.S_after (ok := (fun k_ => some k_ ≠ (v420 : Value).ownBlock)) (by (with_reducible repeat (first | apply Kd.S_alloc | apply Kd.S_drewN | apply Kd.S_drew)); exact Kd.S_mono HO_7.out (fun _ hk => ⟨hk.2, hk.1⟩)) hg hat); have n1_ := Aside0.mk (blk_grown (g := gb404) (o := .cells #[.int .i64 a0_0, .slice A0_1 l0_1.length c0_1] 24 (0, 0)) (by (with_reducible repeat (first | refine blk_drewN ?_ _ | refine blk_drew ?_ | refine blk_alloc ?_ _)); exact BK404.out) hg (Kd.R_ne HO_12.out BK404.out (by decide))); have n2_ := Aside0.mk (Kd.R_after (ok := (fun _ => True)) (by (with_reducible repeat (first | apply Kd.R_alloc | apply Kd.R_drewN | apply Kd.R_drew)); exact Kd.R_mono HO421.out (fun _ hk => ⟨trivial, hk⟩)) hg hat); have n3_ := Aside0.mk (hb); have n4_ := Aside0.mk (ho); clear HO_7; clear BK404; clear HO421; clear HB; clear HO_12; have HO_7 := n0_; have BK404 := n1_; have HO421 := n2_; have HB := n3_; have HO424 := n4_; clear n0_ n1_ n2_ n3_ n4_; clear ho hb hg hat)); try go_wp2_with (first | ((with_reducible refine gate_builtin (b := .append) (xs := #[.tmp 73, .tmp 81]) rfl ?_); (try (refine gate_guard (by rfl) ?_; dsimp only)); at_builtin; refine Kd.R_append Kd.bool (w0 := wc) wc.heap.size rfl (.tmp 73) (.tmp 81) 45 4 (.bool false) 1 rfl Try.underlying45 info4 rfl (by decide) (by omega) u11 x11_2 (rdOf false (rd_L7 t409 (ji25)) x68_2) [.bool (rdOf false (rd_L7 t409 (ji25)) x68_2)] (fun k_ => some k_ ≠ (u12 : Value).ownBlock) (fun _ => False) rfl rfl ?aP (fun _ hk => hk.elim) ?aF ?aO ?aB ?aS ?aL ?_; (case aP => exact rfl); (case aB => exact (by repeat (first | (with_reducible first | exact HB.out | apply below_alloc | apply pw_below_drewN | apply below_drew1 | refine below_set ?_ GE404.out) | exact HB.out))); (case aF => exact (fun k_ hk => Kd.fresh' (Kd.R_lt (by (with_reducible repeat (first | apply Kd.R_alloc | apply Kd.R_drewN | apply Kd.R_drew)); exact HO_12.out)) k_ hk)); (case aO => exact (by (with_reducible repeat (first | apply Kd.R_alloc | apply Kd.R_drewN | apply Kd.R_drew)); exact HO_11.out)); (case aS => exact (below_size (by repeat (first | (with_reducible first | exact HB.out | apply below_alloc | apply pw_below_drewN | apply below_drew1 | refine below_set ?_ GE404.out) | exact HB.out)))); (case aL => have := LMc36.out; omega); intro v420 w38 ho hb hg hat; rw [← Ny419.out] at ho; have n0_ := Aside0.mk (Kd.S_after (ok := (fun k_ => some k_ ≠ (u12 : Value).ownBlock)) (by (with_reducible repeat (first | apply Kd.S_alloc | apply Kd.S_drewN | apply Kd.S_drew)); exact Kd.S_mono HO_7.out (fun _ hk => ⟨hk.2, hk.1⟩)) hg hat); have n1_ := Aside0.mk (Kd.R_after (ok := (fun _ => True)) (by (with_reducible repeat (first | apply Kd.R_alloc | apply Kd.R_drewN | apply Kd.R_drew)); exact Kd.R_mono HO_12.out (fun _ hk => ⟨trivial, hk⟩)) hg hat); have n2_ := Aside0.mk (blk_grown (g := gb404) (o := .cells #[.int .i64 a0_0, .slice A0_1 l0_1.length c0_1] 24 (0, 0)) (by (with_reducible repeat (first | refine blk_drewN ?_ _ | refine blk_drew ?_ | refine blk_alloc ?_ _)); exact BK404.out) hg (Kd.R_ne HO_11.out BK404.out (by decide))); have n3_ := Aside0.mk (hb); have n4_ := Aside0.mk (ho); clear HO_7; clear HO_12; clear BK404; clear HB; clear HO_11; have HO_7 := n0_; have HO_12 := n1_; have BK404 := n2_; have HB := n3_; have HO421 := n4_; clear n0_ n1_ n2_ n3_ n4_; clear ho hb hg hat) | ((with_reducible refine gate_builtin (b := .append) (xs := #[.tmp 83, .tmp 91]) rfl ?_); (try (refine gate_guard (by rfl) ?_; dsimp only)); at_builtin; refine Kd.R_append Kd.bool (w0 := wc) wc.heap.size rfl (.tmp 83) (.tmp 91) 45 4 (.bool false) 1 rfl Try.underlying45 info4 rfl (by decide) (by omega) u12 x12_2 true [.bool true] (fun k_ => some k_ ≠ (v420 : Value).ownBlock) (fun _ => False) rfl rfl ?aP (fun _ hk => hk.elim) ?aF ?aO ?aB ?aS ?aL ?_; (case aP => exact rfl); (case aB => exact (by repeat (first | (with_reducible first | exact HB.out | apply below_alloc | apply pw_below_drewN | apply below_drew1 | refine below_set ?_ GE404.out) | exact HB.out))); (case aF => exact (fun k_ hk => Kd.fresh' (Kd.R_lt (by (with_reducible repeat (first | apply Kd.R_alloc | apply Kd.R_drewN | apply Kd.R_drew)); exact HO421.out)) k_ hk)); (case aO => exact (by (with_reducible repeat (first | apply Kd.R_alloc | apply Kd.R_drewN | apply Kd.R_drew)); exact Kd.R_mono HO_12.out (fun _ hk => hk.2))); (case aS => exact (below_size (by repeat (first | (with_reducible first | exact HB.out | apply below_alloc | apply pw_below_drewN | apply below_drew1 | refine below_set ?_ GE404.out) | exact HB.out)))); (case aL => have := LMc37.out; omega); intro v423 w39 ho hb hg hat; rw [← Ny422.out] at ho; have n0_ := Aside0.mk (Kd.S_after (ok := (fun k_ => some k_ ≠ (v420 : Value).ownBlock)) (by (with_reducible repeat (first | apply Kd.S_alloc | apply Kd.S_drewN | apply Kd.S_drew)); exact Kd.S_mono HO_7.out (fun _ hk => ⟨hk.2, hk.1⟩)) hg hat); have n1_ := Aside0.mk (blk_grown (g := gb404) (o := .cells #[.int .i64 a0_0, .slice A0_1 l0_1.length c0_1] 24 (0, 0)) (by (with_reducible repeat (first | refine blk_drewN ?_ _ | refine blk_drew ?_ | refine blk_alloc ?_ _)); exact BK404.out) hg (Kd.R_ne HO_12.out BK404.out (by decide))); have n2_ := Aside0.mk (Kd.R_after (ok := (fun _ => True)) (by (with_reducible repeat (first | apply Kd.R_alloc | apply Kd.R_drewN | apply Kd.R_drew)); exact Kd.R_mono HO421.out (fun _ hk => ⟨trivial, hk⟩)) hg hat); have n3_ := Aside0.mk (hb); have n4_ := Aside0.mk (ho); clear HO_7; clear BK404; clear HO421; clear HB; clear HO_12; have HO_7 := n0_; have BK404 := n1_; have HO421 := n2_; have HB := n3_; have HO424 := n4_; clear n0_ n1_ n2_ n3_ n4_; clear ho hb hg hat)))
                                      go_roundg k2
                                      case measure => have := HJ5.out; have := HK2.out; omega
                                      case rel => exact ⟨(y419), (y422), (wrap64 (x68_2 + 1)), (by first | rfl | (simp; done) | (simp [*]; done)), H', ⟨by have := HJ5.out; have := HK2.out; omega⟩, ⟨by (with_reducible repeat (first | apply Kd.S_alloc | apply Kd.S_drewN | apply Kd.S_drew)); exact HO_7.out⟩, ⟨by (with_reducible repeat (first | apply Kd.R_alloc | apply Kd.R_drewN | apply Kd.R_drew)); exact Kd.R_mono HO421.out (fun _ hk => hk.2)⟩, ⟨by (with_reducible repeat (first | apply Kd.R_alloc | apply Kd.R_drewN | apply Kd.R_drew)); exact HO424.out⟩, ⟨by (with_reducible repeat (first | refine blk_drewN ?_ _ | refine blk_drew ?_ | refine blk_alloc ?_ _)); exact BK404.out⟩, ⟨by repeat (first | (with_reducible first | exact HB.out | apply below_alloc | apply pw_below_drewN | apply below_drew1 | refine below_set ?_ GE404.out) | exact HB.out)⟩⟩
                                    · rw [if_neg c37] at H
                                      exact absurd H (by simp)
                                  · rw [if_neg c36] at H
                                    exact absurd H (by simp)
                                · rw [if_neg c35] at H
                                  exact absurd H (by simp)
                              · replace c34 := Bool.eq_false_iff.mpr c34
                                subst c34
                                have H1 : (if x11_2.length < 140737488355328 then (if x68_2 < ((rd_L7 t409 (ji25)).length : Int) then (if x12_2.length < 140737488355328 then (cantinglaw07_WaxLattice.l0 k2 t409 (rd_L7 t409 (ji25)) (x11_2 ++ [false]) (x12_2 ++ [rdOf false (rd_L7 t409 (ji25)) x68_2]) (rd_L7 t409 (ji22)) ((rd_L7 t409 (ji22)).length : Int) (wrap64 (x68_2 + 1))) else (none)) else (none)) else (none)) = some r := by rw [if_neg (show ¬ (false = true) by decide)] at H; exact H
                                clear H
                                have H := H1
                                clear H1
                                by_cases c40 : x11_2.length < 140737488355328
                                · rw [if_pos c40] at H
                                  have LMc40 := Aside0.mk c40
                                  clear c40
                                  obtain ⟨y425, hy425⟩ : ∃ y_ : List Bool, y_ = (x11_2 ++ [false]) := ⟨_, rfl⟩
                                  replace H : (if x68_2 < ((rd_L7 t409 (ji25)).length : Int) then (if x12_2.length < 140737488355328 then (cantinglaw07_WaxLattice.l0 k2 t409 (rd_L7 t409 (ji25)) y425 (x12_2 ++ [rdOf false (rd_L7 t409 (ji25)) x68_2]) (rd_L7 t409 (ji22)) ((rd_L7 t409 (ji22)).length : Int) (wrap64 (x68_2 + 1))) else (none)) else (none)) = some r := by first | (rw [hy425]; with_reducible exact H) | (have H2_ := (Option.bind_some _ _).symm.trans H; rw [hy425]; with_reducible exact H2_) | (have H2_ := (Option.bind_some _ _).symm.trans H; with_reducible exact H2_) | with_reducible exact H | (rw [hy425]; exact H) | exact H
                                  have Ny425 := Aside0.mk hy425
                                  clear hy425
                                  by_cases c41 : x68_2 < ((rd_L7 t409 (ji25)).length : Int)
                                  · rw [if_pos c41] at H
                                    have c41b0 : decide (x68_2 < ((rd_L7 t409 (ji25)).length : Int)) = true := decide_eq_true c41
                                    (try (have c41b0_0 := c41b0; rw [hl415_0] at c41b0_0))
                                    (try (have c41b0_1 := c41b0; rw [hl416_0] at c41b0_1))
                                    (try (have c41b0_2 := c41b0; rw [hl432_0] at c41b0_2))
                                    clear c41
                                    by_cases c42 : x12_2.length < 140737488355328
                                    · rw [if_pos c42] at H
                                      have LMc42 := Aside0.mk c42
                                      clear c42
                                      obtain ⟨y429, hy429⟩ : ∃ y_ : List Bool, y_ = (x12_2 ++ [rdOf false (rd_L7 t409 (ji25)) x68_2]) := ⟨_, rfl⟩
                                      replace H : (cantinglaw07_WaxLattice.l0 k2 t409 (rd_L7 t409 (ji25)) y425 y429 (rd_L7 t409 (ji22)) ((rd_L7 t409 (ji22)).length : Int) (wrap64 (x68_2 + 1))) = some r := by first | (rw [hy429]; with_reducible exact H) | (have H2_ := (Option.bind_some _ _).symm.trans H; rw [hy429]; with_reducible exact H2_) | (have H2_ := (Option.bind_some _ _).symm.trans H; with_reducible exact H2_) | with_reducible exact H | (rw [hy429]; exact H) | exact H
                                      have Ny429 := Aside0.mk hy429
                                      clear hy429
                                      have H' := Aside0.mk H
                                      clear H
                                      have p417 : 0 ≤ (x68_2 : Int) := of_decide_eq_true (by first | (with_reducible assumption) | assumption)
                                      have q417 : x68_2 < ((rd_L7 t409 (ji22)).length : Int) := of_decide_eq_true (by first | (with_reducible assumption) | assumption)
                                      obtain ⟨ad417, e417, hx417_0⟩ := Kd.at_bool HR415_0.out x68_2 p417 q417
                                      (try rw [← Nbq33.out] at hx417_0)
                                      (try rw [← Nbq33.out] at hw417_0)
                                      cases e417
                                      replace hx417_0 := (HB.out.cell (World.block_lt_of_cell? wc _ hx417_0)).trans hx417_0
                                      replace p417 := eq_true p417
                                      replace q417 := eq_true q417
                                      go_wp2_with (first | ((with_reducible refine gate_builtin (b := .append) (xs := #[.tmp 73, .tmp 81]) rfl ?_); (try (refine gate_guard (by rfl) ?_; dsimp only)); at_builtin; refine Kd.R_append Kd.bool (w0 := wc) wc.heap.size rfl (.tmp 73) (.tmp 81) 45 4 (.bool false) 1 rfl Try.underlying45 info4 rfl (by decide) (by omega) u11 x11_2 false [.bool false] (fun k_ => some k_ ≠ (u12 : Value).ownBlock) (fun _ => False) rfl rfl ?aP (fun _ hk => hk.elim) ?aF ?aO ?aB ?aS ?aL ?_; (case aP => exact rfl); (case aB => exact (by repeat (first | (with_reducible first | exact HB.out | apply below_alloc | apply pw_below_drewN | apply below_drew1 | refine below_set ?_ GE404.out) | exact HB.out))); (case aF => exact (fun k_ hk => Kd.fresh' (Kd.R_lt (by (with_reducible repeat (first | apply Kd.R_alloc | apply Kd.R_drewN | apply Kd.R_drew)); exact HO_12.out)) k_ hk)); (case aO => exact (by (with_reducible repeat (first | apply Kd.R_alloc | apply Kd.R_drewN | apply Kd.R_drew)); exact HO_11.out)); (case aS => exact (below_size (by repeat (first | (with_reducible first | exact HB.out | apply below_alloc | apply pw_below_drewN | apply below_drew1 | refine below_set ?_ GE404.out) | exact HB.out)))); (case aL => have := LMc40.out; omega); intro v426 w43 ho hb hg hat; rw [← Ny425.out] at ho; have n0_ := Aside0.mk (Kd.S_after (ok := (fun k_ => some k_ ≠ (u12 : Value).ownBlock)) (by (with_reducible repeat (first | apply Kd.S_alloc | apply Kd.S_drewN | apply Kd.S_drew)); exact Kd.S_mono HO_7.out (fun _ hk => ⟨hk.2, hk.1⟩)) hg hat); have n1_ := Aside0.mk (Kd.R_after (ok := (fun _ => True)) (by (with_reducible repeat (first | apply Kd.R_alloc | apply Kd.R_drewN | apply Kd.R_drew)); exact Kd.R_mono HO_12.out (fun _ hk => ⟨trivial, hk⟩)) hg hat); have n2_ := Aside0.mk (blk_grown (g := gb404) (o := .cells #[.int .i64 a0_0, .slice A0_1 l0_1.length c0_1] 24 (0, 0)) (by (with_reducible repeat (first | refine blk_drewN ?_ _ | refine blk_drew ?_ | refine blk_alloc ?_ _)); exact BK404.out) hg (Kd.R_ne HO_11.out BK404.out (by decide))); have n3_ := Aside0.mk (hb); have n4_ := Aside0.mk (ho); clear HO_7; clear HO_12; clear BK404; clear HB; clear HO_11; have HO_7 := n0_; have HO_12 := n1_; have BK404 := n2_; have HB := n3_; have HO427 := n4_; clear n0_ n1_ n2_ n3_ n4_; clear ho hb hg hat; have p428 : 0 ≤ (x68_2 : Int) := of_decide_eq_true (by first | (with_reducible assumption) | assumption); have q428 : x68_2 < ((rd_L7 t409 (ji25)).length : Int) := of_decide_eq_true (by first | (with_reducible assumption) | assumption); obtain ⟨ad428, e428, hx428_0⟩ := Kd.at_bool HR416_0.out x68_2 p428 q428; (try rw [← Nbq33.out] at hx428_0); cases e428; replace hx428_0 := (HB.out.cell (World.block_lt_of_cell? wc _ hx428_0)).trans hx428_0; replace p428 := eq_true p428; replace q428 := eq_true q428) | ((with_reducible refine gate_builtin (b := .append) (xs := #[.tmp 83, .tmp 91]) rfl ?_); (try (refine gate_guard (by rfl) ?_; dsimp only)); at_builtin; refine Kd.R_append Kd.bool (w0 := wc) wc.heap.size rfl (.tmp 83) (.tmp 91) 45 4 (.bool false) 1 rfl Try.underlying45 info4 rfl (by decide) (by omega) u12 x12_2 (rdOf false (rd_L7 t409 (ji25)) x68_2) [.bool (rdOf false (rd_L7 t409 (ji25)) x68_2)] (fun k_ => some k_ ≠ (v426 : Value).ownBlock) (fun _ => False) rfl rfl ?aP (fun _ hk => hk.elim) ?aF ?aO ?aB ?aS ?aL ?_; (case aP => exact rfl); (case aB => exact (by repeat (first | (with_reducible first | exact HB.out | apply below_alloc | apply pw_below_drewN | apply below_drew1 | refine below_set ?_ GE404.out) | exact HB.out))); (case aF => exact (fun k_ hk => Kd.fresh' (Kd.R_lt (by (with_reducible repeat (first | apply Kd.R_alloc | apply Kd.R_drewN | apply Kd.R_drew)); exact HO427.out)) k_ hk)); (case aO => exact (by (with_reducible repeat (first | apply Kd.R_alloc | apply Kd.R_drewN | apply Kd.R_drew)); exact Kd.R_mono HO_12.out (fun _ hk => hk.2))); (case aS => exact (below_size (by repeat (first | (with_reducible first | exact HB.out | apply below_alloc | apply pw_below_drewN | apply below_drew1 | refine below_set ?_ GE404.out) | exact HB.out)))); (case aL => have := LMc42.out; omega); intro v430 w44 ho hb hg hat; rw [← Ny429.out] at ho; have n0_ := Aside0.mk (Kd.S_after (ok := (fun k_ => some k_ ≠ (v426 : Value).ownBlock)) (by (with_reducible repeat (first | apply Kd.S_alloc | apply Kd.S_drewN | apply Kd.S_drew)); exact Kd.S_mono HO_7.out (fun _ hk => ⟨hk.2, hk.1⟩)) hg hat); have n1_ := Aside0.mk (blk_grown (g := gb404) (o := .cells #[.int .i64 a0_0, .slice A0_1 l0_1.length c0_1] 24 (0, 0)) (by (with_reducible repeat (first | refine blk_drewN ?_ _ | refine blk_drew ?_ | refine blk_alloc ?_ _)); exact BK404.out) hg (Kd.R_ne HO_12.out BK404.out (by decide))); have n2_ := Aside0.mk (Kd.R_after (ok := (fun _ => True)) (by (with_reducible repeat (first | apply Kd.R_alloc | apply Kd.R_drewN | apply Kd.R_drew)); exact Kd.R_mono HO427.out (fun _ hk => ⟨trivial, hk⟩)) hg hat); have n3_ := Aside0.mk (hb); have n4_ := Aside0.mk (ho); clear HO_7; clear BK404; clear HO427; clear HB; clear HO_12; have HO_7 := n0_; have BK404 := n1_; have HO427 := n2_; have HB := n3_; have HO431 := n4_; clear n0_ n1_ n2_ n3_ n4_; clear ho hb hg hat))
                                      repeat (go_quiet (first | ((with_reducible refine gate_builtin (b := .append) (xs := #[.tmp 73, .tmp 81]) rfl ?_); (try (refine gate_guard (by rfl) ?_; dsimp only)); at_builtin; refine Kd.R_append Kd.bool (w0 := wc) wc.heap.size rfl (.tmp 73) (.tmp 81) 45 4 (.bool false) 1 rfl Try.underlying45 info4 rfl (by decide) (by omega) u11 x11_2 false [.bool false] (fun k_ => some k_ ≠ (u12 : Value).ownBlock) (fun _ => False) rfl rfl ?aP (fun _ hk => hk.elim) ?aF ?aO ?aB ?aS ?aL ?_; (case aP => exact rfl); (case aB => exact (by repeat (first | (with_reducible first | exact HB.out | apply below_alloc | apply pw_below_drewN | apply below_drew1 | refine below_set ?_ GE404.out) | exact HB.out))); (case aF => exact (fun k_ hk => Kd.fresh' (Kd.R_lt (by (with_reducible repeat (first | apply Kd.R_alloc | apply Kd.R_drewN | apply Kd.R_drew)); exact HO_12.out)) k_ hk)); (case aO => exact (by (with_reducible repeat (first | apply Kd.R_alloc | apply Kd.R_drewN | apply Kd.R_drew)); exact HO_11.out)); (case aS => exact (below_size (by repeat (first | (with_reducible first | exact HB.out | apply below_alloc | apply pw_below_drewN | apply below_drew1 | refine below_set ?_ GE404.out) | exact HB.out)))); (case aL => have := LMc40.out; omega); intro v426 w43 ho hb hg hat; rw [← Ny425.out] at ho; have n0_ := Aside0.mk (Kd.S_after (ok := (fun k_ => some k_ ≠ (u12 : Value).ownBlock)) (by (with_reducible repeat (first | apply Kd.S_alloc | apply Kd.S_drewN | apply Kd.S_drew)); exact Kd.S_mono HO_7.out (fun _ hk => ⟨hk.2, hk.1⟩)) hg hat); have n1_ := Aside0.mk (Kd.R_after (ok := (fun _ => True)) (by (with_reducible repeat (first | apply Kd.R_alloc | apply Kd.R_drewN | apply Kd.R_drew)); exact Kd.R_mono HO_12.out (fun _ hk => ⟨trivial, hk⟩)) hg hat); have n2_ := Aside0.mk (blk_grown (g := gb404) (o := .cells #[.int .i64 a0_0, .slice A0_1 l0_1.length c0_1] 24 (0, 0)) (by (with_reducible repeat (first | refine blk_drewN ?_ _ | refine blk_drew ?_ | refine blk_alloc ?_ _)); exact BK404.out) hg (Kd.R_ne HO_11.out BK404.out (by decide))); have n3_ := Aside0.mk (hb); have n4_ := Aside0.mk (ho); clear HO_7; clear HO_12; clear BK404; clear HB; clear HO_11; have HO_7 := n0_; have HO_12 := n1_; have BK404 := n2_; have HB := n3_; have HO427 := n4_; clear n0_ n1_ n2_ n3_ n4_; clear ho hb hg hat; have p428 : 0 ≤ (x68_2 : Int) := of_decide_eq_true (by first | (with_reducible assumption) | assumption); have q428 : x68_2 < ((rd_L7 t409 (ji25)).length : Int) := of_decide_eq_true (by first | (with_reducible assumption) | assumption); obtain ⟨ad428, e428, hx428_0⟩ := Kd.at_bool HR416_0.out x68_2 p428 q428; (try rw [← Nbq33.out] at hx428_0); cases e428; replace hx428_0 := (HB.out.cell (World.block_lt_of_cell? wc _ hx428_0)).trans hx428_0; replace p428 := eq_true p428; replace q428 := eq_true q428) | ((with_reducible refine gate_builtin (b := .append) (xs := #[.tmp 83, .tmp 91]) rfl ?_); (try (refine gate_guard (by rfl) ?_; dsimp only)); at_builtin; refine Kd.R_append Kd.bool (w0 := wc) wc.heap.size rfl (.tmp 83) (.tmp 91) 45 4 (.bool false) 1 rfl Try.underlying45 info4 rfl (by decide) (by omega) u12 x12_2 (rdOf false (rd_L7 t409 (ji25)) x68_2) [.bool (rdOf false (rd_L7 t409 (ji25)) x68_2)] (fun k_ => some k_ ≠ (v426 : Value).ownBlock) (fun _ => False) rfl rfl ?aP (fun _ hk => hk.elim) ?aF ?aO ?aB ?aS ?aL ?_; (case aP => exact rfl); (case aB => exact (by repeat (first | (with_reducible first | exact HB.out | apply below_alloc | apply pw_below_drewN | apply below_drew1 | refine below_set ?_ GE404.out) | exact HB.out))); (case aF => exact (fun k_ hk => Kd.fresh' (Kd.R_lt (by (with_reducible repeat (first | apply Kd.R_alloc | apply Kd.R_drewN | apply Kd.R_drew)); exact HO427.out)) k_ hk)); (case aO => exact (by (with_reducible repeat (first | apply Kd.R_alloc | apply Kd.R_drewN | apply Kd.R_drew)); exact Kd.R_mono HO_12.out (fun _ hk => hk.2))); (case aS => exact (below_size (by repeat (first | (with_reducible first | exact HB.out | apply below_alloc | apply pw_below_drewN | apply below_drew1 | refine below_set ?_ GE404.out) | exact HB.out)))); (case aL => have := LMc42.out; omega); intro v430 w44 ho hb hg hat; rw [← Ny429.out] at ho; have n0_ := Aside0.mk (Kd.S_after (ok := (fun k_ => some k_ ≠ (v426 : Value).ownBlock)) (by (with_reducible repeat (first | apply Kd.S_alloc | apply Kd.S_drewN | apply Kd.S_drew)); exact Kd.S_mono HO_7.out (fun _ hk => ⟨hk.2, hk.1⟩)) hg hat); have n1_ := Aside0.mk (blk_grown (g := gb404) (o := .cells #[.int .i64 a0_0, .slice A0_1 l0_1.length c0_1] 24 (0, 0)) (by (with_reducible repeat (first | refine blk_drewN ?_ _ | refine blk_drew ?_ | refine blk_alloc ?_ _)); exact BK404.out) hg (Kd.R_ne HO_12.out BK404.out (by decide))); have n2_ := Aside0.mk (Kd.R_after (ok := (fun _ => True)) (by (with_reducible repeat (first | apply Kd.R_alloc | apply Kd.R_drewN | apply Kd.R_drew)); exact Kd.R_mono HO427.out (fun _ hk => ⟨trivial, hk⟩)) hg hat); have n3_ := Aside0.mk (hb); have n4_ := Aside0.mk (ho); clear HO_7; clear BK404; clear HO427; clear HB; clear HO_12; have HO_7 := n0_; have BK404 := n1_; have HO427 := n2_; have HB := n3_; have HO431 := n4_; clear n0_ n1_ n2_ n3_ n4_; clear ho hb hg hat)); try go_wp2_with (first | ((with_reducible refine gate_builtin (b := .append) (xs := #[.tmp 73, .tmp 81]) rfl ?_); (try (refine gate_guard (by rfl) ?_; dsimp only)); at_builtin; refine Kd.R_append Kd.bool (w0 := wc) wc.heap.size rfl (.tmp 73) (.tmp 81) 45 4 (.bool false) 1 rfl Try.underlying45 info4 rfl (by decide) (by omega) u11 x11_2 false [.bool false] (fun k_ => some k_ ≠ (u12 : Value).ownBlock) (fun _ => False) rfl rfl ?aP (fun _ hk => hk.elim) ?aF ?aO ?aB ?aS ?aL ?_; (case aP => exact rfl); (case aB => exact (by repeat (first | (with_reducible first | exact HB.out | apply below_alloc | apply pw_below_drewN | apply below_drew1 | refine below_set ?_ GE404.out) | exact HB.out))); (case aF => exact (fun k_ hk => Kd.fresh' (Kd.R_lt (by (with_reducible repeat (first | apply Kd.R_alloc | apply Kd.R_drewN | apply Kd.R_drew)); exact HO_12.out)) k_ hk)); (case aO => exact (by (with_reducible repeat (first | apply Kd.R_alloc | apply Kd.R_drewN | apply Kd.R_drew)); exact HO_11.out)); (case aS => exact (below_size (by repeat (first | (with_reducible first | exact HB.out | apply below_alloc | apply pw_below_drewN | apply below_drew1 | refine below_set ?_ GE404.out) | exact HB.out)))); (case aL => have := LMc40.out; omega); intro v426 w43 ho hb hg hat; rw [← Ny425.out] at ho; have n0_ := Aside0.mk (Kd.S_after (ok := (fun k_ => some k_ ≠ (u12 : Value).ownBlock)) (by (with_reducible repeat (first | apply Kd.S_alloc | apply Kd.S_drewN | apply Kd.S_drew)); exact Kd.S_mono HO_7.out (fun _ hk => ⟨hk.2, hk.1⟩)) hg hat); have n1_ := Aside0.mk (Kd.R_after (ok := (fun _ => True)) (by (with_reducible repeat (first | apply Kd.R_alloc | apply Kd.R_drewN | apply Kd.R_drew)); exact Kd.R_mono HO_12.out (fun _ hk => ⟨trivial, hk⟩)) hg hat); have n2_ := Aside0.mk (blk_grown (g := gb404) (o := .cells #[.int .i64 a0_0, .slice A0_1 l0_1.length c0_1] 24 (0, 0)) (by (with_reducible repeat (first | refine blk_drewN ?_ _ | refine blk_drew ?_ | refine blk_alloc ?_ _)); exact BK404.out) hg (Kd.R_ne HO_11.out BK404.out (by decide))); have n3_ := Aside0.mk (hb); have n4_ := Aside0.mk (ho); clear HO_7; clear HO_12; clear BK404; clear HB; clear HO_11; have HO_7 := n0_; have HO_12 := n1_; have BK404 := n2_; have HB := n3_; have HO427 := n4_; clear n0_ n1_ n2_ n3_ n4_; clear ho hb hg hat; have p428 : 0 ≤ (x68_2 : Int) := of_decide_eq_true (by first | (with_reducible assumption) | assumption); have q428 : x68_2 < ((rd_L7 t409 (ji25)).length : Int) := of_decide_eq_true (by first | (with_reducible assumption) | assumption); obtain ⟨ad428, e428, hx428_0⟩ := Kd.at_bool HR416_0.out x68_2 p428 q428; (try rw [← Nbq33.out] at hx428_0); cases e428; replace hx428_0 := (HB.out.cell (World.block_lt_of_cell? wc _ hx428_0)).trans hx428_0; replace p428 := eq_true p428; replace q428 := eq_true q428) | ((with_reducible refine gate_builtin (b := .append) (xs := #[.tmp 83, .tmp 91]) rfl ?_); (try (refine gate_guard (by rfl) ?_; dsimp only)); at_builtin; refine Kd.R_append Kd.bool (w0 := wc) wc.heap.size rfl (.tmp 83) (.tmp 91) 45 4 (.bool false) 1 rfl Try.underlying45 info4 rfl (by decide) (by omega) u12 x12_2 (rdOf false (rd_L7 t409 (ji25)) x68_2) [.bool (rdOf false (rd_L7 t409 (ji25)) x68_2)] (fun k_ => some k_ ≠ (v426 : Value).ownBlock) (fun _ => False) rfl rfl ?aP (fun _ hk => hk.elim) ?aF ?aO ?aB ?aS ?aL ?_; (case aP => exact rfl); (case aB => exact (by repeat (first | (with_reducible first | exact HB.out | apply below_alloc | apply pw_below_drewN | apply below_drew1 | refine below_set ?_ GE404.out) | exact HB.out))); (case aF => exact (fun k_ hk => Kd.fresh' (Kd.R_lt (by (with_reducible repeat (first | apply Kd.R_alloc | apply Kd.R_drewN | apply Kd.R_drew)); exact HO427.out)) k_ hk)); (case aO => exact (by (with_reducible repeat (first | apply Kd.R_alloc | apply Kd.R_drewN | apply Kd.R_drew)); exact Kd.R_mono HO_12.out (fun _ hk => hk.2))); (case aS => exact (below_size (by repeat (first | (with_reducible first | exact HB.out | apply below_alloc | apply pw_below_drewN | apply below_drew1 | refine below_set ?_ GE404.out) | exact HB.out)))); (case aL => have := LMc42.out; omega); intro v430 w44 ho hb hg hat; rw [← Ny429.out] at ho; have n0_ := Aside0.mk (Kd.S_after (ok := (fun k_ => some k_ ≠ (v426 : Value).ownBlock)) (by (with_reducible repeat (first | apply Kd.S_alloc | apply Kd.S_drewN | apply Kd.S_drew)); exact Kd.S_mono HO_7.out (fun _ hk => ⟨hk.2, hk.1⟩)) hg hat); have n1_ := Aside0.mk (blk_grown (g := gb404) (o := .cells #[.int .i64 a0_0, .slice A0_1 l0_1.length c0_1] 24 (0, 0)) (by (with_reducible repeat (first | refine blk_drewN ?_ _ | refine blk_drew ?_ | refine blk_alloc ?_ _)); exact BK404.out) hg (Kd.R_ne HO_12.out BK404.out (by decide))); have n2_ := Aside0.mk (Kd.R_after (ok := (fun _ => True)) (by (with_reducible repeat (first | apply Kd.R_alloc | apply Kd.R_drewN | apply Kd.R_drew)); exact Kd.R_mono HO427.out (fun _ hk => ⟨trivial, hk⟩)) hg hat); have n3_ := Aside0.mk (hb); have n4_ := Aside0.mk (ho); clear HO_7; clear BK404; clear HO427; clear HB; clear HO_12; have HO_7 := n0_; have BK404 := n1_; have HO427 := n2_; have HB := n3_; have HO431 := n4_; clear n0_ n1_ n2_ n3_ n4_; clear ho hb hg hat)))
                                      go_roundg k2
                                      case measure => have := HJ5.out; have := HK2.out; omega
                                      case rel => exact ⟨(y425), (y429), (wrap64 (x68_2 + 1)), (by first | rfl | (simp; done) | (simp [*]; done)), H', ⟨by have := HJ5.out; have := HK2.out; omega⟩, ⟨by (with_reducible repeat (first | apply Kd.S_alloc | apply Kd.S_drewN | apply Kd.S_drew)); exact HO_7.out⟩, ⟨by (with_reducible repeat (first | apply Kd.R_alloc | apply Kd.R_drewN | apply Kd.R_drew)); exact Kd.R_mono HO427.out (fun _ hk => hk.2)⟩, ⟨by (with_reducible repeat (first | apply Kd.R_alloc | apply Kd.R_drewN | apply Kd.R_drew)); exact HO431.out⟩, ⟨by (with_reducible repeat (first | refine blk_drewN ?_ _ | refine blk_drew ?_ | refine blk_alloc ?_ _)); exact BK404.out⟩, ⟨by repeat (first | (with_reducible first | exact HB.out | apply below_alloc | apply pw_below_drewN | apply below_drew1 | refine below_set ?_ GE404.out) | exact HB.out)⟩⟩
                                    · rw [if_neg c42] at H
                                      exact absurd H (by simp)
                                  · rw [if_neg c41] at H
                                    exact absurd H (by simp)
                                · rw [if_neg c40] at H
                                  exact absurd H (by simp)
                            · rw [if_neg c32] at H
                              exact absurd H (by simp)
                          · rw [if_neg c31] at H
                            exact absurd H (by simp)
                        · rw [if_neg c30] at H
                          have n1_ := Aside0.mk (below_then HBo.out HBo.out.size HB.out)
                          have n2_ := Aside0.mk (Kd.R_lower HO_11.out HBo.out.size)
                          have n3_ := Aside0.mk (Kd.R_lower HO_12.out HBo.out.size)
                          clear HB HO_11 HO_12
                          have HB := n1_
                          have HO_11 := n2_
                          have HO_12 := n3_
                          clear n1_ n2_ n3_
                          have c30b0 : decide (x68_2 < ((rd_L7 t409 (ji22)).length : Int)) = false := decide_eq_false c30
                          (try (have c30b0_0 := c30b0; rw [hl415_0] at c30b0_0))
                          (try (have c30b0_1 := c30b0; rw [hl416_0] at c30b0_1))
                          (try (have c30b0_2 := c30b0; rw [hl432_0] at c30b0_2))
                          clear c30
                          have H' := Aside0.mk H
                          clear H
                          go_wp2
                          repeat (go_quiet (fail); try go_wp2)
                          go_loopg [15, 16, 96] k2 (fun kq v15 v16 v96 w' => ∃ (x15_3 : Bool) (x16_3 : Bool) (x96_3 : Int), v15 = .bool x15_3 ∧ v16 = .bool x16_3 ∧ v96 = .int .i64 x96_3 ∧ Aside0 (cantinglaw07_WaxLattice.l1 kq x11_2 x12_2 x15_3 x16_3 t409 (t409.length : Int) x96_3 = some r) ∧ Aside0 (kq ≤ k2) ∧ Aside0 (Kd.R Kd.bool 4 w' w.heap.size (fun k_ => some k_ ≠ (u12 : Value).ownBlock) u11 x11_2) ∧ Aside0 (Kd.R Kd.bool 4 w' w.heap.size (fun k_ => some k_ ≠ (u11 : Value).ownBlock) u12 x12_2) ∧ Aside0 (Kd.S (Kd.slice 4 Kd.bool) 45 w' w.heap.size (fun k_ => some k_ ≠ (u11 : Value).ownBlock ∧ some k_ ≠ (u12 : Value).ownBlock) (.slice (some ad415) t409.length co29) t409) ∧ Aside0 (w'.heap[gb404]? = some (.cells #[.int .i64 a0_0, (.slice A0_1 l0_1.length c0_1)] 24 (0, 0))) ∧ Aside0 (Below w.heap.size w w'))
                          case atStart => exact ⟨(false), (false), (0), (by first | rfl | (simp; done) | (simp [*]; done)), (by first | rfl | (simp; done) | (simp [*]; done)), (by first | rfl | (simp; done) | (simp [*]; done)), H', ⟨Nat.le_refl _⟩, ⟨by (with_reducible repeat (first | apply Kd.R_alloc | apply Kd.R_drewN | apply Kd.R_drew)); exact HO_11.out⟩, ⟨by (with_reducible repeat (first | apply Kd.R_alloc | apply Kd.R_drewN | apply Kd.R_drew)); exact HO_12.out⟩, ⟨by (with_reducible repeat (first | apply Kd.S_alloc | apply Kd.S_drewN | apply Kd.S_drew)); exact HO_7.out⟩, ⟨by (with_reducible repeat (first | refine blk_drewN ?_ _ | refine blk_drew ?_ | refine blk_alloc ?_ _)); exact BK404.out⟩, ⟨by repeat (first | (with_reducible first | exact HB.out | apply below_alloc | apply pw_below_drewN | apply below_drew1 | refine below_set ?_ GE404.out) | exact HB.out)⟩⟩
                          case round =>
                            clear H'
                            try clear c1
                            try clear c2
                            try clear p2
                            try clear c3
                            try clear q3
                            try clear c4
                            try clear p4
                            try clear q4
                            try clear hx4
                            try clear p6
                            try clear c8
                            try clear c12
                            try clear c12b0
                            try clear c12b1
                            try clear c14
                            try clear c15
                            try clear c15b0
                            try clear c15b1
                            try clear c18
                            try clear c18b0
                            try clear c18b1
                            try clear c21
                            try clear c21b0
                            try clear c21b1
                            try clear c23
                            try clear c23b0
                            try clear c24
                            try clear c24b0
                            try clear c26
                            try clear c26b0
                            try clear c27
                            try clear c27b0
                            try clear c28
                            try clear c28b0
                            try clear c28b1
                            try clear c28b2
                            try clear c30
                            try clear c30b0
                            try clear c31
                            try clear c31b0
                            try clear c32
                            try clear c32b0
                            try clear q33
                            try clear c34
                            try clear c35
                            try clear c35b0
                            try clear c36
                            try clear c37
                            try clear c40
                            try clear c41
                            try clear c41b0
                            try clear p41
                            try clear q41
                            try clear hx41
                            try clear c42
                            try clear p42
                            try clear q42
                            try clear hx42
                            try clear hcz8_0
                            try clear hcz8_1
                            try clear hfz8_0
                            try clear hfz8_1
                            try clear hx415_0
                            try clear hx416_0
                            try clear hx417_0
                            try clear hx418_0
                            try clear hx428_0
                            try clear p2
                            try clear p4
                            try clear p415
                            try clear p416
                            try clear p417
                            try clear p418
                            try clear p428
                            try clear p6
                            try clear q4
                            try clear q415
                            try clear q416
                            try clear q417
                            try clear q418
                            try clear q428
                            obtain ⟨x15_3, x16_3, x96_3, rfl, rfl, rfl, HA, HK3, HO_11, HO_12, HO_94, BK404, HB⟩ := hrel
                            cases gk with
                            | zero => exact absurd HA.out (by simp [cantinglaw07_WaxLattice.l1])
                            | succ k3 =>
                              have H := HA.out
                              clear HA
                              simp only [cantinglaw07_WaxLattice.l1] at H
                              by_cases c45 : x96_3 < (t409.length : Int)
                              · rw [if_pos c45] at H
                                have c45b0 : decide (x96_3 < (t409.length : Int)) = true := decide_eq_true c45
                                (try (have c45b0_0 := c45b0; rw [hl415_0] at c45b0_0))
                                (try (have c45b0_1 := c45b0; rw [hl416_0] at c45b0_1))
                                (try (have c45b0_2 := c45b0; rw [hl432_0] at c45b0_2))
                                clear c45
                                by_cases c46 : 0 ≤ x96_3
                                · rw [if_pos c46] at H
                                  have c46b0 : decide (0 ≤ x96_3) = true := decide_eq_true c46
                                  (try (have c46b0_0 := c46b0; rw [hl415_0] at c46b0_0))
                                  (try (have c46b0_1 := c46b0; rw [hl416_0] at c46b0_1))
                                  (try (have c46b0_2 := c46b0; rw [hl432_0] at c46b0_2))
                                  clear c46
                                  by_cases c47 : x96_3 < (t409.length : Int)
                                  · rw [if_pos c47] at H
                                    have c47b0 : decide (x96_3 < (t409.length : Int)) = true := decide_eq_true c47
                                    (try (have c47b0_0 := c47b0; rw [hl415_0] at c47b0_0))
                                    (try (have c47b0_1 := c47b0; rw [hl416_0] at c47b0_1))
                                    (try (have c47b0_2 := c47b0; rw [hl432_0] at c47b0_2))
                                    clear c47
                                    by_cases c48 : x15_3 = true
                                    · subst c48
                                      have H1 : (if x16_3 = true then (cantinglaw07_WaxLattice.l1 k3 x11_2 x12_2 true true t409 (t409.length : Int) (wrap64 (x96_3 + 1))) else ((slices_Equal_bool_bool.f k3 (rd_L7 t409 x96_3) x12_2).bind fun t433 => (cantinglaw07_WaxLattice.l1 k3 x11_2 x12_2 true t433 t409 (t409.length : Int) (wrap64 (x96_3 + 1))))) = some r := by rw [if_pos rfl] at H; exact H
                                      clear H
                                      have H := H1
                                      clear H1
                                      by_cases c49 : x16_3 = true
                                      · subst c49
                                        have H1 : (cantinglaw07_WaxLattice.l1 k3 x11_2 x12_2 true true t409 (t409.length : Int) (wrap64 (x96_3 + 1))) = some r := by rw [if_pos rfl] at H; exact H
                                        clear H
                                        have H := H1
                                        clear H1
                                        have H' := Aside0.mk H
                                        clear H
                                        have p432 : 0 ≤ (x96_3 : Int) := of_decide_eq_true (by first | (with_reducible assumption) | assumption)
                                        have q432 : x96_3 < (t409.length : Int) := of_decide_eq_true (by first | (with_reducible assumption) | assumption)
                                        obtain ⟨ad432, A432_0, c432_0, e432, hx432_0, hl432_0, hi432_0⟩ := at_L7 (Kd.S_reads' HO_94.out).2.2 x96_3 p432 q432
                                        obtain rfl : ad415 = ad432 := (by injection e432)
                                        obtain ⟨ce432, hce432, hMe432, hcc432⟩ := Kd.S_get HO_94.out [] x96_3 p432 (by first | exact q432 | exact of_decide_eq_true (by first | (with_reducible assumption) | assumption) | (have e_ := (Kd.S_reads' HO_94.out).1; omega))
                                        obtain ⟨ve432_0, rfl, ge432_0⟩ := hMe432
                                        have hv432_0 := hcc432 0 _ rfl
                                        rw [Nat.add_zero, show ((Kd.slice 4 Kd.bool)).sz = 1 from rfl, Nat.mul_one] at hv432_0
                                        replace hv432_0 := Option.some.inj (hv432_0.symm.trans hx432_0)
                                        rw [hv432_0] at ge432_0
                                        have HL432_0 := Aside0.mk (show Kd.R Kd.bool 4 _ _ _ _ (rd_L7 t409 x96_3) from ge432_0)
                                        clear hv432_0 ge432_0
                                        clear hcc432 hce432
                                        have HR432_0 := Aside0.mk hi432_0
                                        have HC432_0 := Aside0.mk hl432_0
                                        clear hi432_0 hl432_0
                                        replace p432 := eq_true p432
                                        replace q432 := eq_true q432
                                        go_wp2
                                        repeat (go_quiet (fail); try go_wp2)
                                        go_roundg k3
                                        case measure => have := HJ5.out; have := HK2.out; have := HK3.out; omega
                                        case rel => exact ⟨(true), (true), (wrap64 (x96_3 + 1)), (by first | rfl | (simp; done) | (simp [*]; done)), (by first | rfl | (simp; done) | (simp [*]; done)), (by first | rfl | (simp; done) | (simp [*]; done)), H', ⟨by have := HJ5.out; have := HK2.out; have := HK3.out; omega⟩, ⟨by (with_reducible repeat (first | apply Kd.R_alloc | apply Kd.R_drewN | apply Kd.R_drew)); exact HO_11.out⟩, ⟨by (with_reducible repeat (first | apply Kd.R_alloc | apply Kd.R_drewN | apply Kd.R_drew)); exact HO_12.out⟩, ⟨by (with_reducible repeat (first | apply Kd.S_alloc | apply Kd.S_drewN | apply Kd.S_drew)); exact HO_94.out⟩, ⟨by (with_reducible repeat (first | refine blk_drewN ?_ _ | refine blk_drew ?_ | refine blk_alloc ?_ _)); exact BK404.out⟩, ⟨by repeat (first | (with_reducible first | exact HB.out | apply below_alloc | apply pw_below_drewN | apply below_drew1 | refine below_set ?_ GE404.out) | exact HB.out)⟩⟩
                                      · replace c49 := Bool.eq_false_iff.mpr c49
                                        subst c49
                                        have H1 : ((slices_Equal_bool_bool.f k3 (rd_L7 t409 x96_3) x12_2).bind fun t433 => (cantinglaw07_WaxLattice.l1 k3 x11_2 x12_2 true t433 t409 (t409.length : Int) (wrap64 (x96_3 + 1)))) = some r := by rw [if_neg (show ¬ (false = true) by decide)] at H; exact H
                                        clear H
                                        have H := H1
                                        clear H1
                                        replace H := Option.bind_eq_some_iff.mp H
                                        obtain ⟨t433, A500, H⟩ := H
                                        replace H : (cantinglaw07_WaxLattice.l1 k3 x11_2 x12_2 true t433 t409 (t409.length : Int) (wrap64 (x96_3 + 1))) = some r := H
                                        have A50 := Aside0.mk A500
                                        clear A500
                                        have H' := Aside0.mk H
                                        clear H
                                        have p432 : 0 ≤ (x96_3 : Int) := of_decide_eq_true (by first | (with_reducible assumption) | assumption)
                                        have q432 : x96_3 < (t409.length : Int) := of_decide_eq_true (by first | (with_reducible assumption) | assumption)
                                        obtain ⟨ad432, A432_0, c432_0, e432, hx432_0, hl432_0, hi432_0⟩ := at_L7 (Kd.S_reads' HO_94.out).2.2 x96_3 p432 q432
                                        obtain rfl : ad415 = ad432 := (by injection e432)
                                        obtain ⟨ce432, hce432, hMe432, hcc432⟩ := Kd.S_get HO_94.out [] x96_3 p432 (by first | exact q432 | exact of_decide_eq_true (by first | (with_reducible assumption) | assumption) | (have e_ := (Kd.S_reads' HO_94.out).1; omega))
                                        obtain ⟨ve432_0, rfl, ge432_0⟩ := hMe432
                                        have hv432_0 := hcc432 0 _ rfl
                                        rw [Nat.add_zero, show ((Kd.slice 4 Kd.bool)).sz = 1 from rfl, Nat.mul_one] at hv432_0
                                        replace hv432_0 := Option.some.inj (hv432_0.symm.trans hx432_0)
                                        rw [hv432_0] at ge432_0
                                        have HL432_0 := Aside0.mk (show Kd.R Kd.bool 4 _ _ _ _ (rd_L7 t409 x96_3) from ge432_0)
                                        clear hv432_0 ge432_0
                                        clear hcc432 hce432
                                        have HR432_0 := Aside0.mk hi432_0
                                        have HC432_0 := Aside0.mk hl432_0
                                        clear hi432_0 hl432_0
                                        replace p432 := eq_true p432
                                        replace q432 := eq_true q432
                                        obtain ⟨Ao51, co51, eo51⟩ := Kd.R_slice HO_12.out
                                        subst eo51
                                        go_wp2_with (first | (go_at_call 30; (with_reducible refine (slices_Equal_bool_bool.calls k3 _ _ (rd_L7 t409 x96_3) _ _ x12_2 t433 _ ?side1 ?side2 ?side3 ?side4 A50.out).mono ?_); (case side1 => repeat (first | exact (by repeat (first | (with_reducible exact HR432_0.out) | (with_reducible refine Kd.C_alloc ?_ _) | (with_reducible refine Kd.C_drewN ?_ _) | (with_reducible refine Kd.C_drew ?_) | exact HR432_0.out)) | (with_reducible refine Kd.C_alloc ?_ _) | (with_reducible refine Kd.C_drewN ?_ _) | (with_reducible refine Kd.C_drew ?_))); (case side2 => exact HC432_0.out); (case side3 => repeat (first | exact (Kd.R_reads' HO_12.out).2.2 | (with_reducible refine Kd.C_alloc ?_ _) | (with_reducible refine Kd.C_drewN ?_ _) | (with_reducible refine Kd.C_drew ?_))); (case side4 => exact (Kd.R_reads' HO_12.out).2.1); rintro e w' ⟨rfl, ⟨nd, rfl⟩⟩; (try first | exact ⟨rfl, _, World.drewN_drewN _ _ _⟩ | exact ⟨rfl, _, Eq.trans (World.drewN_drewN _ _ _) (congrArg (World.drewN _) (Nat.add_assoc _ _ _))⟩)))
                                        repeat (go_quiet (first | (go_at_call 30; (with_reducible refine (slices_Equal_bool_bool.calls k3 _ _ (rd_L7 t409 x96_3) _ _ x12_2 t433 _ ?side1 ?side2 ?side3 ?side4 A50.out).mono ?_); (case side1 => repeat (first | exact (by repeat (first | (with_reducible exact HR432_0.out) | (with_reducible refine Kd.C_alloc ?_ _) | (with_reducible refine Kd.C_drewN ?_ _) | (with_reducible refine Kd.C_drew ?_) | exact HR432_0.out)) | (with_reducible refine Kd.C_alloc ?_ _) | (with_reducible refine Kd.C_drewN ?_ _) | (with_reducible refine Kd.C_drew ?_))); (case side2 => exact HC432_0.out); (case side3 => repeat (first | exact (Kd.R_reads' HO_12.out).2.2 | (with_reducible refine Kd.C_alloc ?_ _) | (with_reducible refine Kd.C_drewN ?_ _) | (with_reducible refine Kd.C_drew ?_))); (case side4 => exact (Kd.R_reads' HO_12.out).2.1); rintro e w' ⟨rfl, ⟨nd, rfl⟩⟩; (try first | exact ⟨rfl, _, World.drewN_drewN _ _ _⟩ | exact ⟨rfl, _, Eq.trans (World.drewN_drewN _ _ _) (congrArg (World.drewN _) (Nat.add_assoc _ _ _))⟩))); try go_wp2_with (first | (go_at_call 30; (with_reducible refine (slices_Equal_bool_bool.calls k3 _ _ (rd_L7 t409 x96_3) _ _ x12_2 t433 _ ?side1 ?side2 ?side3 ?side4 A50.out).mono ?_); (case side1 => repeat (first | exact (by repeat (first | (with_reducible exact HR432_0.out) | (with_reducible refine Kd.C_alloc ?_ _) | (with_reducible refine Kd.C_drewN ?_ _) | (with_reducible refine Kd.C_drew ?_) | exact HR432_0.out)) | (with_reducible refine Kd.C_alloc ?_ _) | (with_reducible refine Kd.C_drewN ?_ _) | (with_reducible refine Kd.C_drew ?_))); (case side2 => exact HC432_0.out); (case side3 => repeat (first | exact (Kd.R_reads' HO_12.out).2.2 | (with_reducible refine Kd.C_alloc ?_ _) | (with_reducible refine Kd.C_drewN ?_ _) | (with_reducible refine Kd.C_drew ?_))); (case side4 => exact (Kd.R_reads' HO_12.out).2.1); rintro e w' ⟨rfl, ⟨nd, rfl⟩⟩; (try first | exact ⟨rfl, _, World.drewN_drewN _ _ _⟩ | exact ⟨rfl, _, Eq.trans (World.drewN_drewN _ _ _) (congrArg (World.drewN _) (Nat.add_assoc _ _ _))⟩))))
                                        go_roundg k3
                                        case measure => have := HJ5.out; have := HK2.out; have := HK3.out; omega
                                        case rel => exact ⟨(true), (t433), (wrap64 (x96_3 + 1)), (by first | rfl | (simp; done) | (simp [*]; done)), (by first | rfl | (simp; done) | (simp [*]; done)), (by first | rfl | (simp; done) | (simp [*]; done)), H', ⟨by have := HJ5.out; have := HK2.out; have := HK3.out; omega⟩, ⟨by (with_reducible repeat (first | apply Kd.R_alloc | apply Kd.R_drewN | apply Kd.R_drew)); exact HO_11.out⟩, ⟨by (with_reducible repeat (first | apply Kd.R_alloc | apply Kd.R_drewN | apply Kd.R_drew)); exact HO_12.out⟩, ⟨by (with_reducible repeat (first | apply Kd.S_alloc | apply Kd.S_drewN | apply Kd.S_drew)); exact HO_94.out⟩, ⟨by (with_reducible repeat (first | refine blk_drewN ?_ _ | refine blk_drew ?_ | refine blk_alloc ?_ _)); exact BK404.out⟩, ⟨by repeat (first | (with_reducible first | exact HB.out | apply below_alloc | apply pw_below_drewN | apply below_drew1 | refine below_set ?_ GE404.out) | exact HB.out)⟩⟩
                                    · replace c48 := Bool.eq_false_iff.mpr c48
                                      subst c48
                                      have H1 : ((slices_Equal_bool_bool.f k3 (rd_L7 t409 x96_3) x11_2).bind fun t434 => (if x16_3 = true then (cantinglaw07_WaxLattice.l1 k3 x11_2 x12_2 t434 true t409 (t409.length : Int) (wrap64 (x96_3 + 1))) else ((slices_Equal_bool_bool.f k3 (rd_L7 t409 x96_3) x12_2).bind fun t435 => (cantinglaw07_WaxLattice.l1 k3 x11_2 x12_2 t434 t435 t409 (t409.length : Int) (wrap64 (x96_3 + 1)))))) = some r := by rw [if_neg (show ¬ (false = true) by decide)] at H; exact H
                                      clear H
                                      have H := H1
                                      clear H1
                                      replace H := Option.bind_eq_some_iff.mp H
                                      obtain ⟨t434, A520, H⟩ := H
                                      replace H : (if x16_3 = true then (cantinglaw07_WaxLattice.l1 k3 x11_2 x12_2 t434 true t409 (t409.length : Int) (wrap64 (x96_3 + 1))) else ((slices_Equal_bool_bool.f k3 (rd_L7 t409 x96_3) x12_2).bind fun t435 => (cantinglaw07_WaxLattice.l1 k3 x11_2 x12_2 t434 t435 t409 (t409.length : Int) (wrap64 (x96_3 + 1))))) = some r := H
                                      have A52 := Aside0.mk A520
                                      clear A520
                                      by_cases c53 : x16_3 = true
                                      · subst c53
                                        have H1 : (cantinglaw07_WaxLattice.l1 k3 x11_2 x12_2 t434 true t409 (t409.length : Int) (wrap64 (x96_3 + 1))) = some r := by rw [if_pos rfl] at H; exact H
                                        clear H
                                        have H := H1
                                        clear H1
                                        have H' := Aside0.mk H
                                        clear H
                                        have p432 : 0 ≤ (x96_3 : Int) := of_decide_eq_true (by first | (with_reducible assumption) | assumption)
                                        have q432 : x96_3 < (t409.length : Int) := of_decide_eq_true (by first | (with_reducible assumption) | assumption)
                                        obtain ⟨ad432, A432_0, c432_0, e432, hx432_0, hl432_0, hi432_0⟩ := at_L7 (Kd.S_reads' HO_94.out).2.2 x96_3 p432 q432
                                        obtain rfl : ad415 = ad432 := (by injection e432)
                                        obtain ⟨ce432, hce432, hMe432, hcc432⟩ := Kd.S_get HO_94.out [] x96_3 p432 (by first | exact q432 | exact of_decide_eq_true (by first | (with_reducible assumption) | assumption) | (have e_ := (Kd.S_reads' HO_94.out).1; omega))
                                        obtain ⟨ve432_0, rfl, ge432_0⟩ := hMe432
                                        have hv432_0 := hcc432 0 _ rfl
                                        rw [Nat.add_zero, show ((Kd.slice 4 Kd.bool)).sz = 1 from rfl, Nat.mul_one] at hv432_0
                                        replace hv432_0 := Option.some.inj (hv432_0.symm.trans hx432_0)
                                        rw [hv432_0] at ge432_0
                                        have HL432_0 := Aside0.mk (show Kd.R Kd.bool 4 _ _ _ _ (rd_L7 t409 x96_3) from ge432_0)
                                        clear hv432_0 ge432_0
                                        clear hcc432 hce432
                                        have HR432_0 := Aside0.mk hi432_0
                                        have HC432_0 := Aside0.mk hl432_0
                                        clear hi432_0 hl432_0
                                        replace p432 := eq_true p432
                                        replace q432 := eq_true q432
                                        obtain ⟨Ao54, co54, eo54⟩ := Kd.R_slice HO_11.out
                                        subst eo54
                                        go_wp2_with (first | (go_at_call 30; (with_reducible refine (slices_Equal_bool_bool.calls k3 _ _ (rd_L7 t409 x96_3) _ _ x11_2 t434 _ ?side1 ?side2 ?side3 ?side4 A52.out).mono ?_); (case side1 => repeat (first | exact (by repeat (first | (with_reducible exact HR432_0.out) | (with_reducible refine Kd.C_alloc ?_ _) | (with_reducible refine Kd.C_drewN ?_ _) | (with_reducible refine Kd.C_drew ?_) | exact HR432_0.out)) | (with_reducible refine Kd.C_alloc ?_ _) | (with_reducible refine Kd.C_drewN ?_ _) | (with_reducible refine Kd.C_drew ?_))); (case side2 => exact HC432_0.out); (case side3 => repeat (first | exact (Kd.R_reads' HO_11.out).2.2 | (with_reducible refine Kd.C_alloc ?_ _) | (with_reducible refine Kd.C_drewN ?_ _) | (with_reducible refine Kd.C_drew ?_))); (case side4 => exact (Kd.R_reads' HO_11.out).2.1); rintro e w' ⟨rfl, ⟨nd, rfl⟩⟩; (try first | exact ⟨rfl, _, World.drewN_drewN _ _ _⟩ | exact ⟨rfl, _, Eq.trans (World.drewN_drewN _ _ _) (congrArg (World.drewN _) (Nat.add_assoc _ _ _))⟩)))
                                        repeat (go_quiet (first | (go_at_call 30; (with_reducible refine (slices_Equal_bool_bool.calls k3 _ _ (rd_L7 t409 x96_3) _ _ x11_2 t434 _ ?side1 ?side2 ?side3 ?side4 A52.out).mono ?_); (case side1 => repeat (first | exact (by repeat (first | (with_reducible exact HR432_0.out) | (with_reducible refine Kd.C_alloc ?_ _) | (with_reducible refine Kd.C_drewN ?_ _) | (with_reducible refine Kd.C_drew ?_) | exact HR432_0.out)) | (with_reducible refine Kd.C_alloc ?_ _) | (with_reducible refine Kd.C_drewN ?_ _) | (with_reducible refine Kd.C_drew ?_))); (case side2 => exact HC432_0.out); (case side3 => repeat (first | exact (Kd.R_reads' HO_11.out).2.2 | (with_reducible refine Kd.C_alloc ?_ _) | (with_reducible refine Kd.C_drewN ?_ _) | (with_reducible refine Kd.C_drew ?_))); (case side4 => exact (Kd.R_reads' HO_11.out).2.1); rintro e w' ⟨rfl, ⟨nd, rfl⟩⟩; (try first | exact ⟨rfl, _, World.drewN_drewN _ _ _⟩ | exact ⟨rfl, _, Eq.trans (World.drewN_drewN _ _ _) (congrArg (World.drewN _) (Nat.add_assoc _ _ _))⟩))); try go_wp2_with (first | (go_at_call 30; (with_reducible refine (slices_Equal_bool_bool.calls k3 _ _ (rd_L7 t409 x96_3) _ _ x11_2 t434 _ ?side1 ?side2 ?side3 ?side4 A52.out).mono ?_); (case side1 => repeat (first | exact (by repeat (first | (with_reducible exact HR432_0.out) | (with_reducible refine Kd.C_alloc ?_ _) | (with_reducible refine Kd.C_drewN ?_ _) | (with_reducible refine Kd.C_drew ?_) | exact HR432_0.out)) | (with_reducible refine Kd.C_alloc ?_ _) | (with_reducible refine Kd.C_drewN ?_ _) | (with_reducible refine Kd.C_drew ?_))); (case side2 => exact HC432_0.out); (case side3 => repeat (first | exact (Kd.R_reads' HO_11.out).2.2 | (with_reducible refine Kd.C_alloc ?_ _) | (with_reducible refine Kd.C_drewN ?_ _) | (with_reducible refine Kd.C_drew ?_))); (case side4 => exact (Kd.R_reads' HO_11.out).2.1); rintro e w' ⟨rfl, ⟨nd, rfl⟩⟩; (try first | exact ⟨rfl, _, World.drewN_drewN _ _ _⟩ | exact ⟨rfl, _, Eq.trans (World.drewN_drewN _ _ _) (congrArg (World.drewN _) (Nat.add_assoc _ _ _))⟩))))
                                        go_roundg k3
                                        case measure => have := HJ5.out; have := HK2.out; have := HK3.out; omega
                                        case rel => exact ⟨(t434), (true), (wrap64 (x96_3 + 1)), (by first | rfl | (simp; done) | (simp [*]; done)), (by first | rfl | (simp; done) | (simp [*]; done)), (by first | rfl | (simp; done) | (simp [*]; done)), H', ⟨by have := HJ5.out; have := HK2.out; have := HK3.out; omega⟩, ⟨by (with_reducible repeat (first | apply Kd.R_alloc | apply Kd.R_drewN | apply Kd.R_drew)); exact HO_11.out⟩, ⟨by (with_reducible repeat (first | apply Kd.R_alloc | apply Kd.R_drewN | apply Kd.R_drew)); exact HO_12.out⟩, ⟨by (with_reducible repeat (first | apply Kd.S_alloc | apply Kd.S_drewN | apply Kd.S_drew)); exact HO_94.out⟩, ⟨by (with_reducible repeat (first | refine blk_drewN ?_ _ | refine blk_drew ?_ | refine blk_alloc ?_ _)); exact BK404.out⟩, ⟨by repeat (first | (with_reducible first | exact HB.out | apply below_alloc | apply pw_below_drewN | apply below_drew1 | refine below_set ?_ GE404.out) | exact HB.out)⟩⟩
                                      · replace c53 := Bool.eq_false_iff.mpr c53
                                        subst c53
                                        have H1 : ((slices_Equal_bool_bool.f k3 (rd_L7 t409 x96_3) x12_2).bind fun t435 => (cantinglaw07_WaxLattice.l1 k3 x11_2 x12_2 t434 t435 t409 (t409.length : Int) (wrap64 (x96_3 + 1)))) = some r := by rw [if_neg (show ¬ (false = true) by decide)] at H; exact H
                                        clear H
                                        have H := H1
                                        clear H1
                                        replace H := Option.bind_eq_some_iff.mp H
                                        obtain ⟨t435, A550, H⟩ := H
                                        replace H : (cantinglaw07_WaxLattice.l1 k3 x11_2 x12_2 t434 t435 t409 (t409.length : Int) (wrap64 (x96_3 + 1))) = some r := H
                                        have A55 := Aside0.mk A550
                                        clear A550
                                        have H' := Aside0.mk H
                                        clear H
                                        have p432 : 0 ≤ (x96_3 : Int) := of_decide_eq_true (by first | (with_reducible assumption) | assumption)
                                        have q432 : x96_3 < (t409.length : Int) := of_decide_eq_true (by first | (with_reducible assumption) | assumption)
                                        obtain ⟨ad432, A432_0, c432_0, e432, hx432_0, hl432_0, hi432_0⟩ := at_L7 (Kd.S_reads' HO_94.out).2.2 x96_3 p432 q432
                                        obtain rfl : ad415 = ad432 := (by injection e432)
                                        obtain ⟨ce432, hce432, hMe432, hcc432⟩ := Kd.S_get HO_94.out [] x96_3 p432 (by first | exact q432 | exact of_decide_eq_true (by first | (with_reducible assumption) | assumption) | (have e_ := (Kd.S_reads' HO_94.out).1; omega))
                                        obtain ⟨ve432_0, rfl, ge432_0⟩ := hMe432
                                        have hv432_0 := hcc432 0 _ rfl
                                        rw [Nat.add_zero, show ((Kd.slice 4 Kd.bool)).sz = 1 from rfl, Nat.mul_one] at hv432_0
                                        replace hv432_0 := Option.some.inj (hv432_0.symm.trans hx432_0)
                                        rw [hv432_0] at ge432_0
                                        have HL432_0 := Aside0.mk (show Kd.R Kd.bool 4 _ _ _ _ (rd_L7 t409 x96_3) from ge432_0)
                                        clear hv432_0 ge432_0
                                        clear hcc432 hce432
                                        have HR432_0 := Aside0.mk hi432_0
                                        have HC432_0 := Aside0.mk hl432_0
                                        clear hi432_0 hl432_0
                                        replace p432 := eq_true p432
                                        replace q432 := eq_true q432
                                        obtain ⟨Ao56, co56, eo56⟩ := Kd.R_slice HO_11.out
                                        subst eo56
                                        go_wp2_with (first | (go_at_call 30; (with_reducible refine (slices_Equal_bool_bool.calls k3 _ _ (rd_L7 t409 x96_3) _ _ x11_2 t434 _ ?side1 ?side2 ?side3 ?side4 A52.out).mono ?_); (case side1 => repeat (first | exact (by repeat (first | (with_reducible exact HR432_0.out) | (with_reducible refine Kd.C_alloc ?_ _) | (with_reducible refine Kd.C_drewN ?_ _) | (with_reducible refine Kd.C_drew ?_) | exact HR432_0.out)) | (with_reducible refine Kd.C_alloc ?_ _) | (with_reducible refine Kd.C_drewN ?_ _) | (with_reducible refine Kd.C_drew ?_))); (case side2 => exact HC432_0.out); (case side3 => repeat (first | exact (Kd.R_reads' HO_11.out).2.2 | (with_reducible refine Kd.C_alloc ?_ _) | (with_reducible refine Kd.C_drewN ?_ _) | (with_reducible refine Kd.C_drew ?_))); (case side4 => exact (Kd.R_reads' HO_11.out).2.1); rintro e w' ⟨rfl, ⟨nd, rfl⟩⟩; (try first | exact ⟨rfl, _, World.drewN_drewN _ _ _⟩ | exact ⟨rfl, _, Eq.trans (World.drewN_drewN _ _ _) (congrArg (World.drewN _) (Nat.add_assoc _ _ _))⟩); obtain ⟨Ao57, co57, eo57⟩ := Kd.R_slice HO_12.out; subst eo57) | (go_at_call 30; (with_reducible refine (slices_Equal_bool_bool.calls k3 _ _ (rd_L7 t409 x96_3) _ _ x12_2 t435 _ ?side1 ?side2 ?side3 ?side4 A55.out).mono ?_); (case side1 => repeat (first | exact (by repeat (first | (with_reducible exact HR432_0.out) | (with_reducible refine Kd.C_alloc ?_ _) | (with_reducible refine Kd.C_drewN ?_ _) | (with_reducible refine Kd.C_drew ?_) | exact HR432_0.out)) | (with_reducible refine Kd.C_alloc ?_ _) | (with_reducible refine Kd.C_drewN ?_ _) | (with_reducible refine Kd.C_drew ?_))); (case side2 => exact HC432_0.out); (case side3 => repeat (first | exact (Kd.R_reads' HO_12.out).2.2 | (with_reducible refine Kd.C_alloc ?_ _) | (with_reducible refine Kd.C_drewN ?_ _) | (with_reducible refine Kd.C_drew ?_))); (case side4 => exact (Kd.R_reads' HO_12.out).2.1); rintro e w' ⟨rfl, ⟨nd, rfl⟩⟩; (try first | exact ⟨rfl, _, World.drewN_drewN _ _ _⟩ | exact ⟨rfl, _, Eq.trans (World.drewN_drewN _ _ _) (congrArg (World.drewN _) (Nat.add_assoc _ _ _))⟩)))
                                        repeat (go_quiet (first | (go_at_call 30; (with_reducible refine (slices_Equal_bool_bool.calls k3 _ _ (rd_L7 t409 x96_3) _ _ x11_2 t434 _ ?side1 ?side2 ?side3 ?side4 A52.out).mono ?_); (case side1 => repeat (first | exact (by repeat (first | (with_reducible exact HR432_0.out) | (with_reducible refine Kd.C_alloc ?_ _) | (with_reducible refine Kd.C_drewN ?_ _) | (with_reducible refine Kd.C_drew ?_) | exact HR432_0.out)) | (with_reducible refine Kd.C_alloc ?_ _) | (with_reducible refine Kd.C_drewN ?_ _) | (with_reducible refine Kd.C_drew ?_))); (case side2 => exact HC432_0.out); (case side3 => repeat (first | exact (Kd.R_reads' HO_11.out).2.2 | (with_reducible refine Kd.C_alloc ?_ _) | (with_reducible refine Kd.C_drewN ?_ _) | (with_reducible refine Kd.C_drew ?_))); (case side4 => exact (Kd.R_reads' HO_11.out).2.1); rintro e w' ⟨rfl, ⟨nd, rfl⟩⟩; (try first | exact ⟨rfl, _, World.drewN_drewN _ _ _⟩ | exact ⟨rfl, _, Eq.trans (World.drewN_drewN _ _ _) (congrArg (World.drewN _) (Nat.add_assoc _ _ _))⟩); obtain ⟨Ao57, co57, eo57⟩ := Kd.R_slice HO_12.out; subst eo57) | (go_at_call 30; (with_reducible refine (slices_Equal_bool_bool.calls k3 _ _ (rd_L7 t409 x96_3) _ _ x12_2 t435 _ ?side1 ?side2 ?side3 ?side4 A55.out).mono ?_); (case side1 => repeat (first | exact (by repeat (first | (with_reducible exact HR432_0.out) | (with_reducible refine Kd.C_alloc ?_ _) | (with_reducible refine Kd.C_drewN ?_ _) | (with_reducible refine Kd.C_drew ?_) | exact HR432_0.out)) | (with_reducible refine Kd.C_alloc ?_ _) | (with_reducible refine Kd.C_drewN ?_ _) | (with_reducible refine Kd.C_drew ?_))); (case side2 => exact HC432_0.out); (case side3 => repeat (first | exact (Kd.R_reads' HO_12.out).2.2 | (with_reducible refine Kd.C_alloc ?_ _) | (with_reducible refine Kd.C_drewN ?_ _) | (with_reducible refine Kd.C_drew ?_))); (case side4 => exact (Kd.R_reads' HO_12.out).2.1); rintro e w' ⟨rfl, ⟨nd, rfl⟩⟩; (try first | exact ⟨rfl, _, World.drewN_drewN _ _ _⟩ | exact ⟨rfl, _, Eq.trans (World.drewN_drewN _ _ _) (congrArg (World.drewN _) (Nat.add_assoc _ _ _))⟩))); try go_wp2_with (first | (go_at_call 30; (with_reducible refine (slices_Equal_bool_bool.calls k3 _ _ (rd_L7 t409 x96_3) _ _ x11_2 t434 _ ?side1 ?side2 ?side3 ?side4 A52.out).mono ?_); (case side1 => repeat (first | exact (by repeat (first | (with_reducible exact HR432_0.out) | (with_reducible refine Kd.C_alloc ?_ _) | (with_reducible refine Kd.C_drewN ?_ _) | (with_reducible refine Kd.C_drew ?_) | exact HR432_0.out)) | (with_reducible refine Kd.C_alloc ?_ _) | (with_reducible refine Kd.C_drewN ?_ _) | (with_reducible refine Kd.C_drew ?_))); (case side2 => exact HC432_0.out); (case side3 => repeat (first | exact (Kd.R_reads' HO_11.out).2.2 | (with_reducible refine Kd.C_alloc ?_ _) | (with_reducible refine Kd.C_drewN ?_ _) | (with_reducible refine Kd.C_drew ?_))); (case side4 => exact (Kd.R_reads' HO_11.out).2.1); rintro e w' ⟨rfl, ⟨nd, rfl⟩⟩; (try first | exact ⟨rfl, _, World.drewN_drewN _ _ _⟩ | exact ⟨rfl, _, Eq.trans (World.drewN_drewN _ _ _) (congrArg (World.drewN _) (Nat.add_assoc _ _ _))⟩); obtain ⟨Ao57, co57, eo57⟩ := Kd.R_slice HO_12.out; subst eo57) | (go_at_call 30; (with_reducible refine (slices_Equal_bool_bool.calls k3 _ _ (rd_L7 t409 x96_3) _ _ x12_2 t435 _ ?side1 ?side2 ?side3 ?side4 A55.out).mono ?_); (case side1 => repeat (first | exact (by repeat (first | (with_reducible exact HR432_0.out) | (with_reducible refine Kd.C_alloc ?_ _) | (with_reducible refine Kd.C_drewN ?_ _) | (with_reducible refine Kd.C_drew ?_) | exact HR432_0.out)) | (with_reducible refine Kd.C_alloc ?_ _) | (with_reducible refine Kd.C_drewN ?_ _) | (with_reducible refine Kd.C_drew ?_))); (case side2 => exact HC432_0.out); (case side3 => repeat (first | exact (Kd.R_reads' HO_12.out).2.2 | (with_reducible refine Kd.C_alloc ?_ _) | (with_reducible refine Kd.C_drewN ?_ _) | (with_reducible refine Kd.C_drew ?_))); (case side4 => exact (Kd.R_reads' HO_12.out).2.1); rintro e w' ⟨rfl, ⟨nd, rfl⟩⟩; (try first | exact ⟨rfl, _, World.drewN_drewN _ _ _⟩ | exact ⟨rfl, _, Eq.trans (World.drewN_drewN _ _ _) (congrArg (World.drewN _) (Nat.add_assoc _ _ _))⟩))))
                                        go_roundg k3
                                        case measure => have := HJ5.out; have := HK2.out; have := HK3.out; omega
                                        case rel => exact ⟨(t434), (t435), (wrap64 (x96_3 + 1)), (by first | rfl | (simp; done) | (simp [*]; done)), (by first | rfl | (simp; done) | (simp [*]; done)), (by first | rfl | (simp; done) | (simp [*]; done)), H', ⟨by have := HJ5.out; have := HK2.out; have := HK3.out; omega⟩, ⟨by (with_reducible repeat (first | apply Kd.R_alloc | apply Kd.R_drewN | apply Kd.R_drew)); exact HO_11.out⟩, ⟨by (with_reducible repeat (first | apply Kd.R_alloc | apply Kd.R_drewN | apply Kd.R_drew)); exact HO_12.out⟩, ⟨by (with_reducible repeat (first | apply Kd.S_alloc | apply Kd.S_drewN | apply Kd.S_drew)); exact HO_94.out⟩, ⟨by (with_reducible repeat (first | refine blk_drewN ?_ _ | refine blk_drew ?_ | refine blk_alloc ?_ _)); exact BK404.out⟩, ⟨by repeat (first | (with_reducible first | exact HB.out | apply below_alloc | apply pw_below_drewN | apply below_drew1 | refine below_set ?_ GE404.out) | exact HB.out)⟩⟩
                                  · rw [if_neg c47] at H
                                    exact absurd H (by simp)
                                · rw [if_neg c46] at H
                                  exact absurd H (by simp)
                              · rw [if_neg c45] at H
                                have c45b0 : decide (x96_3 < (t409.length : Int)) = false := decide_eq_false c45
                                (try (have c45b0_0 := c45b0; rw [hl415_0] at c45b0_0))
                                (try (have c45b0_1 := c45b0; rw [hl416_0] at c45b0_1))
                                (try (have c45b0_2 := c45b0; rw [hl432_0] at c45b0_2))
                                clear c45
                                by_cases c58 : x15_3 = true
                                · subst c58
                                  have H1 : (if x16_3 = true then ((cantinglaw07_awake.f).bind fun t436 => (some t436)) else (some false)) = some r := by rw [if_pos rfl] at H; exact H
                                  clear H
                                  have H := H1
                                  clear H1
                                  by_cases c59 : x16_3 = true
                                  · subst c59
                                    have H1 : ((cantinglaw07_awake.f).bind fun t436 => (some t436)) = some r := by rw [if_pos rfl] at H; exact H
                                    clear H
                                    have H := H1
                                    clear H1
                                    replace H := Option.bind_eq_some_iff.mp H
                                    obtain ⟨t436, A600, H⟩ := H
                                    replace H : (some t436) = some r := H
                                    have A60 := Aside0.mk A600
                                    clear A600
                                    obtain rfl := Option.some.inj H
                                    go_wp2_with (first | (go_at_call 18; (with_reducible refine (cantinglaw07_awake.calls  t436 _ A60.out).mono ?_); rintro e w61 ⟨rfl, hb⟩; have n0_ := Aside0.mk (Kd.R_below (by (with_reducible repeat (first | apply Kd.R_alloc | apply Kd.R_drewN | apply Kd.R_drew)); exact HO_11.out) hb); have n1_ := Aside0.mk (Kd.R_below (by (with_reducible repeat (first | apply Kd.R_alloc | apply Kd.R_drewN | apply Kd.R_drew)); exact HO_12.out) hb); have n2_ := Aside0.mk (Kd.S_below (by (with_reducible repeat (first | apply Kd.S_alloc | apply Kd.S_drewN | apply Kd.S_drew)); exact HO_94.out) hb); have n3_ := Aside0.mk (blk_below (g := gb404) (o := .cells #[.int .i64 a0_0, .slice A0_1 l0_1.length c0_1] 24 (0, 0)) (by (with_reducible repeat (first | refine blk_drewN ?_ _ | refine blk_drew ?_ | refine blk_alloc ?_ _)); exact BK404.out) hb); have n4_ := Aside0.mk (below_step (by repeat (first | (with_reducible first | exact HB.out | apply below_alloc | apply pw_below_drewN | apply below_drew1 | refine below_set ?_ GE404.out) | exact HB.out)) hb); clear HO_11; clear HO_12; clear HO_94; clear BK404; clear HB; have HO_11 := n0_; have HO_12 := n1_; have HO_94 := n2_; have BK404 := n3_; have HB := n4_; clear n0_ n1_ n2_ n3_ n4_; (try clear hb); (try clear hb2); (try clear hk); (try clear hi)))
                                    repeat (go_quiet (first | (go_at_call 18; (with_reducible refine (cantinglaw07_awake.calls  t436 _ A60.out).mono ?_); rintro e w61 ⟨rfl, hb⟩; have n0_ := Aside0.mk (Kd.R_below (by (with_reducible repeat (first | apply Kd.R_alloc | apply Kd.R_drewN | apply Kd.R_drew)); exact HO_11.out) hb); have n1_ := Aside0.mk (Kd.R_below (by (with_reducible repeat (first | apply Kd.R_alloc | apply Kd.R_drewN | apply Kd.R_drew)); exact HO_12.out) hb); have n2_ := Aside0.mk (Kd.S_below (by (with_reducible repeat (first | apply Kd.S_alloc | apply Kd.S_drewN | apply Kd.S_drew)); exact HO_94.out) hb); have n3_ := Aside0.mk (blk_below (g := gb404) (o := .cells #[.int .i64 a0_0, .slice A0_1 l0_1.length c0_1] 24 (0, 0)) (by (with_reducible repeat (first | refine blk_drewN ?_ _ | refine blk_drew ?_ | refine blk_alloc ?_ _)); exact BK404.out) hb); have n4_ := Aside0.mk (below_step (by repeat (first | (with_reducible first | exact HB.out | apply below_alloc | apply pw_below_drewN | apply below_drew1 | refine below_set ?_ GE404.out) | exact HB.out)) hb); clear HO_11; clear HO_12; clear HO_94; clear BK404; clear HB; have HO_11 := n0_; have HO_12 := n1_; have HO_94 := n2_; have BK404 := n3_; have HB := n4_; clear n0_ n1_ n2_ n3_ n4_; (try clear hb); (try clear hb2); (try clear hk); (try clear hi))); try go_wp2_with (first | (go_at_call 18; (with_reducible refine (cantinglaw07_awake.calls  t436 _ A60.out).mono ?_); rintro e w61 ⟨rfl, hb⟩; have n0_ := Aside0.mk (Kd.R_below (by (with_reducible repeat (first | apply Kd.R_alloc | apply Kd.R_drewN | apply Kd.R_drew)); exact HO_11.out) hb); have n1_ := Aside0.mk (Kd.R_below (by (with_reducible repeat (first | apply Kd.R_alloc | apply Kd.R_drewN | apply Kd.R_drew)); exact HO_12.out) hb); have n2_ := Aside0.mk (Kd.S_below (by (with_reducible repeat (first | apply Kd.S_alloc | apply Kd.S_drewN | apply Kd.S_drew)); exact HO_94.out) hb); have n3_ := Aside0.mk (blk_below (g := gb404) (o := .cells #[.int .i64 a0_0, .slice A0_1 l0_1.length c0_1] 24 (0, 0)) (by (with_reducible repeat (first | refine blk_drewN ?_ _ | refine blk_drew ?_ | refine blk_alloc ?_ _)); exact BK404.out) hb); have n4_ := Aside0.mk (below_step (by repeat (first | (with_reducible first | exact HB.out | apply below_alloc | apply pw_below_drewN | apply below_drew1 | refine below_set ?_ GE404.out) | exact HB.out)) hb); clear HO_11; clear HO_12; clear HO_94; clear BK404; clear HB; have HO_11 := n0_; have HO_12 := n1_; have HO_94 := n2_; have BK404 := n3_; have HB := n4_; clear n0_ n1_ n2_ n3_ n4_; (try clear hb); (try clear hb2); (try clear hk); (try clear hi))))
                                    go_ret
                                    exact ⟨by first | rfl | (simp [errW_none, errW_some] <;> rfl) | (simp only [← hji22, ← hji25]; first | rfl | (simp [errW_none, errW_some] <;> rfl)) | (simp [*, errW_none, errW_some] <;> rfl), by repeat (first | (with_reducible first | exact HB.out | apply below_alloc | apply pw_below_drewN | apply below_drew1 | refine below_set ?_ GE404.out) | exact HB.out)⟩
                                  · replace c59 := Bool.eq_false_iff.mpr c59
                                    subst c59
                                    have H1 : (some false) = some r := by rw [if_neg (show ¬ (false = true) by decide)] at H; exact H
                                    clear H
                                    have H := H1
                                    clear H1
                                    obtain rfl := Option.some.inj H
                                    go_wp2
                                    repeat (go_quiet (fail); try go_wp2)
                                    go_ret
                                    exact ⟨by first | rfl | (simp [errW_none, errW_some] <;> rfl) | (simp only [← hji22, ← hji25]; first | rfl | (simp [errW_none, errW_some] <;> rfl)) | (simp [*, errW_none, errW_some] <;> rfl), by repeat (first | (with_reducible first | exact HB.out | apply below_alloc | apply pw_below_drewN | apply below_drew1 | refine below_set ?_ GE404.out) | exact HB.out)⟩
                                · replace c58 := Bool.eq_false_iff.mpr c58
                                  subst c58
                                  have H1 : (some false) = some r := by rw [if_neg (show ¬ (false = true) by decide)] at H; exact H
                                  clear H
                                  have H := H1
                                  clear H1
                                  obtain rfl := Option.some.inj H
                                  go_wp2
                                  repeat (go_quiet (fail); try go_wp2)
                                  go_ret
                                  exact ⟨by first | rfl | (simp [errW_none, errW_some] <;> rfl) | (simp only [← hji22, ← hji25]; first | rfl | (simp [errW_none, errW_some] <;> rfl)) | (simp [*, errW_none, errW_some] <;> rfl), by repeat (first | (with_reducible first | exact HB.out | apply below_alloc | apply pw_below_drewN | apply below_drew1 | refine below_set ?_ GE404.out) | exact HB.out)⟩
                  · rw [if_neg c28] at H
                    have c28b0 : (((rd_L7 t409 (ji22)).length : Int) == ((rd_L7 t409 (ji25)).length : Int)) = false := beq_eq_false_iff_ne.mpr c28
                    have c28b1 : (((rd_L7 t409 (ji22)).length : Int) != ((rd_L7 t409 (ji25)).length : Int)) = true := bne_iff_ne.mpr c28
                    have c28b2 : ((rd_L7 t409 (ji22)).length == (rd_L7 t409 (ji25)).length) = false := by first | simpa using c28 | (simp at c28 ⊢; omega)
                    obtain rfl := Option.some.inj H
                    obtain ⟨Ao62, co62, eo62⟩ := Kd.S_slice HO_7.out
                    subst eo62
                    have p415 : 0 ≤ ((ji22) : Int) := of_decide_eq_true (by first | (with_reducible assumption) | assumption)
                    have q415 : (ji22) < (t409.length : Int) := of_decide_eq_true (by first | (with_reducible assumption) | assumption)
                    obtain ⟨ad415, A415_0, c415_0, e415, hx415_0, hl415_0, hi415_0⟩ := at_L7 (Kd.S_reads' HO_7.out).2.2 (ji22) p415 q415
                    cases e415
                    obtain ⟨ce415, hce415, hMe415, hcc415⟩ := Kd.S_get HO_7.out [] (ji22) p415 (by first | exact q415 | exact of_decide_eq_true (by first | (with_reducible assumption) | assumption) | (have e_ := (Kd.S_reads' HO_7.out).1; omega))
                    obtain ⟨ve415_0, rfl, ge415_0⟩ := hMe415
                    have hv415_0 := hcc415 0 _ rfl
                    rw [Nat.add_zero, show ((Kd.slice 4 Kd.bool)).sz = 1 from rfl, Nat.mul_one] at hv415_0
                    replace hv415_0 := Option.some.inj (hv415_0.symm.trans hx415_0)
                    rw [hv415_0] at ge415_0
                    have HL415_0 := Aside0.mk (show Kd.R Kd.bool 4 _ _ _ _ (rd_L7 t409 (ji22)) from ge415_0)
                    clear hv415_0 ge415_0
                    clear hcc415 hce415
                    have HR415_0 := Aside0.mk hi415_0
                    have HC415_0 := Aside0.mk hl415_0
                    clear hi415_0 hl415_0
                    replace p415 := eq_true p415
                    replace q415 := eq_true q415
                    have p416 : 0 ≤ ((ji25) : Int) := of_decide_eq_true (by first | (with_reducible assumption) | assumption)
                    have q416 : (ji25) < (t409.length : Int) := of_decide_eq_true (by first | (with_reducible assumption) | assumption)
                    obtain ⟨ad416, A416_0, c416_0, e416, hx416_0, hl416_0, hi416_0⟩ := at_L7 (Kd.S_reads' HO_7.out).2.2 (ji25) p416 q416
                    obtain rfl : ad415 = ad416 := (by injection e416)
                    obtain ⟨ce416, hce416, hMe416, hcc416⟩ := Kd.S_get HO_7.out [] (ji25) p416 (by first | exact q416 | exact of_decide_eq_true (by first | (with_reducible assumption) | assumption) | (have e_ := (Kd.S_reads' HO_7.out).1; omega))
                    obtain ⟨ve416_0, rfl, ge416_0⟩ := hMe416
                    have hv416_0 := hcc416 0 _ rfl
                    rw [Nat.add_zero, show ((Kd.slice 4 Kd.bool)).sz = 1 from rfl, Nat.mul_one] at hv416_0
                    replace hv416_0 := Option.some.inj (hv416_0.symm.trans hx416_0)
                    rw [hv416_0] at ge416_0
                    have HL416_0 := Aside0.mk (show Kd.R Kd.bool 4 _ _ _ _ (rd_L7 t409 (ji25)) from ge416_0)
                    clear hv416_0 ge416_0
                    clear hcc416 hce416
                    have HR416_0 := Aside0.mk hi416_0
                    have HC416_0 := Aside0.mk hl416_0
                    clear hi416_0 hl416_0
                    replace p416 := eq_true p416
                    replace q416 := eq_true q416
                    go_wp2
                    repeat (go_quiet (fail); try go_wp2)
                    go_ret
                    exact ⟨by first | rfl | (simp [errW_none, errW_some] <;> rfl) | (simp only [← hji22, ← hji25]; first | rfl | (simp [errW_none, errW_some] <;> rfl)) | (simp [*, errW_none, errW_some] <;> rfl), by repeat (first | (with_reducible first | exact HB.out | apply below_alloc | apply pw_below_drewN | apply below_drew1 | refine below_set ?_ GE404.out) | exact HB.out)⟩
                · rw [if_neg c27] at H
                  exact absurd H (by simp)
              · rw [if_neg c26] at H
                exact absurd H (by simp)
            · rw [if_neg c24] at H
              exact absurd H (by simp)
          · rw [if_neg c23] at H
            exact absurd H (by simp)
end Go.Proofs.Ytbamanjedfccpaa.X
end

section
set_option linter.unusedVariables false
set_option linter.unusedSimpArgs false
namespace Go.Proofs.Ytbamanjedfccpaa.HTab
open Go.RowKit Go.Proofs.YtbamanjedfccpaaW.PrintWords Go.Proofs.YtbamanjedfccpaaW.PrintLast Go.Proofs.YtbamanjedfccpaaW.PrintMore Go.Proofs.Ytbamanjedfccpaa.X
set_option linter.unusedVariables false
set_option linter.unusedSimpArgs false
theorem eqB_l0 (a b : List Bool) (hab : a.length = b.length) (hl : a.length < 10000000000000) : ∀ (d i fu : Nat), i + d = a.length → d < fu → slices_Equal_bool_bool.l0 fu a b a.length i = some (decide (a.drop i = b.drop i))
  | d, i, 0, h, hf => by omega
  | 0, i, fu + 1, h, hf => by
    simp only [slices_Equal_bool_bool.l0]
    rw [if_neg (by omega), List.drop_eq_nil_of_le (by omega), List.drop_eq_nil_of_le (by omega)]
    rfl
  | d + 1, i, fu + 1, h, hf => by
    have h1 : i < a.length := by omega
    have h2 : i < b.length := by omega
    have ih := eqB_l0 a b hab hl d (i + 1) fu (by omega) (by omega)
    have ra : rdOf false a (i : Int) = a[i] := by simp [rdOf, h1]
    have rb : rdOf false b (i : Int) = b[i] := by simp [rdOf, h2]
    simp only [slices_Equal_bool_bool.l0]
    rw [if_pos (by omega), if_pos (by omega), if_pos (by omega), if_pos (by omega), show wrap64 ((i : Int) + 1) = ((i + 1 : Nat) : Int) from wrap_add1 (by omega) (by omega), ih, ra, rb, List.drop_eq_getElem_cons h1, List.drop_eq_getElem_cons h2]
    by_cases e : a[i] = b[i]
    · rw [if_neg (by simpa using e), e]
      exact congrArg some (decide_eq_decide.2 ⟨fun q => by rw [q], fun q => (List.cons.inj q).2⟩)
    · rw [if_pos (by simpa using e), decide_eq_false (fun q => e (List.cons.inj q).1)]
theorem eqB_f (a b : List Bool) (hl : a.length < 10000000000000) (fu : Nat) (hf : a.length < fu) : slices_Equal_bool_bool.f fu a b = some (decide (a = b)) := by
  unfold slices_Equal_bool_bool.f
  by_cases h : a.length = b.length
  · rw [if_pos (by omega)]
    have := eqB_l0 a b h hl a.length 0 fu (by omega) hf
    simpa using this
  · rw [if_neg (by omega), decide_eq_false (fun e => h (by rw [e]))]
def andP (a b : List Bool) (i : Nat) : List Bool := (List.range i).map fun (k : Nat) => rdOf false a (k : Int) && rdOf false b (k : Int)
def orP (a b : List Bool) (i : Nat) : List Bool := (List.range i).map fun (k : Nat) => rdOf false a (k : Int) || rdOf false b (k : Int)
theorem andP_succ (a b : List Bool) (i : Nat) : andP a b (i + 1) = andP a b i ++ [rdOf false a (i : Int) && rdOf false b (i : Int)] := by unfold andP; rw [List.range_succ, List.map_append]; rfl
theorem orP_succ (a b : List Bool) (i : Nat) : orP a b (i + 1) = orP a b i ++ [rdOf false a (i : Int) || rdOf false b (i : Int)] := by unfold orP; rw [List.range_succ, List.map_append]; rfl
theorem andP_len (a b : List Bool) (i : Nat) : (andP a b i).length = i := by simp [andP]
theorem orP_len (a b : List Bool) (i : Nat) : (orP a b i).length = i := by simp [orP]
theorem andP_rd (a b : List Bool) (N : Nat) (x : Int) (x0 : 0 ≤ x) (x1 : x < N) : rdOf false (andP a b N) x = (rdOf false a x && rdOf false b x) := by
  obtain ⟨n, rfl⟩ : ∃ n : Nat, x = n := ⟨x.toNat, by omega⟩
  have h : n < N := by omega
  have e : rdOf false (andP a b N) (n : Int) = (andP a b N).getD n false := by simp [rdOf]
  rw [e]
  simp [andP, h]
theorem orP_rd (a b : List Bool) (N : Nat) (x : Int) (x0 : 0 ≤ x) (x1 : x < N) : rdOf false (orP a b N) x = (rdOf false a x || rdOf false b x) := by
  obtain ⟨n, rfl⟩ : ∃ n : Nat, x = n := ⟨x.toNat, by omega⟩
  have h : n < N := by omega
  have e : rdOf false (orP a b N) (n : Int) = (orP a b N).getD n false := by simp [rdOf]
  rw [e]
  simp [orP, h]
theorem lat_l1 (L : List (List Bool)) (A B : List Bool) (N : Nat) (hN : N ≤ 12) (hL : ∀ S ∈ L, S.length = N) (hl : L.length ≤ 2000) : ∀ (d i fu : Nat) (p q : Bool), i + d = L.length → d + 40 ≤ fu → (p = true ∨ A ∈ L.drop i) → (q = true ∨ B ∈ L.drop i) → cantinglaw07_WaxLattice.l1 fu A B p q L L.length i = some true
  | d, i, 0, p, q, h, hf, hp, hq => by omega
  | 0, i, fu + 1, p, q, h, hf, hp, hq => by
    rw [List.drop_eq_nil_of_le (by omega)] at hp hq
    have hp' : p = true := hp.elim id (fun q => by cases q)
    have hq' : q = true := hq.elim id (fun q => by cases q)
    subst hp'; subst hq'
    simp only [cantinglaw07_WaxLattice.l1]
    rw [if_neg (by omega), awake_f]
    simp
  | d + 1, i, fu + 1, p, q, h, hf, hp, hq => by
    have hi : i < L.length := by omega
    have hS : rd_L7 L (i : Int) = L[i] := by simp [rd_L7, hi]
    have hSl := hL L[i] (List.getElem_mem _)
    have ih := fun (p' q' : Bool) (hp' : p' = true ∨ A ∈ L.drop (i + 1)) (hq' : q' = true ∨ B ∈ L.drop (i + 1)) => lat_l1 L A B N hN hL hl d (i + 1) fu p' q' (by omega) (by omega) hp' hq'
    rw [List.drop_eq_getElem_cons hi, List.mem_cons] at hp hq
    simp only [cantinglaw07_WaxLattice.l1]
    rw [if_pos (by omega), if_pos (by omega), if_pos (by omega), hS, eqB_f _ A (by omega) fu (by omega), eqB_f _ B (by omega) fu (by omega), show wrap64 ((i : Int) + 1) = ((i + 1 : Nat) : Int) from wrap_add1 (by omega) (by omega)]
    have qa : ∀ C : List Bool, C = L[i] ∨ C ∈ L.drop (i + 1) → (decide (L[i] = C) = true ∨ C ∈ L.drop (i + 1)) := fun C hC => hC.elim (fun e => .inl (decide_eq_true e.symm)) .inr
    cases p with
    | true =>
      rw [if_pos rfl]
      cases q with
      | true => rw [if_pos rfl]; exact ih true true (.inl rfl) (.inl rfl)
      | false =>
        rw [if_neg (by decide)]
        exact ih true _ (.inl rfl) (qa B (hq.elim (fun e => by cases e) id))
    | false =>
      rw [if_neg (by decide)]
      have hA := qa A (hp.elim (fun e => by cases e) id)
      simp only [Option.bind_some]
      cases q with
      | true => rw [if_pos rfl]; exact ih _ true hA (.inl rfl)
      | false =>
        rw [if_neg (by decide)]
        exact ih _ _ hA (qa B (hq.elim (fun e => by cases e) id))
theorem lat_l0 (L : List (List Bool)) (a b : List Bool) (hab : a.length = b.length) (hl : a.length ≤ 12) : ∀ (d i g : Nat), i + d = a.length → cantinglaw07_WaxLattice.l0 (g + d + 1) L b (andP a b i) (orP a b i) a a.length i = cantinglaw07_WaxLattice.l1 g (andP a b a.length) (orP a b a.length) false false L L.length 0
  | 0, i, g, h => by
    obtain rfl : i = a.length := by omega
    simp only [cantinglaw07_WaxLattice.l0]
    rw [if_neg (by omega)]
  | d + 1, i, g, h => by
    have ih := lat_l0 L a b hab hl d (i + 1) g (by omega)
    obtain ⟨m, hm⟩ : ∃ m, m = g + d + 1 := ⟨_, rfl⟩
    rw [show g + (d + 1) + 1 = m + 1 by omega]
    rw [← hm, andP_succ, orP_succ] at ih
    have e1 := andP_len a b i
    have e2 := orP_len a b i
    simp only [cantinglaw07_WaxLattice.l0]
    rw [if_pos (by omega), if_pos (by omega), if_pos (by omega), e1, e2, show wrap64 ((i : Int) + 1) = ((i + 1 : Nat) : Int) from wrap_add1 (by omega) (by omega)]
    cases ha : rdOf false a (i : Int) with
    | true =>
      rw [ha] at ih
      rw [if_pos rfl, if_pos (by omega), if_pos (by omega), if_pos (by omega)]
      exact ih
    | false =>
      rw [ha] at ih
      rw [if_neg (by decide), if_pos (by omega), if_pos (by omega), if_pos (by omega)]
      exact ih
theorem cost_mod (S T : Int → Bool) : ∀ l : List S35, (∀ a ∈ l, 0 ≤ a.f2) → costF false (fun v => S v && T v) l + costF false (fun v => S v || T v) l ≤ costF false S l + costF false T l
  | [], _ => by simp [costF]
  | a :: l, h => by
    have ih := cost_mod S T l (fun b hb => h b (List.mem_cons_of_mem _ hb))
    have ha := h a (List.mem_cons_self ..)
    simp only [costF]
    rcases Bool.eq_false_or_eq_true (S a.f0) with h1 | h1 <;> rcases Bool.eq_false_or_eq_true (S a.f1) with h2 | h2 <;> rcases Bool.eq_false_or_eq_true (T a.f0) with h3 | h3 <;> rcases Bool.eq_false_or_eq_true (T a.f1) with h4 | h4 <;> simp [h1, h2, h3, h4] <;> omega
theorem lattice_k (n : Int) (l : List S34) (i j : Int) (hl : l.length < 10000000000000) (K : Nat) (hK : 30000 ≤ K) : cantinglaw07_WaxLattice.f (K + 1) n l i j = some true := by
  unfold cantinglaw07_WaxLattice.f
  rw [net_f l hl n (K + 1) (by omega)]
  simp only [Option.bind_some]
  cases hv : vdB n (netL l) with
  | false =>
    have e : wax_Sides.f (K + 1) n (netL l) = some ([], 2) := by unfold wax_Sides.f wax_Net_valid.f; rw [hv]; rfl
    rw [e, Option.bind_some, if_neg (by decide)]
    simp only [cantinglaw07_WaxLattice.j0, if_true, awake_f]
    rfl
  | true =>
    obtain ⟨N, rfl, a, b, c, d, e⟩ := vdB_facts hv
    have hlen : l.length ≤ 160 := by
      have : (netL l).length = min 162 l.length := by unfold netL; simp
      omega
    have hnl := netL_all (l := l) (by omega)
    rw [hnl] at hv c d e ⊢
    by_cases hN : N ≤ 12
    · have hg : GoodR N l := bad_good (vdB_iff.1 hv).2.2.2
      have hc : CapR l := fun a ha => e (cvA a) (List.mem_map_of_mem ha)
      obtain ⟨s, l1, D, G, h⟩ := netD hv
      obtain ⟨L, hL⟩ : ∃ L, L = sidesL N l s := ⟨_, rfl⟩
      have hcs : ∀ S : List Bool, csF S l 0 = costF false (fun v => rdOf false S v) (l.map cvA) := fun S => by
        rw [csF_cost S l 0 hc (by omega) (by omega), Int.zero_add]
      have hmem : ∀ S, S ∈ L ↔ S.length = N ∧ rdOf false S 0 = true ∧ rdOf false S ((N : Int) - 1) = false ∧ csF S l 0 = s := fun S => by rw [hL]; exact mem_sidesL a l s S
      have hne : leastL D ∈ L := (hmem _).2 ⟨by unfold leastL; rw [List.length_map]; exact h.lv.len, (h.least_side a).1, (h.least_side a).2, by rw [hcs]; exact h.least_cost a d⟩
      have hLl : L.length ≤ 1024 := by
        rw [hL]
        unfold sidesL
        refine Nat.le_trans (List.length_filter_le _ _) ?_
        rw [List.length_map, List.length_range]
        exact Nat.le_trans (Nat.pow_le_pow_right (by omega) (show N - 2 ≤ 10 by omega)) (by decide)
      have hLp : 0 < L.length := List.length_pos_of_mem hne
      rw [sides_f N a hN l hlen hg hv h (K + 1) (by omega), Option.bind_some, if_pos rfl, ← hL]
      rw [show ((L.length : Int) == 0) = false from beq_eq_false_iff_ne.2 (by omega)]
      have hu : IntKind.u64.wrap (L.length : Int) = L.length := by rw [IntKind.wrap_u64]; omega
      have hidx : ∀ x : Int, ∃ m : Nat, m < L.length ∧ wrap64 (Int.tmod (IntKind.u64.wrap x) (L.length : Int)) = m := fun x => by
        have h0 : 0 ≤ IntKind.u64.wrap x := by rw [IntKind.wrap_u64]; omega
        rw [Int.tmod_eq_emod_of_nonneg h0]
        have h1 := Int.emod_nonneg (IntKind.u64.wrap x) (show (L.length : Int) ≠ 0 by omega)
        have h2 := Int.emod_lt_of_pos (IntKind.u64.wrap x) (show 0 < (L.length : Int) by omega)
        refine ⟨(IntKind.u64.wrap x % (L.length : Int)).toNat, by omega, ?_⟩
        rw [wrap_id (by omega) (by omega)]
        omega
      simp only [cantinglaw07_WaxLattice.j0, Bool.false_eq_true, if_false]
      rw [hu]
      obtain ⟨m1, b1, e1⟩ := hidx i
      obtain ⟨m2, b2, e2⟩ := hidx j
      rw [e1, e2, if_neg (by omega), if_pos (by omega), if_pos (by omega), if_pos (by omega), if_pos (by omega)]
      have r1 : rd_L7 L (m1 : Int) = L[m1] := by simp [rd_L7, b1]
      have r2 : rd_L7 L (m2 : Int) = L[m2] := by simp [rd_L7, b2]
      rw [r1, r2]
      obtain ⟨u1, u2, u3, u4⟩ := (hmem L[m1]).1 (List.getElem_mem _)
      obtain ⟨v1, v2, v3, v4⟩ := (hmem L[m2]).1 (List.getElem_mem _)
      obtain ⟨A, hA⟩ : ∃ A, A = L[m1] := ⟨_, rfl⟩
      obtain ⟨B, hB⟩ : ∃ A, A = L[m2] := ⟨_, rfl⟩
      rw [← hA] at u1 u2 u3 u4 ⊢
      rw [← hB] at v1 v2 v3 v4 ⊢
      have hsA : side (fun v => rdOf false A v && rdOf false B v) 0 ((N : Int) - 1) := ⟨by dsimp only; rw [u2, v2]; rfl, by dsimp only; rw [u3]; rfl⟩
      have hsB : side (fun v => rdOf false A v || rdOf false B v) 0 ((N : Int) - 1) := ⟨by dsimp only; rw [u2]; rfl, by dsimp only; rw [u3, v3]; rfl⟩
      have hm := cost_mod (fun v => rdOf false A v) (fun v => rdOf false B v) (l.map cvA) (fun a ha => (e a ha).1)
      have k1 := h.min _ hsA
      have k2 := h.min _ hsB
      rw [hcs] at u4 v4
      have cA : csF (andP A B N) l 0 = s := by
        rw [hcs, costF_congr (N := N) false _ (fun v => rdOf false A v && rdOf false B v) (fun v v0 v1 => andP_rd A B N v v0 v1) _ d]
        omega
      have cB : csF (orP A B N) l 0 = s := by
        rw [hcs, costF_congr (N := N) false _ (fun v => rdOf false A v || rdOf false B v) (fun v v0 v1 => orP_rd A B N v v0 v1) _ d]
        omega
      have mA : andP A B N ∈ L := (hmem _).2 ⟨andP_len A B N, by rw [andP_rd A B N 0 (by omega) (by omega)]; exact hsA.1, by rw [andP_rd A B N _ (by omega) (by omega)]; exact hsA.2, cA⟩
      have mB : orP A B N ∈ L := (hmem _).2 ⟨orP_len A B N, by rw [orP_rd A B N 0 (by omega) (by omega)]; exact hsB.1, by rw [orP_rd A B N _ (by omega) (by omega)]; exact hsB.2, cB⟩
      rw [if_pos (by omega)]
      obtain ⟨g, hg2⟩ : ∃ g, K = g + A.length + 1 := ⟨K - A.length - 1, by omega⟩
      have h0 := lat_l0 L A B (by omega) (by omega) A.length 0 g (by omega)
      rw [hg2]
      refine h0.trans ?_
      rw [u1]
      exact lat_l1 L _ _ N hN (fun S hS => ((hmem S).1 hS).1) (by omega) L.length 0 g false false (by omega) (by omega) (.inr mA) (.inr mB)
    · have e2 : wax_Sides.f (K + 1) N (l.map cvA) = some ([], 3) := by
        unfold wax_Sides.f wax_Net_valid.f
        rw [hv, Option.bind_some, if_pos rfl, if_pos (by omega)]
      rw [e2, Option.bind_some, if_neg (by decide)]
      simp only [cantinglaw07_WaxLattice.j0, if_true, awake_f]
      rfl
theorem lattice_f (n : Int) (l : List S34) (i j : Int) (hl : l.length < 10000000000000) : cantinglaw07_WaxLattice.f 30001 n l i j = some true := lattice_k n l i j hl 30000 (by omega)
end Go.Proofs.Ytbamanjedfccpaa.HTab
end

section
set_option linter.unusedVariables false
set_option linter.unusedSimpArgs false
namespace Go.Proofs.Ytbamanjedfccpaa.waxLattice
open Go.ChangeShapes Go.WideShapes Go.ChangeAt Go.RowKit Go.Proofs.YtbamanjedfccpaaW.PrintWords Go.Proofs.Ytbamanjedfccpaa.HTab Go.Proofs.Ytbamanjedfccpaa.X
open Go.ChangeMaps (open_string shut_string)
set_option linter.unusedVariables false
theorem own : ownKnob Try.prog.godebug = none := by kernel_rfl
theorem laidOut : laidOutB Try.prog = true := by kernel_rfl
set_option maxRecDepth 100000 in
theorem lifted (os : Os) (started : os.Started) (H : Type) (enc : TypeId × Value → H) :
    ReturnsInHanded {} Try.checked os 8 .any (Rows.waxLatticeSpec.pre6 enc Try.prog Try.f8 Rows.waxLatticeRow.domain false) (Rows.waxLatticeSpec.post enc Try.prog Try.f8 false true false false) := by
  refine returnsInHanded_of_change_sized (C := Try.checked) own started (by kernel_rfl) Try.func8
    (ChangeSpec.witness6 (enc := enc) (C := Try.checked) false ⟨#[], #[.agg #[.int .i64 0, .slice none 0 0], .int .i64 0, .int .i64 0], []⟩ 8 (by kernel_rfl) (by kernel_rfl) (by kernel_rfl) (by kernel_rfl)) ?_
  intro W base args ds gs before hval0 hW hcnd hsz0 _
  have hsz : (DataW.weightsEach Try.prog (Try.f8.params.toList ++ Rows.waxLatticeSpec.plain.varTypes Try.prog) (ds ++ gs)).all (· ≤ reachBytes) = true := hsz0
  have hval : ∀ (j : Nat) t v, Try.f8.params[j]? = some t → args[j]? = some v → Value.okWide Try.prog W .any base t v := hval0
  have hW' := hW
  obtain ⟨p, q, hA0, hV, rfl, hfz, hnd⟩ := hW
  have hA : DataW.TrodAll enc Try.prog W 0 (fun _ => true) true Try.f8.params.toList args.toList ds p := hA0
  rw [Try.params8] at hA hval hsz
  obtain ⟨v0, vs0, d0, ds0, p0, q0, hargs, rfl, rfl, h0, r0⟩ := trodAll_cons hA
  obtain ⟨v1, vs1, d1, ds1, p1, q1, rfl, rfl, rfl, h1, r1⟩ := trodAll_cons r0
  obtain ⟨v2, vs2, d2, ds2, p2, q2, rfl, rfl, rfl, h2, r2⟩ := trodAll_cons r1
  obtain ⟨rfl, rfl, rfl⟩ := trodAll_nil r2
  obtain rfl : args = #[v0, v1, v2] := by cases args; simp_all
  obtain ⟨rfl, rfl⟩ := trodVars_none hV
  have k0 := h0
  have lt0 : ∀ x ∈ p0, x.block < W.heap.size := by obtain ⟨m, hm⟩ := k0; exact DataW.trod_lt m _ _ _ hm
  obtain ⟨n0, A0, c0, l0, rfl, C0, L0, B0, wn0⟩ := open_net (hval 0 24 v0 rfl rfl) h0 hsz (j := 0) rfl rfl
  obtain ⟨a1, rfl, rfl, rfl, w1⟩ := open_int Try.underlying3 (hval 1 3 v1 rfl rfl) h1
  obtain ⟨a2, rfl, rfl, rfl, w2⟩ := open_int Try.underlying3 (hval 2 3 v2 rfl rfl) h2
  clear hA0 hval0 hsz0 hsz
  refine ((cantinglaw07_WaxLattice.calls 30001 n0 A0 c0 l0 a1 a2 true W C0 L0 (lattice_f n0 l0 a1 a2 B0))).mono fun e W' ⟨he, bel⟩ => ?_
  subst he
  exact ⟨_, rfl, _, _, _, [], _, [], hW', trodAll_mk1 (shut_bool Try.underlying4 _), (trodAll_cons_mk (Below.trod laidOut (by kernel_rfl) (of_decide_eq_true (by kernel_rfl)) k0 bel lt0) (trodAll_cons_mk (shut_int Try.underlying3 w1) (trodAll_cons_mk (shut_int Try.underlying3 w2) trodAll_mk0))), rfl, bel.frame _, fun h => by cases h⟩
theorem over : Rows.waxLatticeRow.holds Try.pinned (OpenSpec.ofChange Rows.waxLatticeSpec) :=
  OpenClaim.holds_of_wide 8 Try.f8 rfl rfl rfl rfl rfl rfl rfl ⟨rfl, rfl, rfl, rfl, rfl⟩ rfl rfl rfl rfl rfl (by kernel_rfl) Try.func8 (by kernel_rfl)
    (of_decide_eq_true (by kernel_rfl)) (by unfold Func.isWrapper; first | (rw [if_pos (by decide +kernel)]; kernel_rfl) | (rw [if_neg (by decide +kernel)]; exact ⟨rfl, rfl⟩))
    (fun os started H enc _ => lifted os started H enc)
theorem proved : Rows.WaxLatticeSaid := over
end Go.Proofs.Ytbamanjedfccpaa.waxLattice
namespace Go.Proofs.Ytbamanjedfccpaa
theorem waxLattice_holds : Rows.WaxLatticeSaid := waxLattice.proved
end Go.Proofs.Ytbamanjedfccpaa
#print axioms Go.Proofs.Ytbamanjedfccpaa.waxLattice_holds
end
