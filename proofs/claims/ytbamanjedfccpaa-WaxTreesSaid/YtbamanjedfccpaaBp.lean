/- Lemmas of the proof: part Bp. -/
import Derived.Test.YtbamanjedfccpaaBc
import Derived.Test.YtbamanjedfccpaaBg
import Derived.Test.YtbamanjedfccpaaBn
section
set_option linter.unusedVariables false
set_option linter.unusedSimpArgs false
namespace Go.Proofs.Ytbamanjedfccpaa.X
open Go.RowKit Go.Proofs.YtbamanjedfccpaaW.PrintWords Go.Proofs.YtbamanjedfccpaaW.PrintLast Go.Proofs.YtbamanjedfccpaaW.PrintMore
attribute [local go_sem] max2_int min2_int max_two min_two max_three min_three max_four min_four   -- for this text's walks alone
set_option linter.unusedVariables false
set_option linter.unusedSimpArgs false
end Go.Proofs.Ytbamanjedfccpaa.X
end

section
set_option linter.unusedVariables false
set_option linter.unusedSimpArgs false
namespace Go.Proofs.Ytbamanjedfccpaa.HTab
open Go.RowKit Go.Proofs.YtbamanjedfccpaaW.PrintWords Go.Proofs.YtbamanjedfccpaaW.PrintLast Go.Proofs.YtbamanjedfccpaaW.PrintMore Go.Proofs.Ytbamanjedfccpaa.X
set_option linter.unusedVariables false
set_option linter.unusedSimpArgs false
def gr (g : List (List Int)) (i j : Int) : Int := rd (rd_L4 g i) j
def putG (g : List (List Int)) (i j x : Int) : List (List Int) := g.set i.toNat ((rd_L4 g i).set j.toNat x)
theorem rdL_set (g : List (List Int)) (i a : Int) (r : List Int) (i0 : 0 ≤ i) (i1 : i < g.length) (a0 : 0 ≤ a) : rd_L4 (g.set i.toNat r) a = if a = i then r else rd_L4 g a := by
  unfold rd_L4
  rw [List.getD_eq_getElem?_getD, List.getD_eq_getElem?_getD, List.getElem?_set]
  by_cases h : a = i
  · rw [if_pos h, if_pos (by omega), if_pos (by omega)]; rfl
  · rw [if_neg h, if_neg (by omega)]
structure GM (w : World) (b M A c N : Nat) (p q : Nat → Nat) (k : Nat) (G : List (List Int)) : Prop where
  len : G.length = N
  hc : N ≤ c
  bA : b ≤ A ∧ A < M
  kN : k ≤ N
  blk : ∃ cells, w.heap[A]? = some (.cells cells 40 (0, 0)) ∧ ∀ i, i < N → cells[i]? = some (if i < k then .slice (some ⟨p i, 0, none⟩) N (q i) else .slice none 0 0)
  row : ∀ i, i < k → KI.R 3 w b (fun x => x = p i) (.slice (some ⟨p i, 0, none⟩) N (q i)) (rd_L4 G (i : Nat))
  pM : ∀ i, i < k → b ≤ p i ∧ p i < M ∧ p i ≠ A
  inj : ∀ i j, i < k → j < k → p i = p j → i = j
section
variable {w w1 : World} {b M A c N : Nat} {p q : Nat → Nat} {k : Nat} {G : List (List Int)}
theorem GM.step (h : GM w b M A c N p q k G) (hm : ∀ x, x < M → x < w.heap.size → w1.heap[x]? = w.heap[x]?) : GM w1 b M A c N p q k G := by
  obtain ⟨cells, hb, hcl⟩ := h.blk
  exact ⟨h.len, h.hc, h.bA, h.kN, ⟨cells, (hm A h.bA.2 (blk_lt hb)).trans hb, hcl⟩, fun i hi => Kd.R_step (h.row i hi) (fun x hx hl => hm x (by rw [hx]; exact (h.pM i hi).2.1) hl), h.pM, h.inj⟩
theorem GM.below (h : GM w b M A c N p q k G) (hb : Below w.heap.size w w1) : GM w1 b M A c N p q k G := h.step (fun x _ hl => hb.block x hl)
theorem GM.far (h : GM w b M A c N p q k G) {g o : Nat} (hg : M ≤ g) (u : Value) : GM (w.setCell ⟨g, o, none⟩ u) b M A c N p q k G := h.step (fun x hx _ => Below.heap_setCell w ⟨g, o, none⟩ u x (fun e => by replace e : x = g := e; omega))
theorem GM.grown (h : GM w b M A c N p q k G) {r : Option Nat} (hg : w.grownBy w1 r) (hr : ∀ x, r = some x → M ≤ x) : GM w1 b M A c N p q k G := h.step (fun x hx hl => hg.block x hl (fun e => by have := hr x e.symm; omega))
theorem GM.up (h : GM w b M A c N p q k G) {M' : Nat} (hM : M ≤ M') : GM w b M' A c N p q k G :=
  ⟨h.len, h.hc, ⟨h.bA.1, by have := h.bA.2; omega⟩, h.kN, h.blk, h.row, fun i hi => by have := h.pM i hi; exact ⟨this.1, by omega, this.2.2⟩, h.inj⟩
theorem GM.lower (h : GM w b M A c N p q k G) {b' : Nat} (hb : b' ≤ b) : GM w b' M A c N p q k G :=
  ⟨h.len, h.hc, ⟨by have := h.bA.1; omega, h.bA.2⟩, h.kN, h.blk, fun i hi => Kd.R_lower (h.row i hi) hb, fun i hi => by have := h.pM i hi; exact ⟨by omega, this.2⟩, h.inj⟩
theorem GM.cell (h : GM w b M A c N p q k G) (i : Int) (i0 : 0 ≤ i) (i1 : i < k) : w.cell? ⟨A, i.toNat, none⟩ = some (.slice (some ⟨p i.toNat, 0, none⟩) N (q i.toNat)) := by
  obtain ⟨cells, hb, hcl⟩ := h.blk
  have := h.kN
  refine (blk_cell hb i.toNat).trans ?_
  rw [hcl i.toNat (by omega), if_pos (by omega)]
theorem GM.fz (h : GM w b M A c N p q k G) (i : Nat) : w.frozen? ⟨A, i, none⟩ = false := by
  obtain ⟨cells, hb, hcl⟩ := h.blk
  exact blk_frozen hb i
theorem rd_L4_nat (G : List (List Int)) (i : Int) (i0 : 0 ≤ i) : rd_L4 G (i.toNat : Nat) = rd_L4 G i := by rw [Int.toNat_of_nonneg i0]
theorem GM.at_ (h : GM w b M A c N p q k G) (i : Int) (i0 : 0 ≤ i) (i1 : i < k) (j : Int) (j0 : 0 ≤ j) (j1 : j < N) : w.cell? ⟨p i.toNat, j.toNat, none⟩ = some (.int .i64 (gr G i j)) ∧ w.frozen? ⟨p i.toNat, j.toNat, none⟩ = false := by
  have := R_at (h.row i.toNat (by omega)) j j0 j1
  rw [rd_L4_nat G i i0] at this
  exact this
theorem GM.put (h : GM w b M A c N p q k G) (i : Int) (i0 : 0 ≤ i) (i1 : i < k) (j x : Int) : GM (w.setCell ⟨p i.toNat, j.toNat, none⟩ (.int .i64 x)) b M A c N p q k (putG G i j x) := by
  obtain ⟨cells, hb, hcl⟩ := h.blk
  have hi : i.toNat < k := by omega
  have hkN := h.kN
  refine ⟨by unfold putG; rw [List.length_set]; exact h.len, h.hc, h.bA, h.kN, ⟨cells, blk_far hb (fun e => (h.pM _ hi).2.2 e.symm) _, hcl⟩, fun a ha => ?_, h.pM, h.inj⟩
  unfold putG
  rw [rdL_set G i (a : Nat) _ i0 (by rw [h.len]; omega) (by omega)]
  by_cases e : a = i.toNat
  · subst e
    rw [if_pos (by omega)]
    have hR := h.row i.toNat hi
    have hm := (Kd.R_reads' hR).1
    rw [rd_L4_nat G i i0] at hR hm
    revert hR
    generalize rd_L4 G i = r at hm ⊢
    subst hm
    intro hR
    exact (Kd.R_put hR j x).1
  · rw [if_neg (by omega)]
    exact Kd.R_far (p := ⟨p i.toNat, j.toNat, none⟩) (h.row a ha) (fun y hy e2 => e (h.inj a i.toNat ha hi (by rw [← hy]; exact e2))) _
end
end Go.Proofs.Ytbamanjedfccpaa.HTab
end

section
set_option linter.unusedVariables false
set_option linter.unusedSimpArgs false
namespace Go.Proofs.Ytbamanjedfccpaa.HTab
open Go.RowKit Go.Proofs.YtbamanjedfccpaaW.PrintWords Go.Proofs.YtbamanjedfccpaaW.PrintLast Go.Proofs.YtbamanjedfccpaaW.PrintMore Go.Proofs.Ytbamanjedfccpaa.X
set_option linter.unusedVariables false
set_option linter.unusedSimpArgs false
theorem GM.made {w : World} {base A N c : Nat} {ok : Nat → Prop} (p q : Nat → Nat) (h : nilK.R 40 w base ok (.slice (some ⟨A, 0, none⟩) N c) (List.replicate N ())) : GM w base w.heap.size A c N p q 0 (List.replicate N []) := by
  have hown := Kd.own_of_R h
  rw [List.length_replicate] at hown
  rcases hown.2 with ⟨hv, _⟩ | ⟨g, cap, cur, hv, hb, hh, hnc, hcm, hcs, htake⟩
  · cases hv
  · injection hv with e1 e2 e3
    injection e1 with e1
    injection e1 with e1
    subst e1; subst e3
    refine ⟨List.length_replicate .., hnc, ⟨hb, blk_lt hh⟩, Nat.zero_le _, ⟨cur, hh, fun i hi => ?_⟩, fun i hi => by omega, fun i hi => by omega, fun i j hi => by omega⟩
    rw [if_neg (by omega)]
    have h2 : (cur.toList.take (N * 1))[i]? = some (.slice none 0 0) := by
      rw [htake]
      simp [encs, hi]
    rw [Nat.mul_one, List.getElem?_take, if_pos hi] at h2
    simpa using h2
end Go.Proofs.Ytbamanjedfccpaa.HTab
end

section
set_option linter.unusedVariables false
set_option linter.unusedSimpArgs false
namespace Go.Proofs.Ytbamanjedfccpaa.HTab
open Go.RowKit Go.Proofs.YtbamanjedfccpaaW.PrintWords Go.Proofs.YtbamanjedfccpaaW.PrintLast Go.Proofs.YtbamanjedfccpaaW.PrintMore Go.Proofs.Ytbamanjedfccpaa.X
attribute [local go_sem] max2_int min2_int max_two min_two
set_option linter.unusedVariables false
set_option linter.unusedSimpArgs false
end Go.Proofs.Ytbamanjedfccpaa.HTab
end
