/- The law MaskLeast holds of the program, for every input that its statement lets in. -/
import Derived.Test.YtlplphgoldkoeaaBn
import Derived.ChangeArms
import Derived.Test.YtlplphgoldkoeaaBzj
import Derived.Test.YtlplphgoldkoeaaBc
import Derived.Test.YtlplphgoldkoeaaBl
import Derived.Test.YtlplphgoldkoeaaBk
import Derived.Test.YtlplphgoldkoeaaBx
import Derived.Test.YtlplphgoldkoeaaBzl
import Derived.Test.YtlplphgoldkoeaaBzi
import Derived.Test.YtlplphgoldkoeaaBj
import Derived.Test.YtlplphgoldkoeaaRows
import Derived.WalkKit
import Derived.ProofKit
import Derived.OpenShut
import Derived.ShutString
import Derived.ChangeOld
import Derived.Below
import Derived.SizedLaws
import Derived.Test.YtlplphgoldkoeaaBb
section
set_option linter.unusedVariables false
set_option linter.unusedSimpArgs false
namespace Go.Proofs.Ytlplphgoldkoeaa.HTab
open Go.ChangeShapes Go.WideShapes Go.ChangeAt Go.RowKit Go.Deep Go.Joins Go.Proofs.YtlplphgoldkoeaaW.PrintWords Go.Proofs.Ytlplphgoldkoeaa.X
set_option linter.unusedVariables false
section
variable {H : Type} {enc : TypeId × Value → H} {W : World} {r : Reach} {b0 base : Nat} {sp : Nat → Bool} {held : Bool} {v : Value} {d : DataW H} {ps : List MemPlace} {ts : List TypeId} {ds : List (DataW H)} {j : Nat}
end
end Go.Proofs.Ytlplphgoldkoeaa.HTab
end

section
set_option linter.unusedVariables false
set_option linter.unusedSimpArgs false
namespace Go.Proofs.Ytlplphgoldkoeaa.HTab
open Go.RowKit Go.Proofs.YtlplphgoldkoeaaW.PrintWords Go.Proofs.YtlplphgoldkoeaaW.PrintLast Go.Proofs.YtlplphgoldkoeaaW.PrintMore Go.Proofs.Ytlplphgoldkoeaa.HMap Go.Proofs.Ytlplphgoldkoeaa.X
set_option linter.unusedVariables false
set_option linter.unusedSimpArgs false
theorem p3 (k : Nat) : 0 < 3 ^ k := Nat.pow_pos (by decide)
def dg : Nat → Nat → List Int
  | 0, _ => []
  | i + 1, c => ((c / 3 ^ i % 3 : Nat) : Int) :: dg i c
theorem dg_len : ∀ n c, (dg n c).length = n
  | 0, c => rfl
  | n + 1, c => by simp [dg, dg_len n c]
theorem dg_dig : ∀ n c, Dig (dg n c)
  | 0, c => fun x h => by cases h
  | n + 1, c => fun x h => by
    rcases List.mem_cons.1 h with h | h
    · have := Nat.mod_lt (c / 3 ^ n) (show 0 < 3 by decide)
      omega
    · exact dg_dig n c x h
theorem dg_add : ∀ n c y, dg n (c + 3 ^ n * y) = dg n c
  | 0, c, y => rfl
  | n + 1, c, y => by
    simp only [dg]
    rw [Nat.pow_succ, Nat.mul_assoc, dg_add n c (3 * y), Nat.add_mul_div_left _ _ (p3 n), Nat.add_mul_mod_self_left]
theorem dg_app : ∀ m k c, dg (m + k) c = dg m (c / 3 ^ k) ++ dg k c
  | 0, k, c => by rw [Nat.zero_add]; rfl
  | m + 1, k, c => by
    rw [show m + 1 + k = (m + k) + 1 by omega]
    simp only [dg]
    rw [dg_app m k c, Nat.div_div_eq_div_mul, ← Nat.pow_add, Nat.add_comm k m]
    rfl
theorem dg_parts (m j h d r : Nat) (hr : r < 3 ^ j) (hd : d ≤ 2) : dg (m + (j + 1)) (3 ^ (j + 1) * h + (d * 3 ^ j + r)) = dg m h ++ (d : Int) :: dg j r := by
  have h3 := p3 j
  have e0 : d * 3 ^ j ≤ 2 * 3 ^ j := Nat.mul_le_mul_right _ hd
  have e1 : (3 ^ (j + 1) * h + (d * 3 ^ j + r)) / 3 ^ (j + 1) = h := by
    rw [Nat.mul_add_div (p3 (j + 1)), Nat.div_eq_of_lt (by rw [Nat.pow_succ]; omega), Nat.add_zero]
  rw [dg_app, e1]
  simp only [dg]
  have e2 : (3 ^ (j + 1) * h + (d * 3 ^ j + r)) / 3 ^ j % 3 = d := by
    rw [Nat.pow_succ, Nat.mul_assoc, Nat.mul_add_div h3, Nat.mul_comm d, Nat.mul_add_div h3, Nat.div_eq_of_lt hr]; omega
  rw [e2, show 3 ^ (j + 1) * h + (d * 3 ^ j + r) = r + 3 ^ j * (3 * h + d) by rw [Nat.pow_succ, Nat.mul_add, Nat.mul_assoc, Nat.mul_comm d]; omega, dg_add]
theorem num_parts (j c : Nat) : ∃ h r, r < 3 ^ j ∧ c = 3 ^ (j + 1) * h + (c / 3 ^ j % 3 * 3 ^ j + r) := by
  refine ⟨c / 3 ^ j / 3, c % 3 ^ j, Nat.mod_lt _ (p3 j), ?_⟩
  have h1 := Nat.div_add_mod c (3 ^ j)
  have h2 := Nat.div_add_mod (c / 3 ^ j) 3
  rw [Nat.pow_succ, Nat.mul_assoc, Nat.mul_comm (c / 3 ^ j % 3), ← Nat.add_assoc, ← Nat.mul_add, h2, h1]
theorem mem_or (q : List Int) : ∀ (p : List Int) (P : Nat), memP (p ++ 2 :: q) P = (memP (p ++ 1 :: q) P || memP (p ++ 0 :: q) P)
  | [], P => by
    simp only [List.nil_append, memP]
    cases bitN P q.length <;> cases memP q P <;> rfl
  | x :: p, P => by
    simp only [List.cons_append, memP]
    rw [mem_or q p P, show (p ++ 2 :: q).length = (p ++ 1 :: q).length by simp, show (p ++ 0 :: q).length = (p ++ 1 :: q).length by simp]
    cases (x == 2 || ((x == 1) == bitN P (p ++ 1 :: q).length)) <;> simp
theorem insd_two (t : List Bool) (p q : List Int) : Insd t (p ++ 2 :: q) ↔ Insd t (p ++ 1 :: q) ∧ Insd t (p ++ 0 :: q) := by
  unfold Insd
  have e1 : (p ++ (2 : Int) :: q).length = (p ++ (1 : Int) :: q).length := by simp
  have e2 : (p ++ (0 : Int) :: q).length = (p ++ (1 : Int) :: q).length := by simp
  rw [e1, e2]
  constructor
  · intro h
    exact ⟨fun P hP hm => h P hP (by rw [mem_or, hm, Bool.true_or]), fun P hP hm => h P hP (by rw [mem_or, hm, Bool.or_true])⟩
  · rintro ⟨h1, h2⟩ P hP hm
    rw [mem_or, Bool.or_eq_true] at hm
    rcases hm with hm | hm
    · exact h1 P hP hm
    · exact h2 P hP hm
theorem insd_step (t : List Bool) (n j c : Nat) (hj : j < n) (hd : c / 3 ^ j % 3 = 2) : 2 * 3 ^ j ≤ c ∧ (Insd t (dg n c) ↔ Insd t (dg n (c - 3 ^ j)) ∧ Insd t (dg n (c - 2 * 3 ^ j))) := by
  obtain ⟨h, r, hr, e⟩ := num_parts j c
  rw [hd] at e
  obtain ⟨m, rfl⟩ : ∃ m, n = m + (j + 1) := ⟨n - (j + 1), by omega⟩
  have h3 := p3 j
  generalize hA : 3 ^ (j + 1) * h = A at e
  refine ⟨by omega, ?_⟩
  have e1 : c - 3 ^ j = 3 ^ (j + 1) * h + (1 * 3 ^ j + r) := by rw [hA]; omega
  have e2 : c - 2 * 3 ^ j = 3 ^ (j + 1) * h + (0 * 3 ^ j + r) := by rw [hA]; omega
  rw [e1, e2]
  rw [← hA] at e
  rw [e, dg_parts m j h 2 r hr (by decide), dg_parts m j h 1 r hr (by decide), dg_parts m j h 0 r hr (by decide)]
  exact insd_two t _ _
def plc : Nat → Nat → Int × Int
  | 0, _ => (0, 0)
  | i + 1, c => if c / 3 ^ i % 3 = 2 then (((3 ^ i : Nat) : Int), 1) else plc i c
theorem plc_cases : ∀ n c, (plc n c = (0, 0) ∧ ∀ x ∈ dg n c, x ≠ 2) ∨ ∃ j, j < n ∧ plc n c = (((3 ^ j : Nat) : Int), 1) ∧ c / 3 ^ j % 3 = 2
  | 0, c => .inl ⟨rfl, fun x h => by cases h⟩
  | n + 1, c => by
    simp only [plc]
    by_cases h : c / 3 ^ n % 3 = 2
    · rw [if_pos h]; exact .inr ⟨n, by omega, rfl, h⟩
    · rw [if_neg h]
      rcases plc_cases n c with ⟨h1, h2⟩ | ⟨j, h1, h2, h3⟩
      · refine .inl ⟨h1, fun x hx => ?_⟩
        rcases List.mem_cons.1 hx with hx | hx
        · omega
        · exact h2 x hx
      · exact .inr ⟨j, by omega, h2, h3⟩
def ptc : Nat → Nat → Nat
  | 0, _ => 0
  | i + 1, c => ptc i c + c / 3 ^ i % 3 % 2 * 2 ^ i
theorem ptc_lt : ∀ n c, ptc n c < 2 ^ n
  | 0, c => by simp [ptc]
  | n + 1, c => by
    have := ptc_lt n c
    have h2 : c / 3 ^ n % 3 % 2 * 2 ^ n ≤ 1 * 2 ^ n := Nat.mul_le_mul_right _ (by omega)
    simp only [ptc]
    rw [Nat.pow_succ]; omega
theorem mem_ptc : ∀ n c P, (∀ x ∈ dg n c, x ≠ 2) → (memP (dg n c) P = true ↔ P % 2 ^ n = ptc n c)
  | 0, c, P, h => by simp [dg, memP, ptc, Nat.mod_one]
  | n + 1, c, P, h => by
    have ih := mem_ptc n c P (fun x hx => h x (List.mem_cons_of_mem _ hx))
    have h0 : ((c / 3 ^ n % 3 : Nat) : Int) ≠ 2 := h _ (List.mem_cons_self ..)
    have hl := ptc_lt n c
    have hm := Nat.mod_lt P (Nat.two_pow_pos n)
    have h3 : c / 3 ^ n % 3 < 3 := Nat.mod_lt _ (by decide)
    simp only [dg, memP, ptc, dg_len]
    rw [Bool.and_eq_true, ih, beq_false_of_ne h0, Bool.false_or]
    have hb := bitN_eq P n
    by_cases hq : P / 2 ^ n % 2 = 1
    · rw [bit_hi hq, hb.1 hq]
      rcases (show c / 3 ^ n % 3 = 0 ∨ c / 3 ^ n % 3 = 1 by omega) with h1 | h1
      · rw [h1]; simp; omega
      · rw [h1]; simp; omega
    · have hf : bitN P n = false := by rw [Bool.eq_false_iff]; exact fun q => hq (hb.2 q)
      rw [bit_lo (by omega), hf]
      rcases (show c / 3 ^ n % 3 = 0 ∨ c / 3 ^ n % 3 = 1 by omega) with h1 | h1
      · rw [h1]; simp
      · rw [h1]; simp; omega
theorem insd_ptc (t : List Bool) (n c : Nat) (h : ∀ x ∈ dg n c, x ≠ 2) : Insd t (dg n c) ↔ t.getD (ptc n c) false = true := by
  unfold Insd
  rw [dg_len]
  constructor
  · intro q
    exact q _ (ptc_lt n c) ((mem_ptc n c _ h).2 (Nat.mod_eq_of_lt (ptc_lt n c)))
  · intro q P hP hm
    have := (mem_ptc n c P h).1 hm
    rw [Nat.mod_eq_of_lt hP] at this
    rw [this]; exact q
theorem dg_ex : ∀ (n : Nat) (a : List Int), a.length = n → Dig a → ∃ c, c < 3 ^ n ∧ dg n c = a
  | 0, a, h, hd => ⟨0, by decide, by rw [List.eq_nil_of_length_eq_zero h]; rfl⟩
  | n + 1, [], h, hd => by cases h
  | n + 1, x :: a, h, hd => by
    obtain ⟨c, hc, e⟩ := dg_ex n a (by simpa using h) (fun y hy => hd y (List.mem_cons_of_mem _ hy))
    have hx := hd x (List.mem_cons_self ..)
    have h3 := p3 n
    have hk : x.toNat ≤ 2 := by omega
    have hm : x.toNat * 3 ^ n ≤ 2 * 3 ^ n := Nat.mul_le_mul_right _ hk
    have := dg_parts 0 n 0 x.toNat c hc hk
    rw [Nat.zero_add, Nat.mul_zero, Nat.zero_add] at this
    refine ⟨x.toNat * 3 ^ n + c, by rw [Nat.pow_succ]; omega, ?_⟩
    rw [this, e]
    show ((x.toNat : Int)) :: a = x :: a
    rw [Int.toNat_of_nonneg (by omega)]
theorem dg_lex : ∀ (n c d : Nat), c < 3 ^ n → d < 3 ^ n → c < d → lexLt (dg n c) (dg n d) = true
  | 0, c, d, hc, hd, h => by simp at hc hd; omega
  | n + 1, c, d, hc, hd, h => by
    have h3 := p3 n
    rw [Nat.pow_succ] at hc hd
    have c1 := Nat.div_add_mod c (3 ^ n)
    have d1 := Nat.div_add_mod d (3 ^ n)
    have c2 := Nat.mod_lt c h3
    have d2 := Nat.mod_lt d h3
    have c3 : c / 3 ^ n < 3 := Nat.div_lt_of_lt_mul (by omega)
    have d3 : d / 3 ^ n < 3 := Nat.div_lt_of_lt_mul (by omega)
    simp only [dg, lexLt]
    rw [Nat.mod_eq_of_lt c3, Nat.mod_eq_of_lt d3]
    have ec : dg n c = dg n (c % 3 ^ n) := by conv => lhs; rw [← c1, Nat.add_comm, dg_add]
    have ed : dg n d = dg n (d % 3 ^ n) := by conv => lhs; rw [← d1, Nat.add_comm, dg_add]
    rw [ec, ed]
    rcases Nat.lt_trichotomy (c / 3 ^ n) (d / 3 ^ n) with q | q | q
    · rw [decide_eq_true (by omega), Bool.true_or]
    · rw [q] at c1
      rw [q, dg_lex n _ _ c2 d2 (by omega)]
      simp
    · exfalso
      have : 3 ^ n * (d / 3 ^ n + 1) ≤ 3 ^ n * (c / 3 ^ n) := Nat.mul_le_mul_left _ q
      rw [Nat.mul_add] at this
      omega
theorem best_num (n : Nat) (t : List Bool) (ht : t.length = 2 ^ n) (b : Nat) (hb : b < 3 ^ n) (hi : Insd t (dg n b)) (hm : ∀ c, c < 3 ^ n → Insd t (dg n c) → freeC (dg n c) < freeC (dg n b) ∨ freeC (dg n c) = freeC (dg n b) ∧ b ≤ c) :
    bestT n t = some (freeC (dg n b), dg n b) := by
  obtain ⟨a, ha, hle⟩ := best_max n t (dg n b) ht (dg_len n b) (dg_dig n b) hi
  obtain ⟨i1, i2, i3, i4⟩ := best_in n t a ht ha
  obtain ⟨c, hc, e⟩ := dg_ex n a.2 i1 i2
  rw [← e] at i3 i4
  have h1 := hm c hc i3
  have hcb : c = b := by
    rcases hle with q | ⟨q, g⟩
    · dsimp only at q; omega
    · dsimp only at q g
      rcases Nat.lt_trichotomy b c with w | w | w
      · rw [← e, dg_lex n b c hb hc w] at g; cases g
      · exact w.symm
      · omega
  subst hcb
  rw [ha]
  congr 1
  rw [Prod.ext_iff]
  exact ⟨i4, e.symm⟩
theorem best_none (n : Nat) (t : List Bool) (ht : t.length = 2 ^ n) (hm : ∀ c, c < 3 ^ n → ¬ Insd t (dg n c)) : bestT n t = none := by
  cases h : bestT n t with
  | none => rfl
  | some a =>
    obtain ⟨i1, i2, i3, i4⟩ := best_in n t a ht h
    obtain ⟨c, hc, e⟩ := dg_ex n a.2 i1 i2
    rw [← e] at i3
    exact absurd i3 (hm c hc)
end Go.Proofs.Ytlplphgoldkoeaa.HTab
end

section
set_option linter.unusedVariables false
set_option linter.unusedSimpArgs false
namespace Go.Proofs.Ytlplphgoldkoeaa.X
open Go.RowKit Go.Proofs.YtlplphgoldkoeaaW.PrintWords Go.Proofs.YtlplphgoldkoeaaW.PrintLast Go.Proofs.YtlplphgoldkoeaaW.PrintMore
attribute [local go_sem] max2_int min2_int max_two min_two max_three min_three max_four min_four   -- for this text's walks alone
set_option linter.unusedVariables false
set_option linter.unusedSimpArgs false
mutual
def cantingref02_Least.l0 : Nat → List Bool → Int → Int → Int → Int → List (S106) → Int → Option (List Int × Int)
  | 0, _, _, _, _, _, _, _ => none
  | k + 1, x4, x5, x25, x26, x1229000, x1229001, x1229002 => if x26 < x25 then (cantingref02_Least.l0 k x4 (wrap64 (x5 * 3)) x25 (wrap64 (x26 + 1)) x1229000 x1229001 x1229002) else (if 0 ≤ x5 then (if (x5 : Int).toNat ≤ 281474976710656 then ((some (List.replicate (x5 : Int).toNat false : List Bool)).bind fun y1233 => (cantingref02_Least.l1 k x4 y1233 (-1) (-1) (y1233.length : Int) 0 x1229000 x1229001 x1229002)) else (none)) else (none))
def cantingref02_Least.l1 : Nat → List Bool → List Bool → Int → Int → Int → Int → Int → List (S106) → Int → Option (List Int × Int)
  | 0, _, _, _, _, _, _, _, _, _ => none
  | k + 1, x4, x6, x7, x8, x34, x35, x1229000, x1229001, x1229002 => if x35 < x34 then (cantingref02_Least.l2 k x4 x6 x7 x8 x35 0 0 0 0 1 x34 x35 x1229000 0 x1229000 x1229001 x1229002) else (if x7 < 0 then (some (([] : List Int), 7)) else (if 0 ≤ x1229000 then (if (x1229000 : Int).toNat ≤ 35184372088832 then (cantingref02_Least.l3 k x7 (List.replicate (x1229000 : Int).toNat 0) (wrap64 (x1229000 - 1))) else (none)) else (none)))
def cantingref02_Least.l2 : Nat → List Bool → List Bool → Int → Int → Int → Int → Int → Int → Int → Int → Int → Int → Int → Int → Int → List (S106) → Int → Option (List Int × Int)
  | 0, _, _, _, _, _, _, _, _, _, _, _, _, _, _, _, _, _ => none
  | k + 1, x4, x6, x7, x8, x9, x10, x11, x12, x13, x14, x34, x35, x39, x40, x1229000, x1229001, x1229002 => if x40 < x39 then (if x14 = 0 then (none) else (if (Int.tmod (wrap64 (Int.tdiv x9 x14)) 3) = 2 then (if 0 ≤ x40 then (cantingref02_Least.l2 k x4 x6 x7 x8 x9 (Go.bits .or .i64 x10 (shl .i64 (Go.bits .and .i64 (Int.tmod (wrap64 (Int.tdiv x9 x14)) 3) 1) x40)) (wrap64 (x11 + 1)) x14 1 (wrap64 (x14 * 3)) x34 x35 x39 (wrap64 (x40 + 1)) x1229000 x1229001 x1229002) else (none)) else (if 0 ≤ x40 then (cantingref02_Least.l2 k x4 x6 x7 x8 x9 (Go.bits .or .i64 x10 (shl .i64 (Go.bits .and .i64 (Int.tmod (wrap64 (Int.tdiv x9 x14)) 3) 1) x40)) x11 x12 x13 (wrap64 (x14 * 3)) x34 x35 x39 (wrap64 (x40 + 1)) x1229000 x1229001 x1229002) else (none)))) else (if x13 = 0 then (if 0 ≤ x10 then (if x10 < (x4.length : Int) then (if 0 ≤ x9 then (if x9 < (x6.length : Int) then ((some (x6.set (x9 : Int).toNat (rdOf false x4 x10) : List Bool)).bind fun y1237 => (if rdOf false y1237 x9 = true then (if x11 > x8 then (cantingref02_Least.l1 k x4 y1237 x9 x11 x34 (wrap64 (x35 + 1)) x1229000 x1229001 x1229002) else (cantingref02_Least.l1 k x4 y1237 x7 x8 x34 (wrap64 (x35 + 1)) x1229000 x1229001 x1229002)) else (cantingref02_Least.l1 k x4 y1237 x7 x8 x34 (wrap64 (x35 + 1)) x1229000 x1229001 x1229002))) else (none)) else (none)) else (none)) else (none)) else (if 0 ≤ (wrap64 (x9 - x12)) then (if (wrap64 (x9 - x12)) < (x6.length : Int) then (if rdOf false x6 (wrap64 (x9 - x12)) = true then (if 0 ≤ (wrap64 (x9 - (wrap64 (2 * x12)))) then (if (wrap64 (x9 - (wrap64 (2 * x12)))) < (x6.length : Int) then (if 0 ≤ x9 then (if x9 < (x6.length : Int) then ((some (x6.set (x9 : Int).toNat (rdOf false x6 (wrap64 (x9 - (wrap64 (2 * x12))))) : List Bool)).bind fun y1241 => (if rdOf false y1241 x9 = true then (if x11 > x8 then (cantingref02_Least.l1 k x4 y1241 x9 x11 x34 (wrap64 (x35 + 1)) x1229000 x1229001 x1229002) else (cantingref02_Least.l1 k x4 y1241 x7 x8 x34 (wrap64 (x35 + 1)) x1229000 x1229001 x1229002)) else (cantingref02_Least.l1 k x4 y1241 x7 x8 x34 (wrap64 (x35 + 1)) x1229000 x1229001 x1229002))) else (none)) else (none)) else (none)) else (none)) else (if 0 ≤ x9 then (if x9 < (x6.length : Int) then ((some (x6.set (x9 : Int).toNat false : List Bool)).bind fun y1243 => (if rdOf false y1243 x9 = true then (if x11 > x8 then (cantingref02_Least.l1 k x4 y1243 x9 x11 x34 (wrap64 (x35 + 1)) x1229000 x1229001 x1229002) else (cantingref02_Least.l1 k x4 y1243 x7 x8 x34 (wrap64 (x35 + 1)) x1229000 x1229001 x1229002)) else (cantingref02_Least.l1 k x4 y1243 x7 x8 x34 (wrap64 (x35 + 1)) x1229000 x1229001 x1229002))) else (none)) else (none))) else (none)) else (none)))
def cantingref02_Least.l3 : Nat → Int → List Int → Int → Option (List Int × Int)
  | 0, _, _, _ => none
  | k + 1, x7, x17, x18 => if x18 ≥ 0 then (if 0 ≤ x18 then (if x18 < (x17.length : Int) then (cantingref02_Least.l3 k (wrap64 (Int.tdiv x7 3)) (x17.set (x18 : Int).toNat (Int.tmod x7 3)) (wrap64 (x18 - 1))) else (none)) else (none)) else (some (x17, 0))
end
def cantingref02_Least.f (k : Nat) (a0_0 : Int) (l0_1 : List (S106)) (a0_2 : Int) : Option (List Int × Int) := (cantingref02_Valid.f a0_0 l0_1 a0_2).bind fun t1229 => (if t1229 = true then ((cantingref02_table.f k a0_0 l0_1 a0_2).bind fun t1230 => (cantingref02_Least.l0 k t1230 1 a0_0 0 a0_0 l0_1 a0_2)) else (some (([] : List Int), 2)))
theorem cantingref02_Least.mono_l : ∀ k, (∀ y0 y1 y2 y3 y4 y5 y6, LeO (cantingref02_Least.l0 k y0 y1 y2 y3 y4 y5 y6) (cantingref02_Least.l0 (k + 1) y0 y1 y2 y3 y4 y5 y6)) ∧ (∀ y0 y1 y2 y3 y4 y5 y6 y7 y8, LeO (cantingref02_Least.l1 k y0 y1 y2 y3 y4 y5 y6 y7 y8) (cantingref02_Least.l1 (k + 1) y0 y1 y2 y3 y4 y5 y6 y7 y8)) ∧ (∀ y0 y1 y2 y3 y4 y5 y6 y7 y8 y9 y10 y11 y12 y13 y14 y15 y16, LeO (cantingref02_Least.l2 k y0 y1 y2 y3 y4 y5 y6 y7 y8 y9 y10 y11 y12 y13 y14 y15 y16) (cantingref02_Least.l2 (k + 1) y0 y1 y2 y3 y4 y5 y6 y7 y8 y9 y10 y11 y12 y13 y14 y15 y16)) ∧ (∀ y0 y1 y2, LeO (cantingref02_Least.l3 k y0 y1 y2) (cantingref02_Least.l3 (k + 1) y0 y1 y2))
  | 0 => ⟨fun _ _ _ _ _ _ _ r h => by simp [cantingref02_Least.l0] at h, fun _ _ _ _ _ _ _ _ _ r h => by simp [cantingref02_Least.l1] at h, fun _ _ _ _ _ _ _ _ _ _ _ _ _ _ _ _ _ r h => by simp [cantingref02_Least.l2] at h, fun _ _ _ r h => by simp [cantingref02_Least.l3] at h⟩
  | k + 1 => by
    obtain ⟨ih0, ih1, ih2, ih3⟩ := cantingref02_Least.mono_l k
    refine ⟨?_, ?_, ?_, ?_⟩
    · intro y0 y1 y2 y3 y4 y5 y6
      unfold cantingref02_Least.l0
      repeat' first
      | (with_reducible exact ih0 _ _ _ _ _ _ _)
      | (with_reducible exact ih1 _ _ _ _ _ _ _ _ _)
      | (with_reducible exact ih2 _ _ _ _ _ _ _ _ _ _ _ _ _ _ _ _ _)
      | (with_reducible exact ih3 _ _ _)
      | (with_reducible exact cantingref02_table.mono _ _ _ _)
      | (with_reducible exact LeO.refl _)
      | (with_reducible exact LeO.none _)
      | (with_reducible refine LeO.ite ?_ ?_)
      | (with_reducible refine LeO.bind ?_ (fun _ => ?_))
      | exact ih0 _ _ _ _ _ _ _
      | exact ih1 _ _ _ _ _ _ _ _ _
      | exact ih2 _ _ _ _ _ _ _ _ _ _ _ _ _ _ _ _ _
      | exact ih3 _ _ _
      | exact cantingref02_table.mono _ _ _ _
      | exact LeO.none _
      | refine LeO.ite ?_ ?_
      | refine LeO.bind ?_ (fun _ => ?_)
    · intro y0 y1 y2 y3 y4 y5 y6 y7 y8
      unfold cantingref02_Least.l1
      repeat' first
      | (with_reducible exact ih0 _ _ _ _ _ _ _)
      | (with_reducible exact ih1 _ _ _ _ _ _ _ _ _)
      | (with_reducible exact ih2 _ _ _ _ _ _ _ _ _ _ _ _ _ _ _ _ _)
      | (with_reducible exact ih3 _ _ _)
      | (with_reducible exact cantingref02_table.mono _ _ _ _)
      | (with_reducible exact LeO.refl _)
      | (with_reducible exact LeO.none _)
      | (with_reducible refine LeO.ite ?_ ?_)
      | (with_reducible refine LeO.bind ?_ (fun _ => ?_))
      | exact ih0 _ _ _ _ _ _ _
      | exact ih1 _ _ _ _ _ _ _ _ _
      | exact ih2 _ _ _ _ _ _ _ _ _ _ _ _ _ _ _ _ _
      | exact ih3 _ _ _
      | exact cantingref02_table.mono _ _ _ _
      | exact LeO.none _
      | refine LeO.ite ?_ ?_
      | refine LeO.bind ?_ (fun _ => ?_)
    · intro y0 y1 y2 y3 y4 y5 y6 y7 y8 y9 y10 y11 y12 y13 y14 y15 y16
      unfold cantingref02_Least.l2
      repeat' first
      | (with_reducible exact ih0 _ _ _ _ _ _ _)
      | (with_reducible exact ih1 _ _ _ _ _ _ _ _ _)
      | (with_reducible exact ih2 _ _ _ _ _ _ _ _ _ _ _ _ _ _ _ _ _)
      | (with_reducible exact ih3 _ _ _)
      | (with_reducible exact cantingref02_table.mono _ _ _ _)
      | (with_reducible exact LeO.refl _)
      | (with_reducible exact LeO.none _)
      | (with_reducible refine LeO.ite ?_ ?_)
      | (with_reducible refine LeO.bind ?_ (fun _ => ?_))
      | exact ih0 _ _ _ _ _ _ _
      | exact ih1 _ _ _ _ _ _ _ _ _
      | exact ih2 _ _ _ _ _ _ _ _ _ _ _ _ _ _ _ _ _
      | exact ih3 _ _ _
      | exact cantingref02_table.mono _ _ _ _
      | exact LeO.none _
      | refine LeO.ite ?_ ?_
      | refine LeO.bind ?_ (fun _ => ?_)
    · intro y0 y1 y2
      unfold cantingref02_Least.l3
      repeat' first
      | (with_reducible exact ih0 _ _ _ _ _ _ _)
      | (with_reducible exact ih1 _ _ _ _ _ _ _ _ _)
      | (with_reducible exact ih2 _ _ _ _ _ _ _ _ _ _ _ _ _ _ _ _ _)
      | (with_reducible exact ih3 _ _ _)
      | (with_reducible exact cantingref02_table.mono _ _ _ _)
      | (with_reducible exact LeO.refl _)
      | (with_reducible exact LeO.none _)
      | (with_reducible refine LeO.ite ?_ ?_)
      | (with_reducible refine LeO.bind ?_ (fun _ => ?_))
      | exact ih0 _ _ _ _ _ _ _
      | exact ih1 _ _ _ _ _ _ _ _ _
      | exact ih2 _ _ _ _ _ _ _ _ _ _ _ _ _ _ _ _ _
      | exact ih3 _ _ _
      | exact cantingref02_table.mono _ _ _ _
      | exact LeO.none _
      | refine LeO.ite ?_ ?_
      | refine LeO.bind ?_ (fun _ => ?_)
theorem cantingref02_Least.mono : ∀ a0 a1 a2 k, LeO (cantingref02_Least.f k a0 a1 a2) (cantingref02_Least.f (k + 1) a0 a1 a2) := by
  intro a0 a1 a2 k
  obtain ⟨ih0, ih1, ih2, ih3⟩ := cantingref02_Least.mono_l k
  unfold cantingref02_Least.f
  repeat' first
      | (with_reducible exact ih0 _ _ _ _ _ _ _)
      | (with_reducible exact ih1 _ _ _ _ _ _ _ _ _)
      | (with_reducible exact ih2 _ _ _ _ _ _ _ _ _ _ _ _ _ _ _ _ _)
      | (with_reducible exact ih3 _ _ _)
      | (with_reducible exact cantingref02_table.mono _ _ _ _)
      | (with_reducible exact LeO.refl _)
      | (with_reducible exact LeO.none _)
      | (with_reducible refine LeO.ite ?_ ?_)
      | (with_reducible refine LeO.bind ?_ (fun _ => ?_))
      | exact ih0 _ _ _ _ _ _ _
      | exact ih1 _ _ _ _ _ _ _ _ _
      | exact ih2 _ _ _ _ _ _ _ _ _ _ _ _ _ _ _ _ _
      | exact ih3 _ _ _
      | exact cantingref02_table.mono _ _ _ _
      | exact LeO.none _
      | refine LeO.ite ?_ ?_
      | refine LeO.bind ?_ (fun _ => ?_)
set_option maxHeartbeats 8000000 in
set_option maxRecDepth 100000 in
theorem cantingref02_Least.calls (k : Nat) (a0_0 : Int) (A0_1 : Option Addr) (c0_1 : Nat) (l0_1 : List (S106)) (a0_2 : Int) (r1 : List Int) (r2 : Int) (w : World) (hr0_1 : Kd.C k106 w A0_1 l0_1.length l0_1) (hc0_1 : l0_1.length ≤ c0_1) (h : cantingref02_Least.f k a0_0 l0_1 a0_2 = some (r1, r2)) :
    Calls Try.prog 73 #[.agg #[.int .i64 a0_0, .slice A0_1 l0_1.length c0_1, .int .i64 a0_2]] w fun e w' => ∃ v0_ : Value, e = .returned (.tuple #[v0_, .int .i64 r2]) ∧ Kd.R (Kd.int .i64) 3 w' w.heap.size (fun _ => True) v0_ r1 ∧ Below w.heap.size w w' := by
  have hu33 := Try.underlying33
  have HR0_1 := Aside0.mk hr0_1
  have HC0_1 := Aside0.mk hc0_1
  clear hr0_1 hc0_1
  have HB := Aside0.mk (Below.refl w.heap.size w)
  have H : ((cantingref02_Valid.f a0_0 l0_1 a0_2).bind fun t1229 => (if t1229 = true then ((cantingref02_table.f k a0_0 l0_1 a0_2).bind fun t1230 => (cantingref02_Least.l0 k t1230 1 a0_0 0 a0_0 l0_1 a0_2)) else (some (([] : List Int), 2)))) = some (r1, r2) := h
  clear h
  replace H := Option.bind_eq_some_iff.mp H
  obtain ⟨t1229, A20, H⟩ := H
  replace H : (if t1229 = true then ((cantingref02_table.f k a0_0 l0_1 a0_2).bind fun t1230 => (cantingref02_Least.l0 k t1230 1 a0_0 0 a0_0 l0_1 a0_2)) else (some (([] : List Int), 2))) = some (r1, r2) := H
  have A2 := Aside0.mk A20
  clear A20
  by_cases c3 : t1229 = true
  · subst c3
    have H1 : ((cantingref02_table.f k a0_0 l0_1 a0_2).bind fun t1230 => (cantingref02_Least.l0 k t1230 1 a0_0 0 a0_0 l0_1 a0_2)) = some (r1, r2) := by rw [if_pos rfl] at H; exact H
    clear H
    have H := H1
    clear H1
    replace H := Option.bind_eq_some_iff.mp H
    obtain ⟨t1230, A40, H⟩ := H
    replace H : (cantingref02_Least.l0 k t1230 1 a0_0 0 a0_0 l0_1 a0_2) = some (r1, r2) := H
    have A4 := Aside0.mk A40
    clear A40
    have H' := Aside0.mk H
    clear H
    go_enter Try.func73, Try.ntmps73
    go_wp2_with (first | ((with_reducible refine gate_dst (N := 1) rfl ?_); refine box_event ?hg (N := 1) ?hd (cs := #[.int .i64 a0_0, .slice A0_1 l0_1.length c0_1, .int .i64 a0_2]) (t := 33) ?hr ?_; (case hd => rfl); (case hg => rfl); (case hr => first | (go_simp; done) | (go_simp; rfl)); intro gb1228 hg w5 hbox hb; have n0_ := Aside0.mk (below_step (by repeat (first | (with_reducible first | exact HB.out | apply below_alloc | apply pw_below_drewN | apply below_drew1) | exact HB.out)) hb); have n1_ := Aside0.mk (hbox); have n2_ := Aside0.mk ((by rw [hg]; exact (below_size (by repeat (first | (with_reducible first | exact HB.out | apply below_alloc | apply pw_below_drewN | apply below_drew1) | exact HB.out))) : w.heap.size ≤ gb1228)); have n3_ := Aside0.mk ((by rw [hg]; exact (below_size (by repeat (first | (with_reducible first | exact HB.out | apply below_alloc | apply pw_below_drewN | apply below_drew1) | exact HB.out))) : w.heap.size ≤ gb1228)); clear HB; have HB := n0_; have BK1228 := n1_; have GW1228 := n2_; have GE1228 := n3_; clear n0_ n1_ n2_ n3_; clear hb hbox hg; have hcz6_0 : w5.cell? ⟨gb1228, 0, none⟩ = some (.int .i64 a0_0) := (blk_cell BK1228.out 0).trans rfl; have hcz6_1 : w5.cell? ⟨gb1228, 1, none⟩ = some (.slice A0_1 l0_1.length c0_1) := (blk_cell BK1228.out 1).trans rfl; have hcz6_2 : w5.cell? ⟨gb1228, 2, none⟩ = some (.int .i64 a0_2) := (blk_cell BK1228.out 2).trans rfl; have hfz6_0 := blk_frozen BK1228.out 0; have hfz6_1 := blk_frozen BK1228.out 1; have hfz6_2 := blk_frozen BK1228.out 2) | ((with_reducible refine gate_callee (f := 31) rfl ?_); refine goesL_ (some 20) rfl rfl Try.func31 (by kernel_rfl) rfl #[.agg #[.int .i64 a0_0, .slice A0_1 l0_1.length c0_1, .int .i64 a0_2]] rfl (by (try simp only [List.map_toArray, List.map_cons, List.map_nil]); first | done | rfl | (simp only [List.length_drop, List.length_take]; rfl)) ?_; (with_reducible refine (cantingref02_Valid.calls a0_0 _ _ l0_1 a0_2 true _ ?side1 ?side2 A2.out).mono ?_); (case side1 => repeat (first | exact (Kd.C_below HR0_1.out HB.out) | (with_reducible refine Kd.C_alloc ?_ _) | (with_reducible refine Kd.C_drewN ?_ _) | (with_reducible refine Kd.C_drew ?_))); (case side2 => exact HC0_1.out); rintro e w7 ⟨rfl, hb⟩; refine ⟨_, rfl, ?_⟩; have n0_ := Aside0.mk (blk_below (g := gb1228) (o := .cells #[.int .i64 a0_0, .slice A0_1 l0_1.length c0_1, .int .i64 a0_2] 33 (0, 0)) (by (with_reducible repeat (first | refine blk_drewN ?_ _ | refine blk_drew ?_ | refine blk_alloc ?_ _)); exact BK1228.out) hb); have n1_ := Aside0.mk (below_step (by repeat (first | (with_reducible first | exact HB.out | apply below_alloc | apply pw_below_drewN | apply below_drew1 | refine below_set ?_ GE1228.out) | exact HB.out)) hb); clear BK1228; clear HB; have BK1228 := n0_; have HB := n1_; clear n0_ n1_; (try clear hb); (try clear hb2); (try clear hk); (try clear hi); have hcz8_0 : w7.cell? ⟨gb1228, 0, none⟩ = some (.int .i64 a0_0) := (blk_cell BK1228.out 0).trans rfl; have hcz8_1 : w7.cell? ⟨gb1228, 1, none⟩ = some (.slice A0_1 l0_1.length c0_1) := (blk_cell BK1228.out 1).trans rfl; have hcz8_2 : w7.cell? ⟨gb1228, 2, none⟩ = some (.int .i64 a0_2) := (blk_cell BK1228.out 2).trans rfl; have hfz8_0 := blk_frozen BK1228.out 0; have hfz8_1 := blk_frozen BK1228.out 1; have hfz8_2 := blk_frozen BK1228.out 2) | ((with_reducible refine gate_callee (f := 93) rfl ?_); refine goesL_ (some 23) rfl rfl Try.func93 (by kernel_rfl) rfl #[.agg #[.int .i64 a0_0, .slice A0_1 l0_1.length c0_1, .int .i64 a0_2]] rfl (by (try simp only [List.map_toArray, List.map_cons, List.map_nil]); first | done | rfl | (simp only [List.length_drop, List.length_take]; rfl)) ?_; (with_reducible refine (cantingref02_table.calls k a0_0 _ _ l0_1 a0_2 t1230 _ ?side1 ?side2 A4.out).mono ?_); (case side1 => repeat (first | exact (Kd.C_below HR0_1.out HB.out) | (with_reducible refine Kd.C_alloc ?_ _) | (with_reducible refine Kd.C_drewN ?_ _) | (with_reducible refine Kd.C_drew ?_))); (case side2 => exact HC0_1.out); rintro e w9 ⟨v1231, rfl, ho0, hb⟩; refine ⟨_, rfl, ?_⟩; have n0_ := Aside0.mk (Kd.R_lower ho0 (below_size (by repeat (first | (with_reducible first | exact HB.out | apply below_alloc | apply pw_below_drewN | apply below_drew1 | refine below_set ?_ GE1228.out) | exact HB.out)))); have n1_ := Aside0.mk (blk_below (g := gb1228) (o := .cells #[.int .i64 a0_0, .slice A0_1 l0_1.length c0_1, .int .i64 a0_2] 33 (0, 0)) (by (with_reducible repeat (first | refine blk_drewN ?_ _ | refine blk_drew ?_ | refine blk_alloc ?_ _)); exact BK1228.out) hb); have n2_ := Aside0.mk (below_step (by repeat (first | (with_reducible first | exact HB.out | apply below_alloc | apply pw_below_drewN | apply below_drew1 | refine below_set ?_ GE1228.out) | exact HB.out)) hb); clear BK1228; clear HB; have HO1232 := n0_; have BK1228 := n1_; have HB := n2_; clear n0_ n1_ n2_; (try clear hb); (try clear hb2); (try clear hk); (try clear hi); (try clear ho0); have hcz10_0 : w9.cell? ⟨gb1228, 0, none⟩ = some (.int .i64 a0_0) := (blk_cell BK1228.out 0).trans rfl; have hcz10_1 : w9.cell? ⟨gb1228, 1, none⟩ = some (.slice A0_1 l0_1.length c0_1) := (blk_cell BK1228.out 1).trans rfl; have hcz10_2 : w9.cell? ⟨gb1228, 2, none⟩ = some (.int .i64 a0_2) := (blk_cell BK1228.out 2).trans rfl; have hfz10_0 := blk_frozen BK1228.out 0; have hfz10_1 := blk_frozen BK1228.out 1; have hfz10_2 := blk_frozen BK1228.out 2))
    go_loopg [5, 26] k (fun kq v5 v26 w' => ∃ (x5_1 : Int) (x26_1 : Int), v5 = .int .i64 x5_1 ∧ v26 = .int .i64 x26_1 ∧ Aside0 (cantingref02_Least.l0 kq t1230 x5_1 a0_0 x26_1 a0_0 l0_1 a0_2 = some (r1, r2)) ∧ Aside0 (kq ≤ k) ∧ Aside0 (Kd.R Kd.bool 4 w' w.heap.size (fun _ => True) v1231 t1230) ∧ Aside0 (w'.heap[gb1228]? = some (.cells #[.int .i64 a0_0, (.slice A0_1 l0_1.length c0_1), .int .i64 a0_2] 33 (0, 0))) ∧ Aside0 (Below w.heap.size w w'))
    case atStart => exact ⟨(1), (0), (by first | rfl | (simp; done) | (simp [*]; done)), (by first | rfl | (simp; done) | (simp [*]; done)), H', ⟨Nat.le_refl _⟩, ⟨by (with_reducible repeat (first | apply Kd.R_alloc | apply Kd.R_drewN | apply Kd.R_drew)); exact HO1232.out⟩, ⟨by (with_reducible repeat (first | refine blk_drewN ?_ _ | refine blk_drew ?_ | refine blk_alloc ?_ _)); exact BK1228.out⟩, ⟨by repeat (first | (with_reducible first | exact HB.out | apply below_alloc | apply pw_below_drewN | apply below_drew1 | refine below_set ?_ GE1228.out) | exact HB.out)⟩⟩
    case round =>
      clear H'
      try clear p2
      try clear c3
      try clear c7
      try clear c9
      try clear hcz10_0
      try clear hcz10_1
      try clear hcz10_2
      try clear hcz6_0
      try clear hcz6_1
      try clear hcz6_2
      try clear hcz8_0
      try clear hcz8_1
      try clear hcz8_2
      try clear hfz10_0
      try clear hfz10_1
      try clear hfz10_2
      try clear hfz6_0
      try clear hfz6_1
      try clear hfz6_2
      try clear hfz8_0
      try clear hfz8_1
      try clear hfz8_2
      obtain ⟨x5_1, x26_1, rfl, rfl, HA, HK1, HO_4, BK1228, HB⟩ := hrel
      cases gk with
      | zero => exact absurd HA.out (by simp [cantingref02_Least.l0])
      | succ k1 =>
        have H := HA.out
        clear HA
        simp only [cantingref02_Least.l0] at H
        by_cases c11 : x26_1 < a0_0
        · rw [if_pos c11] at H
          have c11b0 : decide (x26_1 < a0_0) = true := decide_eq_true c11
          (try (have c11b0_0 := c11b0; rw [hl6_2] at c11b0_0))
          clear c11
          have H' := Aside0.mk H
          clear H
          go_wp2
          go_roundg k1
          case measure => have := HK1.out; omega
          case rel => exact ⟨(wrap64 (x5_1 * 3)), (wrap64 (x26_1 + 1)), (by first | rfl | (simp; done) | (simp [*]; done)), (by first | rfl | (simp; done) | (simp [*]; done)), H', ⟨by have := HK1.out; omega⟩, ⟨by (with_reducible repeat (first | apply Kd.R_alloc | apply Kd.R_drewN | apply Kd.R_drew)); exact HO_4.out⟩, ⟨by (with_reducible repeat (first | refine blk_drewN ?_ _ | refine blk_drew ?_ | refine blk_alloc ?_ _)); exact BK1228.out⟩, ⟨by repeat (first | (with_reducible first | exact HB.out | apply below_alloc | apply pw_below_drewN | apply below_drew1 | refine below_set ?_ GE1228.out) | exact HB.out)⟩⟩
        · rw [if_neg c11] at H
          have c11b0 : decide (x26_1 < a0_0) = false := decide_eq_false c11
          (try (have c11b0_0 := c11b0; rw [hl6_2] at c11b0_0))
          clear c11
          by_cases c12 : 0 ≤ x5_1
          · rw [if_pos c12] at H
            have c12b0 := eq_true c12
            (try (have c12b0_0 := c12b0; rw [hl6_2] at c12b0_0))
            have c12b1 : decide (0 ≤ x5_1) = true := decide_eq_true c12
            (try (have c12b1_0 := c12b1; rw [hl6_2] at c12b1_0))
            clear c12
            by_cases c13 : (x5_1 : Int).toNat ≤ 281474976710656
            · rw [if_pos c13] at H
              have c13b0 := eq_true c13
              (try (have c13b0_0 := c13b0; rw [hl6_2] at c13b0_0))
              have c13b1 : decide ((x5_1 : Int).toNat ≤ 281474976710656) = true := decide_eq_true c13
              (try (have c13b1_0 := c13b1; rw [hl6_2] at c13b1_0))
              clear c13
              obtain ⟨y1233, hy1233⟩ : ∃ y_ : List Bool, y_ = (List.replicate (x5_1 : Int).toNat false) := ⟨_, rfl⟩
              replace H : (cantingref02_Least.l1 k1 t1230 y1233 (-1) (-1) (y1233.length : Int) 0 a0_0 l0_1 a0_2) = some (r1, r2) := by first | (rw [hy1233]; with_reducible exact H) | (have H2_ := (Option.bind_some _ _).symm.trans H; rw [hy1233]; with_reducible exact H2_) | (have H2_ := (Option.bind_some _ _).symm.trans H; with_reducible exact H2_) | with_reducible exact H | (rw [hy1233]; exact H) | exact H
              have Ny1233 := Aside0.mk hy1233
              clear hy1233
              have H' := Aside0.mk H
              clear H
              go_wp2_with (first | ((with_reducible refine gate_dst (N := 32) rfl ?_); refine Kd.R_make Kd.bool _ 4 rfl (N := 32) rfl 47 _ _ rfl x5_1 rfl rfl Try.underlying47 (.bool false) 1 info4 rfl (by decide) (by omega) false (ok := fun _ => True) (okp := fun _ => True) rfl (fun _ hk => hk) trivial (of_decide_eq_true (by first | (with_reducible assumption) | assumption)) (Nat.le_trans (Nat.mul_le_mul_right _ (of_decide_eq_true (by first | (with_reducible assumption) | assumption) : x5_1.toNat ≤ 281474976710656)) (by omega)) (Below.refl _ _) (Nat.le_refl _) ?_; intro v1234 w14 ho15 hb hg_ hnew_; clear hg_ hnew_; (first | rw [← Ny1233.out] at ho15 | (simp only [Int.reduceToNat] at ho15; rw [← Ny1233.out] at ho15)); have n0_ := Aside0.mk (Kd.R_elder' (by (with_reducible repeat (first | apply Kd.R_alloc | apply Kd.R_drewN | apply Kd.R_drew)); exact HO_4.out) (Kd.R_base ho15) hb); have n1_ := Aside0.mk (Kd.R_lower (Kd.R_new' ho15 (Kd.R_lt (by (with_reducible repeat (first | apply Kd.R_alloc | apply Kd.R_drewN | apply Kd.R_drew)); exact HO_4.out))) (below_size (by repeat (first | (with_reducible first | exact HB.out | apply below_alloc | apply pw_below_drewN | apply below_drew1 | refine below_set ?_ GE1228.out) | exact HB.out)))); have n2_ := Aside0.mk (blk_below (g := gb1228) (o := .cells #[.int .i64 a0_0, .slice A0_1 l0_1.length c0_1, .int .i64 a0_2] 33 (0, 0)) (by (with_reducible repeat (first | refine blk_drewN ?_ _ | refine blk_drew ?_ | refine blk_alloc ?_ _)); exact BK1228.out) hb); have n3_ := Aside0.mk (below_step (by repeat (first | (with_reducible first | exact HB.out | apply below_alloc | apply pw_below_drewN | apply below_drew1 | refine below_set ?_ GE1228.out) | exact HB.out)) hb); clear HO_4; clear BK1228; clear HB; have HO_4 := n0_; have HO1235 := n1_; have BK1228 := n2_; have HB := n3_; clear n0_ n1_ n2_ n3_; clear hb ho15; obtain ⟨Ao16, co16, eo16⟩ := Kd.R_slice HO1235.out; subst eo16))
              go_loopg [7, 8, 35] k1 (fun kq v7 v8 v35 w' => ∃ (x6_2 : List Bool) (x7_2 : Int) (x8_2 : Int) (x35_2 : Int), v7 = .int .i64 x7_2 ∧ v8 = .int .i64 x8_2 ∧ v35 = .int .i64 x35_2 ∧ Aside0 (cantingref02_Least.l1 kq t1230 x6_2 x7_2 x8_2 (y1233.length : Int) x35_2 a0_0 l0_1 a0_2 = some (r1, r2)) ∧ Aside0 (kq ≤ k1) ∧ Aside0 (Kd.R Kd.bool 4 w' w.heap.size (fun k_ => some k_ ≠ ((.slice Ao16 y1233.length co16) : Value).ownBlock) v1231 t1230) ∧ Aside0 (Kd.R Kd.bool 4 w' w.heap.size (fun k_ => some k_ ≠ (v1231 : Value).ownBlock) (.slice Ao16 y1233.length co16) x6_2) ∧ Aside0 (w'.heap[gb1228]? = some (.cells #[.int .i64 a0_0, (.slice A0_1 l0_1.length c0_1), .int .i64 a0_2] 33 (0, 0))) ∧ Aside0 (Below w.heap.size w w'))
              case atStart => exact ⟨(y1233), ((-1)), ((-1)), (0), (by first | rfl | (simp; done) | (simp [*]; done)), (by first | rfl | (simp; done) | (simp [*]; done)), (by first | rfl | (simp; done) | (simp [*]; done)), H', ⟨Nat.le_refl _⟩, ⟨by (with_reducible repeat (first | apply Kd.R_alloc | apply Kd.R_drewN | apply Kd.R_drew)); exact Kd.R_mono HO_4.out (fun _ hk => hk.2)⟩, ⟨by (with_reducible repeat (first | apply Kd.R_alloc | apply Kd.R_drewN | apply Kd.R_drew)); exact Kd.R_mono HO1235.out (fun _ hk => hk.2)⟩, ⟨by (with_reducible repeat (first | refine blk_drewN ?_ _ | refine blk_drew ?_ | refine blk_alloc ?_ _)); exact BK1228.out⟩, ⟨by repeat (first | (with_reducible first | exact HB.out | apply below_alloc | apply pw_below_drewN | apply below_drew1 | refine below_set ?_ GE1228.out) | exact HB.out)⟩⟩
              case round =>
                clear H'
                try clear c1
                try clear p2
                try clear c3
                try clear p6
                try clear c7
                try clear c9
                try clear c11
                try clear c11b0
                try clear c12
                try clear c12b0
                try clear c12b1
                try clear c13
                try clear c13b0
                try clear c13b1
                try clear hcz10_0
                try clear hcz10_1
                try clear hcz10_2
                try clear hcz6_0
                try clear hcz6_1
                try clear hcz6_2
                try clear hcz8_0
                try clear hcz8_1
                try clear hcz8_2
                try clear hfz10_0
                try clear hfz10_1
                try clear hfz10_2
                try clear hfz6_0
                try clear hfz6_1
                try clear hfz6_2
                try clear hfz8_0
                try clear hfz8_1
                try clear hfz8_2
                try clear p2
                obtain ⟨x6_2, x7_2, x8_2, x35_2, rfl, rfl, rfl, HA, HK2, HO_4, HO_6, BK1228, HB⟩ := hrel
                have hl6_2 := (Kd.R_reads' HO_6.out).1
                rw [hl6_2] at HO_6
                (try simp only [hl6_2])
                (try simp only [hl6_2] at BK1228)
                (try simp only [hl6_2] at HO_4)
                cases gk with
                | zero => exact absurd HA.out (by simp [cantingref02_Least.l1])
                | succ k2 =>
                  have H := HA.out
                  clear HA
                  simp only [cantingref02_Least.l1] at H
                  by_cases c17 : x35_2 < (y1233.length : Int)
                  · rw [if_pos c17] at H
                    have c17b0 : decide (x35_2 < (y1233.length : Int)) = true := decide_eq_true c17
                    (try (have c17b0_0 := c17b0; rw [hl6_2] at c17b0_0))
                    clear c17
                    have H' := Aside0.mk H
                    clear H
                    have hcz18_0 : wr.cell? ⟨gb1228, 0, none⟩ = some (.int .i64 a0_0) := (blk_cell BK1228.out 0).trans rfl
                    have hcz18_1 : wr.cell? ⟨gb1228, 1, none⟩ = some (.slice A0_1 l0_1.length c0_1) := (blk_cell BK1228.out 1).trans rfl
                    have hcz18_2 : wr.cell? ⟨gb1228, 2, none⟩ = some (.int .i64 a0_2) := (blk_cell BK1228.out 2).trans rfl
                    have hfz18_0 := blk_frozen BK1228.out 0
                    have hfz18_1 := blk_frozen BK1228.out 1
                    have hfz18_2 := blk_frozen BK1228.out 2
                    go_wp2
                    go_loopg [10, 11, 12, 13, 14, 40] k2 (fun kq v10 v11 v12 v13 v14 v40 w' => ∃ (x10_3 : Int) (x11_3 : Int) (x12_3 : Int) (x13_3 : Int) (x14_3 : Int) (x40_3 : Int), v10 = .int .i64 x10_3 ∧ v11 = .int .i64 x11_3 ∧ v12 = .int .i64 x12_3 ∧ v13 = .int .i64 x13_3 ∧ v14 = .int .i64 x14_3 ∧ v40 = .int .i64 x40_3 ∧ Aside0 (cantingref02_Least.l2 kq t1230 x6_2 x7_2 x8_2 x35_2 x10_3 x11_3 x12_3 x13_3 x14_3 (y1233.length : Int) x35_2 a0_0 x40_3 a0_0 l0_1 a0_2 = some (r1, r2)) ∧ Aside0 (kq ≤ k2) ∧ Aside0 (Kd.R Kd.bool 4 w' w.heap.size (fun k_ => some k_ ≠ ((.slice Ao16 x6_2.length co16) : Value).ownBlock) v1231 t1230) ∧ Aside0 (Kd.R Kd.bool 4 w' w.heap.size (fun k_ => some k_ ≠ (v1231 : Value).ownBlock) (.slice Ao16 x6_2.length co16) x6_2) ∧ Aside0 (w'.heap[gb1228]? = some (.cells #[.int .i64 a0_0, (.slice A0_1 l0_1.length c0_1), .int .i64 a0_2] 33 (0, 0))) ∧ Aside0 (Below w.heap.size w w'))
                    case atStart => exact ⟨(0), (0), (0), (0), (1), (0), (by first | rfl | (simp; done) | (simp [*]; done)), (by first | rfl | (simp; done) | (simp [*]; done)), (by first | rfl | (simp; done) | (simp [*]; done)), (by first | rfl | (simp; done) | (simp [*]; done)), (by first | rfl | (simp; done) | (simp [*]; done)), (by first | rfl | (simp; done) | (simp [*]; done)), H', ⟨Nat.le_refl _⟩, ⟨by (try simp only [hl6_2]); (with_reducible repeat (first | apply Kd.R_alloc | apply Kd.R_drewN | apply Kd.R_drew)); exact HO_4.out⟩, ⟨by (try simp only [hl6_2]); (with_reducible repeat (first | apply Kd.R_alloc | apply Kd.R_drewN | apply Kd.R_drew)); exact HO_6.out⟩, ⟨by (try simp only [hl6_2]); (with_reducible repeat (first | refine blk_drewN ?_ _ | refine blk_drew ?_ | refine blk_alloc ?_ _)); exact BK1228.out⟩, ⟨by repeat (first | (with_reducible first | exact HB.out | apply below_alloc | apply pw_below_drewN | apply below_drew1 | refine below_set ?_ GE1228.out) | exact HB.out)⟩⟩
                    case round =>
                      clear H'
                      try clear c1
                      try clear p2
                      try clear c3
                      try clear p6
                      try clear c7
                      try clear c9
                      try clear c11
                      try clear c11b0
                      try clear c12
                      try clear c12b0
                      try clear c12b1
                      try clear c13
                      try clear c13b0
                      try clear c13b1
                      try clear c17
                      try clear c17b0
                      try clear hcz10_0
                      try clear hcz10_1
                      try clear hcz10_2
                      try clear hcz18_0
                      try clear hcz18_1
                      try clear hcz18_2
                      try clear hcz6_0
                      try clear hcz6_1
                      try clear hcz6_2
                      try clear hcz8_0
                      try clear hcz8_1
                      try clear hcz8_2
                      try clear hfz10_0
                      try clear hfz10_1
                      try clear hfz10_2
                      try clear hfz18_0
                      try clear hfz18_1
                      try clear hfz18_2
                      try clear hfz6_0
                      try clear hfz6_1
                      try clear hfz6_2
                      try clear hfz8_0
                      try clear hfz8_1
                      try clear hfz8_2
                      try clear p2
                      try clear p6
                      obtain ⟨x10_3, x11_3, x12_3, x13_3, x14_3, x40_3, rfl, rfl, rfl, rfl, rfl, rfl, HA, HK3, HO_4, HO_6, BK1228, HB⟩ := hrel
                      cases gk with
                      | zero => exact absurd HA.out (by simp [cantingref02_Least.l2])
                      | succ k3 =>
                        have H := HA.out
                        clear HA
                        simp only [cantingref02_Least.l2] at H
                        by_cases c19 : x40_3 < a0_0
                        · rw [if_pos c19] at H
                          have c19b0 : decide (x40_3 < a0_0) = true := decide_eq_true c19
                          (try (have c19b0_0 := c19b0; rw [hl6_2] at c19b0_0))
                          clear c19
                          by_cases c20 : x14_3 = 0
                          · rw [if_pos c20] at H
                            exact absurd H (by simp)
                          · rw [if_neg c20] at H
                            have c20b0 : (x14_3 == 0) = false := beq_eq_false_iff_ne.mpr c20
                            have c20b1 : (x14_3 != 0) = true := bne_iff_ne.mpr c20
                            by_cases c21 : (Int.tmod (wrap64 (Int.tdiv x35_2 x14_3)) 3) = 2
                            · rw [if_pos c21] at H
                              have c21b0 : ((Int.tmod (wrap64 (Int.tdiv x35_2 x14_3)) 3) == 2) = true := beq_iff_eq.mpr c21
                              have c21b1 : ((Int.tmod (wrap64 (Int.tdiv x35_2 x14_3)) 3) != 2) = false := bne_eq_false_iff_eq.mpr c21
                              clear c21
                              by_cases c22 : 0 ≤ x40_3
                              · rw [if_pos c22] at H
                                have c22b0 := eq_true c22
                                (try (have c22b0_0 := c22b0; rw [hl6_2] at c22b0_0))
                                have c22b1 : decide (0 ≤ x40_3) = true := decide_eq_true c22
                                (try (have c22b1_0 := c22b1; rw [hl6_2] at c22b1_0))
                                clear c22
                                obtain ⟨ji23, hji23⟩ : ∃ j_ : Int, (shl .i64 (Go.bits .and .i64 (Int.tmod (wrap64 (Int.tdiv x35_2 x14_3)) 3) 1) x40_3) = j_ := ⟨_, rfl⟩
                                replace H : (cantingref02_Least.l2 k3 t1230 x6_2 x7_2 x8_2 x35_2 (Go.bits .or .i64 x10_3 (ji23)) (wrap64 (x11_3 + 1)) x14_3 1 (wrap64 (x14_3 * 3)) (y1233.length : Int) x35_2 a0_0 (wrap64 (x40_3 + 1)) a0_0 l0_1 a0_2) = some (r1, r2) := by first | (rw [hji23] at H; exact H) | (simp only [hji23] at H ⊢; exact H)
                                have hji23_ : (IntKind.i64.wrap ((Go.bits .and .i64 (Int.tmod (wrap64 (Int.tdiv x35_2 x14_3)) 3) 1) * 2 ^ min x40_3.toNat 64)) = ji23 := hji23
                                have hji23z : x40_3 ≤ 64 → (IntKind.i64.wrap ((Go.bits .and .i64 (Int.tmod (wrap64 (Int.tdiv x35_2 x14_3)) 3) 1) * 2 ^ x40_3.toNat)) = ji23 := shl_small hji23
                                have hji23y : (wrap64 ((Go.bits .and .i64 (Int.tmod (wrap64 (Int.tdiv x35_2 x14_3)) 3) 1) * 2 ^ min x40_3.toNat 64)) = ji23 := (i64_w _).symm.trans hji23_
                                have hji23x : x40_3 ≤ 64 → (wrap64 ((Go.bits .and .i64 (Int.tmod (wrap64 (Int.tdiv x35_2 x14_3)) 3) 1) * 2 ^ x40_3.toNat)) = ji23 := fun h_ => (i64_w _).symm.trans (hji23z h_)
                                have H' := Aside0.mk H
                                clear H
                                go_wp2
                                go_roundg k3
                                case measure => have := HK1.out; have := HK2.out; have := HK3.out; omega
                                case rel => exact ⟨(Go.bits .or .i64 x10_3 (ji23)), (wrap64 (x11_3 + 1)), (x14_3), (1), (wrap64 (x14_3 * 3)), (wrap64 (x40_3 + 1)), (by first | rfl | (simp; done) | (simp only [← hji23] <;> (first | rfl | simp)) | (simp [*]; done)), (by first | rfl | (simp; done) | (simp [*]; done)), (by first | rfl | (simp; done) | (simp [*]; done)), (by first | rfl | (simp; done) | (simp [*]; done)), (by first | rfl | (simp; done) | (simp [*]; done)), (by first | rfl | (simp; done) | (simp [*]; done)), H', ⟨by have := HK1.out; have := HK2.out; have := HK3.out; omega⟩, ⟨by (try simp only [hl6_2]); (with_reducible repeat (first | apply Kd.R_alloc | apply Kd.R_drewN | apply Kd.R_drew)); exact HO_4.out⟩, ⟨by (try simp only [hl6_2]); (with_reducible repeat (first | apply Kd.R_alloc | apply Kd.R_drewN | apply Kd.R_drew)); exact HO_6.out⟩, ⟨by (try simp only [hl6_2]); (with_reducible repeat (first | refine blk_drewN ?_ _ | refine blk_drew ?_ | refine blk_alloc ?_ _)); exact BK1228.out⟩, ⟨by repeat (first | (with_reducible first | exact HB.out | apply below_alloc | apply pw_below_drewN | apply below_drew1 | refine below_set ?_ GE1228.out) | exact HB.out)⟩⟩
                              · rw [if_neg c22] at H
                                exact absurd H (by simp)
                            · rw [if_neg c21] at H
                              have c21b0 : ((Int.tmod (wrap64 (Int.tdiv x35_2 x14_3)) 3) == 2) = false := beq_eq_false_iff_ne.mpr c21
                              have c21b1 : ((Int.tmod (wrap64 (Int.tdiv x35_2 x14_3)) 3) != 2) = true := bne_iff_ne.mpr c21
                              by_cases c24 : 0 ≤ x40_3
                              · rw [if_pos c24] at H
                                have c24b0 := eq_true c24
                                (try (have c24b0_0 := c24b0; rw [hl6_2] at c24b0_0))
                                have c24b1 : decide (0 ≤ x40_3) = true := decide_eq_true c24
                                (try (have c24b1_0 := c24b1; rw [hl6_2] at c24b1_0))
                                clear c24
                                obtain ⟨ji25, hji25⟩ : ∃ j_ : Int, (shl .i64 (Go.bits .and .i64 (Int.tmod (wrap64 (Int.tdiv x35_2 x14_3)) 3) 1) x40_3) = j_ := ⟨_, rfl⟩
                                replace H : (cantingref02_Least.l2 k3 t1230 x6_2 x7_2 x8_2 x35_2 (Go.bits .or .i64 x10_3 (ji25)) x11_3 x12_3 x13_3 (wrap64 (x14_3 * 3)) (y1233.length : Int) x35_2 a0_0 (wrap64 (x40_3 + 1)) a0_0 l0_1 a0_2) = some (r1, r2) := by first | (rw [hji25] at H; exact H) | (simp only [hji25] at H ⊢; exact H)
                                have hji25_ : (IntKind.i64.wrap ((Go.bits .and .i64 (Int.tmod (wrap64 (Int.tdiv x35_2 x14_3)) 3) 1) * 2 ^ min x40_3.toNat 64)) = ji25 := hji25
                                have hji25z : x40_3 ≤ 64 → (IntKind.i64.wrap ((Go.bits .and .i64 (Int.tmod (wrap64 (Int.tdiv x35_2 x14_3)) 3) 1) * 2 ^ x40_3.toNat)) = ji25 := shl_small hji25
                                have hji25y : (wrap64 ((Go.bits .and .i64 (Int.tmod (wrap64 (Int.tdiv x35_2 x14_3)) 3) 1) * 2 ^ min x40_3.toNat 64)) = ji25 := (i64_w _).symm.trans hji25_
                                have hji25x : x40_3 ≤ 64 → (wrap64 ((Go.bits .and .i64 (Int.tmod (wrap64 (Int.tdiv x35_2 x14_3)) 3) 1) * 2 ^ x40_3.toNat)) = ji25 := fun h_ => (i64_w _).symm.trans (hji25z h_)
                                have H' := Aside0.mk H
                                clear H
                                go_wp2
                                go_roundg k3
                                case measure => have := HK1.out; have := HK2.out; have := HK3.out; omega
                                case rel => exact ⟨(Go.bits .or .i64 x10_3 (ji25)), (x11_3), (x12_3), (x13_3), (wrap64 (x14_3 * 3)), (wrap64 (x40_3 + 1)), (by first | rfl | (simp; done) | (simp only [← hji25] <;> (first | rfl | simp)) | (simp [*]; done)), (by first | rfl | (simp; done) | (simp [*]; done)), (by first | rfl | (simp; done) | (simp [*]; done)), (by first | rfl | (simp; done) | (simp [*]; done)), (by first | rfl | (simp; done) | (simp [*]; done)), (by first | rfl | (simp; done) | (simp [*]; done)), H', ⟨by have := HK1.out; have := HK2.out; have := HK3.out; omega⟩, ⟨by (try simp only [hl6_2]); (with_reducible repeat (first | apply Kd.R_alloc | apply Kd.R_drewN | apply Kd.R_drew)); exact HO_4.out⟩, ⟨by (try simp only [hl6_2]); (with_reducible repeat (first | apply Kd.R_alloc | apply Kd.R_drewN | apply Kd.R_drew)); exact HO_6.out⟩, ⟨by (try simp only [hl6_2]); (with_reducible repeat (first | refine blk_drewN ?_ _ | refine blk_drew ?_ | refine blk_alloc ?_ _)); exact BK1228.out⟩, ⟨by repeat (first | (with_reducible first | exact HB.out | apply below_alloc | apply pw_below_drewN | apply below_drew1 | refine below_set ?_ GE1228.out) | exact HB.out)⟩⟩
                              · rw [if_neg c24] at H
                                exact absurd H (by simp)
                        · rw [if_neg c19] at H
                          have c19b0 : decide (x40_3 < a0_0) = false := decide_eq_false c19
                          (try (have c19b0_0 := c19b0; rw [hl6_2] at c19b0_0))
                          clear c19
                          by_cases c26 : x13_3 = 0
                          · rw [if_pos c26] at H
                            have c26b0 : (x13_3 == 0) = true := beq_iff_eq.mpr c26
                            have c26b1 : (x13_3 != 0) = false := bne_eq_false_iff_eq.mpr c26
                            clear c26
                            by_cases c27 : 0 ≤ x10_3
                            · rw [if_pos c27] at H
                              have c27b0 : decide (0 ≤ x10_3) = true := decide_eq_true c27
                              (try (have c27b0_0 := c27b0; rw [hl6_2] at c27b0_0))
                              clear c27
                              by_cases c28 : x10_3 < (t1230.length : Int)
                              · rw [if_pos c28] at H
                                have c28b0 : decide (x10_3 < (t1230.length : Int)) = true := decide_eq_true c28
                                (try (have c28b0_0 := c28b0; rw [hl6_2] at c28b0_0))
                                clear c28
                                by_cases c29 : 0 ≤ x35_2
                                · rw [if_pos c29] at H
                                  have c29b0 : decide (0 ≤ x35_2) = true := decide_eq_true c29
                                  (try (have c29b0_0 := c29b0; rw [hl6_2] at c29b0_0))
                                  clear c29
                                  by_cases c30 : x35_2 < (x6_2.length : Int)
                                  · rw [if_pos c30] at H
                                    have c30b0 : decide (x35_2 < (x6_2.length : Int)) = true := decide_eq_true c30
                                    (try (have c30b0_0 := c30b0; rw [hl6_2] at c30b0_0))
                                    clear c30
                                    obtain ⟨y1237, hy1237⟩ : ∃ y_ : List Bool, y_ = (x6_2.set (x35_2 : Int).toNat (rdOf false t1230 x10_3)) := ⟨_, rfl⟩
                                    replace H : (if rdOf false y1237 x35_2 = true then (if x11_3 > x8_2 then (cantingref02_Least.l1 k3 t1230 y1237 x35_2 x11_3 (y1233.length : Int) (wrap64 (x35_2 + 1)) a0_0 l0_1 a0_2) else (cantingref02_Least.l1 k3 t1230 y1237 x7_2 x8_2 (y1233.length : Int) (wrap64 (x35_2 + 1)) a0_0 l0_1 a0_2)) else (cantingref02_Least.l1 k3 t1230 y1237 x7_2 x8_2 (y1233.length : Int) (wrap64 (x35_2 + 1)) a0_0 l0_1 a0_2)) = some (r1, r2) := by first | (rw [hy1237]; with_reducible exact H) | (have H2_ := (Option.bind_some _ _).symm.trans H; rw [hy1237]; with_reducible exact H2_) | (have H2_ := (Option.bind_some _ _).symm.trans H; with_reducible exact H2_) | with_reducible exact H | (rw [hy1237]; exact H) | exact H
                                    have Ny1237 := Aside0.mk hy1237
                                    clear hy1237
                                    obtain ⟨bq32, hbq32⟩ : ∃ b_ : Bool, b_ = (rdOf false y1237 x35_2) := ⟨_, rfl⟩
                                    replace H : (if bq32 = true then (if x11_3 > x8_2 then (cantingref02_Least.l1 k3 t1230 y1237 x35_2 x11_3 (y1233.length : Int) (wrap64 (x35_2 + 1)) a0_0 l0_1 a0_2) else (cantingref02_Least.l1 k3 t1230 y1237 x7_2 x8_2 (y1233.length : Int) (wrap64 (x35_2 + 1)) a0_0 l0_1 a0_2)) else (cantingref02_Least.l1 k3 t1230 y1237 x7_2 x8_2 (y1233.length : Int) (wrap64 (x35_2 + 1)) a0_0 l0_1 a0_2)) = some (r1, r2) := by rw [← hbq32] at H; exact H
                                    have Nbq32 := Aside0.mk hbq32
                                    clear hbq32
                                    by_cases c33 : bq32 = true
                                    · subst c33
                                      have H1 : (if x11_3 > x8_2 then (cantingref02_Least.l1 k3 t1230 y1237 x35_2 x11_3 (y1233.length : Int) (wrap64 (x35_2 + 1)) a0_0 l0_1 a0_2) else (cantingref02_Least.l1 k3 t1230 y1237 x7_2 x8_2 (y1233.length : Int) (wrap64 (x35_2 + 1)) a0_0 l0_1 a0_2)) = some (r1, r2) := by rw [if_pos rfl] at H; exact H
                                      clear H
                                      have H := H1
                                      clear H1
                                      by_cases c34 : x11_3 > x8_2
                                      · rw [if_pos c34] at H
                                        have c34b0 : decide (x8_2 < x11_3) = true := decide_eq_true c34
                                        (try (have c34b0_0 := c34b0; rw [hl6_2] at c34b0_0))
                                        clear c34
                                        have H' := Aside0.mk H
                                        clear H
                                        obtain ⟨Ao35, co35, eo35⟩ := Kd.R_slice HO_4.out
                                        subst eo35
                                        have p1236 : 0 ≤ (x10_3 : Int) := of_decide_eq_true (by first | (with_reducible assumption) | assumption)
                                        have q1236 : x10_3 < (t1230.length : Int) := of_decide_eq_true (by first | (with_reducible assumption) | assumption)
                                        obtain ⟨ad1236, e1236, hx1236_0⟩ := Kd.at_bool (Kd.R_reads' HO_4.out).2.2 x10_3 p1236 q1236
                                        (try rw [← Nbq32.out] at hx1236_0)
                                        cases e1236
                                        replace p1236 := eq_true p1236
                                        replace q1236 := eq_true q1236
                                        have p31 : 0 ≤ (x35_2 : Int) := of_decide_eq_true (by first | (with_reducible assumption) | assumption)
                                        have q31 : (x35_2 : Int) < ((x6_2.length : Int) : Int) := of_decide_eq_true (by first | (with_reducible assumption) | assumption)
                                        obtain ⟨go31, co31, eo31, gb31, gl31, cl31, HG31⟩ := Kd.R_form HO_6.out (by omega)
                                        (first | cases eo31 | (injection eo31 with ea_ en_ ec_; (first | subst ea_ | (injection ea_ with ea_; subst ea_)); subst ec_; clear en_))
                                        have GB31 := Aside0.mk gb31
                                        have GG31 := Aside0.mk HG31
                                        clear gb31 gl31 HG31
                                        obtain ⟨hx31_0, hf31_0⟩ := Kd.R_celln false HO_6.out (x35_2 : Int) p31 q31
                                        replace p31 := eq_true p31
                                        replace q31 := eq_true q31
                                        have HP36 := Kd.R_putg HO_6.out (x35_2 : Int) (rdOf false t1230 x10_3)
                                        go_wp2_with (first | ((with_reducible refine gate_store (t := 4) (p := 69) rfl ?_); refine store_event (t := 4) (p := 69) (v := ?vo_w37) (w1 := (wr.setCell ⟨go31, (x35_2 : Int).toNat, none⟩ (.bool (rdOf false t1230 x10_3)))) ?hg ?ho ?hn ?hr ?_; (case ho => rfl); (case hg => rfl); (case hn => rfl); (case hr => first | (go_simp; done) | (go_simp; rfl)); intro w37 hw; have hg : wr.grownBy w37 (some go31) := (by rw [hw]; exact HP36.2); have hp_ : Kd.R Kd.bool 4 w37 w.heap.size (fun k_ => some k_ ≠ (.slice (some ad1236) t1230.length co35 : Value).ownBlock) (.slice (some ⟨go31, 0, none⟩) x6_2.length co16) y1237 := (by rw [hw, Ny1237.out]; exact HP36.1); clear HP36; have n0_ := Aside0.mk (Kd.R_after (v := (.slice (some ⟨go31, 0, none⟩) x6_2.length co16)) (v1 := (.slice (some ⟨go31, 0, none⟩) x6_2.length co16)) (ok := (fun _ => True)) (by (with_reducible repeat (first | apply Kd.R_alloc | apply Kd.R_drewN | apply Kd.R_drew)); exact Kd.R_mono HO_4.out (fun _ hk => ⟨trivial, hk⟩)) hg (.inl rfl)); have n1_ := Aside0.mk (hp_); have n2_ := Aside0.mk (blk_grown (g := gb1228) (o := .cells #[.int .i64 a0_0, .slice A0_1 l0_1.length c0_1, .int .i64 a0_2] 33 (0, 0)) (by (with_reducible repeat (first | refine blk_drewN ?_ _ | refine blk_drew ?_ | refine blk_alloc ?_ _)); exact BK1228.out) hg (Kd.R_ne HO_6.out BK1228.out (by decide))); have n3_ := Aside0.mk ((by rw [hw]; exact below_set (HB.out) GB31.out : Below w.heap.size w w37)); clear HO_4; clear HO_6; clear BK1228; clear HB; have HO_4 := n0_; have HO_6 := n1_; have BK1228 := n2_; have HB := n3_; clear n0_ n1_ n2_ n3_; clear hg hw hp_; have p1238 : 0 ≤ (x35_2 : Int) := of_decide_eq_true (by first | (with_reducible assumption) | assumption); have q1238 : x35_2 < (y1237.length : Int) := (by have h_ : (x35_2 : Int) < ((x6_2.length : Int) : Int) := of_decide_eq_true (by first | (with_reducible assumption) | assumption); first | (have e_ := (Kd.R_reads' HO_6.out).1; omega) | simpa only [Ny1237.out, List.length_set] using h_); have ql1238 : ((x35_2 : Int) < ((x6_2.length : Int) : Int)) = True := eq_true (of_decide_eq_true (by first | (with_reducible assumption) | assumption)); obtain ⟨ad1238, e1238, hx1238_0⟩ := Kd.at_bool (Kd.R_reads' HO_6.out).2.2 x35_2 p1238 q1238; (try rw [← Nbq32.out] at hx1238_0); obtain rfl : (⟨go31, 0, none⟩ : Addr) = ad1238 := (by injection e1238); (first | simp only [add_plain] at hx1238_0 | simp only [add_at] at hx1238_0 | simp only [Addr.add, Nat.zero_add] at hx1238_0 | skip); replace p1238 := eq_true p1238; replace q1238 := eq_true q1238))
                                        (try simp only [← hl6_2])
                                        go_roundg k3
                                        case measure => have := HK1.out; have := HK2.out; have := HK3.out; omega
                                        case rel => exact ⟨(y1237), (x35_2), (x11_3), (wrap64 (x35_2 + 1)), (by first | rfl | (simp; done) | (simp [*]; done)), (by first | rfl | (simp; done) | (simp [*]; done)), (by first | rfl | (simp; done) | (simp [*]; done)), H', ⟨by have := HK1.out; have := HK2.out; have := HK3.out; omega⟩, ⟨by (try simp only [hl6_2]); (with_reducible repeat (first | apply Kd.R_alloc | apply Kd.R_drewN | apply Kd.R_drew)); exact Kd.R_mono HO_4.out (fun _ hk => hk.2)⟩, ⟨by (try simp only [hl6_2]); (with_reducible repeat (first | apply Kd.R_alloc | apply Kd.R_drewN | apply Kd.R_drew)); exact HO_6.out⟩, ⟨by (try simp only [hl6_2]); (with_reducible repeat (first | refine blk_drewN ?_ _ | refine blk_drew ?_ | refine blk_alloc ?_ _)); exact BK1228.out⟩, ⟨by repeat (first | (with_reducible first | exact HB.out | apply below_alloc | apply pw_below_drewN | apply below_drew1 | refine below_set ?_ GE1228.out) | exact HB.out)⟩⟩
                                      · rw [if_neg c34] at H
                                        have c34b0 : decide (x8_2 < x11_3) = false := decide_eq_false c34
                                        (try (have c34b0_0 := c34b0; rw [hl6_2] at c34b0_0))
                                        clear c34
                                        have H' := Aside0.mk H
                                        clear H
                                        obtain ⟨Ao38, co38, eo38⟩ := Kd.R_slice HO_4.out
                                        subst eo38
                                        have p1236 : 0 ≤ (x10_3 : Int) := of_decide_eq_true (by first | (with_reducible assumption) | assumption)
                                        have q1236 : x10_3 < (t1230.length : Int) := of_decide_eq_true (by first | (with_reducible assumption) | assumption)
                                        obtain ⟨ad1236, e1236, hx1236_0⟩ := Kd.at_bool (Kd.R_reads' HO_4.out).2.2 x10_3 p1236 q1236
                                        (try rw [← Nbq32.out] at hx1236_0)
                                        cases e1236
                                        replace p1236 := eq_true p1236
                                        replace q1236 := eq_true q1236
                                        have p31 : 0 ≤ (x35_2 : Int) := of_decide_eq_true (by first | (with_reducible assumption) | assumption)
                                        have q31 : (x35_2 : Int) < ((x6_2.length : Int) : Int) := of_decide_eq_true (by first | (with_reducible assumption) | assumption)
                                        obtain ⟨go31, co31, eo31, gb31, gl31, cl31, HG31⟩ := Kd.R_form HO_6.out (by omega)
                                        (first | cases eo31 | (injection eo31 with ea_ en_ ec_; (first | subst ea_ | (injection ea_ with ea_; subst ea_)); subst ec_; clear en_))
                                        have GB31 := Aside0.mk gb31
                                        have GG31 := Aside0.mk HG31
                                        clear gb31 gl31 HG31
                                        obtain ⟨hx31_0, hf31_0⟩ := Kd.R_celln false HO_6.out (x35_2 : Int) p31 q31
                                        replace p31 := eq_true p31
                                        replace q31 := eq_true q31
                                        have HP39 := Kd.R_putg HO_6.out (x35_2 : Int) (rdOf false t1230 x10_3)
                                        go_wp2_with (first | ((with_reducible refine gate_store (t := 4) (p := 69) rfl ?_); refine store_event (t := 4) (p := 69) (v := ?vo_w40) (w1 := (wr.setCell ⟨go31, (x35_2 : Int).toNat, none⟩ (.bool (rdOf false t1230 x10_3)))) ?hg ?ho ?hn ?hr ?_; (case ho => rfl); (case hg => rfl); (case hn => rfl); (case hr => first | (go_simp; done) | (go_simp; rfl)); intro w40 hw; have hg : wr.grownBy w40 (some go31) := (by rw [hw]; exact HP39.2); have hp_ : Kd.R Kd.bool 4 w40 w.heap.size (fun k_ => some k_ ≠ (.slice (some ad1236) t1230.length co38 : Value).ownBlock) (.slice (some ⟨go31, 0, none⟩) x6_2.length co16) y1237 := (by rw [hw, Ny1237.out]; exact HP39.1); clear HP39; have n0_ := Aside0.mk (Kd.R_after (v := (.slice (some ⟨go31, 0, none⟩) x6_2.length co16)) (v1 := (.slice (some ⟨go31, 0, none⟩) x6_2.length co16)) (ok := (fun _ => True)) (by (with_reducible repeat (first | apply Kd.R_alloc | apply Kd.R_drewN | apply Kd.R_drew)); exact Kd.R_mono HO_4.out (fun _ hk => ⟨trivial, hk⟩)) hg (.inl rfl)); have n1_ := Aside0.mk (hp_); have n2_ := Aside0.mk (blk_grown (g := gb1228) (o := .cells #[.int .i64 a0_0, .slice A0_1 l0_1.length c0_1, .int .i64 a0_2] 33 (0, 0)) (by (with_reducible repeat (first | refine blk_drewN ?_ _ | refine blk_drew ?_ | refine blk_alloc ?_ _)); exact BK1228.out) hg (Kd.R_ne HO_6.out BK1228.out (by decide))); have n3_ := Aside0.mk ((by rw [hw]; exact below_set (HB.out) GB31.out : Below w.heap.size w w40)); clear HO_4; clear HO_6; clear BK1228; clear HB; have HO_4 := n0_; have HO_6 := n1_; have BK1228 := n2_; have HB := n3_; clear n0_ n1_ n2_ n3_; clear hg hw hp_; have p1238 : 0 ≤ (x35_2 : Int) := of_decide_eq_true (by first | (with_reducible assumption) | assumption); have q1238 : x35_2 < (y1237.length : Int) := (by have h_ : (x35_2 : Int) < ((x6_2.length : Int) : Int) := of_decide_eq_true (by first | (with_reducible assumption) | assumption); first | (have e_ := (Kd.R_reads' HO_6.out).1; omega) | simpa only [Ny1237.out, List.length_set] using h_); have ql1238 : ((x35_2 : Int) < ((x6_2.length : Int) : Int)) = True := eq_true (of_decide_eq_true (by first | (with_reducible assumption) | assumption)); obtain ⟨ad1238, e1238, hx1238_0⟩ := Kd.at_bool (Kd.R_reads' HO_6.out).2.2 x35_2 p1238 q1238; (try rw [← Nbq32.out] at hx1238_0); obtain rfl : (⟨go31, 0, none⟩ : Addr) = ad1238 := (by injection e1238); (first | simp only [add_plain] at hx1238_0 | simp only [add_at] at hx1238_0 | simp only [Addr.add, Nat.zero_add] at hx1238_0 | skip); replace p1238 := eq_true p1238; replace q1238 := eq_true q1238))
                                        (try simp only [← hl6_2])
                                        go_roundg k3
                                        case measure => have := HK1.out; have := HK2.out; have := HK3.out; omega
                                        case rel => exact ⟨(y1237), (x7_2), (x8_2), (wrap64 (x35_2 + 1)), (by first | rfl | (simp; done) | (simp [*]; done)), (by first | rfl | (simp; done) | (simp [*]; done)), (by first | rfl | (simp; done) | (simp [*]; done)), H', ⟨by have := HK1.out; have := HK2.out; have := HK3.out; omega⟩, ⟨by (try simp only [hl6_2]); (with_reducible repeat (first | apply Kd.R_alloc | apply Kd.R_drewN | apply Kd.R_drew)); exact Kd.R_mono HO_4.out (fun _ hk => hk.2)⟩, ⟨by (try simp only [hl6_2]); (with_reducible repeat (first | apply Kd.R_alloc | apply Kd.R_drewN | apply Kd.R_drew)); exact HO_6.out⟩, ⟨by (try simp only [hl6_2]); (with_reducible repeat (first | refine blk_drewN ?_ _ | refine blk_drew ?_ | refine blk_alloc ?_ _)); exact BK1228.out⟩, ⟨by repeat (first | (with_reducible first | exact HB.out | apply below_alloc | apply pw_below_drewN | apply below_drew1 | refine below_set ?_ GE1228.out) | exact HB.out)⟩⟩
                                    · replace c33 := Bool.eq_false_iff.mpr c33
                                      subst c33
                                      have H1 : (cantingref02_Least.l1 k3 t1230 y1237 x7_2 x8_2 (y1233.length : Int) (wrap64 (x35_2 + 1)) a0_0 l0_1 a0_2) = some (r1, r2) := by rw [if_neg (show ¬ (false = true) by decide)] at H; exact H
                                      clear H
                                      have H := H1
                                      clear H1
                                      have H' := Aside0.mk H
                                      clear H
                                      obtain ⟨Ao41, co41, eo41⟩ := Kd.R_slice HO_4.out
                                      subst eo41
                                      have p1236 : 0 ≤ (x10_3 : Int) := of_decide_eq_true (by first | (with_reducible assumption) | assumption)
                                      have q1236 : x10_3 < (t1230.length : Int) := of_decide_eq_true (by first | (with_reducible assumption) | assumption)
                                      obtain ⟨ad1236, e1236, hx1236_0⟩ := Kd.at_bool (Kd.R_reads' HO_4.out).2.2 x10_3 p1236 q1236
                                      (try rw [← Nbq32.out] at hx1236_0)
                                      cases e1236
                                      replace p1236 := eq_true p1236
                                      replace q1236 := eq_true q1236
                                      have p31 : 0 ≤ (x35_2 : Int) := of_decide_eq_true (by first | (with_reducible assumption) | assumption)
                                      have q31 : (x35_2 : Int) < ((x6_2.length : Int) : Int) := of_decide_eq_true (by first | (with_reducible assumption) | assumption)
                                      obtain ⟨go31, co31, eo31, gb31, gl31, cl31, HG31⟩ := Kd.R_form HO_6.out (by omega)
                                      (first | cases eo31 | (injection eo31 with ea_ en_ ec_; (first | subst ea_ | (injection ea_ with ea_; subst ea_)); subst ec_; clear en_))
                                      have GB31 := Aside0.mk gb31
                                      have GG31 := Aside0.mk HG31
                                      clear gb31 gl31 HG31
                                      obtain ⟨hx31_0, hf31_0⟩ := Kd.R_celln false HO_6.out (x35_2 : Int) p31 q31
                                      replace p31 := eq_true p31
                                      replace q31 := eq_true q31
                                      have HP42 := Kd.R_putg HO_6.out (x35_2 : Int) (rdOf false t1230 x10_3)
                                      go_wp2_with (first | ((with_reducible refine gate_store (t := 4) (p := 69) rfl ?_); refine store_event (t := 4) (p := 69) (v := ?vo_w43) (w1 := (wr.setCell ⟨go31, (x35_2 : Int).toNat, none⟩ (.bool (rdOf false t1230 x10_3)))) ?hg ?ho ?hn ?hr ?_; (case ho => rfl); (case hg => rfl); (case hn => rfl); (case hr => first | (go_simp; done) | (go_simp; rfl)); intro w43 hw; have hg : wr.grownBy w43 (some go31) := (by rw [hw]; exact HP42.2); have hp_ : Kd.R Kd.bool 4 w43 w.heap.size (fun k_ => some k_ ≠ (.slice (some ad1236) t1230.length co41 : Value).ownBlock) (.slice (some ⟨go31, 0, none⟩) x6_2.length co16) y1237 := (by rw [hw, Ny1237.out]; exact HP42.1); clear HP42; have n0_ := Aside0.mk (Kd.R_after (v := (.slice (some ⟨go31, 0, none⟩) x6_2.length co16)) (v1 := (.slice (some ⟨go31, 0, none⟩) x6_2.length co16)) (ok := (fun _ => True)) (by (with_reducible repeat (first | apply Kd.R_alloc | apply Kd.R_drewN | apply Kd.R_drew)); exact Kd.R_mono HO_4.out (fun _ hk => ⟨trivial, hk⟩)) hg (.inl rfl)); have n1_ := Aside0.mk (hp_); have n2_ := Aside0.mk (blk_grown (g := gb1228) (o := .cells #[.int .i64 a0_0, .slice A0_1 l0_1.length c0_1, .int .i64 a0_2] 33 (0, 0)) (by (with_reducible repeat (first | refine blk_drewN ?_ _ | refine blk_drew ?_ | refine blk_alloc ?_ _)); exact BK1228.out) hg (Kd.R_ne HO_6.out BK1228.out (by decide))); have n3_ := Aside0.mk ((by rw [hw]; exact below_set (HB.out) GB31.out : Below w.heap.size w w43)); clear HO_4; clear HO_6; clear BK1228; clear HB; have HO_4 := n0_; have HO_6 := n1_; have BK1228 := n2_; have HB := n3_; clear n0_ n1_ n2_ n3_; clear hg hw hp_; have p1238 : 0 ≤ (x35_2 : Int) := of_decide_eq_true (by first | (with_reducible assumption) | assumption); have q1238 : x35_2 < (y1237.length : Int) := (by have h_ : (x35_2 : Int) < ((x6_2.length : Int) : Int) := of_decide_eq_true (by first | (with_reducible assumption) | assumption); first | (have e_ := (Kd.R_reads' HO_6.out).1; omega) | simpa only [Ny1237.out, List.length_set] using h_); have ql1238 : ((x35_2 : Int) < ((x6_2.length : Int) : Int)) = True := eq_true (of_decide_eq_true (by first | (with_reducible assumption) | assumption)); obtain ⟨ad1238, e1238, hx1238_0⟩ := Kd.at_bool (Kd.R_reads' HO_6.out).2.2 x35_2 p1238 q1238; (try rw [← Nbq32.out] at hx1238_0); obtain rfl : (⟨go31, 0, none⟩ : Addr) = ad1238 := (by injection e1238); (first | simp only [add_plain] at hx1238_0 | simp only [add_at] at hx1238_0 | simp only [Addr.add, Nat.zero_add] at hx1238_0 | skip); replace p1238 := eq_true p1238; replace q1238 := eq_true q1238))
                                      (try simp only [← hl6_2])
                                      go_roundg k3
                                      case measure => have := HK1.out; have := HK2.out; have := HK3.out; omega
                                      case rel => exact ⟨(y1237), (x7_2), (x8_2), (wrap64 (x35_2 + 1)), (by first | rfl | (simp; done) | (simp [*]; done)), (by first | rfl | (simp; done) | (simp [*]; done)), (by first | rfl | (simp; done) | (simp [*]; done)), H', ⟨by have := HK1.out; have := HK2.out; have := HK3.out; omega⟩, ⟨by (try simp only [hl6_2]); (with_reducible repeat (first | apply Kd.R_alloc | apply Kd.R_drewN | apply Kd.R_drew)); exact Kd.R_mono HO_4.out (fun _ hk => hk.2)⟩, ⟨by (try simp only [hl6_2]); (with_reducible repeat (first | apply Kd.R_alloc | apply Kd.R_drewN | apply Kd.R_drew)); exact HO_6.out⟩, ⟨by (try simp only [hl6_2]); (with_reducible repeat (first | refine blk_drewN ?_ _ | refine blk_drew ?_ | refine blk_alloc ?_ _)); exact BK1228.out⟩, ⟨by repeat (first | (with_reducible first | exact HB.out | apply below_alloc | apply pw_below_drewN | apply below_drew1 | refine below_set ?_ GE1228.out) | exact HB.out)⟩⟩
                                  · rw [if_neg c30] at H
                                    exact absurd H (by simp)
                                · rw [if_neg c29] at H
                                  exact absurd H (by simp)
                              · rw [if_neg c28] at H
                                exact absurd H (by simp)
                            · rw [if_neg c27] at H
                              exact absurd H (by simp)
                          · rw [if_neg c26] at H
                            have c26b0 : (x13_3 == 0) = false := beq_eq_false_iff_ne.mpr c26
                            have c26b1 : (x13_3 != 0) = true := bne_iff_ne.mpr c26
                            obtain ⟨ji44, hji44⟩ : ∃ j_ : Int, (wrap64 (x35_2 - x12_3)) = j_ := ⟨_, rfl⟩
                            replace H : (if 0 ≤ (ji44) then (if (ji44) < (x6_2.length : Int) then (if rdOf false x6_2 (ji44) = true then (if 0 ≤ (wrap64 (x35_2 - (wrap64 (2 * x12_3)))) then (if (wrap64 (x35_2 - (wrap64 (2 * x12_3)))) < (x6_2.length : Int) then (if 0 ≤ x35_2 then (if x35_2 < (x6_2.length : Int) then ((some (x6_2.set (x35_2 : Int).toNat (rdOf false x6_2 (wrap64 (x35_2 - (wrap64 (2 * x12_3))))) : List Bool)).bind fun y1241 => (if rdOf false y1241 x35_2 = true then (if x11_3 > x8_2 then (cantingref02_Least.l1 k3 t1230 y1241 x35_2 x11_3 (y1233.length : Int) (wrap64 (x35_2 + 1)) a0_0 l0_1 a0_2) else (cantingref02_Least.l1 k3 t1230 y1241 x7_2 x8_2 (y1233.length : Int) (wrap64 (x35_2 + 1)) a0_0 l0_1 a0_2)) else (cantingref02_Least.l1 k3 t1230 y1241 x7_2 x8_2 (y1233.length : Int) (wrap64 (x35_2 + 1)) a0_0 l0_1 a0_2))) else (none)) else (none)) else (none)) else (none)) else (if 0 ≤ x35_2 then (if x35_2 < (x6_2.length : Int) then ((some (x6_2.set (x35_2 : Int).toNat false : List Bool)).bind fun y1243 => (if rdOf false y1243 x35_2 = true then (if x11_3 > x8_2 then (cantingref02_Least.l1 k3 t1230 y1243 x35_2 x11_3 (y1233.length : Int) (wrap64 (x35_2 + 1)) a0_0 l0_1 a0_2) else (cantingref02_Least.l1 k3 t1230 y1243 x7_2 x8_2 (y1233.length : Int) (wrap64 (x35_2 + 1)) a0_0 l0_1 a0_2)) else (cantingref02_Least.l1 k3 t1230 y1243 x7_2 x8_2 (y1233.length : Int) (wrap64 (x35_2 + 1)) a0_0 l0_1 a0_2))) else (none)) else (none))) else (none)) else (none)) = some (r1, r2) := by first | (rw [hji44] at H; exact H) | (simp only [hji44] at H ⊢; exact H)
                            have hji44w : (IntKind.i64.wrap (x35_2 - x12_3)) = ji44 := (i64_w _).trans hji44
                            by_cases c45 : 0 ≤ (ji44)
                            · rw [if_pos c45] at H
                              have c45b0 : decide (0 ≤ (ji44)) = true := decide_eq_true c45
                              (try (have c45b0_0 := c45b0; rw [hl6_2] at c45b0_0))
                              clear c45
                              by_cases c46 : (ji44) < (x6_2.length : Int)
                              · rw [if_pos c46] at H
                                have c46b0 : decide ((ji44) < (x6_2.length : Int)) = true := decide_eq_true c46
                                (try (have c46b0_0 := c46b0; rw [hl6_2] at c46b0_0))
                                clear c46
                                obtain ⟨bq47, hbq47⟩ : ∃ b_ : Bool, b_ = (rdOf false x6_2 (ji44)) := ⟨_, rfl⟩
                                replace H : (if bq47 = true then (if 0 ≤ (wrap64 (x35_2 - (wrap64 (2 * x12_3)))) then (if (wrap64 (x35_2 - (wrap64 (2 * x12_3)))) < (x6_2.length : Int) then (if 0 ≤ x35_2 then (if x35_2 < (x6_2.length : Int) then ((some (x6_2.set (x35_2 : Int).toNat (rdOf false x6_2 (wrap64 (x35_2 - (wrap64 (2 * x12_3))))) : List Bool)).bind fun y1241 => (if rdOf false y1241 x35_2 = true then (if x11_3 > x8_2 then (cantingref02_Least.l1 k3 t1230 y1241 x35_2 x11_3 (y1233.length : Int) (wrap64 (x35_2 + 1)) a0_0 l0_1 a0_2) else (cantingref02_Least.l1 k3 t1230 y1241 x7_2 x8_2 (y1233.length : Int) (wrap64 (x35_2 + 1)) a0_0 l0_1 a0_2)) else (cantingref02_Least.l1 k3 t1230 y1241 x7_2 x8_2 (y1233.length : Int) (wrap64 (x35_2 + 1)) a0_0 l0_1 a0_2))) else (none)) else (none)) else (none)) else (none)) else (if 0 ≤ x35_2 then (if x35_2 < (x6_2.length : Int) then ((some (x6_2.set (x35_2 : Int).toNat false : List Bool)).bind fun y1243 => (if rdOf false y1243 x35_2 = true then (if x11_3 > x8_2 then (cantingref02_Least.l1 k3 t1230 y1243 x35_2 x11_3 (y1233.length : Int) (wrap64 (x35_2 + 1)) a0_0 l0_1 a0_2) else (cantingref02_Least.l1 k3 t1230 y1243 x7_2 x8_2 (y1233.length : Int) (wrap64 (x35_2 + 1)) a0_0 l0_1 a0_2)) else (cantingref02_Least.l1 k3 t1230 y1243 x7_2 x8_2 (y1233.length : Int) (wrap64 (x35_2 + 1)) a0_0 l0_1 a0_2))) else (none)) else (none))) = some (r1, r2) := by rw [← hbq47] at H; exact H
                                have Nbq47 := Aside0.mk hbq47
                                clear hbq47
                                by_cases c48 : bq47 = true
                                · subst c48
                                  have H1 : (if 0 ≤ (wrap64 (x35_2 - (wrap64 (2 * x12_3)))) then (if (wrap64 (x35_2 - (wrap64 (2 * x12_3)))) < (x6_2.length : Int) then (if 0 ≤ x35_2 then (if x35_2 < (x6_2.length : Int) then ((some (x6_2.set (x35_2 : Int).toNat (rdOf false x6_2 (wrap64 (x35_2 - (wrap64 (2 * x12_3))))) : List Bool)).bind fun y1241 => (if rdOf false y1241 x35_2 = true then (if x11_3 > x8_2 then (cantingref02_Least.l1 k3 t1230 y1241 x35_2 x11_3 (y1233.length : Int) (wrap64 (x35_2 + 1)) a0_0 l0_1 a0_2) else (cantingref02_Least.l1 k3 t1230 y1241 x7_2 x8_2 (y1233.length : Int) (wrap64 (x35_2 + 1)) a0_0 l0_1 a0_2)) else (cantingref02_Least.l1 k3 t1230 y1241 x7_2 x8_2 (y1233.length : Int) (wrap64 (x35_2 + 1)) a0_0 l0_1 a0_2))) else (none)) else (none)) else (none)) else (none)) = some (r1, r2) := by rw [if_pos rfl] at H; exact H
                                  clear H
                                  have H := H1
                                  clear H1
                                  obtain ⟨ji49, hji49⟩ : ∃ j_ : Int, (wrap64 (x35_2 - (wrap64 (2 * x12_3)))) = j_ := ⟨_, rfl⟩
                                  replace H : (if 0 ≤ (ji49) then (if (ji49) < (x6_2.length : Int) then (if 0 ≤ x35_2 then (if x35_2 < (x6_2.length : Int) then ((some (x6_2.set (x35_2 : Int).toNat (rdOf false x6_2 (ji49)) : List Bool)).bind fun y1241 => (if rdOf false y1241 x35_2 = true then (if x11_3 > x8_2 then (cantingref02_Least.l1 k3 t1230 y1241 x35_2 x11_3 (y1233.length : Int) (wrap64 (x35_2 + 1)) a0_0 l0_1 a0_2) else (cantingref02_Least.l1 k3 t1230 y1241 x7_2 x8_2 (y1233.length : Int) (wrap64 (x35_2 + 1)) a0_0 l0_1 a0_2)) else (cantingref02_Least.l1 k3 t1230 y1241 x7_2 x8_2 (y1233.length : Int) (wrap64 (x35_2 + 1)) a0_0 l0_1 a0_2))) else (none)) else (none)) else (none)) else (none)) = some (r1, r2) := by first | (rw [hji49] at H; exact H) | (simp only [hji49] at H ⊢; exact H)
                                  have hji49w : (IntKind.i64.wrap (x35_2 - (wrap64 (2 * x12_3)))) = ji49 := (i64_w _).trans hji49
                                  by_cases c50 : 0 ≤ (ji49)
                                  · rw [if_pos c50] at H
                                    have c50b0 : decide (0 ≤ (ji49)) = true := decide_eq_true c50
                                    (try (have c50b0_0 := c50b0; rw [hl6_2] at c50b0_0))
                                    clear c50
                                    by_cases c51 : (ji49) < (x6_2.length : Int)
                                    · rw [if_pos c51] at H
                                      have c51b0 : decide ((ji49) < (x6_2.length : Int)) = true := decide_eq_true c51
                                      (try (have c51b0_0 := c51b0; rw [hl6_2] at c51b0_0))
                                      clear c51
                                      by_cases c52 : 0 ≤ x35_2
                                      · rw [if_pos c52] at H
                                        have c52b0 : decide (0 ≤ x35_2) = true := decide_eq_true c52
                                        (try (have c52b0_0 := c52b0; rw [hl6_2] at c52b0_0))
                                        clear c52
                                        by_cases c53 : x35_2 < (x6_2.length : Int)
                                        · rw [if_pos c53] at H
                                          have c53b0 : decide (x35_2 < (x6_2.length : Int)) = true := decide_eq_true c53
                                          (try (have c53b0_0 := c53b0; rw [hl6_2] at c53b0_0))
                                          clear c53
                                          obtain ⟨y1241, hy1241⟩ : ∃ y_ : List Bool, y_ = (x6_2.set (x35_2 : Int).toNat (rdOf false x6_2 (ji49))) := ⟨_, rfl⟩
                                          replace H : (if rdOf false y1241 x35_2 = true then (if x11_3 > x8_2 then (cantingref02_Least.l1 k3 t1230 y1241 x35_2 x11_3 (y1233.length : Int) (wrap64 (x35_2 + 1)) a0_0 l0_1 a0_2) else (cantingref02_Least.l1 k3 t1230 y1241 x7_2 x8_2 (y1233.length : Int) (wrap64 (x35_2 + 1)) a0_0 l0_1 a0_2)) else (cantingref02_Least.l1 k3 t1230 y1241 x7_2 x8_2 (y1233.length : Int) (wrap64 (x35_2 + 1)) a0_0 l0_1 a0_2)) = some (r1, r2) := by first | (rw [hy1241]; with_reducible exact H) | (have H2_ := (Option.bind_some _ _).symm.trans H; rw [hy1241]; with_reducible exact H2_) | (have H2_ := (Option.bind_some _ _).symm.trans H; with_reducible exact H2_) | with_reducible exact H | (rw [hy1241]; exact H) | exact H
                                          have Ny1241 := Aside0.mk hy1241
                                          clear hy1241
                                          obtain ⟨bq55, hbq55⟩ : ∃ b_ : Bool, b_ = (rdOf false y1241 x35_2) := ⟨_, rfl⟩
                                          replace H : (if bq55 = true then (if x11_3 > x8_2 then (cantingref02_Least.l1 k3 t1230 y1241 x35_2 x11_3 (y1233.length : Int) (wrap64 (x35_2 + 1)) a0_0 l0_1 a0_2) else (cantingref02_Least.l1 k3 t1230 y1241 x7_2 x8_2 (y1233.length : Int) (wrap64 (x35_2 + 1)) a0_0 l0_1 a0_2)) else (cantingref02_Least.l1 k3 t1230 y1241 x7_2 x8_2 (y1233.length : Int) (wrap64 (x35_2 + 1)) a0_0 l0_1 a0_2)) = some (r1, r2) := by rw [← hbq55] at H; exact H
                                          have Nbq55 := Aside0.mk hbq55
                                          clear hbq55
                                          by_cases c56 : bq55 = true
                                          · subst c56
                                            have H1 : (if x11_3 > x8_2 then (cantingref02_Least.l1 k3 t1230 y1241 x35_2 x11_3 (y1233.length : Int) (wrap64 (x35_2 + 1)) a0_0 l0_1 a0_2) else (cantingref02_Least.l1 k3 t1230 y1241 x7_2 x8_2 (y1233.length : Int) (wrap64 (x35_2 + 1)) a0_0 l0_1 a0_2)) = some (r1, r2) := by rw [if_pos rfl] at H; exact H
                                            clear H
                                            have H := H1
                                            clear H1
                                            by_cases c57 : x11_3 > x8_2
                                            · rw [if_pos c57] at H
                                              have c57b0 : decide (x8_2 < x11_3) = true := decide_eq_true c57
                                              (try (have c57b0_0 := c57b0; rw [hl6_2] at c57b0_0))
                                              clear c57
                                              have H' := Aside0.mk H
                                              clear H
                                              have p1239 : 0 ≤ ((ji44) : Int) := of_decide_eq_true (by first | (with_reducible assumption) | assumption)
                                              have q1239 : (ji44) < (x6_2.length : Int) := of_decide_eq_true (by first | (with_reducible assumption) | assumption)
                                              obtain ⟨ad1239, e1239, hx1239_0⟩ := Kd.at_bool (Kd.R_reads' HO_6.out).2.2 (ji44) p1239 q1239
                                              (try rw [← Nbq47.out] at hx1239_0)
                                              (try rw [← Nbq55.out] at hx1239_0)
                                              cases e1239
                                              replace p1239 := eq_true p1239
                                              replace q1239 := eq_true q1239
                                              have p1240 : 0 ≤ ((ji49) : Int) := of_decide_eq_true (by first | (with_reducible assumption) | assumption)
                                              have q1240 : (ji49) < (x6_2.length : Int) := of_decide_eq_true (by first | (with_reducible assumption) | assumption)
                                              obtain ⟨ad1240, e1240, hx1240_0⟩ := Kd.at_bool (Kd.R_reads' HO_6.out).2.2 (ji49) p1240 q1240
                                              (try rw [← Nbq47.out] at hx1240_0)
                                              (try rw [← Nbq55.out] at hx1240_0)
                                              obtain rfl : ad1239 = ad1240 := (by injection e1240)
                                              replace p1240 := eq_true p1240
                                              replace q1240 := eq_true q1240
                                              have p54 : 0 ≤ (x35_2 : Int) := of_decide_eq_true (by first | (with_reducible assumption) | assumption)
                                              have q54 : (x35_2 : Int) < ((x6_2.length : Int) : Int) := of_decide_eq_true (by first | (with_reducible assumption) | assumption)
                                              obtain ⟨go54, co54, eo54, gb54, gl54, cl54, HG54⟩ := Kd.R_form HO_6.out (by omega)
                                              (first | cases eo54 | (injection eo54 with ea_ en_ ec_; (first | subst ea_ | (injection ea_ with ea_; subst ea_)); subst ec_; clear en_))
                                              have GB54 := Aside0.mk gb54
                                              have GG54 := Aside0.mk HG54
                                              clear gb54 gl54 HG54
                                              (first | simp only [add_plain] at hx1239_0 | skip)
                                              (first | simp only [add_plain] at hx1240_0 | skip)
                                              obtain ⟨hx54_0, hf54_0⟩ := Kd.R_celln false HO_6.out (x35_2 : Int) p54 q54
                                              replace p54 := eq_true p54
                                              replace q54 := eq_true q54
                                              have HP58 := Kd.R_putg HO_6.out (x35_2 : Int) (rdOf false x6_2 (ji49))
                                              go_wp2_with (first | ((with_reducible refine gate_store (t := 4) (p := 87) rfl ?_); refine store_event (t := 4) (p := 87) (v := ?vo_w59) (w1 := (wr.setCell ⟨go54, (x35_2 : Int).toNat, none⟩ (.bool (rdOf false x6_2 (ji49))))) ?hg ?ho ?hn ?hr ?_; (case ho => rfl); (case hg => rfl); (case hn => rfl); (case hr => first | (go_simp; done) | (go_simp; rfl)); intro w59 hw; have hg : wr.grownBy w59 (some go54) := (by rw [hw]; exact HP58.2); have hp_ : Kd.R Kd.bool 4 w59 w.heap.size (fun k_ => some k_ ≠ (v1231 : Value).ownBlock) (.slice (some ⟨go54, 0, none⟩) x6_2.length co16) y1241 := (by rw [hw, Ny1241.out]; exact HP58.1); clear HP58; have n0_ := Aside0.mk (Kd.R_after (v := (.slice (some ⟨go54, 0, none⟩) x6_2.length co16)) (v1 := (.slice (some ⟨go54, 0, none⟩) x6_2.length co16)) (ok := (fun _ => True)) (by (with_reducible repeat (first | apply Kd.R_alloc | apply Kd.R_drewN | apply Kd.R_drew)); exact Kd.R_mono HO_4.out (fun _ hk => ⟨trivial, hk⟩)) hg (.inl rfl)); have n1_ := Aside0.mk (hp_); have n2_ := Aside0.mk (blk_grown (g := gb1228) (o := .cells #[.int .i64 a0_0, .slice A0_1 l0_1.length c0_1, .int .i64 a0_2] 33 (0, 0)) (by (with_reducible repeat (first | refine blk_drewN ?_ _ | refine blk_drew ?_ | refine blk_alloc ?_ _)); exact BK1228.out) hg (Kd.R_ne HO_6.out BK1228.out (by decide))); have n3_ := Aside0.mk ((by rw [hw]; exact below_set (HB.out) GB54.out : Below w.heap.size w w59)); clear HO_4; clear HO_6; clear BK1228; clear HB; have HO_4 := n0_; have HO_6 := n1_; have BK1228 := n2_; have HB := n3_; clear n0_ n1_ n2_ n3_; clear hg hw hp_; have p1242 : 0 ≤ (x35_2 : Int) := of_decide_eq_true (by first | (with_reducible assumption) | assumption); have q1242 : x35_2 < (y1241.length : Int) := (by have h_ : (x35_2 : Int) < ((x6_2.length : Int) : Int) := of_decide_eq_true (by first | (with_reducible assumption) | assumption); first | (have e_ := (Kd.R_reads' HO_6.out).1; omega) | simpa only [Ny1241.out, List.length_set] using h_); have ql1242 : ((x35_2 : Int) < ((x6_2.length : Int) : Int)) = True := eq_true (of_decide_eq_true (by first | (with_reducible assumption) | assumption)); obtain ⟨ad1242, e1242, hx1242_0⟩ := Kd.at_bool (Kd.R_reads' HO_6.out).2.2 x35_2 p1242 q1242; (try rw [← Nbq47.out] at hx1242_0); (try rw [← Nbq55.out] at hx1242_0); obtain rfl : (⟨go54, 0, none⟩ : Addr) = ad1242 := (by injection e1242); (first | simp only [add_plain] at hx1242_0 | simp only [add_at] at hx1242_0 | simp only [Addr.add, Nat.zero_add] at hx1242_0 | skip); replace p1242 := eq_true p1242; replace q1242 := eq_true q1242))
                                              (try simp only [← hl6_2])
                                              go_roundg k3
                                              case measure => have := HK1.out; have := HK2.out; have := HK3.out; omega
                                              case rel => exact ⟨(y1241), (x35_2), (x11_3), (wrap64 (x35_2 + 1)), (by first | rfl | (simp; done) | (simp [*]; done)), (by first | rfl | (simp; done) | (simp [*]; done)), (by first | rfl | (simp; done) | (simp [*]; done)), H', ⟨by have := HK1.out; have := HK2.out; have := HK3.out; omega⟩, ⟨by (try simp only [hl6_2]); (with_reducible repeat (first | apply Kd.R_alloc | apply Kd.R_drewN | apply Kd.R_drew)); exact Kd.R_mono HO_4.out (fun _ hk => hk.2)⟩, ⟨by (try simp only [hl6_2]); (with_reducible repeat (first | apply Kd.R_alloc | apply Kd.R_drewN | apply Kd.R_drew)); exact HO_6.out⟩, ⟨by (try simp only [hl6_2]); (with_reducible repeat (first | refine blk_drewN ?_ _ | refine blk_drew ?_ | refine blk_alloc ?_ _)); exact BK1228.out⟩, ⟨by repeat (first | (with_reducible first | exact HB.out | apply below_alloc | apply pw_below_drewN | apply below_drew1 | refine below_set ?_ GE1228.out) | exact HB.out)⟩⟩
                                            · rw [if_neg c57] at H
                                              have c57b0 : decide (x8_2 < x11_3) = false := decide_eq_false c57
                                              (try (have c57b0_0 := c57b0; rw [hl6_2] at c57b0_0))
                                              clear c57
                                              have H' := Aside0.mk H
                                              clear H
                                              have p1239 : 0 ≤ ((ji44) : Int) := of_decide_eq_true (by first | (with_reducible assumption) | assumption)
                                              have q1239 : (ji44) < (x6_2.length : Int) := of_decide_eq_true (by first | (with_reducible assumption) | assumption)
                                              obtain ⟨ad1239, e1239, hx1239_0⟩ := Kd.at_bool (Kd.R_reads' HO_6.out).2.2 (ji44) p1239 q1239
                                              (try rw [← Nbq47.out] at hx1239_0)
                                              (try rw [← Nbq55.out] at hx1239_0)
                                              cases e1239
                                              replace p1239 := eq_true p1239
                                              replace q1239 := eq_true q1239
                                              have p1240 : 0 ≤ ((ji49) : Int) := of_decide_eq_true (by first | (with_reducible assumption) | assumption)
                                              have q1240 : (ji49) < (x6_2.length : Int) := of_decide_eq_true (by first | (with_reducible assumption) | assumption)
                                              obtain ⟨ad1240, e1240, hx1240_0⟩ := Kd.at_bool (Kd.R_reads' HO_6.out).2.2 (ji49) p1240 q1240
                                              (try rw [← Nbq47.out] at hx1240_0)
                                              (try rw [← Nbq55.out] at hx1240_0)
                                              obtain rfl : ad1239 = ad1240 := (by injection e1240)
                                              replace p1240 := eq_true p1240
                                              replace q1240 := eq_true q1240
                                              have p54 : 0 ≤ (x35_2 : Int) := of_decide_eq_true (by first | (with_reducible assumption) | assumption)
                                              have q54 : (x35_2 : Int) < ((x6_2.length : Int) : Int) := of_decide_eq_true (by first | (with_reducible assumption) | assumption)
                                              obtain ⟨go54, co54, eo54, gb54, gl54, cl54, HG54⟩ := Kd.R_form HO_6.out (by omega)
                                              (first | cases eo54 | (injection eo54 with ea_ en_ ec_; (first | subst ea_ | (injection ea_ with ea_; subst ea_)); subst ec_; clear en_))
                                              have GB54 := Aside0.mk gb54
                                              have GG54 := Aside0.mk HG54
                                              clear gb54 gl54 HG54
                                              (first | simp only [add_plain] at hx1239_0 | skip)
                                              (first | simp only [add_plain] at hx1240_0 | skip)
                                              obtain ⟨hx54_0, hf54_0⟩ := Kd.R_celln false HO_6.out (x35_2 : Int) p54 q54
                                              replace p54 := eq_true p54
                                              replace q54 := eq_true q54
                                              have HP60 := Kd.R_putg HO_6.out (x35_2 : Int) (rdOf false x6_2 (ji49))
                                              go_wp2_with (first | ((with_reducible refine gate_store (t := 4) (p := 87) rfl ?_); refine store_event (t := 4) (p := 87) (v := ?vo_w61) (w1 := (wr.setCell ⟨go54, (x35_2 : Int).toNat, none⟩ (.bool (rdOf false x6_2 (ji49))))) ?hg ?ho ?hn ?hr ?_; (case ho => rfl); (case hg => rfl); (case hn => rfl); (case hr => first | (go_simp; done) | (go_simp; rfl)); intro w61 hw; have hg : wr.grownBy w61 (some go54) := (by rw [hw]; exact HP60.2); have hp_ : Kd.R Kd.bool 4 w61 w.heap.size (fun k_ => some k_ ≠ (v1231 : Value).ownBlock) (.slice (some ⟨go54, 0, none⟩) x6_2.length co16) y1241 := (by rw [hw, Ny1241.out]; exact HP60.1); clear HP60; have n0_ := Aside0.mk (Kd.R_after (v := (.slice (some ⟨go54, 0, none⟩) x6_2.length co16)) (v1 := (.slice (some ⟨go54, 0, none⟩) x6_2.length co16)) (ok := (fun _ => True)) (by (with_reducible repeat (first | apply Kd.R_alloc | apply Kd.R_drewN | apply Kd.R_drew)); exact Kd.R_mono HO_4.out (fun _ hk => ⟨trivial, hk⟩)) hg (.inl rfl)); have n1_ := Aside0.mk (hp_); have n2_ := Aside0.mk (blk_grown (g := gb1228) (o := .cells #[.int .i64 a0_0, .slice A0_1 l0_1.length c0_1, .int .i64 a0_2] 33 (0, 0)) (by (with_reducible repeat (first | refine blk_drewN ?_ _ | refine blk_drew ?_ | refine blk_alloc ?_ _)); exact BK1228.out) hg (Kd.R_ne HO_6.out BK1228.out (by decide))); have n3_ := Aside0.mk ((by rw [hw]; exact below_set (HB.out) GB54.out : Below w.heap.size w w61)); clear HO_4; clear HO_6; clear BK1228; clear HB; have HO_4 := n0_; have HO_6 := n1_; have BK1228 := n2_; have HB := n3_; clear n0_ n1_ n2_ n3_; clear hg hw hp_; have p1242 : 0 ≤ (x35_2 : Int) := of_decide_eq_true (by first | (with_reducible assumption) | assumption); have q1242 : x35_2 < (y1241.length : Int) := (by have h_ : (x35_2 : Int) < ((x6_2.length : Int) : Int) := of_decide_eq_true (by first | (with_reducible assumption) | assumption); first | (have e_ := (Kd.R_reads' HO_6.out).1; omega) | simpa only [Ny1241.out, List.length_set] using h_); have ql1242 : ((x35_2 : Int) < ((x6_2.length : Int) : Int)) = True := eq_true (of_decide_eq_true (by first | (with_reducible assumption) | assumption)); obtain ⟨ad1242, e1242, hx1242_0⟩ := Kd.at_bool (Kd.R_reads' HO_6.out).2.2 x35_2 p1242 q1242; (try rw [← Nbq47.out] at hx1242_0); (try rw [← Nbq55.out] at hx1242_0); obtain rfl : (⟨go54, 0, none⟩ : Addr) = ad1242 := (by injection e1242); (first | simp only [add_plain] at hx1242_0 | simp only [add_at] at hx1242_0 | simp only [Addr.add, Nat.zero_add] at hx1242_0 | skip); replace p1242 := eq_true p1242; replace q1242 := eq_true q1242))
                                              (try simp only [← hl6_2])
                                              go_roundg k3
                                              case measure => have := HK1.out; have := HK2.out; have := HK3.out; omega
                                              case rel => exact ⟨(y1241), (x7_2), (x8_2), (wrap64 (x35_2 + 1)), (by first | rfl | (simp; done) | (simp [*]; done)), (by first | rfl | (simp; done) | (simp [*]; done)), (by first | rfl | (simp; done) | (simp [*]; done)), H', ⟨by have := HK1.out; have := HK2.out; have := HK3.out; omega⟩, ⟨by (try simp only [hl6_2]); (with_reducible repeat (first | apply Kd.R_alloc | apply Kd.R_drewN | apply Kd.R_drew)); exact Kd.R_mono HO_4.out (fun _ hk => hk.2)⟩, ⟨by (try simp only [hl6_2]); (with_reducible repeat (first | apply Kd.R_alloc | apply Kd.R_drewN | apply Kd.R_drew)); exact HO_6.out⟩, ⟨by (try simp only [hl6_2]); (with_reducible repeat (first | refine blk_drewN ?_ _ | refine blk_drew ?_ | refine blk_alloc ?_ _)); exact BK1228.out⟩, ⟨by repeat (first | (with_reducible first | exact HB.out | apply below_alloc | apply pw_below_drewN | apply below_drew1 | refine below_set ?_ GE1228.out) | exact HB.out)⟩⟩
                                          · replace c56 := Bool.eq_false_iff.mpr c56
                                            subst c56
                                            have H1 : (cantingref02_Least.l1 k3 t1230 y1241 x7_2 x8_2 (y1233.length : Int) (wrap64 (x35_2 + 1)) a0_0 l0_1 a0_2) = some (r1, r2) := by rw [if_neg (show ¬ (false = true) by decide)] at H; exact H
                                            clear H
                                            have H := H1
                                            clear H1
                                            have H' := Aside0.mk H
                                            clear H
                                            have p1239 : 0 ≤ ((ji44) : Int) := of_decide_eq_true (by first | (with_reducible assumption) | assumption)
                                            have q1239 : (ji44) < (x6_2.length : Int) := of_decide_eq_true (by first | (with_reducible assumption) | assumption)
                                            obtain ⟨ad1239, e1239, hx1239_0⟩ := Kd.at_bool (Kd.R_reads' HO_6.out).2.2 (ji44) p1239 q1239
                                            (try rw [← Nbq47.out] at hx1239_0)
                                            (try rw [← Nbq55.out] at hx1239_0)
                                            cases e1239
                                            replace p1239 := eq_true p1239
                                            replace q1239 := eq_true q1239
                                            have p1240 : 0 ≤ ((ji49) : Int) := of_decide_eq_true (by first | (with_reducible assumption) | assumption)
                                            have q1240 : (ji49) < (x6_2.length : Int) := of_decide_eq_true (by first | (with_reducible assumption) | assumption)
                                            obtain ⟨ad1240, e1240, hx1240_0⟩ := Kd.at_bool (Kd.R_reads' HO_6.out).2.2 (ji49) p1240 q1240
                                            (try rw [← Nbq47.out] at hx1240_0)
                                            (try rw [← Nbq55.out] at hx1240_0)
                                            obtain rfl : ad1239 = ad1240 := (by injection e1240)
                                            replace p1240 := eq_true p1240
                                            replace q1240 := eq_true q1240
                                            have p54 : 0 ≤ (x35_2 : Int) := of_decide_eq_true (by first | (with_reducible assumption) | assumption)
                                            have q54 : (x35_2 : Int) < ((x6_2.length : Int) : Int) := of_decide_eq_true (by first | (with_reducible assumption) | assumption)
                                            obtain ⟨go54, co54, eo54, gb54, gl54, cl54, HG54⟩ := Kd.R_form HO_6.out (by omega)
                                            (first | cases eo54 | (injection eo54 with ea_ en_ ec_; (first | subst ea_ | (injection ea_ with ea_; subst ea_)); subst ec_; clear en_))
                                            have GB54 := Aside0.mk gb54
                                            have GG54 := Aside0.mk HG54
                                            clear gb54 gl54 HG54
                                            (first | simp only [add_plain] at hx1239_0 | skip)
                                            (first | simp only [add_plain] at hx1240_0 | skip)
                                            obtain ⟨hx54_0, hf54_0⟩ := Kd.R_celln false HO_6.out (x35_2 : Int) p54 q54
                                            replace p54 := eq_true p54
                                            replace q54 := eq_true q54
                                            have HP62 := Kd.R_putg HO_6.out (x35_2 : Int) (rdOf false x6_2 (ji49))
                                            go_wp2_with (first | ((with_reducible refine gate_store (t := 4) (p := 87) rfl ?_); refine store_event (t := 4) (p := 87) (v := ?vo_w63) (w1 := (wr.setCell ⟨go54, (x35_2 : Int).toNat, none⟩ (.bool (rdOf false x6_2 (ji49))))) ?hg ?ho ?hn ?hr ?_; (case ho => rfl); (case hg => rfl); (case hn => rfl); (case hr => first | (go_simp; done) | (go_simp; rfl)); intro w63 hw; have hg : wr.grownBy w63 (some go54) := (by rw [hw]; exact HP62.2); have hp_ : Kd.R Kd.bool 4 w63 w.heap.size (fun k_ => some k_ ≠ (v1231 : Value).ownBlock) (.slice (some ⟨go54, 0, none⟩) x6_2.length co16) y1241 := (by rw [hw, Ny1241.out]; exact HP62.1); clear HP62; have n0_ := Aside0.mk (Kd.R_after (v := (.slice (some ⟨go54, 0, none⟩) x6_2.length co16)) (v1 := (.slice (some ⟨go54, 0, none⟩) x6_2.length co16)) (ok := (fun _ => True)) (by (with_reducible repeat (first | apply Kd.R_alloc | apply Kd.R_drewN | apply Kd.R_drew)); exact Kd.R_mono HO_4.out (fun _ hk => ⟨trivial, hk⟩)) hg (.inl rfl)); have n1_ := Aside0.mk (hp_); have n2_ := Aside0.mk (blk_grown (g := gb1228) (o := .cells #[.int .i64 a0_0, .slice A0_1 l0_1.length c0_1, .int .i64 a0_2] 33 (0, 0)) (by (with_reducible repeat (first | refine blk_drewN ?_ _ | refine blk_drew ?_ | refine blk_alloc ?_ _)); exact BK1228.out) hg (Kd.R_ne HO_6.out BK1228.out (by decide))); have n3_ := Aside0.mk ((by rw [hw]; exact below_set (HB.out) GB54.out : Below w.heap.size w w63)); clear HO_4; clear HO_6; clear BK1228; clear HB; have HO_4 := n0_; have HO_6 := n1_; have BK1228 := n2_; have HB := n3_; clear n0_ n1_ n2_ n3_; clear hg hw hp_; have p1242 : 0 ≤ (x35_2 : Int) := of_decide_eq_true (by first | (with_reducible assumption) | assumption); have q1242 : x35_2 < (y1241.length : Int) := (by have h_ : (x35_2 : Int) < ((x6_2.length : Int) : Int) := of_decide_eq_true (by first | (with_reducible assumption) | assumption); first | (have e_ := (Kd.R_reads' HO_6.out).1; omega) | simpa only [Ny1241.out, List.length_set] using h_); have ql1242 : ((x35_2 : Int) < ((x6_2.length : Int) : Int)) = True := eq_true (of_decide_eq_true (by first | (with_reducible assumption) | assumption)); obtain ⟨ad1242, e1242, hx1242_0⟩ := Kd.at_bool (Kd.R_reads' HO_6.out).2.2 x35_2 p1242 q1242; (try rw [← Nbq47.out] at hx1242_0); (try rw [← Nbq55.out] at hx1242_0); obtain rfl : (⟨go54, 0, none⟩ : Addr) = ad1242 := (by injection e1242); (first | simp only [add_plain] at hx1242_0 | simp only [add_at] at hx1242_0 | simp only [Addr.add, Nat.zero_add] at hx1242_0 | skip); replace p1242 := eq_true p1242; replace q1242 := eq_true q1242))
                                            (try simp only [← hl6_2])
                                            go_roundg k3
                                            case measure => have := HK1.out; have := HK2.out; have := HK3.out; omega
                                            case rel => exact ⟨(y1241), (x7_2), (x8_2), (wrap64 (x35_2 + 1)), (by first | rfl | (simp; done) | (simp [*]; done)), (by first | rfl | (simp; done) | (simp [*]; done)), (by first | rfl | (simp; done) | (simp [*]; done)), H', ⟨by have := HK1.out; have := HK2.out; have := HK3.out; omega⟩, ⟨by (try simp only [hl6_2]); (with_reducible repeat (first | apply Kd.R_alloc | apply Kd.R_drewN | apply Kd.R_drew)); exact Kd.R_mono HO_4.out (fun _ hk => hk.2)⟩, ⟨by (try simp only [hl6_2]); (with_reducible repeat (first | apply Kd.R_alloc | apply Kd.R_drewN | apply Kd.R_drew)); exact HO_6.out⟩, ⟨by (try simp only [hl6_2]); (with_reducible repeat (first | refine blk_drewN ?_ _ | refine blk_drew ?_ | refine blk_alloc ?_ _)); exact BK1228.out⟩, ⟨by repeat (first | (with_reducible first | exact HB.out | apply below_alloc | apply pw_below_drewN | apply below_drew1 | refine below_set ?_ GE1228.out) | exact HB.out)⟩⟩
                                        · rw [if_neg c53] at H
                                          exact absurd H (by simp)
                                      · rw [if_neg c52] at H
                                        exact absurd H (by simp)
                                    · rw [if_neg c51] at H
                                      exact absurd H (by simp)
                                  · rw [if_neg c50] at H
                                    exact absurd H (by simp)
                                · replace c48 := Bool.eq_false_iff.mpr c48
                                  subst c48
                                  have H1 : (if 0 ≤ x35_2 then (if x35_2 < (x6_2.length : Int) then ((some (x6_2.set (x35_2 : Int).toNat false : List Bool)).bind fun y1243 => (if rdOf false y1243 x35_2 = true then (if x11_3 > x8_2 then (cantingref02_Least.l1 k3 t1230 y1243 x35_2 x11_3 (y1233.length : Int) (wrap64 (x35_2 + 1)) a0_0 l0_1 a0_2) else (cantingref02_Least.l1 k3 t1230 y1243 x7_2 x8_2 (y1233.length : Int) (wrap64 (x35_2 + 1)) a0_0 l0_1 a0_2)) else (cantingref02_Least.l1 k3 t1230 y1243 x7_2 x8_2 (y1233.length : Int) (wrap64 (x35_2 + 1)) a0_0 l0_1 a0_2))) else (none)) else (none)) = some (r1, r2) := by rw [if_neg (show ¬ (false = true) by decide)] at H; exact H
                                  clear H
                                  have H := H1
                                  clear H1
                                  by_cases c64 : 0 ≤ x35_2
                                  · rw [if_pos c64] at H
                                    have c64b0 : decide (0 ≤ x35_2) = true := decide_eq_true c64
                                    (try (have c64b0_0 := c64b0; rw [hl6_2] at c64b0_0))
                                    clear c64
                                    by_cases c65 : x35_2 < (x6_2.length : Int)
                                    · rw [if_pos c65] at H
                                      have c65b0 : decide (x35_2 < (x6_2.length : Int)) = true := decide_eq_true c65
                                      (try (have c65b0_0 := c65b0; rw [hl6_2] at c65b0_0))
                                      clear c65
                                      obtain ⟨y1243, hy1243⟩ : ∃ y_ : List Bool, y_ = (x6_2.set (x35_2 : Int).toNat false) := ⟨_, rfl⟩
                                      replace H : (if rdOf false y1243 x35_2 = true then (if x11_3 > x8_2 then (cantingref02_Least.l1 k3 t1230 y1243 x35_2 x11_3 (y1233.length : Int) (wrap64 (x35_2 + 1)) a0_0 l0_1 a0_2) else (cantingref02_Least.l1 k3 t1230 y1243 x7_2 x8_2 (y1233.length : Int) (wrap64 (x35_2 + 1)) a0_0 l0_1 a0_2)) else (cantingref02_Least.l1 k3 t1230 y1243 x7_2 x8_2 (y1233.length : Int) (wrap64 (x35_2 + 1)) a0_0 l0_1 a0_2)) = some (r1, r2) := by first | (rw [hy1243]; with_reducible exact H) | (have H2_ := (Option.bind_some _ _).symm.trans H; rw [hy1243]; with_reducible exact H2_) | (have H2_ := (Option.bind_some _ _).symm.trans H; with_reducible exact H2_) | with_reducible exact H | (rw [hy1243]; exact H) | exact H
                                      have Ny1243 := Aside0.mk hy1243
                                      clear hy1243
                                      obtain ⟨bq67, hbq67⟩ : ∃ b_ : Bool, b_ = (rdOf false y1243 x35_2) := ⟨_, rfl⟩
                                      replace H : (if bq67 = true then (if x11_3 > x8_2 then (cantingref02_Least.l1 k3 t1230 y1243 x35_2 x11_3 (y1233.length : Int) (wrap64 (x35_2 + 1)) a0_0 l0_1 a0_2) else (cantingref02_Least.l1 k3 t1230 y1243 x7_2 x8_2 (y1233.length : Int) (wrap64 (x35_2 + 1)) a0_0 l0_1 a0_2)) else (cantingref02_Least.l1 k3 t1230 y1243 x7_2 x8_2 (y1233.length : Int) (wrap64 (x35_2 + 1)) a0_0 l0_1 a0_2)) = some (r1, r2) := by rw [← hbq67] at H; exact H
                                      have Nbq67 := Aside0.mk hbq67
                                      clear hbq67
                                      by_cases c68 : bq67 = true
                                      · subst c68
                                        have H1 : (if x11_3 > x8_2 then (cantingref02_Least.l1 k3 t1230 y1243 x35_2 x11_3 (y1233.length : Int) (wrap64 (x35_2 + 1)) a0_0 l0_1 a0_2) else (cantingref02_Least.l1 k3 t1230 y1243 x7_2 x8_2 (y1233.length : Int) (wrap64 (x35_2 + 1)) a0_0 l0_1 a0_2)) = some (r1, r2) := by rw [if_pos rfl] at H; exact H
                                        clear H
                                        have H := H1
                                        clear H1
                                        by_cases c69 : x11_3 > x8_2
                                        · rw [if_pos c69] at H
                                          have c69b0 : decide (x8_2 < x11_3) = true := decide_eq_true c69
                                          (try (have c69b0_0 := c69b0; rw [hl6_2] at c69b0_0))
                                          clear c69
                                          have H' := Aside0.mk H
                                          clear H
                                          have p1239 : 0 ≤ ((ji44) : Int) := of_decide_eq_true (by first | (with_reducible assumption) | assumption)
                                          have q1239 : (ji44) < (x6_2.length : Int) := of_decide_eq_true (by first | (with_reducible assumption) | assumption)
                                          obtain ⟨ad1239, e1239, hx1239_0⟩ := Kd.at_bool (Kd.R_reads' HO_6.out).2.2 (ji44) p1239 q1239
                                          (try rw [← Nbq47.out] at hx1239_0)
                                          (try rw [← Nbq67.out] at hx1239_0)
                                          cases e1239
                                          replace p1239 := eq_true p1239
                                          replace q1239 := eq_true q1239
                                          have p66 : 0 ≤ (x35_2 : Int) := of_decide_eq_true (by first | (with_reducible assumption) | assumption)
                                          have q66 : (x35_2 : Int) < ((x6_2.length : Int) : Int) := of_decide_eq_true (by first | (with_reducible assumption) | assumption)
                                          obtain ⟨go66, co66, eo66, gb66, gl66, cl66, HG66⟩ := Kd.R_form HO_6.out (by omega)
                                          (first | cases eo66 | (injection eo66 with ea_ en_ ec_; (first | subst ea_ | (injection ea_ with ea_; subst ea_)); subst ec_; clear en_))
                                          have GB66 := Aside0.mk gb66
                                          have GG66 := Aside0.mk HG66
                                          clear gb66 gl66 HG66
                                          (first | simp only [add_plain] at hx1239_0 | skip)
                                          obtain ⟨hx66_0, hf66_0⟩ := Kd.R_celln false HO_6.out (x35_2 : Int) p66 q66
                                          replace p66 := eq_true p66
                                          replace q66 := eq_true q66
                                          have HP70 := Kd.R_putg HO_6.out (x35_2 : Int) false
                                          go_wp2_with (first | ((with_reducible refine gate_store (t := 4) (p := 87) rfl ?_); refine store_event (t := 4) (p := 87) (v := ?vo_w71) (w1 := (wr.setCell ⟨go66, (x35_2 : Int).toNat, none⟩ (.bool false))) ?hg ?ho ?hn ?hr ?_; (case ho => rfl); (case hg => rfl); (case hn => rfl); (case hr => first | (go_simp; done) | (go_simp; rfl)); intro w71 hw; have hg : wr.grownBy w71 (some go66) := (by rw [hw]; exact HP70.2); have hp_ : Kd.R Kd.bool 4 w71 w.heap.size (fun k_ => some k_ ≠ (v1231 : Value).ownBlock) (.slice (some ⟨go66, 0, none⟩) x6_2.length co16) y1243 := (by rw [hw, Ny1243.out]; exact HP70.1); clear HP70; have n0_ := Aside0.mk (Kd.R_after (v := (.slice (some ⟨go66, 0, none⟩) x6_2.length co16)) (v1 := (.slice (some ⟨go66, 0, none⟩) x6_2.length co16)) (ok := (fun _ => True)) (by (with_reducible repeat (first | apply Kd.R_alloc | apply Kd.R_drewN | apply Kd.R_drew)); exact Kd.R_mono HO_4.out (fun _ hk => ⟨trivial, hk⟩)) hg (.inl rfl)); have n1_ := Aside0.mk (hp_); have n2_ := Aside0.mk (blk_grown (g := gb1228) (o := .cells #[.int .i64 a0_0, .slice A0_1 l0_1.length c0_1, .int .i64 a0_2] 33 (0, 0)) (by (with_reducible repeat (first | refine blk_drewN ?_ _ | refine blk_drew ?_ | refine blk_alloc ?_ _)); exact BK1228.out) hg (Kd.R_ne HO_6.out BK1228.out (by decide))); have n3_ := Aside0.mk ((by rw [hw]; exact below_set (HB.out) GB66.out : Below w.heap.size w w71)); clear HO_4; clear HO_6; clear BK1228; clear HB; have HO_4 := n0_; have HO_6 := n1_; have BK1228 := n2_; have HB := n3_; clear n0_ n1_ n2_ n3_; clear hg hw hp_; have p1244 : 0 ≤ (x35_2 : Int) := of_decide_eq_true (by first | (with_reducible assumption) | assumption); have q1244 : x35_2 < (y1243.length : Int) := (by have h_ : (x35_2 : Int) < ((x6_2.length : Int) : Int) := of_decide_eq_true (by first | (with_reducible assumption) | assumption); first | (have e_ := (Kd.R_reads' HO_6.out).1; omega) | simpa only [Ny1243.out, List.length_set] using h_); have ql1244 : ((x35_2 : Int) < ((x6_2.length : Int) : Int)) = True := eq_true (of_decide_eq_true (by first | (with_reducible assumption) | assumption)); obtain ⟨ad1244, e1244, hx1244_0⟩ := Kd.at_bool (Kd.R_reads' HO_6.out).2.2 x35_2 p1244 q1244; (try rw [← Nbq47.out] at hx1244_0); (try rw [← Nbq67.out] at hx1244_0); obtain rfl : (⟨go66, 0, none⟩ : Addr) = ad1244 := (by injection e1244); (first | simp only [add_plain] at hx1244_0 | simp only [add_at] at hx1244_0 | simp only [Addr.add, Nat.zero_add] at hx1244_0 | skip); replace p1244 := eq_true p1244; replace q1244 := eq_true q1244))
                                          (try simp only [← hl6_2])
                                          go_roundg k3
                                          case measure => have := HK1.out; have := HK2.out; have := HK3.out; omega
                                          case rel => exact ⟨(y1243), (x35_2), (x11_3), (wrap64 (x35_2 + 1)), (by first | rfl | (simp; done) | (simp [*]; done)), (by first | rfl | (simp; done) | (simp [*]; done)), (by first | rfl | (simp; done) | (simp [*]; done)), H', ⟨by have := HK1.out; have := HK2.out; have := HK3.out; omega⟩, ⟨by (try simp only [hl6_2]); (with_reducible repeat (first | apply Kd.R_alloc | apply Kd.R_drewN | apply Kd.R_drew)); exact Kd.R_mono HO_4.out (fun _ hk => hk.2)⟩, ⟨by (try simp only [hl6_2]); (with_reducible repeat (first | apply Kd.R_alloc | apply Kd.R_drewN | apply Kd.R_drew)); exact HO_6.out⟩, ⟨by (try simp only [hl6_2]); (with_reducible repeat (first | refine blk_drewN ?_ _ | refine blk_drew ?_ | refine blk_alloc ?_ _)); exact BK1228.out⟩, ⟨by repeat (first | (with_reducible first | exact HB.out | apply below_alloc | apply pw_below_drewN | apply below_drew1 | refine below_set ?_ GE1228.out) | exact HB.out)⟩⟩
                                        · rw [if_neg c69] at H
                                          have c69b0 : decide (x8_2 < x11_3) = false := decide_eq_false c69
                                          (try (have c69b0_0 := c69b0; rw [hl6_2] at c69b0_0))
                                          clear c69
                                          have H' := Aside0.mk H
                                          clear H
                                          have p1239 : 0 ≤ ((ji44) : Int) := of_decide_eq_true (by first | (with_reducible assumption) | assumption)
                                          have q1239 : (ji44) < (x6_2.length : Int) := of_decide_eq_true (by first | (with_reducible assumption) | assumption)
                                          obtain ⟨ad1239, e1239, hx1239_0⟩ := Kd.at_bool (Kd.R_reads' HO_6.out).2.2 (ji44) p1239 q1239
                                          (try rw [← Nbq47.out] at hx1239_0)
                                          (try rw [← Nbq67.out] at hx1239_0)
                                          cases e1239
                                          replace p1239 := eq_true p1239
                                          replace q1239 := eq_true q1239
                                          have p66 : 0 ≤ (x35_2 : Int) := of_decide_eq_true (by first | (with_reducible assumption) | assumption)
                                          have q66 : (x35_2 : Int) < ((x6_2.length : Int) : Int) := of_decide_eq_true (by first | (with_reducible assumption) | assumption)
                                          obtain ⟨go66, co66, eo66, gb66, gl66, cl66, HG66⟩ := Kd.R_form HO_6.out (by omega)
                                          (first | cases eo66 | (injection eo66 with ea_ en_ ec_; (first | subst ea_ | (injection ea_ with ea_; subst ea_)); subst ec_; clear en_))
                                          have GB66 := Aside0.mk gb66
                                          have GG66 := Aside0.mk HG66
                                          clear gb66 gl66 HG66
                                          (first | simp only [add_plain] at hx1239_0 | skip)
                                          obtain ⟨hx66_0, hf66_0⟩ := Kd.R_celln false HO_6.out (x35_2 : Int) p66 q66
                                          replace p66 := eq_true p66
                                          replace q66 := eq_true q66
                                          have HP72 := Kd.R_putg HO_6.out (x35_2 : Int) false
                                          go_wp2_with (first | ((with_reducible refine gate_store (t := 4) (p := 87) rfl ?_); refine store_event (t := 4) (p := 87) (v := ?vo_w73) (w1 := (wr.setCell ⟨go66, (x35_2 : Int).toNat, none⟩ (.bool false))) ?hg ?ho ?hn ?hr ?_; (case ho => rfl); (case hg => rfl); (case hn => rfl); (case hr => first | (go_simp; done) | (go_simp; rfl)); intro w73 hw; have hg : wr.grownBy w73 (some go66) := (by rw [hw]; exact HP72.2); have hp_ : Kd.R Kd.bool 4 w73 w.heap.size (fun k_ => some k_ ≠ (v1231 : Value).ownBlock) (.slice (some ⟨go66, 0, none⟩) x6_2.length co16) y1243 := (by rw [hw, Ny1243.out]; exact HP72.1); clear HP72; have n0_ := Aside0.mk (Kd.R_after (v := (.slice (some ⟨go66, 0, none⟩) x6_2.length co16)) (v1 := (.slice (some ⟨go66, 0, none⟩) x6_2.length co16)) (ok := (fun _ => True)) (by (with_reducible repeat (first | apply Kd.R_alloc | apply Kd.R_drewN | apply Kd.R_drew)); exact Kd.R_mono HO_4.out (fun _ hk => ⟨trivial, hk⟩)) hg (.inl rfl)); have n1_ := Aside0.mk (hp_); have n2_ := Aside0.mk (blk_grown (g := gb1228) (o := .cells #[.int .i64 a0_0, .slice A0_1 l0_1.length c0_1, .int .i64 a0_2] 33 (0, 0)) (by (with_reducible repeat (first | refine blk_drewN ?_ _ | refine blk_drew ?_ | refine blk_alloc ?_ _)); exact BK1228.out) hg (Kd.R_ne HO_6.out BK1228.out (by decide))); have n3_ := Aside0.mk ((by rw [hw]; exact below_set (HB.out) GB66.out : Below w.heap.size w w73)); clear HO_4; clear HO_6; clear BK1228; clear HB; have HO_4 := n0_; have HO_6 := n1_; have BK1228 := n2_; have HB := n3_; clear n0_ n1_ n2_ n3_; clear hg hw hp_; have p1244 : 0 ≤ (x35_2 : Int) := of_decide_eq_true (by first | (with_reducible assumption) | assumption); have q1244 : x35_2 < (y1243.length : Int) := (by have h_ : (x35_2 : Int) < ((x6_2.length : Int) : Int) := of_decide_eq_true (by first | (with_reducible assumption) | assumption); first | (have e_ := (Kd.R_reads' HO_6.out).1; omega) | simpa only [Ny1243.out, List.length_set] using h_); have ql1244 : ((x35_2 : Int) < ((x6_2.length : Int) : Int)) = True := eq_true (of_decide_eq_true (by first | (with_reducible assumption) | assumption)); obtain ⟨ad1244, e1244, hx1244_0⟩ := Kd.at_bool (Kd.R_reads' HO_6.out).2.2 x35_2 p1244 q1244; (try rw [← Nbq47.out] at hx1244_0); (try rw [← Nbq67.out] at hx1244_0); obtain rfl : (⟨go66, 0, none⟩ : Addr) = ad1244 := (by injection e1244); (first | simp only [add_plain] at hx1244_0 | simp only [add_at] at hx1244_0 | simp only [Addr.add, Nat.zero_add] at hx1244_0 | skip); replace p1244 := eq_true p1244; replace q1244 := eq_true q1244))
                                          (try simp only [← hl6_2])
                                          go_roundg k3
                                          case measure => have := HK1.out; have := HK2.out; have := HK3.out; omega
                                          case rel => exact ⟨(y1243), (x7_2), (x8_2), (wrap64 (x35_2 + 1)), (by first | rfl | (simp; done) | (simp [*]; done)), (by first | rfl | (simp; done) | (simp [*]; done)), (by first | rfl | (simp; done) | (simp [*]; done)), H', ⟨by have := HK1.out; have := HK2.out; have := HK3.out; omega⟩, ⟨by (try simp only [hl6_2]); (with_reducible repeat (first | apply Kd.R_alloc | apply Kd.R_drewN | apply Kd.R_drew)); exact Kd.R_mono HO_4.out (fun _ hk => hk.2)⟩, ⟨by (try simp only [hl6_2]); (with_reducible repeat (first | apply Kd.R_alloc | apply Kd.R_drewN | apply Kd.R_drew)); exact HO_6.out⟩, ⟨by (try simp only [hl6_2]); (with_reducible repeat (first | refine blk_drewN ?_ _ | refine blk_drew ?_ | refine blk_alloc ?_ _)); exact BK1228.out⟩, ⟨by repeat (first | (with_reducible first | exact HB.out | apply below_alloc | apply pw_below_drewN | apply below_drew1 | refine below_set ?_ GE1228.out) | exact HB.out)⟩⟩
                                      · replace c68 := Bool.eq_false_iff.mpr c68
                                        subst c68
                                        have H1 : (cantingref02_Least.l1 k3 t1230 y1243 x7_2 x8_2 (y1233.length : Int) (wrap64 (x35_2 + 1)) a0_0 l0_1 a0_2) = some (r1, r2) := by rw [if_neg (show ¬ (false = true) by decide)] at H; exact H
                                        clear H
                                        have H := H1
                                        clear H1
                                        have H' := Aside0.mk H
                                        clear H
                                        have p1239 : 0 ≤ ((ji44) : Int) := of_decide_eq_true (by first | (with_reducible assumption) | assumption)
                                        have q1239 : (ji44) < (x6_2.length : Int) := of_decide_eq_true (by first | (with_reducible assumption) | assumption)
                                        obtain ⟨ad1239, e1239, hx1239_0⟩ := Kd.at_bool (Kd.R_reads' HO_6.out).2.2 (ji44) p1239 q1239
                                        (try rw [← Nbq47.out] at hx1239_0)
                                        (try rw [← Nbq67.out] at hx1239_0)
                                        cases e1239
                                        replace p1239 := eq_true p1239
                                        replace q1239 := eq_true q1239
                                        have p66 : 0 ≤ (x35_2 : Int) := of_decide_eq_true (by first | (with_reducible assumption) | assumption)
                                        have q66 : (x35_2 : Int) < ((x6_2.length : Int) : Int) := of_decide_eq_true (by first | (with_reducible assumption) | assumption)
                                        obtain ⟨go66, co66, eo66, gb66, gl66, cl66, HG66⟩ := Kd.R_form HO_6.out (by omega)
                                        (first | cases eo66 | (injection eo66 with ea_ en_ ec_; (first | subst ea_ | (injection ea_ with ea_; subst ea_)); subst ec_; clear en_))
                                        have GB66 := Aside0.mk gb66
                                        have GG66 := Aside0.mk HG66
                                        clear gb66 gl66 HG66
                                        (first | simp only [add_plain] at hx1239_0 | skip)
                                        obtain ⟨hx66_0, hf66_0⟩ := Kd.R_celln false HO_6.out (x35_2 : Int) p66 q66
                                        replace p66 := eq_true p66
                                        replace q66 := eq_true q66
                                        have HP74 := Kd.R_putg HO_6.out (x35_2 : Int) false
                                        go_wp2_with (first | ((with_reducible refine gate_store (t := 4) (p := 87) rfl ?_); refine store_event (t := 4) (p := 87) (v := ?vo_w75) (w1 := (wr.setCell ⟨go66, (x35_2 : Int).toNat, none⟩ (.bool false))) ?hg ?ho ?hn ?hr ?_; (case ho => rfl); (case hg => rfl); (case hn => rfl); (case hr => first | (go_simp; done) | (go_simp; rfl)); intro w75 hw; have hg : wr.grownBy w75 (some go66) := (by rw [hw]; exact HP74.2); have hp_ : Kd.R Kd.bool 4 w75 w.heap.size (fun k_ => some k_ ≠ (v1231 : Value).ownBlock) (.slice (some ⟨go66, 0, none⟩) x6_2.length co16) y1243 := (by rw [hw, Ny1243.out]; exact HP74.1); clear HP74; have n0_ := Aside0.mk (Kd.R_after (v := (.slice (some ⟨go66, 0, none⟩) x6_2.length co16)) (v1 := (.slice (some ⟨go66, 0, none⟩) x6_2.length co16)) (ok := (fun _ => True)) (by (with_reducible repeat (first | apply Kd.R_alloc | apply Kd.R_drewN | apply Kd.R_drew)); exact Kd.R_mono HO_4.out (fun _ hk => ⟨trivial, hk⟩)) hg (.inl rfl)); have n1_ := Aside0.mk (hp_); have n2_ := Aside0.mk (blk_grown (g := gb1228) (o := .cells #[.int .i64 a0_0, .slice A0_1 l0_1.length c0_1, .int .i64 a0_2] 33 (0, 0)) (by (with_reducible repeat (first | refine blk_drewN ?_ _ | refine blk_drew ?_ | refine blk_alloc ?_ _)); exact BK1228.out) hg (Kd.R_ne HO_6.out BK1228.out (by decide))); have n3_ := Aside0.mk ((by rw [hw]; exact below_set (HB.out) GB66.out : Below w.heap.size w w75)); clear HO_4; clear HO_6; clear BK1228; clear HB; have HO_4 := n0_; have HO_6 := n1_; have BK1228 := n2_; have HB := n3_; clear n0_ n1_ n2_ n3_; clear hg hw hp_; have p1244 : 0 ≤ (x35_2 : Int) := of_decide_eq_true (by first | (with_reducible assumption) | assumption); have q1244 : x35_2 < (y1243.length : Int) := (by have h_ : (x35_2 : Int) < ((x6_2.length : Int) : Int) := of_decide_eq_true (by first | (with_reducible assumption) | assumption); first | (have e_ := (Kd.R_reads' HO_6.out).1; omega) | simpa only [Ny1243.out, List.length_set] using h_); have ql1244 : ((x35_2 : Int) < ((x6_2.length : Int) : Int)) = True := eq_true (of_decide_eq_true (by first | (with_reducible assumption) | assumption)); obtain ⟨ad1244, e1244, hx1244_0⟩ := Kd.at_bool (Kd.R_reads' HO_6.out).2.2 x35_2 p1244 q1244; (try rw [← Nbq47.out] at hx1244_0); (try rw [← Nbq67.out] at hx1244_0); obtain rfl : (⟨go66, 0, none⟩ : Addr) = ad1244 := (by injection e1244); (first | simp only [add_plain] at hx1244_0 | simp only [add_at] at hx1244_0 | simp only [Addr.add, Nat.zero_add] at hx1244_0 | skip); replace p1244 := eq_true p1244; replace q1244 := eq_true q1244))
                                        (try simp only [← hl6_2])
                                        go_roundg k3
                                        case measure => have := HK1.out; have := HK2.out; have := HK3.out; omega
                                        case rel => exact ⟨(y1243), (x7_2), (x8_2), (wrap64 (x35_2 + 1)), (by first | rfl | (simp; done) | (simp [*]; done)), (by first | rfl | (simp; done) | (simp [*]; done)), (by first | rfl | (simp; done) | (simp [*]; done)), H', ⟨by have := HK1.out; have := HK2.out; have := HK3.out; omega⟩, ⟨by (try simp only [hl6_2]); (with_reducible repeat (first | apply Kd.R_alloc | apply Kd.R_drewN | apply Kd.R_drew)); exact Kd.R_mono HO_4.out (fun _ hk => hk.2)⟩, ⟨by (try simp only [hl6_2]); (with_reducible repeat (first | apply Kd.R_alloc | apply Kd.R_drewN | apply Kd.R_drew)); exact HO_6.out⟩, ⟨by (try simp only [hl6_2]); (with_reducible repeat (first | refine blk_drewN ?_ _ | refine blk_drew ?_ | refine blk_alloc ?_ _)); exact BK1228.out⟩, ⟨by repeat (first | (with_reducible first | exact HB.out | apply below_alloc | apply pw_below_drewN | apply below_drew1 | refine below_set ?_ GE1228.out) | exact HB.out)⟩⟩
                                    · rw [if_neg c65] at H
                                      exact absurd H (by simp)
                                  · rw [if_neg c64] at H
                                    exact absurd H (by simp)
                              · rw [if_neg c46] at H
                                exact absurd H (by simp)
                            · rw [if_neg c45] at H
                              exact absurd H (by simp)
                  · rw [if_neg c17] at H
                    have c17b0 : decide (x35_2 < (y1233.length : Int)) = false := decide_eq_false c17
                    (try (have c17b0_0 := c17b0; rw [hl6_2] at c17b0_0))
                    clear c17
                    by_cases c76 : x7_2 < 0
                    · rw [if_pos c76] at H
                      have c76b0 : decide (x7_2 < 0) = true := decide_eq_true c76
                      (try (have c76b0_0 := c76b0; rw [hl6_2] at c76b0_0))
                      clear c76
                      simp only [Option.some.injEq, Prod.mk.injEq] at H
                      obtain ⟨rfl, rfl⟩ := H
                      go_wp2
                      go_ret2
                      exact ⟨_, by first | rfl | (simp [errW_none, errW_some] <;> rfl) | (simp [*, errW_none, errW_some] <;> rfl), by first | exact Kd.R_nil _ _ _ _ _ | exact Kd.N_nil _ _ _ _ _ | exact Kd.V_nil _ _ _ _ _ | exact Kd.Q_nil _ _ _ _ _ | exact Kd.S_nil _ _ _ _ _, by repeat (first | (with_reducible first | exact HB.out | apply below_alloc | apply pw_below_drewN | apply below_drew1 | refine below_set ?_ GE1228.out) | exact HB.out)⟩
                    · rw [if_neg c76] at H
                      have c76b0 : decide (x7_2 < 0) = false := decide_eq_false c76
                      (try (have c76b0_0 := c76b0; rw [hl6_2] at c76b0_0))
                      clear c76
                      by_cases c77 : 0 ≤ a0_0
                      · rw [if_pos c77] at H
                        have c77b0 := eq_true c77
                        (try (have c77b0_0 := c77b0; rw [hl6_2] at c77b0_0))
                        have c77b1 : decide (0 ≤ a0_0) = true := decide_eq_true c77
                        (try (have c77b1_0 := c77b1; rw [hl6_2] at c77b1_0))
                        clear c77
                        by_cases c78 : (a0_0 : Int).toNat ≤ 35184372088832
                        · rw [if_pos c78] at H
                          have c78b0 := eq_true c78
                          (try (have c78b0_0 := c78b0; rw [hl6_2] at c78b0_0))
                          have c78b1 : decide ((a0_0 : Int).toNat ≤ 35184372088832) = true := decide_eq_true c78
                          (try (have c78b1_0 := c78b1; rw [hl6_2] at c78b1_0))
                          clear c78
                          obtain ⟨y1245, hy1245⟩ : ∃ y_ : List Int, y_ = (List.replicate (a0_0 : Int).toNat 0) := ⟨_, rfl⟩
                          replace H : (cantingref02_Least.l3 k2 x7_2 y1245 (wrap64 (a0_0 - 1))) = some (r1, r2) := by first | (rw [hy1245]; with_reducible exact H) | (have H2_ := (Option.bind_some _ _).symm.trans H; rw [hy1245]; with_reducible exact H2_) | (have H2_ := (Option.bind_some _ _).symm.trans H; with_reducible exact H2_) | with_reducible exact H | (rw [hy1245]; exact H) | exact H
                          have Ny1245 := Aside0.mk hy1245
                          clear hy1245
                          have H' := Aside0.mk H
                          clear H
                          have hcz79_0 : wr.cell? ⟨gb1228, 0, none⟩ = some (.int .i64 a0_0) := (blk_cell BK1228.out 0).trans rfl
                          have hcz79_1 : wr.cell? ⟨gb1228, 1, none⟩ = some (.slice A0_1 l0_1.length c0_1) := (blk_cell BK1228.out 1).trans rfl
                          have hcz79_2 : wr.cell? ⟨gb1228, 2, none⟩ = some (.int .i64 a0_2) := (blk_cell BK1228.out 2).trans rfl
                          have hfz79_0 := blk_frozen BK1228.out 0
                          have hfz79_1 := blk_frozen BK1228.out 1
                          have hfz79_2 := blk_frozen BK1228.out 2
                          go_wp2_with (first | ((with_reducible refine gate_dst (N := 104) rfl ?_); refine Kd.R_make (Kd.int .i64) _ 3 rfl (N := 104) rfl 82 _ _ rfl a0_0 rfl rfl Try.underlying82 (.int .i64 0) 8 info3 rfl (by decide) (by omega) 0 (ok := fun _ => True) (okp := fun _ => True) rfl (fun _ hk => hk) trivial (of_decide_eq_true (by first | (with_reducible assumption) | assumption)) (Nat.le_trans (Nat.mul_le_mul_right _ (of_decide_eq_true (by first | (with_reducible assumption) | assumption) : a0_0.toNat ≤ 35184372088832)) (by omega)) (Below.refl _ _) (Nat.le_refl _) ?_; intro v1246 w80 ho81 hb hg_ hnew_; clear hg_ hnew_; (first | rw [← Ny1245.out] at ho81 | (simp only [Int.reduceToNat] at ho81; rw [← Ny1245.out] at ho81)); have n0_ := Aside0.mk (Kd.R_below (by (with_reducible repeat (first | apply Kd.R_alloc | apply Kd.R_drewN | apply Kd.R_drew)); exact HO_4.out) hb); have n1_ := Aside0.mk (Kd.R_below (by (with_reducible repeat (first | apply Kd.R_alloc | apply Kd.R_drewN | apply Kd.R_drew)); exact HO_6.out) hb); have n2_ := Aside0.mk (Kd.R_lower ho81 (below_size (by repeat (first | (with_reducible first | exact HB.out | apply below_alloc | apply pw_below_drewN | apply below_drew1 | refine below_set ?_ GE1228.out) | exact HB.out)))); have n3_ := Aside0.mk (blk_below (g := gb1228) (o := .cells #[.int .i64 a0_0, .slice A0_1 l0_1.length c0_1, .int .i64 a0_2] 33 (0, 0)) (by (with_reducible repeat (first | refine blk_drewN ?_ _ | refine blk_drew ?_ | refine blk_alloc ?_ _)); exact BK1228.out) hb); have n4_ := Aside0.mk (below_step (by repeat (first | (with_reducible first | exact HB.out | apply below_alloc | apply pw_below_drewN | apply below_drew1 | refine below_set ?_ GE1228.out) | exact HB.out)) hb); clear HO_4; clear HO_6; clear BK1228; clear HB; have HO_4 := n0_; have HO_6 := n1_; have HO1247 := n2_; have BK1228 := n3_; have HB := n4_; clear n0_ n1_ n2_ n3_ n4_; clear hb ho81; have hcz82_0 : w80.cell? ⟨gb1228, 0, none⟩ = some (.int .i64 a0_0) := (blk_cell BK1228.out 0).trans rfl; have hcz82_1 : w80.cell? ⟨gb1228, 1, none⟩ = some (.slice A0_1 l0_1.length c0_1) := (blk_cell BK1228.out 1).trans rfl; have hcz82_2 : w80.cell? ⟨gb1228, 2, none⟩ = some (.int .i64 a0_2) := (blk_cell BK1228.out 2).trans rfl; have hfz82_0 := blk_frozen BK1228.out 0; have hfz82_1 := blk_frozen BK1228.out 1; have hfz82_2 := blk_frozen BK1228.out 2))
                          go_loopg [7, 18] k2 (fun kq v7 v18 w' => ∃ (x7_3 : Int) (x17_3 : List Int) (x18_3 : Int), v7 = .int .i64 x7_3 ∧ v18 = .int .i64 x18_3 ∧ Aside0 (cantingref02_Least.l3 kq x7_3 x17_3 x18_3 = some (r1, r2)) ∧ Aside0 (kq ≤ k2) ∧ Aside0 (Kd.R (Kd.int .i64) 3 w' w.heap.size (fun _ => True) v1246 x17_3) ∧ Aside0 (w'.heap[gb1228]? = some (.cells #[.int .i64 a0_0, (.slice A0_1 l0_1.length c0_1), .int .i64 a0_2] 33 (0, 0))) ∧ Aside0 (Below w.heap.size w w'))
                          case atStart => exact ⟨(x7_2), (y1245), (wrap64 (a0_0 - 1)), (by first | rfl | (simp; done) | (simp [*]; done)), (by first | rfl | (simp; done) | (simp [*]; done)), H', ⟨Nat.le_refl _⟩, ⟨by (try simp only [hl6_2]); (with_reducible repeat (first | apply Kd.R_alloc | apply Kd.R_drewN | apply Kd.R_drew)); exact HO1247.out⟩, ⟨by (try simp only [hl6_2]); (with_reducible repeat (first | refine blk_drewN ?_ _ | refine blk_drew ?_ | refine blk_alloc ?_ _)); exact BK1228.out⟩, ⟨by repeat (first | (with_reducible first | exact HB.out | apply below_alloc | apply pw_below_drewN | apply below_drew1 | refine below_set ?_ GE1228.out) | exact HB.out)⟩⟩
                          case round =>
                            clear H'
                            try clear c1
                            try clear p1
                            try clear q1
                            try clear hx1
                            try clear c2
                            try clear p2
                            try clear c3
                            try clear p3
                            try clear q3
                            try clear hx3
                            try clear hf3
                            try clear c4
                            try clear q4
                            try clear c5
                            try clear p5
                            try clear q5
                            try clear hx5
                            try clear hf5
                            try clear c6
                            try clear p6
                            try clear q6
                            try clear hx6
                            try clear hf6
                            try clear c7
                            try clear c9
                            try clear c11
                            try clear c11b0
                            try clear c12
                            try clear c12b0
                            try clear c12b1
                            try clear p12
                            try clear q12
                            try clear hx12
                            try clear c13
                            try clear c13b0
                            try clear c13b1
                            try clear c17
                            try clear c17b0
                            try clear c19
                            try clear c19b0
                            try clear c20
                            try clear c20b0
                            try clear c20b1
                            try clear c21
                            try clear c21b0
                            try clear c21b1
                            try clear c22
                            try clear c22b0
                            try clear c22b1
                            try clear c24
                            try clear c24b0
                            try clear c24b1
                            try clear c26
                            try clear c26b0
                            try clear c26b1
                            try clear c27
                            try clear c27b0
                            try clear c28
                            try clear c28b0
                            try clear c29
                            try clear c29b0
                            try clear c30
                            try clear c30b0
                            try clear p31
                            try clear q31
                            try clear hx31
                            try clear hf31
                            try clear q32
                            try clear c33
                            try clear c34
                            try clear c34b0
                            try clear c45
                            try clear c45b0
                            try clear c46
                            try clear c46b0
                            try clear q47
                            try clear c48
                            try clear c50
                            try clear c50b0
                            try clear c51
                            try clear c51b0
                            try clear c52
                            try clear c52b0
                            try clear c53
                            try clear c53b0
                            try clear p54
                            try clear q54
                            try clear hx54
                            try clear hf54
                            try clear q55
                            try clear c56
                            try clear c57
                            try clear c57b0
                            try clear c64
                            try clear c64b0
                            try clear p64
                            try clear c65
                            try clear c65b0
                            try clear p66
                            try clear q66
                            try clear hx66
                            try clear hf66
                            try clear q67
                            try clear c68
                            try clear c69
                            try clear c69b0
                            try clear c76
                            try clear c76b0
                            try clear c77
                            try clear c77b0
                            try clear c77b1
                            try clear c78
                            try clear c78b0
                            try clear c78b1
                            try clear hcz10_0
                            try clear hcz10_1
                            try clear hcz10_2
                            try clear hcz18_0
                            try clear hcz18_1
                            try clear hcz18_2
                            try clear hcz6_0
                            try clear hcz6_1
                            try clear hcz6_2
                            try clear hcz79_0
                            try clear hcz79_1
                            try clear hcz79_2
                            try clear hcz82_0
                            try clear hcz82_1
                            try clear hcz82_2
                            try clear hcz8_0
                            try clear hcz8_1
                            try clear hcz8_2
                            try clear hfz10_0
                            try clear hfz10_1
                            try clear hfz10_2
                            try clear hfz18_0
                            try clear hfz18_1
                            try clear hfz18_2
                            try clear hfz6_0
                            try clear hfz6_1
                            try clear hfz6_2
                            try clear hfz79_0
                            try clear hfz79_1
                            try clear hfz79_2
                            try clear hfz82_0
                            try clear hfz82_1
                            try clear hfz82_2
                            try clear hfz8_0
                            try clear hfz8_1
                            try clear hfz8_2
                            try clear hx1236_0
                            try clear hx1238_0
                            try clear hx1239_0
                            try clear hx1240_0
                            try clear hx1242_0
                            try clear hx1244_0
                            try clear hx31_0
                            try clear hx54_0
                            try clear hx66_0
                            try clear p1236
                            try clear p1238
                            try clear p1239
                            try clear p1240
                            try clear p1242
                            try clear p1244
                            try clear p2
                            try clear p31
                            try clear p54
                            try clear p6
                            try clear p66
                            try clear q1236
                            try clear q1238
                            try clear q1239
                            try clear q1240
                            try clear q1242
                            try clear q1244
                            try clear q31
                            try clear q54
                            try clear q66
                            obtain ⟨x7_3, x17_3, x18_3, rfl, rfl, HA, HK3, HO_17, BK1228, HB⟩ := hrel
                            cases gk with
                            | zero => exact absurd HA.out (by simp [cantingref02_Least.l3])
                            | succ k3 =>
                              have H := HA.out
                              clear HA
                              simp only [cantingref02_Least.l3] at H
                              by_cases c83 : x18_3 ≥ 0
                              · rw [if_pos c83] at H
                                have c83b0 : decide (0 ≤ x18_3) = true := decide_eq_true c83
                                (try (have c83b0_0 := c83b0; rw [hl6_2] at c83b0_0))
                                clear c83
                                by_cases c84 : 0 ≤ x18_3
                                · rw [if_pos c84] at H
                                  have c84b0 : decide (0 ≤ x18_3) = true := decide_eq_true c84
                                  (try (have c84b0_0 := c84b0; rw [hl6_2] at c84b0_0))
                                  clear c84
                                  by_cases c85 : x18_3 < (x17_3.length : Int)
                                  · rw [if_pos c85] at H
                                    have c85b0 : decide (x18_3 < (x17_3.length : Int)) = true := decide_eq_true c85
                                    (try (have c85b0_0 := c85b0; rw [hl6_2] at c85b0_0))
                                    clear c85
                                    obtain ⟨y1248, hy1248⟩ : ∃ y_ : List Int, y_ = (x17_3.set (x18_3 : Int).toNat (Int.tmod x7_3 3)) := ⟨_, rfl⟩
                                    replace H : (cantingref02_Least.l3 k3 (wrap64 (Int.tdiv x7_3 3)) y1248 (wrap64 (x18_3 - 1))) = some (r1, r2) := by first | (rw [hy1248]; with_reducible exact H) | (have H2_ := (Option.bind_some _ _).symm.trans H; rw [hy1248]; with_reducible exact H2_) | (have H2_ := (Option.bind_some _ _).symm.trans H; with_reducible exact H2_) | with_reducible exact H | (rw [hy1248]; exact H) | exact H
                                    have Ny1248 := Aside0.mk hy1248
                                    clear hy1248
                                    have H' := Aside0.mk H
                                    clear H
                                    have p86 : 0 ≤ (x18_3 : Int) := of_decide_eq_true (by first | (with_reducible assumption) | assumption)
                                    have q86 : (x18_3 : Int) < ((x17_3.length : Int) : Int) := of_decide_eq_true (by first | (with_reducible assumption) | assumption)
                                    obtain ⟨go86, co86, eo86, gb86, gl86, cl86, HG86⟩ := Kd.R_form HO_17.out (by omega)
                                    (first | cases eo86 | (injection eo86 with ea_ en_ ec_; (first | subst ea_ | (injection ea_ with ea_; subst ea_)); subst ec_; clear en_))
                                    have GB86 := Aside0.mk gb86
                                    have GG86 := Aside0.mk HG86
                                    clear gb86 gl86 HG86
                                    obtain ⟨hx86_0, hf86_0⟩ := Kd.R_celln 0 HO_17.out (x18_3 : Int) p86 q86
                                    replace p86 := eq_true p86
                                    replace q86 := eq_true q86
                                    have HP87 := Kd.R_putg HO_17.out (x18_3 : Int) (Int.tmod x7_3 3)
                                    go_wp2_with (first | ((with_reducible refine gate_store (t := 3) (p := 116) rfl ?_); refine store_event (t := 3) (p := 116) (v := ?vo_w88) (w1 := (wr.setCell ⟨go86, (x18_3 : Int).toNat, none⟩ (.int .i64 (Int.tmod x7_3 3)))) ?hg ?ho ?hn ?hr ?_; (case ho => rfl); (case hg => rfl); (case hn => rfl); (case hr => first | (go_simp; done) | (go_simp; rfl)); intro w88 hw; have hg : wr.grownBy w88 (some go86) := (by rw [hw]; exact HP87.2); have hp_ : Kd.R (Kd.int .i64) 3 w88 w.heap.size (fun _ => True) (.slice (some ⟨go86, 0, none⟩) x17_3.length co86) y1248 := (by rw [hw, Ny1248.out]; exact HP87.1); clear HP87; have n0_ := Aside0.mk (hp_); have n1_ := Aside0.mk (blk_grown (g := gb1228) (o := .cells #[.int .i64 a0_0, .slice A0_1 l0_1.length c0_1, .int .i64 a0_2] 33 (0, 0)) (by (with_reducible repeat (first | refine blk_drewN ?_ _ | refine blk_drew ?_ | refine blk_alloc ?_ _)); exact BK1228.out) hg (Kd.R_ne HO_17.out BK1228.out (by decide))); have n2_ := Aside0.mk ((by rw [hw]; exact below_set (HB.out) GB86.out : Below w.heap.size w w88)); clear HO_17; clear BK1228; clear HB; have HO_17 := n0_; have BK1228 := n1_; have HB := n2_; clear n0_ n1_ n2_; clear hg hw hp_))
                                    go_roundg k3
                                    case measure => have := HK1.out; have := HK2.out; have := HK3.out; omega
                                    case rel => exact ⟨(wrap64 (Int.tdiv x7_3 3)), (y1248), (wrap64 (x18_3 - 1)), (by first | rfl | (simp; done) | (simp [*]; done)), (by first | rfl | (simp; done) | (simp [*]; done)), H', ⟨by have := HK1.out; have := HK2.out; have := HK3.out; omega⟩, ⟨by (try simp only [hl6_2]); (with_reducible repeat (first | apply Kd.R_alloc | apply Kd.R_drewN | apply Kd.R_drew)); exact HO_17.out⟩, ⟨by (try simp only [hl6_2]); (with_reducible repeat (first | refine blk_drewN ?_ _ | refine blk_drew ?_ | refine blk_alloc ?_ _)); exact BK1228.out⟩, ⟨by repeat (first | (with_reducible first | exact HB.out | apply below_alloc | apply pw_below_drewN | apply below_drew1 | refine below_set ?_ GE1228.out) | exact HB.out)⟩⟩
                                  · rw [if_neg c85] at H
                                    exact absurd H (by simp)
                                · rw [if_neg c84] at H
                                  exact absurd H (by simp)
                              · rw [if_neg c83] at H
                                have c83b0 : decide (0 ≤ x18_3) = false := decide_eq_false c83
                                (try (have c83b0_0 := c83b0; rw [hl6_2] at c83b0_0))
                                clear c83
                                simp only [Option.some.injEq, Prod.mk.injEq] at H
                                obtain ⟨rfl, rfl⟩ := H
                                go_wp2
                                go_ret2
                                exact ⟨_, by first | rfl | (simp [errW_none, errW_some] <;> rfl) | (simp [*, errW_none, errW_some] <;> rfl), by (with_reducible repeat (first | apply Kd.R_alloc | apply Kd.R_drewN | apply Kd.R_drew)); exact HO_17.out, by repeat (first | (with_reducible first | exact HB.out | apply below_alloc | apply pw_below_drewN | apply below_drew1 | refine below_set ?_ GE1228.out) | exact HB.out)⟩
                        · rw [if_neg c78] at H
                          exact absurd H (by simp)
                      · rw [if_neg c77] at H
                        exact absurd H (by simp)
            · rw [if_neg c13] at H
              exact absurd H (by simp)
          · rw [if_neg c12] at H
            exact absurd H (by simp)
  · replace c3 := Bool.eq_false_iff.mpr c3
    subst c3
    have H1 : (some (([] : List Int), 2)) = some (r1, r2) := by rw [if_neg (show ¬ (false = true) by decide)] at H; exact H
    clear H
    have H := H1
    clear H1
    simp only [Option.some.injEq, Prod.mk.injEq] at H
    obtain ⟨rfl, rfl⟩ := H
    go_enter Try.func73, Try.ntmps73
    go_wp2_with (first | ((with_reducible refine gate_dst (N := 1) rfl ?_); refine box_event ?hg (N := 1) ?hd (cs := #[.int .i64 a0_0, .slice A0_1 l0_1.length c0_1, .int .i64 a0_2]) (t := 33) ?hr ?_; (case hd => rfl); (case hg => rfl); (case hr => first | (go_simp; done) | (go_simp; rfl)); intro gb1228 hg w89 hbox hb; have n0_ := Aside0.mk (below_step (by repeat (first | (with_reducible first | exact HB.out | apply below_alloc | apply pw_below_drewN | apply below_drew1) | exact HB.out)) hb); have n1_ := Aside0.mk (hbox); have n2_ := Aside0.mk ((by rw [hg]; exact (below_size (by repeat (first | (with_reducible first | exact HB.out | apply below_alloc | apply pw_below_drewN | apply below_drew1) | exact HB.out))) : w.heap.size ≤ gb1228)); have n3_ := Aside0.mk ((by rw [hg]; exact (below_size (by repeat (first | (with_reducible first | exact HB.out | apply below_alloc | apply pw_below_drewN | apply below_drew1) | exact HB.out))) : w.heap.size ≤ gb1228)); clear HB; have HB := n0_; have BK1228 := n1_; have GW1228 := n2_; have GE1228 := n3_; clear n0_ n1_ n2_ n3_; clear hb hbox hg; have hcz90_0 : w89.cell? ⟨gb1228, 0, none⟩ = some (.int .i64 a0_0) := (blk_cell BK1228.out 0).trans rfl; have hcz90_1 : w89.cell? ⟨gb1228, 1, none⟩ = some (.slice A0_1 l0_1.length c0_1) := (blk_cell BK1228.out 1).trans rfl; have hcz90_2 : w89.cell? ⟨gb1228, 2, none⟩ = some (.int .i64 a0_2) := (blk_cell BK1228.out 2).trans rfl; have hfz90_0 := blk_frozen BK1228.out 0; have hfz90_1 := blk_frozen BK1228.out 1; have hfz90_2 := blk_frozen BK1228.out 2) | ((with_reducible refine gate_callee (f := 31) rfl ?_); refine goesL_ (some 20) rfl rfl Try.func31 (by kernel_rfl) rfl #[.agg #[.int .i64 a0_0, .slice A0_1 l0_1.length c0_1, .int .i64 a0_2]] rfl (by (try simp only [List.map_toArray, List.map_cons, List.map_nil]); first | done | rfl | (simp only [List.length_drop, List.length_take]; rfl)) ?_; (with_reducible refine (cantingref02_Valid.calls a0_0 _ _ l0_1 a0_2 false _ ?side1 ?side2 A2.out).mono ?_); (case side1 => repeat (first | exact (Kd.C_below HR0_1.out HB.out) | (with_reducible refine Kd.C_alloc ?_ _) | (with_reducible refine Kd.C_drewN ?_ _) | (with_reducible refine Kd.C_drew ?_))); (case side2 => exact HC0_1.out); rintro e w91 ⟨rfl, hb⟩; refine ⟨_, rfl, ?_⟩; have n0_ := Aside0.mk (blk_below (g := gb1228) (o := .cells #[.int .i64 a0_0, .slice A0_1 l0_1.length c0_1, .int .i64 a0_2] 33 (0, 0)) (by (with_reducible repeat (first | refine blk_drewN ?_ _ | refine blk_drew ?_ | refine blk_alloc ?_ _)); exact BK1228.out) hb); have n1_ := Aside0.mk (below_step (by repeat (first | (with_reducible first | exact HB.out | apply below_alloc | apply pw_below_drewN | apply below_drew1 | refine below_set ?_ GE1228.out) | exact HB.out)) hb); clear BK1228; clear HB; have BK1228 := n0_; have HB := n1_; clear n0_ n1_; (try clear hb); (try clear hb2); (try clear hk); (try clear hi)))
    go_ret2
    exact ⟨_, by first | rfl | (simp [errW_none, errW_some] <;> rfl) | (simp [*, errW_none, errW_some] <;> rfl), by first | exact Kd.R_nil _ _ _ _ _ | exact Kd.N_nil _ _ _ _ _ | exact Kd.V_nil _ _ _ _ _ | exact Kd.Q_nil _ _ _ _ _ | exact Kd.S_nil _ _ _ _ _, by repeat (first | (with_reducible first | exact HB.out | apply below_alloc | apply pw_below_drewN | apply below_drew1 | refine below_set ?_ GE1228.out) | exact HB.out)⟩
end Go.Proofs.Ytlplphgoldkoeaa.X
end

section
set_option linter.unusedVariables false
set_option linter.unusedSimpArgs false
namespace Go.Proofs.Ytlplphgoldkoeaa.HTab
open Go.RowKit Go.Proofs.YtlplphgoldkoeaaW.PrintWords Go.Proofs.YtlplphgoldkoeaaW.PrintLast Go.Proofs.YtlplphgoldkoeaaW.PrintMore Go.Proofs.Ytlplphgoldkoeaa.HMap Go.Proofs.Ytlplphgoldkoeaa.X
set_option linter.unusedVariables false
set_option linter.unusedSimpArgs false
theorem p3_12 {k : Nat} (h : k ≤ 12) : 1 ≤ 3 ^ k ∧ 3 ^ k ≤ 531441 := ⟨p3 k, Nat.pow_le_pow_right (by decide) h⟩
theorem dig_eq (c i : Nat) (hc : c < 531441) : Int.tmod (wrap64 (Int.tdiv (c : Int) ((3 ^ i : Nat) : Int))) 3 = ((c / 3 ^ i % 3 : Nat) : Int) := by
  have h := Nat.div_le_self c (3 ^ i)
  have e : Int.tdiv (c : Int) ((3 ^ i : Nat) : Int) = ((c / 3 ^ i : Nat) : Int) := by
    rw [Int.tdiv_eq_ediv_of_nonneg (by omega), Int.natCast_ediv]
  rw [e]
  generalize c / 3 ^ i = y at h
  have e2 : wrap64 ((y : Nat) : Int) = (y : Int) := by unfold wrap64; omega
  rw [e2, Int.tmod_eq_emod_of_nonneg (by omega)]
  omega
theorem or_up (i a d : Nat) (hi : i ≤ 12) (ha : a < 2 ^ i) (hd : d ≤ 2) : Go.bits .or .i64 (a : Int) (shl .i64 (Go.bits .and .i64 (d : Int) 1) (i : Int)) = ((a + d % 2 * 2 ^ i : Nat) : Int) := by
  have h12 := p12 hi
  have h1 : d % 2 * 2 ^ i ≤ 1 * 2 ^ i := Nat.mul_le_mul_right _ (by omega)
  have e : (d : Int) % 2 * ((2 ^ i : Nat) : Int) = ((d % 2 * 2 ^ i : Nat) : Int) := by simp
  have hb : d % 2 * 2 ^ i < 2 ^ 63 := Nat.lt_of_le_of_lt (Nat.le_trans h1 (by omega : 1 * 2 ^ i ≤ 4096)) (by decide)
  have hs : shl .i64 ((d : Int) % 2) (i : Int) = ((d % 2 * 2 ^ i : Nat) : Int) := by
    rw [shl_ok _ _ (by omega) (by omega) (by omega) (by rw [Int.toNat_natCast, ← pow_cast, e, ← pow_cast]; exact Int.ofNat_lt.2 hb), Int.toNat_natCast, ← pow_cast, e]
  rw [and_one (by omega) (by omega), hs]
  rw [(Go.bits_nat .i64 63 (by decide) wraps_i64 _ _ (Nat.lt_of_lt_of_le ha (Nat.le_trans h12.2 (by decide))) hb).2, Nat.or_comm, Nat.mul_comm (d % 2), ← Nat.two_pow_add_eq_or_of_lt ha]
  rw [Nat.add_comm]
theorem wrap_id {x : Int} (h0 : 0 ≤ x) (h : x < 140737488355328) : wrap64 x = x := by unfold wrap64; omega
theorem wrap_s (c J : Nat) (h : J ≤ c) (hc : c < 531441) : wrap64 ((c : Int) - (J : Int)) = ((c - J : Nat) : Int) := by unfold wrap64; omega
theorem wrap_s2 (c J : Nat) (h : 2 * J ≤ c) (hc : c < 531441) : wrap64 ((c : Int) - wrap64 (2 * (J : Int))) = ((c - 2 * J : Nat) : Int) := by
  rw [wrap_id (x := 2 * (J : Int)) (by omega) (by omega)]; unfold wrap64; omega
theorem wrap_m3 (J : Nat) (h : J ≤ 531441) : wrap64 ((J : Int) * 3) = ((J * 3 : Nat) : Int) := by unfold wrap64; omega
theorem rdB_n (l : List Bool) (i : Nat) : rdOf false l (i : Int) = l.getD i false := by simp [rdOf]
theorem getD_set_ (W : List Bool) (c : Nat) (q : Bool) (h : c < W.length) : (W.set c q).getD c false = q := by simp [h]
theorem getD_set_ne (W : List Bool) (c d : Nat) (q : Bool) (h : c ≠ d) : (W.set c q).getD d false = W.getD d false := by simp [h]
theorem free_bd (n c : Nat) : 0 ≤ freeC (dg n c) ∧ freeC (dg n c) ≤ n := by
  induction n with
  | zero => simp [dg, freeC]
  | succ n ih =>
    simp only [dg, freeC]
    split <;> omega
section
variable (n : Nat) (hn : n ≤ 12) (t : List Bool) (ht : t.length = 2 ^ n) (x34 x35 : Int) (k1 : List S106) (r : Int)
def LeaQ (fu c : Nat) (q : Bool) (W : List Bool) (bst mst : Int) : Option (List Int × Int) :=
  if q = true then (if freeC (dg n c) > mst then cantingref02_Least.l1 fu t (W.set c q) c (freeC (dg n c)) x34 (wrap64 (x35 + 1)) n k1 r else cantingref02_Least.l1 fu t (W.set c q) bst mst x34 (wrap64 (x35 + 1)) n k1 r)
  else cantingref02_Least.l1 fu t (W.set c q) bst mst x34 (wrap64 (x35 + 1)) n k1 r
include hn ht
set_option maxHeartbeats 2000000 in
theorem lea_l2 (c : Nat) (hc : c < 3 ^ n) (q : Bool) (hq : q = true ↔ Insd t (dg n c)) (W : List Bool) (hW : W.length = 3 ^ n) (hw : ∀ d, d < c → (W.getD d false = true ↔ Insd t (dg n d))) (bst mst : Int) (fu : Nat) :
    ∀ (d i : Nat), i + d = n → cantingref02_Least.l2 (fu + d + 1) t W bst mst c (ptc i c) (freeC (dg i c)) (plc i c).1 (plc i c).2 ((3 ^ i : Nat) : Int) x34 x35 n i n k1 r = LeaQ n t x34 x35 k1 r fu c q W bst mst
  | 0, i, h => by
    obtain rfl : i = n := by omega
    have h3 := p3_12 hn
    have h2 := p12 hn
    have hp := ptc_lt i c
    simp only [cantingref02_Least.l2]
    rw [if_neg (by omega)]
    rcases plc_cases i c with ⟨e, he⟩ | ⟨j, hj, e, he⟩
    · rw [e]
      dsimp only
      have hqt : t.getD (ptc i c) false = q := by
        exact Bool.eq_iff_iff.2 ((insd_ptc t i c he).symm.trans hq.symm)
      rw [if_pos rfl, if_pos (by omega), if_pos (by omega), if_pos (by omega), if_pos (by omega), rdB_n, hqt, Int.toNat_natCast]
      simp only [Option.bind_some]
      rw [rdB_n, getD_set_ _ _ _ (by omega)]
      rfl
    · rw [e]
      dsimp only
      obtain ⟨s1, s2⟩ := insd_step t i j c hj he
      have hj3 := p3_12 (k := j) (by omega)
      rw [wrap_s c (3 ^ j) (by omega) (by omega), wrap_s2 c (3 ^ j) s1 (by omega)]
      have a1 := hw (c - 3 ^ j) (by omega)
      have a2 := hw (c - 2 * 3 ^ j) (by omega)
      rw [← a1, ← a2, ← hq] at s2
      rw [if_neg (by omega), if_pos (by omega), if_pos (by omega), rdB_n, rdB_n]
      have r1 : ∀ b : Bool, rdOf false (W.set c b) (c : Int) = b := fun b => by rw [rdB_n, getD_set_ _ _ _ (by omega)]
      cases hg : W.getD (c - 3 ^ j) false with
      | false =>
        have : q = false := by
          cases q with
          | false => rfl
          | true => have := (s2.1 rfl).1; rw [hg] at this; cases this
        subst this
        rw [if_neg (by simp), if_pos (by omega), if_pos (by omega), Int.toNat_natCast]
        simp only [Option.bind_some]
        rw [r1]
        rfl
      | true =>
        have : W.getD (c - 2 * 3 ^ j) false = q := by
          exact Bool.eq_iff_iff.2 ⟨fun z => s2.2 ⟨hg, z⟩, fun z => (s2.1 z).2⟩
        rw [if_pos rfl, if_pos (by omega), if_pos (by omega), if_pos (by omega), if_pos (by omega), Int.toNat_natCast, this]
        simp only [Option.bind_some]
        rw [r1]
        rfl
  | d + 1, i, h => by
    have h3 := p3_12 hn
    have hi3 := p3_12 (k := i) (by omega)
    have hp := ptc_lt i c
    have hd := Lib.hid (dig_eq c i (by omega))
    have hm : c / 3 ^ i % 3 < 3 := Nat.mod_lt _ (by decide)
    have hf := free_bd i c
    have ih := lea_l2 c hc q hq W hW hw bst mst fu d (i + 1) (by omega)
    have ho := Lib.hid (or_up i (ptc i c) (c / 3 ^ i % 3) (by omega) hp (by omega))
    have w1 := Lib.hid (wrap_m3 (3 ^ i) hi3.2)
    have w2 : Hid (wrap64 ((i : Int) + 1) = ((i + 1 : Nat) : Int)) := Lib.hid (wrap_add1 (by omega) (by omega))
    have w3 : Hid (wrap64 (freeC (dg i c) + 1) = freeC (dg i c) + 1) := Lib.hid (wrap_add1 hf.1 (by omega))
    rw [show fu + (d + 1) + 1 = (fu + d + 1) + 1 by omega]
    rw [Nat.pow_succ] at ih
    obtain ⟨g, hg⟩ : ∃ g, g = fu + d + 1 := ⟨_, rfl⟩
    rw [← hg] at ih ⊢
    clear hg
    simp only [cantingref02_Least.l2]
    rw [if_pos (by omega), if_neg (by omega), hd.out, ho.out, w1.out, w2.out, w3.out]
    simp only [ptc, dg, freeC, plc] at ih
    by_cases h2 : c / 3 ^ i % 3 = 2
    · rw [if_pos h2, if_pos (by rw [h2]; rfl)] at ih
      rw [if_pos (by rw [h2]; rfl), if_pos (by omega)]
      exact ih
    · rw [if_neg h2, if_neg (by omega)] at ih
      rw [if_neg (by omega), if_pos (by omega)]
      exact ih
end
theorem lea_l3 (n b : Nat) (hn : n ≤ 12) (hb : b < 531441) : ∀ (d s fu : Nat), s + d = n → cantingref02_Least.l3 (fu + d + 1) ((b / 3 ^ s : Nat) : Int) (List.replicate d 0 ++ dg s b) ((d : Int) - 1) = some (dg n b, 0)
  | 0, s, fu, h => by
    obtain rfl : s = n := by omega
    simp only [cantingref02_Least.l3]
    rw [if_neg (by omega)]
    rfl
  | d + 1, s, fu, h => by
    have hx := Nat.div_le_self b (3 ^ s)
    have ih := lea_l3 n b hn hb d (s + 1) fu (by omega)
    rw [show fu + (d + 1) + 1 = (fu + d + 1) + 1 by omega]
    obtain ⟨g, hg⟩ : ∃ g, g = fu + d + 1 := ⟨_, rfl⟩
    rw [← hg] at ih ⊢
    clear hg
    simp only [cantingref02_Least.l3]
    have e1 : Hid (wrap64 (Int.tdiv ((b / 3 ^ s : Nat) : Int) 3) = ((b / 3 ^ (s + 1) : Nat) : Int)) := Lib.hid (by
      rw [Nat.pow_succ, ← Nat.div_div_eq_div_mul]
      generalize b / 3 ^ s = y at hx
      rw [Int.tdiv_eq_ediv_of_nonneg (by omega)]
      unfold wrap64; omega)
    have e2 : Hid (Int.tmod ((b / 3 ^ s : Nat) : Int) 3 = ((b / 3 ^ s % 3 : Nat) : Int)) := Lib.hid (by
      generalize b / 3 ^ s = y at hx
      rw [Int.tmod_eq_emod_of_nonneg (by omega)]; omega)
    have e3 : Hid (wrap64 (((d + 1 : Nat) : Int) - 1 - 1) = (d : Int) - 1) := Lib.hid (by unfold wrap64; omega)
    rw [if_pos (by omega), if_pos (by omega), if_pos (by rw [List.length_append, List.length_replicate, dg_len]; omega), e1.out, e2.out, e3.out]
    rw [show (((d + 1 : Nat) : Int) - 1).toNat = d by omega]
    have e4 : (List.replicate (d + 1) (0 : Int) ++ dg s b).set d ((b / 3 ^ s % 3 : Nat) : Int) = List.replicate d 0 ++ dg (s + 1) b := by
      rw [List.replicate_succ', List.append_assoc, List.set_append, List.length_replicate, if_neg (by omega), Nat.sub_self]
      simp [dg]
    rw [e4]
    exact ih
section
variable (n : Nat) (hn : n ≤ 12) (t : List Bool) (ht : t.length = 2 ^ n) (k1 : List S106) (r : Int)
def LeaI (c : Nat) (bst mst : Int) : Prop :=
  (bst = -1 ∧ mst = -1 ∧ ∀ d, d < c → ¬ Insd t (dg n d)) ∨ ∃ b : Nat, b < c ∧ bst = b ∧ mst = freeC (dg n b) ∧ Insd t (dg n b) ∧ ∀ d, d < c → Insd t (dg n d) → freeC (dg n d) < freeC (dg n b) ∨ freeC (dg n d) = freeC (dg n b) ∧ b ≤ d
def ansL (a : Wd) : List Int × Int := match a with | none => ([], 7) | some a => (a.2, 0)
include hn ht
set_option maxHeartbeats 2000000 in
theorem lea_l1 : ∀ (d c fu : Nat) (W : List Bool) (bst mst : Int), c + d = 3 ^ n → d * 14 + 20 ≤ fu → W.length = 3 ^ n → (∀ d, d < c → (W.getD d false = true ↔ Insd t (dg n d))) → LeaI n t c bst mst →
    cantingref02_Least.l1 fu t W bst mst ((3 ^ n : Nat) : Int) c n k1 r = some (ansL (bestT n t))
  | 0, c, fu, W, bst, mst, h, hf, hW, hw, hI => by
    obtain ⟨fu, rfl⟩ : ∃ g, fu = g + n + 1 + 1 := ⟨fu - n - 2, by omega⟩
    have h3 := p3_12 hn
    obtain rfl : c = 3 ^ n := by omega
    simp only [cantingref02_Least.l1]
    rw [if_neg (by omega)]
    rcases hI with ⟨rfl, rfl, hI⟩ | ⟨b, hb, rfl, rfl, hi, hI⟩
    · rw [if_pos (by decide), best_none n t ht hI]; rfl
    · rw [if_neg (by omega), if_pos (by omega), if_pos (by omega), best_num n t ht b hb hi hI, Int.toNat_natCast]
      have := lea_l3 n b hn (by omega) n 0 fu (by omega)
      rw [show (b / 3 ^ 0 : Nat) = b by simp, show List.replicate n (0 : Int) ++ dg 0 b = List.replicate n 0 by simp [dg], ← show wrap64 ((n : Int) - 1) = (n : Int) - 1 by unfold wrap64; omega] at this
      rw [this]
      rfl
  | d + 1, c, fu, W, bst, mst, h, hf, hW, hw, hI => by
    obtain ⟨fu, rfl⟩ : ∃ g, fu = g + n + 1 + 1 := ⟨fu - n - 2, by omega⟩
    have h3 := p3_12 hn
    have hx : ∃ q : Bool, q = true ↔ Insd t (dg n c) := by
      by_cases hh : Insd t (dg n c)
      · exact ⟨true, by simp [hh]⟩
      · exact ⟨false, by simp [hh]⟩
    obtain ⟨q, hq⟩ := hx
    have h2 := lea_l2 n hn t ht ((3 ^ n : Nat) : Int) (c : Int) k1 r c (by omega) q hq W hW hw bst mst fu n 0 (by omega)
    simp only [ptc, dg, freeC, plc] at h2
    have w2 : wrap64 ((c : Int) + 1) = ((c + 1 : Nat) : Int) := wrap_add1 (by omega) (by omega)
    have hlt : (c : Int) < ((3 ^ n : Nat) : Int) := by omega
    have hfr := free_bd n c
    simp only [cantingref02_Least.l1]
    rw [if_pos hlt]
    refine Eq.trans h2 ?_
    unfold LeaQ
    clear hlt
    rw [w2]
    have hW' : (W.set c q).length = 3 ^ n := by rw [List.length_set]; exact hW
    have hw' : ∀ d, d < c + 1 → ((W.set c q).getD d false = true ↔ Insd t (dg n d)) := fun d hd => by
      by_cases hdc : c = d
      · subst hdc; rw [getD_set_ _ _ _ (by omega)]; exact hq
      · rw [getD_set_ne _ _ _ _ hdc]; exact hw d (by omega)
    have ih := fun (bst mst : Int) (hI : LeaI n t (c + 1) bst mst) => lea_l1 d (c + 1) fu (W.set c q) bst mst (by omega) (by omega) hW' hw' hI
    clear w2
    have lt1 : ∀ d, d < c + 1 → d < c ∨ d = c := fun d hd => by omega
    cases q with
    | true =>
      have hin := hq.1 rfl
      rw [if_pos rfl]
      split
      · rename_i hgt
        refine ih _ _ (.inr ⟨c, by omega, rfl, rfl, hin, fun e he hie => ?_⟩)
        rcases lt1 e he with g | g
        · rcases hI with ⟨-, -, hI⟩ | ⟨b, hb, rfl, rfl, hi, hI⟩
          · exact absurd hie (hI e g)
          · rcases hI e g hie with z | ⟨z, z2⟩ <;> exact .inl (by omega)
        · subst g; exact .inr ⟨rfl, Nat.le_refl _⟩
      · rename_i hgt
        refine ih _ _ ?_
        rcases hI with ⟨rfl, rfl, hI⟩ | ⟨b, hb, rfl, rfl, hi, hI⟩
        · omega
        · refine .inr ⟨b, by omega, rfl, rfl, hi, fun e he hie => ?_⟩
          rcases lt1 e he with g | g
          · exact hI e g hie
          · subst g; omega
    | false =>
      have hin : ¬ Insd t (dg n c) := fun h => by cases hq.2 h
      rw [if_neg (by decide)]
      refine ih _ _ ?_
      rcases hI with ⟨rfl, rfl, hI⟩ | ⟨b, hb, rfl, rfl, hi, hI⟩
      · refine .inl ⟨rfl, rfl, fun e he => ?_⟩
        rcases lt1 e he with g | g
        · exact hI e g
        · subst g; exact hin
      · refine .inr ⟨b, by omega, rfl, rfl, hi, fun e he hie => ?_⟩
        rcases lt1 e he with g | g
        · exact hI e g hie
        · subst g; exact absurd hie hin
theorem lea_l0 : ∀ (d i fu : Nat), i + d = n → 10000000 + d ≤ fu → cantingref02_Least.l0 fu t ((3 ^ i : Nat) : Int) n i n k1 r = some (ansL (bestT n t))
  | 0, i, fu, h, hf => by
    obtain rfl : i = n := by omega
    have h3 := p3_12 hn
    obtain ⟨fu, rfl⟩ : ∃ g, fu = g + 1 := ⟨fu - 1, by omega⟩
    simp only [cantingref02_Least.l0]
    rw [if_neg (by omega), if_pos (by omega), if_pos (by omega), Int.toNat_natCast]
    simp only [Option.bind_some]
    rw [List.length_replicate]
    exact lea_l1 i hn t ht k1 r (3 ^ i) 0 fu _ (-1) (-1) (by omega) (by omega) (by simp) (fun d hd => by omega) (.inl ⟨rfl, rfl, fun d hd => by omega⟩)
  | d + 1, i, fu, h, hf => by
    have hi3 := p3_12 (k := i) (by omega)
    obtain ⟨fu, rfl⟩ : ∃ g, fu = g + 1 := ⟨fu - 1, by omega⟩
    have ih := lea_l0 d (i + 1) fu (by omega) (by omega)
    simp only [cantingref02_Least.l0]
    rw [if_pos (by omega), wrap_m3 (3 ^ i) hi3.2, show wrap64 ((i : Int) + 1) = ((i + 1 : Nat) : Int) from wrap_add1 (by omega) (by omega)]
    exact ih
end
end Go.Proofs.Ytlplphgoldkoeaa.HTab
end

section
set_option linter.unusedVariables false
set_option linter.unusedSimpArgs false
namespace Go.Proofs.Ytlplphgoldkoeaa.HTab
open Go.RowKit Go.Proofs.YtlplphgoldkoeaaW.PrintWords Go.Proofs.YtlplphgoldkoeaaW.PrintLast Go.Proofs.YtlplphgoldkoeaaW.PrintMore Go.Proofs.Ytlplphgoldkoeaa.HMap Go.Proofs.Ytlplphgoldkoeaa.X
set_option linter.unusedVariables false
set_option linter.unusedSimpArgs false
theorem VM.point {v r : Int} {l : List S107} (h : VM v l r) (hr : r ≠ 0) : ∃ P, P < 2 ^ v.toNat ∧ (tab v l r).getD P false = true := by
  by_cases hq : ∃ P, P < 2 ^ v.toNat ∧ (tab v l r).getD P false = true
  · exact hq
  · exfalso
    have e : tab v l r = tab v [] 0 := by
      have hc := tab_const (n := v) h.v0 false
      simp only [Bool.false_eq_true, if_false] at hc
      rw [hc]
      apply List.ext_getElem
      · rw [tab_length, List.length_replicate]
      · intro i h1 h2
        rw [tab_length] at h1
        rw [List.getElem_replicate]
        cases hb : (tab v l r)[i]'(by rw [tab_length]; exact h1) with
        | false => rfl
        | true => exact absurd ⟨i, h1, by rw [List.getD, List.getElem?_eq_getElem (by rw [tab_length]; exact h1), hb]; rfl⟩ hq
    have h0 := VM.const (n := v) h.v0 h.v12 false
    simp only [Bool.false_eq_true, if_false] at h0
    exact hr (h.same h0 e).2
theorem least_f {v r : Int} {l : List S107} (h : VM v l r) (hr : r ≠ 0) : ∃ a, bestT v.toNat (tab v l r) = some a ∧ mask_Least.f v l r = some (a.2, 0) := by
  obtain ⟨P, hP, ht⟩ := h.point hr
  obtain ⟨a, ha⟩ := best_some v.toNat (tab v l r) P (tab_length _ _ _) hP ht
  have hn := h.root.2.2
  refine ⟨a, ha, ?_⟩
  unfold mask_Least.f
  rw [if_pos (by omega), if_pos (vmB_true h), if_neg hr, ha]
  rfl
theorem least_f0 {v : Int} {l : List S107} (h : VM v l 0) : mask_Least.f v l 0 = some ([], 7) := by
  have hn := h.root.2.2
  unfold mask_Least.f
  rw [if_pos (by omega), if_pos (vmB_true h), if_pos rfl]
theorem least_f2 {v r : Int} {l : List S107} (h : ¬ VM v l r) (hl : l.length ≤ 1000000000) : mask_Least.f v l r = some ([], 2) := by
  unfold mask_Least.f
  rw [if_pos hl, if_neg (fun q => h (vmB_iff.1 q))]
end Go.Proofs.Ytlplphgoldkoeaa.HTab
end

section
set_option linter.unusedVariables false
set_option linter.unusedSimpArgs false
namespace Go.Proofs.Ytlplphgoldkoeaa.HTab
open Go.RowKit Go.Proofs.YtlplphgoldkoeaaW.PrintWords Go.Proofs.YtlplphgoldkoeaaW.PrintLast Go.Proofs.YtlplphgoldkoeaaW.PrintMore Go.Proofs.Ytlplphgoldkoeaa.X
set_option linter.unusedVariables false
set_option linter.unusedSimpArgs false
theorem equalI_same (x : List Int) (hx : x.length < 140737488355328) : ∀ (d i fu : Nat), i + d = x.length → d < fu → slices_Equal_int_int.l0 fu x x x.length i = some true
  | d, i, 0, h1, h2 => by omega
  | 0, i, fu + 1, h1, h2 => by
    simp only [slices_Equal_int_int.l0]
    rw [if_neg (by omega)]
  | d + 1, i, fu + 1, h1, h2 => by
    have wi : wrap64 ((i : Int) + 1) = ((i + 1 : Nat) : Int) := by unfold wrap64; omega
    simp only [slices_Equal_int_int.l0]
    rw [if_pos (by omega), if_pos (by omega), if_pos (by omega), wi]
    simp only [if_true, ite_self]
    rw [if_pos (by omega)]
    exact equalI_same x hx d (i + 1) fu (by omega) (by omega)
theorem equalI_f (x : List Int) (hx : x.length < 140737488355328) (fu : Nat) (hf : x.length < fu) : slices_Equal_int_int.f fu x x = some true := by
  unfold slices_Equal_int_int.f
  rw [if_pos rfl]
  exact equalI_same x hx x.length 0 fu (by omega) hf
end Go.Proofs.Ytlplphgoldkoeaa.HTab
end

section
set_option linter.unusedVariables false
set_option linter.unusedSimpArgs false
namespace Go.Proofs.Ytlplphgoldkoeaa.X
open Go.RowKit Go.Proofs.YtlplphgoldkoeaaW.PrintWords Go.Proofs.YtlplphgoldkoeaaW.PrintLast Go.Proofs.YtlplphgoldkoeaaW.PrintMore
attribute [local go_sem] max2_int min2_int max_two min_two max_three min_three max_four min_four   -- for this text's walks alone
set_option linter.unusedVariables false
set_option linter.unusedSimpArgs false
def cantinglaw02_MaskLeast.f (k : Nat) (a0_0 : Int) (l0_1 : List (S106)) (a0_2 : Int) : Option (Bool) := (cantinglaw02_of.f k a0_0 l0_1 a0_2).bind fun bt1250 => ((mask_Least.f bt1250.1 bt1250.2.1 bt1250.2.2).bind fun bt1255 => ((cantingref02_Least.f k a0_0 l0_1 a0_2).bind fun bt1259 => ((slices_Equal_int_int.f k bt1255.1 bt1259.1).bind fun t1263 => (if t1263 = true then (if bt1255.2 = bt1259.2 then ((cantinglaw02_awake.f k).bind fun t1264 => (some t1264)) else (some false)) else (some false)))))
theorem cantinglaw02_MaskLeast.mono : ∀ a0 a1 a2 k, LeO (cantinglaw02_MaskLeast.f k a0 a1 a2) (cantinglaw02_MaskLeast.f (k + 1) a0 a1 a2) := by
  intro a0 a1 a2 k
  unfold cantinglaw02_MaskLeast.f
  repeat' first
      | (with_reducible exact cantinglaw02_awake.mono _)
      | (with_reducible exact cantinglaw02_of.mono _ _ _ _)
      | (with_reducible exact cantingref02_Least.mono _ _ _ _)
      | (with_reducible exact slices_Equal_int_int.mono _ _ _)
      | (with_reducible exact LeO.refl _)
      | (with_reducible exact LeO.none _)
      | (with_reducible refine LeO.ite ?_ ?_)
      | (with_reducible refine LeO.bind ?_ (fun _ => ?_))
      | exact cantinglaw02_awake.mono _
      | exact cantinglaw02_of.mono _ _ _ _
      | exact cantingref02_Least.mono _ _ _ _
      | exact slices_Equal_int_int.mono _ _ _
      | exact LeO.none _
      | refine LeO.ite ?_ ?_
      | refine LeO.bind ?_ (fun _ => ?_)
set_option maxHeartbeats 8000000 in
set_option maxRecDepth 100000 in
theorem cantinglaw02_MaskLeast.calls (k : Nat) (a0_0 : Int) (A0_1 : Option Addr) (c0_1 : Nat) (l0_1 : List (S106)) (a0_2 : Int) (r : Bool) (w : World) (hr0_1 : Kd.C k106 w A0_1 l0_1.length l0_1) (hc0_1 : l0_1.length ≤ c0_1) (h : cantinglaw02_MaskLeast.f k a0_0 l0_1 a0_2 = some r) :
    Calls Try.prog 14 #[.agg #[.int .i64 a0_0, .slice A0_1 l0_1.length c0_1, .int .i64 a0_2]] w fun e w' => e = .returned (.bool r) ∧ Below w.heap.size w w' := by
  have hu33 := Try.underlying33
  have HR0_1 := Aside0.mk hr0_1
  have HC0_1 := Aside0.mk hc0_1
  clear hr0_1 hc0_1
  have HB := Aside0.mk (Below.refl w.heap.size w)
  have H : ((cantinglaw02_of.f k a0_0 l0_1 a0_2).bind fun bt1250 => ((mask_Least.f bt1250.1 bt1250.2.1 bt1250.2.2).bind fun bt1255 => ((cantingref02_Least.f k a0_0 l0_1 a0_2).bind fun bt1259 => ((slices_Equal_int_int.f k bt1255.1 bt1259.1).bind fun t1263 => (if t1263 = true then (if bt1255.2 = bt1259.2 then ((cantinglaw02_awake.f k).bind fun t1264 => (some t1264)) else (some false)) else (some false)))))) = some r := h
  clear h
  replace H := Option.bind_eq_some_iff.mp H
  obtain ⟨⟨t1250, t1251, t1254⟩, A20, H⟩ := H
  replace H : ((mask_Least.f t1250 t1251 t1254).bind fun bt1255 => ((cantingref02_Least.f k a0_0 l0_1 a0_2).bind fun bt1259 => ((slices_Equal_int_int.f k bt1255.1 bt1259.1).bind fun t1263 => (if t1263 = true then (if bt1255.2 = bt1259.2 then ((cantinglaw02_awake.f k).bind fun t1264 => (some t1264)) else (some false)) else (some false))))) = some r := H
  have A2 := Aside0.mk A20
  clear A20
  replace H := Option.bind_eq_some_iff.mp H
  obtain ⟨⟨t1255, t1258⟩, A30, H⟩ := H
  replace H : ((cantingref02_Least.f k a0_0 l0_1 a0_2).bind fun bt1259 => ((slices_Equal_int_int.f k t1255 bt1259.1).bind fun t1263 => (if t1263 = true then (if t1258 = bt1259.2 then ((cantinglaw02_awake.f k).bind fun t1264 => (some t1264)) else (some false)) else (some false)))) = some r := H
  have A3 := Aside0.mk A30
  clear A30
  replace H := Option.bind_eq_some_iff.mp H
  obtain ⟨⟨t1259, t1262⟩, A40, H⟩ := H
  replace H : ((slices_Equal_int_int.f k t1255 t1259).bind fun t1263 => (if t1263 = true then (if t1258 = t1262 then ((cantinglaw02_awake.f k).bind fun t1264 => (some t1264)) else (some false)) else (some false))) = some r := H
  have A4 := Aside0.mk A40
  clear A40
  replace H := Option.bind_eq_some_iff.mp H
  obtain ⟨t1263, A50, H⟩ := H
  replace H : (if t1263 = true then (if t1258 = t1262 then ((cantinglaw02_awake.f k).bind fun t1264 => (some t1264)) else (some false)) else (some false)) = some r := H
  have A5 := Aside0.mk A50
  clear A50
  by_cases c6 : t1263 = true
  · subst c6
    have H1 : (if t1258 = t1262 then ((cantinglaw02_awake.f k).bind fun t1264 => (some t1264)) else (some false)) = some r := by rw [if_pos rfl] at H; exact H
    clear H
    have H := H1
    clear H1
    by_cases c7 : t1258 = t1262
    · rw [if_pos c7] at H
      have c7b0 : (t1258 == t1262) = true := beq_iff_eq.mpr c7
      have c7b1 : (t1258 != t1262) = false := bne_eq_false_iff_eq.mpr c7
      clear c7
      replace H := Option.bind_eq_some_iff.mp H
      obtain ⟨t1264, A80, H⟩ := H
      replace H : (some t1264) = some r := H
      have A8 := Aside0.mk A80
      clear A80
      obtain rfl := Option.some.inj H
      go_enter Try.func14, Try.ntmps14
      go_wp2_with (first | ((with_reducible refine gate_dst (N := 1) rfl ?_); refine box_event ?hg (N := 1) ?hd (cs := #[.int .i64 a0_0, .slice A0_1 l0_1.length c0_1, .int .i64 a0_2]) (t := 33) ?hr ?_; (case hd => rfl); (case hg => rfl); (case hr => first | (go_simp; done) | (go_simp; rfl)); intro gb1249 hg w9 hbox hb; have n0_ := Aside0.mk (below_step (by repeat (first | (with_reducible first | exact HB.out | apply below_alloc | apply pw_below_drewN | apply below_drew1) | exact HB.out)) hb); have n1_ := Aside0.mk (hbox); have n2_ := Aside0.mk ((by rw [hg]; exact (below_size (by repeat (first | (with_reducible first | exact HB.out | apply below_alloc | apply pw_below_drewN | apply below_drew1) | exact HB.out))) : w.heap.size ≤ gb1249)); have n3_ := Aside0.mk ((by rw [hg]; exact (below_size (by repeat (first | (with_reducible first | exact HB.out | apply below_alloc | apply pw_below_drewN | apply below_drew1) | exact HB.out))) : w.heap.size ≤ gb1249)); clear HB; have HB := n0_; have BK1249 := n1_; have GW1249 := n2_; have GE1249 := n3_; clear n0_ n1_ n2_ n3_; clear hb hbox hg; have hcz10_0 : w9.cell? ⟨gb1249, 0, none⟩ = some (.int .i64 a0_0) := (blk_cell BK1249.out 0).trans rfl; have hcz10_1 : w9.cell? ⟨gb1249, 1, none⟩ = some (.slice A0_1 l0_1.length c0_1) := (blk_cell BK1249.out 1).trans rfl; have hcz10_2 : w9.cell? ⟨gb1249, 2, none⟩ = some (.int .i64 a0_2) := (blk_cell BK1249.out 2).trans rfl; have hfz10_0 := blk_frozen BK1249.out 0; have hfz10_1 := blk_frozen BK1249.out 1; have hfz10_2 := blk_frozen BK1249.out 2) | ((with_reducible refine gate_callee (f := 30) rfl ?_); refine goesL_ (some 9) rfl rfl Try.func30 (by kernel_rfl) rfl #[.agg #[.int .i64 a0_0, .slice A0_1 l0_1.length c0_1, .int .i64 a0_2]] rfl (by (try simp only [List.map_toArray, List.map_cons, List.map_nil]); first | done | rfl | (simp only [List.length_drop, List.length_take]; rfl)) ?_; (with_reducible refine (cantinglaw02_of.calls k a0_0 _ _ l0_1 a0_2 t1250 t1251 t1254 _ ?side1 ?side2 A2.out).mono ?_); (case side1 => repeat (first | exact (Kd.C_below HR0_1.out HB.out) | (with_reducible refine Kd.C_alloc ?_ _) | (with_reducible refine Kd.C_drewN ?_ _) | (with_reducible refine Kd.C_drew ?_))); (case side2 => exact HC0_1.out); rintro e w11 ⟨v1252, rfl, ho0, hb⟩; refine ⟨_, rfl, ?_⟩; have n0_ := Aside0.mk (Kd.R_lower ho0 (below_size (by repeat (first | (with_reducible first | exact HB.out | apply below_alloc | apply pw_below_drewN | apply below_drew1 | refine below_set ?_ GE1249.out) | exact HB.out)))); have n1_ := Aside0.mk (blk_below (g := gb1249) (o := .cells #[.int .i64 a0_0, .slice A0_1 l0_1.length c0_1, .int .i64 a0_2] 33 (0, 0)) (by (with_reducible repeat (first | refine blk_drewN ?_ _ | refine blk_drew ?_ | refine blk_alloc ?_ _)); exact BK1249.out) hb); have n2_ := Aside0.mk (below_step (by repeat (first | (with_reducible first | exact HB.out | apply below_alloc | apply pw_below_drewN | apply below_drew1 | refine below_set ?_ GE1249.out) | exact HB.out)) hb); clear BK1249; clear HB; have HO1253 := n0_; have BK1249 := n1_; have HB := n2_; clear n0_ n1_ n2_; (try clear hb); (try clear hb2); (try clear hk); (try clear hi); (try clear ho0); obtain ⟨Ao12, co12, eo12⟩ := Kd.R_slice HO1253.out; subst eo12) | ((with_reducible refine gate_callee (f := 72) rfl ?_); refine goesL_ (some 10) rfl rfl Try.func72 (by kernel_rfl) rfl #[.agg #[.int .i64 t1250, .slice Ao12 t1251.length co12, .int .i64 t1254]] rfl (by (try simp only [List.map_toArray, List.map_cons, List.map_nil]); first | done | rfl | (simp only [List.length_drop, List.length_take]; rfl)) ?_; (with_reducible refine (mask_Least.calls t1250 _ _ t1251 t1254 t1255 t1258 _ ?side1 ?side2 A3.out).mono ?_); (case side1 => repeat (first | exact (Kd.R_reads' HO1253.out).2.2 | (with_reducible refine Kd.C_alloc ?_ _) | (with_reducible refine Kd.C_drewN ?_ _) | (with_reducible refine Kd.C_drew ?_))); (case side2 => exact (Kd.R_reads' HO1253.out).2.1); rintro e w13 ⟨v1256, rfl, ho0, hb⟩; refine ⟨_, rfl, ?_⟩; have n0_ := Aside0.mk (Kd.R_below (by (with_reducible repeat (first | apply Kd.R_alloc | apply Kd.R_drewN | apply Kd.R_drew)); exact HO1253.out) hb); have n1_ := Aside0.mk (Kd.R_lower ho0 (below_size (by repeat (first | (with_reducible first | exact HB.out | apply below_alloc | apply pw_below_drewN | apply below_drew1 | refine below_set ?_ GE1249.out) | exact HB.out)))); have n2_ := Aside0.mk (blk_below (g := gb1249) (o := .cells #[.int .i64 a0_0, .slice A0_1 l0_1.length c0_1, .int .i64 a0_2] 33 (0, 0)) (by (with_reducible repeat (first | refine blk_drewN ?_ _ | refine blk_drew ?_ | refine blk_alloc ?_ _)); exact BK1249.out) hb); have n3_ := Aside0.mk (below_step (by repeat (first | (with_reducible first | exact HB.out | apply below_alloc | apply pw_below_drewN | apply below_drew1 | refine below_set ?_ GE1249.out) | exact HB.out)) hb); clear HO1253; clear BK1249; clear HB; have HO1253 := n0_; have HO1257 := n1_; have BK1249 := n2_; have HB := n3_; clear n0_ n1_ n2_ n3_; (try clear hb); (try clear hb2); (try clear hk); (try clear hi); (try clear ho0); have hcz14_0 : w13.cell? ⟨gb1249, 0, none⟩ = some (.int .i64 a0_0) := (blk_cell BK1249.out 0).trans rfl; have hcz14_1 : w13.cell? ⟨gb1249, 1, none⟩ = some (.slice A0_1 l0_1.length c0_1) := (blk_cell BK1249.out 1).trans rfl; have hcz14_2 : w13.cell? ⟨gb1249, 2, none⟩ = some (.int .i64 a0_2) := (blk_cell BK1249.out 2).trans rfl; have hfz14_0 := blk_frozen BK1249.out 0; have hfz14_1 := blk_frozen BK1249.out 1; have hfz14_2 := blk_frozen BK1249.out 2) | ((with_reducible refine gate_callee (f := 73) rfl ?_); refine goesL_ (some 15) rfl rfl Try.func73 (by kernel_rfl) rfl #[.agg #[.int .i64 a0_0, .slice A0_1 l0_1.length c0_1, .int .i64 a0_2]] rfl (by (try simp only [List.map_toArray, List.map_cons, List.map_nil]); first | done | rfl | (simp only [List.length_drop, List.length_take]; rfl)) ?_; (with_reducible refine (cantingref02_Least.calls k a0_0 _ _ l0_1 a0_2 t1259 t1262 _ ?side1 ?side2 A4.out).mono ?_); (case side1 => repeat (first | exact (Kd.C_below HR0_1.out HB.out) | (with_reducible refine Kd.C_alloc ?_ _) | (with_reducible refine Kd.C_drewN ?_ _) | (with_reducible refine Kd.C_drew ?_))); (case side2 => exact HC0_1.out); rintro e w15 ⟨v1260, rfl, ho0, hb⟩; refine ⟨_, rfl, ?_⟩; have n0_ := Aside0.mk (Kd.R_below (by (with_reducible repeat (first | apply Kd.R_alloc | apply Kd.R_drewN | apply Kd.R_drew)); exact HO1253.out) hb); have n1_ := Aside0.mk (Kd.R_elder' (by (with_reducible repeat (first | apply Kd.R_alloc | apply Kd.R_drewN | apply Kd.R_drew)); exact HO1257.out) (Kd.R_base ho0) hb); have n2_ := Aside0.mk (Kd.R_lower (Kd.R_new' ho0 (Kd.R_lt (by (with_reducible repeat (first | apply Kd.R_alloc | apply Kd.R_drewN | apply Kd.R_drew)); exact HO1257.out))) (below_size (by repeat (first | (with_reducible first | exact HB.out | apply below_alloc | apply pw_below_drewN | apply below_drew1 | refine below_set ?_ GE1249.out) | exact HB.out)))); have n3_ := Aside0.mk (blk_below (g := gb1249) (o := .cells #[.int .i64 a0_0, .slice A0_1 l0_1.length c0_1, .int .i64 a0_2] 33 (0, 0)) (by (with_reducible repeat (first | refine blk_drewN ?_ _ | refine blk_drew ?_ | refine blk_alloc ?_ _)); exact BK1249.out) hb); have n4_ := Aside0.mk (below_step (by repeat (first | (with_reducible first | exact HB.out | apply below_alloc | apply pw_below_drewN | apply below_drew1 | refine below_set ?_ GE1249.out) | exact HB.out)) hb); clear HO1253; clear HO1257; clear BK1249; clear HB; have HO1253 := n0_; have HO1257 := n1_; have HO1261 := n2_; have BK1249 := n3_; have HB := n4_; clear n0_ n1_ n2_ n3_ n4_; (try clear hb); (try clear hb2); (try clear hk); (try clear hi); (try clear ho0); obtain ⟨Ao16, co16, eo16⟩ := Kd.R_slice HO1257.out; subst eo16; obtain ⟨Ao17, co17, eo17⟩ := Kd.R_slice HO1261.out; subst eo17) | ((with_reducible refine gate_callee (f := 66) rfl ?_); refine goesL_ (some 20) rfl rfl Try.func66 (by kernel_rfl) rfl #[.slice Ao16 t1255.length co16, .slice Ao17 t1259.length co17] rfl (by (try simp only [List.map_toArray, List.map_cons, List.map_nil]); first | done | rfl | (simp only [List.length_drop, List.length_take]; rfl)) ?_; (with_reducible refine (slices_Equal_int_int.calls k _ _ t1255 _ _ t1259 true _ ?side1 ?side2 ?side3 ?side4 A5.out).mono ?_); (case side1 => repeat (first | exact (Kd.R_reads' HO1257.out).2.2 | (with_reducible refine Kd.C_alloc ?_ _) | (with_reducible refine Kd.C_drewN ?_ _) | (with_reducible refine Kd.C_drew ?_))); (case side2 => exact (Kd.R_reads' HO1257.out).2.1); (case side3 => repeat (first | exact (Kd.R_reads' HO1261.out).2.2 | (with_reducible refine Kd.C_alloc ?_ _) | (with_reducible refine Kd.C_drewN ?_ _) | (with_reducible refine Kd.C_drew ?_))); (case side4 => exact (Kd.R_reads' HO1261.out).2.1); rintro e w' ⟨rfl, ⟨nd, rfl⟩⟩; refine ⟨_, rfl, ?_⟩) | (go_at_call 24; (with_reducible refine (cantinglaw02_awake.calls k  t1264 _ A8.out).mono ?_); rintro e w18 ⟨rfl, hb⟩; have n0_ := Aside0.mk (Kd.R_below (by (with_reducible repeat (first | apply Kd.R_alloc | apply Kd.R_drewN | apply Kd.R_drew)); exact HO1253.out) hb); have n1_ := Aside0.mk (Kd.R_below (by (with_reducible repeat (first | apply Kd.R_alloc | apply Kd.R_drewN | apply Kd.R_drew)); exact HO1257.out) hb); have n2_ := Aside0.mk (Kd.R_below (by (with_reducible repeat (first | apply Kd.R_alloc | apply Kd.R_drewN | apply Kd.R_drew)); exact HO1261.out) hb); have n3_ := Aside0.mk (blk_below (g := gb1249) (o := .cells #[.int .i64 a0_0, .slice A0_1 l0_1.length c0_1, .int .i64 a0_2] 33 (0, 0)) (by (with_reducible repeat (first | refine blk_drewN ?_ _ | refine blk_drew ?_ | refine blk_alloc ?_ _)); exact BK1249.out) hb); have n4_ := Aside0.mk (below_step (by repeat (first | (with_reducible first | exact HB.out | apply below_alloc | apply pw_below_drewN | apply below_drew1 | refine below_set ?_ GE1249.out) | exact HB.out)) hb); clear HO1253; clear HO1257; clear HO1261; clear BK1249; clear HB; have HO1253 := n0_; have HO1257 := n1_; have HO1261 := n2_; have BK1249 := n3_; have HB := n4_; clear n0_ n1_ n2_ n3_ n4_; (try clear hb); (try clear hb2); (try clear hk); (try clear hi)))
      go_ret
      exact ⟨by first | rfl | (simp [errW_none, errW_some] <;> rfl) | (simp [*, errW_none, errW_some] <;> rfl), by repeat (first | (with_reducible first | exact HB.out | apply below_alloc | apply pw_below_drewN | apply below_drew1 | refine below_set ?_ GE1249.out) | exact HB.out)⟩
    · rw [if_neg c7] at H
      have c7b0 : (t1258 == t1262) = false := beq_eq_false_iff_ne.mpr c7
      have c7b1 : (t1258 != t1262) = true := bne_iff_ne.mpr c7
      obtain rfl := Option.some.inj H
      go_enter Try.func14, Try.ntmps14
      go_wp2_with (first | ((with_reducible refine gate_dst (N := 1) rfl ?_); refine box_event ?hg (N := 1) ?hd (cs := #[.int .i64 a0_0, .slice A0_1 l0_1.length c0_1, .int .i64 a0_2]) (t := 33) ?hr ?_; (case hd => rfl); (case hg => rfl); (case hr => first | (go_simp; done) | (go_simp; rfl)); intro gb1249 hg w19 hbox hb; have n0_ := Aside0.mk (below_step (by repeat (first | (with_reducible first | exact HB.out | apply below_alloc | apply pw_below_drewN | apply below_drew1) | exact HB.out)) hb); have n1_ := Aside0.mk (hbox); have n2_ := Aside0.mk ((by rw [hg]; exact (below_size (by repeat (first | (with_reducible first | exact HB.out | apply below_alloc | apply pw_below_drewN | apply below_drew1) | exact HB.out))) : w.heap.size ≤ gb1249)); have n3_ := Aside0.mk ((by rw [hg]; exact (below_size (by repeat (first | (with_reducible first | exact HB.out | apply below_alloc | apply pw_below_drewN | apply below_drew1) | exact HB.out))) : w.heap.size ≤ gb1249)); clear HB; have HB := n0_; have BK1249 := n1_; have GW1249 := n2_; have GE1249 := n3_; clear n0_ n1_ n2_ n3_; clear hb hbox hg; have hcz20_0 : w19.cell? ⟨gb1249, 0, none⟩ = some (.int .i64 a0_0) := (blk_cell BK1249.out 0).trans rfl; have hcz20_1 : w19.cell? ⟨gb1249, 1, none⟩ = some (.slice A0_1 l0_1.length c0_1) := (blk_cell BK1249.out 1).trans rfl; have hcz20_2 : w19.cell? ⟨gb1249, 2, none⟩ = some (.int .i64 a0_2) := (blk_cell BK1249.out 2).trans rfl; have hfz20_0 := blk_frozen BK1249.out 0; have hfz20_1 := blk_frozen BK1249.out 1; have hfz20_2 := blk_frozen BK1249.out 2) | ((with_reducible refine gate_callee (f := 30) rfl ?_); refine goesL_ (some 9) rfl rfl Try.func30 (by kernel_rfl) rfl #[.agg #[.int .i64 a0_0, .slice A0_1 l0_1.length c0_1, .int .i64 a0_2]] rfl (by (try simp only [List.map_toArray, List.map_cons, List.map_nil]); first | done | rfl | (simp only [List.length_drop, List.length_take]; rfl)) ?_; (with_reducible refine (cantinglaw02_of.calls k a0_0 _ _ l0_1 a0_2 t1250 t1251 t1254 _ ?side1 ?side2 A2.out).mono ?_); (case side1 => repeat (first | exact (Kd.C_below HR0_1.out HB.out) | (with_reducible refine Kd.C_alloc ?_ _) | (with_reducible refine Kd.C_drewN ?_ _) | (with_reducible refine Kd.C_drew ?_))); (case side2 => exact HC0_1.out); rintro e w21 ⟨v1252, rfl, ho0, hb⟩; refine ⟨_, rfl, ?_⟩; have n0_ := Aside0.mk (Kd.R_lower ho0 (below_size (by repeat (first | (with_reducible first | exact HB.out | apply below_alloc | apply pw_below_drewN | apply below_drew1 | refine below_set ?_ GE1249.out) | exact HB.out)))); have n1_ := Aside0.mk (blk_below (g := gb1249) (o := .cells #[.int .i64 a0_0, .slice A0_1 l0_1.length c0_1, .int .i64 a0_2] 33 (0, 0)) (by (with_reducible repeat (first | refine blk_drewN ?_ _ | refine blk_drew ?_ | refine blk_alloc ?_ _)); exact BK1249.out) hb); have n2_ := Aside0.mk (below_step (by repeat (first | (with_reducible first | exact HB.out | apply below_alloc | apply pw_below_drewN | apply below_drew1 | refine below_set ?_ GE1249.out) | exact HB.out)) hb); clear BK1249; clear HB; have HO1253 := n0_; have BK1249 := n1_; have HB := n2_; clear n0_ n1_ n2_; (try clear hb); (try clear hb2); (try clear hk); (try clear hi); (try clear ho0); obtain ⟨Ao22, co22, eo22⟩ := Kd.R_slice HO1253.out; subst eo22) | ((with_reducible refine gate_callee (f := 72) rfl ?_); refine goesL_ (some 10) rfl rfl Try.func72 (by kernel_rfl) rfl #[.agg #[.int .i64 t1250, .slice Ao22 t1251.length co22, .int .i64 t1254]] rfl (by (try simp only [List.map_toArray, List.map_cons, List.map_nil]); first | done | rfl | (simp only [List.length_drop, List.length_take]; rfl)) ?_; (with_reducible refine (mask_Least.calls t1250 _ _ t1251 t1254 t1255 t1258 _ ?side1 ?side2 A3.out).mono ?_); (case side1 => repeat (first | exact (Kd.R_reads' HO1253.out).2.2 | (with_reducible refine Kd.C_alloc ?_ _) | (with_reducible refine Kd.C_drewN ?_ _) | (with_reducible refine Kd.C_drew ?_))); (case side2 => exact (Kd.R_reads' HO1253.out).2.1); rintro e w23 ⟨v1256, rfl, ho0, hb⟩; refine ⟨_, rfl, ?_⟩; have n0_ := Aside0.mk (Kd.R_below (by (with_reducible repeat (first | apply Kd.R_alloc | apply Kd.R_drewN | apply Kd.R_drew)); exact HO1253.out) hb); have n1_ := Aside0.mk (Kd.R_lower ho0 (below_size (by repeat (first | (with_reducible first | exact HB.out | apply below_alloc | apply pw_below_drewN | apply below_drew1 | refine below_set ?_ GE1249.out) | exact HB.out)))); have n2_ := Aside0.mk (blk_below (g := gb1249) (o := .cells #[.int .i64 a0_0, .slice A0_1 l0_1.length c0_1, .int .i64 a0_2] 33 (0, 0)) (by (with_reducible repeat (first | refine blk_drewN ?_ _ | refine blk_drew ?_ | refine blk_alloc ?_ _)); exact BK1249.out) hb); have n3_ := Aside0.mk (below_step (by repeat (first | (with_reducible first | exact HB.out | apply below_alloc | apply pw_below_drewN | apply below_drew1 | refine below_set ?_ GE1249.out) | exact HB.out)) hb); clear HO1253; clear BK1249; clear HB; have HO1253 := n0_; have HO1257 := n1_; have BK1249 := n2_; have HB := n3_; clear n0_ n1_ n2_ n3_; (try clear hb); (try clear hb2); (try clear hk); (try clear hi); (try clear ho0); have hcz24_0 : w23.cell? ⟨gb1249, 0, none⟩ = some (.int .i64 a0_0) := (blk_cell BK1249.out 0).trans rfl; have hcz24_1 : w23.cell? ⟨gb1249, 1, none⟩ = some (.slice A0_1 l0_1.length c0_1) := (blk_cell BK1249.out 1).trans rfl; have hcz24_2 : w23.cell? ⟨gb1249, 2, none⟩ = some (.int .i64 a0_2) := (blk_cell BK1249.out 2).trans rfl; have hfz24_0 := blk_frozen BK1249.out 0; have hfz24_1 := blk_frozen BK1249.out 1; have hfz24_2 := blk_frozen BK1249.out 2) | ((with_reducible refine gate_callee (f := 73) rfl ?_); refine goesL_ (some 15) rfl rfl Try.func73 (by kernel_rfl) rfl #[.agg #[.int .i64 a0_0, .slice A0_1 l0_1.length c0_1, .int .i64 a0_2]] rfl (by (try simp only [List.map_toArray, List.map_cons, List.map_nil]); first | done | rfl | (simp only [List.length_drop, List.length_take]; rfl)) ?_; (with_reducible refine (cantingref02_Least.calls k a0_0 _ _ l0_1 a0_2 t1259 t1262 _ ?side1 ?side2 A4.out).mono ?_); (case side1 => repeat (first | exact (Kd.C_below HR0_1.out HB.out) | (with_reducible refine Kd.C_alloc ?_ _) | (with_reducible refine Kd.C_drewN ?_ _) | (with_reducible refine Kd.C_drew ?_))); (case side2 => exact HC0_1.out); rintro e w25 ⟨v1260, rfl, ho0, hb⟩; refine ⟨_, rfl, ?_⟩; have n0_ := Aside0.mk (Kd.R_below (by (with_reducible repeat (first | apply Kd.R_alloc | apply Kd.R_drewN | apply Kd.R_drew)); exact HO1253.out) hb); have n1_ := Aside0.mk (Kd.R_elder' (by (with_reducible repeat (first | apply Kd.R_alloc | apply Kd.R_drewN | apply Kd.R_drew)); exact HO1257.out) (Kd.R_base ho0) hb); have n2_ := Aside0.mk (Kd.R_lower (Kd.R_new' ho0 (Kd.R_lt (by (with_reducible repeat (first | apply Kd.R_alloc | apply Kd.R_drewN | apply Kd.R_drew)); exact HO1257.out))) (below_size (by repeat (first | (with_reducible first | exact HB.out | apply below_alloc | apply pw_below_drewN | apply below_drew1 | refine below_set ?_ GE1249.out) | exact HB.out)))); have n3_ := Aside0.mk (blk_below (g := gb1249) (o := .cells #[.int .i64 a0_0, .slice A0_1 l0_1.length c0_1, .int .i64 a0_2] 33 (0, 0)) (by (with_reducible repeat (first | refine blk_drewN ?_ _ | refine blk_drew ?_ | refine blk_alloc ?_ _)); exact BK1249.out) hb); have n4_ := Aside0.mk (below_step (by repeat (first | (with_reducible first | exact HB.out | apply below_alloc | apply pw_below_drewN | apply below_drew1 | refine below_set ?_ GE1249.out) | exact HB.out)) hb); clear HO1253; clear HO1257; clear BK1249; clear HB; have HO1253 := n0_; have HO1257 := n1_; have HO1261 := n2_; have BK1249 := n3_; have HB := n4_; clear n0_ n1_ n2_ n3_ n4_; (try clear hb); (try clear hb2); (try clear hk); (try clear hi); (try clear ho0); obtain ⟨Ao26, co26, eo26⟩ := Kd.R_slice HO1257.out; subst eo26; obtain ⟨Ao27, co27, eo27⟩ := Kd.R_slice HO1261.out; subst eo27) | ((with_reducible refine gate_callee (f := 66) rfl ?_); refine goesL_ (some 20) rfl rfl Try.func66 (by kernel_rfl) rfl #[.slice Ao26 t1255.length co26, .slice Ao27 t1259.length co27] rfl (by (try simp only [List.map_toArray, List.map_cons, List.map_nil]); first | done | rfl | (simp only [List.length_drop, List.length_take]; rfl)) ?_; (with_reducible refine (slices_Equal_int_int.calls k _ _ t1255 _ _ t1259 true _ ?side1 ?side2 ?side3 ?side4 A5.out).mono ?_); (case side1 => repeat (first | exact (Kd.R_reads' HO1257.out).2.2 | (with_reducible refine Kd.C_alloc ?_ _) | (with_reducible refine Kd.C_drewN ?_ _) | (with_reducible refine Kd.C_drew ?_))); (case side2 => exact (Kd.R_reads' HO1257.out).2.1); (case side3 => repeat (first | exact (Kd.R_reads' HO1261.out).2.2 | (with_reducible refine Kd.C_alloc ?_ _) | (with_reducible refine Kd.C_drewN ?_ _) | (with_reducible refine Kd.C_drew ?_))); (case side4 => exact (Kd.R_reads' HO1261.out).2.1); rintro e w' ⟨rfl, ⟨nd, rfl⟩⟩; refine ⟨_, rfl, ?_⟩))
      go_ret
      exact ⟨by first | rfl | (simp [errW_none, errW_some] <;> rfl) | (simp [*, errW_none, errW_some] <;> rfl), by repeat (first | (with_reducible first | exact HB.out | apply below_alloc | apply pw_below_drewN | apply below_drew1 | refine below_set ?_ GE1249.out) | exact HB.out)⟩
  · replace c6 := Bool.eq_false_iff.mpr c6
    subst c6
    have H1 : (some false) = some r := by rw [if_neg (show ¬ (false = true) by decide)] at H; exact H
    clear H
    have H := H1
    clear H1
    obtain rfl := Option.some.inj H
    go_enter Try.func14, Try.ntmps14
    go_wp2_with (first | ((with_reducible refine gate_dst (N := 1) rfl ?_); refine box_event ?hg (N := 1) ?hd (cs := #[.int .i64 a0_0, .slice A0_1 l0_1.length c0_1, .int .i64 a0_2]) (t := 33) ?hr ?_; (case hd => rfl); (case hg => rfl); (case hr => first | (go_simp; done) | (go_simp; rfl)); intro gb1249 hg w28 hbox hb; have n0_ := Aside0.mk (below_step (by repeat (first | (with_reducible first | exact HB.out | apply below_alloc | apply pw_below_drewN | apply below_drew1) | exact HB.out)) hb); have n1_ := Aside0.mk (hbox); have n2_ := Aside0.mk ((by rw [hg]; exact (below_size (by repeat (first | (with_reducible first | exact HB.out | apply below_alloc | apply pw_below_drewN | apply below_drew1) | exact HB.out))) : w.heap.size ≤ gb1249)); have n3_ := Aside0.mk ((by rw [hg]; exact (below_size (by repeat (first | (with_reducible first | exact HB.out | apply below_alloc | apply pw_below_drewN | apply below_drew1) | exact HB.out))) : w.heap.size ≤ gb1249)); clear HB; have HB := n0_; have BK1249 := n1_; have GW1249 := n2_; have GE1249 := n3_; clear n0_ n1_ n2_ n3_; clear hb hbox hg; have hcz29_0 : w28.cell? ⟨gb1249, 0, none⟩ = some (.int .i64 a0_0) := (blk_cell BK1249.out 0).trans rfl; have hcz29_1 : w28.cell? ⟨gb1249, 1, none⟩ = some (.slice A0_1 l0_1.length c0_1) := (blk_cell BK1249.out 1).trans rfl; have hcz29_2 : w28.cell? ⟨gb1249, 2, none⟩ = some (.int .i64 a0_2) := (blk_cell BK1249.out 2).trans rfl; have hfz29_0 := blk_frozen BK1249.out 0; have hfz29_1 := blk_frozen BK1249.out 1; have hfz29_2 := blk_frozen BK1249.out 2) | ((with_reducible refine gate_callee (f := 30) rfl ?_); refine goesL_ (some 9) rfl rfl Try.func30 (by kernel_rfl) rfl #[.agg #[.int .i64 a0_0, .slice A0_1 l0_1.length c0_1, .int .i64 a0_2]] rfl (by (try simp only [List.map_toArray, List.map_cons, List.map_nil]); first | done | rfl | (simp only [List.length_drop, List.length_take]; rfl)) ?_; (with_reducible refine (cantinglaw02_of.calls k a0_0 _ _ l0_1 a0_2 t1250 t1251 t1254 _ ?side1 ?side2 A2.out).mono ?_); (case side1 => repeat (first | exact (Kd.C_below HR0_1.out HB.out) | (with_reducible refine Kd.C_alloc ?_ _) | (with_reducible refine Kd.C_drewN ?_ _) | (with_reducible refine Kd.C_drew ?_))); (case side2 => exact HC0_1.out); rintro e w30 ⟨v1252, rfl, ho0, hb⟩; refine ⟨_, rfl, ?_⟩; have n0_ := Aside0.mk (Kd.R_lower ho0 (below_size (by repeat (first | (with_reducible first | exact HB.out | apply below_alloc | apply pw_below_drewN | apply below_drew1 | refine below_set ?_ GE1249.out) | exact HB.out)))); have n1_ := Aside0.mk (blk_below (g := gb1249) (o := .cells #[.int .i64 a0_0, .slice A0_1 l0_1.length c0_1, .int .i64 a0_2] 33 (0, 0)) (by (with_reducible repeat (first | refine blk_drewN ?_ _ | refine blk_drew ?_ | refine blk_alloc ?_ _)); exact BK1249.out) hb); have n2_ := Aside0.mk (below_step (by repeat (first | (with_reducible first | exact HB.out | apply below_alloc | apply pw_below_drewN | apply below_drew1 | refine below_set ?_ GE1249.out) | exact HB.out)) hb); clear BK1249; clear HB; have HO1253 := n0_; have BK1249 := n1_; have HB := n2_; clear n0_ n1_ n2_; (try clear hb); (try clear hb2); (try clear hk); (try clear hi); (try clear ho0); obtain ⟨Ao31, co31, eo31⟩ := Kd.R_slice HO1253.out; subst eo31) | ((with_reducible refine gate_callee (f := 72) rfl ?_); refine goesL_ (some 10) rfl rfl Try.func72 (by kernel_rfl) rfl #[.agg #[.int .i64 t1250, .slice Ao31 t1251.length co31, .int .i64 t1254]] rfl (by (try simp only [List.map_toArray, List.map_cons, List.map_nil]); first | done | rfl | (simp only [List.length_drop, List.length_take]; rfl)) ?_; (with_reducible refine (mask_Least.calls t1250 _ _ t1251 t1254 t1255 t1258 _ ?side1 ?side2 A3.out).mono ?_); (case side1 => repeat (first | exact (Kd.R_reads' HO1253.out).2.2 | (with_reducible refine Kd.C_alloc ?_ _) | (with_reducible refine Kd.C_drewN ?_ _) | (with_reducible refine Kd.C_drew ?_))); (case side2 => exact (Kd.R_reads' HO1253.out).2.1); rintro e w32 ⟨v1256, rfl, ho0, hb⟩; refine ⟨_, rfl, ?_⟩; have n0_ := Aside0.mk (Kd.R_below (by (with_reducible repeat (first | apply Kd.R_alloc | apply Kd.R_drewN | apply Kd.R_drew)); exact HO1253.out) hb); have n1_ := Aside0.mk (Kd.R_lower ho0 (below_size (by repeat (first | (with_reducible first | exact HB.out | apply below_alloc | apply pw_below_drewN | apply below_drew1 | refine below_set ?_ GE1249.out) | exact HB.out)))); have n2_ := Aside0.mk (blk_below (g := gb1249) (o := .cells #[.int .i64 a0_0, .slice A0_1 l0_1.length c0_1, .int .i64 a0_2] 33 (0, 0)) (by (with_reducible repeat (first | refine blk_drewN ?_ _ | refine blk_drew ?_ | refine blk_alloc ?_ _)); exact BK1249.out) hb); have n3_ := Aside0.mk (below_step (by repeat (first | (with_reducible first | exact HB.out | apply below_alloc | apply pw_below_drewN | apply below_drew1 | refine below_set ?_ GE1249.out) | exact HB.out)) hb); clear HO1253; clear BK1249; clear HB; have HO1253 := n0_; have HO1257 := n1_; have BK1249 := n2_; have HB := n3_; clear n0_ n1_ n2_ n3_; (try clear hb); (try clear hb2); (try clear hk); (try clear hi); (try clear ho0); have hcz33_0 : w32.cell? ⟨gb1249, 0, none⟩ = some (.int .i64 a0_0) := (blk_cell BK1249.out 0).trans rfl; have hcz33_1 : w32.cell? ⟨gb1249, 1, none⟩ = some (.slice A0_1 l0_1.length c0_1) := (blk_cell BK1249.out 1).trans rfl; have hcz33_2 : w32.cell? ⟨gb1249, 2, none⟩ = some (.int .i64 a0_2) := (blk_cell BK1249.out 2).trans rfl; have hfz33_0 := blk_frozen BK1249.out 0; have hfz33_1 := blk_frozen BK1249.out 1; have hfz33_2 := blk_frozen BK1249.out 2) | ((with_reducible refine gate_callee (f := 73) rfl ?_); refine goesL_ (some 15) rfl rfl Try.func73 (by kernel_rfl) rfl #[.agg #[.int .i64 a0_0, .slice A0_1 l0_1.length c0_1, .int .i64 a0_2]] rfl (by (try simp only [List.map_toArray, List.map_cons, List.map_nil]); first | done | rfl | (simp only [List.length_drop, List.length_take]; rfl)) ?_; (with_reducible refine (cantingref02_Least.calls k a0_0 _ _ l0_1 a0_2 t1259 t1262 _ ?side1 ?side2 A4.out).mono ?_); (case side1 => repeat (first | exact (Kd.C_below HR0_1.out HB.out) | (with_reducible refine Kd.C_alloc ?_ _) | (with_reducible refine Kd.C_drewN ?_ _) | (with_reducible refine Kd.C_drew ?_))); (case side2 => exact HC0_1.out); rintro e w34 ⟨v1260, rfl, ho0, hb⟩; refine ⟨_, rfl, ?_⟩; have n0_ := Aside0.mk (Kd.R_below (by (with_reducible repeat (first | apply Kd.R_alloc | apply Kd.R_drewN | apply Kd.R_drew)); exact HO1253.out) hb); have n1_ := Aside0.mk (Kd.R_elder' (by (with_reducible repeat (first | apply Kd.R_alloc | apply Kd.R_drewN | apply Kd.R_drew)); exact HO1257.out) (Kd.R_base ho0) hb); have n2_ := Aside0.mk (Kd.R_lower (Kd.R_new' ho0 (Kd.R_lt (by (with_reducible repeat (first | apply Kd.R_alloc | apply Kd.R_drewN | apply Kd.R_drew)); exact HO1257.out))) (below_size (by repeat (first | (with_reducible first | exact HB.out | apply below_alloc | apply pw_below_drewN | apply below_drew1 | refine below_set ?_ GE1249.out) | exact HB.out)))); have n3_ := Aside0.mk (blk_below (g := gb1249) (o := .cells #[.int .i64 a0_0, .slice A0_1 l0_1.length c0_1, .int .i64 a0_2] 33 (0, 0)) (by (with_reducible repeat (first | refine blk_drewN ?_ _ | refine blk_drew ?_ | refine blk_alloc ?_ _)); exact BK1249.out) hb); have n4_ := Aside0.mk (below_step (by repeat (first | (with_reducible first | exact HB.out | apply below_alloc | apply pw_below_drewN | apply below_drew1 | refine below_set ?_ GE1249.out) | exact HB.out)) hb); clear HO1253; clear HO1257; clear BK1249; clear HB; have HO1253 := n0_; have HO1257 := n1_; have HO1261 := n2_; have BK1249 := n3_; have HB := n4_; clear n0_ n1_ n2_ n3_ n4_; (try clear hb); (try clear hb2); (try clear hk); (try clear hi); (try clear ho0); obtain ⟨Ao35, co35, eo35⟩ := Kd.R_slice HO1257.out; subst eo35; obtain ⟨Ao36, co36, eo36⟩ := Kd.R_slice HO1261.out; subst eo36) | ((with_reducible refine gate_callee (f := 66) rfl ?_); refine goesL_ (some 20) rfl rfl Try.func66 (by kernel_rfl) rfl #[.slice Ao35 t1255.length co35, .slice Ao36 t1259.length co36] rfl (by (try simp only [List.map_toArray, List.map_cons, List.map_nil]); first | done | rfl | (simp only [List.length_drop, List.length_take]; rfl)) ?_; (with_reducible refine (slices_Equal_int_int.calls k _ _ t1255 _ _ t1259 false _ ?side1 ?side2 ?side3 ?side4 A5.out).mono ?_); (case side1 => repeat (first | exact (Kd.R_reads' HO1257.out).2.2 | (with_reducible refine Kd.C_alloc ?_ _) | (with_reducible refine Kd.C_drewN ?_ _) | (with_reducible refine Kd.C_drew ?_))); (case side2 => exact (Kd.R_reads' HO1257.out).2.1); (case side3 => repeat (first | exact (Kd.R_reads' HO1261.out).2.2 | (with_reducible refine Kd.C_alloc ?_ _) | (with_reducible refine Kd.C_drewN ?_ _) | (with_reducible refine Kd.C_drew ?_))); (case side4 => exact (Kd.R_reads' HO1261.out).2.1); rintro e w' ⟨rfl, ⟨nd, rfl⟩⟩; refine ⟨_, rfl, ?_⟩))
    go_ret
    exact ⟨by first | rfl | (simp [errW_none, errW_some] <;> rfl) | (simp [*, errW_none, errW_some] <;> rfl), by repeat (first | (with_reducible first | exact HB.out | apply below_alloc | apply pw_below_drewN | apply below_drew1 | refine below_set ?_ GE1249.out) | exact HB.out)⟩
end Go.Proofs.Ytlplphgoldkoeaa.X
end

section
set_option linter.unusedVariables false
set_option linter.unusedSimpArgs false
namespace Go.Proofs.Ytlplphgoldkoeaa.HTab
open Go.RowKit Go.Proofs.YtlplphgoldkoeaaW.PrintWords Go.Proofs.YtlplphgoldkoeaaW.PrintLast Go.Proofs.YtlplphgoldkoeaaW.PrintMore Go.Proofs.Ytlplphgoldkoeaa.HMap Go.Proofs.Ytlplphgoldkoeaa.X
set_option linter.unusedVariables false
set_option linter.unusedSimpArgs false
theorem rleast_f {v r : Int} {k1 : List S106} (h : VM v (k1.map ofR) r) (fu : Nat) (hf : 10000100 ≤ fu) : cantingref02_Least.f fu v k1 r = some (ansL (bestT v.toNat (tab v (k1.map ofR) r))) := by
  have v0 := h.v0
  have v12 := h.v12
  unfold cantingref02_Least.f cantingref02_Valid.f
  rw [vmB_true h]
  simp only [Option.bind_some, if_true]
  rw [table_f v k1 r v12 (by have := h.ofL.2; omega) h.wf.wo h.pl fu (by omega)]
  simp only [Option.bind_some]
  obtain ⟨n, rfl⟩ := Int.eq_ofNat_of_zero_le v0
  exact lea_l0 n (by omega) _ (tab_length _ _ _) k1 r n 0 fu (by omega) (by omega)
theorem rleast_err {v r : Int} {k1 : List S106} (h : ¬ VM v (k1.map ofR) r) (fu : Nat) : cantingref02_Least.f fu v k1 r = some ([], 2) := by
  unfold cantingref02_Least.f cantingref02_Valid.f
  rw [vmB_false h]
  rfl
theorem least_k (v r : Int) (k1 : List S106) (hk1 : k1.length < 10000000000000) (K : Nat) (hK : 10000100 ≤ K) : cantinglaw02_MaskLeast.f K v k1 r = some true := by
  have ho := of_f k1 v r hk1 K (by omega)
  have hol := ofL_len k1
  have aw := awake_f K (by omega)
  have fin : ∀ a : List Int, a.length ≤ 12 → ∀ e : Int, (slices_Equal_int_int.f K a a).bind (fun t => if t = true then (if e = e then (cantinglaw02_awake.f K).bind fun t1 => some t1 else some false) else some false) = some true := fun a ha e => by
    rw [equalI_f a (by omega) K (by omega), aw]
    simp
  unfold cantinglaw02_MaskLeast.f
  rw [ho]
  simp only [Option.bind_some]
  by_cases h : VM v (ofL k1) r
  · have hV := ofL_vm.1 h
    have v12 := h.v12
    have v0 := h.v0
    have hk := hV.ofL
    rw [hk.1, rleast_f hV K hK]
    by_cases hr : r = 0
    · subst hr
      rw [least_f0 hV]
      have e : tab v (k1.map ofR) 0 = List.replicate (2 ^ v.toNat) false := by
        unfold tab
        rw [den_leaf hV.wf v.toNat 0 (by rw [TM_vars]; omega) (by decide)]
        rfl
      rw [e, bestT_false]
      exact fin [] (by simp) 7
    · obtain ⟨a, ha, hf⟩ := least_f hV hr
      obtain ⟨i1, i2, i3, i4⟩ := best_in _ _ a (tab_length _ _ _) ha
      rw [hf, ha]
      exact fin a.2 (by omega) 0
  · rw [least_f2 h (by omega), rleast_err (fun q => h (ofL_vm.2 q))]
    exact fin [] (by simp) 2
theorem mleast_f (v r : Int) (k1 : List S106) (hk1 : k1.length < 10000000000000) : cantinglaw02_MaskLeast.f 10000100 v k1 r = some true := least_k v r k1 hk1 10000100 (Nat.le_refl _)
end Go.Proofs.Ytlplphgoldkoeaa.HTab
end

section
set_option linter.unusedVariables false
set_option linter.unusedSimpArgs false
namespace Go.Proofs.Ytlplphgoldkoeaa.maskLeast
open Go.ChangeShapes Go.WideShapes Go.ChangeAt Go.RowKit Go.Proofs.YtlplphgoldkoeaaW.PrintWords Go.Proofs.Ytlplphgoldkoeaa.HTab Go.Proofs.Ytlplphgoldkoeaa.X
open Go.ChangeMaps (open_string shut_string)
set_option linter.unusedVariables false
theorem own : ownKnob Try.prog.godebug = none := by kernel_rfl
theorem laidOut : laidOutB Try.prog = true := by kernel_rfl
set_option maxRecDepth 100000 in
theorem lifted (os : Os) (started : os.Started) (H : Type) (enc : TypeId × Value → H) :
    ReturnsInHanded {} Try.checked os 14 .any (Rows.maskLeastSpec.pre6 enc Try.prog Try.f14 Rows.maskLeastRow.domain false) (Rows.maskLeastSpec.post enc Try.prog Try.f14 false true false false) := by
  refine returnsInHanded_of_change_sized (C := Try.checked) own started (by kernel_rfl) Try.func14
    (ChangeSpec.witness6 (enc := enc) (C := Try.checked) false ⟨#[], #[.agg #[.int .i64 0, .slice none 0 0, .int .i64 0]], []⟩ 8 (by kernel_rfl) (by kernel_rfl) (by kernel_rfl) (by kernel_rfl)) ?_
  intro W base args ds gs before hval0 hW hcnd hsz0 _
  have hsz : (DataW.weightsEach Try.prog (Try.f14.params.toList ++ Rows.maskLeastSpec.plain.varTypes Try.prog) (ds ++ gs)).all (· ≤ reachBytes) = true := hsz0
  have hval : ∀ (j : Nat) t v, Try.f14.params[j]? = some t → args[j]? = some v → Value.okWide Try.prog W .any base t v := hval0
  have hW' := hW
  obtain ⟨p, q, hA0, hV, rfl, hfz, hnd⟩ := hW
  have hA : DataW.TrodAll enc Try.prog W 0 (fun _ => true) true Try.f14.params.toList args.toList ds p := hA0
  rw [Try.params14] at hA hval hsz
  obtain ⟨v0, vs0, d0, ds0, p0, q0, hargs, rfl, rfl, h0, r0⟩ := trodAll_cons hA
  obtain ⟨rfl, rfl, rfl⟩ := trodAll_nil r0
  obtain rfl : args = #[v0] := by cases args; simp_all
  obtain ⟨rfl, rfl⟩ := trodVars_none hV
  have k0 := h0
  have lt0 : ∀ x ∈ p0, x.block < W.heap.size := by obtain ⟨m, hm⟩ := k0; exact DataW.trod_lt m _ _ _ hm
  obtain ⟨n0, A0, c0, l0, r0_, rfl, C0, L0, B0, wn0, wr0⟩ := open_mask (hval 0 33 v0 rfl rfl) h0 hsz (j := 0) rfl rfl
  clear hA0 hval0 hsz0 hsz
  refine ((cantinglaw02_MaskLeast.calls 10000100 n0 A0 c0 l0 r0_ true W C0 L0 (mleast_f n0 r0_ l0 B0))).mono fun e W' ⟨he, bel⟩ => ?_
  subst he
  exact ⟨_, rfl, _, _, _, [], _, [], hW', trodAll_mk1 (shut_bool Try.underlying4 _), (trodAll_cons_mk (Below.trod laidOut (by kernel_rfl) (of_decide_eq_true (by kernel_rfl)) k0 bel lt0) trodAll_mk0), rfl, bel.frame _, fun h => by cases h⟩
theorem over : Rows.maskLeastRow.holds Try.pinned (OpenSpec.ofChange Rows.maskLeastSpec) :=
  OpenClaim.holds_of_wide 14 Try.f14 rfl rfl rfl rfl rfl rfl rfl ⟨rfl, rfl, rfl, rfl, rfl⟩ rfl rfl rfl rfl rfl (by kernel_rfl) Try.func14 (by kernel_rfl)
    (of_decide_eq_true (by kernel_rfl)) (by unfold Func.isWrapper; first | (rw [if_pos (by decide +kernel)]; kernel_rfl) | (rw [if_neg (by decide +kernel)]; exact ⟨rfl, rfl⟩))
    (fun os started H enc _ => lifted os started H enc)
theorem proved : Rows.MaskLeastSaid := over
end Go.Proofs.Ytlplphgoldkoeaa.maskLeast
namespace Go.Proofs.Ytlplphgoldkoeaa
theorem maskLeast_holds : Rows.MaskLeastSaid := maskLeast.proved
end Go.Proofs.Ytlplphgoldkoeaa
#print axioms Go.Proofs.Ytlplphgoldkoeaa.maskLeast_holds
end
