/- Lemmas of the masks: part Bzj. -/
import Derived.Test.YtlplphgoldkoeaaBp
import Derived.Test.YtlplphgoldkoeaaBzb
import Derived.Test.YtlplphgoldkoeaaBc
section
set_option linter.unusedVariables false
set_option linter.unusedSimpArgs false
namespace Go.Proofs.Ytlplphgoldkoeaa.HTab
open Go.RowKit Go.Proofs.YtlplphgoldkoeaaW.PrintWords Go.Proofs.YtlplphgoldkoeaaW.PrintLast Go.Proofs.YtlplphgoldkoeaaW.PrintMore Go.Proofs.Ytlplphgoldkoeaa.HMap Go.Proofs.Ytlplphgoldkoeaa.X
set_option linter.unusedVariables false
set_option linter.unusedSimpArgs false
abbrev Wd := Option (Int × List Int)
def lexLt : List Int → List Int → Bool
  | [], [] => false
  | [], _ :: _ => true
  | _ :: _, [] => false
  | x :: a, y :: b => decide (x < y) || (x == y && lexLt a b)
def betterW : Wd → Wd → Bool
  | _, none => true
  | none, some _ => false
  | some a, some b => decide (b.1 < a.1) || (a.1 == b.1 && lexLt a.2 b.2)
def extW (x : Int) : Wd → Wd
  | none => none
  | some a => some (if x = 2 then a.1 + 1 else a.1, x :: a.2)
def pickW (b : Wd) : Wd → Wd
  | none => b
  | some a => if betterW (some a) b then some a else b
def andL (a b : List Bool) : List Bool := iteL a b (List.replicate a.length false)
def bestT : Nat → List Bool → Wd
  | 0, t => if t.getD 0 false then some (0, []) else none
  | k + 1, t => pickW (pickW (pickW none (extW 0 (bestT k (t.take (2 ^ k))))) (extW 1 (bestT k (t.drop (2 ^ k))))) (extW 2 (bestT k (andL (t.take (2 ^ k)) (t.drop (2 ^ k)))))
theorem iteL_rep (n : Nat) : iteL (List.replicate n false) (List.replicate n false) (List.replicate n false) = List.replicate n false := by
  induction n with
  | zero => rfl
  | succ n ih => rw [List.replicate_succ]; simp only [iteL]; rw [ih]; rfl
theorem bestT_false : ∀ k : Nat, bestT k (List.replicate (2 ^ k) false) = none
  | 0 => by simp [bestT]
  | k + 1 => by
    have h1 : (List.replicate (2 ^ (k + 1)) false).take (2 ^ k) = List.replicate (2 ^ k) false := by
      rw [List.take_replicate, Nat.min_eq_left (by rw [Nat.pow_succ]; omega)]
    have h2 : (List.replicate (2 ^ (k + 1)) false).drop (2 ^ k) = List.replicate (2 ^ k) false := by
      rw [List.drop_replicate, Nat.pow_succ]; congr 1; omega
    simp only [bestT]
    rw [h1, h2, bestT_false k]
    unfold andL
    rw [List.length_replicate, iteL_rep, bestT_false k]
    rfl
theorem bestT_len : ∀ (k : Nat) (t : List Bool) (a : Int × List Int), bestT k t = some a → a.2.length = k ∧ 0 ≤ a.1 ∧ a.1 ≤ k
  | 0, t, a, h => by
    simp only [bestT] at h
    split at h
    · injection h with h; subst h; exact ⟨rfl, by decide, by decide⟩
    · cases h
  | k + 1, t, a, h => by
    have ext : ∀ (x : Int) (u : List Bool) (b : Int × List Int), extW x (bestT k u) = some b → b.2.length = k + 1 ∧ 0 ≤ b.1 ∧ b.1 ≤ ((k + 1 : Nat) : Int) := fun x u b hb => by
      cases hu : bestT k u with
      | none => rw [hu] at hb; cases hb
      | some c =>
        rw [hu] at hb
        have := bestT_len k u c hu
        injection hb with hb
        subst hb
        refine ⟨by simp [this.1], ?_, ?_⟩ <;> (dsimp only; split <;> omega)
    have pick : ∀ (b c : Wd) (r : Int × List Int), pickW b c = some r → b = some r ∨ c = some r := fun b c r hr => by
      cases c with
      | none => exact .inl hr
      | some c =>
        simp only [pickW] at hr
        split at hr
        · exact .inr hr
        · exact .inl hr
    simp only [bestT] at h
    rcases pick _ _ _ h with h | h
    · rcases pick _ _ _ h with h | h
      · rcases pick _ _ _ h with h | h
        · cases h
        · exact ext _ _ _ h
      · exact ext _ _ _ h
    · exact ext _ _ _ h
end Go.Proofs.Ytlplphgoldkoeaa.HTab
end

section
set_option linter.unusedVariables false
set_option linter.unusedSimpArgs false
namespace Go.Proofs.Ytlplphgoldkoeaa.HTab
open Go.RowKit Go.Proofs.YtlplphgoldkoeaaW.PrintWords Go.Proofs.YtlplphgoldkoeaaW.PrintLast Go.Proofs.YtlplphgoldkoeaaW.PrintMore Go.Proofs.Ytlplphgoldkoeaa.HMap Go.Proofs.Ytlplphgoldkoeaa.X
set_option linter.unusedVariables false
set_option linter.unusedSimpArgs false
def memP : List Int → Nat → Bool
  | [], _ => true
  | x :: c, P => (x == 2 || ((x == 1) == bitN P c.length)) && memP c P
def Insd (t : List Bool) (c : List Int) : Prop := ∀ P, P < 2 ^ c.length → memP c P = true → t.getD P false = true
def Dig (c : List Int) : Prop := ∀ x ∈ c, x = 0 ∨ x = 1 ∨ x = 2
def freeC : List Int → Int
  | [] => 0
  | x :: c => if x = 2 then freeC c + 1 else freeC c
def leW (a b : Int × List Int) : Prop := b.1 < a.1 ∨ (a.1 = b.1 ∧ lexLt b.2 a.2 = false)
theorem lex_self : ∀ a : List Int, lexLt a a = false
  | [] => rfl
  | x :: a => by simp [lexLt, lex_self a]
theorem lex_asymm : ∀ a b : List Int, lexLt a b = true → lexLt b a = false
  | [], [], h => by simp [lexLt] at h
  | [], y :: b, h => rfl
  | x :: a, [], h => by simp [lexLt] at h
  | x :: a, y :: b, h => by
    simp only [lexLt, Bool.or_eq_true, decide_eq_true_eq, Bool.and_eq_true, beq_iff_eq] at h
    have ih := lex_asymm a b
    simp only [lexLt, Bool.or_eq_false_iff, decide_eq_false_iff_not, Bool.and_eq_false_iff, beq_eq_false_iff_ne, ne_eq]
    rcases h with h | ⟨h, h2⟩
    · exact ⟨by omega, .inl (by omega)⟩
    · exact ⟨by omega, .inr (ih h2)⟩
theorem lex_between : ∀ x y z : List Int, lexLt x z = true → lexLt x y = true ∨ lexLt y z = true
  | [], y, [], h => by simp [lexLt] at h
  | x :: a, y, [], h => by simp [lexLt] at h
  | [], [], z :: c, h => .inr rfl
  | [], y :: b, z :: c, h => .inl rfl
  | x :: a, [], z :: c, h => .inr rfl
  | x :: a, y :: b, z :: c, h => by
    simp only [lexLt, Bool.or_eq_true, decide_eq_true_eq, Bool.and_eq_true, beq_iff_eq] at h ⊢
    rcases h with h | ⟨h, h2⟩
    · by_cases q : x < y
      · exact .inl (.inl q)
      · exact .inr (.inl (by omega))
    · subst h
      rcases lex_between a b c h2 with h3 | h3
      · by_cases q : x < y
        · exact .inl (.inl q)
        · by_cases q2 : y < x
          · exact .inr (.inl q2)
          · exact .inl (.inr ⟨by omega, h3⟩)
      · by_cases q : x < y
        · exact .inl (.inl q)
        · by_cases q2 : y < x
          · exact .inr (.inl q2)
          · exact .inr (.inr ⟨by omega, h3⟩)
theorem leW_refl (a : Int × List Int) : leW a a := .inr ⟨rfl, lex_self _⟩
theorem leW_trans {a b c : Int × List Int} (h1 : leW a b) (h2 : leW b c) : leW a c := by
  unfold leW at *
  rcases h1 with h1 | ⟨h1, g1⟩
  · rcases h2 with h2 | ⟨h2, g2⟩
    · exact .inl (by omega)
    · exact .inl (by omega)
  · rcases h2 with h2 | ⟨h2, g2⟩
    · exact .inl (by omega)
    · refine .inr ⟨by omega, ?_⟩
      cases h : lexLt c.2 a.2 with
      | false => rfl
      | true =>
        rcases lex_between c.2 b.2 a.2 h with q | q
        · rw [q] at g2; cases g2
        · rw [q] at g1; cases g1
theorem pick_l {b c : Wd} {a : Int × List Int} (h : b = some a) : ∃ r, pickW b c = some r ∧ leW r a := by
  subst h
  cases c with
  | none => exact ⟨a, rfl, leW_refl a⟩
  | some x =>
    simp only [pickW]
    cases hb : betterW (some x) (some a) with
    | false => exact ⟨a, by simp, leW_refl a⟩
    | true =>
      refine ⟨x, by simp, ?_⟩
      simp only [betterW, Bool.or_eq_true, decide_eq_true_eq, Bool.and_eq_true, beq_iff_eq] at hb
      rcases hb with hb | ⟨hb, hb2⟩
      · exact .inl hb
      · exact .inr ⟨hb, lex_asymm _ _ hb2⟩
theorem pick_r {b c : Wd} {a : Int × List Int} (h : c = some a) : ∃ r, pickW b c = some r ∧ leW r a := by
  subst h
  simp only [pickW]
  cases b with
  | none => exact ⟨a, by simp [betterW], leW_refl a⟩
  | some y =>
    cases hb : betterW (some a) (some y) with
    | true => exact ⟨a, by simp, leW_refl a⟩
    | false =>
      refine ⟨y, by simp, ?_⟩
      simp only [betterW, Bool.or_eq_false_iff, decide_eq_false_iff_not, Bool.and_eq_false_iff, beq_eq_false_iff_ne, ne_eq] at hb
      obtain ⟨h1, h2⟩ := hb
      by_cases q : a.1 = y.1
      · rcases h2 with h2 | h2
        · exact absurd q h2
        · exact .inr ⟨q.symm, h2⟩
      · exact .inl (by omega)
theorem ext_le {x : Int} {o : Wd} {a : Int × List Int} {c : List Int} (h : o = some a) (hle : leW a (freeC c, c)) : ∃ r, extW x o = some r ∧ leW r (freeC (x :: c), x :: c) := by
  subst h
  refine ⟨_, rfl, ?_⟩
  unfold leW at *
  dsimp only [freeC] at *
  rcases hle with h | ⟨h, h2⟩
  · left
    split <;> omega
  · right
    refine ⟨by rw [h], ?_⟩
    simp only [lexLt]
    rw [h2]
    simp
theorem bit_low {P k : Nat} (h : P < 2 ^ k) : bitN P k = false := Nat.testBit_lt_two_pow h
theorem bit_add {P k : Nat} (h : P < 2 ^ k) : bitN (2 ^ k + P) k = true := by
  unfold bitN
  rw [Nat.testBit_two_pow_add_eq, Nat.testBit_lt_two_pow h]
  rfl
theorem bit_add_lt {P k j : Nat} (h : j < k) : bitN (2 ^ k + P) j = bitN P j := by
  unfold bitN
  rw [Nat.testBit_two_pow_add_gt h]
theorem mem_add (k P : Nat) : ∀ c : List Int, c.length ≤ k → memP c (2 ^ k + P) = memP c P
  | [], h => rfl
  | x :: c, h => by
    simp only [List.length_cons] at h
    simp only [memP]
    rw [bit_add_lt (by omega), mem_add k P c (by omega)]
theorem half_len {t : List Bool} {k : Nat} (h : t.length = 2 ^ (k + 1)) : (t.take (2 ^ k)).length = 2 ^ k ∧ (t.drop (2 ^ k)).length = 2 ^ k := by
  have := Nat.two_pow_pos k
  rw [Nat.pow_succ] at h
  constructor
  · rw [List.length_take]; omega
  · rw [List.length_drop]; omega
theorem take_at (t : List Bool) {m P : Nat} (h : P < m) : (t.take m).getD P false = t.getD P false := by
  simp [List.getD, List.getElem?_take, h]
theorem drop_at (t : List Bool) (m P : Nat) : (t.drop m).getD P false = t.getD (m + P) false := by
  simp [List.getD, List.getElem?_drop]
theorem and_at (a b : List Bool) (h : a.length = b.length) (P : Nat) (hP : P < a.length) : (andL a b).getD P false = (a.getD P false && b.getD P false) := by
  unfold andL
  have e : (List.replicate a.length false).getD P false = false := by
    simp [List.getD, List.getElem?_replicate, hP]
  rw [iteL_get a b _ P hP h (by simp), e]
  cases a.getD P false <;> simp
theorem and_len (a b : List Bool) (h : a.length = b.length) : (andL a b).length = a.length := iteL_length _ _ _ h (by simp)
theorem ins_zero (t : List Bool) (c : List Int) : Insd t (0 :: c) ↔ Insd (t.take (2 ^ c.length)) c := by
  constructor
  · intro h P hP hm
    rw [take_at t hP]
    exact h P (by simp only [List.length_cons, Nat.pow_succ]; omega) (by simp only [memP]; rw [bit_low hP, hm]; rfl)
  · intro h P hP hm
    simp only [memP, Bool.and_eq_true] at hm
    by_cases q : P < 2 ^ c.length
    · rw [← take_at t q]
      exact h P q hm.2
    · simp only [List.length_cons, Nat.pow_succ] at hP
      obtain ⟨Q, rfl⟩ : ∃ Q, P = 2 ^ c.length + Q := ⟨P - 2 ^ c.length, by omega⟩
      have := hm.1
      rw [bit_add (by omega)] at this
      simp at this
theorem ins_one (t : List Bool) (c : List Int) : Insd t (1 :: c) ↔ Insd (t.drop (2 ^ c.length)) c := by
  constructor
  · intro h P hP hm
    rw [drop_at]
    exact h _ (by simp only [List.length_cons, Nat.pow_succ]; omega) (by simp only [memP]; rw [bit_add hP, mem_add _ _ _ (Nat.le_refl _), hm]; rfl)
  · intro h P hP hm
    simp only [memP, Bool.and_eq_true] at hm
    by_cases q : P < 2 ^ c.length
    · have := hm.1
      rw [bit_low q] at this
      simp at this
    · simp only [List.length_cons, Nat.pow_succ] at hP
      obtain ⟨Q, rfl⟩ : ∃ Q, P = 2 ^ c.length + Q := ⟨P - 2 ^ c.length, by omega⟩
      rw [← drop_at]
      exact h Q (by omega) (by rw [← mem_add c.length Q c (Nat.le_refl _)]; exact hm.2)
theorem ins_two (t : List Bool) (c : List Int) : Insd t (2 :: c) ↔ Insd t (0 :: c) ∧ Insd t (1 :: c) := by
  constructor
  · intro h
    refine ⟨fun P hP hm => h P hP ?_, fun P hP hm => h P hP ?_⟩
    · simp only [memP, Bool.and_eq_true] at hm ⊢; exact ⟨rfl, hm.2⟩
    · simp only [memP, Bool.and_eq_true] at hm ⊢; exact ⟨rfl, hm.2⟩
  · rintro ⟨h0, h1⟩ P hP hm
    simp only [memP, Bool.and_eq_true] at hm
    cases hb : bitN P c.length with
    | false => exact h0 P hP (by simp only [memP]; rw [hb, hm.2]; rfl)
    | true => exact h1 P hP (by simp only [memP]; rw [hb, hm.2]; rfl)
theorem ins_and (t : List Bool) (c : List Int) (h : t.length = 2 ^ (c.length + 1)) : Insd t (2 :: c) ↔ Insd (andL (t.take (2 ^ c.length)) (t.drop (2 ^ c.length))) c := by
  obtain ⟨h1, h2⟩ := half_len h
  rw [ins_two, ins_zero, ins_one]
  constructor
  · rintro ⟨g1, g2⟩ P hP hm
    rw [and_at _ _ (by omega) P (by omega), g1 P hP hm, g2 P hP hm]
    rfl
  · intro g
    have e : ∀ P, P < 2 ^ c.length → memP c P = true → (t.take (2 ^ c.length)).getD P false = true ∧ (t.drop (2 ^ c.length)).getD P false = true := fun P hP hm => by
      have := g P hP hm
      rw [and_at _ _ (by omega) P (by omega)] at this
      simpa using this
    exact ⟨fun P hP hm => (e P hP hm).1, fun P hP hm => (e P hP hm).2⟩
theorem best_max : ∀ (k : Nat) (t : List Bool) (c : List Int), t.length = 2 ^ k → c.length = k → Dig c → Insd t c → ∃ a, bestT k t = some a ∧ leW a (freeC c, c)
  | 0, t, c, ht, hc, hd, hi => by
    have e : c = [] := by cases c with | nil => rfl | cons x c => simp at hc
    subst e
    have := hi 0 (by simp) rfl
    refine ⟨(0, []), ?_, leW_refl _⟩
    simp only [bestT]
    rw [this]
    rfl
  | k + 1, t, [], ht, hc, hd, hi => by simp at hc
  | k + 1, t, x :: c, ht, hc, hd, hi => by
    simp only [List.length_cons, Nat.add_right_cancel_iff] at hc
    subst hc
    obtain ⟨h1, h2⟩ := half_len ht
    have hdc : Dig c := fun y hy => hd y (List.mem_cons_of_mem _ hy)
    simp only [bestT]
    rcases hd x (List.mem_cons_self ..) with hx | hx | hx
    · subst hx
      obtain ⟨a, ha, hl⟩ := best_max c.length (t.take (2 ^ c.length)) c h1 rfl hdc ((ins_zero t c).1 hi)
      obtain ⟨r, hr, hr2⟩ := ext_le (x := 0) ha hl
      obtain ⟨r1, q1, p1⟩ := pick_r (b := none) hr
      obtain ⟨r2, q2, p2⟩ := pick_l (c := extW 1 (bestT c.length (t.drop (2 ^ c.length)))) q1
      obtain ⟨r3, q3, p3⟩ := pick_l (c := extW 2 (bestT c.length (andL (t.take (2 ^ c.length)) (t.drop (2 ^ c.length))))) q2
      exact ⟨r3, q3, leW_trans p3 (leW_trans p2 (leW_trans p1 hr2))⟩
    · subst hx
      obtain ⟨a, ha, hl⟩ := best_max c.length (t.drop (2 ^ c.length)) c h2 rfl hdc ((ins_one t c).1 hi)
      obtain ⟨r, hr, hr2⟩ := ext_le (x := 1) ha hl
      obtain ⟨r2, q2, p2⟩ := pick_r (b := pickW none (extW 0 (bestT c.length (t.take (2 ^ c.length))))) hr
      obtain ⟨r3, q3, p3⟩ := pick_l (c := extW 2 (bestT c.length (andL (t.take (2 ^ c.length)) (t.drop (2 ^ c.length))))) q2
      exact ⟨r3, q3, leW_trans p3 (leW_trans p2 hr2)⟩
    · subst hx
      obtain ⟨a, ha, hl⟩ := best_max c.length (andL (t.take (2 ^ c.length)) (t.drop (2 ^ c.length))) c (by rw [and_len _ _ (by omega)]; exact h1) rfl hdc ((ins_and t c ht).1 hi)
      obtain ⟨r, hr, hr2⟩ := ext_le (x := 2) ha hl
      obtain ⟨r3, q3, p3⟩ := pick_r (b := pickW (pickW none (extW 0 (bestT c.length (t.take (2 ^ c.length))))) (extW 1 (bestT c.length (t.drop (2 ^ c.length))))) hr
      exact ⟨r3, q3, leW_trans p3 hr2⟩
theorem pickW_some {b c : Wd} {r : Int × List Int} (hr : pickW b c = some r) : b = some r ∨ c = some r := by
  cases c with
  | none => exact .inl hr
  | some c =>
    simp only [pickW] at hr
    split at hr
    · exact .inr hr
    · exact .inl hr
theorem best_in : ∀ (k : Nat) (t : List Bool) (a : Int × List Int), t.length = 2 ^ k → bestT k t = some a → a.2.length = k ∧ Dig a.2 ∧ Insd t a.2 ∧ a.1 = freeC a.2
  | 0, t, a, ht, h => by
    simp only [bestT] at h
    split at h
    · rename_i h0
      injection h with h
      subst h
      refine ⟨rfl, fun x hx => by simp at hx, fun P hP _ => ?_, rfl⟩
      have : P = 0 := by simpa using hP
      rw [this]; exact h0
    · cases h
  | k + 1, t, a, ht, h => by
    obtain ⟨h1, h2⟩ := half_len ht
    have ext : ∀ (x : Int) (u : List Bool) (b : Int × List Int), u.length = 2 ^ k → (x = 0 ∨ x = 1 ∨ x = 2) → (∀ c : List Int, c.length = k → Insd u c → Insd t (x :: c)) → extW x (bestT k u) = some b → b.2.length = k + 1 ∧ Dig b.2 ∧ Insd t b.2 ∧ b.1 = freeC b.2 := fun x u b hu hx hin hb => by
      cases hbu : bestT k u with
      | none => rw [hbu] at hb; cases hb
      | some c =>
        rw [hbu] at hb
        obtain ⟨i1, i2, i3, i4⟩ := best_in k u c hu hbu
        injection hb with hb
        subst hb
        refine ⟨by simp [i1], fun y hy => ?_, hin _ i1 i3, ?_⟩
        · rcases List.mem_cons.1 hy with e | e
          · rw [e]; exact hx
          · exact i2 y e
        · simp only [freeC]; rw [i4]
    simp only [bestT] at h
    rcases pickW_some h with h | h
    · rcases pickW_some h with h | h
      · rcases pickW_some h with h | h
        · cases h
        · exact ext 0 _ _ h1 (.inl rfl) (fun c hc hi => (ins_zero t c).2 (by rw [hc]; exact hi)) h
      · exact ext 1 _ _ h2 (.inr (.inl rfl)) (fun c hc hi => (ins_one t c).2 (by rw [hc]; exact hi)) h
    · exact ext 2 _ _ (by rw [and_len _ _ (by omega)]; exact h1) (.inr (.inr rfl)) (fun c hc hi => (ins_and t c (by rw [hc]; exact ht)).2 (by rw [hc]; exact hi)) h
theorem best_some : ∀ (k : Nat) (t : List Bool) (P : Nat), t.length = 2 ^ k → P < 2 ^ k → t.getD P false = true → ∃ a, bestT k t = some a
  | 0, t, P, ht, hP, h => by
    have : P = 0 := by simpa using hP
    subst this
    exact ⟨(0, []), by simp only [bestT]; rw [h]; rfl⟩
  | k + 1, t, P, ht, hP, h => by
    obtain ⟨h1, h2⟩ := half_len ht
    simp only [bestT]
    by_cases q : P < 2 ^ k
    · obtain ⟨a, ha⟩ := best_some k (t.take (2 ^ k)) P h1 q (by rw [take_at t q]; exact h)
      obtain ⟨r1, q1, _⟩ := pick_r (b := none) (show extW 0 (bestT k (t.take (2 ^ k))) = some _ by rw [ha]; rfl)
      obtain ⟨r2, q2, _⟩ := pick_l (c := extW 1 (bestT k (t.drop (2 ^ k)))) q1
      obtain ⟨r3, q3, _⟩ := pick_l (c := extW 2 (bestT k (andL (t.take (2 ^ k)) (t.drop (2 ^ k))))) q2
      exact ⟨r3, q3⟩
    · rw [Nat.pow_succ] at hP
      obtain ⟨Q, rfl⟩ : ∃ Q, P = 2 ^ k + Q := ⟨P - 2 ^ k, by omega⟩
      obtain ⟨a, ha⟩ := best_some k (t.drop (2 ^ k)) Q h2 (by omega) (by rw [drop_at]; exact h)
      obtain ⟨r2, q2, _⟩ := pick_r (b := pickW none (extW 0 (bestT k (t.take (2 ^ k))))) (show extW 1 (bestT k (t.drop (2 ^ k))) = some _ by rw [ha]; rfl)
      obtain ⟨r3, q3, _⟩ := pick_l (c := extW 2 (bestT k (andL (t.take (2 ^ k)) (t.drop (2 ^ k))))) q2
      exact ⟨r3, q3⟩
end Go.Proofs.Ytlplphgoldkoeaa.HTab
end

section
set_option linter.unusedVariables false
set_option linter.unusedSimpArgs false
namespace Go.Proofs.Ytlplphgoldkoeaa.X
open Go.RowKit Go.Proofs.YtlplphgoldkoeaaW.PrintWords Go.Proofs.YtlplphgoldkoeaaW.PrintLast Go.Proofs.YtlplphgoldkoeaaW.PrintMore
attribute [local go_sem] max2_int min2_int max_two min_two max_three min_three max_four min_four   -- for this text's walks alone
set_option linter.unusedVariables false
set_option linter.unusedSimpArgs false
def cmp_isNaN_int.f (a0 : Int) : Option (Bool) := some (a0 != a0)
set_option maxHeartbeats 8000000 in
set_option maxRecDepth 100000 in
theorem cmp_isNaN_int.calls (a0 : Int) (r : Bool) (w : World) (h : cmp_isNaN_int.f a0 = some r) :
    Calls Try.prog 137 #[.int .i64 a0] w fun e w' => e = .returned (.bool r) ∧ Drawn0 w w' := by
  have H : (some (a0 != a0)) = some r := h
  clear h
  obtain rfl := Option.some.inj H
  go_enter Try.func137, Try.ntmps137
  go_wp2
  go_ret
  exact ⟨by first | rfl | (simp; done) | (simp [*]; done), by repeat (first | exact Drawn0.refl _ | apply Drawn0.step)⟩
end Go.Proofs.Ytlplphgoldkoeaa.X
end

section
set_option linter.unusedVariables false
set_option linter.unusedSimpArgs false
namespace Go.Proofs.Ytlplphgoldkoeaa.X
open Go.RowKit Go.Proofs.YtlplphgoldkoeaaW.PrintWords Go.Proofs.YtlplphgoldkoeaaW.PrintLast Go.Proofs.YtlplphgoldkoeaaW.PrintMore
attribute [local go_sem] max2_int min2_int max_two min_two max_three min_three max_four min_four   -- for this text's walks alone
set_option linter.unusedVariables false
set_option linter.unusedSimpArgs false
def cmp_Compare_int.f (a0 : Int) (a1 : Int) : Option (Int) := (cmp_isNaN_int.f a0).bind fun t1281 => ((cmp_isNaN_int.f a1).bind fun t1282 => (if t1281 = true then (if t1282 = true then (some 0) else (some (-1))) else (if t1282 = true then (some 1) else (if a0 < a1 then (some (-1)) else (if a0 > a1 then (some 1) else (some 0))))))
set_option maxHeartbeats 8000000 in
set_option maxRecDepth 100000 in
theorem cmp_Compare_int.calls (a0 : Int) (a1 : Int) (r : Int) (w : World) (h : cmp_Compare_int.f a0 a1 = some r) :
    Calls Try.prog 126 #[.int .i64 a0, .int .i64 a1] w fun e w' => e = .returned (.int .i64 r) ∧ Drawn0 w w' := by
  have H : ((cmp_isNaN_int.f a0).bind fun t1281 => ((cmp_isNaN_int.f a1).bind fun t1282 => (if t1281 = true then (if t1282 = true then (some 0) else (some (-1))) else (if t1282 = true then (some 1) else (if a0 < a1 then (some (-1)) else (if a0 > a1 then (some 1) else (some 0))))))) = some r := h
  clear h
  replace H := Option.bind_eq_some_iff.mp H
  obtain ⟨t1281, A30, H⟩ := H
  replace H : ((cmp_isNaN_int.f a1).bind fun t1282 => (if t1281 = true then (if t1282 = true then (some 0) else (some (-1))) else (if t1282 = true then (some 1) else (if a0 < a1 then (some (-1)) else (if a0 > a1 then (some 1) else (some 0)))))) = some r := H
  have A3 := Aside0.mk A30
  clear A30
  replace H := Option.bind_eq_some_iff.mp H
  obtain ⟨t1282, A40, H⟩ := H
  replace H : (if t1281 = true then (if t1282 = true then (some 0) else (some (-1))) else (if t1282 = true then (some 1) else (if a0 < a1 then (some (-1)) else (if a0 > a1 then (some 1) else (some 0))))) = some r := H
  have A4 := Aside0.mk A40
  clear A40
  by_cases c5 : t1281 = true
  · subst c5
    have H1 : (if t1282 = true then (some 0) else (some (-1))) = some r := by rw [if_pos rfl] at H; exact H
    clear H
    have H := H1
    clear H1
    by_cases c6 : t1282 = true
    · subst c6
      have H1 : (some 0) = some r := by rw [if_pos rfl] at H; exact H
      clear H
      have H := H1
      clear H1
      obtain rfl := Option.some.inj H
      go_enter Try.func126, Try.ntmps126
      go_wp2_with (first | ((with_reducible refine gate_callee (f := 137) rfl ?_); refine goesL_ (some 8) rfl rfl Try.func137 (by kernel_rfl) rfl #[.int .i64 a0] rfl (by (try simp only [List.map_toArray, List.map_cons, List.map_nil]); first | done | rfl | (simp only [List.length_drop, List.length_take]; rfl)) ?_; (with_reducible refine (cmp_isNaN_int.calls a0 true _ A3.out).mono ?_); rintro e w' ⟨rfl, ⟨nd, rfl⟩⟩; refine ⟨_, rfl, ?_⟩) | ((with_reducible refine gate_callee (f := 137) rfl ?_); refine goesL_ (some 10) rfl rfl Try.func137 (by kernel_rfl) rfl #[.int .i64 a1] rfl (by (try simp only [List.map_toArray, List.map_cons, List.map_nil]); first | done | rfl | (simp only [List.length_drop, List.length_take]; rfl)) ?_; (with_reducible refine (cmp_isNaN_int.calls a1 true _ A4.out).mono ?_); rintro e w' ⟨rfl, ⟨nd, rfl⟩⟩; refine ⟨_, rfl, ?_⟩))
      go_ret
      exact ⟨by first | rfl | (simp; done) | (simp [*]; done), by repeat (first | exact Drawn0.refl _ | apply Drawn0.step)⟩
    · replace c6 := Bool.eq_false_iff.mpr c6
      subst c6
      have H1 : (some (-1)) = some r := by rw [if_neg (show ¬ (false = true) by decide)] at H; exact H
      clear H
      have H := H1
      clear H1
      obtain rfl := Option.some.inj H
      go_enter Try.func126, Try.ntmps126
      go_wp2_with (first | ((with_reducible refine gate_callee (f := 137) rfl ?_); refine goesL_ (some 8) rfl rfl Try.func137 (by kernel_rfl) rfl #[.int .i64 a0] rfl (by (try simp only [List.map_toArray, List.map_cons, List.map_nil]); first | done | rfl | (simp only [List.length_drop, List.length_take]; rfl)) ?_; (with_reducible refine (cmp_isNaN_int.calls a0 true _ A3.out).mono ?_); rintro e w' ⟨rfl, ⟨nd, rfl⟩⟩; refine ⟨_, rfl, ?_⟩) | ((with_reducible refine gate_callee (f := 137) rfl ?_); refine goesL_ (some 10) rfl rfl Try.func137 (by kernel_rfl) rfl #[.int .i64 a1] rfl (by (try simp only [List.map_toArray, List.map_cons, List.map_nil]); first | done | rfl | (simp only [List.length_drop, List.length_take]; rfl)) ?_; (with_reducible refine (cmp_isNaN_int.calls a1 false _ A4.out).mono ?_); rintro e w' ⟨rfl, ⟨nd, rfl⟩⟩; refine ⟨_, rfl, ?_⟩))
      go_ret
      exact ⟨by first | rfl | (simp; done) | (simp [*]; done), by repeat (first | exact Drawn0.refl _ | apply Drawn0.step)⟩
  · replace c5 := Bool.eq_false_iff.mpr c5
    subst c5
    have H1 : (if t1282 = true then (some 1) else (if a0 < a1 then (some (-1)) else (if a0 > a1 then (some 1) else (some 0)))) = some r := by rw [if_neg (show ¬ (false = true) by decide)] at H; exact H
    clear H
    have H := H1
    clear H1
    by_cases c7 : t1282 = true
    · subst c7
      have H1 : (some 1) = some r := by rw [if_pos rfl] at H; exact H
      clear H
      have H := H1
      clear H1
      obtain rfl := Option.some.inj H
      go_enter Try.func126, Try.ntmps126
      go_wp2_with (first | ((with_reducible refine gate_callee (f := 137) rfl ?_); refine goesL_ (some 8) rfl rfl Try.func137 (by kernel_rfl) rfl #[.int .i64 a0] rfl (by (try simp only [List.map_toArray, List.map_cons, List.map_nil]); first | done | rfl | (simp only [List.length_drop, List.length_take]; rfl)) ?_; (with_reducible refine (cmp_isNaN_int.calls a0 false _ A3.out).mono ?_); rintro e w' ⟨rfl, ⟨nd, rfl⟩⟩; refine ⟨_, rfl, ?_⟩) | ((with_reducible refine gate_callee (f := 137) rfl ?_); refine goesL_ (some 10) rfl rfl Try.func137 (by kernel_rfl) rfl #[.int .i64 a1] rfl (by (try simp only [List.map_toArray, List.map_cons, List.map_nil]); first | done | rfl | (simp only [List.length_drop, List.length_take]; rfl)) ?_; (with_reducible refine (cmp_isNaN_int.calls a1 true _ A4.out).mono ?_); rintro e w' ⟨rfl, ⟨nd, rfl⟩⟩; refine ⟨_, rfl, ?_⟩))
      go_ret
      exact ⟨by first | rfl | (simp; done) | (simp [*]; done), by repeat (first | exact Drawn0.refl _ | apply Drawn0.step)⟩
    · replace c7 := Bool.eq_false_iff.mpr c7
      subst c7
      have H1 : (if a0 < a1 then (some (-1)) else (if a0 > a1 then (some 1) else (some 0))) = some r := by rw [if_neg (show ¬ (false = true) by decide)] at H; exact H
      clear H
      have H := H1
      clear H1
      by_cases c8 : a0 < a1
      · rw [if_pos c8] at H
        have c8b0 : decide (a0 < a1) = true := decide_eq_true c8
        clear c8
        obtain rfl := Option.some.inj H
        go_enter Try.func126, Try.ntmps126
        go_wp2_with (first | ((with_reducible refine gate_callee (f := 137) rfl ?_); refine goesL_ (some 8) rfl rfl Try.func137 (by kernel_rfl) rfl #[.int .i64 a0] rfl (by (try simp only [List.map_toArray, List.map_cons, List.map_nil]); first | done | rfl | (simp only [List.length_drop, List.length_take]; rfl)) ?_; (with_reducible refine (cmp_isNaN_int.calls a0 false _ A3.out).mono ?_); rintro e w' ⟨rfl, ⟨nd, rfl⟩⟩; refine ⟨_, rfl, ?_⟩) | ((with_reducible refine gate_callee (f := 137) rfl ?_); refine goesL_ (some 10) rfl rfl Try.func137 (by kernel_rfl) rfl #[.int .i64 a1] rfl (by (try simp only [List.map_toArray, List.map_cons, List.map_nil]); first | done | rfl | (simp only [List.length_drop, List.length_take]; rfl)) ?_; (with_reducible refine (cmp_isNaN_int.calls a1 false _ A4.out).mono ?_); rintro e w' ⟨rfl, ⟨nd, rfl⟩⟩; refine ⟨_, rfl, ?_⟩))
        go_ret
        exact ⟨by first | rfl | (simp; done) | (simp [*]; done), by repeat (first | exact Drawn0.refl _ | apply Drawn0.step)⟩
      · rw [if_neg c8] at H
        have c8b0 : decide (a0 < a1) = false := decide_eq_false c8
        clear c8
        by_cases c9 : a0 > a1
        · rw [if_pos c9] at H
          have c9b0 : decide (a1 < a0) = true := decide_eq_true c9
          clear c9
          obtain rfl := Option.some.inj H
          go_enter Try.func126, Try.ntmps126
          go_wp2_with (first | ((with_reducible refine gate_callee (f := 137) rfl ?_); refine goesL_ (some 8) rfl rfl Try.func137 (by kernel_rfl) rfl #[.int .i64 a0] rfl (by (try simp only [List.map_toArray, List.map_cons, List.map_nil]); first | done | rfl | (simp only [List.length_drop, List.length_take]; rfl)) ?_; (with_reducible refine (cmp_isNaN_int.calls a0 false _ A3.out).mono ?_); rintro e w' ⟨rfl, ⟨nd, rfl⟩⟩; refine ⟨_, rfl, ?_⟩) | ((with_reducible refine gate_callee (f := 137) rfl ?_); refine goesL_ (some 10) rfl rfl Try.func137 (by kernel_rfl) rfl #[.int .i64 a1] rfl (by (try simp only [List.map_toArray, List.map_cons, List.map_nil]); first | done | rfl | (simp only [List.length_drop, List.length_take]; rfl)) ?_; (with_reducible refine (cmp_isNaN_int.calls a1 false _ A4.out).mono ?_); rintro e w' ⟨rfl, ⟨nd, rfl⟩⟩; refine ⟨_, rfl, ?_⟩))
          go_ret
          exact ⟨by first | rfl | (simp; done) | (simp [*]; done), by repeat (first | exact Drawn0.refl _ | apply Drawn0.step)⟩
        · rw [if_neg c9] at H
          have c9b0 : decide (a1 < a0) = false := decide_eq_false c9
          clear c9
          obtain rfl := Option.some.inj H
          go_enter Try.func126, Try.ntmps126
          go_wp2_with (first | ((with_reducible refine gate_callee (f := 137) rfl ?_); refine goesL_ (some 8) rfl rfl Try.func137 (by kernel_rfl) rfl #[.int .i64 a0] rfl (by (try simp only [List.map_toArray, List.map_cons, List.map_nil]); first | done | rfl | (simp only [List.length_drop, List.length_take]; rfl)) ?_; (with_reducible refine (cmp_isNaN_int.calls a0 false _ A3.out).mono ?_); rintro e w' ⟨rfl, ⟨nd, rfl⟩⟩; refine ⟨_, rfl, ?_⟩) | ((with_reducible refine gate_callee (f := 137) rfl ?_); refine goesL_ (some 10) rfl rfl Try.func137 (by kernel_rfl) rfl #[.int .i64 a1] rfl (by (try simp only [List.map_toArray, List.map_cons, List.map_nil]); first | done | rfl | (simp only [List.length_drop, List.length_take]; rfl)) ?_; (with_reducible refine (cmp_isNaN_int.calls a1 false _ A4.out).mono ?_); rintro e w' ⟨rfl, ⟨nd, rfl⟩⟩; refine ⟨_, rfl, ?_⟩))
          go_ret
          exact ⟨by first | rfl | (simp; done) | (simp [*]; done), by repeat (first | exact Drawn0.refl _ | apply Drawn0.step)⟩
end Go.Proofs.Ytlplphgoldkoeaa.X
end

section
set_option linter.unusedVariables false
set_option linter.unusedSimpArgs false
namespace Go.Proofs.Ytlplphgoldkoeaa.X
open Go.RowKit Go.Proofs.YtlplphgoldkoeaaW.PrintWords Go.Proofs.YtlplphgoldkoeaaW.PrintLast Go.Proofs.YtlplphgoldkoeaaW.PrintMore
attribute [local go_sem] max2_int min2_int max_two min_two max_three min_three max_four min_four   -- for this text's walks alone
set_option linter.unusedVariables false
set_option linter.unusedSimpArgs false
def slices_Compare_int_int.l0 : Nat → List Int → List Int → List Int → Int → Int → Option (Int)
  | 0, _, _, _, _, _ => none
  | k + 1, x0, x1, x9, x10, x11 => if x11 < x10 then (if 0 ≤ x11 then (if x11 < (x9.length : Int) then (if x11 ≥ (x1.length : Int) then (some 1) else (if x11 < (x1.length : Int) then ((cmp_Compare_int.f (rd x9 x11) (rd x1 x11)).bind fun t1285 => (if t1285 = 0 then (slices_Compare_int_int.l0 k x0 x1 x9 x10 (wrap64 (x11 + 1))) else (some t1285))) else (none))) else (none)) else (none)) else (if (x0.length : Int) < (x1.length : Int) then (some (-1)) else (some 0))
def slices_Compare_int_int.f (k : Nat) (l0 : List Int) (l1 : List Int) : Option (Int) := slices_Compare_int_int.l0 k l0 l1 l0 (l0.length : Int) 0
theorem slices_Compare_int_int.mono_l : ∀ k, (∀ y0 y1 y2 y3 y4, LeO (slices_Compare_int_int.l0 k y0 y1 y2 y3 y4) (slices_Compare_int_int.l0 (k + 1) y0 y1 y2 y3 y4))
  | 0 => fun _ _ _ _ _ r h => by simp [slices_Compare_int_int.l0] at h
  | k + 1 => by
    have ih0 := slices_Compare_int_int.mono_l k
    · intro y0 y1 y2 y3 y4
      unfold slices_Compare_int_int.l0
      repeat' first
      | (with_reducible exact ih0 _ _ _ _ _)
      | (with_reducible exact LeO.refl _)
      | (with_reducible exact LeO.none _)
      | (with_reducible refine LeO.ite ?_ ?_)
      | (with_reducible refine LeO.bind ?_ (fun _ => ?_))
      | exact ih0 _ _ _ _ _
      | exact LeO.none _
      | refine LeO.ite ?_ ?_
      | refine LeO.bind ?_ (fun _ => ?_)
theorem slices_Compare_int_int.mono : ∀ a0 a1 k, LeO (slices_Compare_int_int.f k a0 a1) (slices_Compare_int_int.f (k + 1) a0 a1) := by
  intro a0 a1 k
  have ih0 := slices_Compare_int_int.mono_l k
  unfold slices_Compare_int_int.f
  repeat' first
      | (with_reducible exact ih0 _ _ _ _ _)
      | (with_reducible exact LeO.refl _)
      | (with_reducible exact LeO.none _)
      | (with_reducible refine LeO.ite ?_ ?_)
      | (with_reducible refine LeO.bind ?_ (fun _ => ?_))
      | exact ih0 _ _ _ _ _
      | exact LeO.none _
      | refine LeO.ite ?_ ?_
      | refine LeO.bind ?_ (fun _ => ?_)
set_option maxHeartbeats 8000000 in
set_option maxRecDepth 100000 in
theorem slices_Compare_int_int.calls (k : Nat) (A0 : Option Addr) (c0 : Nat) (l0 : List Int) (A1 : Option Addr) (c1 : Nat) (l1 : List Int) (r : Int) (w : World) (hr0 : Kd.C (Kd.int .i64) w A0 l0.length l0) (hc0 : l0.length ≤ c0) (hr1 : Kd.C (Kd.int .i64) w A1 l1.length l1) (hc1 : l1.length ≤ c1) (h : slices_Compare_int_int.f k l0 l1 = some r) :
    Calls Try.prog 79 #[.slice A0 l0.length c0, .slice A1 l1.length c1] w fun e w' => e = .returned (.int .i64 r) ∧ Drawn0 w w' := by
  have HR0 := Aside0.mk hr0
  have HC0 := Aside0.mk hc0
  clear hr0 hc0
  have HR1 := Aside0.mk hr1
  have HC1 := Aside0.mk hc1
  clear hr1 hc1
  have H : (slices_Compare_int_int.l0 k l0 l1 l0 (l0.length : Int) 0) = some r := h
  clear h
  have H' := Aside0.mk H
  clear H
  go_enter Try.func79, Try.ntmps79
  go_wp2
  go_loopg [11] k (fun kq v11 w' => ∃ (x11_1 : Int), v11 = .int .i64 x11_1 ∧ Aside0 (slices_Compare_int_int.l0 kq l0 l1 l0 (l0.length : Int) x11_1 = some r) ∧ Aside0 (kq ≤ k) ∧ Drawn0 w w')
  case atStart => exact ⟨(0), (by first | rfl | (simp; done) | (simp [*]; done)), H', ⟨Nat.le_refl _⟩, by repeat (first | exact Drawn0.refl _ | apply Drawn0.step)⟩
  case round =>
    clear H'
    try clear c1
    try clear p2
    obtain ⟨x11_1, rfl, HA, HK1, ⟨m1, rfl⟩⟩ := hrel
    cases gk with
    | zero => exact absurd HA.out (by simp [slices_Compare_int_int.l0])
    | succ k1 =>
      have H := HA.out
      clear HA
      simp only [slices_Compare_int_int.l0] at H
      by_cases c3 : x11_1 < (l0.length : Int)
      · rw [if_pos c3] at H
        have c3b0 : decide (x11_1 < (l0.length : Int)) = true := decide_eq_true c3
        clear c3
        by_cases c4 : 0 ≤ x11_1
        · rw [if_pos c4] at H
          have c4b0 : decide (0 ≤ x11_1) = true := decide_eq_true c4
          clear c4
          by_cases c5 : x11_1 < (l0.length : Int)
          · rw [if_pos c5] at H
            have c5b0 : decide (x11_1 < (l0.length : Int)) = true := decide_eq_true c5
            clear c5
            by_cases c6 : x11_1 ≥ (l1.length : Int)
            · rw [if_pos c6] at H
              have c6b0 : decide ((l1.length : Int) ≤ x11_1) = true := decide_eq_true c6
              clear c6
              obtain rfl := Option.some.inj H
              have p1283 : 0 ≤ (x11_1 : Int) := of_decide_eq_true (by first | (with_reducible assumption) | assumption)
              have q1283 : x11_1 < (l0.length : Int) := of_decide_eq_true (by first | (with_reducible assumption) | assumption)
              obtain ⟨ad1283, e1283, hx1283_0⟩ := Kd.at_int HR0.out x11_1 p1283 q1283
              cases e1283
              replace p1283 := eq_true p1283
              replace q1283 := eq_true q1283
              go_wp2
              go_ret
              exact ⟨by first | rfl | (simp; done) | (simp [*]; done), by repeat (first | exact Drawn0.refl _ | apply Drawn0.step)⟩
            · rw [if_neg c6] at H
              have c6b0 : decide ((l1.length : Int) ≤ x11_1) = false := decide_eq_false c6
              clear c6
              by_cases c7 : x11_1 < (l1.length : Int)
              · rw [if_pos c7] at H
                have c7b0 : decide (x11_1 < (l1.length : Int)) = true := decide_eq_true c7
                clear c7
                replace H := Option.bind_eq_some_iff.mp H
                obtain ⟨t1285, A80, H⟩ := H
                replace H : (if t1285 = 0 then (slices_Compare_int_int.l0 k1 l0 l1 l0 (l0.length : Int) (wrap64 (x11_1 + 1))) else (some t1285)) = some r := H
                have A8 := Aside0.mk A80
                clear A80
                by_cases c9 : t1285 = 0
                · rw [if_pos c9] at H
                  have c9b0 : (t1285 == 0) = true := beq_iff_eq.mpr c9
                  have c9b1 : (t1285 != 0) = false := bne_eq_false_iff_eq.mpr c9
                  clear c9
                  have H' := Aside0.mk H
                  clear H
                  have p1283 : 0 ≤ (x11_1 : Int) := of_decide_eq_true (by first | (with_reducible assumption) | assumption)
                  have q1283 : x11_1 < (l0.length : Int) := of_decide_eq_true (by first | (with_reducible assumption) | assumption)
                  obtain ⟨ad1283, e1283, hx1283_0⟩ := Kd.at_int HR0.out x11_1 p1283 q1283
                  cases e1283
                  replace p1283 := eq_true p1283
                  replace q1283 := eq_true q1283
                  have p1284 : 0 ≤ (x11_1 : Int) := of_decide_eq_true (by first | (with_reducible assumption) | assumption)
                  have q1284 : x11_1 < (l1.length : Int) := of_decide_eq_true (by first | (with_reducible assumption) | assumption)
                  obtain ⟨ad1284, e1284, hx1284_0⟩ := Kd.at_int HR1.out x11_1 p1284 q1284
                  cases e1284
                  replace p1284 := eq_true p1284
                  replace q1284 := eq_true q1284
                  go_wp2_with (first | ((with_reducible refine gate_callee (f := 126) rfl ?_); refine goesL_ (some 26) rfl rfl Try.func126 (by kernel_rfl) rfl #[.int .i64 (rd l0 x11_1), .int .i64 (rd l1 x11_1)] rfl (by (try simp only [List.map_toArray, List.map_cons, List.map_nil]); first | done | rfl | (simp only [List.length_drop, List.length_take]; rfl)) ?_; (with_reducible refine (cmp_Compare_int.calls (rd l0 x11_1) (rd l1 x11_1) t1285 _ A8.out).mono ?_); rintro e w' ⟨rfl, ⟨nd, rfl⟩⟩; refine ⟨_, rfl, ?_⟩))
                  go_roundg k1
                  case measure => have := HK1.out; omega
                  case rel => exact ⟨(wrap64 (x11_1 + 1)), (by first | rfl | (simp; done) | (simp [*]; done)), H', ⟨by have := HK1.out; omega⟩, by repeat (first | exact Drawn0.refl _ | apply Drawn0.step)⟩
                · rw [if_neg c9] at H
                  have c9b0 : (t1285 == 0) = false := beq_eq_false_iff_ne.mpr c9
                  have c9b1 : (t1285 != 0) = true := bne_iff_ne.mpr c9
                  obtain rfl := Option.some.inj H
                  have p1283 : 0 ≤ (x11_1 : Int) := of_decide_eq_true (by first | (with_reducible assumption) | assumption)
                  have q1283 : x11_1 < (l0.length : Int) := of_decide_eq_true (by first | (with_reducible assumption) | assumption)
                  obtain ⟨ad1283, e1283, hx1283_0⟩ := Kd.at_int HR0.out x11_1 p1283 q1283
                  cases e1283
                  replace p1283 := eq_true p1283
                  replace q1283 := eq_true q1283
                  have p1284 : 0 ≤ (x11_1 : Int) := of_decide_eq_true (by first | (with_reducible assumption) | assumption)
                  have q1284 : x11_1 < (l1.length : Int) := of_decide_eq_true (by first | (with_reducible assumption) | assumption)
                  obtain ⟨ad1284, e1284, hx1284_0⟩ := Kd.at_int HR1.out x11_1 p1284 q1284
                  cases e1284
                  replace p1284 := eq_true p1284
                  replace q1284 := eq_true q1284
                  go_wp2_with (first | ((with_reducible refine gate_callee (f := 126) rfl ?_); refine goesL_ (some 26) rfl rfl Try.func126 (by kernel_rfl) rfl #[.int .i64 (rd l0 x11_1), .int .i64 (rd l1 x11_1)] rfl (by (try simp only [List.map_toArray, List.map_cons, List.map_nil]); first | done | rfl | (simp only [List.length_drop, List.length_take]; rfl)) ?_; (with_reducible refine (cmp_Compare_int.calls (rd l0 x11_1) (rd l1 x11_1) t1285 _ A8.out).mono ?_); rintro e w' ⟨rfl, ⟨nd, rfl⟩⟩; refine ⟨_, rfl, ?_⟩))
                  go_ret
                  exact ⟨by first | rfl | (simp; done) | (simp [*]; done), by repeat (first | exact Drawn0.refl _ | apply Drawn0.step)⟩
              · rw [if_neg c7] at H
                exact absurd H (by simp)
          · rw [if_neg c5] at H
            exact absurd H (by simp)
        · rw [if_neg c4] at H
          exact absurd H (by simp)
      · rw [if_neg c3] at H
        have c3b0 : decide (x11_1 < (l0.length : Int)) = false := decide_eq_false c3
        clear c3
        by_cases c10 : (l0.length : Int) < (l1.length : Int)
        · rw [if_pos c10] at H
          have c10b0 : decide ((l0.length : Int) < (l1.length : Int)) = true := decide_eq_true c10
          have c10b1 : decide (l0.length < l1.length) = true := decide_eq_true (Int.ofNat_lt.mp c10)
          clear c10
          obtain rfl := Option.some.inj H
          go_wp2
          go_ret
          exact ⟨by first | rfl | (simp; done) | (simp [*]; done), by repeat (first | exact Drawn0.refl _ | apply Drawn0.step)⟩
        · rw [if_neg c10] at H
          have c10b0 : decide ((l0.length : Int) < (l1.length : Int)) = false := decide_eq_false c10
          have c10b1 : decide (l0.length < l1.length) = false := decide_eq_false (fun h => c10 (Int.ofNat_lt.mpr h))
          clear c10
          obtain rfl := Option.some.inj H
          go_wp2
          go_ret
          exact ⟨by first | rfl | (simp; done) | (simp [*]; done), by repeat (first | exact Drawn0.refl _ | apply Drawn0.step)⟩
end Go.Proofs.Ytlplphgoldkoeaa.X
end

section
set_option linter.unusedVariables false
set_option linter.unusedSimpArgs false
namespace Go.Proofs.Ytlplphgoldkoeaa.X
open Go.RowKit Go.Proofs.YtlplphgoldkoeaaW.PrintWords Go.Proofs.YtlplphgoldkoeaaW.PrintLast Go.Proofs.YtlplphgoldkoeaaW.PrintMore
attribute [local go_sem] max2_int min2_int max_two min_two max_three min_three max_four min_four   -- for this text's walks alone
set_option linter.unusedVariables false
set_option linter.unusedSimpArgs false
def cmp_Or_int.l0 : Nat → Int → List Int → Int → Int → Option (Int)
  | 0, _, _, _, _ => none
  | k + 1, x3, x6, x7, x8 => if x8 < x7 then (if 0 ≤ x8 then (if x8 < (x6.length : Int) then (if (rd x6 x8) = x3 then (cmp_Or_int.l0 k x3 x6 x7 (wrap64 (x8 + 1))) else (some (rd x6 x8))) else (none)) else (none)) else (some x3)
def cmp_Or_int.f (k : Nat) (l0 : List Int) : Option (Int) := cmp_Or_int.l0 k 0 l0 (l0.length : Int) 0
theorem cmp_Or_int.mono_l : ∀ k, (∀ y0 y1 y2 y3, LeO (cmp_Or_int.l0 k y0 y1 y2 y3) (cmp_Or_int.l0 (k + 1) y0 y1 y2 y3))
  | 0 => fun _ _ _ _ r h => by simp [cmp_Or_int.l0] at h
  | k + 1 => by
    have ih0 := cmp_Or_int.mono_l k
    · intro y0 y1 y2 y3
      unfold cmp_Or_int.l0
      repeat' first
      | (with_reducible exact ih0 _ _ _ _)
      | (with_reducible exact LeO.refl _)
      | (with_reducible exact LeO.none _)
      | (with_reducible refine LeO.ite ?_ ?_)
      | (with_reducible refine LeO.bind ?_ (fun _ => ?_))
      | exact ih0 _ _ _ _
      | exact LeO.none _
      | refine LeO.ite ?_ ?_
      | refine LeO.bind ?_ (fun _ => ?_)
theorem cmp_Or_int.mono : ∀ a0 k, LeO (cmp_Or_int.f k a0) (cmp_Or_int.f (k + 1) a0) := by
  intro a0 k
  have ih0 := cmp_Or_int.mono_l k
  unfold cmp_Or_int.f
  repeat' first
      | (with_reducible exact ih0 _ _ _ _)
      | (with_reducible exact LeO.refl _)
      | (with_reducible exact LeO.none _)
      | (with_reducible refine LeO.ite ?_ ?_)
      | (with_reducible refine LeO.bind ?_ (fun _ => ?_))
      | exact ih0 _ _ _ _
      | exact LeO.none _
      | refine LeO.ite ?_ ?_
      | refine LeO.bind ?_ (fun _ => ?_)
set_option maxHeartbeats 8000000 in
set_option maxRecDepth 100000 in
theorem cmp_Or_int.calls (k : Nat) (A0 : Option Addr) (c0 : Nat) (l0 : List Int) (r : Int) (w : World) (hr0 : Kd.C (Kd.int .i64) w A0 l0.length l0) (hc0 : l0.length ≤ c0) (h : cmp_Or_int.f k l0 = some r) :
    Calls Try.prog 135 #[.slice A0 l0.length c0] w fun e w' => e = .returned (.int .i64 r) ∧ Drawn0 w w' := by
  have HR0 := Aside0.mk hr0
  have HC0 := Aside0.mk hc0
  clear hr0 hc0
  have H : (cmp_Or_int.l0 k 0 l0 (l0.length : Int) 0) = some r := h
  clear h
  have H' := Aside0.mk H
  clear H
  go_enter Try.func135, Try.ntmps135
  go_wp2
  go_loopg [8] k (fun kq v8 w' => ∃ (x8_1 : Int), v8 = .int .i64 x8_1 ∧ Aside0 (cmp_Or_int.l0 kq 0 l0 (l0.length : Int) x8_1 = some r) ∧ Aside0 (kq ≤ k) ∧ Drawn0 w w')
  case atStart => exact ⟨(0), (by first | rfl | (simp; done) | (simp [*]; done)), H', ⟨Nat.le_refl _⟩, by repeat (first | exact Drawn0.refl _ | apply Drawn0.step)⟩
  case round =>
    clear H'
    try clear c1
    obtain ⟨x8_1, rfl, HA, HK1, ⟨m1, rfl⟩⟩ := hrel
    cases gk with
    | zero => exact absurd HA.out (by simp [cmp_Or_int.l0])
    | succ k1 =>
      have H := HA.out
      clear HA
      simp only [cmp_Or_int.l0] at H
      by_cases c2 : x8_1 < (l0.length : Int)
      · rw [if_pos c2] at H
        have c2b0 : decide (x8_1 < (l0.length : Int)) = true := decide_eq_true c2
        clear c2
        by_cases c3 : 0 ≤ x8_1
        · rw [if_pos c3] at H
          have c3b0 : decide (0 ≤ x8_1) = true := decide_eq_true c3
          clear c3
          by_cases c4 : x8_1 < (l0.length : Int)
          · rw [if_pos c4] at H
            have c4b0 : decide (x8_1 < (l0.length : Int)) = true := decide_eq_true c4
            clear c4
            by_cases c5 : (rd l0 x8_1) = 0
            · rw [if_pos c5] at H
              have c5b0 : ((rd l0 x8_1) == 0) = true := beq_iff_eq.mpr c5
              have c5b1 : ((rd l0 x8_1) != 0) = false := bne_eq_false_iff_eq.mpr c5
              clear c5
              have H' := Aside0.mk H
              clear H
              have p1363 : 0 ≤ (x8_1 : Int) := of_decide_eq_true (by first | (with_reducible assumption) | assumption)
              have q1363 : x8_1 < (l0.length : Int) := of_decide_eq_true (by first | (with_reducible assumption) | assumption)
              obtain ⟨ad1363, e1363, hx1363_0⟩ := Kd.at_int HR0.out x8_1 p1363 q1363
              cases e1363
              replace p1363 := eq_true p1363
              replace q1363 := eq_true q1363
              go_wp2
              go_roundg k1
              case measure => have := HK1.out; omega
              case rel => exact ⟨(wrap64 (x8_1 + 1)), (by first | rfl | (simp; done) | (simp [*]; done)), H', ⟨by have := HK1.out; omega⟩, by repeat (first | exact Drawn0.refl _ | apply Drawn0.step)⟩
            · rw [if_neg c5] at H
              have c5b0 : ((rd l0 x8_1) == 0) = false := beq_eq_false_iff_ne.mpr c5
              have c5b1 : ((rd l0 x8_1) != 0) = true := bne_iff_ne.mpr c5
              obtain rfl := Option.some.inj H
              have p1363 : 0 ≤ (x8_1 : Int) := of_decide_eq_true (by first | (with_reducible assumption) | assumption)
              have q1363 : x8_1 < (l0.length : Int) := of_decide_eq_true (by first | (with_reducible assumption) | assumption)
              obtain ⟨ad1363, e1363, hx1363_0⟩ := Kd.at_int HR0.out x8_1 p1363 q1363
              cases e1363
              replace p1363 := eq_true p1363
              replace q1363 := eq_true q1363
              go_wp2
              go_ret
              exact ⟨by first | rfl | (simp; done) | (simp [*]; done), by repeat (first | exact Drawn0.refl _ | apply Drawn0.step)⟩
          · rw [if_neg c4] at H
            exact absurd H (by simp)
        · rw [if_neg c3] at H
          exact absurd H (by simp)
      · rw [if_neg c2] at H
        have c2b0 : decide (x8_1 < (l0.length : Int)) = false := decide_eq_false c2
        clear c2
        obtain rfl := Option.some.inj H
        go_wp2
        go_ret
        exact ⟨by first | rfl | (simp; done) | (simp [*]; done), by repeat (first | exact Drawn0.refl _ | apply Drawn0.step)⟩
end Go.Proofs.Ytlplphgoldkoeaa.X
end
