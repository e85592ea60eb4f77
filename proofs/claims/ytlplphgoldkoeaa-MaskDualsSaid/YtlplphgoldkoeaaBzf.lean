/- Lemmas of the masks: part Bzf. -/
import Derived.Test.YtlplphgoldkoeaaBze
import Derived.Test.YtlplphgoldkoeaaBpa
section
set_option linter.unusedVariables false
set_option linter.unusedSimpArgs false
namespace Go.Proofs.Ytlplphgoldkoeaa.HTab
open Go.RowKit Go.Proofs.YtlplphgoldkoeaaW.PrintWords Go.Proofs.YtlplphgoldkoeaaW.PrintLast Go.Proofs.YtlplphgoldkoeaaW.PrintMore Go.Proofs.Ytlplphgoldkoeaa.HMap Go.Proofs.Ytlplphgoldkoeaa.X
set_option linter.unusedVariables false
set_option linter.unusedSimpArgs false
theorem setb_eq {e : Nat} {b : Bool} {P : Nat} (h : bitN P e = b) : setb e b P = P := if_pos h
theorem setb_comm (e d : Nat) (b c : Bool) (P : Nat) (h : e ≠ d) : setb e b (setb d c P) = setb d c (setb e b P) := by
  apply Nat.eq_of_testBit_eq
  intro i
  by_cases hi : e = i
  · subst hi
    have h1 := setb_same e b (setb d c P)
    have h2 := setb_other d e c (setb e b P) (Ne.symm h)
    have h3 := setb_same e b P
    unfold bitN at h1 h2 h3
    rw [h1, h2, h3]
  · have h1 := setb_other e i b (setb d c P) hi
    by_cases hj : d = i
    · subst hj
      have h2 := setb_same d c P
      have h3 := setb_same d c (setb e b P)
      unfold bitN at h1 h2 h3
      rw [h1, h2, h3]
    · have h2 := setb_other d i c P hj
      have h3 := setb_other d i c (setb e b P) hj
      have h4 := setb_other e i b P hi
      unfold bitN at h1 h2 h3 h4
      rw [h1, h2, h3, h4]
def exq (any : Bool) (e : Nat) (t : List Bool) : List Bool := (List.range t.length).map fun P => if any then t.getD (setb e false P) false || t.getD (setb e true P) false else t.getD (setb e false P) false && t.getD (setb e true P) false
theorem exq_len (any : Bool) (e : Nat) (t : List Bool) : (exq any e t).length = t.length := by simp [exq]
theorem exq_get (any : Bool) (e : Nat) (t : List Bool) (P : Nat) (h : P < t.length) : (exq any e t).getD P false = if any then t.getD (setb e false P) false || t.getD (setb e true P) false else t.getD (setb e false P) false && t.getD (setb e true P) false := by
  unfold exq
  rw [List.getD_eq_getElem?_getD, List.getElem?_map, List.getElem?_range h]
  rfl
theorem exq_not (e n : Nat) (t : List Bool) (ht : t.length = 2 ^ n) (he : e < n) : exq false e (t.map (!·)) = (exq true e t).map (!·) := by
  refine list_ext (by simp [exq_len]) (fun P hP => ?_)
  simp only [exq_len, List.length_map] at hP
  have h0 := setb_lt e n false P he (by omega)
  have h1 := setb_lt e n true P he (by omega)
  rw [exq_get false e (t.map (!·)) P (by simpa using hP), getD_map_not (exq true e t) P (by rw [exq_len]; exact hP), exq_get true e t P hP, getD_map_not t (setb e false P) (by omega), getD_map_not t (setb e true P) (by omega)]
  simp
theorem exq_ge (e : Nat) (t : List Bool) (P : Nat) (hP : P < t.length) (h : t.getD P false = true) : (exq true e t).getD P false = true := by
  rw [exq_get _ _ _ _ hP]
  simp only [if_true, Bool.or_eq_true]
  cases hb : bitN P e
  · left; rw [setb_eq hb]; exact h
  · right; rw [setb_eq hb]; exact h
theorem exq_comm (e d n : Nat) (t : List Bool) (ht : t.length = 2 ^ n) (he : e < n) (hd : d < n) : exq true e (exq true d t) = exq true d (exq true e t) := by
  by_cases h : e = d
  · subst h; rfl
  refine list_ext (by simp [exq_len]) (fun P hP => ?_)
  simp only [exq_len] at hP
  have lt : ∀ (e : Nat) (b : Bool) (P : Nat), e < n → P < t.length → setb e b P < t.length := fun e b P h1 h2 => by rw [ht] at h2 ⊢; exact setb_lt e n b P h1 h2
  rw [exq_get true e (exq true d t) P (by rw [exq_len]; exact hP), exq_get true d (exq true e t) P (by rw [exq_len]; exact hP)]
  simp only [if_true]
  rw [exq_get true d t _ (lt e false P he hP), exq_get true d t _ (lt e true P he hP), exq_get true e t _ (lt d false P hd hP), exq_get true e t _ (lt d true P hd hP)]
  simp only [if_true]
  rw [setb_comm e d false false P h, setb_comm e d true false P h, setb_comm e d false true P h, setb_comm e d true true P h]
  cases t.getD (setb d false (setb e false P)) false <;> cases t.getD (setb d true (setb e false P)) false <;> cases t.getD (setb d false (setb e true P)) false <;> cases t.getD (setb d true (setb e true P)) false <;> rfl
def exl (any : Bool) (v : Int) (s : List Int) (t : List Bool) : List Bool := s.foldl (fun t x => exq any (v - 1 - x).toNat t) t
theorem exl_not (v : Int) (n : Nat) (hn : v = n) : ∀ (s : List Int) (t : List Bool), t.length = 2 ^ n → (∀ x ∈ s, 0 ≤ x ∧ x < v) → exl false v s (t.map (!·)) = (exl true v s t).map (!·)
  | [], t, _, _ => rfl
  | x :: s, t, ht, hs => by
    have hx := hs x List.mem_cons_self
    show exl false v s (exq false (v - 1 - x).toNat (t.map (!·))) = (exl true v s (exq true (v - 1 - x).toNat t)).map (!·)
    rw [exq_not _ n t ht (by omega), exl_not v n hn s _ (by rw [exq_len]; exact ht) (fun y hy => hs y (List.mem_cons_of_mem _ hy))]
theorem exl_ge (v : Int) : ∀ (s : List Int) (t : List Bool) (P : Nat), P < t.length → t.getD P false = true → (exl true v s t).getD P false = true
  | [], t, P, _, h => h
  | x :: s, t, P, hP, h => exl_ge v s _ P (by rw [exq_len]; exact hP) (exq_ge _ t P hP h)
theorem exl_push (v : Int) (n : Nat) (hn : v = n) (x : Int) (hx : 0 ≤ x ∧ x < v) : ∀ (s : List Int) (t : List Bool), t.length = 2 ^ n → (∀ y ∈ s, 0 ≤ y ∧ y < v) → exl true v s (exq true (v - 1 - x).toNat t) = exq true (v - 1 - x).toNat (exl true v s t)
  | [], t, _, _ => rfl
  | y :: s, t, ht, hs => by
    have hy := hs y List.mem_cons_self
    show exl true v s (exq true (v - 1 - y).toNat (exq true (v - 1 - x).toNat t)) = exq true (v - 1 - x).toNat (exl true v s (exq true (v - 1 - y).toNat t))
    rw [exq_comm _ _ n t ht (by omega) (by omega), exl_push v n hn x hx s _ (by rw [exq_len]; exact ht) (fun z hz => hs z (List.mem_cons_of_mem _ hz))]
theorem exl_rev (v : Int) (n : Nat) (hn : v = n) : ∀ (s : List Int) (t : List Bool), t.length = 2 ^ n → (∀ y ∈ s, 0 ≤ y ∧ y < v) → exl true v s.reverse t = exl true v s t
  | [], t, _, _ => rfl
  | x :: s, t, ht, hs => by
    have hx := hs x List.mem_cons_self
    have hs2 : ∀ y ∈ s, 0 ≤ y ∧ y < v := fun z hz => hs z (List.mem_cons_of_mem _ hz)
    have e1 : exl true v (x :: s).reverse t = exq true (v - 1 - x).toNat (exl true v s.reverse t) := by
      unfold exl
      rw [List.reverse_cons, List.foldl_append]
      rfl
    rw [e1, exl_rev v n hn s t ht hs2, ← exl_push v n hn x hx s t ht hs2]
    rfl
theorem setM_iff (v : Int) : ∀ (l : List Int) (M : List (Int × Bool)), setM v l M = true ↔ (∀ x ∈ l, 0 ≤ x ∧ x < v) ∧ l.Nodup ∧ ∀ x ∈ l, (HMap.look M x).getD false = false
  | [], M => by simp [setM]
  | x :: l, M => by
    unfold setM
    by_cases h1 : x < 0 ∨ v ≤ x
    · rw [if_pos h1]
      refine ⟨fun h => (by cases h), fun h => ?_⟩
      have := h.1 x List.mem_cons_self
      omega
    rw [if_neg h1]
    cases h2 : (HMap.look M x).getD false with
    | true =>
      rw [if_pos rfl]
      refine ⟨fun h => (by cases h), fun h => ?_⟩
      have := h.2.2 x List.mem_cons_self
      rw [h2] at this
      cases this
    | false =>
      rw [if_neg (by simp), setM_iff v l, List.nodup_cons]
      have hl : ∀ y, (HMap.look (HMap.upd M x true) y).getD false = if y = x then true else (HMap.look M y).getD false := fun y => by
        by_cases hy : y = x
        · subst hy; rw [HMap.look_upd_same, if_pos rfl]; rfl
        · rw [HMap.look_upd_other _ _ _ _ hy, if_neg hy]
      constructor
      · rintro ⟨a1, a2, a3⟩
        refine ⟨fun y hy => ?_, ⟨fun hx => ?_, a2⟩, fun y hy => ?_⟩
        · rcases List.mem_cons.1 hy with rfl | hy
          · omega
          · exact a1 y hy
        · have := a3 x hx
          rw [hl, if_pos rfl] at this
          cases this
        · rcases List.mem_cons.1 hy with rfl | hy
          · exact h2
          · have := a3 y hy
            rw [hl] at this
            split at this
            · cases this
            · exact this
      · rintro ⟨a1, ⟨a2, a3⟩, a4⟩
        refine ⟨fun y hy => a1 y (List.mem_cons_of_mem _ hy), a3, fun y hy => ?_⟩
        rw [hl, if_neg (show ¬ y = x from fun e => a2 (by rw [← e]; exact hy))]
        exact a4 y (List.mem_cons_of_mem _ hy)
theorem setM_rev (v : Int) (l : List Int) (h : setM v l [] = true) : setM v l.reverse [] = true := by
  rw [setM_iff] at h ⊢
  exact ⟨fun x hx => h.1 x (List.mem_reverse.1 hx), List.pairwise_reverse.2 (h.2.1.imp Ne.symm), fun x hx => by simp [HMap.look]⟩
theorem restrict_f {v i r : Int} {l : List S107} (h : VM v l r) (i0 : 0 ≤ i) (i1 : i < v) (b : Bool) : ∃ l' r', mask_Restrict.f v l r i b = some (v, l', r', 0) ∧ VM v l' r' ∧ tab v l' r' = (List.range (tab v l r).length).map (fun P => (tab v l r).getD (setb (v - 1 - i).toNat b P) false) ∧ l'.length ≤ 4095 := by
  have hn := h.root.2.2
  obtain ⟨l', r', q1, q2, q3, q4⟩ := compose_f h (VM.const h.v0 h.v12 b) i0 i1
  refine ⟨l', r', ?_, q2, ?_, q4⟩
  · unfold mask_Restrict.f
    rw [if_pos (by omega), if_pos (vmB_true h), if_pos ⟨i0, i1⟩]
    exact q1
  · rw [q3, tab_const h.v0]
    refine list_ext (by simp [cmpL_len]) (fun P hP => ?_)
    rw [cmpL_len] at hP
    rw [cmpL_get _ _ _ _ hP]
    have e1 : (List.replicate (2 ^ v.toNat) b).getD P false = b := by
      rw [tab_length] at hP
      simp [List.getD_eq_getElem?_getD, hP]
    rw [e1, List.getD_eq_getElem?_getD (l := List.map _ _), List.getElem?_map, List.getElem?_range hP]
    rfl
def OpT (any : Bool) (opf : OpF) : Prop := ∀ (v : Int) (l1 : List S107) (r1 : Int) (l2 : List S107) (r2 : Int), VM v l1 r1 → VM v l2 r2 → ∃ l r, opf v l1 r1 v l2 r2 = some (v, l, r, 0) ∧ VM v l r ∧ l.length ≤ 4095 ∧ ∀ P, P < 2 ^ v.toNat → (tab v l r).getD P false = if any then (tab v l1 r1).getD P false || (tab v l2 r2).getD P false else (tab v l1 r1).getD P false && (tab v l2 r2).getD P false
theorem opt_or : OpT true mask_Or.f := fun v l1 r1 l2 r2 h1 h2 => by
  obtain ⟨l, r, q1, q2, q3, q4⟩ := or_f h1 h2
  refine ⟨l, r, q1, q2, q4, fun P hP => ?_⟩
  rw [q3, iteL_get _ _ _ _ (by rw [tab_length]; exact hP) rfl (by rw [tab_length, tab_length])]
  cases (tab v l1 r1).getD P false <;> simp
theorem opt_and : OpT false mask_And.f := fun v l1 r1 l2 r2 h1 h2 => by
  obtain ⟨l, r, q1, q2, q3, q4⟩ := and_f h1 h2
  refine ⟨l, r, q1, q2, q4, fun P hP => ?_⟩
  rw [q3, iteL_get _ _ _ _ (by rw [tab_length]; exact hP) (by rw [tab_length, tab_length]) rfl]
  cases hb : (tab v l1 r1).getD P false <;> simp
theorem foldF_f {any : Bool} {opf : OpF} (ho : OpT any opf) {v : Int} : ∀ (s : List Int) (l : List S107) (r : Int), VM v l r → (∀ x ∈ s, 0 ≤ x ∧ x < v) → ∃ l' r', foldF opf s v l r = some (v, l', r') ∧ VM v l' r' ∧ tab v l' r' = exl any v s (tab v l r)
  | [], l, r, h, _ => ⟨l, r, rfl, h, rfl⟩
  | x :: s, l, r, h, hs => by
    have hx := hs x List.mem_cons_self
    obtain ⟨l1, r1, a1, a2, a3, a4⟩ := restrict_f h hx.1 hx.2 false
    obtain ⟨l2, r2, b1, b2, b3, b4⟩ := restrict_f h hx.1 hx.2 true
    obtain ⟨l3, r3, c1, c2, c3, c4⟩ := ho v l1 r1 l2 r2 a2 b2
    obtain ⟨l', r', d1, d2, d3⟩ := foldF_f ho s l3 r3 c2 (fun y hy => hs y (List.mem_cons_of_mem _ hy))
    refine ⟨l', r', ?_, d2, ?_⟩
    · unfold foldF
      rw [a1]
      simp only [Option.bind_some]
      rw [b1]
      simp only [Option.bind_some]
      rw [c1]
      simp only [Option.bind_some]
      exact d1
    · rw [d3]
      show exl any v s (tab v l3 r3) = exl any v s (exq any (v - 1 - x).toNat (tab v l r))
      congr 1
      refine list_ext (by rw [exq_len, tab_length, tab_length]) (fun P hP => ?_)
      rw [tab_length] at hP
      have hm : ∀ b, ((List.range (tab v l r).length).map (fun P => (tab v l r).getD (setb (v - 1 - x).toNat b P) false)).getD P false = (tab v l r).getD (setb (v - 1 - x).toNat b P) false := fun b => by
        rw [List.getD_eq_getElem?_getD (l := List.map _ _), List.getElem?_map, List.getElem?_range (by rw [tab_length]; exact hP)]
        rfl
      rw [c4 P hP, a3, b3, hm, hm, exq_get _ _ _ _ (by rw [tab_length]; exact hP)]
theorem foldG_ok {any : Bool} {opf : OpF} (ho : OpT any opf) {v r : Int} {l : List S107} (h : VM v l r) {s : List Int} (hs : setM v s [] = true) (hl : s.length < 140737488355000) : ∃ l' r', foldG opf v l r s = some (v, l', r', 0) ∧ VM v l' r' ∧ tab v l' r' = exl any v s (tab v l r) ∧ l'.length ≤ 4095 := by
  have hn := h.root.2.2
  obtain ⟨l', r', d1, d2, d3⟩ := foldF_f ho s l r h ((setM_iff v s []).1 hs).1
  have hn' := d2.root.2.2
  refine ⟨l', r', ?_, d2, d3, hn'⟩
  unfold foldG
  rw [if_pos ⟨by omega, hl⟩, if_pos ⟨vmB_true h, hs⟩, d1]
  simp only [Option.bind_some]
  rw [if_pos (by omega)]
theorem foldG_err {opf : OpF} {v r : Int} {l : List S107} {s : List Int} (hn : l.length ≤ 1000000000) (hl : s.length < 140737488355000) (h : ¬ (VM v l r ∧ setM v s [] = true)) : foldG opf v l r s = some (0, [], 0, 2) := by
  unfold foldG
  rw [if_pos ⟨hn, hl⟩, if_neg (fun q => h ⟨vmB_iff.1 q.1, q.2⟩)]
end Go.Proofs.Ytlplphgoldkoeaa.HTab
end
