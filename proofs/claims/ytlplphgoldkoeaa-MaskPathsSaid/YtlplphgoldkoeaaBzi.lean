/- Lemmas of the masks: part Bzi. -/
import Derived.Test.YtlplphgoldkoeaaBzh
import Derived.Deep.DeepMust
import Derived.Deep.LoopGhost
import Derived.Test.YtlplphgoldkoeaaBc
section
set_option linter.unusedVariables false
set_option linter.unusedSimpArgs false
namespace Go.Proofs.Ytlplphgoldkoeaa.HTab
open Go.RowKit Go.Proofs.YtlplphgoldkoeaaW.PrintWords Go.Proofs.YtlplphgoldkoeaaW.PrintLast Go.Proofs.YtlplphgoldkoeaaW.PrintMore Go.Proofs.Ytlplphgoldkoeaa.HMap Go.Proofs.Ytlplphgoldkoeaa.X
set_option linter.unusedVariables false
set_option linter.unusedSimpArgs false
abbrev KI : Kd Int := Kd.int .i64
def kP (n : Nat) : Kd (Nat × Nat) := Kd.scalar (fun p => .slice (some ⟨p.1, 0, none⟩) n p.2) (fun _ => rfl)
def Rws (w : World) (base n : Nat) (ps : List (Nat × Nat)) (xss : List (List Int)) : Prop :=
  ps.length = xss.length ∧ (ps.map Prod.fst).Nodup ∧ ∀ (j : Nat) p x, ps[j]? = some p → xss[j]? = some x → x.length = n ∧ KI.R 3 w base (fun k => k = p.1) (.slice (some ⟨p.1, 0, none⟩) n p.2) x
theorem row_blk {α : Type} {enc : α → Value} {h1 : ∀ x, (enc x).oneCell' = true} {e : Nat} {w : World} {base g n c : Nat} {ok : Nat → Prop} {x : List α} (h : (Kd.scalar enc h1).R e w base ok (.slice (some ⟨g, 0, none⟩) n c) x) : base ≤ g ∧ ∃ cur, w.heap[g]? = some (.cells cur e (0, 0)) := by
  rcases (Kd.own_of_R h).2 with ⟨hv, _⟩ | ⟨g', cap', cur, hv, hb, hh, _⟩
  · cases hv
  · injection hv with e1
    injection e1 with e1
    injection e1 with e1
    subst e1
    exact ⟨hb, cur, hh⟩
theorem Rws.nil (w : World) (base n : Nat) : Rws w base n [] [] := ⟨rfl, List.nodup_nil, fun j p x h => by simp at h⟩
section
variable {w w' : World} {base n : Nat} {ps : List (Nat × Nat)} {xss : List (List Int)}
theorem Rws.below (h : Rws w base n ps xss) (hb : Below w.heap.size w w') : Rws w' base n ps xss := ⟨h.1, h.2.1, fun j p x hp hx => ⟨(h.2.2 j p x hp hx).1, Kd.R_below (h.2.2 j p x hp hx).2 hb⟩⟩
theorem Rws.lower {b' : Nat} (h : Rws w base n ps xss) (hb : b' ≤ base) : Rws w b' n ps xss := ⟨h.1, h.2.1, fun j p x hp hx => ⟨(h.2.2 j p x hp hx).1, Kd.R_lower (h.2.2 j p x hp hx).2 hb⟩⟩
theorem Rws.grown {b : Nat} {ok : Nat → Prop} {v : Value} {ys : List (Nat × Nat)} {m : Nat} (h : Rws w base n ps xss) (hv : (kP m).R 82 w b ok v ys) (hg : w.grownBy w' v.ownBlock) : Rws w' base n ps xss :=
  ⟨h.1, h.2.1, fun j p x hp hx => ⟨(h.2.2 j p x hp hx).1, Kd.R_over (h.2.2 j p x hp hx).2 hv (by decide) hg⟩⟩
theorem Rws.len (h : Rws w base n ps xss) {j : Nat} {p : Nat × Nat} (hp : ps[j]? = some p) : ∃ x, xss[j]? = some x := by
  have := (List.getElem?_eq_some_iff.1 hp).1
  exact ⟨_, List.getElem?_eq_getElem (by rw [← h.1]; exact this)⟩
theorem Rws.blk (h : Rws w base n ps xss) {p : Nat × Nat} (hp : p ∈ ps) : base ≤ p.1 ∧ p.1 < w.heap.size := by
  obtain ⟨j, hj⟩ := List.getElem?_of_mem hp
  obtain ⟨x, hx⟩ := h.len hj
  obtain ⟨a, cur, b⟩ := row_blk (h.2.2 j p x hj hx).2
  exact ⟨a, blk_lt b⟩
theorem Rws.row (h : Rws w base n ps xss) {j : Nat} {p : Nat × Nat} {x : List Int} (hp : ps[j]? = some p) (hx : xss[j]? = some x) : x.length = n ∧ KI.R 3 w base (fun k => k = p.1) (.slice (some ⟨p.1, 0, none⟩) n p.2) x := h.2.2 j p x hp hx
theorem Rws.put (h : Rws w base n ps xss) {j : Nat} {p : Nat × Nat} {x : List Int} (hp : ps[j]? = some p) (hx : xss[j]? = some x) (i : Int) (y : Int) : Rws (w.setCell ⟨p.1, i.toNat, none⟩ (.int .i64 y)) base n ps (xss.set j (x.set i.toNat y)) := by
  have hj := (List.getElem?_eq_some_iff.1 hp).1
  refine ⟨by rw [List.length_set]; exact h.1, h.2.1, fun j' p' x' hp' hx' => ?_⟩
  by_cases e : j = j'
  · subst e
    rw [hp] at hp'
    injection hp' with hp'
    subst hp'
    rw [List.getElem?_set_self (by rw [← h.1]; exact hj)] at hx'
    injection hx' with hx'
    subst hx'
    exact ⟨by rw [List.length_set]; exact (h.row hp hx).1, Kd.R_putn (h.row hp hx).2 i y⟩
  · rw [List.getElem?_set_ne e] at hx'
    refine ⟨(h.row hp' hx').1, Kd.R_far (p := ⟨p.1, i.toNat, none⟩) (h.row hp' hx').2 (fun k hk => ?_) _⟩
    rw [hk]
    intro e2
    apply e
    have hj' := (List.getElem?_eq_some_iff.1 hp').1
    have a1 : (ps.map Prod.fst)[j]? = some p.1 := by rw [List.getElem?_map, hp]; rfl
    have e3 : p'.1 = p.1 := e2
    have a2 : (ps.map Prod.fst)[j']? = some p.1 := by rw [List.getElem?_map, hp', ← e3]; rfl
    exact (List.getElem?_inj (by simpa using hj) h.2.1).1 (a1.trans a2.symm)
theorem Rws.app {b2 : Nat} {qs : List (Nat × Nat)} {yss : List (List Int)} (h : Rws w base n ps xss) (h2 : Rws w b2 n qs yss) (hb : base ≤ b2) (hlt : ∀ p ∈ ps, p.1 < b2) : Rws w base n (ps ++ qs) (xss ++ yss) := by
  refine ⟨by rw [List.length_append, List.length_append, h.1, h2.1], ?_, fun j p x hp hx => ?_⟩
  · rw [List.map_append, List.nodup_append]
    refine ⟨h.2.1, h2.2.1, fun a ha b hbm e => ?_⟩
    obtain ⟨p, hp, rfl⟩ := List.mem_map.1 ha
    obtain ⟨q, hq, rfl⟩ := List.mem_map.1 hbm
    have := hlt p hp
    have := (h2.blk hq).1
    omega
  · by_cases hj : j < ps.length
    · rw [List.getElem?_append_left hj] at hp
      rw [List.getElem?_append_left (by rw [← h.1]; exact hj)] at hx
      exact h.row hp hx
    · rw [List.getElem?_append_right (by omega)] at hp
      rw [List.getElem?_append_right (by rw [← h.1]; omega), ← h.1] at hx
      exact ⟨(h2.row hp hx).1, Kd.R_lower (h2.row hp hx).2 hb⟩
theorem Rws.one {g c : Nat} {x : List Int} (hx : x.length = n) (h : KI.R 3 w base (fun k => k = g) (.slice (some ⟨g, 0, none⟩) n c) x) : Rws w base n [(g, c)] [x] := by
  refine ⟨rfl, by simp, fun j p y hp hy => ?_⟩
  match j, hp, hy with
  | 0, hp, hy =>
    injection hp with hp
    injection hy with hy
    subst hp; subst hy
    exact ⟨hx, h⟩
  | j + 1, hp, hy => simp at hp
end
structure Bx (w W : World) (v r : Int) (A : Option Addr) (c : Nat) (l : List S106) : Prop where
  bel : Below w.heap.size w W
  kf : W.heap[w.heap.size]? = some (.cells #[.int .i64 v, .slice A l.length c, .int .i64 r] 33 (0, 0))
theorem Bx.below {w W W' : World} {v r : Int} {A : Option Addr} {c : Nat} {l : List S106} (h : Bx w W v r A c l) (hb : Below W.heap.size W W') : Bx w W' v r A c l := ⟨below_then h.bel h.bel.size hb, blk_below h.kf hb⟩
theorem Bx.put {w W : World} {v r : Int} {A : Option Addr} {c : Nat} {l : List S106} (h : Bx w W v r A c l) {g n cc : Nat} {ok : Nat → Prop} {x : List Int} (hr : KI.R 3 W w.heap.size ok (.slice (some ⟨g, 0, none⟩) n cc) x) (i : Nat) (y : Value) : Bx w (W.setCell ⟨g, i, none⟩ y) v r A c l := by
  obtain ⟨a, cur, b⟩ := row_blk hr
  exact ⟨below_set h.bel a, blk_far (p := ⟨g, i, none⟩) h.kf (blk_ne h.kf b (by decide)) _⟩
theorem Bx.grown {w W W' : World} {v r : Int} {A : Option Addr} {c : Nat} {l : List S106} (h : Bx w W v r A c l) {ok : Nat → Prop} {u : Value} {m : Nat} {ys : List (Nat × Nat)} (hr : (kP m).R 82 W w.heap.size ok u ys) (hg : W.grownBy W' u.ownBlock) : Bx w W' v r A c l :=
  ⟨h.bel.grown hg h.bel.size (fun k hk => own_base (Kd.own_of_R hr) k hk), blk_grown h.kf hg (Kd.R_ne hr h.kf (by decide))⟩
theorem lit_R {W : World} {b base g n c m : Nat} (h : W.heap[b]? = some (.cells #[.slice (some ⟨g, 0, none⟩) n c] 82 (0, 0))) (hb : base ≤ b) (hm : m ≤ 1) : (kP n).R 82 W base (fun k => k = b) (.slice (some ⟨b, 0, none⟩) m 1) ([(g, c)].take m) := by
  have hl : ([(g, c)].take m).length = m := by simp; omega
  refine Kd.R_of_own ?_ (fun k hk => by injection hk with hk; exact hk.symm)
  rw [hl]
  refine ⟨by rw [encs_length, hl, Nat.mul_one], .inr ⟨b, 1, _, rfl, hb, h, hm, by decide, rfl, ?_⟩⟩
  rw [Nat.mul_one]
  rcases Nat.lt_or_ge m 1 with h0 | h0
  · obtain rfl : m = 0 := by omega
    rfl
  · obtain rfl : m = 1 := by omega
    rfl
theorem fill_two (n i : Nat) (h : i < n) : (List.replicate i (2 : Int) ++ List.replicate (n - i) 0).set i 2 = List.replicate (i + 1) 2 ++ List.replicate (n - (i + 1)) 0 := by
  obtain ⟨m, rfl⟩ : ∃ m, n = i + m + 1 := ⟨n - i - 1, by omega⟩
  rw [show i + m + 1 - i = m + 1 by omega, show i + m + 1 - (i + 1) = m by omega, List.set_append_right _ _ (by simp)]
  simp only [List.length_replicate, Nat.sub_self, List.replicate_succ, List.set_cons_zero]
  rw [show (2 : Int) :: List.replicate i 2 = List.replicate (i + 1) 2 from rfl, List.replicate_succ', List.append_assoc]
  rfl
def pathQ (n : Nat) (l : List S106) : Nat → Int → List (List Int)
  | 0, _ => []
  | k + 1, p => if p = 1 then [List.replicate n 2] else if p < 2 then [] else
    (pathQ n l k (rd_T106 l (p - 2)).f1).map (fun c => c.set (rd_T106 l (p - 2)).f0.toNat 0) ++ (pathQ n l k (rd_T106 l (p - 2)).f2).map (fun c => c.set (rd_T106 l (p - 2)).f0.toNat 1)
def QPost (w : World) (n : Nat) (xss : List (List Int)) (e : Ending) (w' : World) : Prop :=
  ∃ vO ps, e = .returned vO ∧ (kP n).R 82 w' w.heap.size (fun k => some k = vO.ownBlock) vO ps ∧ Rws w' w.heap.size n ps xss ∧ Below w.heap.size w w'
end Go.Proofs.Ytlplphgoldkoeaa.HTab
end

section
set_option linter.unusedVariables false
set_option linter.unusedSimpArgs false
namespace Go.Proofs.Ytlplphgoldkoeaa.HTab
open Go.RowKit Go.Proofs.YtlplphgoldkoeaaW.PrintWords Go.Proofs.YtlplphgoldkoeaaW.PrintLast Go.Proofs.YtlplphgoldkoeaaW.PrintMore Go.Proofs.Ytlplphgoldkoeaa.HMap Go.Proofs.Ytlplphgoldkoeaa.X
set_option linter.unusedVariables false
set_option linter.unusedSimpArgs false
theorem natCast_toNat_ (i : Nat) : ((i : Int)).toNat = i := rfl
theorem scs_ (w : World) (p : Addr) (v : Value) : (w.setCell p v).heap.size = w.heap.size := by simp [World.setCell]
theorem kP_ne (n : Nat) : ∀ q, q ∈ 82 :: (kP n).E → q ≠ 3 := fun q hq => by
  rw [show (kP n).E = [] from rfl, List.mem_singleton] at hq
  subst hq
  decide
theorem i2q_0 (a b : Int) : ∀ w : World, (Instr.index 114 (.agg #[.int .i64 a, .int .i64 b]) (.int .i64 0)).run Try.prog w = .ok (.int .i64 a) w := fun _ => by kernel_rfl
theorem i2q_1 (a b : Int) : ∀ w : World, (Instr.index 114 (.agg #[.int .i64 a, .int .i64 b]) (.int .i64 1)).run Try.prog w = .ok (.int .i64 b) w := fun _ => by kernel_rfl
def outJ (Q0 Q1 : List (List Int)) (i : Nat) : Nat → List (List Int)
  | 0 => []
  | 1 => Q0.map (fun c => c.set i 0)
  | _ => Q0.map (fun c => c.set i 0) ++ Q1.map (fun c => c.set i 1)
theorem step_list (X Q : List (List Int)) (f : List Int → List Int) (i : Nat) (h : i < Q.length) : (X ++ ((Q.take i).map f ++ Q.drop i)).set (X.length + i) (f (Q[i]'h)) = X ++ ((Q.take (i + 1)).map f ++ Q.drop (i + 1)) := by
  rw [List.set_append_right _ _ (by omega), Nat.add_sub_cancel_left, List.set_append_right _ _ (by simp; omega)]
  congr 1
  rw [List.take_add_one, List.getElem?_eq_getElem h]
  simp only [Option.toList_some, List.map_append, List.map_cons, List.map_nil, List.append_assoc, List.singleton_append, List.length_map, List.length_take, Nat.min_eq_left (Nat.le_of_lt h), Nat.sub_self]
  congr 1
  rw [List.drop_eq_getElem_cons h]
  rfl
theorem at_list (X Q : List (List Int)) (f : List Int → List Int) (i : Nat) (h : i < Q.length) : (X ++ ((Q.take i).map f ++ Q.drop i))[X.length + i]? = some (Q[i]'h) := by
  rw [List.getElem?_append_right (by omega), Nat.add_sub_cancel_left, List.getElem?_append_right (by simp; omega)]
  simp only [List.length_map, List.length_take, Nat.min_eq_left (Nat.le_of_lt h), Nat.sub_self, List.getElem?_drop, Nat.add_zero]
  exact List.getElem?_eq_getElem h
set_option maxRecDepth 100000 in
set_option maxHeartbeats 4000000 in
theorem rp_0 (v r : Int) (A : Option Addr) (c : Nat) (l : List S106) (w : World) (hC : Kd.C k106 w A l.length l) (h0 : 0 ≤ v) (h12 : v ≤ 12) : Calls Try.prog 113 #[.agg #[.int .i64 v, .slice A l.length c, .int .i64 r], .int .i64 0] w (QPost w v.toNat ([] : List (List Int))) := by
  obtain ⟨n, rfl⟩ : ∃ k : Nat, v = k := ⟨v.toNat, by omega⟩
  rw [Int.toNat_natCast]
  have HC := Aside0.mk hC
  obtain ⟨W0, hW0⟩ : ∃ W, W = w.alloc (.cells #[.int .i64 (n : Int), .slice A l.length c, .int .i64 r] 33) := ⟨_, rfl⟩
  have X0 := Aside0.mk (show Bx w W0 n r A c l by rw [hW0]; exact ⟨below_alloc (Below.refl _ _) _, blk_new _ _⟩)
  have y0 := (blk_cell X0.out.kf 0).trans rfl
  rw [hW0] at y0
  clear hC
  go_enter Try.func113, Try.ntmps113
  go_wp2_with ((with_reducible refine gate_dst (N := 15) rfl ?_); refine mark_ ?_)
  rw [← hW0]
  clear hW0 y0
  refine ⟨?_⟩
  refine Kd.R_make KI (w0 := w) w.heap.size 3 rfl (N := 15) rfl 82 _ _ rfl (n : Int) rfl rfl Try.underlying82 (.int .i64 0) 8 info3 rfl (by decide) (by omega) 0 (ok := fun _ => True) (okp := fun _ => False) rfl (fun _ h => trivial) trivial (by omega) (by rw [Int.toNat_natCast]; omega) X0.out.bel X0.out.bel.size ?_
  intro v2 w2 hR2 hB2 hg2 hne2
  obtain ⟨g, cap, rfl, hgl⟩ := made_slice hR2 (by obtain ⟨b, k1, k2⟩ := hne2; exact ⟨b, k1, Nat.le_trans X0.out.bel.size k2⟩)
  rw [List.length_replicate, Int.toNat_natCast] at hR2
  rw [List.length_replicate, Int.toNat_natCast]
  have X2 := Aside0.mk (show Bx w w2 n r A c l from ⟨hB2, blk_grown X0.out.kf hg2 (by simp)⟩)
  have R2 : Aside0 (KI.R 3 w2 w.heap.size (fun k => k = g) (.slice (some ⟨g, 0, none⟩) n cap) (List.replicate 0 2 ++ List.replicate (n - 0) 0)) := ⟨by
    rw [List.replicate_zero, List.nil_append, Nat.sub_zero]
    exact Kd.R_of_own (Kd.own_of_R hR2) (fun k hk => by injection hk with hk; exact hk.symm)⟩
  clear hR2 hB2 hg2 hne2 hgl X0
  go_wp2
  go_loopg [18] (n) (fun kq v18 w' => ∃ i : Nat, i + kq = n ∧ v18 = .int .i64 i ∧ Aside0 (Bx w w' n r A c l) ∧ Aside0 (KI.R 3 w' w.heap.size (fun k => k = g) (.slice (some ⟨g, 0, none⟩) n cap) (List.replicate i 2 ++ List.replicate (n - i) 0)))
  case atStart => exact ⟨0, by omega, rfl, X2, R2⟩
  case round =>
    clear X2 R2
    obtain ⟨i, hi, rfl, HX, HR⟩ := hrel
    by_cases hlt : i < n
    · have hdec : decide (i < n) = true := decide_eq_true hlt
      have i0 : ((i : Int) < 0) = False := eq_false (by omega)
      have i1 : ((i : Int) < (n : Int)) = True := eq_true (by omega)
      obtain ⟨e2, e3⟩ := Kd.R_celln 0 HR.out (i : Int) (by omega) (by omega)
      have R' := Kd.R_putn HR.out (i : Int) 2
      rw [natCast_toNat_] at e2 e3 R'
      rw [fill_two n i hlt] at R'
      have HR' := Aside0.mk R'
      have HX' := Aside0.mk (HX.out.put HR.out i (.int .i64 2))
      clear R'
      go_wp2
      go_roundg (n - (i + 1))
      case measure => omega
      case rel => exact ⟨i + 1, by omega, by go_num, HX', HR'⟩
    · have hdec : decide (i < n) = false := decide_eq_false hlt
      obtain rfl : i = n := by omega
      have HF : Aside0 (KI.R 3 wr w.heap.size (fun k => k = g) (.slice (some ⟨g, 0, none⟩) i cap) (List.replicate i 2)) := ⟨by
        have := HR.out
        rwa [Nat.sub_self, List.replicate_zero, List.append_nil] at this⟩
      clear HR
      go_wp2
      go_ret
      have hb := lit_R (m := 0) (blk_new wr (.cells #[.slice (some ⟨g, 0, none⟩) i cap] 82)) HX.out.bel.size (by decide)
      exact ⟨_, _, by rfl, Kd.R_mono hb (fun k hk => by rw [hk]; rfl), Rws.nil _ _ _, below_alloc HX.out.bel _⟩
set_option maxRecDepth 100000 in
set_option maxHeartbeats 4000000 in
theorem rp_1 (v r : Int) (A : Option Addr) (c : Nat) (l : List S106) (w : World) (hC : Kd.C k106 w A l.length l) (h0 : 0 ≤ v) (h12 : v ≤ 12) : Calls Try.prog 113 #[.agg #[.int .i64 v, .slice A l.length c, .int .i64 r], .int .i64 1] w (QPost w v.toNat [List.replicate v.toNat 2]) := by
  obtain ⟨n, rfl⟩ : ∃ k : Nat, v = k := ⟨v.toNat, by omega⟩
  rw [Int.toNat_natCast]
  have HC := Aside0.mk hC
  obtain ⟨W0, hW0⟩ : ∃ W, W = w.alloc (.cells #[.int .i64 (n : Int), .slice A l.length c, .int .i64 r] 33) := ⟨_, rfl⟩
  have X0 := Aside0.mk (show Bx w W0 n r A c l by rw [hW0]; exact ⟨below_alloc (Below.refl _ _) _, blk_new _ _⟩)
  have y0 := (blk_cell X0.out.kf 0).trans rfl
  rw [hW0] at y0
  clear hC
  go_enter Try.func113, Try.ntmps113
  go_wp2_with ((with_reducible refine gate_dst (N := 15) rfl ?_); refine mark_ ?_)
  rw [← hW0]
  clear hW0 y0
  refine ⟨?_⟩
  refine Kd.R_make KI (w0 := w) w.heap.size 3 rfl (N := 15) rfl 82 _ _ rfl (n : Int) rfl rfl Try.underlying82 (.int .i64 0) 8 info3 rfl (by decide) (by omega) 0 (ok := fun _ => True) (okp := fun _ => False) rfl (fun _ h => trivial) trivial (by omega) (by rw [Int.toNat_natCast]; omega) X0.out.bel X0.out.bel.size ?_
  intro v2 w2 hR2 hB2 hg2 hne2
  obtain ⟨g, cap, rfl, hgl⟩ := made_slice hR2 (by obtain ⟨b, k1, k2⟩ := hne2; exact ⟨b, k1, Nat.le_trans X0.out.bel.size k2⟩)
  rw [List.length_replicate, Int.toNat_natCast] at hR2
  rw [List.length_replicate, Int.toNat_natCast]
  have X2 := Aside0.mk (show Bx w w2 n r A c l from ⟨hB2, blk_grown X0.out.kf hg2 (by simp)⟩)
  have R2 : Aside0 (KI.R 3 w2 w.heap.size (fun k => k = g) (.slice (some ⟨g, 0, none⟩) n cap) (List.replicate 0 2 ++ List.replicate (n - 0) 0)) := ⟨by
    rw [List.replicate_zero, List.nil_append, Nat.sub_zero]
    exact Kd.R_of_own (Kd.own_of_R hR2) (fun k hk => by injection hk with hk; exact hk.symm)⟩
  clear hR2 hB2 hg2 hne2 hgl X0
  go_wp2
  go_loopg [18] (n) (fun kq v18 w' => ∃ i : Nat, i + kq = n ∧ v18 = .int .i64 i ∧ Aside0 (Bx w w' n r A c l) ∧ Aside0 (KI.R 3 w' w.heap.size (fun k => k = g) (.slice (some ⟨g, 0, none⟩) n cap) (List.replicate i 2 ++ List.replicate (n - i) 0)))
  case atStart => exact ⟨0, by omega, rfl, X2, R2⟩
  case round =>
    clear X2 R2
    obtain ⟨i, hi, rfl, HX, HR⟩ := hrel
    by_cases hlt : i < n
    · have hdec : decide (i < n) = true := decide_eq_true hlt
      have i0 : ((i : Int) < 0) = False := eq_false (by omega)
      have i1 : ((i : Int) < (n : Int)) = True := eq_true (by omega)
      obtain ⟨e2, e3⟩ := Kd.R_celln 0 HR.out (i : Int) (by omega) (by omega)
      have R' := Kd.R_putn HR.out (i : Int) 2
      rw [natCast_toNat_] at e2 e3 R'
      rw [fill_two n i hlt] at R'
      have HR' := Aside0.mk R'
      have HX' := Aside0.mk (HX.out.put HR.out i (.int .i64 2))
      clear R'
      go_wp2
      go_roundg (n - (i + 1))
      case measure => omega
      case rel => exact ⟨i + 1, by omega, by go_num, HX', HR'⟩
    · have hdec : decide (i < n) = false := decide_eq_false hlt
      obtain rfl : i = n := by omega
      have HF : Aside0 (KI.R 3 wr w.heap.size (fun k => k = g) (.slice (some ⟨g, 0, none⟩) i cap) (List.replicate i 2)) := ⟨by
        have := HR.out
        rwa [Nat.sub_self, List.replicate_zero, List.append_nil] at this⟩
      clear HR
      go_wp2
      go_ret
      have hb := lit_R (m := 1) (blk_new wr (.cells #[.slice (some ⟨g, 0, none⟩) i cap] 82)) HX.out.bel.size (by decide)
      exact ⟨_, _, by rfl, Kd.R_mono hb (fun k hk => by rw [hk]; rfl), Rws.one List.length_replicate (Kd.R_alloc HF.out _), below_alloc HX.out.bel _⟩
set_option maxRecDepth 100000 in
set_option maxHeartbeats 4000000 in
theorem rp_on (v r : Int) (A : Option Addr) (c : Nat) (l : List S106) (w : World) (hC : Kd.C k106 w A l.length l) (h0 : 0 ≤ v) (h12 : v ≤ 12) (p : Int) (nd : S106) (Q0 Q1 : List (List Int)) (hp : 2 ≤ p) (hl : p < l.length + 2) (hll : l.length ≤ 1000000000) (hn : nd = rd_T106 l (p - 2)) (f0 : 0 ≤ nd.f0) (f1 : nd.f0 < v) (hq0 : Q0.length ≤ 100000) (hq1 : Q1.length ≤ 100000)
    (IH0 : ∀ W, Below w.heap.size w W → Calls Try.prog 113 #[.agg #[.int .i64 v, .slice A l.length c, .int .i64 r], .int .i64 nd.f1] W (QPost W v.toNat Q0)) (IH1 : ∀ W, Below w.heap.size w W → Calls Try.prog 113 #[.agg #[.int .i64 v, .slice A l.length c, .int .i64 r], .int .i64 nd.f2] W (QPost W v.toNat Q1)) :
    Calls Try.prog 113 #[.agg #[.int .i64 v, .slice A l.length c, .int .i64 r], .int .i64 p] w (QPost w v.toNat (outJ Q0 Q1 nd.f0.toNat 2)) := by
  obtain ⟨n, rfl⟩ : ∃ k : Nat, v = k := ⟨v.toNat, by omega⟩
  rw [Int.toNat_natCast] at IH0 IH1
  rw [Int.toNat_natCast]
  have I0 := Aside0.mk IH0
  have I1 := Aside0.mk IH1
  have HQ := Aside0.mk (And.intro hq0 hq1)
  have HN := Aside0.mk hn
  have HP := Aside0.mk (And.intro hp (And.intro hl hll))
  have HF0 := Aside0.mk (And.intro f0 f1)
  clear IH0 IH1 hq0 hq1 hn hp hl hll f0 f1
  have HC := Aside0.mk hC
  obtain ⟨W0, hW0⟩ : ∃ W, W = w.alloc (.cells #[.int .i64 (n : Int), .slice A l.length c, .int .i64 r] 33) := ⟨_, rfl⟩
  have X0 := Aside0.mk (show Bx w W0 n r A c l by rw [hW0]; exact ⟨below_alloc (Below.refl _ _) _, blk_new _ _⟩)
  have y0 := (blk_cell X0.out.kf 0).trans rfl
  rw [hW0] at y0
  clear hC
  go_enter Try.func113, Try.ntmps113
  go_wp2_with ((with_reducible refine gate_dst (N := 15) rfl ?_); refine mark_ ?_)
  rw [← hW0]
  clear hW0 y0
  refine ⟨?_⟩
  refine Kd.R_make KI (w0 := w) w.heap.size 3 rfl (N := 15) rfl 82 _ _ rfl (n : Int) rfl rfl Try.underlying82 (.int .i64 0) 8 info3 rfl (by decide) (by omega) 0 (ok := fun _ => True) (okp := fun _ => False) rfl (fun _ h => trivial) trivial (by omega) (by rw [Int.toNat_natCast]; omega) X0.out.bel X0.out.bel.size ?_
  intro v2 w2 hR2 hB2 hg2 hne2
  obtain ⟨g, cap, rfl, hgl⟩ := made_slice hR2 (by obtain ⟨b, k1, k2⟩ := hne2; exact ⟨b, k1, Nat.le_trans X0.out.bel.size k2⟩)
  rw [List.length_replicate, Int.toNat_natCast] at hR2
  rw [List.length_replicate, Int.toNat_natCast]
  have X2 := Aside0.mk (show Bx w w2 n r A c l from ⟨hB2, blk_grown X0.out.kf hg2 (by simp)⟩)
  have R2 : Aside0 (KI.R 3 w2 w.heap.size (fun k => k = g) (.slice (some ⟨g, 0, none⟩) n cap) (List.replicate 0 2 ++ List.replicate (n - 0) 0)) := ⟨by
    rw [List.replicate_zero, List.nil_append, Nat.sub_zero]
    exact Kd.R_of_own (Kd.own_of_R hR2) (fun k hk => by injection hk with hk; exact hk.symm)⟩
  clear hR2 hB2 hg2 hne2 hgl X0
  go_wp2
  go_loopg [18] (n) (fun kq v18 w' => ∃ i : Nat, i + kq = n ∧ v18 = .int .i64 i ∧ Aside0 (Bx w w' n r A c l) ∧ Aside0 (KI.R 3 w' w.heap.size (fun k => k = g) (.slice (some ⟨g, 0, none⟩) n cap) (List.replicate i 2 ++ List.replicate (n - i) 0)))
  case atStart => exact ⟨0, by omega, rfl, X2, R2⟩
  case round =>
    clear X2 R2
    obtain ⟨i, hi, rfl, HX, HR⟩ := hrel
    by_cases hlt : i < n
    · have hdec : decide (i < n) = true := decide_eq_true hlt
      have i0 : ((i : Int) < 0) = False := eq_false (by omega)
      have i1 : ((i : Int) < (n : Int)) = True := eq_true (by omega)
      obtain ⟨e2, e3⟩ := Kd.R_celln 0 HR.out (i : Int) (by omega) (by omega)
      have R' := Kd.R_putn HR.out (i : Int) 2
      rw [natCast_toNat_] at e2 e3 R'
      rw [fill_two n i hlt] at R'
      have HR' := Aside0.mk R'
      have HX' := Aside0.mk (HX.out.put HR.out i (.int .i64 2))
      clear R'
      go_wp2
      go_roundg (n - (i + 1))
      case measure => omega
      case rel => exact ⟨i + 1, by omega, by go_num, HX', HR'⟩
    · have hdec : decide (i < n) = false := decide_eq_false hlt
      obtain rfl : i = n := by omega
      have HF : Aside0 (KI.R 3 wr w.heap.size (fun k => k = g) (.slice (some ⟨g, 0, none⟩) i cap) (List.replicate i 2)) := ⟨by
        have := HR.out
        rwa [Nat.sub_self, List.replicate_zero, List.append_nil] at this⟩
      clear HR
      obtain ⟨hp, hl, hll⟩ := HP.out
      have q0 : decide (p ≤ 1) = false := decide_eq_false (by omega)
      have q1 : (p ≤ 1) = False := eq_false (by omega)
      have q4 : wrap64 (p - 2) = p - 2 := by unfold wrap64; omega
      have q5 : (p - 2 < 0) = False := eq_false (by omega)
      have q6 : (p - 2 < (l.length : Int)) = True := eq_true (by omega)
      have j0 := (blk_cell HX.out.kf 1).trans rfl
      obtain ⟨ad, rfl, x0, x1, x2⟩ := at_T106 (Kd.C_below HC.out HX.out.bel) (p - 2) (by omega) (by omega)
      rw [← HN.out] at x0 x1 x2
      obtain ⟨W3, hW3⟩ : ∃ W, W = wr.alloc (.cells #[.int .i64 nd.f0, .int .i64 nd.f1, .int .i64 nd.f2] 106) := ⟨_, rfl⟩
      have hB3 : Below wr.heap.size wr W3 := by rw [hW3]; exact below_alloc (Below.refl _ _) _
      have X3 := Aside0.mk (HX.out.below hB3)
      have KN3 := Aside0.mk (show W3.heap[wr.heap.size]? = some (.cells #[.int .i64 nd.f0, .int .i64 nd.f1, .int .i64 nd.f2] 106 (0, 0)) by rw [hW3]; exact blk_new _ _)
      obtain ⟨gn, hgn⟩ : ∃ k, k = wr.heap.size := ⟨_, rfl⟩
      have hz : Aside0 ((kP i).R 82 W3 w.heap.size (fun _ => True) (.slice none 0 0) []) := ⟨Kd.R_nil _ _ _ _ _⟩
      rw [← hgn] at KN3
      clear hB3 HX HF
      go_wp2
      rw [← hW3, ← hgn]
      clear hW3 j0 x0 x1 x2
      go_loopg [42, 8] 2 (fun kq v42 v8 w' => ∃ (j : Nat) (ps : List (Nat × Nat)), j + kq = 2 ∧ v42 = .int .i64 j ∧ Aside0 (Bx w w' i r (some ad) c l) ∧ Aside0 (w'.heap[gn]? = some (.cells #[.int .i64 nd.f0, .int .i64 nd.f1, .int .i64 nd.f2] 106 (0, 0))) ∧ Aside0 ((kP i).R 82 w' w.heap.size (fun _ => True) v8 ps) ∧ Aside0 (Rws w' w.heap.size i ps (outJ Q0 Q1 nd.f0.toNat j)))
      case atStart => exact ⟨0, [], by omega, rfl, X3, KN3, hz, ⟨Rws.nil _ _ _⟩⟩
      case round =>
        clear X3 KN3 hz hgn
        obtain ⟨j, ps, hj, rfl, HX, HK, HO, HR⟩ := hrel
        obtain rfl | rfl | rfl : j = 0 ∨ j = 1 ∨ j = 2 := by omega
        · have ix := i2q_0 nd.f1 nd.f2
          rw [show ((0 : Nat) : Int) = 0 from rfl]
          have z0 := (blk_cell HX.out.kf 0).trans rfl
          have z1 := (blk_cell HX.out.kf 1).trans rfl
          have z2 := (blk_cell HX.out.kf 2).trans rfl
          go_wp2_with fail
          refine (I0.out wr HX.out.bel).mono ?_
          rintro e w5 ⟨vL, qs, rfl, hH, hQ, hB⟩
          have hlen : qs.length = Q0.length := hQ.1
          have HX5 := Aside0.mk (HX.out.below hB)
          have HK5 := Aside0.mk (blk_below HK.out hB)
          have HO5 := Aside0.mk (Kd.R_below HO.out hB)
          have HL5 := Aside0.mk (Kd.R_lower hH HX.out.bel.size)
          have HR5 : Aside0 (Rws w5 w.heap.size i (ps ++ qs) (outJ Q0 Q1 nd.f0.toNat 0 ++ ((Q0.take 0).map (fun c => c.set nd.f0.toNat 0) ++ Q0.drop 0))) := ⟨(HR.out.below hB).app hQ HX.out.bel.size (fun p hp => (HR.out.blk hp).2)⟩
          have NE5 : Aside0 (∀ k, vL.ownBlock = some k → some k ≠ u8.ownBlock) := ⟨fun k hk e => by have h1 := own_base (Kd.own_of_R hH) k hk; have h2 := Kd.R_lt HO.out k e.symm; omega⟩
          obtain ⟨AL, cL, rfl, hcL, _⟩ := Kd.R_reads hH
          have hm : ps.length = (outJ Q0 Q1 nd.f0.toNat 0).length := HR.out.1
          clear hH hQ hB z0 z1 z2 HX HK HO HR
          go_wp2
          go_loopg [50, 8] (qs.length) (fun kq v50 v8 w' => ∃ (b : Nat) (ps' : List (Nat × Nat)), b + kq = qs.length ∧ v50 = .int .i64 b ∧ ps' = ps ++ qs.take b ∧ Aside0 (Bx w w' i r (some ad) c l) ∧ Aside0 (w'.heap[gn]? = some (.cells #[.int .i64 nd.f0, .int .i64 nd.f1, .int .i64 nd.f2] 106 (0, 0))) ∧ Aside0 ((kP i).R 82 w' w.heap.size (fun k => some k = (Value.slice AL qs.length cL).ownBlock) (.slice AL qs.length cL) qs) ∧ Aside0 ((kP i).R 82 w' w.heap.size (fun _ => True) v8 ps') ∧ Aside0 (Rws w' w.heap.size i (ps ++ qs) (outJ Q0 Q1 nd.f0.toNat 0 ++ ((Q0.take b).map (fun c => c.set nd.f0.toNat 0) ++ Q0.drop b))) ∧ Aside0 (∀ k, (Value.slice AL qs.length cL).ownBlock = some k → some k ≠ v8.ownBlock))
          case atStart => exact ⟨0, ps, by omega, rfl, by rw [List.take_zero, List.append_nil], HX5, HK5, HL5, HO5, HR5, NE5⟩
          case round =>
            clear HX5 HK5 HL5 HO5 HR5 NE5
            obtain ⟨b, ps', hb, rfl, rfl, HX, HK, HL, HO, HR, NE⟩ := hrel
            by_cases hlt : b < qs.length
            · have hdec : decide (b < qs.length) = true := decide_eq_true hlt
              obtain ⟨gL, capL, eL, _, _, _⟩ := Kd.R_form HL.out (by omega)
              injection eL with eA _ eC
              subst eA
              subst eC
              obtain ⟨q, hqq⟩ : ∃ q, qs[b]? = some q := ⟨_, List.getElem?_eq_getElem hlt⟩
              have c0 := (Kd.R_celln (0, 0) HL.out (b : Int) (by omega) (by omega)).1
              rw [natCast_toNat_, show rdOf (0, 0) qs (b : Int) = q by simp [rdOf, hqq]] at c0
              have hqb : (ps ++ qs)[ps.length + b]? = some q := by rw [List.getElem?_append_right (by omega), Nat.add_sub_cancel_left]; exact hqq
              have hbQ : b < Q0.length := by omega
              have hat := at_list (outJ Q0 Q1 nd.f0.toNat 0) Q0 (fun c => c.set nd.f0.toNat 0) b hbQ
              rw [← hm] at hat
              obtain ⟨hxl, hRow⟩ := HR.out.row hqb hat
              obtain ⟨f0, f1⟩ := HF0.out
              obtain ⟨e2, e3⟩ := Kd.R_celln 0 hRow nd.f0 f0 (by omega)
              obtain ⟨_, cur, hcur⟩ := row_blk hRow
              have HR1 := HR.out.put hqb hat nd.f0 0
              rw [hm, step_list _ _ (fun c => c.set nd.f0.toNat 0) b hbQ] at HR1
              replace HR1 := Aside0.mk HR1
              have HX1 := Aside0.mk (HX.out.put hRow nd.f0.toNat (.int .i64 0))
              have HK1 := Aside0.mk (blk_far (p := ⟨q.1, nd.f0.toNat, none⟩) HK.out (blk_ne HK.out hcur (by decide)) (.int .i64 0))
              have HL1 := Aside0.mk (Kd.R_set HL.out hcur (kP_ne i) nd.f0.toNat (.int .i64 0))
              have HO1 := Aside0.mk (Kd.R_set HO.out hcur (kP_ne i) nd.f0.toNat (.int .i64 0))
              have f3 := (blk_cell HK.out 0).trans rfl
              have i0 : (nd.f0 < 0) = False := eq_false (by omega)
              have i1 : (nd.f0 < (i : Int)) = True := eq_true f1
              have b0 : ((b : Int) < 0) = False := eq_false (by omega)
              have b1 : ((b : Int) < (qs.length : Int)) = True := eq_true (by omega)
              have hq := HQ.out
              have h2 : (outJ Q0 Q1 nd.f0.toNat 0).length ≤ 200000 := by simp only [outJ, List.length_nil, List.length_map]; omega
              have hal : Aside0 (((ps ++ qs.take b).length + 1) * 24 ≤ 140737488355328) := ⟨by rw [List.length_append, List.length_take]; omega⟩
              have HLT : Aside0 (∀ k, (Value.slice (some ⟨gL, 0, none⟩) qs.length cL).ownBlock = some k → k < (wr.setCell ⟨q.1, nd.f0.toNat, none⟩ (.int .i64 0)).heap.size) := ⟨fun k hk => Kd.R_lt HL1.out k hk⟩
              have hql : Aside0 ((ps ++ qs.take b) ++ [q] = ps ++ qs.take (b + 1)) := ⟨by rw [List.take_add_one, hqq, List.append_assoc]; rfl⟩
              clear hRow hxl hat hcur HX HK HL HO HR
              go_wp2_with (at_builtin; refine mark_ ?_)
              refine ⟨?_⟩
              refine Kd.R_append (kP i) (w0 := w) (W := wr.setCell ⟨q.1, nd.f0.toNat, none⟩ (.int .i64 0)) w.heap.size rfl (.tmp 59) (.tmp 61) 77 82 _ 24 rfl Try.underlying77 info82 rfl (show 0 < 1 by decide) (by decide) u8 (ps ++ qs.take b) q [.slice (some ⟨q.1, 0, none⟩) i q.2] (fun _ => True) (fun _ => False) rfl (by rw [scs_]; rfl) rfl (fun _ h => h.elim) (fun _ _ => trivial) HO1.out HX1.out.bel HX1.out.bel.size hal.out ?_
              intro v9 w9 hR9 hB9 hg9 hat9
              rw [hql.out] at hR9
              have HX9 := Aside0.mk (HX1.out.grown HO1.out hg9)
              have HK9 := Aside0.mk (blk_grown HK1.out hg9 (Kd.R_ne HO1.out HK1.out (by decide)))
              have HL9 := Aside0.mk (Kd.R_grown HL1.out hg9 (fun k hk => NE.out k hk.symm))
              have HR9 := Aside0.mk (HR1.out.grown HO1.out hg9)
              have HO9 := Aside0.mk hR9
              have NE9 : Aside0 (∀ k, (Value.slice (some ⟨gL, 0, none⟩) qs.length cL).ownBlock = some k → some k ≠ v9.ownBlock) := Aside0.mk (fun k hk => hat9.elim (fun e => e.symm ▸ NE.out k hk) (fun ⟨bb, e, hge⟩ e2 => by rw [e] at e2; injection e2 with e2; have := HLT.out k hk; omega))
              clear hR9 hB9 hg9 hat9
              go_wp2
              go_roundg (qs.length - (b + 1))
              case measure => omega
              case rel => exact ⟨b + 1, _, by omega, by go_num, rfl, HX9, HK9, HL9, HO9, HR9, NE9⟩
            · have hdec : decide (b < qs.length) = false := decide_eq_false hlt
              obtain rfl : b = qs.length := by omega
              go_wp2
              go_roundg (2 - (0 + 1))
              case measure => omega
              case rel => exact ⟨1, _, by omega, by go_num, HX, HK, HO, ⟨by have := HR.out; rw [List.take_length] at *; rw [hlen, List.take_length, List.drop_length, List.append_nil] at this; exact this⟩⟩
        · have ix := i2q_1 nd.f1 nd.f2
          rw [show ((1 : Nat) : Int) = 1 from rfl]
          have z0 := (blk_cell HX.out.kf 0).trans rfl
          have z1 := (blk_cell HX.out.kf 1).trans rfl
          have z2 := (blk_cell HX.out.kf 2).trans rfl
          go_wp2_with fail
          refine (I1.out wr HX.out.bel).mono ?_
          rintro e w5 ⟨vL, qs, rfl, hH, hQ, hB⟩
          have hlen : qs.length = Q1.length := hQ.1
          have HX5 := Aside0.mk (HX.out.below hB)
          have HK5 := Aside0.mk (blk_below HK.out hB)
          have HO5 := Aside0.mk (Kd.R_below HO.out hB)
          have HL5 := Aside0.mk (Kd.R_lower hH HX.out.bel.size)
          have HR5 : Aside0 (Rws w5 w.heap.size i (ps ++ qs) (outJ Q0 Q1 nd.f0.toNat 1 ++ ((Q1.take 0).map (fun c => c.set nd.f0.toNat 1) ++ Q1.drop 0))) := ⟨(HR.out.below hB).app hQ HX.out.bel.size (fun p hp => (HR.out.blk hp).2)⟩
          have NE5 : Aside0 (∀ k, vL.ownBlock = some k → some k ≠ u8.ownBlock) := ⟨fun k hk e => by have h1 := own_base (Kd.own_of_R hH) k hk; have h2 := Kd.R_lt HO.out k e.symm; omega⟩
          obtain ⟨AL, cL, rfl, hcL, _⟩ := Kd.R_reads hH
          have hm : ps.length = (outJ Q0 Q1 nd.f0.toNat 1).length := HR.out.1
          clear hH hQ hB z0 z1 z2 HX HK HO HR
          go_wp2
          go_loopg [50, 8] (qs.length) (fun kq v50 v8 w' => ∃ (b : Nat) (ps' : List (Nat × Nat)), b + kq = qs.length ∧ v50 = .int .i64 b ∧ ps' = ps ++ qs.take b ∧ Aside0 (Bx w w' i r (some ad) c l) ∧ Aside0 (w'.heap[gn]? = some (.cells #[.int .i64 nd.f0, .int .i64 nd.f1, .int .i64 nd.f2] 106 (0, 0))) ∧ Aside0 ((kP i).R 82 w' w.heap.size (fun k => some k = (Value.slice AL qs.length cL).ownBlock) (.slice AL qs.length cL) qs) ∧ Aside0 ((kP i).R 82 w' w.heap.size (fun _ => True) v8 ps') ∧ Aside0 (Rws w' w.heap.size i (ps ++ qs) (outJ Q0 Q1 nd.f0.toNat 1 ++ ((Q1.take b).map (fun c => c.set nd.f0.toNat 1) ++ Q1.drop b))) ∧ Aside0 (∀ k, (Value.slice AL qs.length cL).ownBlock = some k → some k ≠ v8.ownBlock))
          case atStart => exact ⟨0, ps, by omega, rfl, by rw [List.take_zero, List.append_nil], HX5, HK5, HL5, HO5, HR5, NE5⟩
          case round =>
            clear HX5 HK5 HL5 HO5 HR5 NE5
            obtain ⟨b, ps', hb, rfl, rfl, HX, HK, HL, HO, HR, NE⟩ := hrel
            by_cases hlt : b < qs.length
            · have hdec : decide (b < qs.length) = true := decide_eq_true hlt
              obtain ⟨gL, capL, eL, _, _, _⟩ := Kd.R_form HL.out (by omega)
              injection eL with eA _ eC
              subst eA
              subst eC
              obtain ⟨q, hqq⟩ : ∃ q, qs[b]? = some q := ⟨_, List.getElem?_eq_getElem hlt⟩
              have c0 := (Kd.R_celln (0, 0) HL.out (b : Int) (by omega) (by omega)).1
              rw [natCast_toNat_, show rdOf (0, 0) qs (b : Int) = q by simp [rdOf, hqq]] at c0
              have hqb : (ps ++ qs)[ps.length + b]? = some q := by rw [List.getElem?_append_right (by omega), Nat.add_sub_cancel_left]; exact hqq
              have hbQ : b < Q1.length := by omega
              have hat := at_list (outJ Q0 Q1 nd.f0.toNat 1) Q1 (fun c => c.set nd.f0.toNat 1) b hbQ
              rw [← hm] at hat
              obtain ⟨hxl, hRow⟩ := HR.out.row hqb hat
              obtain ⟨f0, f1⟩ := HF0.out
              obtain ⟨e2, e3⟩ := Kd.R_celln 0 hRow nd.f0 f0 (by omega)
              obtain ⟨_, cur, hcur⟩ := row_blk hRow
              have HR1 := HR.out.put hqb hat nd.f0 1
              rw [hm, step_list _ _ (fun c => c.set nd.f0.toNat 1) b hbQ] at HR1
              replace HR1 := Aside0.mk HR1
              have HX1 := Aside0.mk (HX.out.put hRow nd.f0.toNat (.int .i64 1))
              have HK1 := Aside0.mk (blk_far (p := ⟨q.1, nd.f0.toNat, none⟩) HK.out (blk_ne HK.out hcur (by decide)) (.int .i64 1))
              have HL1 := Aside0.mk (Kd.R_set HL.out hcur (kP_ne i) nd.f0.toNat (.int .i64 1))
              have HO1 := Aside0.mk (Kd.R_set HO.out hcur (kP_ne i) nd.f0.toNat (.int .i64 1))
              have f3 := (blk_cell HK.out 0).trans rfl
              have i0 : (nd.f0 < 0) = False := eq_false (by omega)
              have i1 : (nd.f0 < (i : Int)) = True := eq_true f1
              have b0 : ((b : Int) < 0) = False := eq_false (by omega)
              have b1 : ((b : Int) < (qs.length : Int)) = True := eq_true (by omega)
              have hq := HQ.out
              have h2 : (outJ Q0 Q1 nd.f0.toNat 1).length ≤ 200000 := by simp only [outJ, List.length_nil, List.length_map]; omega
              have hal : Aside0 (((ps ++ qs.take b).length + 1) * 24 ≤ 140737488355328) := ⟨by rw [List.length_append, List.length_take]; omega⟩
              have HLT : Aside0 (∀ k, (Value.slice (some ⟨gL, 0, none⟩) qs.length cL).ownBlock = some k → k < (wr.setCell ⟨q.1, nd.f0.toNat, none⟩ (.int .i64 1)).heap.size) := ⟨fun k hk => Kd.R_lt HL1.out k hk⟩
              have hql : Aside0 ((ps ++ qs.take b) ++ [q] = ps ++ qs.take (b + 1)) := ⟨by rw [List.take_add_one, hqq, List.append_assoc]; rfl⟩
              clear hRow hxl hat hcur HX HK HL HO HR
              go_wp2_with (at_builtin; refine mark_ ?_)
              refine ⟨?_⟩
              refine Kd.R_append (kP i) (w0 := w) (W := wr.setCell ⟨q.1, nd.f0.toNat, none⟩ (.int .i64 1)) w.heap.size rfl (.tmp 59) (.tmp 61) 77 82 _ 24 rfl Try.underlying77 info82 rfl (show 0 < 1 by decide) (by decide) u8 (ps ++ qs.take b) q [.slice (some ⟨q.1, 0, none⟩) i q.2] (fun _ => True) (fun _ => False) rfl (by rw [scs_]; rfl) rfl (fun _ h => h.elim) (fun _ _ => trivial) HO1.out HX1.out.bel HX1.out.bel.size hal.out ?_
              intro v9 w9 hR9 hB9 hg9 hat9
              rw [hql.out] at hR9
              have HX9 := Aside0.mk (HX1.out.grown HO1.out hg9)
              have HK9 := Aside0.mk (blk_grown HK1.out hg9 (Kd.R_ne HO1.out HK1.out (by decide)))
              have HL9 := Aside0.mk (Kd.R_grown HL1.out hg9 (fun k hk => NE.out k hk.symm))
              have HR9 := Aside0.mk (HR1.out.grown HO1.out hg9)
              have HO9 := Aside0.mk hR9
              have NE9 : Aside0 (∀ k, (Value.slice (some ⟨gL, 0, none⟩) qs.length cL).ownBlock = some k → some k ≠ v9.ownBlock) := Aside0.mk (fun k hk => hat9.elim (fun e => e.symm ▸ NE.out k hk) (fun ⟨bb, e, hge⟩ e2 => by rw [e] at e2; injection e2 with e2; have := HLT.out k hk; omega))
              clear hR9 hB9 hg9 hat9
              go_wp2
              go_roundg (qs.length - (b + 1))
              case measure => omega
              case rel => exact ⟨b + 1, _, by omega, by go_num, rfl, HX9, HK9, HL9, HO9, HR9, NE9⟩
            · have hdec : decide (b < qs.length) = false := decide_eq_false hlt
              obtain rfl : b = qs.length := by omega
              go_wp2
              go_roundg (2 - (1 + 1))
              case measure => omega
              case rel => exact ⟨2, _, by omega, by go_num, HX, HK, HO, ⟨by have := HR.out; rw [List.take_length] at *; rw [hlen, List.take_length, List.drop_length, List.append_nil] at this; exact this⟩⟩
        · have y8 := Kd.R_reads HO.out
          go_wp2
          go_ret
          exact ⟨_, ps, by rfl, Kd.R_of_own (Kd.own_of_R HO.out) (fun k hk => hk.symm), HR.out, HX.out.bel⟩
end Go.Proofs.Ytlplphgoldkoeaa.HTab
end

section
set_option linter.unusedVariables false
set_option linter.unusedSimpArgs false
namespace Go.Proofs.Ytlplphgoldkoeaa.X
open Go.RowKit Go.Proofs.YtlplphgoldkoeaaW.PrintWords Go.Proofs.YtlplphgoldkoeaaW.PrintLast Go.Proofs.YtlplphgoldkoeaaW.PrintMore
attribute [local go_sem] max2_int min2_int max_two min_two max_three min_three max_four min_four   -- for this text's walks alone
set_option linter.unusedVariables false
set_option linter.unusedSimpArgs false
def slices_Equal_int_int.l0 : Nat → List Int → List Int → Int → Int → Option (Bool)
  | 0, _, _, _, _ => none
  | k + 1, x0, x1, x12, x13 => if x13 < x12 then (if 0 ≤ x13 then (if x13 < (x0.length : Int) then (if x13 < (x1.length : Int) then (if (rd x0 x13) = (rd x1 x13) then (slices_Equal_int_int.l0 k x0 x1 x12 (wrap64 (x13 + 1))) else (some false)) else (none)) else (none)) else (none)) else (some true)
def slices_Equal_int_int.f (k : Nat) (l0 : List Int) (l1 : List Int) : Option (Bool) := if (l0.length : Int) = (l1.length : Int) then (slices_Equal_int_int.l0 k l0 l1 (l0.length : Int) 0) else (some false)
theorem slices_Equal_int_int.mono_l : ∀ k, (∀ y0 y1 y2 y3, LeO (slices_Equal_int_int.l0 k y0 y1 y2 y3) (slices_Equal_int_int.l0 (k + 1) y0 y1 y2 y3))
  | 0 => fun _ _ _ _ r h => by simp [slices_Equal_int_int.l0] at h
  | k + 1 => by
    have ih0 := slices_Equal_int_int.mono_l k
    · intro y0 y1 y2 y3
      unfold slices_Equal_int_int.l0
      repeat' first
      | (with_reducible exact ih0 _ _ _ _)
      | (with_reducible exact LeO.refl _)
      | (with_reducible exact LeO.none _)
      | (with_reducible refine LeO.ite ?_ ?_)
      | (with_reducible refine LeO.bind ?_ (fun _ => ?_))
      | exact ih0 _ _ _ _
      | exact LeO.none _
      | refine LeO.ite ?_ ?_
      | refine LeO.bind ?_ (fun _ => ?_)
theorem slices_Equal_int_int.mono : ∀ a0 a1 k, LeO (slices_Equal_int_int.f k a0 a1) (slices_Equal_int_int.f (k + 1) a0 a1) := by
  intro a0 a1 k
  have ih0 := slices_Equal_int_int.mono_l k
  unfold slices_Equal_int_int.f
  repeat' first
      | (with_reducible exact ih0 _ _ _ _)
      | (with_reducible exact LeO.refl _)
      | (with_reducible exact LeO.none _)
      | (with_reducible refine LeO.ite ?_ ?_)
      | (with_reducible refine LeO.bind ?_ (fun _ => ?_))
      | exact ih0 _ _ _ _
      | exact LeO.none _
      | refine LeO.ite ?_ ?_
      | refine LeO.bind ?_ (fun _ => ?_)
set_option maxHeartbeats 8000000 in
set_option maxRecDepth 100000 in
theorem slices_Equal_int_int.calls (k : Nat) (A0 : Option Addr) (c0 : Nat) (l0 : List Int) (A1 : Option Addr) (c1 : Nat) (l1 : List Int) (r : Bool) (w : World) (hr0 : Kd.C (Kd.int .i64) w A0 l0.length l0) (hc0 : l0.length ≤ c0) (hr1 : Kd.C (Kd.int .i64) w A1 l1.length l1) (hc1 : l1.length ≤ c1) (h : slices_Equal_int_int.f k l0 l1 = some r) :
    Calls Try.prog 66 #[.slice A0 l0.length c0, .slice A1 l1.length c1] w fun e w' => e = .returned (.bool r) ∧ Drawn0 w w' := by
  have HR0 := Aside0.mk hr0
  have HC0 := Aside0.mk hc0
  clear hr0 hc0
  have HR1 := Aside0.mk hr1
  have HC1 := Aside0.mk hc1
  clear hr1 hc1
  have H : (if (l0.length : Int) = (l1.length : Int) then (slices_Equal_int_int.l0 k l0 l1 (l0.length : Int) 0) else (some false)) = some r := h
  clear h
  by_cases c3 : (l0.length : Int) = (l1.length : Int)
  · rw [if_pos c3] at H
    have c3b0 : ((l0.length : Int) == (l1.length : Int)) = true := beq_iff_eq.mpr c3
    have c3b1 : ((l0.length : Int) != (l1.length : Int)) = false := bne_eq_false_iff_eq.mpr c3
    have c3b2 : (l0.length == l1.length) = true := by first | simpa using c3 | (simp at c3 ⊢; omega)
    clear c3
    have H' := Aside0.mk H
    clear H
    go_enter Try.func66, Try.ntmps66
    go_wp2
    repeat (go_quiet (fail); try go_wp2)
    go_loopg [13] k (fun kq v13 w' => ∃ (x13_1 : Int), v13 = .int .i64 x13_1 ∧ Aside0 (slices_Equal_int_int.l0 kq l0 l1 (l0.length : Int) x13_1 = some r) ∧ Aside0 (kq ≤ k) ∧ Drawn0 w w')
    case atStart => exact ⟨(0), (by first | rfl | (simp; done) | (simp [*]; done)), H', ⟨Nat.le_refl _⟩, by repeat (first | exact Drawn0.refl _ | apply Drawn0.step)⟩
    case round =>
      clear H'
      try clear c1
      try clear p2
      try clear c3
      try clear c3b0
      try clear c3b1
      try clear c3b2
      obtain ⟨x13_1, rfl, HA, HK1, ⟨m1, rfl⟩⟩ := hrel
      cases gk with
      | zero => exact absurd HA.out (by simp [slices_Equal_int_int.l0])
      | succ k1 =>
        have H := HA.out
        clear HA
        simp only [slices_Equal_int_int.l0] at H
        by_cases c4 : x13_1 < (l0.length : Int)
        · rw [if_pos c4] at H
          have c4b0 : decide (x13_1 < (l0.length : Int)) = true := decide_eq_true c4
          clear c4
          by_cases c5 : 0 ≤ x13_1
          · rw [if_pos c5] at H
            have c5b0 : decide (0 ≤ x13_1) = true := decide_eq_true c5
            clear c5
            by_cases c6 : x13_1 < (l0.length : Int)
            · rw [if_pos c6] at H
              have c6b0 : decide (x13_1 < (l0.length : Int)) = true := decide_eq_true c6
              clear c6
              by_cases c7 : x13_1 < (l1.length : Int)
              · rw [if_pos c7] at H
                have c7b0 : decide (x13_1 < (l1.length : Int)) = true := decide_eq_true c7
                clear c7
                by_cases c8 : (rd l0 x13_1) = (rd l1 x13_1)
                · rw [if_pos c8] at H
                  have c8b0 : ((rd l0 x13_1) == (rd l1 x13_1)) = true := beq_iff_eq.mpr c8
                  have c8b1 : ((rd l0 x13_1) != (rd l1 x13_1)) = false := bne_eq_false_iff_eq.mpr c8
                  clear c8
                  have H' := Aside0.mk H
                  clear H
                  have p908 : 0 ≤ (x13_1 : Int) := of_decide_eq_true (by first | (with_reducible assumption) | assumption)
                  have q908 : x13_1 < (l0.length : Int) := of_decide_eq_true (by first | (with_reducible assumption) | assumption)
                  obtain ⟨ad908, e908, hx908_0⟩ := Kd.at_int HR0.out x13_1 p908 q908
                  cases e908
                  replace p908 := eq_true p908
                  replace q908 := eq_true q908
                  have p909 : 0 ≤ (x13_1 : Int) := of_decide_eq_true (by first | (with_reducible assumption) | assumption)
                  have q909 : x13_1 < (l1.length : Int) := of_decide_eq_true (by first | (with_reducible assumption) | assumption)
                  obtain ⟨ad909, e909, hx909_0⟩ := Kd.at_int HR1.out x13_1 p909 q909
                  cases e909
                  replace p909 := eq_true p909
                  replace q909 := eq_true q909
                  go_wp2
                  repeat (go_quiet (fail); try go_wp2)
                  go_roundg k1
                  case measure => have := HK1.out; omega
                  case rel => exact ⟨(wrap64 (x13_1 + 1)), (by first | rfl | (simp; done) | (simp [*]; done)), H', ⟨by have := HK1.out; omega⟩, by repeat (first | exact Drawn0.refl _ | apply Drawn0.step)⟩
                · rw [if_neg c8] at H
                  have c8b0 : ((rd l0 x13_1) == (rd l1 x13_1)) = false := beq_eq_false_iff_ne.mpr c8
                  have c8b1 : ((rd l0 x13_1) != (rd l1 x13_1)) = true := bne_iff_ne.mpr c8
                  obtain rfl := Option.some.inj H
                  have p908 : 0 ≤ (x13_1 : Int) := of_decide_eq_true (by first | (with_reducible assumption) | assumption)
                  have q908 : x13_1 < (l0.length : Int) := of_decide_eq_true (by first | (with_reducible assumption) | assumption)
                  obtain ⟨ad908, e908, hx908_0⟩ := Kd.at_int HR0.out x13_1 p908 q908
                  cases e908
                  replace p908 := eq_true p908
                  replace q908 := eq_true q908
                  have p909 : 0 ≤ (x13_1 : Int) := of_decide_eq_true (by first | (with_reducible assumption) | assumption)
                  have q909 : x13_1 < (l1.length : Int) := of_decide_eq_true (by first | (with_reducible assumption) | assumption)
                  obtain ⟨ad909, e909, hx909_0⟩ := Kd.at_int HR1.out x13_1 p909 q909
                  cases e909
                  replace p909 := eq_true p909
                  replace q909 := eq_true q909
                  go_wp2
                  repeat (go_quiet (fail); try go_wp2)
                  go_ret
                  exact ⟨by first | rfl | (simp; done) | (simp [*]; done), by repeat (first | exact Drawn0.refl _ | apply Drawn0.step)⟩
              · rw [if_neg c7] at H
                exact absurd H (by simp)
            · rw [if_neg c6] at H
              exact absurd H (by simp)
          · rw [if_neg c5] at H
            exact absurd H (by simp)
        · rw [if_neg c4] at H
          have c4b0 : decide (x13_1 < (l0.length : Int)) = false := decide_eq_false c4
          clear c4
          obtain rfl := Option.some.inj H
          go_wp2
          repeat (go_quiet (fail); try go_wp2)
          go_ret
          exact ⟨by first | rfl | (simp; done) | (simp [*]; done), by repeat (first | exact Drawn0.refl _ | apply Drawn0.step)⟩
  · rw [if_neg c3] at H
    have c3b0 : ((l0.length : Int) == (l1.length : Int)) = false := beq_eq_false_iff_ne.mpr c3
    have c3b1 : ((l0.length : Int) != (l1.length : Int)) = true := bne_iff_ne.mpr c3
    have c3b2 : (l0.length == l1.length) = false := by first | simpa using c3 | (simp at c3 ⊢; omega)
    obtain rfl := Option.some.inj H
    go_enter Try.func66, Try.ntmps66
    go_wp2
    repeat (go_quiet (fail); try go_wp2)
    go_ret
    exact ⟨by first | rfl | (simp; done) | (simp [*]; done), by repeat (first | exact Drawn0.refl _ | apply Drawn0.step)⟩
end Go.Proofs.Ytlplphgoldkoeaa.X
end
