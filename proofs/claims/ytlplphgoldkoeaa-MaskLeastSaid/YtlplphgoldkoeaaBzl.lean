/- Lemmas of the masks: part Bzl. -/
import Derived.Test.YtlplphgoldkoeaaBzk
import Derived.Test.YtlplphgoldkoeaaBzb
import Derived.Test.YtlplphgoldkoeaaBp
import Derived.Test.YtlplphgoldkoeaaBh
import Derived.ChangeKeysEq
import Derived.Deep.LoopGhost
import Derived.Test.YtlplphgoldkoeaaBzc
import Derived.Test.YtlplphgoldkoeaaBk
section
set_option linter.unusedVariables false
set_option linter.unusedSimpArgs false
namespace Go.Proofs.Ytlplphgoldkoeaa.HTab
open Go.RowKit Go.Proofs.YtlplphgoldkoeaaW.PrintWords Go.Proofs.YtlplphgoldkoeaaW.PrintLast Go.Proofs.YtlplphgoldkoeaaW.PrintMore Go.Proofs.Ytlplphgoldkoeaa.HMap Go.Proofs.Ytlplphgoldkoeaa.X
open Go.ChangeMaps (setBlock)
set_option linter.unusedVariables false
set_option linter.unusedSimpArgs false
def encP (p : Int × Int) : Value := .agg #[.int .i64 p.1, .int .i64 p.2]
abbrev WV := Int × Option Addr × Nat × Nat
def encW (x : WV) : Value := .agg #[.int .i64 x.1, .slice x.2.1 x.2.2.1 x.2.2.2]
theorem keyP_eq (a b : Int × Int) : (decide (a = b)) = (a.1 == b.1 && a.2 == b.2) := by
  rw [Bool.eq_iff_iff]
  cases a; cases b; simp
theorem keyP : MKey Try.prog 114 encP where
  check w em x := by
    unfold encP
    kernel_rfl
  und := ⟨_, Try.underlying114, .inl fun x y => by rfl⟩
  eq w x y := by
    unfold encP
    rw [keyP_eq]
    show (Op.equalIn (9999 + 1) 114 _ _).run Try.prog w = _
    obtain ⟨i, hi⟩ : ∃ i, Try.prog.info? 3 = some i := info_of_underlying Try.underlying3
    rw [run_equalIn_array w 9999 _ _ Try.underlying114 hi]
    have hc : Try.prog.cellsOf 3 = 1 := by kernel_rfl
    have hr : List.range 2 = [0, 1] := by decide
    rw [hc, hr]
    have p0 : ∀ a b : Int, (part 3 #[Value.int IntKind.i64 a, Value.int IntKind.i64 b] (0 * 1)).run Try.prog w = .ok (.int .i64 a) w := fun a b => by go_simp
    have p1 : ∀ a b : Int, (part 3 #[Value.int IntKind.i64 a, Value.int IntKind.i64 b] (1 * 1)).run Try.prog w = .ok (.int .i64 b) w := fun a b => by go_simp
    have e0 : ∀ a b : Int, (Op.equalIn 9999 3 (.int .i64 a) (.int .i64 b)).run Try.prog w = .ok (a == b) w := fun a b => by go_simp
    have p1' : ∀ a b : Int, (part 3 #[Value.int IntKind.i64 a, Value.int IntKind.i64 b] 1).run Try.prog w = .ok (.int .i64 b) w := p1
    simp only [Op.eqItems, Sem.run_bind, p0, p1, e0, Result.andThen_ok]
    cases x.1 == y.1 <;> cases h2 : x.2 == y.2 <;> simp [p1', e0, h2]
  same x := by
    unfold encP
    simp [Instr.sameBits]
def fnF (gf gs gt gb gn : Nat) : Value := .func (.func 122) #[] #[.pointer (some ⟨gf, 0, none⟩), .pointer (some ⟨gs, 0, none⟩), .pointer (some ⟨gt, 0, none⟩), .pointer (some ⟨gb, 0, none⟩), .pointer (some ⟨gn, 0, none⟩)]
structure Fw (w : World) (S : Nat → Prop) (gf gs gt gb gn t mc ms : Nat) (v r : Int) (A : Option Addr) (c : Nat) (l : List S107) (T : TB) (L : SL) (M : List ((Int × Int) × WV)) : Prop where
  kf : w.heap[gf]? = some (.cells #[.int .i64 v, .slice A l.length c, .int .i64 r] 28 (0, 0))
  ks : w.heap[gs]? = some (.cells #[.map (some ms)] 144 (0, 0))
  kt : w.heap[gt]? = some (.cells #[.pointer (some ⟨t, 0, none⟩)] 109 (0, 0))
  kb : w.heap[gb]? = some (.cells #[.map (some mc)] 121 (0, 0))
  kn : w.heap[gn]? = some (.cells #[fnF gf gs gt gb gn] 145 (0, 0))
  it : It w S t T mc L
  sm : MapIs encP encW w ms M
  nS : ¬ S gf ∧ ¬ S gs ∧ ¬ S gt ∧ ¬ S gb ∧ ¬ S gn ∧ ¬ S ms
  ne : ms ≠ mc
section
variable {w w' w0 : World} {S S' : Nat → Prop} {gf gs gt gb gn t mc ms : Nat} {v r : Int} {A : Option Addr} {c : Nat} {l : List S107} {T T' : TB} {L L' : SL} {M M' : List ((Int × Int) × WV)}
theorem Fw.below (h : Fw w S gf gs gt gb gn t mc ms v r A c l T L M) (hb : Below w.heap.size w w') : Fw w' S gf gs gt gb gn t mc ms v r A c l T L M :=
  ⟨blk_below h.kf hb, blk_below h.ks hb, blk_below h.kt hb, blk_below h.kb hb, blk_below h.kn hb, h.it.below hb, h.sm.move (hb.block ms h.sm.lt), h.nS, h.ne⟩
theorem Fw.bound (h : Fw w S gf gs gt gb gn t mc ms v r A c l T L M) : Fw w (fun k => S k ∧ k < w.heap.size) gf gs gt gb gn t mc ms v r A c l T L M :=
  ⟨h.kf, h.ks, h.kt, h.kb, h.kn, h.it.bound, h.sm, ⟨fun q => h.nS.1 q.1, fun q => h.nS.2.1 q.1, fun q => h.nS.2.2.1 q.1, fun q => h.nS.2.2.2.1 q.1, fun q => h.nS.2.2.2.2.1 q.1, fun q => h.nS.2.2.2.2.2 q.1⟩, h.ne⟩
theorem Fw.ite (h : Fw w S gf gs gt gb gn t mc ms v r A c l T L M) (hF : Fr (fun k => S k ∨ k = mc) w w') (hI : It w' S' t T' mc L') (hs : ∀ k, S' k → S k ∨ w.heap.size ≤ k) : Fw w' S' gf gs gt gb gn t mc ms v r A c l T' L' M := by
  have n1 := map_off h.it.map h.kf
  have n2 := map_off h.it.map h.ks
  have n3 := map_off h.it.map h.kt
  have n4 := map_off h.it.map h.kb
  have n5 := map_off h.it.map h.kn
  obtain ⟨m1, m2, m3, m4, m5, m6⟩ := h.nS
  have bl : ∀ {g : Nat} {o : Obj}, w.heap[g]? = some o → ¬ S g → g ≠ mc → w'.heap[g]? = some o := fun hk a b => (hF.block _ (blk_lt hk) (fun q => q.elim a b)).trans hk
  have nn : ∀ {g : Nat} {o : Obj}, w.heap[g]? = some o → ¬ S g → ¬ S' g := fun hk a q => (hs _ q).elim a (fun q => by have := blk_lt hk; omega)
  exact ⟨bl h.kf m1 n1, bl h.ks m2 n2, bl h.kt m3 n3, bl h.kb m4 n4, bl h.kn m5 n5, hI, h.sm.move (hF.block ms h.sm.lt (fun q => q.elim m6 h.ne)), ⟨nn h.kf m1, nn h.ks m2, nn h.kt m3, nn h.kb m4, nn h.kn m5, fun q => (hs _ q).elim m6 (fun q => by have := h.sm.lt; omega)⟩, h.ne⟩
theorem Fw.memo (h : Fw w S gf gs gt gb gn t mc ms v r A c l T L M) {o : Obj} (hM : MapIs encP encW (setBlock w ms o) ms M') : Fw (setBlock w ms o) S gf gs gt gb gn t mc ms v r A c l T L M' := by
  have bl : ∀ {g : Nat} {cs : Array Value} {ty : TypeId} {fr : Nat × Nat}, w.heap[g]? = some (.cells cs ty fr) → (setBlock w ms o).heap[g]? = some (.cells cs ty fr) := fun hk => (setBlock_other _ _ _ _ (map_off h.sm hk)).trans hk
  exact ⟨bl h.kf, bl h.ks, bl h.kt, bl h.kb, bl h.kn, ⟨h.it.tab.move (fun k hk _ => setBlock_other _ _ _ _ (fun e => h.nS.2.2.2.2.2 (e ▸ hk))), h.it.map.move (setBlock_other _ _ _ _ h.ne.symm), h.it.off⟩, hM, h.nS, h.ne⟩
end
def RdI (Z : Nat → Prop) (w : World) (A : Option Addr) (c : Nat) (xs : List Int) : Prop := (Kd.int .i64).R 3 w 0 (fun k => ¬ Z k) (.slice A xs.length c) xs
theorem RdI.next {Z Z2 : Nat → Prop} {w w1 : World} {A : Option Addr} {c : Nat} {xs : List Int} (h : RdI Z w A c xs) (hf : Fr Z w w1) (hs : ∀ k, Z2 k → Z k ∨ w.heap.size ≤ k) : RdI Z2 w1 A c xs :=
  Kd.R_mono (hf.R (Kd.R_bound h) (fun k hk => hk.1)) (fun k hk hz => (hs k hz).elim hk.1 (fun q => by have := hk.2.2; omega))
theorem RdI.of_R {Z : Nat → Prop} {w : World} {base c : Nat} {ok : Nat → Prop} {A : Option Addr} {xs : List Int} (h : (Kd.int .i64).R 3 w base ok (.slice A xs.length c) xs) (hok : ∀ k, ok k → ¬ Z k) : RdI Z w A c xs := Kd.R_mono (Kd.R_lower h (Nat.zero_le _)) hok
theorem RdI.read {Z : Nat → Prop} {w w1 : World} {A : Option Addr} {c : Nat} {xs : List Int} (h : RdI Z w A c xs) (hf : Fr Z w w1) : Kd.C (Kd.int .i64) w1 A xs.length xs := (Kd.R_reads' (h.next hf (Z2 := Z) (fun k hk => .inl hk))).2.2
theorem RdI.to_R {Z : Nat → Prop} {w : World} {A : Option Addr} {c base : Nat} {xs : List Int} (h : RdI Z w A c xs) (hz : ∀ k, k < base → Z k) : (Kd.int .i64).R 3 w base (fun _ => True) (.slice A xs.length c) xs :=
  Kd.R_mono (Kd.R_raise (b := 0) (b' := base) (fun _ _ _ _ q => q) h (fun k hk => by
    have := h.1 k hk
    by_cases hb : k < base
    · exact absurd (hz k hb) this
    · omega)) (fun _ _ => trivial)
def WdOk (Z : Nat → Prop) (w : World) : Wd → WV → Prop
  | none, x => x = (0, none, 0, 0)
  | some a, x => x.1 = a.1 ∧ ∃ ad, x.2.1 = some ad ∧ x.2.2.1 = a.2.length ∧ a.2.length ≤ x.2.2.2 ∧ RdI Z w (some ad) x.2.2.2 a.2
theorem WdOk.next {Z Z2 : Nat → Prop} {w w1 : World} {o : Wd} {x : WV} (h : WdOk Z w o x) (hf : Fr Z w w1) (hs : ∀ k, Z2 k → Z k ∨ w.heap.size ≤ k) : WdOk Z2 w1 o x := by
  cases o with
  | none => exact h
  | some a => obtain ⟨h1, ad, h2, h3, h4, h5⟩ := h; exact ⟨h1, ad, h2, h3, h4, h5.next hf hs⟩
abbrev Zt (S : Nat → Prop) (mc ms : Nat) : Nat → Prop := fun k => S k ∨ k = mc ∨ k = ms
def MemoOk (Z : Nat → Prop) (w : World) (T : TB) (M : List ((Int × Int) × WV)) : Prop :=
  ∀ p v x, HMap.look M (p, v) = some x → Pl T p ∧ 0 ≤ v ∧ v ≤ asksP T p ∧ v ≤ T.vars ∧ WdOk Z w (bestT (T.vars - v).toNat (den T (T.vars - v).toNat p)) x
theorem MemoOk.next {Z Z2 : Nat → Prop} {w w1 : World} {T T' : TB} {M : List ((Int × Int) × WV)} (h : MemoOk Z w T M) (hw : WF T) (e : Ext T T') (hf : Fr Z w w1) (hs : ∀ k, Z2 k → Z k ∨ w.heap.size ≤ k) : MemoOk Z2 w1 T' M := fun p v x hx => by
  obtain ⟨a1, a2, a3, a4, a5⟩ := h p v x hx
  have hv : T'.vars = T.vars := e.1
  refine ⟨e.pl a1, a2, by rw [e.asks a1]; exact a3, by rw [hv]; exact a4, ?_⟩
  rw [hv, e.den hw _ p (by omega) a1 (by omega)]
  exact a5.next hf hs
end Go.Proofs.Ytlplphgoldkoeaa.HTab
end

section
set_option linter.unusedVariables false
set_option linter.unusedSimpArgs false
namespace Go.Proofs.Ytlplphgoldkoeaa.HTab
open Go.RowKit Go.Proofs.YtlplphgoldkoeaaW.PrintWords Go.Proofs.YtlplphgoldkoeaaW.PrintLast Go.Proofs.YtlplphgoldkoeaaW.PrintMore Go.Proofs.Ytlplphgoldkoeaa.HMap Go.Proofs.Ytlplphgoldkoeaa.X
open Go.ChangeMaps (setBlock)
set_option linter.unusedVariables false
set_option linter.unusedSimpArgs false
abbrev Zy (S : Nat → Prop) (mc ms : Nat) (Y : Nat → Prop) : Nat → Prop := fun k => Zt S mc ms k ∨ Y k
abbrev Yx (Y : Nat → Prop) (gx : Nat) (w : World) : Nat → Prop := fun k => Y k ∨ k = gx ∨ k = w.heap.size
theorem one_R {W : World} {b base : Nat} {x : Int} (h : W.heap[b]? = some (.cells #[.int .i64 x] 3 (0, 0))) (hb : base ≤ b) : (Kd.int .i64).R 3 W base (fun _ => True) (.slice (some ⟨b, 0, none⟩) 1 1) [x] :=
  Kd.R_of_own ⟨rfl, .inr ⟨b, 1, _, rfl, hb, h, Nat.le_refl 1, by decide, rfl, rfl⟩⟩ (fun _ _ => trivial)
def bstJ (c0 c1 c2 : Wd) : Nat → Wd
  | 0 => none
  | 1 => pickW none (extW 0 c0)
  | 2 => pickW (pickW none (extW 0 c0)) (extW 1 c1)
  | _ => pickW (pickW (pickW none (extW 0 c0)) (extW 1 c1)) (extW 2 c2)
def budget (d : Nat) : Nat := 8192 * (3 ^ d - 1)
theorem pick_some {b c : Wd} {r : Int × List Int} (hr : pickW b c = some r) : b = some r ∨ c = some r := by
  cases c with
  | none => exact .inl hr
  | some c =>
    simp only [pickW] at hr
    split at hr
    · exact .inr hr
    · exact .inl hr
theorem bstJ_len {d : Nat} {c0 c1 c2 : Wd} (h0 : ∀ a, c0 = some a → a.2.length = d) (h1 : ∀ a, c1 = some a → a.2.length = d) (h2 : ∀ a, c2 = some a → a.2.length = d) (b : Nat) (y : Int × List Int) (h : bstJ c0 c1 c2 b = some y) : y.2.length = d + 1 := by
  have ext : ∀ (x : Int) (u : Wd) (z : Int × List Int), (∀ a, u = some a → a.2.length = d) → extW x u = some z → z.2.length = d + 1 := fun x u z hu hz => by
    cases u with
    | none => cases hz
    | some a =>
      have := hu a rfl
      injection hz with hz
      subst hz
      simp [this]
  have k1 : ∀ z, pickW none (extW 0 c0) = some z → z.2.length = d + 1 := fun z hz => (pick_some hz).elim (fun e => by cases e) (ext 0 c0 z h0)
  have k2 : ∀ z, pickW (pickW none (extW 0 c0)) (extW 1 c1) = some z → z.2.length = d + 1 := fun z hz => (pick_some hz).elim (k1 z) (ext 1 c1 z h1)
  match b with
  | 0 => cases h
  | 1 => exact k1 y h
  | 2 => exact k2 y h
  | b + 3 => exact (pick_some h).elim (k2 y) (ext 2 c2 y h2)
theorem budget_succ (d : Nat) : budget (d + 1) = 3 * budget d + 16384 := by
  unfold budget
  have := Nat.pow_pos (n := d) (show 0 < 3 by omega)
  rw [Nat.pow_succ]
  omega
def FPost (w : World) (S : Nat → Prop) (gf gs gt gb gn t mc ms : Nat) (v r : Int) (A : Option Addr) (c : Nat) (l : List S107) (T : TB) (Y : Nat → Prop) (d : Nat) (o : Wd) (e : Ending) (w' : World) : Prop :=
  ∃ (S' : Nat → Prop) (x : WV) (T' : TB) (L' : SL) (M' : List ((Int × Int) × WV)), e = .returned (encW x) ∧ Fw w' S' gf gs gt gb gn t mc ms v r A c l T' L' M' ∧ WF T' ∧ Seen T' L' ∧ Ext T T' ∧ MemoOk (Zy S' mc ms Y) w' T' M' ∧ WdOk (Zy S' mc ms Y) w' o x ∧
    Fr (Zt S mc ms) w w' ∧ (∀ k, S' k → S k ∨ w.heap.size ≤ k) ∧ (∀ k, S' k → k < w'.heap.size) ∧ T'.ns.length ≤ T.ns.length + budget d
structure Lp (w w' : World) (S S' Y : Nat → Prop) (gf gs gt gb gn t mc ms gx gr : Nat) (v r : Int) (A : Option Addr) (c : Nat) (l : List S107) (p q lo hi m : Int) (T4 T' : TB) (L' : SL) (M' : List ((Int × Int) × WV)) (d b : Nat) (bs : Wd) (x : WV) : Prop where
  fw : Fw w' S' gf gs gt gb gn t mc ms v r A c l T' L' M'
  wf : WF T'
  seen : Seen T' L'
  ext : Ext T4 T'
  memo : MemoOk (Zy S' mc ms (Yx Y gx w)) w' T' M'
  len : T'.ns.length ≤ T4.ns.length + b * budget d
  kr : w'.heap[w.heap.size]? = some (.cells #[.int .i64 0, .slice none 0 0] 147 (0, 0))
  kk : w'.heap[w.heap.size + 1]? = some (.cells #[.int .i64 p, .int .i64 q] 114 (0, 0))
  kx : w'.heap[gx]? = some (.cells #[.int .i64 x.1, .slice x.2.1 x.2.2.1 x.2.2.2] 147 (0, 0))
  kg : w'.heap[gr]? = some (.cells #[.int .i64 lo, .int .i64 hi, .int .i64 m] 3 (0, 0))
  wd : WdOk (Zy S' mc ms (Yx Y gx w)) w' bs x
  fr : Fr (Zt S mc ms) w w'
  new : ∀ k, S' k → S k ∨ (w.heap.size ≤ k ∧ k ≠ w.heap.size ∧ k ≠ w.heap.size + 1 ∧ k ≠ gx ∧ k ≠ gr)
  bd : ∀ k, S' k → k < w'.heap.size
  sb : ∀ k, S k → k < w.heap.size
  yb : ∀ k, Y k → k < w.heap.size
  mb : mc < w.heap.size ∧ ms < w.heap.size ∧ w.heap.size + 1 < gx ∧ gx < gr
section
variable {w w' w'' : World} {S S' S6 Y : Nat → Prop} {gf gs gt gb gn t mc ms gx gr : Nat} {v r : Int} {A : Option Addr} {c : Nat} {l : List S107} {p q lo hi m : Int} {T4 T' T6 : TB} {L' L6 : SL} {M' M6 : List ((Int × Int) × WV)} {d b : Nat} {bs : Wd} {x : WV}
theorem Fw.box (h : Fw w S gf gs gt gb gn t mc ms v r A c l T' L' M') {g : Nat} {cs : Array Value} (kg : w.heap[g]? = some (.cells cs 147 (0, 0))) (hS : ¬ S g) (j : Nat) (u : Value) : Fw (w.setCell ⟨g, j, none⟩ u) S gf gs gt gb gn t mc ms v r A c l T' L' M' :=
  ⟨blk_far (p := ⟨g, j, none⟩) h.kf (blk_ne h.kf kg (by decide)) u, blk_far (p := ⟨g, j, none⟩) h.ks (blk_ne h.ks kg (by decide)) u, blk_far (p := ⟨g, j, none⟩) h.kt (blk_ne h.kt kg (by decide)) u, blk_far (p := ⟨g, j, none⟩) h.kb (blk_ne h.kb kg (by decide)) u, blk_far (p := ⟨g, j, none⟩) h.kn (blk_ne h.kn kg (by decide)) u,
    ⟨h.it.tab.move (fun k hk _ => Below.heap_setCell _ ⟨g, j, none⟩ _ k (fun e => hS (by rw [show g = k from e.symm]; exact hk))), h.it.map.move (Below.heap_setCell _ ⟨g, j, none⟩ _ _ (map_off h.it.map kg).symm), h.it.off⟩, h.sm.move (Below.heap_setCell _ ⟨g, j, none⟩ _ _ (map_off h.sm kg).symm), h.nS, h.ne⟩
theorem MemoOk.upd {Z : Nat → Prop} {M : List ((Int × Int) × WV)} (h : MemoOk Z w T' M) {x : WV} (hp : Pl T' p) (q0 : 0 ≤ q) (ha : q ≤ asksP T' p) (hq : q ≤ T'.vars) (hx : WdOk Z w (bestT (T'.vars - q).toNat (den T' (T'.vars - q).toNat p)) x) : MemoOk Z w T' (HMap.upd M (p, q) x) := fun p' q' y hy => by
  by_cases e : (p', q') = (p, q)
  · rw [e, look_upd_same] at hy
    injection hy with hy
    injection e with e1 e2
    subst e1; subst e2; subst hy
    exact ⟨hp, q0, ha, hq, hx⟩
  · rw [look_upd_other _ _ _ _ e] at hy
    exact h p' q' y hy
theorem MemoOk.less {Z Z2 : Nat → Prop} {M : List ((Int × Int) × WV)} (h : MemoOk Z w T' M) (hw : WF T') (hz : ∀ k, Z2 k → Z k) : MemoOk Z2 w T' M := h.next hw (Ext.refl _) (Fr.refl _ _) (fun k hk => .inl (hz k hk))
theorem Lp.below (h : Lp w w' S S' Y gf gs gt gb gn t mc ms gx gr v r A c l p q lo hi m T4 T' L' M' d b bs x) (hb : Below w'.heap.size w' w'') : Lp w w'' S S' Y gf gs gt gb gn t mc ms gx gr v r A c l p q lo hi m T4 T' L' M' d b bs x :=
  ⟨h.fw.below hb, h.wf, h.seen, h.ext, h.memo.next h.wf (Ext.refl _) (Fr.of_below hb) (fun k hk => .inl hk), h.len, blk_below h.kr hb, blk_below h.kk hb, blk_below h.kx hb, blk_below h.kg hb, h.wd.next (Fr.of_below hb) (fun k hk => .inl hk),
    h.fr.then_ (S2 := fun _ => False) (Fr.of_below hb) (fun k hk => hk.elim), h.new, fun k hk => Nat.lt_of_lt_of_le (h.bd k hk) hb.size, h.sb, h.yb, h.mb⟩
theorem Lp.notZ (h : Lp w w' S S' Y gf gs gt gb gn t mc ms gx gr v r A c l p q lo hi m T4 T' L' M' d b bs x) {g : Nat} (hg : g = w.heap.size ∨ g = w.heap.size + 1 ∨ g = gx ∨ g = gr) : ¬ Zt S' mc ms g := fun k => by
  have := h.mb
  rcases k with k | k | k
  · rcases h.new g k with e | e
    · have := h.sb g e; omega
    · omega
  · omega
  · omega
theorem Lp.call (h : Lp w w' S S' Y gf gs gt gb gn t mc ms gx gr v r A c l p q lo hi m T4 T' L' M' d b bs x) {hF : Fw w'' S6 gf gs gt gb gn t mc ms v r A c l T6 L6 M6} (hw : WF T6) (hs : Seen T6 L6) (he : Ext T' T6) (hm : MemoOk (Zy S6 mc ms (Yx Y gx w)) w'' T6 M6)
    (hf : Fr (Zt S' mc ms) w' w'') (hS : ∀ k, S6 k → S' k ∨ w'.heap.size ≤ k) (hb : ∀ k, S6 k → k < w''.heap.size) (hl : T6.ns.length ≤ T'.ns.length + budget d) : Lp w w'' S S6 Y gf gs gt gb gn t mc ms gx gr v r A c l p q lo hi m T4 T6 L6 M6 d (b + 1) bs x := by
  have bk : ∀ {g : Nat} {o : Obj}, w'.heap[g]? = some o → (g = w.heap.size ∨ g = w.heap.size + 1 ∨ g = gx ∨ g = gr) → w''.heap[g]? = some o := fun hk hg => (hf.block _ (blk_lt hk) (h.notZ hg)).trans hk
  have hg := blk_lt h.kg
  have hx := blk_lt h.kx
  have hmb := h.mb
  refine ⟨hF, hw, hs, h.ext.then_ he, hm, ?_, bk h.kr (.inl rfl), bk h.kk (.inr (.inl rfl)), bk h.kx (.inr (.inr (.inl rfl))), bk h.kg (.inr (.inr (.inr rfl))), h.wd.next (hf.mono (fun k hk => .inl hk)) (fun k hk => ?_), h.fr.then_ hf (fun k hk => ?_), fun k hk => ?_, hb, h.sb, h.yb, h.mb⟩
  · have := h.len; rw [Nat.add_mul]; omega
  · rcases hk with (hk | hk) | hk
    · exact (hS k hk).imp (fun q => .inl (.inl q)) id
    · exact .inl (.inl (.inr hk))
    · exact .inl (.inr hk)
  · rcases hk with hk | hk
    · exact (h.new k hk).imp (fun q => .inl q) (fun q => q.1)
    · exact .inl (.inr hk)
  · rcases hS k hk with hk | hk
    · exact h.new k hk
    · exact .inr (by omega)
theorem Lp.setx (h : Lp w w' S S' Y gf gs gt gb gn t mc ms gx gr v r A c l p q lo hi m T4 T' L' M' d b bs x) {bs2 : Wd} {y : WV} (hy : WdOk (Zy S' mc ms (Yx Y gx w)) w' bs2 y) :
    Lp w ((w'.setCell ⟨gx, 0, none⟩ (.int .i64 y.1)).setCell ⟨gx, 1, none⟩ (.slice y.2.1 y.2.2.1 y.2.2.2)) S S' Y gf gs gt gb gn t mc ms gx gr v r A c l p q lo hi m T4 T' L' M' d b bs2 y := by
  have nx : ¬ S' gx := fun k => h.notZ (g := gx) (.inr (.inr (.inl rfl))) (.inl k)
  have oth : ∀ i : Nat, i ≠ gx → ((w'.setCell ⟨gx, 0, none⟩ (.int .i64 y.1)).setCell ⟨gx, 1, none⟩ (.slice y.2.1 y.2.2.1 y.2.2.2)).heap[i]? = w'.heap[i]? := fun i hi => (Below.heap_setCell _ ⟨gx, 1, none⟩ _ i hi).trans (Below.heap_setCell _ ⟨gx, 0, none⟩ _ i hi)
  have hsz : ((w'.setCell ⟨gx, 0, none⟩ (.int .i64 y.1)).setCell ⟨gx, 1, none⟩ (.slice y.2.1 y.2.2.1 y.2.2.2)).heap.size = w'.heap.size := by simp [World.setCell]
  have fz : Fr (fun k => k = gx) w' ((w'.setCell ⟨gx, 0, none⟩ (.int .i64 y.1)).setCell ⟨gx, 1, none⟩ (.slice y.2.1 y.2.2.1 y.2.2.2)) := (Fr.setCell (fun k => k = gx) w' ⟨gx, 0, none⟩ (.int .i64 y.1) rfl).then_ (Fr.setCell (fun k => k = gx) _ ⟨gx, 1, none⟩ _ rfl) (fun k hk => .inl hk)
  have hmb := h.mb
  have bl : ∀ {g : Nat} {cs : Array Value} {ty : TypeId}, w'.heap[g]? = some (.cells cs ty (0, 0)) → g ≠ gx → ((w'.setCell ⟨gx, 0, none⟩ (.int .i64 y.1)).setCell ⟨gx, 1, none⟩ (.slice y.2.1 y.2.2.1 y.2.2.2)).heap[g]? = some (.cells cs ty (0, 0)) := fun hk hg => (oth _ hg).trans hk
  refine ⟨⟨bl h.fw.kf (blk_ne h.fw.kf h.kx (by decide)), bl h.fw.ks (blk_ne h.fw.ks h.kx (by decide)), bl h.fw.kt (blk_ne h.fw.kt h.kx (by decide)), bl h.fw.kb (blk_ne h.fw.kb h.kx (by decide)), bl h.fw.kn (blk_ne h.fw.kn h.kx (by decide)),
      ⟨h.fw.it.tab.move (fun k hk _ => oth k (fun e => nx (e ▸ hk))), h.fw.it.map.move (oth _ (map_off h.fw.it.map h.kx).symm), h.fw.it.off⟩, h.fw.sm.move (oth _ (map_off h.fw.sm h.kx).symm), h.fw.nS, h.fw.ne⟩,
    h.wf, h.seen, h.ext, h.memo.next h.wf (Ext.refl _) (fz.mono (fun k hk => .inr (.inr (.inl hk)))) (fun k hk => .inl hk), h.len, bl h.kr (by omega), bl h.kk (by omega), ?_, bl h.kg (by omega), hy.next (fz.mono (fun k hk => .inr (.inr (.inl hk)))) (fun k hk => .inl hk),
    h.fr.then_ fz (fun k hk => .inr (by omega)), h.new, fun k hk => by rw [hsz]; exact h.bd k hk, h.sb, h.yb, h.mb⟩
  exact blk_put (cs := #[.int .i64 y.1, .slice x.2.1 x.2.2.1 x.2.2.2]) (blk_put (cs := #[.int .i64 x.1, .slice x.2.1 x.2.2.1 x.2.2.2]) h.kx 0 (.int .i64 y.1) rfl) 1 _ rfl
end
def tb_Least1_9.T : Bool × List (List Nat × List Nat) := (true, [([], []), ([], []), ([], []), ([0, 1, 2], [0, 1, 2]), ([], []), ([], []), ([], []), ([4, 5, 6, 3], [4, 5, 6]), ([3, 7, 0, 1, 2, 3], [3]), ([7, 8, 0, 1, 2, 3, 4, 5, 6, 7, 8], [7])])
def tb_Least1_9.B : List Nat := [0, 0, 0, 7, 0, 0, 0, 127, 255, 511]
theorem tb_Least1_9.tab : rtab .any (opsOf Try.f122 9) = tb_Least1_9.T := by kernel_rfl
theorem tb_Least1_9.bits : waitsOk tb_Least1_9.T.2 tb_Least1_9.B = true := by kernel_rfl
set_option maxRecDepth 100000 in
set_option maxHeartbeats 8000000 in
theorem find_zero (w : World) (S : Nat → Prop) (gf gs gt gb gn t mc ms : Nat) (v r : Int) (A : Option Addr) (c : Nat) (l : List S107) (T : TB) (L : SL) (M : List ((Int × Int) × WV)) (h : Fw w S gf gs gt gb gn t mc ms v r A c l T L M) (hw : WF T) (hs : Seen T L) (Y : Nat → Prop) (hm : MemoOk (Zy S mc ms Y) w T M) (hb : ∀ k, S k → k < w.heap.size) (hY : ∀ k, Y k → k < w.heap.size) (d : Nat) (p q : Int) (hp : p = 0) : Calls Try.prog 122 #[.int .i64 p, .int .i64 q, .pointer (some ⟨gf, 0, none⟩), .pointer (some ⟨gs, 0, none⟩), .pointer (some ⟨gt, 0, none⟩), .pointer (some ⟨gb, 0, none⟩), .pointer (some ⟨gn, 0, none⟩)] w (FPost w S gf gs gt gb gn t mc ms v r A c l T Y d none) := by
  subst hp
  have H := Aside0.mk (And.intro h (And.intro hw (And.intro hs (And.intro hm (And.intro hb hY)))))
  obtain ⟨W0, hW0⟩ : ∃ W, W = w.alloc (.cells #[.int .i64 0, .slice none 0 0] 147) := ⟨_, rfl⟩
  have hB := Aside0.mk (show Below w.heap.size w W0 by rw [hW0]; exact below_alloc (Below.refl _ _) _)
  have hk := Aside0.mk (show W0.heap[w.heap.size]? = some (.cells #[.int .i64 0, .slice none 0 0] 147 (0, 0)) by rw [hW0]; exact blk_new _ _)
  clear h hw hs hm hb hY
  go_enter Try.func122, Try.ntmps122
  go_wp2
  rw [← hW0]
  refine bodyPost_ret (results_single rfl (.cell w.heap.size 147 #[.int .i64 0, .slice none 0 0] (0, 0) _ rfl hk.out Try.underlying147 rfl (by kernel_rfl) .nil)) rfl ?_
  obtain ⟨h, hw, hs, hm, hb, hY⟩ := H.out
  exact ⟨S, (0, none, 0, 0), T, L, M, rfl, h.below hB.out, hw, hs, Ext.refl T, hm.next hw (Ext.refl T) (Fr.of_below hB.out) (fun k hk => .inl hk), rfl, Fr.of_below hB.out, fun k hk => .inl hk, fun k hk => Nat.lt_of_lt_of_le (hb k hk) hB.out.size, Nat.le_add_right _ _⟩
set_option maxRecDepth 100000 in
set_option maxHeartbeats 8000000 in
theorem find_end (w : World) (S : Nat → Prop) (gf gs gt gb gn t mc ms : Nat) (v r : Int) (A : Option Addr) (c : Nat) (l : List S107) (T : TB) (L : SL) (M : List ((Int × Int) × WV)) (h : Fw w S gf gs gt gb gn t mc ms v r A c l T L M) (hw : WF T) (hs : Seen T L) (Y : Nat → Prop) (hm : MemoOk (Zy S mc ms Y) w T M) (hb : ∀ k, S k → k < w.heap.size) (hY : ∀ k, Y k → k < w.heap.size) (d : Nat) (p q : Int) (hp : p ≠ 0) (hq : q = v) : Calls Try.prog 122 #[.int .i64 p, .int .i64 q, .pointer (some ⟨gf, 0, none⟩), .pointer (some ⟨gs, 0, none⟩), .pointer (some ⟨gt, 0, none⟩), .pointer (some ⟨gb, 0, none⟩), .pointer (some ⟨gn, 0, none⟩)] w (FPost w S gf gs gt gb gn t mc ms v r A c l T Y d (some (0, []))) := by
  subst hq
  have H := Aside0.mk (And.intro h (And.intro hw (And.intro hs (And.intro hm (And.intro hb hY)))))
  have p0 : (p == 0) = false := by simpa using hp
  have p1 : (p = 0) = False := eq_false hp
  have j0 : ∀ o : Obj, (w.alloc o).cell? ⟨gf, 0, none⟩ = some (.int .i64 q) := fun o => pw_cell_below (below_alloc (Below.refl _ _) o) ((blk_cell h.kf 0).trans rfl)
  clear h hw hs hm hb hY
  go_enter Try.func122, Try.ntmps122
  go_wp2
  obtain ⟨W1, hW1⟩ : ∃ W, W = (w.alloc (.cells #[.int .i64 0, .slice (some ⟨w.heap.size + 1, 0, none⟩) 0 0] 147)).alloc (.cells #[] 3) := ⟨_, rfl⟩
  have hB : Below w.heap.size w W1 := by rw [hW1]; exact below_alloc (below_alloc (Below.refl _ _) _) _
  have hk : W1.heap[w.heap.size]? = some (.cells #[.int .i64 0, .slice (some ⟨w.heap.size + 1, 0, none⟩) 0 0] 147 (0, 0)) := by rw [hW1]; exact blk_alloc (blk_new _ _) _
  have hk2 : W1.heap[w.heap.size + 1]? = some (.cells #[] 3 (0, 0)) := by rw [hW1]; simpa using blk_new (w.alloc (.cells #[.int .i64 0, .slice (some ⟨w.heap.size + 1, 0, none⟩) 0 0] 147)) (.cells #[] 3)
  rw [← hW1]
  refine bodyPost_ret (results_single rfl (.cell w.heap.size 147 #[.int .i64 0, .slice (some ⟨w.heap.size + 1, 0, none⟩) 0 0] (0, 0) _ rfl hk Try.underlying147 rfl (by kernel_rfl) .nil)) rfl ?_
  obtain ⟨h, hw, hs, hm, hb, hY⟩ := H.out
  have hz2 : ∀ k, k = w.heap.size + 1 → ¬ Zy S mc ms Y k := fun k hk hz => by
    have h1 := h.it.map.lt
    have h2 := h.sm.lt
    rcases hz with (hz | hz | hz) | hz
    · have := hb k hz; omega
    · omega
    · omega
    · have := hY k hz; omega
  exact ⟨S, (0, some ⟨w.heap.size + 1, 0, none⟩, 0, 0), T, L, M, rfl, h.below hB, hw, hs, Ext.refl T, hm.next hw (Ext.refl T) (Fr.of_below hB) (fun k hk => .inl hk),
    ⟨rfl, _, rfl, rfl, Nat.le_refl _, RdI.of_R (ok := fun k => k = w.heap.size + 1) (base := 0) (Kd.R_of_own ⟨rfl, .inr ⟨w.heap.size + 1, 0, #[], rfl, Nat.zero_le _, hk2, Nat.le_refl 0, by decide, rfl, rfl⟩⟩ (fun k hk => by injection hk with hk; exact hk.symm)) hz2⟩, Fr.of_below hB, fun k hk => .inl hk, fun k hk => Nat.lt_of_lt_of_le (hb k hk) hB.size, Nat.le_add_right _ _⟩
set_option maxRecDepth 100000 in
set_option maxHeartbeats 8000000 in
theorem find_memo (w : World) (S : Nat → Prop) (gf gs gt gb gn t mc ms : Nat) (v r : Int) (A : Option Addr) (c : Nat) (l : List S107) (T : TB) (L : SL) (M : List ((Int × Int) × WV)) (h : Fw w S gf gs gt gb gn t mc ms v r A c l T L M) (hw : WF T) (hs : Seen T L) (Y : Nat → Prop) (hm : MemoOk (Zy S mc ms Y) w T M) (hb : ∀ k, S k → k < w.heap.size) (hY : ∀ k, Y k → k < w.heap.size) (d : Nat) (p q : Int) (hp : p ≠ 0) (hq : q < v) (x : WV) (hx : HMap.look M (p, q) = some x) : Calls Try.prog 122 #[.int .i64 p, .int .i64 q, .pointer (some ⟨gf, 0, none⟩), .pointer (some ⟨gs, 0, none⟩), .pointer (some ⟨gt, 0, none⟩), .pointer (some ⟨gb, 0, none⟩), .pointer (some ⟨gn, 0, none⟩)] w (FPost w S gf gs gt gb gn t mc ms v r A c l T Y d (bestT (T.vars - q).toNat (den T (T.vars - q).toNat p))) := by
  have H := Aside0.mk (And.intro h (And.intro hw (And.intro hs (And.intro hm (And.intro hb hY)))))
  have p0 : (p == 0) = false := by simpa using hp
  have p1 : (p = 0) = False := eq_false hp
  have q0 : (q == v) = false := by simp; omega
  have q1 : (q = v) = False := eq_false (by omega)
  have j0 : ∀ o : Obj, (w.alloc o).cell? ⟨gf, 0, none⟩ = some (.int .i64 v) := fun o => pw_cell_below (below_alloc (Below.refl _ _) o) ((blk_cell h.kf 0).trans rfl)
  obtain ⟨W1, hW1⟩ : ∃ W, W = (w.alloc (.cells #[.int .i64 0, .slice none 0 0] 147)).alloc (.cells #[.int .i64 p, .int .i64 q] 114) := ⟨_, rfl⟩
  have hB1 : Below w.heap.size w W1 := by rw [hW1]; exact below_alloc (below_alloc (Below.refl _ _) _) _
  have kr1 : W1.heap[w.heap.size]? = some (.cells #[.int .i64 0, .slice none 0 0] 147 (0, 0)) := by rw [hW1]; exact blk_alloc (blk_new _ _) _
  have kk1 : W1.heap[w.heap.size + 1]? = some (.cells #[.int .i64 p, .int .i64 q] 114 (0, 0)) := by
    rw [hW1]; simpa using blk_new (w.alloc (.cells #[.int .i64 0, .slice none 0 0] 147)) (.cells #[.int .i64 p, .int .i64 q] 114)
  have H1 := h.below hB1
  have zw : (zeroValue 147).run Try.prog W1 = .ok (.agg #[.int .i64 0, .slice none 0 0]) W1 := by kernel_rfl
  have y1 := (blk_cell H1.ks 0).trans rfl
  have y2 := (blk_cell kk1 0).trans rfl
  have y3 := (blk_cell kk1 1).trans rfl
  have hrun : (Instr.lookup 144 (.map (some ms)) (.agg #[.int .i64 p, .int .i64 q]) true).run Try.prog W1 = .ok (.tuple #[.agg #[.int .i64 x.1, .slice x.2.1 x.2.2.1 x.2.2.2], .bool true]) W1 := by
    have := run_lookup keyP Try.underlying144 H1.sm (p, q) true zw
    simpa [hx, encP, encW] using this
  have HX := Aside0.mk hx
  rw [hW1] at hrun y1 y2 y3
  clear h hw hs hm hb hY H1 hx
  go_enter Try.func122, Try.ntmps122
  go_wp2
  obtain ⟨W3, hW3⟩ : ∃ W, W = ((w.alloc (.cells #[.int .i64 x.1, .slice x.2.1 x.2.2.1 x.2.2.2] 147)).alloc (.cells #[.int .i64 p, .int .i64 q] 114)).alloc (.cells #[.int .i64 x.1, .slice x.2.1 x.2.2.1 x.2.2.2] 147) := ⟨_, rfl⟩
  have hB : Below w.heap.size w W3 := by rw [hW3]; exact below_alloc (below_alloc (below_alloc (Below.refl _ _) _) _) _
  have hk : W3.heap[w.heap.size]? = some (.cells #[.int .i64 x.1, .slice x.2.1 x.2.2.1 x.2.2.2] 147 (0, 0)) := by rw [hW3]; exact blk_alloc (blk_alloc (blk_new _ _) _) _
  rw [← hW3]
  refine bodyPost_ret (results_single rfl (.cell w.heap.size 147 #[.int .i64 x.1, .slice x.2.1 x.2.2.1 x.2.2.2] (0, 0) _ rfl hk Try.underlying147 rfl (by kernel_rfl) .nil)) rfl ?_
  obtain ⟨h, hw, hs, hm, hb, hY⟩ := H.out
  exact ⟨S, x, T, L, M, rfl, h.below hB, hw, hs, Ext.refl T, hm.next hw (Ext.refl T) (Fr.of_below hB) (fun k hk => .inl hk), (hm p q x HX.out).2.2.2.2.next (Fr.of_below hB) (fun k hk => .inl hk), Fr.of_below hB, fun k hk => .inl hk, fun k hk => Nat.lt_of_lt_of_le (hb k hk) hB.size, Nat.le_add_right _ _⟩
set_option maxRecDepth 100000 in
set_option maxHeartbeats 8000000 in
theorem find_new (w : World) (S : Nat → Prop) (gf gs gt gb gn t mc ms : Nat) (v r : Int) (A : Option Addr) (c : Nat) (l : List S107) (T : TB) (L : SL) (M : List ((Int × Int) × WV)) (h : Fw w S gf gs gt gb gn t mc ms v r A c l T L M) (hw : WF T) (hs : Seen T L) (Y : Nat → Prop) (hm : MemoOk (Zy S mc ms Y) w T M) (hb : ∀ k, S k → k < w.heap.size) (hY : ∀ k, Y k → k < w.heap.size) (d : Nat) (p q : Int) (hp : p ≠ 0) (hq : q < v) (hq0 : 0 ≤ q) (hv : T.vars = v) (hv12 : v ≤ 12) (hd : v = q + d + 1) (hpl : Pl T p) (ha : q ≤ asksP T p) (hx : HMap.look M (p, q) = none) (hlen : T.ns.length + budget (d + 1) < 1000000000000)
    (IH : ∀ (W : World) (S' Y' : Nat → Prop) (T' : TB) (L' : SL) (M' : List ((Int × Int) × WV)) (ch : Int), Fw W S' gf gs gt gb gn t mc ms v r A c l T' L' M' → WF T' → Seen T' L' → MemoOk (Zy S' mc ms Y') W T' M' → (∀ k, S' k → k < W.heap.size) → (∀ k, Y' k → k < W.heap.size) → T'.vars = v → Pl T' ch → q + 1 ≤ asksP T' ch → T'.ns.length + budget d < 1000000000000 →
      Calls Try.prog 122 #[.int .i64 ch, .int .i64 (q + 1), .pointer (some ⟨gf, 0, none⟩), .pointer (some ⟨gs, 0, none⟩), .pointer (some ⟨gt, 0, none⟩), .pointer (some ⟨gb, 0, none⟩), .pointer (some ⟨gn, 0, none⟩)] W (FPost W S' gf gs gt gb gn t mc ms v r A c l T' Y' d (bestT d (den T' d ch)))) :
    Calls Try.prog 122 #[.int .i64 p, .int .i64 q, .pointer (some ⟨gf, 0, none⟩), .pointer (some ⟨gs, 0, none⟩), .pointer (some ⟨gt, 0, none⟩), .pointer (some ⟨gb, 0, none⟩), .pointer (some ⟨gn, 0, none⟩)] w (FPost w S gf gs gt gb gn t mc ms v r A c l T Y (d + 1) (bestT (d + 1) (den T (d + 1) p))) := by
  have H := Aside0.mk (And.intro h (And.intro hw (And.intro hs (And.intro hm (And.intro hb hY)))))
  have p0 : (p == 0) = false := by simpa using hp
  have p1 : (p = 0) = False := eq_false hp
  have q0 : (q == v) = false := by simp; omega
  have q1 : (q = v) = False := eq_false (by omega)
  have j0 : ∀ o : Obj, (w.alloc o).cell? ⟨gf, 0, none⟩ = some (.int .i64 v) := fun o => pw_cell_below (below_alloc (Below.refl _ _) o) ((blk_cell h.kf 0).trans rfl)
  obtain ⟨W1, hW1⟩ : ∃ W, W = (w.alloc (.cells #[.int .i64 0, .slice none 0 0] 147)).alloc (.cells #[.int .i64 p, .int .i64 q] 114) := ⟨_, rfl⟩
  have hB1 : Below w.heap.size w W1 := by rw [hW1]; exact below_alloc (below_alloc (Below.refl _ _) _) _
  have kr1 : W1.heap[w.heap.size]? = some (.cells #[.int .i64 0, .slice none 0 0] 147 (0, 0)) := by rw [hW1]; exact blk_alloc (blk_new _ _) _
  have kk1 : W1.heap[w.heap.size + 1]? = some (.cells #[.int .i64 p, .int .i64 q] 114 (0, 0)) := by
    rw [hW1]; simpa using blk_new (w.alloc (.cells #[.int .i64 0, .slice none 0 0] 147)) (.cells #[.int .i64 p, .int .i64 q] 114)
  have H1 := h.below hB1
  have zw : (zeroValue 147).run Try.prog W1 = .ok (.agg #[.int .i64 0, .slice none 0 0]) W1 := by kernel_rfl
  have y1 := (blk_cell H1.ks 0).trans rfl
  have y2 := (blk_cell kk1 0).trans rfl
  have y3 := (blk_cell kk1 1).trans rfl
  have hrun : (Instr.lookup 144 (.map (some ms)) (.agg #[.int .i64 p, .int .i64 q]) true).run Try.prog W1 = .ok (.tuple #[.agg #[.int .i64 0, .slice none 0 0], .bool false]) W1 := by
    have := run_lookup keyP Try.underlying144 H1.sm (p, q) true zw
    simpa [hx, encP, encW] using this
  have HX := Aside0.mk hx
  have HI := Aside0.mk IH
  have HP := Aside0.mk (And.intro hpl (And.intro ha (And.intro hd (And.intro hlen (And.intro hv (And.intro hv12 hq0))))))
  obtain ⟨W2, hW2⟩ : ∃ W, W = W1.alloc (.cells #[.int .i64 0, .slice none 0 0] 147) := ⟨_, rfl⟩
  have hB2 : Below w.heap.size w W2 := by rw [hW2]; exact below_alloc hB1 _
  have kr2 : W2.heap[w.heap.size]? = some (.cells #[.int .i64 0, .slice none 0 0] 147 (0, 0)) := by rw [hW2]; exact blk_alloc kr1 _
  have kk2 : W2.heap[w.heap.size + 1]? = some (.cells #[.int .i64 p, .int .i64 q] 114 (0, 0)) := by rw [hW2]; exact blk_alloc kk1 _
  have H2 := Aside0.mk (h.below (below_drew hB2))
  have B2 := Aside0.mk (below_drew hB2)
  have KR := Aside0.mk (blk_drew kr2)
  have KK := Aside0.mk (blk_drew kk2)
  have y4 := (blk_cell (h.below hB2).kt 0).trans rfl
  obtain ⟨lo, hlo⟩ : ∃ x, x = sideP T p q false := ⟨_, rfl⟩
  obtain ⟨hi, hhi⟩ : ∃ x, x = sideP T p q true := ⟨_, rfl⟩
  have CS : Aside0 (∀ (b : Bool) (y : Int), y = sideP T p q b → Calls Try.prog 123 #[.pointer (some ⟨t, 0, none⟩), .int .i64 p, .int .i64 q, .bool b] W2.drew fun e w' => e = .returned (.int .i64 y) ∧ W2.drew = w') := ⟨fun b y hy => by rw [hy]; exact side_calls t T p q b W2.drew H2.out.it.tab (Or.inr hpl.2) (fun _ => by omega)⟩
  have HS := Aside0.mk (And.intro hlo hhi)
  rw [hW1] at hrun y1 y2 y3
  have hW2' := hW2
  rw [hW1] at hW2'
  clear h hw hs hm hb hY H1 hx IH hpl ha hd hlen kr1 kk1 kr2 kk2 hB1 hB2 hW2 hlo hhi hv hv12 zw
  go_enter Try.func122, Try.ntmps122
  go_wp2
  rw [← hW2']
  clear hW2' hrun y1 y2 y3 hW1
  refine start_ (n := 10) (S := fun w' => (w'.cell? ⟨gt, 0, none⟩ = some (.pointer (some ⟨t, 0, none⟩)))) (ds := []) #[false, false, false, false, false, false, false, false, false, false] (by kernel_rfl) rfl rfl y4 (fun hHeld => ?_)
  refine with_tabW tb_Least1_9.tab tb_Least1_9.bits (fun HT_ HW_ => ?_)
  refine take_ (i := 0) (N := some 43) (v := ?_) (a' := ?_) #[true, false, false, false, false, false, false, false, false, false] rfl rfl (take_ofW HT_.out HW_.out (by kernel_rfl)) (fun _ _ _ h => h) (Or.inl ⟨by rfl, ?_⟩) hHeld ?_ ?_
  rotate_left
  · rintro w' s0
    go_simp
    with_reducible rfl
  rotate_left
  · simp only [Act.put, List.setIfInBounds_toArray, List.set_cons_zero, List.set_cons_succ, i64_w, i32_w]
    rfl
  refine pure_ (i := 1) (N := some 44) (v := ?_) (a' := ?_) #[true, true, false, false, false, false, false, false, false, false] rfl rfl (any_of HT_.out (by kernel_rfl)) (fun _ _ _ h => h) (Or.inl ⟨by rfl, ?_⟩) ?_ ?_
  rotate_left
  · intro w'
    go_simp
    with_reducible rfl
  rotate_left
  · simp only [Act.put, List.setIfInBounds_toArray, List.set_cons_zero, List.set_cons_succ, i64_w, i32_w]
    rfl
  refine pure_ (i := 2) (N := some 45) (v := ?_) (a' := ?_) #[true, true, true, false, false, false, false, false, false, false] rfl rfl (any_of HT_.out (by kernel_rfl)) (fun _ _ _ h => h) (Or.inl ⟨by rfl, ?_⟩) ?_ ?_
  rotate_left
  · intro w'
    go_simp
    with_reducible rfl
  rotate_left
  · simp only [Act.put, List.setIfInBounds_toArray, List.set_cons_zero, List.set_cons_succ, i64_w, i32_w]
    rfl
  refine take_ (i := 4) (N := some 47) (v := ?_) (a' := ?_) #[true, true, true, false, true, false, false, false, false, false] rfl rfl (take_ofW HT_.out HW_.out (by kernel_rfl)) (fun _ _ _ h => h) (Or.inl ⟨by rfl, ?_⟩) hHeld ?_ ?_
  rotate_left
  · rintro w' s0
    go_simp
    with_reducible rfl
  rotate_left
  · simp only [Act.put, List.setIfInBounds_toArray, List.set_cons_zero, List.set_cons_succ, i64_w, i32_w]
    rfl
  refine pure_ (i := 5) (N := some 48) (v := ?_) (a' := ?_) #[true, true, true, false, true, true, false, false, false, false] rfl rfl (any_of HT_.out (by kernel_rfl)) (fun _ _ _ h => h) (Or.inl ⟨by rfl, ?_⟩) ?_ ?_
  rotate_left
  · intro w'
    go_simp
    with_reducible rfl
  rotate_left
  · simp only [Act.put, List.setIfInBounds_toArray, List.set_cons_zero, List.set_cons_succ, i64_w, i32_w]
    rfl
  refine pure_ (i := 6) (N := some 49) (v := ?_) (a' := ?_) #[true, true, true, false, true, true, true, false, false, false] rfl rfl (any_of HT_.out (by kernel_rfl)) (fun _ _ _ h => h) (Or.inl ⟨by rfl, ?_⟩) ?_ ?_
  rotate_left
  · intro w'
    go_simp
    with_reducible rfl
  rotate_left
  · simp only [Act.put, List.setIfInBounds_toArray, List.set_cons_zero, List.set_cons_succ, i64_w, i32_w]
    rfl
  refine one_ (i := 3) (N := some 46) #[true, true, true, true, true, true, true, false, false, false] rfl rfl (one_of HT_.out (by kernel_rfl)) (by decide) (fun K hK => ?_)
  refine goes_ Try.func123 (by kernel_rfl) rfl #[.pointer (some ⟨t, 0, none⟩), .int .i64 p, .int .i64 q, .bool false] (by rfl) rfl rfl (by simp only [List.map_toArray, List.map_cons, List.map_nil]; rfl) ?_
  refine (CS.out false lo HS.out.1).mono ?_
  rintro e wo ⟨rfl, rfl⟩
  refine ⟨_, rfl, ?_⟩
  refine hK.out _ _ ((blk_cell H2.out.kt 0).trans rfl) (fun hHeld => ?_)
  clear hK K
  refine norm_ (a' := ?_) ?_ ?_
  rotate_left
  · show Act.put _ (some 46) _ = _
    (try simp only [Act.put, List.setIfInBounds_toArray, List.set_cons_zero, List.set_cons_succ, i64_w, i32_w])
    rfl
  refine one_ (i := 7) (N := some 50) #[true, true, true, true, true, true, true, true, false, false] rfl rfl (one_of HT_.out (by kernel_rfl)) (by decide) (fun K hK => ?_)
  refine goes_ Try.func123 (by kernel_rfl) rfl #[.pointer (some ⟨t, 0, none⟩), .int .i64 p, .int .i64 q, .bool true] (by rfl) rfl rfl (by simp only [List.map_toArray, List.map_cons, List.map_nil]; rfl) ?_
  refine (CS.out true hi HS.out.2).mono ?_
  rintro e wo ⟨rfl, rfl⟩
  refine ⟨_, rfl, ?_⟩
  refine hK.out _ _ ((blk_cell H2.out.kt 0).trans rfl) (fun hHeld => ?_)
  clear hK K
  refine norm_ (a' := ?_) ?_ ?_
  rotate_left
  · show Act.put _ (some 50) _ = _
    (try simp only [Act.put, List.setIfInBounds_toArray, List.set_cons_zero, List.set_cons_succ, i64_w, i32_w])
    rfl
  refine pure_ (i := 8) (N := some 13) (v := ?_) (a' := ?_) #[true, true, true, true, true, true, true, true, true, false] rfl rfl (any_of HT_.out (by kernel_rfl)) (fun _ _ _ h => h) (Or.inl ⟨by rfl, ?_⟩) ?_ ?_
  rotate_left
  · intro w'
    go_simp
    with_reducible rfl
  rotate_left
  · simp only [Act.put, List.setIfInBounds_toArray, List.set_cons_zero, List.set_cons_succ, i64_w, i32_w]
    rfl
  refine pure_ (i := 9) (N := some 14) (v := ?_) (a' := ?_) #[true, true, true, true, true, true, true, true, true, true] rfl rfl (any_of HT_.out (by kernel_rfl)) (fun _ _ _ h => h) (Or.inl ⟨by rfl, ?_⟩) ?_ ?_
  rotate_left
  · intro w'
    go_simp
    with_reducible rfl
  rotate_left
  · simp only [Act.put, List.setIfInBounds_toArray, List.set_cons_zero, List.set_cons_succ, i64_w, i32_w]
    rfl
  refine done_ (done_of HT_.out (by kernel_rfl)) ?_
  obtain ⟨V2, hV2⟩ : ∃ W, W = W2.drew := ⟨_, rfl⟩
  rw [← hV2] at H2 B2 KR KK
  rw [← hV2]
  have hKV : Aside0 (w.heap.size + 1 < V2.heap.size) := ⟨blk_lt KK.out⟩
  clear y4 CS hV2
  obtain ⟨W3, hW3⟩ : ∃ W, W = V2.alloc (.cells #[.int .i64 0, .slice none 0 0] 147) := ⟨_, rfl⟩
  have hB3 : Below V2.heap.size V2 W3 := by rw [hW3]; exact below_alloc (Below.refl _ _) _
  have H3 := Aside0.mk (H2.out.below hB3)
  have KX := Aside0.mk (show W3.heap[V2.heap.size]? = some (.cells #[.int .i64 0, .slice none 0 0] 147 (0, 0)) by rw [hW3]; exact blk_new _ _)
  have B3 := Aside0.mk (below_then B2.out B2.out.size hB3)
  have y5 := (blk_cell H3.out.kt 0).trans rfl
  have y6 := (blk_cell H3.out.kb 0).trans rfl
  replace KR := Aside0.mk (blk_below KR.out hB3)
  replace KK := Aside0.mk (blk_below KK.out hB3)
  obtain ⟨gx, hgx⟩ : ∃ k, k = V2.heap.size := ⟨_, rfl⟩
  have hp := HP.out
  obtain ⟨hw, hs, hm, _, _⟩ := H.out.2
  have s0 := hw.side false hp.1 (by have := hp.2.2.2.2.1; omega) hp.2.1
  have s1 := hw.side true hp.1 (by have := hp.2.2.2.2.1; omega) hp.2.1
  rw [← HS.out.1] at s0
  rw [← HS.out.2] at s1
  have pl0 : Pl T 0 := ⟨by omega, by have := hw.two; omega⟩
  have a0 : asksP T 0 = T.vars := asks_lt (by omega)
  obtain ⟨m, T4, L4, i1, i2, i3, i4, i5, i6⟩ := ite_plain d 64 T L lo hi 0 hw hs s0.1 s1.1 pl0 (by have := hp.2.2; omega) ((le_min3 _ _ _ _).2 ⟨by have := hp.2.2; omega, by have := hp.2.2; omega, by have := hp.2.2; omega⟩) (by have := hp.2.2; omega)
  have hbud : T4.ns.length ≤ T.ns.length + 8192 ∧ T4.ns.length < 1000000000000 := by
    have h1 := hp.2.2.2.1
    have h2 : 2 ^ (d + 1) ≤ 2 ^ 13 := Nat.pow_le_pow_right (by omega) (by have := hp.2.2; omega)
    have h3 : 8192 ≤ budget (d + 1) := by
      unfold budget
      have := Nat.pow_pos (n := d) (show 0 < 3 by omega)
      rw [Nat.pow_succ]; omega
    omega
  have I := Aside0.mk (And.intro i1 (And.intro i2 (And.intro i3 (And.intro i4 (And.intro i5 hbud)))))
  have S01 := Aside0.mk (And.intro s0 s1)
  rw [hW3] at y5 y6
  clear i1 i2 i3 i4 i5 i6 hbud hw hs hm hp s0 s1 pl0 a0 hB3
  go_wp2_with fail
  rw [← hW3]
  clear hW3 y5 y6
  refine (ite_calls t mc 64 S T L lo hi 0 m T4 L4 W3 H3.out.it I.out.1 I.out.2.2.2.2.2.2).mono ?_
  rintro e w4 ⟨rfl, hI4, hF4⟩
  have hm0 := H.out.2.2.2.1
  have hb0 := H.out.2.2.2.2.1
  have hY0 := H.out.2.2.2.2.2
  have hmc := H.out.1.it.map.lt
  have hms := H.out.1.sm.lt
  have hgk := blk_lt KK.out
  have hgx3 := blk_lt KX.out
  have kpos : w.heap.size + 1 < V2.heap.size := hKV.out
  obtain ⟨gr, hgr⟩ : ∃ k, k = w4.heap.size := ⟨_, rfl⟩
  obtain ⟨W5, hW5⟩ : ∃ W, W = w4.alloc (.cells #[.int .i64 lo, .int .i64 hi, .int .i64 m] 3) := ⟨_, rfl⟩
  have hB5 : Below w4.heap.size w4 W5 := by rw [hW5]; exact below_alloc (Below.refl _ _) _
  have k4 : ∀ {g : Nat} {o : Obj}, W3.heap[g]? = some o → w.heap.size ≤ g → W5.heap[g]? = some o := fun hk hge => blk_below ((hF4.block _ (blk_lt hk) (fun q => q.elim (fun q => by have := hb0 _ q; omega) (fun q => by omega))).trans hk) hB5
  have hf5 : Fr (fun k => S k ∨ k = mc) w W5 := ((Fr.of_below (S := fun k => S k ∨ k = mc) B3.out).then_ hF4 (fun k hk => .inl hk)).then_ (S2 := fun _ => False) (Fr.of_below hB5) (fun k hk => hk.elim)
  have h34 := hF4.size
  have h3w := B3.out.size
  have hLp : Lp w W5 S (fun k => (S k ∨ (W3.heap.size ≤ k ∧ k ≠ mc)) ∧ k < w4.heap.size) Y gf gs gt gb gn t mc ms gx gr v r A c l p q lo hi m T4 T4 L4 M d 0 (bstJ (bestT d (den T d lo)) (bestT d (den T d hi)) (bestT d (den T4 d m)) 0) (0, none, 0, 0) := by
    refine ⟨(H3.out.ite hF4 hI4 (fun k hk => hk.1.imp id (·.1))).below hB5, I.out.2.1, I.out.2.2.2.1, Ext.refl _, hm0.next H.out.2.1 I.out.2.2.1 (hf5.mono (fun k hk => .inl (hk.imp id .inl))) (fun k hk => ?_), by omega, k4 KR.out (Nat.le_refl _), k4 KK.out (by omega), by rw [hgx]; exact k4 KX.out (by omega), by rw [hW5, hgr]; exact blk_new _ _, rfl, hf5.mono (fun k hk => hk.imp id .inl), fun k hk => ?_, fun k hk => Nat.lt_of_lt_of_le hk.2 hB5.size, hb0, hY0, by omega⟩
    · rcases hk with (hk | hk) | hk | hk | hk
      · exact hk.1.elim (fun q => .inl (.inl (.inl q))) (fun q => .inr (by omega))
      · exact .inl (.inl (.inr hk))
      · exact .inl (.inr hk)
      · exact .inr (by omega)
      · exact .inr (by omega)
    · rcases hk.1 with q | q
      · exact .inl q
      · exact .inr (by have := hk.2; omega)
  have LP := Aside0.mk hLp
  clear hm0 hb0 hY0 hmc hms hgk hgx3 kpos hB5 k4 hf5 h34 h3w hLp hI4 hF4
  go_wp2
  rw [← hW5, ← hgr, ← hgx]
  clear hW5 hgr hgx KR KK KX H3 B3 H2 B2
  go_loopg [60] 3 (fun kq v60 w' => ∃ (b : Nat) (S' : Nat → Prop) (T' : TB) (L' : SL) (M' : List ((Int × Int) × WV)) (x : WV), b + kq = 3 ∧ v60 = .int .i64 b ∧ Aside0 (Lp w w' S S' Y gf gs gt gb gn t mc ms gx gr v r A c l p q lo hi m T4 T' L' M' d b (bstJ (bestT d (den T d lo)) (bestT d (den T d hi)) (bestT d (den T4 d m)) b) x))
  case atStart => exact ⟨0, _, _, _, _, _, by omega, rfl, LP⟩
  case round =>
    clear LP
    obtain ⟨b, S', T', L', M', x, hbk, rfl, LP⟩ := hrel
    obtain rfl | rfl | rfl | rfl : b = 0 ∨ b = 1 ∨ b = 2 ∨ b = 3 := by omega
    · rw [show ((0 : Nat) : Int) = 0 from rfl]
      have hp := HP.out
      have hvT : T'.vars = v := (LP.out.ext.1.trans I.out.2.2.1.1).trans hp.2.2.2.2.1
      have w1 : wrap64 (q + 1) = q + 1 := by unfold wrap64; omega
      have z1 := (blk_cell LP.out.kg 0).trans rfl
      have zclear := trivial
      have z2 : _ = some (fnF gf gs gt gb gn) := (blk_cell LP.out.fw.kn 0).trans rfl
      unfold fnF at z2
      have hlt : T'.ns.length + budget d < 1000000000000 := by have h1 := LP.out.len; have h2 := I.out.2.2.2.2.2.1; have h3 := hp.2.2.2.1; rw [budget_succ] at h3; omega
      have has : q + 1 ≤ asksP T' lo := by
        rw [(I.out.2.2.1.then_ LP.out.ext).asks S01.out.1.1]; exact S01.out.1.2
      have hden : den T' d lo = den T d lo := (I.out.2.2.1.then_ LP.out.ext).den H.out.2.1 d lo (by omega) S01.out.1.1 (by have := S01.out.1.2; omega)
      have CI := Aside0.mk (HI.out wr S' (Yx Y gx w) T' L' M' lo LP.out.fw LP.out.wf LP.out.seen LP.out.memo LP.out.bd (fun k hk => hk.elim (fun e => by have h1 := LP.out.yb k e; have h2 := LP.out.fr.size; omega) (fun e => e.elim (fun e => by rw [e]; exact blk_lt LP.out.kx) (fun e => by rw [e]; exact blk_lt LP.out.kr))) hvT ((I.out.2.2.1.then_ LP.out.ext).pl S01.out.1.1) has hlt)
      rw [hden] at CI
      clear hp hvT hlt has hden
      go_wp2_with fail
      refine CI.out.mono ?_
      rintro e w6 ⟨S6, ⟨g6, A6, n6, c6⟩, T6, L6, M6, rfl, F6, h61, h62, h63, h64, wd6, h66, h67, h68, h69⟩
      have LP6 := Aside0.mk (LP.out.call (hF := F6) h61 h62 h63 h64 h66 h67 h68 h69)
      clear F6 h61 h62 h63 h64 h66 h67 h68 h69 z1 z2 CI
      obtain ⟨o6, ho6⟩ : ∃ o, o = bestT d (den T d lo) := ⟨_, rfl⟩
      rw [← ho6] at wd6
      simp only [encW]
      cases o6 with
      | none =>
        obtain ⟨rfl, rfl, rfl, rfl⟩ : g6 = 0 ∧ A6 = none ∧ n6 = 0 ∧ c6 = 0 := by simpa [WdOk] using wd6
        have hnil := fun w => Lib.run_eql_slice_nil (P := Try.prog) w 82 3 none 0 0 0 0 Try.underlying82
        go_wp2
        go_roundg (3 - (0 + 1))
        case measure => omega
        case rel =>
          have e : bstJ (bestT d (den T d lo)) (bestT d (den T d hi)) (bestT d (den T4 d m)) (0 + 1) = bstJ (bestT d (den T d lo)) (bestT d (den T d hi)) (bestT d (den T4 d m)) 0 := by simp only [bstJ]; rw [← ho6]; rfl
          exact ⟨1, S6, T6, L6, M6, x, by omega, by first | go_num | (rw [HIX.out]; go_num), ⟨by rw [e]; exact LP6.out.below (below_alloc (Below.refl _ _) _)⟩⟩
      | some a =>
        obtain ⟨e1, ad6, e2, e3, e4, e5⟩ := wd6
        dsimp only at e1 e2 e3 e4
        subst e1
        subst e2
        subst e3
        have HA := Aside0.mk (bestT_len d _ a ho6.symm)
        have hd12 : Aside0 (d ≤ 12) := ⟨by have := HP.out; omega⟩
        have hnil := fun w => Lib.run_eql_slice_nil (P := Try.prog) w 82 3 (some ad6) a.2.length c6 0 0 Try.underlying82
        have wf1 : wrap64 (a.1 + 1) = a.1 + 1 := by have := HA.out; have := hd12.out; unfold wrap64; omega
        obtain ⟨W7, hW7⟩ : ∃ W, W = w6.alloc (.cells #[.int .i64 a.1, .slice (some ad6) a.2.length c6] 147) := ⟨_, rfl⟩
        have hB7 : Below w6.heap.size w6 W7 := by rw [hW7]; exact below_alloc (Below.refl _ _) _
        have hsz7 : W7.heap.size = w6.heap.size + 1 := by rw [hW7]; simp
        have LP7 := Aside0.mk (LP6.out.below hB7)
        have C8 : Aside0 (Kd.C (Kd.int .i64) (W7.alloc (.cells #[.int .i64 0] 3)) (some ad6) a.2.length a.2) := ⟨e5.read (Fr.of_below (below_then hB7 hB7.size (below_alloc (Below.refl _ _) _)))⟩
        have R8 : Aside0 ((Kd.int .i64).R 3 (W7.alloc (.cells #[.int .i64 0] 3)) W7.heap.size (fun _ => True) (.slice (some ⟨w6.heap.size + 1, 0, none⟩) 1 1) [(0 : Int)]) := ⟨by rw [← hsz7]; exact one_R (blk_new _ _) (Nat.le_refl _)⟩
        clear hB7 e5 LP6
        go_upto_region 19 with fail
        iterate 16 (go_step)
        rw [← hW7]
        refine Kd.R_append_rows (Kd.int .i64) (w0 := W7) (W := W7.alloc (.cells #[.int .i64 0] 3)) W7.heap.size rfl (.tmp 81) (.tmp 83) 82 3 (.int .i64 0) 8 rfl Try.underlying82 info3 rfl (by decide) (by decide) (.slice (some ⟨w6.heap.size + 1, 0, none⟩) 1 1) [(0 : Int)] a.2 (some ad6) a.2.length c6 (fun _ => True) (fun _ => False) rfl rfl R8.out C8.out (fun _ _ h => h) (fun _ h => h.elim) (fun _ _ => trivial) (below_alloc (Below.refl _ _) _) (below_alloc (Below.refl W7.heap.size W7) _).size (by have := HA.out; have := hd12.out; simp only [List.length_singleton]; omega) ?_
        intro v9 w9 hR9 hB9 hg9 hat9
        rw [show [(0 : Int)] ++ a.2 = 0 :: a.2 from rfl] at hR9
        obtain ⟨cs, hcs⟩ : ∃ cs, cs = (0 : Int) :: a.2 := ⟨_, rfl⟩
        rw [← hcs] at hR9
        have hcl : Aside0 (cs.length = a.2.length + 1) := ⟨by rw [hcs]; rfl⟩
        obtain ⟨g9, c9, rfl, _, _, _⟩ := Kd.R_form hR9 (by rw [hcl.out]; omega)
        have hc9 := (Kd.R_reads' hR9).2.1
        have LP9 := Aside0.mk (LP7.out.below hB9)
        have RD9 : RdI (Zy S6 mc ms (Yx Y gx w)) w9 (some ⟨g9, 0, none⟩) c9 cs := RdI.of_R (Kd.R_mono (Kd.R_bound hR9) (fun k hk => hk.2.1)) (fun k hk hz => by
          have m1 := LP7.out.mb; have m2 := LP7.out.fr.size; have m3 := blk_lt LP7.out.kg
          rcases hz with (hz | hz | hz) | hz | hz | hz
          · have := LP7.out.bd k hz; omega
          · omega
          · omega
          · have := LP7.out.yb k hz; omega
          · omega
          · omega)
        obtain ⟨W10, hW10⟩ : ∃ W, W = w9.alloc (.cells #[.int .i64 (a.1), .slice (some ⟨g9, 0, none⟩) cs.length c9] 147) := ⟨_, rfl⟩
        have hB10 : Below w9.heap.size w9 W10 := by rw [hW10]; exact below_alloc (Below.refl _ _) _
        have K20 := Aside0.mk (show W10.heap[w9.heap.size]? = some (.cells #[.int .i64 (a.1), .slice (some ⟨g9, 0, none⟩) cs.length c9] 147 (0, 0)) by rw [hW10]; exact blk_new _ _)
        have LP10 := Aside0.mk (LP9.out.below hB10)
        have RD10 := Aside0.mk (RD9.next (Fr.of_below hB10) (fun k hk => .inl hk))
        have WD10 : Aside0 (WdOk (Zy S6 mc ms (Yx Y gx w)) W10 (some (a.1, cs)) (a.1, some ⟨g9, 0, none⟩, cs.length, c9)) := ⟨⟨rfl, _, rfl, rfl, hc9, RD10.out⟩⟩
        have eB : Aside0 (∀ o, o = bstJ (bestT d (den T d lo)) (bestT d (den T d hi)) (bestT d (den T4 d m)) 0 → bstJ (bestT d (den T d lo)) (bestT d (den T d hi)) (bestT d (den T4 d m)) (0 + 1) = pickW o (some (a.1, cs))) := ⟨fun o ho => by rw [ho, hcs]; simp only [bstJ]; rw [← ho6]; rfl⟩
        obtain ⟨ob, hob⟩ : ∃ o, o = bstJ (bestT d (den T d lo)) (bestT d (den T d hi)) (bestT d (den T4 d m)) 0 := ⟨_, rfl⟩
        have hwx := LP10.out.wd
        rw [← hob] at hwx
        have HOB := Aside0.mk hob
        clear hR9 hB9 hg9 hat9 hcs RD9 hB10 LP9 LP7 hob hW7 hsz7 C8 R8
        cases ob with
        | none =>
          have hx0 : x = (0, none, 0, 0) := hwx
          subst hx0
          have z5 := (blk_cell LP10.out.kx 0).trans rfl
          have z6 := (blk_cell LP10.out.kx 1).trans rfl
          rw [hW10] at z5 z6
          go_wp2_with fail
          rw [← hW10]
          refine (better_nil (a.1) 0 (some ⟨g9, 0, none⟩) cs.length c9 W10).mono ?_
          rintro e w11 ⟨rfl, hB11⟩
          have LP11 := Aside0.mk (LP10.out.below hB11)
          have WD11 := Aside0.mk (WD10.out.next (Fr.of_below hB11) (fun k hk => .inl hk))
          have k20 := blk_below K20.out hB11
          have z7 := (blk_cell k20 0).trans rfl
          have z8 := (blk_cell k20 1).trans rfl
          have z9 := (blk_cell LP11.out.kx 0).trans rfl
          have z10 := (blk_cell LP11.out.kx 1).trans rfl
          have f9 := blk_frozen LP11.out.kx 0
          have f10 := blk_frozen LP11.out.kx 1
          clear z5 z6 hW10 hB11 k20
          go_wp2
          go_roundg (3 - (0 + 1))
          case measure => omega
          case rel => exact ⟨0 + 1, S6, T6, L6, M6, (a.1, some ⟨g9, 0, none⟩, cs.length, c9), by omega, by go_num, ⟨by rw [eB.out none HOB.out]; exact LP11.out.setx WD11.out⟩⟩
        | some y =>
          obtain ⟨y1, adx, y2, y3, y4, y5⟩ := hwx
          obtain ⟨xg, xA, xn, xc⟩ := x
          dsimp only at y1 y2 y3 y4
          subst y1
          subst y2
          subst y3
          have HYL := Aside0.mk (bstJ_len (fun a h => (bestT_len d _ a h).1) (fun a h => (bestT_len d _ a h).1) (fun a h => (bestT_len d _ a h).1) 0 y HOB.out.symm)
          have CY := Aside0.mk (And.intro (RD10.out.read (Fr.refl _ _)) (y5.read (Fr.refl _ _)))
          have z5 := (blk_cell LP10.out.kx 0).trans rfl
          have z6 := (blk_cell LP10.out.kx 1).trans rfl
          rw [hW10] at z5 z6
          clear y5
          go_wp2_with fail
          rw [← hW10]
          refine (better_some (a.1) y.1 ⟨g9, 0, none⟩ adx c9 xc cs y.2 W10 CY.out.1 hc9 CY.out.2 y4 (by have := hcl.out; have := HA.out; have := hd12.out; omega) (by have := HYL.out; have := hd12.out; omega)).mono ?_
          rintro e w11 ⟨rfl, hB11⟩
          have LP11 := Aside0.mk (LP10.out.below hB11)
          have WD11 := Aside0.mk (WD10.out.next (Fr.of_below hB11) (fun k hk => .inl hk))
          have k20 := blk_below K20.out hB11
          have z7 := (blk_cell k20 0).trans rfl
          have z8 := (blk_cell k20 1).trans rfl
          have z9 := (blk_cell LP11.out.kx 0).trans rfl
          have z10 := (blk_cell LP11.out.kx 1).trans rfl
          have f9 := blk_frozen LP11.out.kx 0
          have f10 := blk_frozen LP11.out.kx 1
          clear z5 z6 hW10 hB11 k20
          cases hbt : betterW (some (a.1, cs)) (some (y.1, y.2)) with
          | false =>
            have HBT := Aside0.mk hbt
            clear hbt
            go_wp2
            go_roundg (3 - (0 + 1))
            case measure => omega
            case rel =>
              have e : bstJ (bestT d (den T d lo)) (bestT d (den T d hi)) (bestT d (den T4 d m)) (0 + 1) = bstJ (bestT d (den T d lo)) (bestT d (den T d hi)) (bestT d (den T4 d m)) 0 := by
                rw [eB.out (some y) HOB.out, ← HOB.out]
                simp only [pickW]
                rw [show betterW (some (a.1, cs)) (some y) = false from HBT.out]
                rfl
              exact ⟨0 + 1, S6, T6, L6, M6, (y.1, some adx, y.2.length, xc), by omega, by go_num, ⟨by rw [e]; exact LP11.out⟩⟩
          | true =>
            have HBT := Aside0.mk hbt
            clear hbt
            go_wp2
            go_roundg (3 - (0 + 1))
            case measure => omega
            case rel => exact ⟨0 + 1, S6, T6, L6, M6, (a.1, some ⟨g9, 0, none⟩, cs.length, c9), by omega, by go_num, ⟨by rw [eB.out (some y) HOB.out]; simp only [pickW]; rw [show betterW (some (a.1, cs)) (some y) = true from HBT.out]; exact LP11.out.setx WD11.out⟩⟩
    · rw [show ((1 : Nat) : Int) = 1 from rfl]
      have hp := HP.out
      have hvT : T'.vars = v := (LP.out.ext.1.trans I.out.2.2.1.1).trans hp.2.2.2.2.1
      have w1 : wrap64 (q + 1) = q + 1 := by unfold wrap64; omega
      have z1 := (blk_cell LP.out.kg 1).trans rfl
      have zclear := trivial
      have z2 : _ = some (fnF gf gs gt gb gn) := (blk_cell LP.out.fw.kn 0).trans rfl
      unfold fnF at z2
      have hlt : T'.ns.length + budget d < 1000000000000 := by have h1 := LP.out.len; have h2 := I.out.2.2.2.2.2.1; have h3 := hp.2.2.2.1; rw [budget_succ] at h3; omega
      have has : q + 1 ≤ asksP T' hi := by
        rw [(I.out.2.2.1.then_ LP.out.ext).asks S01.out.2.1]; exact S01.out.2.2
      have hden : den T' d hi = den T d hi := (I.out.2.2.1.then_ LP.out.ext).den H.out.2.1 d hi (by omega) S01.out.2.1 (by have := S01.out.2.2; omega)
      have CI := Aside0.mk (HI.out wr S' (Yx Y gx w) T' L' M' hi LP.out.fw LP.out.wf LP.out.seen LP.out.memo LP.out.bd (fun k hk => hk.elim (fun e => by have h1 := LP.out.yb k e; have h2 := LP.out.fr.size; omega) (fun e => e.elim (fun e => by rw [e]; exact blk_lt LP.out.kx) (fun e => by rw [e]; exact blk_lt LP.out.kr))) hvT ((I.out.2.2.1.then_ LP.out.ext).pl S01.out.2.1) has hlt)
      rw [hden] at CI
      clear hp hvT hlt has hden
      go_wp2_with fail
      refine CI.out.mono ?_
      rintro e w6 ⟨S6, ⟨g6, A6, n6, c6⟩, T6, L6, M6, rfl, F6, h61, h62, h63, h64, wd6, h66, h67, h68, h69⟩
      have LP6 := Aside0.mk (LP.out.call (hF := F6) h61 h62 h63 h64 h66 h67 h68 h69)
      clear F6 h61 h62 h63 h64 h66 h67 h68 h69 z1 z2 CI
      obtain ⟨o6, ho6⟩ : ∃ o, o = bestT d (den T d hi) := ⟨_, rfl⟩
      rw [← ho6] at wd6
      simp only [encW]
      cases o6 with
      | none =>
        obtain ⟨rfl, rfl, rfl, rfl⟩ : g6 = 0 ∧ A6 = none ∧ n6 = 0 ∧ c6 = 0 := by simpa [WdOk] using wd6
        have hnil := fun w => Lib.run_eql_slice_nil (P := Try.prog) w 82 3 none 0 0 0 0 Try.underlying82
        go_wp2
        go_roundg (3 - (1 + 1))
        case measure => omega
        case rel =>
          have e : bstJ (bestT d (den T d lo)) (bestT d (den T d hi)) (bestT d (den T4 d m)) (1 + 1) = bstJ (bestT d (den T d lo)) (bestT d (den T d hi)) (bestT d (den T4 d m)) 1 := by simp only [bstJ]; rw [← ho6]; rfl
          exact ⟨2, S6, T6, L6, M6, x, by omega, by first | go_num | (rw [HIX.out]; go_num), ⟨by rw [e]; exact LP6.out.below (below_alloc (Below.refl _ _) _)⟩⟩
      | some a =>
        obtain ⟨e1, ad6, e2, e3, e4, e5⟩ := wd6
        dsimp only at e1 e2 e3 e4
        subst e1
        subst e2
        subst e3
        have HA := Aside0.mk (bestT_len d _ a ho6.symm)
        have hd12 : Aside0 (d ≤ 12) := ⟨by have := HP.out; omega⟩
        have hnil := fun w => Lib.run_eql_slice_nil (P := Try.prog) w 82 3 (some ad6) a.2.length c6 0 0 Try.underlying82
        have wf1 : wrap64 (a.1 + 1) = a.1 + 1 := by have := HA.out; have := hd12.out; unfold wrap64; omega
        obtain ⟨W7, hW7⟩ : ∃ W, W = w6.alloc (.cells #[.int .i64 a.1, .slice (some ad6) a.2.length c6] 147) := ⟨_, rfl⟩
        have hB7 : Below w6.heap.size w6 W7 := by rw [hW7]; exact below_alloc (Below.refl _ _) _
        have hsz7 : W7.heap.size = w6.heap.size + 1 := by rw [hW7]; simp
        have LP7 := Aside0.mk (LP6.out.below hB7)
        have C8 : Aside0 (Kd.C (Kd.int .i64) (W7.alloc (.cells #[.int .i64 1] 3)) (some ad6) a.2.length a.2) := ⟨e5.read (Fr.of_below (below_then hB7 hB7.size (below_alloc (Below.refl _ _) _)))⟩
        have R8 : Aside0 ((Kd.int .i64).R 3 (W7.alloc (.cells #[.int .i64 1] 3)) W7.heap.size (fun _ => True) (.slice (some ⟨w6.heap.size + 1, 0, none⟩) 1 1) [(1 : Int)]) := ⟨by rw [← hsz7]; exact one_R (blk_new _ _) (Nat.le_refl _)⟩
        clear hB7 e5 LP6
        go_upto_region 19 with fail
        iterate 16 (go_step)
        rw [← hW7]
        refine Kd.R_append_rows (Kd.int .i64) (w0 := W7) (W := W7.alloc (.cells #[.int .i64 1] 3)) W7.heap.size rfl (.tmp 81) (.tmp 83) 82 3 (.int .i64 0) 8 rfl Try.underlying82 info3 rfl (by decide) (by decide) (.slice (some ⟨w6.heap.size + 1, 0, none⟩) 1 1) [(1 : Int)] a.2 (some ad6) a.2.length c6 (fun _ => True) (fun _ => False) rfl rfl R8.out C8.out (fun _ _ h => h) (fun _ h => h.elim) (fun _ _ => trivial) (below_alloc (Below.refl _ _) _) (below_alloc (Below.refl W7.heap.size W7) _).size (by have := HA.out; have := hd12.out; simp only [List.length_singleton]; omega) ?_
        intro v9 w9 hR9 hB9 hg9 hat9
        rw [show [(1 : Int)] ++ a.2 = 1 :: a.2 from rfl] at hR9
        obtain ⟨cs, hcs⟩ : ∃ cs, cs = (1 : Int) :: a.2 := ⟨_, rfl⟩
        rw [← hcs] at hR9
        have hcl : Aside0 (cs.length = a.2.length + 1) := ⟨by rw [hcs]; rfl⟩
        obtain ⟨g9, c9, rfl, _, _, _⟩ := Kd.R_form hR9 (by rw [hcl.out]; omega)
        have hc9 := (Kd.R_reads' hR9).2.1
        have LP9 := Aside0.mk (LP7.out.below hB9)
        have RD9 : RdI (Zy S6 mc ms (Yx Y gx w)) w9 (some ⟨g9, 0, none⟩) c9 cs := RdI.of_R (Kd.R_mono (Kd.R_bound hR9) (fun k hk => hk.2.1)) (fun k hk hz => by
          have m1 := LP7.out.mb; have m2 := LP7.out.fr.size; have m3 := blk_lt LP7.out.kg
          rcases hz with (hz | hz | hz) | hz | hz | hz
          · have := LP7.out.bd k hz; omega
          · omega
          · omega
          · have := LP7.out.yb k hz; omega
          · omega
          · omega)
        obtain ⟨W10, hW10⟩ : ∃ W, W = w9.alloc (.cells #[.int .i64 (a.1), .slice (some ⟨g9, 0, none⟩) cs.length c9] 147) := ⟨_, rfl⟩
        have hB10 : Below w9.heap.size w9 W10 := by rw [hW10]; exact below_alloc (Below.refl _ _) _
        have K20 := Aside0.mk (show W10.heap[w9.heap.size]? = some (.cells #[.int .i64 (a.1), .slice (some ⟨g9, 0, none⟩) cs.length c9] 147 (0, 0)) by rw [hW10]; exact blk_new _ _)
        have LP10 := Aside0.mk (LP9.out.below hB10)
        have RD10 := Aside0.mk (RD9.next (Fr.of_below hB10) (fun k hk => .inl hk))
        have WD10 : Aside0 (WdOk (Zy S6 mc ms (Yx Y gx w)) W10 (some (a.1, cs)) (a.1, some ⟨g9, 0, none⟩, cs.length, c9)) := ⟨⟨rfl, _, rfl, rfl, hc9, RD10.out⟩⟩
        have eB : Aside0 (∀ o, o = bstJ (bestT d (den T d lo)) (bestT d (den T d hi)) (bestT d (den T4 d m)) 1 → bstJ (bestT d (den T d lo)) (bestT d (den T d hi)) (bestT d (den T4 d m)) (1 + 1) = pickW o (some (a.1, cs))) := ⟨fun o ho => by rw [ho, hcs]; simp only [bstJ]; rw [← ho6]; rfl⟩
        obtain ⟨ob, hob⟩ : ∃ o, o = bstJ (bestT d (den T d lo)) (bestT d (den T d hi)) (bestT d (den T4 d m)) 1 := ⟨_, rfl⟩
        have hwx := LP10.out.wd
        rw [← hob] at hwx
        have HOB := Aside0.mk hob
        clear hR9 hB9 hg9 hat9 hcs RD9 hB10 LP9 LP7 hob hW7 hsz7 C8 R8
        cases ob with
        | none =>
          have hx0 : x = (0, none, 0, 0) := hwx
          subst hx0
          have z5 := (blk_cell LP10.out.kx 0).trans rfl
          have z6 := (blk_cell LP10.out.kx 1).trans rfl
          rw [hW10] at z5 z6
          go_wp2_with fail
          rw [← hW10]
          refine (better_nil (a.1) 0 (some ⟨g9, 0, none⟩) cs.length c9 W10).mono ?_
          rintro e w11 ⟨rfl, hB11⟩
          have LP11 := Aside0.mk (LP10.out.below hB11)
          have WD11 := Aside0.mk (WD10.out.next (Fr.of_below hB11) (fun k hk => .inl hk))
          have k20 := blk_below K20.out hB11
          have z7 := (blk_cell k20 0).trans rfl
          have z8 := (blk_cell k20 1).trans rfl
          have z9 := (blk_cell LP11.out.kx 0).trans rfl
          have z10 := (blk_cell LP11.out.kx 1).trans rfl
          have f9 := blk_frozen LP11.out.kx 0
          have f10 := blk_frozen LP11.out.kx 1
          clear z5 z6 hW10 hB11 k20
          go_wp2
          go_roundg (3 - (1 + 1))
          case measure => omega
          case rel => exact ⟨1 + 1, S6, T6, L6, M6, (a.1, some ⟨g9, 0, none⟩, cs.length, c9), by omega, by go_num, ⟨by rw [eB.out none HOB.out]; exact LP11.out.setx WD11.out⟩⟩
        | some y =>
          obtain ⟨y1, adx, y2, y3, y4, y5⟩ := hwx
          obtain ⟨xg, xA, xn, xc⟩ := x
          dsimp only at y1 y2 y3 y4
          subst y1
          subst y2
          subst y3
          have HYL := Aside0.mk (bstJ_len (fun a h => (bestT_len d _ a h).1) (fun a h => (bestT_len d _ a h).1) (fun a h => (bestT_len d _ a h).1) 1 y HOB.out.symm)
          have CY := Aside0.mk (And.intro (RD10.out.read (Fr.refl _ _)) (y5.read (Fr.refl _ _)))
          have z5 := (blk_cell LP10.out.kx 0).trans rfl
          have z6 := (blk_cell LP10.out.kx 1).trans rfl
          rw [hW10] at z5 z6
          clear y5
          go_wp2_with fail
          rw [← hW10]
          refine (better_some (a.1) y.1 ⟨g9, 0, none⟩ adx c9 xc cs y.2 W10 CY.out.1 hc9 CY.out.2 y4 (by have := hcl.out; have := HA.out; have := hd12.out; omega) (by have := HYL.out; have := hd12.out; omega)).mono ?_
          rintro e w11 ⟨rfl, hB11⟩
          have LP11 := Aside0.mk (LP10.out.below hB11)
          have WD11 := Aside0.mk (WD10.out.next (Fr.of_below hB11) (fun k hk => .inl hk))
          have k20 := blk_below K20.out hB11
          have z7 := (blk_cell k20 0).trans rfl
          have z8 := (blk_cell k20 1).trans rfl
          have z9 := (blk_cell LP11.out.kx 0).trans rfl
          have z10 := (blk_cell LP11.out.kx 1).trans rfl
          have f9 := blk_frozen LP11.out.kx 0
          have f10 := blk_frozen LP11.out.kx 1
          clear z5 z6 hW10 hB11 k20
          cases hbt : betterW (some (a.1, cs)) (some (y.1, y.2)) with
          | false =>
            have HBT := Aside0.mk hbt
            clear hbt
            go_wp2
            go_roundg (3 - (1 + 1))
            case measure => omega
            case rel =>
              have e : bstJ (bestT d (den T d lo)) (bestT d (den T d hi)) (bestT d (den T4 d m)) (1 + 1) = bstJ (bestT d (den T d lo)) (bestT d (den T d hi)) (bestT d (den T4 d m)) 1 := by
                rw [eB.out (some y) HOB.out, ← HOB.out]
                simp only [pickW]
                rw [show betterW (some (a.1, cs)) (some y) = false from HBT.out]
                rfl
              exact ⟨1 + 1, S6, T6, L6, M6, (y.1, some adx, y.2.length, xc), by omega, by go_num, ⟨by rw [e]; exact LP11.out⟩⟩
          | true =>
            have HBT := Aside0.mk hbt
            clear hbt
            go_wp2
            go_roundg (3 - (1 + 1))
            case measure => omega
            case rel => exact ⟨1 + 1, S6, T6, L6, M6, (a.1, some ⟨g9, 0, none⟩, cs.length, c9), by omega, by go_num, ⟨by rw [eB.out (some y) HOB.out]; simp only [pickW]; rw [show betterW (some (a.1, cs)) (some y) = true from HBT.out]; exact LP11.out.setx WD11.out⟩⟩
    · rw [show ((2 : Nat) : Int) = 2 from rfl]
      have hp := HP.out
      have hvT : T'.vars = v := (LP.out.ext.1.trans I.out.2.2.1.1).trans hp.2.2.2.2.1
      have w1 : wrap64 (q + 1) = q + 1 := by unfold wrap64; omega
      have z1 := (blk_cell LP.out.kg 2).trans rfl
      have zclear := trivial
      have z2 : _ = some (fnF gf gs gt gb gn) := (blk_cell LP.out.fw.kn 0).trans rfl
      unfold fnF at z2
      have hlt : T'.ns.length + budget d < 1000000000000 := by have h1 := LP.out.len; have h2 := I.out.2.2.2.2.2.1; have h3 := hp.2.2.2.1; rw [budget_succ] at h3; omega
      have has : q + 1 ≤ asksP T' m := by
        rw [LP.out.ext.asks I.out.2.2.2.2.1.pl]
        refine Int.le_trans ?_ I.out.2.2.2.2.1.asks
        rw [le_min3]
        have e0 := I.out.2.2.1.asks S01.out.1.1; have e1 := I.out.2.2.1.asks S01.out.2.1; have e2 : asksP T4 0 = T4.vars := asks_lt (by omega); have e3 := I.out.2.2.1.1; have := S01.out.1.2; have := S01.out.2.2; omega
      have hden : den T' d m = den T4 d m := LP.out.ext.den I.out.2.1 d m (by have := I.out.2.2.1.1; omega) I.out.2.2.2.2.1.pl (by have := LP.out.ext.asks I.out.2.2.2.2.1.pl; have := LP.out.ext.1; omega)
      have CI := Aside0.mk (HI.out wr S' (Yx Y gx w) T' L' M' m LP.out.fw LP.out.wf LP.out.seen LP.out.memo LP.out.bd (fun k hk => hk.elim (fun e => by have h1 := LP.out.yb k e; have h2 := LP.out.fr.size; omega) (fun e => e.elim (fun e => by rw [e]; exact blk_lt LP.out.kx) (fun e => by rw [e]; exact blk_lt LP.out.kr))) hvT (LP.out.ext.pl I.out.2.2.2.2.1.pl) has hlt)
      rw [hden] at CI
      clear hp hvT hlt has hden
      go_wp2_with fail
      refine CI.out.mono ?_
      rintro e w6 ⟨S6, ⟨g6, A6, n6, c6⟩, T6, L6, M6, rfl, F6, h61, h62, h63, h64, wd6, h66, h67, h68, h69⟩
      have LP6 := Aside0.mk (LP.out.call (hF := F6) h61 h62 h63 h64 h66 h67 h68 h69)
      clear F6 h61 h62 h63 h64 h66 h67 h68 h69 z1 z2 CI
      obtain ⟨o6, ho6⟩ : ∃ o, o = bestT d (den T4 d m) := ⟨_, rfl⟩
      rw [← ho6] at wd6
      simp only [encW]
      cases o6 with
      | none =>
        obtain ⟨rfl, rfl, rfl, rfl⟩ : g6 = 0 ∧ A6 = none ∧ n6 = 0 ∧ c6 = 0 := by simpa [WdOk] using wd6
        have hnil := fun w => Lib.run_eql_slice_nil (P := Try.prog) w 82 3 none 0 0 0 0 Try.underlying82
        go_wp2
        go_roundg (3 - (2 + 1))
        case measure => omega
        case rel =>
          have e : bstJ (bestT d (den T d lo)) (bestT d (den T d hi)) (bestT d (den T4 d m)) (2 + 1) = bstJ (bestT d (den T d lo)) (bestT d (den T d hi)) (bestT d (den T4 d m)) 2 := by simp only [bstJ]; rw [← ho6]; rfl
          exact ⟨3, S6, T6, L6, M6, x, by omega, by first | go_num | (rw [HIX.out]; go_num), ⟨by rw [e]; exact LP6.out.below (below_alloc (Below.refl _ _) _)⟩⟩
      | some a =>
        obtain ⟨e1, ad6, e2, e3, e4, e5⟩ := wd6
        dsimp only at e1 e2 e3 e4
        subst e1
        subst e2
        subst e3
        have HA := Aside0.mk (bestT_len d _ a ho6.symm)
        have hd12 : Aside0 (d ≤ 12) := ⟨by have := HP.out; omega⟩
        have hnil := fun w => Lib.run_eql_slice_nil (P := Try.prog) w 82 3 (some ad6) a.2.length c6 0 0 Try.underlying82
        have wf1 : wrap64 (a.1 + 1) = a.1 + 1 := by have := HA.out; have := hd12.out; unfold wrap64; omega
        obtain ⟨W7, hW7⟩ : ∃ W, W = w6.alloc (.cells #[.int .i64 a.1, .slice (some ad6) a.2.length c6] 147) := ⟨_, rfl⟩
        have hB7 : Below w6.heap.size w6 W7 := by rw [hW7]; exact below_alloc (Below.refl _ _) _
        have hsz7 : W7.heap.size = w6.heap.size + 1 := by rw [hW7]; simp
        have LP7 := Aside0.mk (LP6.out.below hB7)
        have C8 : Aside0 (Kd.C (Kd.int .i64) (W7.alloc (.cells #[.int .i64 2] 3)) (some ad6) a.2.length a.2) := ⟨e5.read (Fr.of_below (below_then hB7 hB7.size (below_alloc (Below.refl _ _) _)))⟩
        have R8 : Aside0 ((Kd.int .i64).R 3 (W7.alloc (.cells #[.int .i64 2] 3)) W7.heap.size (fun _ => True) (.slice (some ⟨w6.heap.size + 1, 0, none⟩) 1 1) [(2 : Int)]) := ⟨by rw [← hsz7]; exact one_R (blk_new _ _) (Nat.le_refl _)⟩
        clear hB7 e5 LP6
        go_upto_region 19 with fail
        iterate 16 (go_step)
        rw [← hW7]
        refine Kd.R_append_rows (Kd.int .i64) (w0 := W7) (W := W7.alloc (.cells #[.int .i64 2] 3)) W7.heap.size rfl (.tmp 81) (.tmp 83) 82 3 (.int .i64 0) 8 rfl Try.underlying82 info3 rfl (by decide) (by decide) (.slice (some ⟨w6.heap.size + 1, 0, none⟩) 1 1) [(2 : Int)] a.2 (some ad6) a.2.length c6 (fun _ => True) (fun _ => False) rfl rfl R8.out C8.out (fun _ _ h => h) (fun _ h => h.elim) (fun _ _ => trivial) (below_alloc (Below.refl _ _) _) (below_alloc (Below.refl W7.heap.size W7) _).size (by have := HA.out; have := hd12.out; simp only [List.length_singleton]; omega) ?_
        intro v9 w9 hR9 hB9 hg9 hat9
        rw [show [(2 : Int)] ++ a.2 = 2 :: a.2 from rfl] at hR9
        obtain ⟨cs, hcs⟩ : ∃ cs, cs = (2 : Int) :: a.2 := ⟨_, rfl⟩
        rw [← hcs] at hR9
        have hcl : Aside0 (cs.length = a.2.length + 1) := ⟨by rw [hcs]; rfl⟩
        obtain ⟨g9, c9, rfl, _, _, _⟩ := Kd.R_form hR9 (by rw [hcl.out]; omega)
        have hc9 := (Kd.R_reads' hR9).2.1
        have LP9 := Aside0.mk (LP7.out.below hB9)
        have RD9 : RdI (Zy S6 mc ms (Yx Y gx w)) w9 (some ⟨g9, 0, none⟩) c9 cs := RdI.of_R (Kd.R_mono (Kd.R_bound hR9) (fun k hk => hk.2.1)) (fun k hk hz => by
          have m1 := LP7.out.mb; have m2 := LP7.out.fr.size; have m3 := blk_lt LP7.out.kg
          rcases hz with (hz | hz | hz) | hz | hz | hz
          · have := LP7.out.bd k hz; omega
          · omega
          · omega
          · have := LP7.out.yb k hz; omega
          · omega
          · omega)
        obtain ⟨W10, hW10⟩ : ∃ W, W = w9.alloc (.cells #[.int .i64 (a.1 + 1), .slice (some ⟨g9, 0, none⟩) cs.length c9] 147) := ⟨_, rfl⟩
        have hB10 : Below w9.heap.size w9 W10 := by rw [hW10]; exact below_alloc (Below.refl _ _) _
        have K20 := Aside0.mk (show W10.heap[w9.heap.size]? = some (.cells #[.int .i64 (a.1 + 1), .slice (some ⟨g9, 0, none⟩) cs.length c9] 147 (0, 0)) by rw [hW10]; exact blk_new _ _)
        have LP10 := Aside0.mk (LP9.out.below hB10)
        have RD10 := Aside0.mk (RD9.next (Fr.of_below hB10) (fun k hk => .inl hk))
        have WD10 : Aside0 (WdOk (Zy S6 mc ms (Yx Y gx w)) W10 (some (a.1 + 1, cs)) (a.1 + 1, some ⟨g9, 0, none⟩, cs.length, c9)) := ⟨⟨rfl, _, rfl, rfl, hc9, RD10.out⟩⟩
        have eB : Aside0 (∀ o, o = bstJ (bestT d (den T d lo)) (bestT d (den T d hi)) (bestT d (den T4 d m)) 2 → bstJ (bestT d (den T d lo)) (bestT d (den T d hi)) (bestT d (den T4 d m)) (2 + 1) = pickW o (some (a.1 + 1, cs))) := ⟨fun o ho => by rw [ho, hcs]; simp only [bstJ]; rw [← ho6]; rfl⟩
        obtain ⟨ob, hob⟩ : ∃ o, o = bstJ (bestT d (den T d lo)) (bestT d (den T d hi)) (bestT d (den T4 d m)) 2 := ⟨_, rfl⟩
        have hwx := LP10.out.wd
        rw [← hob] at hwx
        have HOB := Aside0.mk hob
        clear hR9 hB9 hg9 hat9 hcs RD9 hB10 LP9 LP7 hob hW7 hsz7 C8 R8
        cases ob with
        | none =>
          have hx0 : x = (0, none, 0, 0) := hwx
          subst hx0
          have z5 := (blk_cell LP10.out.kx 0).trans rfl
          have z6 := (blk_cell LP10.out.kx 1).trans rfl
          rw [hW10] at z5 z6
          go_wp2_with fail
          rw [← hW10]
          refine (better_nil (a.1 + 1) 0 (some ⟨g9, 0, none⟩) cs.length c9 W10).mono ?_
          rintro e w11 ⟨rfl, hB11⟩
          have LP11 := Aside0.mk (LP10.out.below hB11)
          have WD11 := Aside0.mk (WD10.out.next (Fr.of_below hB11) (fun k hk => .inl hk))
          have k20 := blk_below K20.out hB11
          have z7 := (blk_cell k20 0).trans rfl
          have z8 := (blk_cell k20 1).trans rfl
          have z9 := (blk_cell LP11.out.kx 0).trans rfl
          have z10 := (blk_cell LP11.out.kx 1).trans rfl
          have f9 := blk_frozen LP11.out.kx 0
          have f10 := blk_frozen LP11.out.kx 1
          clear z5 z6 hW10 hB11 k20
          go_wp2
          go_roundg (3 - (2 + 1))
          case measure => omega
          case rel => exact ⟨2 + 1, S6, T6, L6, M6, (a.1 + 1, some ⟨g9, 0, none⟩, cs.length, c9), by omega, by go_num, ⟨by rw [eB.out none HOB.out]; exact LP11.out.setx WD11.out⟩⟩
        | some y =>
          obtain ⟨y1, adx, y2, y3, y4, y5⟩ := hwx
          obtain ⟨xg, xA, xn, xc⟩ := x
          dsimp only at y1 y2 y3 y4
          subst y1
          subst y2
          subst y3
          have HYL := Aside0.mk (bstJ_len (fun a h => (bestT_len d _ a h).1) (fun a h => (bestT_len d _ a h).1) (fun a h => (bestT_len d _ a h).1) 2 y HOB.out.symm)
          have CY := Aside0.mk (And.intro (RD10.out.read (Fr.refl _ _)) (y5.read (Fr.refl _ _)))
          have z5 := (blk_cell LP10.out.kx 0).trans rfl
          have z6 := (blk_cell LP10.out.kx 1).trans rfl
          rw [hW10] at z5 z6
          clear y5
          go_wp2_with fail
          rw [← hW10]
          refine (better_some (a.1 + 1) y.1 ⟨g9, 0, none⟩ adx c9 xc cs y.2 W10 CY.out.1 hc9 CY.out.2 y4 (by have := hcl.out; have := HA.out; have := hd12.out; omega) (by have := HYL.out; have := hd12.out; omega)).mono ?_
          rintro e w11 ⟨rfl, hB11⟩
          have LP11 := Aside0.mk (LP10.out.below hB11)
          have WD11 := Aside0.mk (WD10.out.next (Fr.of_below hB11) (fun k hk => .inl hk))
          have k20 := blk_below K20.out hB11
          have z7 := (blk_cell k20 0).trans rfl
          have z8 := (blk_cell k20 1).trans rfl
          have z9 := (blk_cell LP11.out.kx 0).trans rfl
          have z10 := (blk_cell LP11.out.kx 1).trans rfl
          have f9 := blk_frozen LP11.out.kx 0
          have f10 := blk_frozen LP11.out.kx 1
          clear z5 z6 hW10 hB11 k20
          cases hbt : betterW (some (a.1 + 1, cs)) (some (y.1, y.2)) with
          | false =>
            have HBT := Aside0.mk hbt
            clear hbt
            go_wp2
            go_roundg (3 - (2 + 1))
            case measure => omega
            case rel =>
              have e : bstJ (bestT d (den T d lo)) (bestT d (den T d hi)) (bestT d (den T4 d m)) (2 + 1) = bstJ (bestT d (den T d lo)) (bestT d (den T d hi)) (bestT d (den T4 d m)) 2 := by
                rw [eB.out (some y) HOB.out, ← HOB.out]
                simp only [pickW]
                rw [show betterW (some (a.1 + 1, cs)) (some y) = false from HBT.out]
                rfl
              exact ⟨2 + 1, S6, T6, L6, M6, (y.1, some adx, y.2.length, xc), by omega, by go_num, ⟨by rw [e]; exact LP11.out⟩⟩
          | true =>
            have HBT := Aside0.mk hbt
            clear hbt
            go_wp2
            go_roundg (3 - (2 + 1))
            case measure => omega
            case rel => exact ⟨2 + 1, S6, T6, L6, M6, (a.1 + 1, some ⟨g9, 0, none⟩, cs.length, c9), by omega, by go_num, ⟨by rw [eB.out (some y) HOB.out]; simp only [pickW]; rw [show betterW (some (a.1 + 1, cs)) (some y) = true from HBT.out]; exact LP11.out.setx WD11.out⟩⟩
    · have hp := HP.out
      have hvT : T'.vars = T.vars := LP.out.ext.1.trans I.out.2.2.1.1
      have hfin : bstJ (bestT d (den T d lo)) (bestT d (den T d hi)) (bestT d (den T4 d m)) 3 = bestT (d + 1) (den T (d + 1) p) := by
        have e1 : den T (d + 1) p = den T d lo ++ den T d hi := by
          rw [den_succ, HS.out.1, HS.out.2, show T.vars - ((d : Int) + 1) = q by omega]
        have e2 : den T4 d m = andL (den T d lo) (den T d hi) := by
          have i := I.out.2.2.2.2.1.den d (by have := I.out.2.2.1.1; omega) (by rw [le_min3]; have e0 := I.out.2.2.1.asks S01.out.1.1; have e1 := I.out.2.2.1.asks S01.out.2.1; have e2 : asksP T4 0 = T4.vars := asks_lt (by omega); have e3 := I.out.2.2.1.1; have := S01.out.1.2; have := S01.out.2.2; omega)
          rw [i, I.out.2.2.1.den H.out.2.1 d lo (by omega) S01.out.1.1 (by have := S01.out.1.2; omega), I.out.2.2.1.den H.out.2.1 d hi (by omega) S01.out.2.1 (by have := S01.out.2.2; omega), den_leaf I.out.2.1 d 0 (by have := I.out.2.2.1.1; omega) (by omega)]
          unfold andL
          rw [den_length]
          rfl
        simp only [bestT, bstJ]
        rw [e1, List.take_left' (den_length _ _ _), List.drop_left' (den_length _ _ _), e2]
      have hden : den T' (d + 1) p = den T (d + 1) p := (I.out.2.2.1.then_ LP.out.ext).den H.out.2.1 (d + 1) p (by omega) hp.1 (by omega)
      have r0 := (blk_cell LP.out.fw.ks 0).trans rfl
      have r1 := (blk_cell LP.out.kk 0).trans rfl
      have r2 := (blk_cell LP.out.kk 1).trans rfl
      have r3 := (blk_cell LP.out.kx 0).trans rfl
      have r4 := (blk_cell LP.out.kx 1).trans rfl
      obtain ⟨o, ho, hM⟩ := run_mapUpdate keyP Try.underlying144 (w := wr) LP.out.fw.sm (p, q) x
      simp only [encP, encW] at ho
      have kx' : (setBlock wr ms o).heap[gx]? = _ := (setBlock_other _ _ _ _ (map_off LP.out.fw.sm LP.out.kx)).trans LP.out.kx
      have kr' : (setBlock wr ms o).heap[w.heap.size]? = _ := (setBlock_other _ _ _ _ (map_off LP.out.fw.sm LP.out.kr)).trans LP.out.kr
      have r5 := (blk_cell kx' 0).trans rfl
      have r6 := (blk_cell kx' 1).trans rfl
      have r7 := (blk_cell kr' 0).trans rfl
      have r8 := (blk_cell kr' 1).trans rfl
      have f7 := blk_frozen kr' 0
      have f8 := blk_frozen kr' 1
      have F3 := Aside0.mk (And.intro hfin (And.intro hden (And.intro hvT (And.intro hM kr'))))
      clear hfin hden hvT hM kr' kx' hp
      go_wp2
      obtain ⟨hfin, hden, hvT, hM, kr'⟩ := F3.out
      have hp := HP.out
      have nr : ¬ S' w.heap.size := fun k => LP.out.notZ (.inl rfl) (.inl k)
      have kr2 := blk_put (cs' := #[.int .i64 x.1, .slice none 0 0]) kr' 0 (.int .i64 x.1) rfl
      have kr3 := blk_put (cs' := #[.int .i64 x.1, .slice x.2.1 x.2.2.1 x.2.2.2]) kr2 1 (.slice x.2.1 x.2.2.1 x.2.2.2) rfl
      have hF3 := ((LP.out.fw.memo hM).box kr' nr 0 (.int .i64 x.1)).box kr2 nr 1 (.slice x.2.1 x.2.2.1 x.2.2.2)
      have fz : Fr (fun k => k = ms ∨ k = w.heap.size) wr (((setBlock wr ms o).setCell ⟨w.heap.size, 0, none⟩ (.int .i64 x.1)).setCell ⟨w.heap.size, 1, none⟩ (.slice x.2.1 x.2.2.1 x.2.2.2)) :=
        ((Fr.setBlock (fun k => k = ms ∨ k = w.heap.size) wr ms o (.inl rfl)).then_ (Fr.setCell (fun k => k = ms ∨ k = w.heap.size) _ ⟨w.heap.size, 0, none⟩ (.int .i64 x.1) (.inr rfl)) (fun k hk => .inl hk)).then_ (Fr.setCell (fun k => k = ms ∨ k = w.heap.size) _ ⟨w.heap.size, 1, none⟩ (.slice x.2.1 x.2.2.1 x.2.2.2) (.inr rfl)) (fun k hk => .inl hk)
      have fzy : Fr (Zy S' mc ms (Yx Y gx w)) wr (((setBlock wr ms o).setCell ⟨w.heap.size, 0, none⟩ (.int .i64 x.1)).setCell ⟨w.heap.size, 1, none⟩ (.slice x.2.1 x.2.2.1 x.2.2.2)) := fz.mono (fun k hk => hk.elim (fun e => .inl (.inr (.inr e))) (fun e => .inr (.inr (.inr e))))
      have wd1 := LP.out.wd.next fzy (fun k hk => .inl hk)
      rw [hfin] at wd1
      have hd1 : (T'.vars - q).toNat = d + 1 := by omega
      have mm := (LP.out.memo.next LP.out.wf (Ext.refl _) fzy (fun k hk => .inl hk)).upd (p := p) (q := q) (x := x) ((I.out.2.2.1.then_ LP.out.ext).pl hp.1) (by omega) (by rw [(I.out.2.2.1.then_ LP.out.ext).asks hp.1]; exact hp.2.1) (by omega) (by rw [hd1, hden]; exact wd1)
      have less : ∀ k, Zy S' mc ms Y k → Zy S' mc ms (Yx Y gx w) k := fun k hk => hk.imp id .inl
      refine bodyPost_ret (results_single rfl (.cell w.heap.size 147 #[.int .i64 x.1, .slice x.2.1 x.2.2.1 x.2.2.2] (0, 0) _ rfl kr3 Try.underlying147 rfl (by kernel_rfl) .nil)) rfl ?_
      refine ⟨S', x, T', L', HMap.upd M' (p, q) x, rfl, hF3, LP.out.wf, LP.out.seen, I.out.2.2.1.then_ LP.out.ext, mm.less LP.out.wf less, wd1.next (Fr.refl _ _) (fun k hk => .inl (less k hk)), LP.out.fr.then_ fz (fun k hk => hk.elim (fun e => .inl (.inr (.inr e))) (fun e => .inr (by omega))), fun k hk => (LP.out.new k hk).imp id (fun e => e.1), fun k hk => Nat.lt_of_lt_of_le (LP.out.bd k hk) fz.size, ?_⟩
      have h1 := LP.out.len
      have h2 := I.out.2.2.2.2.2.1
      rw [budget_succ]
      omega
end Go.Proofs.Ytlplphgoldkoeaa.HTab
end

section
set_option linter.unusedVariables false
set_option linter.unusedSimpArgs false
namespace Go.Proofs.Ytlplphgoldkoeaa.HTab
open Go.RowKit Go.Proofs.YtlplphgoldkoeaaW.PrintWords Go.Proofs.YtlplphgoldkoeaaW.PrintLast Go.Proofs.YtlplphgoldkoeaaW.PrintMore Go.Proofs.Ytlplphgoldkoeaa.HMap Go.Proofs.Ytlplphgoldkoeaa.X
set_option linter.unusedVariables false
theorem find_calls (gf gs gt gb gn t mc ms : Nat) (v r : Int) (A : Option Addr) (c : Nat) (l : List S107) (hv12 : v ≤ 12) :
    ∀ (d : Nat) (w : World) (S Y : Nat → Prop) (T : TB) (L : SL) (M : List ((Int × Int) × WV)) (p q : Int), Fw w S gf gs gt gb gn t mc ms v r A c l T L M → WF T → Seen T L → MemoOk (Zy S mc ms Y) w T M → (∀ k, S k → k < w.heap.size) → (∀ k, Y k → k < w.heap.size) →
      q + d = v → 0 ≤ q → T.vars = v → Pl T p → q ≤ asksP T p → T.ns.length + budget d < 1000000000000 →
      Calls Try.prog 122 #[.int .i64 p, .int .i64 q, .pointer (some ⟨gf, 0, none⟩), .pointer (some ⟨gs, 0, none⟩), .pointer (some ⟨gt, 0, none⟩), .pointer (some ⟨gb, 0, none⟩), .pointer (some ⟨gn, 0, none⟩)] w (FPost w S gf gs gt gb gn t mc ms v r A c l T Y d (bestT d (den T d p)))
  | 0, w, S, Y, T, L, M, p, q, h, hw, hs, hm, hb, hY, hqd, hq0, hv, hpl, ha, hlen => by
    have h0 := hpl.1
    have hlt : p < 2 := by
      by_cases h2 : p < 2
      · exact h2
      · have := (hw.ok p (by omega) hpl.2).2.1
        rw [asks_ge h2] at ha
        omega
    have hden := den_leaf hw 0 p (by omega) hlt
    by_cases hp : p = 0
    · have e : bestT 0 (den T 0 p) = none := by rw [hden, hp]; rfl
      rw [e]
      exact find_zero w S gf gs gt gb gn t mc ms v r A c l T L M h hw hs Y hm hb hY 0 p q hp
    · have hp1 : p = 1 := by omega
      have e : bestT 0 (den T 0 p) = some (0, []) := by rw [hden, hp1]; rfl
      rw [e]
      exact find_end w S gf gs gt gb gn t mc ms v r A c l T L M h hw hs Y hm hb hY 0 p q hp (by omega)
  | d + 1, w, S, Y, T, L, M, p, q, h, hw, hs, hm, hb, hY, hqd, hq0, hv, hpl, ha, hlen => by
    by_cases hp : p = 0
    · have e : bestT (d + 1) (den T (d + 1) p) = none := by
        rw [den_leaf hw (d + 1) p (by omega) (by omega), hp]
        exact bestT_false (d + 1)
      rw [e]
      exact find_zero w S gf gs gt gb gn t mc ms v r A c l T L M h hw hs Y hm hb hY (d + 1) p q hp
    cases hx : HMap.look M (p, q) with
    | some x =>
      have := find_memo w S gf gs gt gb gn t mc ms v r A c l T L M h hw hs Y hm hb hY (d + 1) p q hp (by omega) x hx
      rw [show (T.vars - q).toNat = d + 1 by omega] at this
      exact this
    | none =>
      exact find_new w S gf gs gt gb gn t mc ms v r A c l T L M h hw hs Y hm hb hY d p q hp (by omega) hq0 hv hv12 (by omega) hpl ha hx hlen
        (fun W S' Y' T' L' M' ch a1 a2 a3 a4 a5 a6 a7 a8 a9 a10 => find_calls gf gs gt gb gn t mc ms v r A c l hv12 d W S' Y' T' L' M' ch (q + 1) a1 a2 a3 a4 a5 a6 (by omega) (by omega) a7 a8 a9 a10)
end Go.Proofs.Ytlplphgoldkoeaa.HTab
end

section
set_option linter.unusedVariables false
set_option linter.unusedSimpArgs false
namespace Go.Proofs.Ytlplphgoldkoeaa.HTab
open Go.RowKit Go.Proofs.YtlplphgoldkoeaaW.PrintWords Go.Proofs.YtlplphgoldkoeaaW.PrintLast Go.Proofs.YtlplphgoldkoeaaW.PrintMore Go.Proofs.Ytlplphgoldkoeaa.HMap Go.Proofs.Ytlplphgoldkoeaa.X
open Go.ChangeMaps (setBlock)
set_option linter.unusedVariables false
set_option linter.unusedSimpArgs false
set_option maxRecDepth 100000 in
set_option maxHeartbeats 4000000 in
theorem least_err (v r : Int) (A : Option Addr) (c : Nat) (l : List S107) (w : World) (hC : Kd.C k107 w A l.length l) (hc : l.length ≤ c) (hq : mask_Valid.f v l r = some false) :
    Calls Try.prog 72 #[.agg #[.int .i64 v, .slice A l.length c, .int .i64 r]] w fun e w' => e = .returned (.tuple #[.slice none 0 0, .int .i64 2]) ∧ Below w.heap.size w w' := by
  have hu := Try.underlying28
  have HC := Aside0.mk hC
  have HQ := Aside0.mk hq
  obtain ⟨W0, hW0⟩ : ∃ W, W = w.alloc (.cells #[.int .i64 v, .slice A l.length c, .int .i64 r] 28) := ⟨_, rfl⟩
  have HB0 := Aside0.mk (show Below w.heap.size w W0 by rw [hW0]; exact below_alloc (Below.refl _ _) _)
  clear hC hq
  go_enter Try.func72, Try.ntmps72
  go_wp2_with fail
  rw [← hW0]
  clear hW0
  refine (mask_Valid.calls v A c l r false W0 (Kd.C_below HC.out HB0.out) hc HQ.out).mono ?_
  rintro e w1 ⟨rfl, hB1⟩
  have B1 := Aside0.mk (below_then HB0.out HB0.out.size hB1)
  clear hB1
  go_wp2
  go_ret2
  exact ⟨by rfl, B1.out⟩
set_option maxRecDepth 100000 in
set_option maxHeartbeats 4000000 in
theorem least_none (v r : Int) (A : Option Addr) (c : Nat) (l : List S107) (w : World) (hC : Kd.C k107 w A l.length l) (hc : l.length ≤ c) (hq : mask_Valid.f v l r = some true) (hr : r = 0) :
    Calls Try.prog 72 #[.agg #[.int .i64 v, .slice A l.length c, .int .i64 r]] w fun e w' => e = .returned (.tuple #[.slice none 0 0, .int .i64 7]) ∧ Below w.heap.size w w' := by
  subst hr
  have hu := Try.underlying28
  have HC := Aside0.mk hC
  have HQ := Aside0.mk hq
  obtain ⟨W0, hW0⟩ : ∃ W, W = w.alloc (.cells #[.int .i64 v, .slice A l.length c, .int .i64 0] 28) := ⟨_, rfl⟩
  have HB0 := Aside0.mk (show Below w.heap.size w W0 by rw [hW0]; exact below_alloc (Below.refl _ _) _)
  have KF0 := Aside0.mk (show W0.heap[w.heap.size]? = some (.cells #[.int .i64 v, .slice A l.length c, .int .i64 0] 28 (0, 0)) by rw [hW0]; exact blk_new _ _)
  clear hC hq
  go_enter Try.func72, Try.ntmps72
  go_wp2_with fail
  rw [← hW0]
  clear hW0
  refine (mask_Valid.calls v A c l 0 true W0 (Kd.C_below HC.out HB0.out) hc HQ.out).mono ?_
  rintro e w1 ⟨rfl, hB1⟩
  have B1 := Aside0.mk (below_then HB0.out HB0.out.size hB1)
  have y0 := (blk_cell (blk_below KF0.out hB1) 2).trans rfl
  clear hB1
  go_wp2
  go_ret2
  exact ⟨by rfl, B1.out⟩
set_option maxRecDepth 100000 in
set_option maxHeartbeats 4000000 in
theorem least_ok (v r : Int) (A : Option Addr) (c : Nat) (l : List S107) (w : World) (hC : Kd.C k107 w A l.length l) (hc : l.length ≤ c) (hq : mask_Valid.f v l r = some true) (hr : r ≠ 0) (hV : VM v l r) (hll : l.length ≤ 1000000000) :
    Calls Try.prog 72 #[.agg #[.int .i64 v, .slice A l.length c, .int .i64 r]] w fun e w' => ∃ u, e = .returned (.tuple #[u, .int .i64 0]) ∧ (Kd.int .i64).R 3 w' w.heap.size (fun _ => True) u (((bestT v.toNat (tab v l r)).map (·.2)).getD []) ∧ Below w.heap.size w w' := by
  have hu := Try.underlying28
  have HC := Aside0.mk hC
  have HQ := Aside0.mk hq
  have HV := Aside0.mk hV
  have v0 := hV.v0
  have v12 := hV.v12
  obtain ⟨at_, T1, h1, hw1, hx1, hg1, hp1, hd1, hn1⟩ := hV.load (WF.t0 v v0) rfl
  have r0 : (r == 0) = false := by simpa using hr
  have r1 : (r = 0) = False := eq_false hr
  have LL := Aside0.mk (And.intro h1 (And.intro hw1 (And.intro hx1 (And.intro hg1 (And.intro hp1 (And.intro hd1 hn1))))))
  obtain ⟨W0, hW0⟩ : ∃ W, W = w.alloc (.cells #[.int .i64 v, .slice A l.length c, .int .i64 r] 28) := ⟨_, rfl⟩
  have HB0 := Aside0.mk (show Below w.heap.size w W0 by rw [hW0]; exact below_alloc (Below.refl _ _) _)
  have KF0 := Aside0.mk (show W0.heap[w.heap.size]? = some (.cells #[.int .i64 v, .slice A l.length c, .int .i64 r] 28 (0, 0)) by rw [hW0]; exact blk_new _ _)
  clear hC hq hV h1 hw1 hx1 hg1 hp1 hd1 hn1 hr
  go_enter Try.func72, Try.ntmps72
  go_wp2_with fail
  rw [← hW0]
  clear hW0
  refine (mask_Valid.calls v A c l r true W0 (Kd.C_below HC.out HB0.out) hc HQ.out).mono ?_
  rintro e w1 ⟨rfl, hB1⟩
  have B1 := Aside0.mk (below_then HB0.out HB0.out.size hB1)
  have KF1 := Aside0.mk (blk_below KF0.out hB1)
  have y0 := (blk_cell KF1.out 2).trans rfl
  have y1 := (blk_cell KF1.out 0).trans rfl
  clear hB1 KF0 HB0
  go_wp2_with fail
  refine (newTable_calls v w1).mono ?_
  rintro e w2 ⟨t, rfl, hT2, hB2⟩
  have hLo := (Lo.new hT2 hB2).alloc (.cells #[.pointer (some ⟨t, 0, none⟩)] 109)
  have KF2 := Aside0.mk (blk_below KF1.out hB2)
  have C1 := Aside0.mk (Kd.C_below HC.out B1.out)
  have S12 := Aside0.mk hB2.size
  clear hT2 hB2 y0 y1
  obtain ⟨W3, hW3⟩ : ∃ W, W = w2.alloc (.cells #[.pointer (some ⟨t, 0, none⟩)] 109) := ⟨_, rfl⟩
  rw [← hW3] at hLo
  have BT := Aside0.mk (show W3.heap[w2.heap.size]? = some (.cells #[.pointer (some ⟨t, 0, none⟩)] 109 (0, 0)) by rw [hW3]; exact blk_new _ _)
  have KF3 := Aside0.mk (show W3.heap[w.heap.size]? = some (.cells #[.int .i64 v, .slice A l.length c, .int .i64 r] 28 (0, 0)) by rw [hW3]; exact blk_alloc KF2.out _)
  have H := Aside0.mk hLo
  have y10 := (blk_cell KF3.out 0).trans rfl
  have y11 := (blk_cell KF3.out 1).trans rfl
  have y12 := (blk_cell KF3.out 2).trans rfl
  have yt := (blk_cell BT.out 0).trans rfl
  rw [hW3] at y10 y11 y12 yt
  have hmm := @run_makeMap Try.prog
  clear hLo
  go_wp2_with fail
  rw [← hW3]
  clear hW3 y10 y11 y12 yt
  refine (H.out.load v r A c l (at_, T1) (by simp only [List.length_cons, List.length_nil]; omega) C1.out hc LL.out.1 LL.out.2.2.2.1).mono ?_
  rintro e w4 ⟨rfl, hN, hbk⟩
  have BT4 := Aside0.mk ((hbk w2.heap.size (.inr rfl)).trans BT.out)
  have H4 := Aside0.mk hN
  have KF4 := Aside0.mk (blk_below KF1.out hN.bel)
  clear hN hbk H BT KF3 KF2
  go_wp2_with fail
  obtain ⟨W5, hW5⟩ : ∃ W, W = ((((w4.alloc (.map #[] 0)).alloc (.cells #[.map (some w4.heap.size)] 121)).alloc (.map #[] 0)).alloc (.cells #[.map (some (w4.heap.size + 1 + 1))] 144)).alloc (.cells #[.func (.func 122) #[] #[.pointer (some ⟨w.heap.size, 0, none⟩), .pointer (some ⟨w4.heap.size + 1 + 1 + 1, 0, none⟩), .pointer (some ⟨w2.heap.size, 0, none⟩), .pointer (some ⟨w4.heap.size + 1, 0, none⟩), .pointer (some ⟨w4.heap.size + 1 + 1 + 1 + 1, 0, none⟩)]] 145) := ⟨_, rfl⟩
  have hB5 : Below w4.heap.size w4 W5 := by rw [hW5]; exact below_alloc (below_alloc (below_alloc (below_alloc (below_alloc (Below.refl _ _) _) _) _) _) _
  have hM1 : MapIs encN (Value.int .i64) W5 w4.heap.size ([] : SL) := by
    rw [hW5]
    exact (MapIs.made encN (Value.int .i64) w4).move (((Below.heap_alloc _ _ _ (by simp <;> omega)).trans (Below.heap_alloc _ _ _ (by simp <;> omega))).trans (((Below.heap_alloc _ _ _ (by simp <;> omega))).trans (Below.heap_alloc _ _ _ (by simp))))
  have hM2 : MapIs encP encW W5 (w4.heap.size + 2) ([] : List ((Int × Int) × WV)) := by
    have hm := MapIs.made (α := Int × Int) (β := WV) encP encW ((w4.alloc (.map #[] 0)).alloc (.cells #[.map (some w4.heap.size)] 121))
    rw [show ((w4.alloc (.map #[] 0)).alloc (.cells #[.map (some w4.heap.size)] 121)).heap.size = w4.heap.size + 2 by simp] at hm
    rw [hW5]
    exact hm.move (((Below.heap_alloc _ _ _ (by simp <;> omega))).trans (Below.heap_alloc _ _ _ (by simp)))
  have hk1 : W5.heap[w4.heap.size + 1]? = some (.cells #[.map (some w4.heap.size)] 121 (0, 0)) := by
    rw [hW5]
    refine blk_alloc (blk_alloc (blk_alloc ?_ _) _) _
    simpa using blk_new (w4.alloc (.map #[] 0)) (.cells #[.map (some w4.heap.size)] 121)
  have hk3 : W5.heap[w4.heap.size + 3]? = some (.cells #[.map (some (w4.heap.size + 2))] 144 (0, 0)) := by
    rw [hW5]
    refine blk_alloc ?_ _
    simpa using blk_new (((w4.alloc (.map #[] 0)).alloc (.cells #[.map (some w4.heap.size)] 121)).alloc (.map #[] 0)) (.cells #[.map (some (w4.heap.size + 1 + 1))] 144)
  have hk4 : W5.heap[w4.heap.size + 4]? = some (.cells #[fnF w.heap.size (w4.heap.size + 3) w2.heap.size (w4.heap.size + 1) (w4.heap.size + 4)] 145 (0, 0)) := by
    rw [hW5]
    simpa [fnF] using blk_new ((((w4.alloc (.map #[] 0)).alloc (.cells #[.map (some w4.heap.size)] 121)).alloc (.map #[] 0)).alloc (.cells #[.map (some (w4.heap.size + 1 + 1))] 144)) (.cells #[.func (.func 122) #[] #[.pointer (some ⟨w.heap.size, 0, none⟩), .pointer (some ⟨w4.heap.size + 1 + 1 + 1, 0, none⟩), .pointer (some ⟨w2.heap.size, 0, none⟩), .pointer (some ⟨w4.heap.size + 1, 0, none⟩), .pointer (some ⟨w4.heap.size + 1 + 1 + 1 + 1, 0, none⟩)]] 145)
  rw [← hW5]
  clear hW5 hmm
  obtain ⟨hb0, S, hT, hS, ho⟩ := H4.out
  have o1 := ho w2.heap.size (.inr rfl)
  have hlt := blk_lt KF1.out
  have hB14 := hb0.size
  have hFW : Fw W5 S w.heap.size (w4.heap.size + 3) w2.heap.size (w4.heap.size + 1) (w4.heap.size + 4) t w4.heap.size (w4.heap.size + 2) v r A c l T1 [] [] :=
    ⟨blk_below KF4.out hB5, hk3, blk_below BT4.out hB5, hk1, hk4, ⟨hT.below hB5, hM1, fun q => by have := (hS _ q).2; omega⟩, hM2,
      ⟨fun q => by have := (hS _ q).1; omega, fun q => by have := (hS _ q).2; omega, o1.1, fun q => by have := (hS _ q).2; omega, fun q => by have := (hS _ q).2; omega, fun q => by have := (hS _ q).2; omega⟩, by omega⟩
  obtain ⟨h1, hw1, hx1, hg1, hp1, hd1, hn1⟩ := LL.out
  have hv1 : T1.vars = v := hx1.1
  have B5 : Below w.heap.size w W5 := below_then (below_then B1.out B1.out.size hb0) (Nat.le_trans B1.out.size hb0.size) hB5
  have hbud : budget v.toNat ≤ 4353556480 := by
    have : v.toNat = 0 ∨ v.toNat = 1 ∨ v.toNat = 2 ∨ v.toNat = 3 ∨ v.toNat = 4 ∨ v.toNat = 5 ∨ v.toNat = 6 ∨ v.toNat = 7 ∨ v.toNat = 8 ∨ v.toNat = 9 ∨ v.toNat = 10 ∨ v.toNat = 11 ∨ v.toNat = 12 := by omega
    rcases this with h | h | h | h | h | h | h | h | h | h | h | h | h <;> rw [h] <;> decide
  have hn2 : T1.ns.length ≤ 2 + l.length := hn1
  refine (find_calls w.heap.size (w4.heap.size + 3) w2.heap.size (w4.heap.size + 1) (w4.heap.size + 4) t w4.heap.size (w4.heap.size + 2) v r A c l v12 v.toNat W5 S (fun k => k < w.heap.size) T1 [] [] (rd at_ r) 0 hFW hw1 (Seen.nil T1) (fun p v x hx => by simp [HMap.look] at hx) (fun k hk => Nat.lt_of_lt_of_le (hS k hk).2 hB5.size) (fun k hk => Nat.lt_of_lt_of_le hk B5.size) (by omega) (Int.le_refl 0) hv1 hp1 (hw1.asks_nonneg hp1) (by omega)).mono ?_
  rw [hd1]
  rintro e w6 ⟨S', x, T', L', M', rfl, _, _, _, _, _, hwd, hfr, _, _, _⟩
  have HWD := Aside0.mk hwd
  have B6 := Aside0.mk (hfr.to_below B5 (fun k hk => by
    rcases hk with hk | hk | hk
    · have := (hS k hk).1; have := B1.out.size; omega
    · have := B1.out.size; omega
    · have := B1.out.size; omega))
  clear hwd hfr hFW hM1 hM2 hk1 hk3 hk4 hb0 hT hS ho o1 h1 hw1 hx1 hg1 hp1 hd1 hn1 hv1 B5 hbud hn2 hB5
  simp only [encW]
  have hfd : ∀ w : World, (Instr.field 147 (.agg #[.int .i64 x.1, .slice x.2.1 x.2.2.1 x.2.2.2]) 1).run Try.prog w = .ok (.slice x.2.1 x.2.2.1 x.2.2.2) w := fun _ => by kernel_rfl
  go_wp2
  go_ret2
  refine ⟨_, by rfl, ?_, B6.out⟩
  have hz := HWD.out
  cases ho : bestT v.toNat (tab v l r) with
  | none =>
    rw [ho] at hz
    have hx : x = (0, none, 0, 0) := hz
    subst hx
    exact Kd.R_nil _ _ _ _ _
  | some a =>
    rw [ho] at hz
    obtain ⟨e1, ad, e2, e3, e4, e5⟩ := hz
    rw [e2, e3]
    exact e5.to_R (fun k hk => .inr hk)
end Go.Proofs.Ytlplphgoldkoeaa.HTab
namespace Go.Proofs.Ytlplphgoldkoeaa.X
open Go.RowKit Go.Proofs.YtlplphgoldkoeaaW.PrintWords Go.Proofs.YtlplphgoldkoeaaW.PrintLast Go.Proofs.YtlplphgoldkoeaaW.PrintMore Go.Proofs.Ytlplphgoldkoeaa.HMap Go.Proofs.Ytlplphgoldkoeaa.HTab
set_option linter.unusedVariables false
def mask_Least.f (v : Int) (l : List (S107)) (r : Int) : Option (List Int × Int) :=
  if l.length ≤ 1000000000 then
    if vmB v l r = true then
      if r = 0 then some ([], 7) else some (((bestT v.toNat (tab v l r)).map (·.2)).getD [], 0)
    else some ([], 2)
  else none
theorem mask_Least.calls (a0_0 : Int) (A0_1 : Option Addr) (c0_1 : Nat) (l0_1 : List (S107)) (a0_2 : Int) (r1 : List Int) (r2 : Int) (w : World) (hr0_1 : Kd.C k107 w A0_1 l0_1.length l0_1) (hc0_1 : l0_1.length ≤ c0_1) (h : mask_Least.f a0_0 l0_1 a0_2 = some (r1, r2)) :
    Calls Try.prog 72 #[.agg #[.int .i64 a0_0, .slice A0_1 l0_1.length c0_1, .int .i64 a0_2]] w fun e w' => ∃ v1_ : Value, e = .returned (.tuple #[v1_, .int .i64 r2]) ∧ Kd.R (Kd.int .i64) 3 w' w.heap.size (fun _ => True) v1_ r1 ∧ Below w.heap.size w w' := by
  unfold mask_Least.f at h
  split at h
  case isFalse => cases h
  rename_i hl
  have hq : mask_Valid.f a0_0 l0_1 a0_2 = some (vmB a0_0 l0_1 a0_2) := by unfold mask_Valid.f; rw [if_pos hl]
  split at h
  · rename_i hv
    rw [hv] at hq
    split at h
    · rename_i h0
      simp only [Option.some.injEq, Prod.mk.injEq] at h
      obtain ⟨rfl, rfl⟩ := h
      refine (least_none a0_0 a0_2 A0_1 c0_1 l0_1 w hr0_1 hc0_1 hq h0).mono ?_
      rintro e w' ⟨rfl, hB⟩
      exact ⟨_, rfl, Kd.R_nil _ _ _ _ _, hB⟩
    · rename_i h0
      simp only [Option.some.injEq, Prod.mk.injEq] at h
      obtain ⟨rfl, rfl⟩ := h
      exact least_ok a0_0 a0_2 A0_1 c0_1 l0_1 w hr0_1 hc0_1 hq h0 (vmB_iff.1 hv) hl
  · rename_i hv
    simp only [Option.some.injEq, Prod.mk.injEq] at h
    obtain ⟨rfl, rfl⟩ := h
    rw [Bool.eq_false_iff.2 hv] at hq
    refine (least_err a0_0 a0_2 A0_1 c0_1 l0_1 w hr0_1 hc0_1 hq).mono ?_
    rintro e w' ⟨rfl, hB⟩
    exact ⟨_, rfl, Kd.R_nil _ _ _ _ _, hB⟩
end Go.Proofs.Ytlplphgoldkoeaa.X
end
