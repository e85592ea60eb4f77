/- Lemmas of the masks: part Bzb. -/
import Derived.Test.YtlplphgoldkoeaaBp
import Derived.Test.YtlplphgoldkoeaaBo
import Derived.Test.YtlplphgoldkoeaaBf
import Derived.Test.YtlplphgoldkoeaaBg
import Derived.Deep.DeepMust
section
set_option linter.unusedVariables false
set_option linter.unusedSimpArgs false
namespace Go.Proofs.Ytlplphgoldkoeaa.HTab
open Go.RowKit Go.Proofs.YtlplphgoldkoeaaW.PrintWords Go.Proofs.YtlplphgoldkoeaaW.PrintLast Go.Proofs.YtlplphgoldkoeaaW.PrintMore Go.Proofs.Ytlplphgoldkoeaa.HMap Go.Proofs.Ytlplphgoldkoeaa.X
set_option linter.unusedVariables false
set_option linter.unusedSimpArgs false
def bitN (P e : Nat) : Bool := P.testBit e
theorem bitN_eq (P e : Nat) : (P / 2 ^ e % 2 = 1) ↔ bitN P e = true := by
  unfold bitN
  rw [Nat.testBit_eq_decide_div_mod_eq]
  simp
def setb (e : Nat) (b : Bool) (P : Nat) : Nat := if bitN P e = b then P else P ^^^ 2 ^ e
theorem setb_same (e : Nat) (b : Bool) (P : Nat) : bitN (setb e b P) e = b := by
  unfold setb
  split
  · assumption
  · rename_i h
    unfold bitN at *
    rw [Nat.testBit_xor, Nat.testBit_two_pow_self]
    cases b <;> cases hb : P.testBit e <;> simp_all
theorem setb_other (e d : Nat) (b : Bool) (P : Nat) (h : e ≠ d) : bitN (setb e b P) d = bitN P d := by
  unfold setb
  split
  · rfl
  · unfold bitN
    rw [Nat.testBit_xor, Nat.testBit_two_pow_of_ne h]
    simp
theorem setb_low (e : Nat) (b : Bool) (P : Nat) : setb e b P % 2 ^ e = P % 2 ^ e := by
  apply Nat.eq_of_testBit_eq
  intro i
  rw [Nat.testBit_mod_two_pow, Nat.testBit_mod_two_pow]
  by_cases hi : i < e
  · have := setb_other e i b P (by omega)
    unfold bitN at this
    rw [this]
  · simp [hi]
theorem setb_lt (e n : Nat) (b : Bool) (P : Nat) (he : e < n) (h : P < 2 ^ n) : setb e b P < 2 ^ n := by
  unfold setb
  split
  · exact h
  · exact Nat.xor_lt_two_pow h (Nat.pow_lt_pow_right (by decide) he)
def val (T : TB) (p : Int) (P : Nat) : Bool := (den T T.vars.toNat p).getD (P % 2 ^ T.vars.toNat) false
theorem den_up {T : TB} {p : Int} {k : Nat} (ha : T.vars - k ≤ asksP T p) (P : Nat) : ∀ d : Nat, (den T (k + d) p).getD (P % 2 ^ (k + d)) false = (den T k p).getD (P % 2 ^ k) false
  | 0 => rfl
  | d + 1 => by
    rw [← Nat.add_assoc, den_get_ne (by omega), den_up ha P d]
theorem val_at {T : TB} {p : Int} {k : Nat} (hk : (k : Int) ≤ T.vars) (ha : T.vars - k ≤ asksP T p) (P : Nat) : val T p P = (den T k p).getD (P % 2 ^ k) false := by
  have := den_up ha P (T.vars.toNat - k)
  unfold val
  rwa [show k + (T.vars.toNat - k) = T.vars.toNat by omega] at this
theorem val_low {T : TB} (hv : 0 ≤ T.vars) {p : Int} (h : p < 2) (P : Nat) : val T p P = decide (p = 1) := by
  rw [val_at (k := 0) (by omega) (by rw [asks_lt h]; omega) P]
  have : P % 2 ^ 0 = 0 := Nat.mod_one P
  rw [this]
  rfl
theorem val_node {T : TB} (hw : WF T) {p : Int} (h2 : 2 ≤ p) (hp : Pl T p) (P : Nat) :
    val T p P = if bitN P (T.vars - 1 - (getN T p).f0).toNat = true then val T (getN T p).f2 P else val T (getN T p).f1 P := by
  have ok := hw.ok p h2 hp.2
  obtain ⟨e, he⟩ : ∃ e : Nat, T.vars - 1 - (getN T p).f0 = e := ⟨(T.vars - 1 - (getN T p).f0).toNat, by omega⟩
  have ap : asksP T p = (getN T p).f0 := asks_ge (by omega)
  rw [val_at (k := e + 1) (by omega) (by omega) P, den_get (by omega), he, Int.toNat_natCast]
  by_cases hb : P / 2 ^ e % 2 = 1
  · rw [if_pos hb, if_pos ((bitN_eq P e).1 hb), val_at (k := e) (by omega) (by omega) P]
  · rw [if_neg hb, if_neg (fun q => hb ((bitN_eq P e).2 q)), val_at (k := e) (by omega) (by omega) P]
theorem val_below {T : TB} {p i : Int} (hi : 0 ≤ i) (hiv : i < T.vars) (ha : i < asksP T p) (b : Bool) (P : Nat) : val T p (setb (T.vars - 1 - i).toNat b P) = val T p P := by
  obtain ⟨e, he⟩ : ∃ e : Nat, T.vars - 1 - i = e := ⟨(T.vars - 1 - i).toNat, by omega⟩
  rw [he, Int.toNat_natCast, val_at (k := e) (by omega) (by omega), val_at (k := e) (by omega) (by omega), setb_low]
theorem Ext.val {T T' : TB} (h : Ext T T') (hw : WF T) {p : Int} (hp : Pl T p) (P : Nat) : HTab.val T' p P = HTab.val T p P := by
  unfold HTab.val
  have h0 := hw.vars
  rw [h.1, h.den hw T.vars.toNat p (by omega) hp (by have := hw.asks_nonneg hp; omega)]
theorem IsIte.val {T : TB} {f g h r : Int} (i : IsIte T f g h r) (hw : WF T) (P : Nat) : HTab.val T r P = if HTab.val T f P = true then HTab.val T g P else HTab.val T h P := by
  have h0 := hw.vars
  have hm := i.den T.vars.toNat (by omega) (by rw [le_min3]; have := hw.asks_nonneg i.pf; have := hw.asks_nonneg i.pg; have := hw.asks_nonneg i.ph; omega)
  unfold HTab.val
  rw [hm, iteL_get _ _ _ _ (by rw [den_length]; exact Nat.mod_lt _ (Nat.two_pow_pos _)) (by rw [den_length, den_length]) (by rw [den_length, den_length])]
theorem val_var {T : TB} (hw : WF T) {x : Int} (h0 : 0 ≤ x) (hx : x < T.vars) (P : Nat) :
    WF (nodeP T ⟨x, 0, 1⟩).2 ∧ Ext T (nodeP T ⟨x, 0, 1⟩).2 ∧ Pl (nodeP T ⟨x, 0, 1⟩).2 (nodeP T ⟨x, 0, 1⟩).1 ∧ x ≤ asksP (nodeP T ⟨x, 0, 1⟩).2 (nodeP T ⟨x, 0, 1⟩).1 ∧ val (nodeP T ⟨x, 0, 1⟩).2 (nodeP T ⟨x, 0, 1⟩).1 P = bitN P (T.vars - 1 - x).toNat := by
  have two := hw.two
  obtain ⟨w1, e1, p1, a1, d1⟩ := hw.node x 0 1 h0 hx ⟨by omega, by omega⟩ ⟨by omega, by omega⟩ (by rw [asks_lt (by omega)]; exact hx) (by rw [asks_lt (by omega)]; exact hx)
  refine ⟨w1, e1, p1, a1, ?_⟩
  obtain ⟨e, he⟩ : ∃ e : Nat, T.vars - 1 - x = e := ⟨(T.vars - 1 - x).toNat, by omega⟩
  have ev := e1.1
  rw [val_at (k := e + 1) (by omega) (by omega) P, d1 e (by omega), he, Int.toNat_natCast]
  have hlt := Nat.mod_lt P (Nat.two_pow_pos e)
  have lv : ∀ q : Int, q < 2 → (den T e q).getD (P % 2 ^ e) false = decide (q = 1) := fun q hq => by
    rw [← val_at (k := e) (by omega) (by rw [asks_lt hq]; omega) P, val_low hw.vars hq]
  by_cases hb : P / 2 ^ e % 2 = 1
  · rw [bit_hi hb, getD_right (by rw [den_length]; omega), den_length, show 2 ^ e + P % 2 ^ e - 2 ^ e = P % 2 ^ e by omega, lv 1 (by omega), (bitN_eq P e).1 hb]
    rfl
  · have hb2 : bitN P e = false := by rw [Bool.eq_false_iff]; exact fun q => hb ((bitN_eq P e).2 q)
    rw [bit_lo (by omega), getD_left (by rw [den_length]; exact hlt), lv 0 (by omega), hb2]
    rfl
end Go.Proofs.Ytlplphgoldkoeaa.HTab
end

section
set_option linter.unusedVariables false
set_option linter.unusedSimpArgs false
namespace Go.Proofs.Ytlplphgoldkoeaa.HTab
open Go.RowKit Go.Proofs.YtlplphgoldkoeaaW.PrintWords Go.Proofs.YtlplphgoldkoeaaW.PrintLast Go.Proofs.YtlplphgoldkoeaaW.PrintMore Go.Proofs.Ytlplphgoldkoeaa.HMap Go.Proofs.Ytlplphgoldkoeaa.X
open Go.ChangeMaps (setBlock)
set_option linter.unusedVariables false
set_option linter.unusedSimpArgs false
abbrev AL := List (Int × Int)
def compP (i wi : Int) : Nat → TB → SL → AL → Int → Option (Int × TB × SL × AL)
  | 0, _, _, _, _ => none
  | k + 1, T, L, A, p =>
    if p < 2 then some (p, T, L, A) else
    if p < (T.ns.length : Int) then
      if i < asksP T p then some (p, T, L, A) else
      match HMap.look A p with
      | some q => some (q, T, L, A)
      | none =>
        if (rd_T107 T.ns p).f0 = i then
          (iteP 64 T L wi (rd_T107 T.ns p).f2 (rd_T107 T.ns p).f1).bind fun a => some (a.1, a.2.1, a.2.2, HMap.upd A p a.1)
        else
          (compP i wi k T L A (rd_T107 T.ns p).f1).bind fun a => (compP i wi k a.2.1 a.2.2.1 a.2.2.2 (rd_T107 T.ns p).f2).bind fun b =>
          (iteP 64 (nodeP b.2.1 ⟨(rd_T107 T.ns p).f0, 0, 1⟩).2 b.2.2.1 (nodeP b.2.1 ⟨(rd_T107 T.ns p).f0, 0, 1⟩).1 b.1 a.1).bind fun c => some (c.1, c.2.1, c.2.2, HMap.upd b.2.2.2 p c.1)
    else none
def fnC (gt gi ga gw gs gg : Nat) : Value := .func (.func 103) #[] #[.pointer (some ⟨gt, 0, none⟩), .pointer (some ⟨gi, 0, none⟩), .pointer (some ⟨ga, 0, none⟩), .pointer (some ⟨gw, 0, none⟩), .pointer (some ⟨gs, 0, none⟩), .pointer (some ⟨gg, 0, none⟩)]
structure Cw (w : World) (S : Nat → Prop) (gt gi ga gw gs gg t mc ma : Nat) (i wi : Int) (T : TB) (L : SL) (A : AL) : Prop where
  kt : w.heap[gt]? = some (.cells #[.pointer (some ⟨t, 0, none⟩)] 109 (0, 0))
  ki : w.heap[gi]? = some (.cells #[.int .i64 i] 3 (0, 0))
  ka : w.heap[ga]? = some (.cells #[.map (some ma)] 122 (0, 0))
  kw : w.heap[gw]? = some (.cells #[.int .i64 wi] 3 (0, 0))
  ks : w.heap[gs]? = some (.cells #[.map (some mc)] 121 (0, 0))
  kg : w.heap[gg]? = some (.cells #[fnC gt gi ga gw gs gg] 123 (0, 0))
  it : It w S t T mc L
  am : MapIs (Value.int .i64) (Value.int .i64) w ma A
  nS : ¬ S gt ∧ ¬ S gi ∧ ¬ S ga ∧ ¬ S gw ∧ ¬ S gs ∧ ¬ S gg ∧ ¬ S ma
  ne : ma ≠ mc
theorem map_off {α β : Type} {enc : α → Value} {encv : β → Value} {w : World} {b t : Nat} {M : List (α × β)} {cs : Array Value} {ty : TypeId} {fr : Nat × Nat} (h : MapIs enc encv w b M) (h2 : w.heap[t]? = some (.cells cs ty fr)) : t ≠ b := by
  obtain ⟨es, clk, h, _⟩ := h
  exact fun e => map_ne_cells h h2 e.symm
section
variable {w w' w0 : World} {S S' : Nat → Prop} {gt gi ga gw gs gg t mc ma : Nat} {i wi : Int} {T T' : TB} {L L' : SL} {A A' : AL}
theorem Cw.below (h : Cw w S gt gi ga gw gs gg t mc ma i wi T L A) (hb : Below w.heap.size w w') : Cw w' S gt gi ga gw gs gg t mc ma i wi T L A :=
  ⟨blk_below h.kt hb, blk_below h.ki hb, blk_below h.ka hb, blk_below h.kw hb, blk_below h.ks hb, blk_below h.kg hb, h.it.below hb, h.am.move (hb.block ma h.am.lt), h.nS, h.ne⟩
theorem Cw.bound (h : Cw w S gt gi ga gw gs gg t mc ma i wi T L A) : Cw w (fun k => S k ∧ k < w.heap.size) gt gi ga gw gs gg t mc ma i wi T L A :=
  ⟨h.kt, h.ki, h.ka, h.kw, h.ks, h.kg, h.it.bound, h.am, ⟨fun q => h.nS.1 q.1, fun q => h.nS.2.1 q.1, fun q => h.nS.2.2.1 q.1, fun q => h.nS.2.2.2.1 q.1, fun q => h.nS.2.2.2.2.1 q.1, fun q => h.nS.2.2.2.2.2.1 q.1, fun q => h.nS.2.2.2.2.2.2 q.1⟩, h.ne⟩
theorem Cw.step (h : Cw w S gt gi ga gw gs gg t mc ma i wi T L A) (hF : Fr (fun k => S k ∨ k = mc) w w') (hI : It w' S' t T' mc L') (hs : ∀ k, S' k → S k ∨ w.heap.size ≤ k) : Cw w' S' gt gi ga gw gs gg t mc ma i wi T' L' A := by
  have n1 := map_off h.it.map h.kt
  have n2 := map_off h.it.map h.ki
  have n3 := map_off h.it.map h.ka
  have n4 := map_off h.it.map h.kw
  have n5 := map_off h.it.map h.ks
  have n6 := map_off h.it.map h.kg
  obtain ⟨m1, m2, m3, m4, m5, m6, m7⟩ := h.nS
  have bl : ∀ {g : Nat} {o : Obj}, w.heap[g]? = some o → ¬ S g → g ≠ mc → w'.heap[g]? = some o := fun hk a b => (hF.block _ (blk_lt hk) (fun q => q.elim a b)).trans hk
  have nn : ∀ {g : Nat} {o : Obj}, w.heap[g]? = some o → ¬ S g → ¬ S' g := fun hk a q => (hs _ q).elim a (fun q => by have := blk_lt hk; omega)
  refine ⟨bl h.kt m1 n1, bl h.ki m2 n2, bl h.ka m3 n3, bl h.kw m4 n4, bl h.ks m5 n5, bl h.kg m6 n6, hI, h.am.move (hF.block ma h.am.lt (fun q => q.elim m7 h.ne)), ⟨nn h.kt m1, nn h.ki m2, nn h.ka m3, nn h.kw m4, nn h.ks m5, nn h.kg m6, fun q => (hs _ q).elim m7 (fun q => by have := h.am.lt; omega)⟩, h.ne⟩
theorem Cw.node (h : Cw w S gt gi ga gw gs gg t mc ma i wi T L A) (hT : Tab w' (fun k => S k ∨ w.heap.size ≤ k) t T') (hF : Fr S w w') : Cw w' (fun k => S k ∨ w.heap.size ≤ k) gt gi ga gw gs gg t mc ma i wi T' L A :=
  h.step (hF.mono (fun k q => .inl q)) ⟨hT, h.it.map.move (hF.block mc h.it.map.lt h.it.off), fun q => q.elim h.it.off (fun q => by have := h.it.map.lt; omega)⟩ (fun k q => q)
theorem Cw.asked (h : Cw w S gt gi ga gw gs gg t mc ma i wi T L A) {o : Obj} (hM : MapIs (Value.int .i64) (Value.int .i64) (setBlock w ma o) ma A') : Cw (setBlock w ma o) S gt gi ga gw gs gg t mc ma i wi T L A' := by
  have bl : ∀ {g : Nat} {cs : Array Value} {ty : TypeId} {fr : Nat × Nat}, w.heap[g]? = some (.cells cs ty fr) → (setBlock w ma o).heap[g]? = some (.cells cs ty fr) := fun hk => (setBlock_other _ _ _ _ (map_off h.am hk)).trans hk
  exact ⟨bl h.kt, bl h.ki, bl h.ka, bl h.kw, bl h.ks, bl h.kg, ⟨h.it.tab.move (fun k hk _ => setBlock_other _ _ _ _ (fun e => h.nS.2.2.2.2.2.2 (e ▸ hk))), h.it.map.move (setBlock_other _ _ _ _ h.ne.symm), h.it.off⟩, hM, h.nS, h.ne⟩
theorem Cw.fin (h0 : Cw w0 S gt gi ga gw gs gg t mc ma i wi T L A) (h : Cw w S' gt gi ga gw gs gg t mc ma i wi T' L' A') (hs : ∀ k, S' k → S k ∨ w0.heap.size ≤ k) : Cw w (fun k => (S k ∨ w0.heap.size ≤ k) ∧ k < w.heap.size) gt gi ga gw gs gg t mc ma i wi T' L' A' := by
  have nn : ∀ {g : Nat} {o : Obj}, w0.heap[g]? = some o → ¬ S g → ¬ ((S g ∨ w0.heap.size ≤ g) ∧ g < w.heap.size) := fun hk a q => q.1.elim a (fun q => by have := blk_lt hk; omega)
  obtain ⟨m1, m2, m3, m4, m5, m6, m7⟩ := h0.nS
  exact ⟨h.kt, h.ki, h.ka, h.kw, h.ks, h.kg, ⟨h.it.tab.bound.mono (fun k hk => ⟨hs k hk.1, hk.2⟩), h.it.map, fun q => q.1.elim h0.it.off (fun q => by have := h0.it.map.lt; omega)⟩, h.am, ⟨nn h0.kt m1, nn h0.ki m2, nn h0.ka m3, nn h0.kw m4, nn h0.ks m5, nn h0.kg m6, fun q => q.1.elim m7 (fun q => by have := h0.am.lt; omega)⟩, h.ne⟩
end
def CPost (w : World) (S : Nat → Prop) (gt gi ga gw gs gg t mc ma : Nat) (i wi : Int) (r : Int) (T : TB) (L : SL) (A : AL) (e : Ending) (w' : World) : Prop :=
  e = .returned (.int .i64 r) ∧ Cw w' (fun k => (S k ∨ w.heap.size ≤ k) ∧ k < w'.heap.size) gt gi ga gw gs gg t mc ma i wi T L A ∧ Fr (fun k => S k ∨ k = mc ∨ k = ma) w w'
def tb_Compose1_1.T : Bool × List (List Nat × List Nat) := (true, [([], []), ([0], [0]), ([1], [1]), ([2], [2]), ([2], [2]), ([3, 4, 2, 2], [2, 3, 4]), ([2], [2]), ([5, 6, 2], [2, 5, 6]), ([2, 7], [2, 7])])
def tb_Compose1_1.B : List Nat := [0, 1, 3, 7, 7, 31, 7, 127, 255]
theorem tb_Compose1_1.tab : rtab .any (opsOf Try.f103 1) = tb_Compose1_1.T := by kernel_rfl
theorem tb_Compose1_1.bits : waitsOk tb_Compose1_1.T.2 tb_Compose1_1.B = true := by kernel_rfl
def tb_Compose1_10.T : Bool × List (List Nat × List Nat) := (true, [([], []), ([], []), ([1], [1]), ([0, 2], [0, 2]), ([], []), ([], []), ([5], [5]), ([4, 6, 3], [4, 6]), ([3, 7, 0, 1, 2, 3], [3]), ([7, 8, 0, 1, 2, 3, 4, 5, 6, 7, 8], [7])])
def tb_Compose1_10.B : List Nat := [0, 0, 2, 7, 0, 0, 32, 127, 255, 511]
theorem tb_Compose1_10.tab : rtab .any (opsOf Try.f103 10) = tb_Compose1_10.T := by kernel_rfl
theorem tb_Compose1_10.bits : waitsOk tb_Compose1_10.T.2 tb_Compose1_10.B = true := by kernel_rfl
def tb_Compose1_11.T : Bool × List (List Nat × List Nat) := (true, [([], []), ([], []), ([], []), ([2], [2]), ([3], [3]), ([1, 4], [1, 4]), ([], []), ([], []), ([], []), ([0, 5, 6, 7, 8, 5], [0, 5, 6, 7, 8]), ([9, 9, 0, 1, 2, 3, 4, 5, 6, 7, 8, 9], [9])])
def tb_Compose1_11.B : List Nat := [0, 0, 0, 4, 12, 30, 0, 0, 0, 511, 1023]
theorem tb_Compose1_11.tab : rtab .any (opsOf Try.f103 11) = tb_Compose1_11.T := by kernel_rfl
theorem tb_Compose1_11.bits : waitsOk tb_Compose1_11.T.2 tb_Compose1_11.B = true := by kernel_rfl
set_option maxRecDepth 100000 in
set_option maxHeartbeats 4000000 in
theorem comp_low {S : Nat → Prop} (gt gi ga gw gs gg t mc ma : Nat) (i wi : Int) (T : TB) (L : SL) (A : AL) (p : Int) (w : World) (hC : Cw w S gt gi ga gw gs gg t mc ma i wi T L A) (hp : p < 2) :
    Calls Try.prog 103 #[.int .i64 p, .pointer (some ⟨gt, 0, none⟩), .pointer (some ⟨gi, 0, none⟩), .pointer (some ⟨ga, 0, none⟩), .pointer (some ⟨gw, 0, none⟩), .pointer (some ⟨gs, 0, none⟩), .pointer (some ⟨gg, 0, none⟩)] w (CPost w S gt gi ga gw gs gg t mc ma i wi p T L A) := by
  have HC := Aside0.mk hC
  have q0 : decide (p < 2) = true := decide_eq_true hp
  have q1 : (p < 2) = True := eq_true hp
  clear hC
  go_enter Try.func103, Try.ntmps103
  go_wp2
  go_quiet (fail)
  go_wp2
  go_ret
  exact ⟨by rfl, HC.out.fin (HC.out.below (pw_below_drewN (Below.refl _ _) _)) (fun k q => .inl q), Fr.of_below (pw_below_drewN (Below.refl _ _) _)⟩
set_option maxRecDepth 100000 in
set_option maxHeartbeats 4000000 in
theorem comp_far {S : Nat → Prop} (gt gi ga gw gs gg t mc ma : Nat) (i wi : Int) (T : TB) (L : SL) (A : AL) (p : Int) (w : World) (hC : Cw w S gt gi ga gw gs gg t mc ma i wi T L A) (hp : 2 ≤ p) (hlen : p < T.ns.length) (ha : i < asksP T p) :
    Calls Try.prog 103 #[.int .i64 p, .pointer (some ⟨gt, 0, none⟩), .pointer (some ⟨gi, 0, none⟩), .pointer (some ⟨ga, 0, none⟩), .pointer (some ⟨gw, 0, none⟩), .pointer (some ⟨gs, 0, none⟩), .pointer (some ⟨gg, 0, none⟩)] w (CPost w S gt gi ga gw gs gg t mc ma i wi p T L A) := by
  have HC := Aside0.mk hC
  have q0 : decide (p < 2) = false := decide_eq_false (by omega)
  have q1 : (p < 2) = False := eq_false (by omega)
  obtain ⟨ap, hap⟩ : ∃ a, a = asksP T p := ⟨_, rfl⟩
  have CA : Aside0 (∀ W S, Tab W S t T → Calls Try.prog 104 #[.pointer (some ⟨t, 0, none⟩), .int .i64 p] W fun e w' => e = .returned (.int .i64 ap) ∧ W = w') := ⟨fun W S hT => by rw [hap]; exact asks_calls t T p W hT (.inr hlen)⟩
  rw [← hap] at ha
  have q2 : decide (i < ap) = true := decide_eq_true ha
  have q3 : (i < ap) = True := eq_true ha
  have j1 := (blk_cell hC.kt 0).trans rfl
  have j2 := (blk_cell hC.ki 0).trans rfl
  clear hap ha hC
  go_enter Try.func103, Try.ntmps103
  go_wp2
  refine start_ (n := 9) (S := fun w' => (w'.cell? ⟨gt, 0, none⟩ = some (.pointer (some ⟨t, 0, none⟩))) ∧ (w'.cell? ⟨gi, 0, none⟩ = some (.int .i64 i))) (ds := []) #[false, false, false, false, false, false, false, false, false] (by kernel_rfl) rfl rfl ⟨j1, j2⟩ (fun hHeld => ?_)
  refine with_tabW tb_Compose1_1.tab tb_Compose1_1.bits (fun HT_ HW_ => ?_)
  refine pure_ (i := 0) (N := some 15) (v := ?_) (a' := ?_) #[true, false, false, false, false, false, false, false, false] rfl rfl (any_of HT_.out (by kernel_rfl)) (fun _ _ _ h => h) (Or.inl ⟨by rfl, ?_⟩) ?_ ?_
  rotate_left
  · intro w'
    go_simp
    with_reducible rfl
  rotate_left
  · simp only [Act.put, List.setIfInBounds_toArray, List.set_cons_zero, List.set_cons_succ, i64_w, i32_w]
    rfl
  refine pure_ (i := 1) (N := some 16) (v := ?_) (a' := ?_) #[true, true, false, false, false, false, false, false, false] rfl rfl (any_of HT_.out (by kernel_rfl)) (fun _ _ _ h => h) (Or.inl ⟨by rfl, ?_⟩) ?_ ?_
  rotate_left
  · intro w'
    go_simp
    with_reducible rfl
  rotate_left
  · simp only [Act.put, List.setIfInBounds_toArray, List.set_cons_zero, List.set_cons_succ, i64_w, i32_w]
    rfl
  refine pure_ (i := 2) (N := some 17) (v := ?_) (a' := ?_) #[true, true, true, false, false, false, false, false, false] rfl rfl (any_of HT_.out (by kernel_rfl)) (fun _ _ _ h => h) (Or.inl ⟨by rfl, ?_⟩) ?_ ?_
  rotate_left
  · intro w'
    go_simp
    with_reducible rfl
  rotate_left
  · simp only [Act.put, List.setIfInBounds_toArray, List.set_cons_zero, List.set_cons_succ, i64_w, i32_w]
    rfl
  refine take_ (i := 3) (N := some 18) (v := ?_) (a' := ?_) #[true, true, true, true, false, false, false, false, false] rfl rfl (take_ofW HT_.out HW_.out (by kernel_rfl)) (fun _ _ _ h => h) (Or.inl ⟨by rfl, ?_⟩) hHeld ?_ ?_
  rotate_left
  · rintro w' ⟨s0, s1⟩
    go_simp
    with_reducible rfl
  rotate_left
  · simp only [Act.put, List.setIfInBounds_toArray, List.set_cons_zero, List.set_cons_succ, i64_w, i32_w]
    rfl
  refine pure_ (i := 4) (N := some 19) (v := ?_) (a' := ?_) #[true, true, true, true, true, false, false, false, false] rfl rfl (any_of HT_.out (by kernel_rfl)) (fun _ _ _ h => h) (Or.inl ⟨by rfl, ?_⟩) ?_ ?_
  rotate_left
  · intro w'
    go_simp
    with_reducible rfl
  rotate_left
  · simp only [Act.put, List.setIfInBounds_toArray, List.set_cons_zero, List.set_cons_succ, i64_w, i32_w]
    rfl
  refine take_ (i := 6) (N := some 21) (v := ?_) (a' := ?_) #[true, true, true, true, true, false, true, false, false] rfl rfl (take_ofW HT_.out HW_.out (by kernel_rfl)) (fun _ _ _ h => h) (Or.inl ⟨by rfl, ?_⟩) hHeld ?_ ?_
  rotate_left
  · rintro w' ⟨s0, s1⟩
    go_simp
    with_reducible rfl
  rotate_left
  · simp only [Act.put, List.setIfInBounds_toArray, List.set_cons_zero, List.set_cons_succ, i64_w, i32_w]
    rfl
  refine one_ (i := 5) (N := some 20) #[true, true, true, true, true, true, true, false, false] rfl rfl (one_of HT_.out (by kernel_rfl)) (by decide) (fun K hK => ?_)
  refine goes_ Try.func104 (by kernel_rfl) rfl #[.pointer (some ⟨t, 0, none⟩), .int .i64 p] (by rfl) rfl rfl (by simp only [List.map_toArray, List.map_cons, List.map_nil]; rfl) ?_
  refine (CA.out w.drew S (HC.out.it.tab.below (below_drew (Below.refl _ _)))).mono ?_
  rintro e w1 ⟨rfl, hw1⟩
  refine ⟨_, rfl, ?_⟩
  have D1 := Aside0.mk (show Cw w1 S gt gi ga gw gs gg t mc ma i wi T L A from hw1 ▸ HC.out.below (below_drew (Below.refl _ _)))
  have B1 := Aside0.mk (show Below w.heap.size w w1 from hw1 ▸ below_drew (Below.refl _ _))
  clear hw1
  refine hK.out _ _ ⟨(blk_cell D1.out.kt 0).trans rfl, (blk_cell D1.out.ki 0).trans rfl⟩ (fun hHeld => ?_)
  clear hK K
  refine norm_ (a' := ?_) ?_ ?_
  rotate_left
  · show Act.put _ (some 20) _ = _
    (try simp only [Act.put, List.setIfInBounds_toArray, List.set_cons_zero, List.set_cons_succ, i64_w, i32_w])
    rfl
  refine pure_ (i := 7) (N := some 22) (v := ?_) (a' := ?_) #[true, true, true, true, true, true, true, true, false] rfl rfl (any_of HT_.out (by kernel_rfl)) (fun _ _ _ h => h) (Or.inl ⟨by rfl, ?_⟩) ?_ ?_
  rotate_left
  · intro w'
    go_simp
    with_reducible rfl
  rotate_left
  · simp only [Act.put, List.setIfInBounds_toArray, List.set_cons_zero, List.set_cons_succ, i64_w, i32_w]
    rfl
  refine pure_ (i := 8) (N := some 23) (v := ?_) (a' := ?_) #[true, true, true, true, true, true, true, true, true] rfl rfl (any_of HT_.out (by kernel_rfl)) (fun _ _ _ h => h) (Or.inl ⟨by rfl, ?_⟩) ?_ ?_
  rotate_left
  · intro w'
    go_simp
    with_reducible rfl
  rotate_left
  · simp only [Act.put, List.setIfInBounds_toArray, List.set_cons_zero, List.set_cons_succ, i64_w, i32_w]
    rfl
  refine done_ (done_of HT_.out (by kernel_rfl)) ?_
  clear j1 j2
  go_wp2
  go_ret
  exact ⟨by rfl, HC.out.fin D1.out (fun k q => .inl q), Fr.of_below B1.out⟩
set_option maxRecDepth 100000 in
set_option maxHeartbeats 4000000 in
theorem comp_found {S : Nat → Prop} (gt gi ga gw gs gg t mc ma : Nat) (i wi : Int) (T : TB) (L : SL) (A : AL) (p q : Int) (w : World) (hC : Cw w S gt gi ga gw gs gg t mc ma i wi T L A) (hp : 2 ≤ p) (hlen : p < T.ns.length) (ha : ¬ i < asksP T p) (hl : HMap.look A p = some q) :
    Calls Try.prog 103 #[.int .i64 p, .pointer (some ⟨gt, 0, none⟩), .pointer (some ⟨gi, 0, none⟩), .pointer (some ⟨ga, 0, none⟩), .pointer (some ⟨gw, 0, none⟩), .pointer (some ⟨gs, 0, none⟩), .pointer (some ⟨gg, 0, none⟩)] w (CPost w S gt gi ga gw gs gg t mc ma i wi q T L A) := by
  have HC := Aside0.mk hC
  have q0 : decide (p < 2) = false := decide_eq_false (by omega)
  have q1 : (p < 2) = False := eq_false (by omega)
  obtain ⟨ap, hap⟩ : ∃ a, a = asksP T p := ⟨_, rfl⟩
  have CA : Aside0 (∀ W S, Tab W S t T → Calls Try.prog 104 #[.pointer (some ⟨t, 0, none⟩), .int .i64 p] W fun e w' => e = .returned (.int .i64 ap) ∧ W = w') := ⟨fun W S hT => by rw [hap]; exact asks_calls t T p W hT (.inr hlen)⟩
  rw [← hap] at ha
  have q2 : decide (i < ap) = false := decide_eq_false (by omega)
  have q3 : (i < ap) = False := eq_false (by omega)
  have j1 := (blk_cell hC.kt 0).trans rfl
  have j2 := (blk_cell hC.ki 0).trans rfl
  clear hap hC
  go_enter Try.func103, Try.ntmps103
  go_wp2
  refine start_ (n := 9) (S := fun w' => (w'.cell? ⟨gt, 0, none⟩ = some (.pointer (some ⟨t, 0, none⟩))) ∧ (w'.cell? ⟨gi, 0, none⟩ = some (.int .i64 i))) (ds := []) #[false, false, false, false, false, false, false, false, false] (by kernel_rfl) rfl rfl ⟨j1, j2⟩ (fun hHeld => ?_)
  refine with_tabW tb_Compose1_1.tab tb_Compose1_1.bits (fun HT_ HW_ => ?_)
  refine pure_ (i := 0) (N := some 15) (v := ?_) (a' := ?_) #[true, false, false, false, false, false, false, false, false] rfl rfl (any_of HT_.out (by kernel_rfl)) (fun _ _ _ h => h) (Or.inl ⟨by rfl, ?_⟩) ?_ ?_
  rotate_left
  · intro w'
    go_simp
    with_reducible rfl
  rotate_left
  · simp only [Act.put, List.setIfInBounds_toArray, List.set_cons_zero, List.set_cons_succ, i64_w, i32_w]
    rfl
  refine pure_ (i := 1) (N := some 16) (v := ?_) (a' := ?_) #[true, true, false, false, false, false, false, false, false] rfl rfl (any_of HT_.out (by kernel_rfl)) (fun _ _ _ h => h) (Or.inl ⟨by rfl, ?_⟩) ?_ ?_
  rotate_left
  · intro w'
    go_simp
    with_reducible rfl
  rotate_left
  · simp only [Act.put, List.setIfInBounds_toArray, List.set_cons_zero, List.set_cons_succ, i64_w, i32_w]
    rfl
  refine pure_ (i := 2) (N := some 17) (v := ?_) (a' := ?_) #[true, true, true, false, false, false, false, false, false] rfl rfl (any_of HT_.out (by kernel_rfl)) (fun _ _ _ h => h) (Or.inl ⟨by rfl, ?_⟩) ?_ ?_
  rotate_left
  · intro w'
    go_simp
    with_reducible rfl
  rotate_left
  · simp only [Act.put, List.setIfInBounds_toArray, List.set_cons_zero, List.set_cons_succ, i64_w, i32_w]
    rfl
  refine take_ (i := 3) (N := some 18) (v := ?_) (a' := ?_) #[true, true, true, true, false, false, false, false, false] rfl rfl (take_ofW HT_.out HW_.out (by kernel_rfl)) (fun _ _ _ h => h) (Or.inl ⟨by rfl, ?_⟩) hHeld ?_ ?_
  rotate_left
  · rintro w' ⟨s0, s1⟩
    go_simp
    with_reducible rfl
  rotate_left
  · simp only [Act.put, List.setIfInBounds_toArray, List.set_cons_zero, List.set_cons_succ, i64_w, i32_w]
    rfl
  refine pure_ (i := 4) (N := some 19) (v := ?_) (a' := ?_) #[true, true, true, true, true, false, false, false, false] rfl rfl (any_of HT_.out (by kernel_rfl)) (fun _ _ _ h => h) (Or.inl ⟨by rfl, ?_⟩) ?_ ?_
  rotate_left
  · intro w'
    go_simp
    with_reducible rfl
  rotate_left
  · simp only [Act.put, List.setIfInBounds_toArray, List.set_cons_zero, List.set_cons_succ, i64_w, i32_w]
    rfl
  refine take_ (i := 6) (N := some 21) (v := ?_) (a' := ?_) #[true, true, true, true, true, false, true, false, false] rfl rfl (take_ofW HT_.out HW_.out (by kernel_rfl)) (fun _ _ _ h => h) (Or.inl ⟨by rfl, ?_⟩) hHeld ?_ ?_
  rotate_left
  · rintro w' ⟨s0, s1⟩
    go_simp
    with_reducible rfl
  rotate_left
  · simp only [Act.put, List.setIfInBounds_toArray, List.set_cons_zero, List.set_cons_succ, i64_w, i32_w]
    rfl
  refine one_ (i := 5) (N := some 20) #[true, true, true, true, true, true, true, false, false] rfl rfl (one_of HT_.out (by kernel_rfl)) (by decide) (fun K hK => ?_)
  refine goes_ Try.func104 (by kernel_rfl) rfl #[.pointer (some ⟨t, 0, none⟩), .int .i64 p] (by rfl) rfl rfl (by simp only [List.map_toArray, List.map_cons, List.map_nil]; rfl) ?_
  refine (CA.out w.drew S (HC.out.it.tab.below (below_drew (Below.refl _ _)))).mono ?_
  rintro e w1 ⟨rfl, hw1⟩
  refine ⟨_, rfl, ?_⟩
  have D1 := Aside0.mk (show Cw w1 S gt gi ga gw gs gg t mc ma i wi T L A from hw1 ▸ HC.out.below (below_drew (Below.refl _ _)))
  have B1 := Aside0.mk (show Below w.heap.size w w1 from hw1 ▸ below_drew (Below.refl _ _))
  clear hw1
  refine hK.out _ _ ⟨(blk_cell D1.out.kt 0).trans rfl, (blk_cell D1.out.ki 0).trans rfl⟩ (fun hHeld => ?_)
  clear hK K
  refine norm_ (a' := ?_) ?_ ?_
  rotate_left
  · show Act.put _ (some 20) _ = _
    (try simp only [Act.put, List.setIfInBounds_toArray, List.set_cons_zero, List.set_cons_succ, i64_w, i32_w])
    rfl
  refine pure_ (i := 7) (N := some 22) (v := ?_) (a' := ?_) #[true, true, true, true, true, true, true, true, false] rfl rfl (any_of HT_.out (by kernel_rfl)) (fun _ _ _ h => h) (Or.inl ⟨by rfl, ?_⟩) ?_ ?_
  rotate_left
  · intro w'
    go_simp
    with_reducible rfl
  rotate_left
  · simp only [Act.put, List.setIfInBounds_toArray, List.set_cons_zero, List.set_cons_succ, i64_w, i32_w]
    rfl
  refine pure_ (i := 8) (N := some 23) (v := ?_) (a' := ?_) #[true, true, true, true, true, true, true, true, true] rfl rfl (any_of HT_.out (by kernel_rfl)) (fun _ _ _ h => h) (Or.inl ⟨by rfl, ?_⟩) ?_ ?_
  rotate_left
  · intro w'
    go_simp
    with_reducible rfl
  rotate_left
  · simp only [Act.put, List.setIfInBounds_toArray, List.set_cons_zero, List.set_cons_succ, i64_w, i32_w]
    rfl
  refine done_ (done_of HT_.out (by kernel_rfl)) ?_
  clear j1 j2
  have l0 := (blk_cell D1.out.ka 0).trans rfl
  have hrun : (Instr.lookup 122 (.map (some ma)) (.int .i64 p) true).run Try.prog w1 = .ok (.tuple #[.int .i64 q, .bool true]) w1 := by
    have := run_lookup keyI Try.underlying122 D1.out.am p true (zero3 _)
    simpa [hl] using this
  go_wp2
  go_ret
  exact ⟨by rfl, HC.out.fin D1.out (fun k q => .inl q), Fr.of_below B1.out⟩
set_option maxRecDepth 100000 in
set_option maxHeartbeats 4000000 in
theorem comp_at {S : Nat → Prop} (gt gi ga gw gs gg t mc ma : Nat) (i wi : Int) (T T' : TB) (L L' : SL) (A : AL) (p q : Int) (n : S107) (k : Nat) (w : World) (hC : Cw w S gt gi ga gw gs gg t mc ma i wi T L A) (hp : 2 ≤ p) (hlen : p < T.ns.length) (ha : ¬ i < asksP T p) (hl : HMap.look A p = none)
    (hn : n = rd_T107 T.ns p) (hi : n.f0 = i) (hq : iteP k T L wi n.f2 n.f1 = some (q, T', L')) (hlen' : T'.ns.length < 1000000000000) :
    Calls Try.prog 103 #[.int .i64 p, .pointer (some ⟨gt, 0, none⟩), .pointer (some ⟨gi, 0, none⟩), .pointer (some ⟨ga, 0, none⟩), .pointer (some ⟨gw, 0, none⟩), .pointer (some ⟨gs, 0, none⟩), .pointer (some ⟨gg, 0, none⟩)] w (CPost w S gt gi ga gw gs gg t mc ma i wi q T' L' (HMap.upd A p q)) := by
  have HI := Aside0.mk (And.intro hq hlen')
  have z0 : (n.f0 == i) = true := by simpa using hi
  clear hq hlen'
  have HC := Aside0.mk hC
  have q0 : decide (p < 2) = false := decide_eq_false (by omega)
  have q1 : (p < 2) = False := eq_false (by omega)
  obtain ⟨ap, hap⟩ : ∃ a, a = asksP T p := ⟨_, rfl⟩
  have CA : Aside0 (∀ W S, Tab W S t T → Calls Try.prog 104 #[.pointer (some ⟨t, 0, none⟩), .int .i64 p] W fun e w' => e = .returned (.int .i64 ap) ∧ W = w') := ⟨fun W S hT => by rw [hap]; exact asks_calls t T p W hT (.inr hlen)⟩
  rw [← hap] at ha
  have q2 : decide (i < ap) = false := decide_eq_false (by omega)
  have q3 : (i < ap) = False := eq_false (by omega)
  have j1 := (blk_cell hC.kt 0).trans rfl
  have j2 := (blk_cell hC.ki 0).trans rfl
  clear hap hC
  go_enter Try.func103, Try.ntmps103
  go_wp2
  refine start_ (n := 9) (S := fun w' => (w'.cell? ⟨gt, 0, none⟩ = some (.pointer (some ⟨t, 0, none⟩))) ∧ (w'.cell? ⟨gi, 0, none⟩ = some (.int .i64 i))) (ds := []) #[false, false, false, false, false, false, false, false, false] (by kernel_rfl) rfl rfl ⟨j1, j2⟩ (fun hHeld => ?_)
  refine with_tabW tb_Compose1_1.tab tb_Compose1_1.bits (fun HT_ HW_ => ?_)
  refine pure_ (i := 0) (N := some 15) (v := ?_) (a' := ?_) #[true, false, false, false, false, false, false, false, false] rfl rfl (any_of HT_.out (by kernel_rfl)) (fun _ _ _ h => h) (Or.inl ⟨by rfl, ?_⟩) ?_ ?_
  rotate_left
  · intro w'
    go_simp
    with_reducible rfl
  rotate_left
  · simp only [Act.put, List.setIfInBounds_toArray, List.set_cons_zero, List.set_cons_succ, i64_w, i32_w]
    rfl
  refine pure_ (i := 1) (N := some 16) (v := ?_) (a' := ?_) #[true, true, false, false, false, false, false, false, false] rfl rfl (any_of HT_.out (by kernel_rfl)) (fun _ _ _ h => h) (Or.inl ⟨by rfl, ?_⟩) ?_ ?_
  rotate_left
  · intro w'
    go_simp
    with_reducible rfl
  rotate_left
  · simp only [Act.put, List.setIfInBounds_toArray, List.set_cons_zero, List.set_cons_succ, i64_w, i32_w]
    rfl
  refine pure_ (i := 2) (N := some 17) (v := ?_) (a' := ?_) #[true, true, true, false, false, false, false, false, false] rfl rfl (any_of HT_.out (by kernel_rfl)) (fun _ _ _ h => h) (Or.inl ⟨by rfl, ?_⟩) ?_ ?_
  rotate_left
  · intro w'
    go_simp
    with_reducible rfl
  rotate_left
  · simp only [Act.put, List.setIfInBounds_toArray, List.set_cons_zero, List.set_cons_succ, i64_w, i32_w]
    rfl
  refine take_ (i := 3) (N := some 18) (v := ?_) (a' := ?_) #[true, true, true, true, false, false, false, false, false] rfl rfl (take_ofW HT_.out HW_.out (by kernel_rfl)) (fun _ _ _ h => h) (Or.inl ⟨by rfl, ?_⟩) hHeld ?_ ?_
  rotate_left
  · rintro w' ⟨s0, s1⟩
    go_simp
    with_reducible rfl
  rotate_left
  · simp only [Act.put, List.setIfInBounds_toArray, List.set_cons_zero, List.set_cons_succ, i64_w, i32_w]
    rfl
  refine pure_ (i := 4) (N := some 19) (v := ?_) (a' := ?_) #[true, true, true, true, true, false, false, false, false] rfl rfl (any_of HT_.out (by kernel_rfl)) (fun _ _ _ h => h) (Or.inl ⟨by rfl, ?_⟩) ?_ ?_
  rotate_left
  · intro w'
    go_simp
    with_reducible rfl
  rotate_left
  · simp only [Act.put, List.setIfInBounds_toArray, List.set_cons_zero, List.set_cons_succ, i64_w, i32_w]
    rfl
  refine take_ (i := 6) (N := some 21) (v := ?_) (a' := ?_) #[true, true, true, true, true, false, true, false, false] rfl rfl (take_ofW HT_.out HW_.out (by kernel_rfl)) (fun _ _ _ h => h) (Or.inl ⟨by rfl, ?_⟩) hHeld ?_ ?_
  rotate_left
  · rintro w' ⟨s0, s1⟩
    go_simp
    with_reducible rfl
  rotate_left
  · simp only [Act.put, List.setIfInBounds_toArray, List.set_cons_zero, List.set_cons_succ, i64_w, i32_w]
    rfl
  refine one_ (i := 5) (N := some 20) #[true, true, true, true, true, true, true, false, false] rfl rfl (one_of HT_.out (by kernel_rfl)) (by decide) (fun K hK => ?_)
  refine goes_ Try.func104 (by kernel_rfl) rfl #[.pointer (some ⟨t, 0, none⟩), .int .i64 p] (by rfl) rfl rfl (by simp only [List.map_toArray, List.map_cons, List.map_nil]; rfl) ?_
  refine (CA.out w.drew S (HC.out.it.tab.below (below_drew (Below.refl _ _)))).mono ?_
  rintro e w1 ⟨rfl, hw1⟩
  refine ⟨_, rfl, ?_⟩
  have D1 := Aside0.mk (show Cw w1 S gt gi ga gw gs gg t mc ma i wi T L A from hw1 ▸ HC.out.below (below_drew (Below.refl _ _)))
  have B1 := Aside0.mk (show Below w.heap.size w w1 from hw1 ▸ below_drew (Below.refl _ _))
  clear hw1
  refine hK.out _ _ ⟨(blk_cell D1.out.kt 0).trans rfl, (blk_cell D1.out.ki 0).trans rfl⟩ (fun hHeld => ?_)
  clear hK K
  refine norm_ (a' := ?_) ?_ ?_
  rotate_left
  · show Act.put _ (some 20) _ = _
    (try simp only [Act.put, List.setIfInBounds_toArray, List.set_cons_zero, List.set_cons_succ, i64_w, i32_w])
    rfl
  refine pure_ (i := 7) (N := some 22) (v := ?_) (a' := ?_) #[true, true, true, true, true, true, true, true, false] rfl rfl (any_of HT_.out (by kernel_rfl)) (fun _ _ _ h => h) (Or.inl ⟨by rfl, ?_⟩) ?_ ?_
  rotate_left
  · intro w'
    go_simp
    with_reducible rfl
  rotate_left
  · simp only [Act.put, List.setIfInBounds_toArray, List.set_cons_zero, List.set_cons_succ, i64_w, i32_w]
    rfl
  refine pure_ (i := 8) (N := some 23) (v := ?_) (a' := ?_) #[true, true, true, true, true, true, true, true, true] rfl rfl (any_of HT_.out (by kernel_rfl)) (fun _ _ _ h => h) (Or.inl ⟨by rfl, ?_⟩) ?_ ?_
  rotate_left
  · intro w'
    go_simp
    with_reducible rfl
  rotate_left
  · simp only [Act.put, List.setIfInBounds_toArray, List.set_cons_zero, List.set_cons_succ, i64_w, i32_w]
    rfl
  refine done_ (done_of HT_.out (by kernel_rfl)) ?_
  clear j1 j2
  have l0 := (blk_cell D1.out.ka 0).trans rfl
  have hrun : (Instr.lookup 122 (.map (some ma)) (.int .i64 p) true).run Try.prog w1 = .ok (.tuple #[.int .i64 0, .bool false]) w1 := by
    have := run_lookup keyI Try.underlying122 D1.out.am p true (zero3 _)
    simpa [hl] using this
  have l1 := (blk_cell D1.out.kt 0).trans rfl
  obtain ⟨Ar, cr, mbt, ct0, ct1, ct2, hC1⟩ := D1.out.it.tab.cells
  obtain ⟨ad, rfl, x0, x1, x2⟩ := at_T107 hC1 p (by omega) hlen
  rw [← hn] at x0 x1 x2
  have p0 : 0 ≤ p := by omega
  have e1 : ∀ o : Obj, (w1.alloc o).cell? ⟨gt, 0, none⟩ = some (.pointer (some ⟨t, 0, none⟩)) := fun o => pw_cell_below (below_alloc (Below.refl _ _) o) l1
  have e2 : ∀ o : Obj, (w1.alloc o).cell? ⟨gi, 0, none⟩ = some (.int .i64 i) := fun o => pw_cell_below (below_alloc (Below.refl _ _) o) ((blk_cell D1.out.ki 0).trans rfl)
  have e3 : ∀ o : Obj, (w1.alloc o).cell? ⟨gw, 0, none⟩ = some (.int .i64 wi) := fun o => pw_cell_below (below_alloc (Below.refl _ _) o) ((blk_cell D1.out.kw 0).trans rfl)
  have e4 : ∀ o : Obj, (w1.alloc o).cell? ⟨gs, 0, none⟩ = some (.map (some mc)) := fun o => pw_cell_below (below_alloc (Below.refl _ _) o) ((blk_cell D1.out.ks 0).trans rfl)
  obtain ⟨w2, hw2⟩ : ∃ W, W = w1.alloc (Obj.cells #[.int .i64 n.f0, .int .i64 n.f1, .int .i64 n.f2] 107) := ⟨_, rfl⟩
  have hB2 : Below w1.heap.size w1 w2 := by rw [hw2]; exact below_alloc (Below.refl _ _) _
  have hbx : w2.heap[w1.heap.size]? = some (.cells #[.int .i64 n.f0, .int .i64 n.f1, .int .i64 n.f2] 107 (0, 0)) := by rw [hw2]; exact blk_new _ _
  have D2 := Aside0.mk (D1.out.bound.below hB2)
  have B2 := Aside0.mk hB2
  have BX := Aside0.mk hbx
  clear hC1 ct0 ct2 hl hB2 hbx hn hi
  go_wp2_with fail
  rw [← hw2]
  clear hw2 e1 e2 e3 e4
  refine (ite_calls t mc k _ T L wi n.f2 n.f1 q T' L' w2 D2.out.it HI.out.1 HI.out.2).mono ?_
  rintro e w3 ⟨rfl, hI3, hF3⟩
  have D3 := Aside0.mk (D2.out.step hF3 hI3 (fun k q => q.1.elim .inl (fun q => .inr q.1)))
  have F3 := Aside0.mk hF3
  have r0 := (blk_cell D3.out.ka 0).trans rfl
  obtain ⟨o, ho, hM⟩ := run_mapUpdate keyI Try.underlying122 (w := w3) D3.out.am p q
  have M3 := Aside0.mk hM
  clear hI3 hF3 hM l0 l1 hrun
  go_wp2
  go_ret
  have f2 : Fr (fun k => S k ∨ k = mc ∨ k = ma) w w2 := Fr.of_below (below_then B1.out B1.out.size B2.out)
  have f3 := f2.then_ F3.out (fun k q => q.elim (fun q => .inl (.inl q.1)) (fun q => .inl (.inr (.inl q))))
  have f4 := f3.then_ (Fr.setBlock (fun k => k = ma) w3 ma o rfl) (fun k q => .inl (.inr (.inr q)))
  exact ⟨by rfl, HC.out.fin (D3.out.asked M3.out) (fun k q => q.1.elim (fun q => .inl q.1) (fun q => .inr (Nat.le_trans (Nat.le_trans B1.out.size B2.out.size) q.1))), f4⟩
set_option maxRecDepth 100000 in
set_option maxHeartbeats 4000000 in
theorem comp_on {S : Nat → Prop} (gt gi ga gw gs gg t mc ma : Nat) (i wi : Int) (T T1 T2 T' : TB) (L L1 L2 L' : SL) (A A1 A2 : AL) (p q r1 r2 : Int) (n : S107) (nd : Int × TB) (k : Nat) (w : World) (hC : Cw w S gt gi ga gw gs gg t mc ma i wi T L A) (hp : 2 ≤ p) (hlen : p < T.ns.length) (ha : ¬ i < asksP T p) (hl : HMap.look A p = none)
    (hn : n = rd_T107 T.ns p) (hi : n.f0 ≠ i) (hnd : nd = nodeP T2 ⟨n.f0, 0, 1⟩) (hq : iteP k nd.2 L2 nd.1 r2 r1 = some (q, T', L')) (hlen2 : T2.ns.length < 1000000000000) (hlen' : T'.ns.length < 1000000000000)
    (IH1 : ∀ (S1 : Nat → Prop) (W : World), Cw W S1 gt gi ga gw gs gg t mc ma i wi T L A → Calls Try.prog 103 #[.int .i64 n.f1, .pointer (some ⟨gt, 0, none⟩), .pointer (some ⟨gi, 0, none⟩), .pointer (some ⟨ga, 0, none⟩), .pointer (some ⟨gw, 0, none⟩), .pointer (some ⟨gs, 0, none⟩), .pointer (some ⟨gg, 0, none⟩)] W (CPost W S1 gt gi ga gw gs gg t mc ma i wi r1 T1 L1 A1))
    (IH2 : ∀ (S1 : Nat → Prop) (W : World), Cw W S1 gt gi ga gw gs gg t mc ma i wi T1 L1 A1 → Calls Try.prog 103 #[.int .i64 n.f2, .pointer (some ⟨gt, 0, none⟩), .pointer (some ⟨gi, 0, none⟩), .pointer (some ⟨ga, 0, none⟩), .pointer (some ⟨gw, 0, none⟩), .pointer (some ⟨gs, 0, none⟩), .pointer (some ⟨gg, 0, none⟩)] W (CPost W S1 gt gi ga gw gs gg t mc ma i wi r2 T2 L2 A2)) :
    Calls Try.prog 103 #[.int .i64 p, .pointer (some ⟨gt, 0, none⟩), .pointer (some ⟨gi, 0, none⟩), .pointer (some ⟨ga, 0, none⟩), .pointer (some ⟨gw, 0, none⟩), .pointer (some ⟨gs, 0, none⟩), .pointer (some ⟨gg, 0, none⟩)] w (CPost w S gt gi ga gw gs gg t mc ma i wi q T' L' (HMap.upd A2 p q)) := by
  have HI := Aside0.mk (And.intro hq (And.intro hlen2 hlen'))
  have ND := Aside0.mk hnd
  have I1 := Aside0.mk IH1
  have I2 := Aside0.mk IH2
  have z0 : (n.f0 == i) = false := by simpa using hi
  clear hq hlen' hlen2 hnd IH1 IH2
  have HC := Aside0.mk hC
  have q0 : decide (p < 2) = false := decide_eq_false (by omega)
  have q1 : (p < 2) = False := eq_false (by omega)
  obtain ⟨ap, hap⟩ : ∃ a, a = asksP T p := ⟨_, rfl⟩
  have CA : Aside0 (∀ W S, Tab W S t T → Calls Try.prog 104 #[.pointer (some ⟨t, 0, none⟩), .int .i64 p] W fun e w' => e = .returned (.int .i64 ap) ∧ W = w') := ⟨fun W S hT => by rw [hap]; exact asks_calls t T p W hT (.inr hlen)⟩
  rw [← hap] at ha
  have q2 : decide (i < ap) = false := decide_eq_false (by omega)
  have q3 : (i < ap) = False := eq_false (by omega)
  have j1 := (blk_cell hC.kt 0).trans rfl
  have j2 := (blk_cell hC.ki 0).trans rfl
  clear hap hC
  go_enter Try.func103, Try.ntmps103
  go_wp2
  refine start_ (n := 9) (S := fun w' => (w'.cell? ⟨gt, 0, none⟩ = some (.pointer (some ⟨t, 0, none⟩))) ∧ (w'.cell? ⟨gi, 0, none⟩ = some (.int .i64 i))) (ds := []) #[false, false, false, false, false, false, false, false, false] (by kernel_rfl) rfl rfl ⟨j1, j2⟩ (fun hHeld => ?_)
  refine with_tabW tb_Compose1_1.tab tb_Compose1_1.bits (fun HT_ HW_ => ?_)
  refine pure_ (i := 0) (N := some 15) (v := ?_) (a' := ?_) #[true, false, false, false, false, false, false, false, false] rfl rfl (any_of HT_.out (by kernel_rfl)) (fun _ _ _ h => h) (Or.inl ⟨by rfl, ?_⟩) ?_ ?_
  rotate_left
  · intro w'
    go_simp
    with_reducible rfl
  rotate_left
  · simp only [Act.put, List.setIfInBounds_toArray, List.set_cons_zero, List.set_cons_succ, i64_w, i32_w]
    rfl
  refine pure_ (i := 1) (N := some 16) (v := ?_) (a' := ?_) #[true, true, false, false, false, false, false, false, false] rfl rfl (any_of HT_.out (by kernel_rfl)) (fun _ _ _ h => h) (Or.inl ⟨by rfl, ?_⟩) ?_ ?_
  rotate_left
  · intro w'
    go_simp
    with_reducible rfl
  rotate_left
  · simp only [Act.put, List.setIfInBounds_toArray, List.set_cons_zero, List.set_cons_succ, i64_w, i32_w]
    rfl
  refine pure_ (i := 2) (N := some 17) (v := ?_) (a' := ?_) #[true, true, true, false, false, false, false, false, false] rfl rfl (any_of HT_.out (by kernel_rfl)) (fun _ _ _ h => h) (Or.inl ⟨by rfl, ?_⟩) ?_ ?_
  rotate_left
  · intro w'
    go_simp
    with_reducible rfl
  rotate_left
  · simp only [Act.put, List.setIfInBounds_toArray, List.set_cons_zero, List.set_cons_succ, i64_w, i32_w]
    rfl
  refine take_ (i := 3) (N := some 18) (v := ?_) (a' := ?_) #[true, true, true, true, false, false, false, false, false] rfl rfl (take_ofW HT_.out HW_.out (by kernel_rfl)) (fun _ _ _ h => h) (Or.inl ⟨by rfl, ?_⟩) hHeld ?_ ?_
  rotate_left
  · rintro w' ⟨s0, s1⟩
    go_simp
    with_reducible rfl
  rotate_left
  · simp only [Act.put, List.setIfInBounds_toArray, List.set_cons_zero, List.set_cons_succ, i64_w, i32_w]
    rfl
  refine pure_ (i := 4) (N := some 19) (v := ?_) (a' := ?_) #[true, true, true, true, true, false, false, false, false] rfl rfl (any_of HT_.out (by kernel_rfl)) (fun _ _ _ h => h) (Or.inl ⟨by rfl, ?_⟩) ?_ ?_
  rotate_left
  · intro w'
    go_simp
    with_reducible rfl
  rotate_left
  · simp only [Act.put, List.setIfInBounds_toArray, List.set_cons_zero, List.set_cons_succ, i64_w, i32_w]
    rfl
  refine take_ (i := 6) (N := some 21) (v := ?_) (a' := ?_) #[true, true, true, true, true, false, true, false, false] rfl rfl (take_ofW HT_.out HW_.out (by kernel_rfl)) (fun _ _ _ h => h) (Or.inl ⟨by rfl, ?_⟩) hHeld ?_ ?_
  rotate_left
  · rintro w' ⟨s0, s1⟩
    go_simp
    with_reducible rfl
  rotate_left
  · simp only [Act.put, List.setIfInBounds_toArray, List.set_cons_zero, List.set_cons_succ, i64_w, i32_w]
    rfl
  refine one_ (i := 5) (N := some 20) #[true, true, true, true, true, true, true, false, false] rfl rfl (one_of HT_.out (by kernel_rfl)) (by decide) (fun K hK => ?_)
  refine goes_ Try.func104 (by kernel_rfl) rfl #[.pointer (some ⟨t, 0, none⟩), .int .i64 p] (by rfl) rfl rfl (by simp only [List.map_toArray, List.map_cons, List.map_nil]; rfl) ?_
  refine (CA.out w.drew S (HC.out.it.tab.below (below_drew (Below.refl _ _)))).mono ?_
  rintro e w1 ⟨rfl, hw1⟩
  refine ⟨_, rfl, ?_⟩
  have D1 := Aside0.mk (show Cw w1 S gt gi ga gw gs gg t mc ma i wi T L A from hw1 ▸ HC.out.below (below_drew (Below.refl _ _)))
  have B1 := Aside0.mk (show Below w.heap.size w w1 from hw1 ▸ below_drew (Below.refl _ _))
  clear hw1
  refine hK.out _ _ ⟨(blk_cell D1.out.kt 0).trans rfl, (blk_cell D1.out.ki 0).trans rfl⟩ (fun hHeld => ?_)
  clear hK K
  refine norm_ (a' := ?_) ?_ ?_
  rotate_left
  · show Act.put _ (some 20) _ = _
    (try simp only [Act.put, List.setIfInBounds_toArray, List.set_cons_zero, List.set_cons_succ, i64_w, i32_w])
    rfl
  refine pure_ (i := 7) (N := some 22) (v := ?_) (a' := ?_) #[true, true, true, true, true, true, true, true, false] rfl rfl (any_of HT_.out (by kernel_rfl)) (fun _ _ _ h => h) (Or.inl ⟨by rfl, ?_⟩) ?_ ?_
  rotate_left
  · intro w'
    go_simp
    with_reducible rfl
  rotate_left
  · simp only [Act.put, List.setIfInBounds_toArray, List.set_cons_zero, List.set_cons_succ, i64_w, i32_w]
    rfl
  refine pure_ (i := 8) (N := some 23) (v := ?_) (a' := ?_) #[true, true, true, true, true, true, true, true, true] rfl rfl (any_of HT_.out (by kernel_rfl)) (fun _ _ _ h => h) (Or.inl ⟨by rfl, ?_⟩) ?_ ?_
  rotate_left
  · intro w'
    go_simp
    with_reducible rfl
  rotate_left
  · simp only [Act.put, List.setIfInBounds_toArray, List.set_cons_zero, List.set_cons_succ, i64_w, i32_w]
    rfl
  refine done_ (done_of HT_.out (by kernel_rfl)) ?_
  clear j1 j2
  have l0 := (blk_cell D1.out.ka 0).trans rfl
  have hrun : (Instr.lookup 122 (.map (some ma)) (.int .i64 p) true).run Try.prog w1 = .ok (.tuple #[.int .i64 0, .bool false]) w1 := by
    have := run_lookup keyI Try.underlying122 D1.out.am p true (zero3 _)
    simpa [hl] using this
  have l1 := (blk_cell D1.out.kt 0).trans rfl
  obtain ⟨Ar, cr, mbt, ct0, ct1, ct2, hC1⟩ := D1.out.it.tab.cells
  obtain ⟨ad, rfl, x0, x1, x2⟩ := at_T107 hC1 p (by omega) hlen
  rw [← hn] at x0 x1 x2
  have p0 : 0 ≤ p := by omega
  have e1 : ∀ o : Obj, (w1.alloc o).cell? ⟨gt, 0, none⟩ = some (.pointer (some ⟨t, 0, none⟩)) := fun o => pw_cell_below (below_alloc (Below.refl _ _) o) l1
  have e2 : ∀ o : Obj, (w1.alloc o).cell? ⟨gi, 0, none⟩ = some (.int .i64 i) := fun o => pw_cell_below (below_alloc (Below.refl _ _) o) ((blk_cell D1.out.ki 0).trans rfl)
  have e3 : ∀ o : Obj, (w1.alloc o).cell? ⟨gw, 0, none⟩ = some (.int .i64 wi) := fun o => pw_cell_below (below_alloc (Below.refl _ _) o) ((blk_cell D1.out.kw 0).trans rfl)
  have e4 : ∀ o : Obj, (w1.alloc o).cell? ⟨gs, 0, none⟩ = some (.map (some mc)) := fun o => pw_cell_below (below_alloc (Below.refl _ _) o) ((blk_cell D1.out.ks 0).trans rfl)
  obtain ⟨w2, hw2⟩ : ∃ W, W = w1.alloc (Obj.cells #[.int .i64 n.f0, .int .i64 n.f1, .int .i64 n.f2] 107) := ⟨_, rfl⟩
  have hB2 : Below w1.heap.size w1 w2 := by rw [hw2]; exact below_alloc (Below.refl _ _) _
  have hbx : w2.heap[w1.heap.size]? = some (.cells #[.int .i64 n.f0, .int .i64 n.f1, .int .i64 n.f2] 107 (0, 0)) := by rw [hw2]; exact blk_new _ _
  have D2 := Aside0.mk (D1.out.bound.below hB2)
  have B2 := Aside0.mk hB2
  have BX := Aside0.mk hbx
  clear hC1 ct0 ct2 hl hB2 hbx hn hi
  go_wp2
  rw [← hw2]
  have y1 := (blk_cell BX.out 1).trans rfl
  have y2 := (blk_cell BX.out 2).trans rfl
  have y3 : w2.cell? ⟨gg, 0, none⟩ = some (.func (.func 103) #[] #[.pointer (some ⟨gt, 0, none⟩), .pointer (some ⟨gi, 0, none⟩), .pointer (some ⟨ga, 0, none⟩), .pointer (some ⟨gw, 0, none⟩), .pointer (some ⟨gs, 0, none⟩), .pointer (some ⟨gg, 0, none⟩)]) := (blk_cell D2.out.kg 0).trans rfl
  clear hw2 e1 e2 e3 e4
  refine start_ (n := 10) (S := fun w' => (w'.cell? ⟨gg, 0, none⟩ = some (.func (.func 103) #[] #[.pointer (some ⟨gt, 0, none⟩), .pointer (some ⟨gi, 0, none⟩), .pointer (some ⟨ga, 0, none⟩), .pointer (some ⟨gw, 0, none⟩), .pointer (some ⟨gs, 0, none⟩), .pointer (some ⟨gg, 0, none⟩)])) ∧ (w'.cell? ⟨w1.heap.size, 1, none⟩ = some (.int .i64 n.f1)) ∧ (w'.cell? ⟨w1.heap.size, 2, none⟩ = some (.int .i64 n.f2))) (ds := [7]) #[false, false, false, false, false, false, false, false, false, false] (by kernel_rfl) rfl rfl ⟨y3, y1, y2⟩ (fun hHeld => ?_)
  refine with_tabW tb_Compose1_10.tab tb_Compose1_10.bits (fun HT_ HW_ => ?_)
  refine take_ (i := 0) (N := some 52) (v := ?_) (a' := ?_) #[true, false, false, false, false, false, false, false, false, false] rfl rfl (take_ofW HT_.out HW_.out (by kernel_rfl)) (fun _ _ _ h => h) (Or.inl ⟨by rfl, ?_⟩) hHeld ?_ ?_
  rotate_left
  · rintro w' ⟨s0, s1, s2⟩
    go_simp
    with_reducible rfl
  rotate_left
  · simp only [Act.put, List.setIfInBounds_toArray, List.set_cons_zero, List.set_cons_succ, i64_w, i32_w]
    rfl
  refine pure_ (i := 1) (N := some 53) (v := ?_) (a' := ?_) #[true, true, false, false, false, false, false, false, false, false] rfl rfl (any_of HT_.out (by kernel_rfl)) (fun _ _ _ h => h) (Or.inl ⟨by rfl, ?_⟩) ?_ ?_
  rotate_left
  · intro w'
    go_simp
    with_reducible rfl
  rotate_left
  · simp only [Act.put, List.setIfInBounds_toArray, List.set_cons_zero, List.set_cons_succ, i64_w, i32_w]
    rfl
  refine take_ (i := 2) (N := some 54) (v := ?_) (a' := ?_) #[true, true, true, false, false, false, false, false, false, false] rfl rfl (take_ofW HT_.out HW_.out (by kernel_rfl)) (fun _ _ _ h => h) (Or.inl ⟨by rfl, ?_⟩) hHeld ?_ ?_
  rotate_left
  · rintro w' ⟨s0, s1, s2⟩
    go_simp
    with_reducible rfl
  rotate_left
  · simp only [Act.put, List.setIfInBounds_toArray, List.set_cons_zero, List.set_cons_succ, i64_w, i32_w]
    rfl
  refine take_ (i := 4) (N := some 56) (v := ?_) (a' := ?_) #[true, true, true, false, true, false, false, false, false, false] rfl rfl (take_ofW HT_.out HW_.out (by kernel_rfl)) (fun _ _ _ h => h) (Or.inl ⟨by rfl, ?_⟩) hHeld ?_ ?_
  rotate_left
  · rintro w' ⟨s0, s1, s2⟩
    go_simp
    with_reducible rfl
  rotate_left
  · simp only [Act.put, List.setIfInBounds_toArray, List.set_cons_zero, List.set_cons_succ, i64_w, i32_w]
    rfl
  refine pure_ (i := 5) (N := some 57) (v := ?_) (a' := ?_) #[true, true, true, false, true, true, false, false, false, false] rfl rfl (any_of HT_.out (by kernel_rfl)) (fun _ _ _ h => h) (Or.inl ⟨by rfl, ?_⟩) ?_ ?_
  rotate_left
  · intro w'
    go_simp
    with_reducible rfl
  rotate_left
  · simp only [Act.put, List.setIfInBounds_toArray, List.set_cons_zero, List.set_cons_succ, i64_w, i32_w]
    rfl
  refine take_ (i := 6) (N := some 58) (v := ?_) (a' := ?_) #[true, true, true, false, true, true, true, false, false, false] rfl rfl (take_ofW HT_.out HW_.out (by kernel_rfl)) (fun _ _ _ h => h) (Or.inl ⟨by rfl, ?_⟩) hHeld ?_ ?_
  rotate_left
  · rintro w' ⟨s0, s1, s2⟩
    go_simp
    with_reducible rfl
  rotate_left
  · simp only [Act.put, List.setIfInBounds_toArray, List.set_cons_zero, List.set_cons_succ, i64_w, i32_w]
    rfl
  refine one_ (i := 3) (N := some 55) #[true, true, true, true, true, true, true, false, false, false] rfl rfl (one_of HT_.out (by kernel_rfl)) (by decide) (fun K hK => ?_)
  refine goesV_ Try.func103 (by kernel_rfl) rfl #[.int .i64 n.f1, .pointer (some ⟨gt, 0, none⟩), .pointer (some ⟨gi, 0, none⟩), .pointer (some ⟨ga, 0, none⟩), .pointer (some ⟨gw, 0, none⟩), .pointer (some ⟨gs, 0, none⟩), .pointer (some ⟨gg, 0, none⟩)] (by rfl) rfl rfl rfl (by simp only [List.map_toArray, List.map_cons, List.map_nil]; rfl) ?_
  refine (I1.out _ w2.drew (D2.out.below (below_drew (Below.refl _ _)))).mono ?_
  rintro e w3 ⟨rfl, hD3, hF3⟩
  refine ⟨_, rfl, ?_⟩
  have D3 := Aside0.mk hD3
  have F3 := Aside0.mk (Fr.undrew hF3)
  have hmc := map_off D2.out.it.map BX.out
  have hma := map_off D2.out.am BX.out
  have X3 := Aside0.mk ((F3.out.block _ (blk_lt BX.out) (fun q => q.elim (fun q => Nat.lt_irrefl _ q.2) (fun q => q.elim hmc hma))).trans BX.out)
  clear hD3 hF3 hmc hma
  refine hK.out _ _ ⟨(blk_cell D3.out.kg 0).trans rfl, (blk_cell X3.out 1).trans rfl, (blk_cell X3.out 2).trans rfl⟩ (fun hHeld => ?_)
  clear hK K
  refine norm_ (a' := ?_) ?_ ?_
  rotate_left
  · show Act.put _ (some 55) _ = _
    (try simp only [Act.put, List.setIfInBounds_toArray, List.set_cons_zero, List.set_cons_succ, i64_w, i32_w])
    rfl
  refine last_ (i := 7) (N := some 59) #[true, true, true, true, true, true, true, true, false, false] rfl rfl (one_of HT_.out (by kernel_rfl)) (by decide) (fun K hK => ?_)
  refine goesV_ Try.func103 (by kernel_rfl) rfl #[.int .i64 n.f2, .pointer (some ⟨gt, 0, none⟩), .pointer (some ⟨gi, 0, none⟩), .pointer (some ⟨ga, 0, none⟩), .pointer (some ⟨gw, 0, none⟩), .pointer (some ⟨gs, 0, none⟩), .pointer (some ⟨gg, 0, none⟩)] (by rfl) rfl rfl rfl (by simp only [List.map_toArray, List.map_cons, List.map_nil]; rfl) ?_
  refine (I2.out _ w3 D3.out).mono ?_
  rintro e w4 ⟨rfl, hD4, hF4⟩
  refine ⟨_, rfl, ?_⟩
  have D4 := Aside0.mk hD4
  have F4 := Aside0.mk hF4
  have hmc := map_off D3.out.it.map X3.out
  have hma := map_off D3.out.am X3.out
  have X4 := Aside0.mk ((F4.out.block _ (blk_lt X3.out) (fun q => q.elim (fun q => q.1.elim (fun q => Nat.lt_irrefl _ q.2) (fun q => absurd (blk_lt BX.out) (Nat.not_lt.2 q))) (fun q => q.elim hmc hma))).trans X3.out)
  clear hD4 hF4 hmc hma
  refine hK.out _ _ ?_
  clear hK K
  refine norm_ (a' := ?_) ?_ ?_
  rotate_left
  · show Act.put _ (some 59) _ = _
    (try simp only [Act.put, List.setIfInBounds_toArray, List.set_cons_zero, List.set_cons_succ, i64_w, i32_w])
    rfl
  refine pure_ (i := 8) (N := some 13) (v := ?_) (a' := ?_) #[true, true, true, true, true, true, true, true, true, false] rfl rfl (any_of HT_.out (by kernel_rfl)) (fun _ _ _ h => h) (Or.inl ⟨by rfl, ?_⟩) ?_ ?_
  rotate_left
  · intro w'
    go_simp
    with_reducible rfl
  rotate_left
  · simp only [Act.put, List.setIfInBounds_toArray, List.set_cons_zero, List.set_cons_succ, i64_w, i32_w]
    rfl
  refine pure_ (i := 9) (N := some 14) (v := ?_) (a' := ?_) #[true, true, true, true, true, true, true, true, true, true] rfl rfl (any_of HT_.out (by kernel_rfl)) (fun _ _ _ h => h) (Or.inl ⟨by rfl, ?_⟩) ?_ ?_
  rotate_left
  · intro w'
    go_simp
    with_reducible rfl
  rotate_left
  · simp only [Act.put, List.setIfInBounds_toArray, List.set_cons_zero, List.set_cons_succ, i64_w, i32_w]
    rfl
  refine done_ (done_of HT_.out (by kernel_rfl)) ?_
  clear y1 y2 y3
  have u0 := (blk_cell X4.out 0).trans rfl
  have u1 := (blk_cell D4.out.kt 0).trans rfl
  have u2 := (blk_cell D4.out.ks 0).trans rfl
  go_wp2
  refine start_ (n := 11) (S := fun w' => (w'.cell? ⟨gt, 0, none⟩ = some (.pointer (some ⟨t, 0, none⟩))) ∧ (w'.cell? ⟨gs, 0, none⟩ = some (.map (some mc))) ∧ (w'.cell? ⟨w1.heap.size, 0, none⟩ = some (.int .i64 n.f0))) (ds := [9]) #[false, false, false, false, false, false, false, false, false, false, false] (by kernel_rfl) rfl rfl ⟨u1, u2, u0⟩ (fun hHeld => ?_)
  refine with_tabW tb_Compose1_11.tab tb_Compose1_11.bits (fun HT_ HW_ => ?_)
  refine take_ (i := 0) (N := some 60) (v := ?_) (a' := ?_) #[true, false, false, false, false, false, false, false, false, false, false] rfl rfl (take_ofW HT_.out HW_.out (by kernel_rfl)) (fun _ _ _ h => h) (Or.inl ⟨by rfl, ?_⟩) hHeld ?_ ?_
  rotate_left
  · rintro w' ⟨s0, s1, s2⟩
    go_simp
    with_reducible rfl
  rotate_left
  · simp only [Act.put, List.setIfInBounds_toArray, List.set_cons_zero, List.set_cons_succ, i64_w, i32_w]
    rfl
  refine take_ (i := 1) (N := some 61) (v := ?_) (a' := ?_) #[true, true, false, false, false, false, false, false, false, false, false] rfl rfl (take_ofW HT_.out HW_.out (by kernel_rfl)) (fun _ _ _ h => h) (Or.inl ⟨by rfl, ?_⟩) hHeld ?_ ?_
  rotate_left
  · rintro w' ⟨s0, s1, s2⟩
    go_simp
    with_reducible rfl
  rotate_left
  · simp only [Act.put, List.setIfInBounds_toArray, List.set_cons_zero, List.set_cons_succ, i64_w, i32_w]
    rfl
  refine pure_ (i := 2) (N := some 62) (v := ?_) (a' := ?_) #[true, true, true, false, false, false, false, false, false, false, false] rfl rfl (any_of HT_.out (by kernel_rfl)) (fun _ _ _ h => h) (Or.inl ⟨by rfl, ?_⟩) ?_ ?_
  rotate_left
  · intro w'
    go_simp
    with_reducible rfl
  rotate_left
  · simp only [Act.put, List.setIfInBounds_toArray, List.set_cons_zero, List.set_cons_succ, i64_w, i32_w]
    rfl
  refine take_ (i := 3) (N := some 63) (v := ?_) (a' := ?_) #[true, true, true, true, false, false, false, false, false, false, false] rfl rfl (take_ofW HT_.out HW_.out (by kernel_rfl)) (fun _ _ _ h => h) (Or.inl ⟨by rfl, ?_⟩) hHeld ?_ ?_
  rotate_left
  · rintro w' ⟨s0, s1, s2⟩
    go_simp
    with_reducible rfl
  rotate_left
  · simp only [Act.put, List.setIfInBounds_toArray, List.set_cons_zero, List.set_cons_succ, i64_w, i32_w]
    rfl
  refine pure_ (i := 4) (N := some 64) (v := ?_) (a' := ?_) #[true, true, true, true, true, false, false, false, false, false, false] rfl rfl (any_of HT_.out (by kernel_rfl)) (fun _ _ _ h => h) (Or.inl ⟨by rfl, ?_⟩) ?_ ?_
  rotate_left
  · intro w'
    go_simp
    with_reducible rfl
  rotate_left
  · simp only [Act.put, List.setIfInBounds_toArray, List.set_cons_zero, List.set_cons_succ, i64_w, i32_w]
    rfl
  refine pure_ (i := 6) (N := some 66) (v := ?_) (a' := ?_) #[true, true, true, true, true, false, true, false, false, false, false] rfl rfl (any_of HT_.out (by kernel_rfl)) (fun _ _ _ h => h) (Or.inl ⟨by rfl, ?_⟩) ?_ ?_
  rotate_left
  · intro w'
    go_simp
    with_reducible rfl
  rotate_left
  · simp only [Act.put, List.setIfInBounds_toArray, List.set_cons_zero, List.set_cons_succ, i64_w, i32_w]
    rfl
  refine pure_ (i := 7) (N := some 67) (v := ?_) (a' := ?_) #[true, true, true, true, true, false, true, true, false, false, false] rfl rfl (any_of HT_.out (by kernel_rfl)) (fun _ _ _ h => h) (Or.inl ⟨by rfl, ?_⟩) ?_ ?_
  rotate_left
  · intro w'
    go_simp
    with_reducible rfl
  rotate_left
  · simp only [Act.put, List.setIfInBounds_toArray, List.set_cons_zero, List.set_cons_succ, i64_w, i32_w]
    rfl
  refine take_ (i := 8) (N := some 68) (v := ?_) (a' := ?_) #[true, true, true, true, true, false, true, true, true, false, false] rfl rfl (take_ofW HT_.out HW_.out (by kernel_rfl)) (fun _ _ _ h => h) (Or.inl ⟨by rfl, ?_⟩) hHeld ?_ ?_
  rotate_left
  · rintro w' ⟨s0, s1, s2⟩
    go_simp
    with_reducible rfl
  rotate_left
  · simp only [Act.put, List.setIfInBounds_toArray, List.set_cons_zero, List.set_cons_succ, i64_w, i32_w]
    rfl
  refine one_ (i := 5) (N := some 65) #[true, true, true, true, true, true, true, true, true, false, false] rfl rfl (one_of HT_.out (by kernel_rfl)) (by decide) (fun K hK => ?_)
  refine goes_ Try.func105 (by kernel_rfl) rfl #[.pointer (some ⟨t, 0, none⟩), encN ⟨n.f0, 0, 1⟩] (by rfl) rfl rfl (by simp only [List.map_toArray, List.map_cons, List.map_nil]; rfl) ?_
  have D4' := D4.out.below (below_drew (Below.refl _ _))
  refine (node_calls t T2 ⟨n.f0, 0, 1⟩ _ D4'.it.tab HI.out.2.1).mono ?_
  intro e w5 hp
  rw [← ND.out] at hp
  obtain ⟨rfl, hT5, hF5⟩ := hp
  refine ⟨_, rfl, ?_⟩
  have D5 := Aside0.mk (D4'.node hT5 hF5)
  have F5 := Aside0.mk (Fr.undrew hF5)
  have X5 := Aside0.mk ((F5.out.block _ (blk_lt X4.out) (fun q => q.1.elim (fun q => q.1.elim (fun q => Nat.lt_irrefl _ q.2) (fun q => absurd (blk_lt BX.out) (Nat.not_lt.2 q))) (fun q => absurd (blk_lt X3.out) (Nat.not_lt.2 q)))).trans X4.out)
  clear hT5 hF5 D4'
  refine hK.out _ _ ⟨(blk_cell D5.out.kt 0).trans rfl, (blk_cell D5.out.ks 0).trans rfl, (blk_cell X5.out 0).trans rfl⟩ (fun hHeld => ?_)
  clear hK K
  refine norm_ (a' := ?_) ?_ ?_
  rotate_left
  · show Act.put _ (some 65) _ = _
    (try simp only [Act.put, List.setIfInBounds_toArray, List.set_cons_zero, List.set_cons_succ, i64_w, i32_w])
    rfl
  refine last_ (i := 9) (N := some 69) #[true, true, true, true, true, true, true, true, true, true, false] rfl rfl (one_of HT_.out (by kernel_rfl)) (by decide) (fun K hK => ?_)
  refine goes_ Try.func101 (by kernel_rfl) rfl #[.pointer (some ⟨t, 0, none⟩), .int .i64 nd.1, .int .i64 r2, .int .i64 r1, .map (some mc)] (by rfl) rfl rfl (by simp only [List.map_toArray, List.map_cons, List.map_nil]; rfl) ?_
  refine (ite_calls t mc k _ nd.2 L2 nd.1 r2 r1 q T' L' w5 D5.out.it HI.out.1 HI.out.2.2).mono ?_
  rintro e w6 ⟨rfl, hI6, hF6⟩
  refine ⟨_, rfl, ?_⟩
  have D6 := Aside0.mk (D5.out.step hF6 hI6 (fun k q => q.1.elim .inl (fun q => .inr q.1)))
  have F6 := Aside0.mk hF6
  clear hI6 hF6
  refine hK.out _ _ ?_
  clear hK K
  refine norm_ (a' := ?_) ?_ ?_
  rotate_left
  · show Act.put _ (some 69) _ = _
    (try simp only [Act.put, List.setIfInBounds_toArray, List.set_cons_zero, List.set_cons_succ, i64_w, i32_w])
    rfl
  refine pure_ (i := 10) (N := some 12) (v := ?_) (a' := ?_) #[true, true, true, true, true, true, true, true, true, true, true] rfl rfl (any_of HT_.out (by kernel_rfl)) (fun _ _ _ h => h) (Or.inl ⟨by rfl, ?_⟩) ?_ ?_
  rotate_left
  · intro w'
    go_simp
    with_reducible rfl
  rotate_left
  · simp only [Act.put, List.setIfInBounds_toArray, List.set_cons_zero, List.set_cons_succ, i64_w, i32_w]
    rfl
  refine done_ (done_of HT_.out (by kernel_rfl)) ?_
  have r0 := (blk_cell D6.out.ka 0).trans rfl
  obtain ⟨o, ho, hM⟩ := run_mapUpdate keyI Try.underlying122 (w := w6) D6.out.am p q
  have M6 := Aside0.mk hM
  clear hM l0 l1 hrun u0 u1 u2
  go_wp2
  go_ret
  have f2 : Fr (fun k => S k ∨ k = mc ∨ k = ma) w w2 := Fr.of_below (below_then B1.out B1.out.size B2.out)
  have s2 : w.heap.size ≤ w2.heap.size := f2.size
  have f3 := f2.then_ F3.out (fun k q => q.elim (fun q => .inl (.inl q.1)) (fun q => .inl (.inr q)))
  have i3 : ∀ k, (((S k ∧ k < w1.heap.size) ∨ w2.heap.size ≤ k) ∧ k < w3.heap.size) → S k ∨ w.heap.size ≤ k := fun k q => q.1.elim (fun q => .inl q.1) (fun q => .inr (Nat.le_trans s2 q))
  have f4 := f3.then_ F4.out (fun k q => q.elim (fun q => (i3 k q).elim (fun q => .inl (.inl q)) .inr) (fun q => .inl (.inr q)))
  have i4 : ∀ k, (((((S k ∧ k < w1.heap.size) ∨ w2.heap.size ≤ k) ∧ k < w3.heap.size) ∨ w3.heap.size ≤ k) ∧ k < w4.heap.size) → S k ∨ w.heap.size ≤ k := fun k q => q.1.elim (i3 k) (fun q => .inr (Nat.le_trans f3.size q))
  have f5 := f4.then_ F5.out (fun k q => (i4 k q).elim (fun q => .inl (.inl q)) .inr)
  have i5 : ∀ k, ((((((S k ∧ k < w1.heap.size) ∨ w2.heap.size ≤ k) ∧ k < w3.heap.size) ∨ w3.heap.size ≤ k) ∧ k < w4.heap.size) ∨ w4.heap.size ≤ k) → S k ∨ w.heap.size ≤ k := fun k q => q.elim (i4 k) (fun q => .inr (Nat.le_trans f4.size q))
  have f6 := f5.then_ F6.out (fun k q => q.elim (fun q => (i5 k q).elim (fun q => .inl (.inl q)) .inr) (fun q => .inl (.inr (.inl q))))
  have f7 := f6.then_ (Fr.setBlock (fun k => k = ma) w6 ma o rfl) (fun k q => .inl (.inr (.inr q)))
  exact ⟨by rfl, HC.out.fin (D6.out.asked M6.out) (fun k q => q.1.elim (i5 k) (fun q => .inr (Nat.le_trans f5.size q.1))), f7⟩
theorem compP_len (i wi : Int) : ∀ (k : Nat) (T : TB) (L : SL) (A : AL) (p r : Int) (T' : TB) (L' : SL) (A' : AL), compP i wi k T L A p = some (r, T', L', A') → T.ns.length ≤ T'.ns.length
  | 0, _, _, _, _, _, _, _, _, h => by simp [compP] at h
  | k + 1, T, L, A, p, r, T', L', A', h => by
    unfold compP at h
    split at h
    · simp only [Option.some.injEq, Prod.mk.injEq] at h; rw [h.2.1]; exact Nat.le_refl _
    split at h
    case isFalse => cases h
    split at h
    · simp only [Option.some.injEq, Prod.mk.injEq] at h; rw [h.2.1]; exact Nat.le_refl _
    split at h
    · simp only [Option.some.injEq, Prod.mk.injEq] at h; rw [h.2.1]; exact Nat.le_refl _
    split at h
    · obtain ⟨⟨a1, a2, a3⟩, ha, h⟩ := Option.bind_eq_some_iff.1 h
      simp only [Option.some.injEq, Prod.mk.injEq] at h
      rw [← h.2.1]
      exact iteP_len _ _ _ _ _ _ _ _ _ ha
    · obtain ⟨⟨a1, a2, a3, a4⟩, ha, h⟩ := Option.bind_eq_some_iff.1 h
      obtain ⟨⟨b1, b2, b3, b4⟩, hb, h⟩ := Option.bind_eq_some_iff.1 h
      obtain ⟨⟨c1, c2, c3⟩, hc, h⟩ := Option.bind_eq_some_iff.1 h
      simp only [Option.some.injEq, Prod.mk.injEq] at h
      dsimp only at hb hc h
      have q1 := compP_len i wi k _ _ _ _ _ _ _ _ ha
      have q2 := compP_len i wi k _ _ _ _ _ _ _ _ hb
      have q3 := iteP_len _ _ _ _ _ _ _ _ _ hc
      have q4 := nodeP_ge b2 ⟨(rd_T107 T.ns p).f0, 0, 1⟩
      rw [← h.2.1]
      omega
theorem comp_calls (gt gi ga gw gs gg t mc ma : Nat) (i wi : Int) : ∀ (k : Nat) (S : Nat → Prop) (T : TB) (L : SL) (A : AL) (p r : Int) (T' : TB) (L' : SL) (A' : AL) (w : World), Cw w S gt gi ga gw gs gg t mc ma i wi T L A → compP i wi k T L A p = some (r, T', L', A') → T'.ns.length < 1000000000000 →
    Calls Try.prog 103 #[.int .i64 p, .pointer (some ⟨gt, 0, none⟩), .pointer (some ⟨gi, 0, none⟩), .pointer (some ⟨ga, 0, none⟩), .pointer (some ⟨gw, 0, none⟩), .pointer (some ⟨gs, 0, none⟩), .pointer (some ⟨gg, 0, none⟩)] w (CPost w S gt gi ga gw gs gg t mc ma i wi r T' L' A')
  | 0, _, _, _, _, _, _, _, _, _, _, _, h, _ => by simp [compP] at h
  | k + 1, S, T, L, A, p, r, T', L', A', w, hC, h, hlen => by
    unfold compP at h
    split at h
    · rename_i h2
      simp only [Option.some.injEq, Prod.mk.injEq] at h
      obtain ⟨rfl, rfl, rfl, rfl⟩ := h
      exact comp_low gt gi ga gw gs gg t mc ma i wi T L A p w hC h2
    rename_i h2
    split at h
    case isFalse => cases h
    rename_i hl
    split at h
    · rename_i ha
      simp only [Option.some.injEq, Prod.mk.injEq] at h
      obtain ⟨rfl, rfl, rfl, rfl⟩ := h
      exact comp_far gt gi ga gw gs gg t mc ma i wi T L A p w hC (by omega) hl ha
    rename_i ha
    split at h
    · rename_i q hk
      simp only [Option.some.injEq, Prod.mk.injEq] at h
      obtain ⟨rfl, rfl, rfl, rfl⟩ := h
      exact comp_found gt gi ga gw gs gg t mc ma i wi T L A p q w hC (by omega) hl ha hk
    rename_i hk
    split at h
    · rename_i hi
      obtain ⟨⟨a1, a2, a3⟩, hq, h⟩ := Option.bind_eq_some_iff.1 h
      simp only [Option.some.injEq, Prod.mk.injEq] at h
      obtain ⟨rfl, rfl, rfl, rfl⟩ := h
      exact comp_at gt gi ga gw gs gg t mc ma i wi T a2 L a3 A p a1 _ 64 w hC (by omega) hl ha hk rfl hi hq hlen
    · rename_i hi
      obtain ⟨⟨a1, a2, a3, a4⟩, h1, h⟩ := Option.bind_eq_some_iff.1 h
      obtain ⟨⟨b1, b2, b3, b4⟩, hb, h⟩ := Option.bind_eq_some_iff.1 h
      obtain ⟨⟨c1, c2, c3⟩, hc, h⟩ := Option.bind_eq_some_iff.1 h
      simp only [Option.some.injEq, Prod.mk.injEq] at h
      dsimp only at hb hc h
      obtain ⟨rfl, rfl, rfl, rfl⟩ := h
      have q2 := compP_len i wi k _ _ _ _ _ _ _ _ hb
      have q3 := iteP_len _ _ _ _ _ _ _ _ _ hc
      have q4 := nodeP_ge b2 ⟨(rd_T107 T.ns p).f0, 0, 1⟩
      exact comp_on gt gi ga gw gs gg t mc ma i wi T a2 b2 c2 L a3 b3 c3 A a4 b4 p c1 a1 b1 _ _ 64 w hC (by omega) hl ha hk rfl hi rfl hc (by omega) hlen
        (fun S1 W hW => comp_calls gt gi ga gw gs gg t mc ma i wi k S1 T L A _ a1 a2 a3 a4 W hW h1 (by omega)) (fun S1 W hW => comp_calls gt gi ga gw gs gg t mc ma i wi k S1 a2 a3 a4 _ b1 b2 b3 b4 W hW hb (by omega))
end Go.Proofs.Ytlplphgoldkoeaa.HTab
end
