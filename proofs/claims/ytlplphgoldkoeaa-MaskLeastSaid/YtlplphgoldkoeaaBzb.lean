/- Lemmas of the masks: part Bzb. -/
import Derived.Test.YtlplphgoldkoeaaBp
import Derived.Test.YtlplphgoldkoeaaBo
import Derived.Test.YtlplphgoldkoeaaBf
import Derived.Test.YtlplphgoldkoeaaBg
import Derived.Deep.DeepMust
section
set_option linter.unusedVariables false
set_option linter.unusedSimpArgs false
namespace Go.Proofs.Ytlplphgoldkoeaa.HTab
open Go.RowKit Go.Proofs.YtlplphgoldkoeaaW.PrintWords Go.Proofs.YtlplphgoldkoeaaW.PrintLast Go.Proofs.YtlplphgoldkoeaaW.PrintMore Go.Proofs.Ytlplphgoldkoeaa.HMap Go.Proofs.Ytlplphgoldkoeaa.X
set_option linter.unusedVariables false
set_option linter.unusedSimpArgs false
def bitN (P e : Nat) : Bool := P.testBit e
theorem bitN_eq (P e : Nat) : (P / 2 ^ e % 2 = 1) ↔ bitN P e = true := by
  unfold bitN
  rw [Nat.testBit_eq_decide_div_mod_eq]
  simp
def val (T : TB) (p : Int) (P : Nat) : Bool := (den T T.vars.toNat p).getD (P % 2 ^ T.vars.toNat) false
theorem Ext.val {T T' : TB} (h : Ext T T') (hw : WF T) {p : Int} (hp : Pl T p) (P : Nat) : HTab.val T' p P = HTab.val T p P := by
  unfold HTab.val
  have h0 := hw.vars
  rw [h.1, h.den hw T.vars.toNat p (by omega) hp (by have := hw.asks_nonneg hp; omega)]
theorem IsIte.val {T : TB} {f g h r : Int} (i : IsIte T f g h r) (hw : WF T) (P : Nat) : HTab.val T r P = if HTab.val T f P = true then HTab.val T g P else HTab.val T h P := by
  have h0 := hw.vars
  have hm := i.den T.vars.toNat (by omega) (by rw [le_min3]; have := hw.asks_nonneg i.pf; have := hw.asks_nonneg i.pg; have := hw.asks_nonneg i.ph; omega)
  unfold HTab.val
  rw [hm, iteL_get _ _ _ _ (by rw [den_length]; exact Nat.mod_lt _ (Nat.two_pow_pos _)) (by rw [den_length, den_length]) (by rw [den_length, den_length])]
end Go.Proofs.Ytlplphgoldkoeaa.HTab
end

section
set_option linter.unusedVariables false
set_option linter.unusedSimpArgs false
namespace Go.Proofs.Ytlplphgoldkoeaa.HTab
open Go.RowKit Go.Proofs.YtlplphgoldkoeaaW.PrintWords Go.Proofs.YtlplphgoldkoeaaW.PrintLast Go.Proofs.YtlplphgoldkoeaaW.PrintMore Go.Proofs.Ytlplphgoldkoeaa.HMap Go.Proofs.Ytlplphgoldkoeaa.X
open Go.ChangeMaps (setBlock)
set_option linter.unusedVariables false
set_option linter.unusedSimpArgs false
abbrev AL := List (Int × Int)
def fnC (gt gi ga gw gs gg : Nat) : Value := .func (.func 103) #[] #[.pointer (some ⟨gt, 0, none⟩), .pointer (some ⟨gi, 0, none⟩), .pointer (some ⟨ga, 0, none⟩), .pointer (some ⟨gw, 0, none⟩), .pointer (some ⟨gs, 0, none⟩), .pointer (some ⟨gg, 0, none⟩)]
structure Cw (w : World) (S : Nat → Prop) (gt gi ga gw gs gg t mc ma : Nat) (i wi : Int) (T : TB) (L : SL) (A : AL) : Prop where
  kt : w.heap[gt]? = some (.cells #[.pointer (some ⟨t, 0, none⟩)] 109 (0, 0))
  ki : w.heap[gi]? = some (.cells #[.int .i64 i] 3 (0, 0))
  ka : w.heap[ga]? = some (.cells #[.map (some ma)] 122 (0, 0))
  kw : w.heap[gw]? = some (.cells #[.int .i64 wi] 3 (0, 0))
  ks : w.heap[gs]? = some (.cells #[.map (some mc)] 121 (0, 0))
  kg : w.heap[gg]? = some (.cells #[fnC gt gi ga gw gs gg] 123 (0, 0))
  it : It w S t T mc L
  am : MapIs (Value.int .i64) (Value.int .i64) w ma A
  nS : ¬ S gt ∧ ¬ S gi ∧ ¬ S ga ∧ ¬ S gw ∧ ¬ S gs ∧ ¬ S gg ∧ ¬ S ma
  ne : ma ≠ mc
theorem map_off {α β : Type} {enc : α → Value} {encv : β → Value} {w : World} {b t : Nat} {M : List (α × β)} {cs : Array Value} {ty : TypeId} {fr : Nat × Nat} (h : MapIs enc encv w b M) (h2 : w.heap[t]? = some (.cells cs ty fr)) : t ≠ b := by
  obtain ⟨es, clk, h, _⟩ := h
  exact fun e => map_ne_cells h h2 e.symm
section
variable {w w' w0 : World} {S S' : Nat → Prop} {gt gi ga gw gs gg t mc ma : Nat} {i wi : Int} {T T' : TB} {L L' : SL} {A A' : AL}
theorem Cw.below (h : Cw w S gt gi ga gw gs gg t mc ma i wi T L A) (hb : Below w.heap.size w w') : Cw w' S gt gi ga gw gs gg t mc ma i wi T L A :=
  ⟨blk_below h.kt hb, blk_below h.ki hb, blk_below h.ka hb, blk_below h.kw hb, blk_below h.ks hb, blk_below h.kg hb, h.it.below hb, h.am.move (hb.block ma h.am.lt), h.nS, h.ne⟩
theorem Cw.bound (h : Cw w S gt gi ga gw gs gg t mc ma i wi T L A) : Cw w (fun k => S k ∧ k < w.heap.size) gt gi ga gw gs gg t mc ma i wi T L A :=
  ⟨h.kt, h.ki, h.ka, h.kw, h.ks, h.kg, h.it.bound, h.am, ⟨fun q => h.nS.1 q.1, fun q => h.nS.2.1 q.1, fun q => h.nS.2.2.1 q.1, fun q => h.nS.2.2.2.1 q.1, fun q => h.nS.2.2.2.2.1 q.1, fun q => h.nS.2.2.2.2.2.1 q.1, fun q => h.nS.2.2.2.2.2.2 q.1⟩, h.ne⟩
theorem Cw.step (h : Cw w S gt gi ga gw gs gg t mc ma i wi T L A) (hF : Fr (fun k => S k ∨ k = mc) w w') (hI : It w' S' t T' mc L') (hs : ∀ k, S' k → S k ∨ w.heap.size ≤ k) : Cw w' S' gt gi ga gw gs gg t mc ma i wi T' L' A := by
  have n1 := map_off h.it.map h.kt
  have n2 := map_off h.it.map h.ki
  have n3 := map_off h.it.map h.ka
  have n4 := map_off h.it.map h.kw
  have n5 := map_off h.it.map h.ks
  have n6 := map_off h.it.map h.kg
  obtain ⟨m1, m2, m3, m4, m5, m6, m7⟩ := h.nS
  have bl : ∀ {g : Nat} {o : Obj}, w.heap[g]? = some o → ¬ S g → g ≠ mc → w'.heap[g]? = some o := fun hk a b => (hF.block _ (blk_lt hk) (fun q => q.elim a b)).trans hk
  have nn : ∀ {g : Nat} {o : Obj}, w.heap[g]? = some o → ¬ S g → ¬ S' g := fun hk a q => (hs _ q).elim a (fun q => by have := blk_lt hk; omega)
  refine ⟨bl h.kt m1 n1, bl h.ki m2 n2, bl h.ka m3 n3, bl h.kw m4 n4, bl h.ks m5 n5, bl h.kg m6 n6, hI, h.am.move (hF.block ma h.am.lt (fun q => q.elim m7 h.ne)), ⟨nn h.kt m1, nn h.ki m2, nn h.ka m3, nn h.kw m4, nn h.ks m5, nn h.kg m6, fun q => (hs _ q).elim m7 (fun q => by have := h.am.lt; omega)⟩, h.ne⟩
theorem Cw.node (h : Cw w S gt gi ga gw gs gg t mc ma i wi T L A) (hT : Tab w' (fun k => S k ∨ w.heap.size ≤ k) t T') (hF : Fr S w w') : Cw w' (fun k => S k ∨ w.heap.size ≤ k) gt gi ga gw gs gg t mc ma i wi T' L A :=
  h.step (hF.mono (fun k q => .inl q)) ⟨hT, h.it.map.move (hF.block mc h.it.map.lt h.it.off), fun q => q.elim h.it.off (fun q => by have := h.it.map.lt; omega)⟩ (fun k q => q)
theorem Cw.fin (h0 : Cw w0 S gt gi ga gw gs gg t mc ma i wi T L A) (h : Cw w S' gt gi ga gw gs gg t mc ma i wi T' L' A') (hs : ∀ k, S' k → S k ∨ w0.heap.size ≤ k) : Cw w (fun k => (S k ∨ w0.heap.size ≤ k) ∧ k < w.heap.size) gt gi ga gw gs gg t mc ma i wi T' L' A' := by
  have nn : ∀ {g : Nat} {o : Obj}, w0.heap[g]? = some o → ¬ S g → ¬ ((S g ∨ w0.heap.size ≤ g) ∧ g < w.heap.size) := fun hk a q => q.1.elim a (fun q => by have := blk_lt hk; omega)
  obtain ⟨m1, m2, m3, m4, m5, m6, m7⟩ := h0.nS
  exact ⟨h.kt, h.ki, h.ka, h.kw, h.ks, h.kg, ⟨h.it.tab.bound.mono (fun k hk => ⟨hs k hk.1, hk.2⟩), h.it.map, fun q => q.1.elim h0.it.off (fun q => by have := h0.it.map.lt; omega)⟩, h.am, ⟨nn h0.kt m1, nn h0.ki m2, nn h0.ka m3, nn h0.kw m4, nn h0.ks m5, nn h0.kg m6, fun q => q.1.elim m7 (fun q => by have := h0.am.lt; omega)⟩, h.ne⟩
end
def tb_Compose1_1.T : Bool × List (List Nat × List Nat) := (true, [([], []), ([0], [0]), ([1], [1]), ([2], [2]), ([2], [2]), ([3, 4, 2, 2], [2, 3, 4]), ([2], [2]), ([5, 6, 2], [2, 5, 6]), ([2, 7], [2, 7])])
def tb_Compose1_1.B : List Nat := [0, 1, 3, 7, 7, 31, 7, 127, 255]
theorem tb_Compose1_1.tab : rtab .any (opsOf Try.f103 1) = tb_Compose1_1.T := by kernel_rfl
theorem tb_Compose1_1.bits : waitsOk tb_Compose1_1.T.2 tb_Compose1_1.B = true := by kernel_rfl
def tb_Compose1_10.T : Bool × List (List Nat × List Nat) := (true, [([], []), ([], []), ([1], [1]), ([0, 2], [0, 2]), ([], []), ([], []), ([5], [5]), ([4, 6, 3], [4, 6]), ([3, 7, 0, 1, 2, 3], [3]), ([7, 8, 0, 1, 2, 3, 4, 5, 6, 7, 8], [7])])
def tb_Compose1_10.B : List Nat := [0, 0, 2, 7, 0, 0, 32, 127, 255, 511]
theorem tb_Compose1_10.tab : rtab .any (opsOf Try.f103 10) = tb_Compose1_10.T := by kernel_rfl
theorem tb_Compose1_10.bits : waitsOk tb_Compose1_10.T.2 tb_Compose1_10.B = true := by kernel_rfl
def tb_Compose1_11.T : Bool × List (List Nat × List Nat) := (true, [([], []), ([], []), ([], []), ([2], [2]), ([3], [3]), ([1, 4], [1, 4]), ([], []), ([], []), ([], []), ([0, 5, 6, 7, 8, 5], [0, 5, 6, 7, 8]), ([9, 9, 0, 1, 2, 3, 4, 5, 6, 7, 8, 9], [9])])
def tb_Compose1_11.B : List Nat := [0, 0, 0, 4, 12, 30, 0, 0, 0, 511, 1023]
theorem tb_Compose1_11.tab : rtab .any (opsOf Try.f103 11) = tb_Compose1_11.T := by kernel_rfl
theorem tb_Compose1_11.bits : waitsOk tb_Compose1_11.T.2 tb_Compose1_11.B = true := by kernel_rfl
end Go.Proofs.Ytlplphgoldkoeaa.HTab
end
