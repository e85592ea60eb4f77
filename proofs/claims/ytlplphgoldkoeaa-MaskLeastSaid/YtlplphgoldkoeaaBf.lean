/- Lemmas of the masks: part Bf. -/
import Derived.Test.YtlplphgoldkoeaaBd
import Derived.Test.YtlplphgoldkoeaaBe
import Derived.Laws.EntriesVeiled
section
set_option linter.unusedVariables false
set_option linter.unusedSimpArgs false
namespace Go.Proofs.Ytlplphgoldkoeaa.HTab
open Go.RowKit Go.Proofs.YtlplphgoldkoeaaW.PrintWords Go.Proofs.YtlplphgoldkoeaaW.PrintLast Go.Proofs.YtlplphgoldkoeaaW.PrintMore Go.Proofs.Ytlplphgoldkoeaa.HMap Go.Proofs.Ytlplphgoldkoeaa.X
open Go.ChangeMaps (setBlock)
set_option linter.unusedVariables false
set_option linter.unusedSimpArgs false
theorem keyI : MKey Try.prog 3 (Value.int .i64) where
  check w em x := Go.MapKept.run_checkKey Try.underlying3 (show Go.MapKept.IsKey (.int .i64) (.int .i64 x) from rfl) em 9999
  und := ⟨_, Try.underlying3, .inr fun x y => by
    show (if IntKind.i64 = IntKind.i64 then some (x == y) else none) = _
    rw [if_pos rfl]
    congr 1⟩
  eq w x y := by
    show (Op.equalIn (9999 + 1) 3 _ _).run Try.prog w = _
    rw [run_equalIn_int w 9999 3 .i64 .i64 x y Try.underlying3]
    congr 1
  same x := by simp [Instr.sameBits]
structure MS where
  M : List (Int × Int)
  out : List S107
def maskP (T : TB) : Nat → MS → Int → Option (Int × MS)
  | 0, _, _ => none
  | k + 1, s, p => match HMap.look s.M p with
    | some q => some (q, s)
    | none => if 0 ≤ p ∧ p < T.ns.length then
        (maskP T k s (rd_T107 T.ns p).f1).bind fun a => (maskP T k a.2 (rd_T107 T.ns p).f2).bind fun b =>
          some ((b.2.out.length : Int) + 2, ⟨HMap.upd b.2.M p ((b.2.out.length : Int) + 2), b.2.out ++ [⟨(rd_T107 T.ns p).f0, a.1, b.1⟩]⟩)
      else none
def fnM (ga gt gv go : Nat) : Value := .func (.func 129) #[] #[.pointer (some ⟨ga, 0, none⟩), .pointer (some ⟨gt, 0, none⟩), .pointer (some ⟨gv, 0, none⟩), .pointer (some ⟨go, 0, none⟩)]
def Mk (w : World) (S : Nat → Prop) (ga gt gv go t : Nat) (T : TB) (s : MS) : Prop :=
  ∃ mb vN, w.heap[ga]? = some (.cells #[.map (some mb)] 122 (0, 0)) ∧ w.heap[gt]? = some (.cells #[.pointer (some ⟨t, 0, none⟩)] 109 (0, 0)) ∧
    w.heap[gv]? = some (.cells #[fnM ga gt gv go] 123 (0, 0)) ∧ w.heap[go]? = some (.cells #[.int .i64 T.vars, vN, .int .i64 0] 28 (0, 0)) ∧
    S mb ∧ S go ∧ ¬ S ga ∧ ¬ S gt ∧ ¬ S gv ∧ MapIs (Value.int .i64) (Value.int .i64) w mb s.M ∧ k107.R 107 w 0 S vN s.out ∧ ∃ S2, Tab w S2 t T ∧ ∀ k, S2 k → ¬ S k
set_option maxRecDepth 100000 in
set_option maxHeartbeats 4000000 in
theorem mask_found {S : Nat → Prop} (ga gt gv go t : Nat) (T : TB) (s : MS) (p q : Int) (w : World) (h : Mk w S ga gt gv go t T s) (hl : HMap.look s.M p = some q) :
    Calls Try.prog 129 #[.int .i64 p, .pointer (some ⟨ga, 0, none⟩), .pointer (some ⟨gt, 0, none⟩), .pointer (some ⟨gv, 0, none⟩), .pointer (some ⟨go, 0, none⟩)] w fun e w' => e = .returned (.int .i64 q) ∧ w = w' := by
  obtain ⟨mb, vN, h1, h2, h3, h4, h5, h6, h7, h8, h9, hM, hR, S2, hT, hS⟩ := h
  have c1 := (blk_cell h1 0).trans rfl
  have hrun : (Instr.lookup 122 (.map (some mb)) (.int .i64 p) true).run Try.prog w = .ok (.tuple #[.int .i64 q, .bool true]) w := by
    have := run_lookup keyI Try.underlying122 hM p true (zero3 _)
    simpa [hl] using this
  clear h1 h2 h3 h4 h5 h6 h7 h8 h9 hM hR hT hS hl
  go_enter Try.func129, Try.ntmps129
  go_wp2
  go_ret
  exact ⟨rfl, rfl⟩
theorem Mk.bound {w : World} {S : Nat → Prop} {ga gt gv go t : Nat} {T : TB} {s : MS} (h : Mk w S ga gt gv go t T s) : Mk w (fun k => S k ∧ k < w.heap.size) ga gt gv go t T s := by
  obtain ⟨mb, vN, h1, h2, h3, h4, h5, h6, h7, h8, h9, hM, hR, S2, hT, hS⟩ := h
  exact ⟨mb, vN, h1, h2, h3, h4, ⟨h5, hM.lt⟩, ⟨h6, blk_lt h4⟩, fun h => h7 h.1, fun h => h8 h.1, fun h => h9 h.1, hM, Kd.R_mono (Kd.R_bound hR) (fun k hk => ⟨hk.1, hk.2.2.1⟩), S2, hT, fun k hk h => hS k hk h.1⟩
theorem Mk.below {w w1 : World} {S : Nat → Prop} {ga gt gv go t : Nat} {T : TB} {s : MS} (h : Mk w S ga gt gv go t T s) (hb : Below w.heap.size w w1) : Mk w1 S ga gt gv go t T s := by
  obtain ⟨mb, vN, h1, h2, h3, h4, h5, h6, h7, h8, h9, hM, hR, S2, hT, hS⟩ := h
  exact ⟨mb, vN, blk_below h1 hb, blk_below h2 hb, blk_below h3 hb, blk_below h4 hb, h5, h6, h7, h8, h9, hM.move (hb.block _ hM.lt), Kd.R_below hR hb, S2, hT.below hb, hS⟩
theorem Mk.grow {w w0 : World} {S S' : Nat → Prop} {ga gt gv go t : Nat} {T : TB} {s s' : MS} (h : Mk w S' ga gt gv go t T s) (h0 : Mk w0 S ga gt gv go t T s') (hf : Fr S w0 w) (hs : ∀ k, S' k → (S k ∨ w0.heap.size ≤ k) ∧ k < w.heap.size) : Mk w (fun k => (S k ∨ w0.heap.size ≤ k) ∧ k < w.heap.size) ga gt gv go t T s := by
  obtain ⟨mb0, vN0, i1, i2, i3, i4, i5, i6, i7, i8, i9, iM, iR, S20, iT, iS⟩ := h0
  obtain ⟨mb, vN, h1, h2, h3, h4, h5, h6, h7, h8, h9, hM, hR, S2, hT, hS⟩ := h
  have hlt : ∀ {k : Nat} {o : Obj}, w0.heap[k]? = some o → ¬ w0.heap.size ≤ k := fun hk => by have := blk_lt hk; omega
  refine ⟨mb, vN, h1, h2, h3, h4, hs _ h5, hs _ h6, fun h => h.1.elim i7 (hlt i1), fun h => h.1.elim i8 (hlt i2), fun h => h.1.elim i9 (hlt i3), hM, Kd.R_mono hR hs, fun k => S20 k ∧ k < w0.heap.size, (iT.bound.fr hf (fun k hk => iS k hk.1)), fun k hk h => h.1.elim (iS k hk.1) (fun h => by have := hk.2; omega)⟩
def MPost (w : World) (S : Nat → Prop) (ga gt gv go t : Nat) (T : TB) (r : Int) (s : MS) (e : Ending) (w' : World) : Prop :=
  e = .returned (.int .i64 r) ∧ Mk w' (fun k => (S k ∨ w.heap.size ≤ k) ∧ k < w'.heap.size) ga gt gv go t T s ∧ Fr S w w'
set_option maxRecDepth 100000 in
set_option maxHeartbeats 4000000 in
theorem mask_new {S : Nat → Prop} (ga gt gv go t : Nat) (T : TB) (s s1 s2 : MS) (p r1 r2 : Int) (w : World) (h : Mk w S ga gt gv go t T s) (hl : HMap.look s.M p = none) (hp : 0 ≤ p ∧ p < T.ns.length) (hlen : s2.out.length + 1 < 1000000000000)
    (C1 : ∀ (S : Nat → Prop) (W : World), Mk W S ga gt gv go t T s → Calls Try.prog 129 #[.int .i64 (rd_T107 T.ns p).f1, .pointer (some ⟨ga, 0, none⟩), .pointer (some ⟨gt, 0, none⟩), .pointer (some ⟨gv, 0, none⟩), .pointer (some ⟨go, 0, none⟩)] W (MPost W S ga gt gv go t T r1 s1))
    (C2 : ∀ (S' : Nat → Prop) (W : World), Mk W S' ga gt gv go t T s1 → Calls Try.prog 129 #[.int .i64 (rd_T107 T.ns p).f2, .pointer (some ⟨ga, 0, none⟩), .pointer (some ⟨gt, 0, none⟩), .pointer (some ⟨gv, 0, none⟩), .pointer (some ⟨go, 0, none⟩)] W (MPost W S' ga gt gv go t T r2 s2)) :
    Calls Try.prog 129 #[.int .i64 p, .pointer (some ⟨ga, 0, none⟩), .pointer (some ⟨gt, 0, none⟩), .pointer (some ⟨gv, 0, none⟩), .pointer (some ⟨go, 0, none⟩)] w
      (MPost w S ga gt gv go t T ((s2.out.length : Int) + 2) ⟨HMap.upd s2.M p ((s2.out.length : Int) + 2), s2.out ++ [⟨(rd_T107 T.ns p).f0, r1, r2⟩]⟩) := by
  have HK := Aside0.mk h
  obtain ⟨mb, vN, h1, h2, h3, h4, h5, h6, h7, h8, h9, hM, hR, S2, hT, hS⟩ := h
  have c1 := (blk_cell h1 0).trans rfl
  have c2 := (blk_cell h2 0).trans rfl
  have c3 : w.cell? ⟨gv, 0, none⟩ = some (.func (.func 129) #[] #[.pointer (some ⟨ga, 0, none⟩), .pointer (some ⟨gt, 0, none⟩), .pointer (some ⟨gv, 0, none⟩), .pointer (some ⟨go, 0, none⟩)]) := (blk_cell h3 0).trans rfl
  obtain ⟨A, c, mbt, ct0, ct1, ct2, hC⟩ := hT.cells
  obtain ⟨n, hn⟩ : ∃ n, n = rd_T107 T.ns p := ⟨_, rfl⟩
  obtain ⟨ad, rfl, x0, x1, x2⟩ := at_T107 hC p hp.1 hp.2
  rw [← hn] at x0 x1 x2 C1 C2 ⊢
  have hrun : (Instr.lookup 122 (.map (some mb)) (.int .i64 p) true).run Try.prog w = .ok (.tuple #[.int .i64 0, .bool false]) w := by
    have := run_lookup keyI Try.underlying122 hM p true (zero3 _)
    simpa [hl] using this
  have hp0 := hp.1
  have hp1 := hp.2
  obtain ⟨w1, hw1⟩ : ∃ w1, w1 = w.alloc (Obj.cells #[.int .i64 n.f0, .int .i64 n.f1, .int .i64 n.f2] 107) := ⟨_, rfl⟩
  have hbel : Below w.heap.size w w1 := by rw [hw1]; exact below_alloc (Below.refl _ _) _
  have hbx : w1.heap[w.heap.size]? = some (.cells #[.int .i64 n.f0, .int .i64 n.f1, .int .i64 n.f2] 107 (0, 0)) := by rw [hw1]; exact blk_new _ _
  have c3x : ∀ o : Obj, (w.alloc o).cell? ⟨gv, 0, none⟩ = some (.func (.func 129) #[] #[.pointer (some ⟨ga, 0, none⟩), .pointer (some ⟨gt, 0, none⟩), .pointer (some ⟨gv, 0, none⟩), .pointer (some ⟨go, 0, none⟩)]) := fun o => pw_cell_below (below_alloc (Below.refl _ _) o) c3
  have HC1 := Aside0.mk (C1 _ w1 (HK.out.bound.below hbel))
  have HC2 := Aside0.mk C2
  have HBX := Aside0.mk hbx
  have HBL := Aside0.mk hbel
  clear h1 h2 h3 h4 h5 h6 h7 h8 h9 hM hR hT hS hl hp hn hC C1 C2 ct0 ct2 hbel hbx
  go_enter Try.func129, Try.ntmps129
  go_wp2_with fail
  rw [← hw1]
  clear hw1
  refine HC1.out.mono ?_
  intro e w3 hv
  obtain ⟨rfl, hK3, hF3⟩ := hv
  have hb3 : w3.heap[w.heap.size]? = _ := (hF3.block _ (blk_lt HBX.out) (fun h => Nat.lt_irrefl _ h.2)).trans HBX.out
  have b1 := (blk_cell hb3 1).trans rfl
  have b2 := (blk_cell hb3 2).trans rfl
  have hk3 := hK3
  obtain ⟨mb3, vN3, g1, g2, g3, g4, g5, g6, g7, g8, g9, gM, gR, S3, gT, gS⟩ := hk3
  have d3 : w3.cell? ⟨gv, 0, none⟩ = some (.func (.func 129) #[] #[.pointer (some ⟨ga, 0, none⟩), .pointer (some ⟨gt, 0, none⟩), .pointer (some ⟨gv, 0, none⟩), .pointer (some ⟨go, 0, none⟩)]) := (blk_cell g3 0).trans rfl
  have HB3 := Aside0.mk hb3
  have HF3 := Aside0.mk hF3
  replace HC2 := Aside0.mk (HC2.out _ w3 hK3)
  clear g1 g2 g3 g4 g5 g6 g7 g8 g9 gM gR gT gS hK3 hF3 hb3
  go_wp2_with fail
  refine HC2.out.mono ?_
  intro e w4 hv
  obtain ⟨rfl, hK4, hF4⟩ := hv
  have hF3' : Fr S w w3 := (Fr.of_below HBL.out).then_ HF3.out (fun i h => .inl h.1)
  have hF4' : Fr S w w4 := hF3'.then_ hF4 (fun i h => h.1.imp And.left (Nat.le_trans HBL.out.size))
  have hK4' := hK4.grow HK.out hF4' (fun k hk => ⟨hk.1.elim (fun h => h.1.imp And.left (Nat.le_trans HBL.out.size)) (fun h => .inr (Nat.le_trans hF3'.size h)), hk.2⟩)
  have hb4 : w4.heap[w.heap.size]? = _ := (hF4.block _ (blk_lt HB3.out) (fun h => h.1.elim (fun h => Nat.lt_irrefl _ h.2) (fun h => by have := blk_lt HBX.out; omega))).trans HB3.out
  have b0 := (blk_cell hb4 0).trans rfl
  have hk4 := hK4'
  obtain ⟨mb4, vN4, g1, g2, g3, g4, g5, g6, g7, g8, g9, gM, gR, S4, gT, gS⟩ := hk4
  obtain ⟨A4, c4, rfl, hc4, _⟩ := Kd.R_reads gR
  have e0 := (blk_cell g4 1).trans rfl
  have e1 := (blk_cell g1 0).trans rfl
  have G1 := Aside0.mk g1
  have G4 := Aside0.mk g4
  have GR := Aside0.mk (Kd.R_mono gR (fun k hk => hk.1))
  have GM := Aside0.mk gM
  have HF4 := Aside0.mk hF4'
  have HK4 := Aside0.mk hK4'
  have HAL : Aside0 ((s2.out.length + 1) * 24 ≤ 140737488355328) := ⟨by omega⟩
  have hne := Aside0.mk (map_ne_own gM gR)
  have hmg : Aside0 (mb4 ≠ go) := ⟨by obtain ⟨es, clk, h, _⟩ := gM; exact map_ne_cells h g4⟩
  have hga : Aside0 (ga ≠ go ∧ ga ≠ mb4) := ⟨fun e => g7 (e ▸ g6), fun e => g7 (e ▸ g5)⟩
  have G2 := Aside0.mk g2
  have G3 := Aside0.mk g3
  have G56 := Aside0.mk (And.intro g5 g6)
  have G789 := Aside0.mk (And.intro g7 (And.intro g8 g9))
  have GT := Aside0.mk gT
  have GS := Aside0.mk gS
  have hgo : Aside0 ((S go ∨ w.heap.size ≤ go) ∧ (S mb4 ∨ w.heap.size ≤ mb4)) := ⟨g6.1, g5.1⟩
  clear g1 g2 g3 g4 g5 g6 g7 g8 g9 gM gR gT gS hK4 hK4' hF4 hF4' hF3' hb4 HC2 HC1 HB3 HF3 b1 b2 d3
  go_wp2_with (first | (at_builtin; refine Kd.R_append k107 (w0 := w4) (W := w4) 0 rfl (.tmp 36) (.tmp 42) 26 107 _ 24 rfl Try.underlying26 info107 rfl (by decide) (by decide) (.slice A4 s2.out.length c4) s2.out ⟨n.f0, r1, r2⟩ [.int .i64 n.f0, .int .i64 r1, .int .i64 r2] (fun k => S k ∨ w.heap.size ≤ k) (fun _ => False) rfl rfl (k107_mkM _ _ _ ⟨n.f0, r1, r2⟩) (fun k hk => hk.elim) (fun k hk => .inr (Nat.le_trans HF4.out.size hk)) GR.out (Below.refl 0 _) (Nat.zero_le _) HAL.out ?_; intro v5 w5 hR5 hB5 hg5 hat5; obtain ⟨A5, c5, rfl, hc5, hC5'⟩ := Kd.R_reads hR5; have hb5 := blk_grown G4.out hg5 (Kd.R_ne GR.out G4.out (by decide)); have f5 := blk_frozen hb5 1; have d5 := (blk_cell hb5 1).trans rfl; have ha5 := blk_grown G1.out hg5 (Kd.R_ne GR.out G1.out (by decide)); have hM5 := GM.out.move (hg5.block mb4 GM.out.lt hne.out); have HB5 := Aside0.mk hb5; have HA5 := Aside0.mk ha5; have HM5 := Aside0.mk hM5; have ha6 := blk_far (p := ⟨go, 1, none⟩) ha5 hga.out.1 (.slice A5 (s2.out.length + 1) c5); have i6 := (blk_cell ha6 0).trans rfl; have hb6 : (w5.setCell ⟨go, 1, none⟩ (.slice A5 (s2.out.length + 1) c5)).heap[go]? = some (.cells #[.int .i64 T.vars, .slice A5 (s2.out.length + 1) c5, .int .i64 0] 28 (0, 0)) := (by simpa using blk_set hb5 1 (.slice A5 (s2.out.length + 1) c5)); have j6 := (blk_cell hb6 1).trans rfl; have HB6 := Aside0.mk hb6; have HA6 := Aside0.mk ha6; clear hb5 ha5 hM5 hb6 ha6) | (at_mapUpdate; refine wpList_upd _ rfl _ _ _ _ rfl keyI Try.underlying122 (HM5.out.move (Below.heap_setCell _ ⟨go, 1, none⟩ _ _ hmg.out)) p _ rfl rfl rfl ?_; intro o7 hM7; have i7 : (setBlock (w5.setCell ⟨go, 1, none⟩ (.slice A5 (s2.out.length + 1) c5)) mb4 o7).cell? ⟨ga, 0, none⟩ = some (.map (some mb4)) := (blk_cell ((setBlock_other _ mb4 o7 ga hga.out.2).trans HA6.out) 0).trans rfl; have hl7 := run_lookup keyI Try.underlying122 hM7 p false (zero3 _); rw [look_upd_same] at hl7; simp only [Option.map_some, Option.getD_some, if_false] at hl7; have HM7 := Aside0.mk hM7; clear hM7))
  go_ret
  have hl5 : (s2.out ++ [(⟨n.f0, r1, r2⟩ : S107)]).length = s2.out.length + 1 := by simp
  rw [hl5] at hR5
  have hv7 : ((s2.out.length : Int) + 1 + 1) = (s2.out.length : Int) + 2 := by omega
  have K5 : Fr (fun k => (S k ∨ w.heap.size ≤ k) ∧ k < w4.heap.size) w4 w5 := Fr.of_grown hg5 (fun k hk => ⟨GR.out.1 k hk, ((Kd.R_bound GR.out).1 k hk).2.2.1⟩)
  have K6 := K5.then_ (S2 := fun k => (S k ∨ w.heap.size ≤ k) ∧ k < w4.heap.size) (Fr.setCell _ w5 ⟨go, 1, none⟩ (.slice A5 (s2.out.length + 1) c5) G56.out.2) (fun i h => .inl h)
  have K7 := K6.then_ (S2 := fun k => (S k ∨ w.heap.size ≤ k) ∧ k < w4.heap.size) (Fr.setBlock _ _ mb4 o7 G56.out.1) (fun i h => .inl h)
  have F7 : Fr S w _ := HF4.out.then_ K7 (fun i h => h.1)
  have R6 := Kd.R_set hR5 HB5.out (by decide) 1 (.slice A5 (s2.out.length + 1) c5)
  have R7 := R_setMap (HM5.out.move (Below.heap_setCell _ ⟨go, 1, none⟩ (.slice A5 (s2.out.length + 1) c5) _ hmg.out)) R6 o7
  have hM7 := HM7.out
  have up : ∀ {k : Nat}, k < w4.heap.size → k < (setBlock (w5.setCell ⟨go, 1, none⟩ (.slice A5 (s2.out.length + 1) c5)) mb4 o7).heap.size := fun h => Nat.lt_of_lt_of_le h K7.size
  refine ⟨by first | rfl | (rw [← hv7]; rfl), ?_, F7⟩
  refine ⟨mb4, _, (setBlock_other _ mb4 o7 ga hga.out.2).trans HA6.out, (K7.block _ (blk_lt G2.out) G789.out.2.1).trans G2.out, (K7.block _ (blk_lt G3.out) G789.out.2.2).trans G3.out, (setBlock_other _ mb4 o7 go hmg.out.symm).trans HB6.out, ⟨G56.out.1.1, up G56.out.1.2⟩, ⟨G56.out.2.1, up G56.out.2.2⟩, ?_, ?_, ?_, ?_, Kd.R_mono (Kd.R_bound R7) (fun k hk => ⟨hk.1, hk.2.2.1⟩), fun k => S4 k ∧ k < w4.heap.size, (GT.out.bound.fr K7 (fun k hk => GS.out k hk.1)), fun k hk h => GS.out k hk.1 ⟨h.1, hk.2⟩⟩
  · exact fun h => G789.out.1 ⟨h.1, blk_lt G1.out⟩
  · exact fun h => G789.out.2.1 ⟨h.1, blk_lt G2.out⟩
  · exact fun h => G789.out.2.2 ⟨h.1, blk_lt G3.out⟩
  · first | exact hM7 | (rw [← hv7]; exact hM7)
theorem maskP_mono (T : TB) : ∀ (k : Nat) (s s' : MS) (p r : Int), maskP T k s p = some (r, s') → s.out.length ≤ s'.out.length
  | 0, _, _, _, _, h => by simp [maskP] at h
  | k + 1, s, s', p, r, h => by
    unfold maskP at h
    split at h
    · simp only [Option.some.injEq, Prod.mk.injEq] at h
      rw [← h.2]; exact Nat.le_refl _
    · split at h
      · obtain ⟨⟨a1, a2⟩, ha, h⟩ := Option.bind_eq_some_iff.1 h
        obtain ⟨⟨b1, b2⟩, hb, h⟩ := Option.bind_eq_some_iff.1 h
        have h1 := maskP_mono T k _ _ _ _ ha
        have h2 := maskP_mono T k _ _ _ _ hb
        simp only [Option.some.injEq, Prod.mk.injEq] at h
        rw [← h.2]
        simp only at h1 h2
        simp; omega
      · cases h
theorem tmask1_calls (ga gt gv go t : Nat) (T : TB) : ∀ (k : Nat) (S : Nat → Prop) (s s' : MS) (p r : Int) (w : World), Mk w S ga gt gv go t T s → s'.out.length < 1000000000000 → maskP T k s p = some (r, s') →
    Calls Try.prog 129 #[.int .i64 p, .pointer (some ⟨ga, 0, none⟩), .pointer (some ⟨gt, 0, none⟩), .pointer (some ⟨gv, 0, none⟩), .pointer (some ⟨go, 0, none⟩)] w (MPost w S ga gt gv go t T r s')
  | 0, _, _, _, _, _, _, _, _, h => by simp [maskP] at h
  | k + 1, S, s, s', p, r, w, hK, hlen, h => by
    have IH := tmask1_calls ga gt gv go t T k
    unfold maskP at h
    split at h
    · rename_i q hl
      simp only [Option.some.injEq, Prod.mk.injEq] at h
      obtain ⟨rfl, rfl⟩ := h
      refine (mask_found ga gt gv go t T s p q w hK hl).mono ?_
      rintro e w' ⟨rfl, rfl⟩
      exact ⟨rfl, hK.bound.grow hK (Fr.refl S w) (fun k hk => ⟨.inl hk.1, hk.2⟩), Fr.refl S w⟩
    · rename_i hl
      split at h
      · rename_i hp
        obtain ⟨⟨a1, a2⟩, ha, h⟩ := Option.bind_eq_some_iff.1 h
        obtain ⟨⟨b1, b2⟩, hb, h⟩ := Option.bind_eq_some_iff.1 h
        simp only [Option.some.injEq, Prod.mk.injEq] at h
        obtain ⟨rfl, rfl⟩ := h
        have h2 := maskP_mono T k _ _ _ _ hb
        simp only [List.length_append, List.length_singleton] at hlen
        simp only at h2
        exact mask_new ga gt gv go t T s a2 b2 p a1 b1 w hK hl hp hlen
          (fun S W hW => IH S s a2 _ a1 W hW (by omega) ha) (fun S W hW => IH S a2 b2 _ b1 W hW (by omega) hb)
      · cases h
end Go.Proofs.Ytlplphgoldkoeaa.HTab
end

section
set_option linter.unusedVariables false
set_option linter.unusedSimpArgs false
namespace Go.Proofs.Ytlplphgoldkoeaa.HTab
open Go.RowKit Go.Proofs.YtlplphgoldkoeaaW.PrintWords Go.Proofs.YtlplphgoldkoeaaW.PrintLast Go.Proofs.YtlplphgoldkoeaaW.PrintMore Go.Proofs.Ytlplphgoldkoeaa.HMap Go.Proofs.Ytlplphgoldkoeaa.X
open Go.ChangeMaps (setBlock)
set_option linter.unusedVariables false
set_option linter.unusedSimpArgs false
theorem below5 (w W : World) (h : Below w.heap.size w W) (o o1 o2 : Obj) {b : Nat} (hb : w.heap.size ≤ b) : Below w.heap.size w (setBlock (setBlock (W.alloc o) b o1) b o2) := by
  have h1 : Below w.heap.size w (W.alloc o) := below_alloc h o
  exact ⟨h1.os, h1.tape, h1.output, by rw [setBlock_size, setBlock_size]; exact h1.size, fun i hi => (setBlock_other _ _ _ _ (by omega)).trans ((setBlock_other _ _ _ _ (by omega)).trans (h1.block i hi))⟩
theorem blk5 {W : World} {g : Nat} {c : Obj} {o1 o2 : Obj} (h : W.heap[g]? = some c) (o : Obj) (b : Nat) (hb : g ≠ b) : (setBlock (setBlock (W.alloc o) b o1) b o2).heap[g]? = some c :=
  (setBlock_other _ _ _ _ hb).trans ((setBlock_other _ _ _ _ hb).trans (blk_alloc h o))
set_option maxRecDepth 100000 in
set_option maxHeartbeats 4000000 in
theorem tmask_calls {S : Nat → Prop} (t : Nat) (T : TB) (k : Nat) (s' : MS) (root r : Int) (w : World) (hT : Tab w S t T) (hlen : s'.out.length < 1000000000000) (h : maskP T k ⟨[(0, 0), (1, 1)], []⟩ root = some (r, s')) :
    Calls Try.prog 90 #[.pointer (some ⟨t, 0, none⟩), .int .i64 root] w fun e w' => ∃ v : Value, e = .returned (.agg #[.int .i64 T.vars, v, .int .i64 r]) ∧ k107.R 107 w' w.heap.size (fun _ => True) v s'.out ∧ Below w.heap.size w w' := by
  obtain ⟨A, c, mbt, ct0, ct1, ct2, hC⟩ := hT.cells
  have HT := Aside0.mk hT
  have HP := Aside0.mk h
  have ct0y : ∀ o o' : Obj, ((w.alloc o).alloc o').cell? ⟨t, 0, none⟩ = some (.int .i64 T.vars) := fun o o' => pw_cell_below (below_alloc (below_alloc (Below.refl _ _) o) o') ct0
  have hmm := @run_makeMap Try.prog
  obtain ⟨W3, hW3⟩ : ∃ W, W = ((w.alloc (.cells #[.pointer (some ⟨t, 0, none⟩)] 109)).alloc (.cells #[.int .i64 0, .slice none 0 0, .int .i64 0] 28)).alloc (.cells #[.int .i64 T.vars, .slice none 0 0, .int .i64 0] 28) := ⟨_, rfl⟩
  have hB3 : Below w.heap.size w W3 := by rw [hW3]; exact below_alloc (below_alloc (below_alloc (Below.refl _ _) _) _) _
  have hs3 : W3.heap.size = w.heap.size + 3 := by rw [hW3]; simp
  have k0 : W3.heap[w.heap.size]? = some (.cells #[.pointer (some ⟨t, 0, none⟩)] 109 (0, 0)) := by rw [hW3]; exact blk_alloc (blk_alloc (blk_new _ _) _) _
  have k1 : W3.heap[w.heap.size + 1]? = some (.cells #[.int .i64 0, .slice none 0 0, .int .i64 0] 28 (0, 0)) := by
    rw [hW3]; refine blk_alloc ?_ _
    simpa using blk_new (w.alloc (.cells #[.pointer (some ⟨t, 0, none⟩)] 109)) (.cells #[.int .i64 0, .slice none 0 0, .int .i64 0] 28)
  have k2 : W3.heap[w.heap.size + 2]? = some (.cells #[.int .i64 T.vars, .slice none 0 0, .int .i64 0] 28 (0, 0)) := by
    rw [hW3]
    simpa using blk_new ((w.alloc (.cells #[.pointer (some ⟨t, 0, none⟩)] 109)).alloc (.cells #[.int .i64 0, .slice none 0 0, .int .i64 0] 28)) (.cells #[.int .i64 T.vars, .slice none 0 0, .int .i64 0] 28)
  have hM0 : MapIs (Value.int .i64) (Value.int .i64) (W3.alloc (.map #[] 0)) (w.heap.size + 3) ([] : List (Int × Int)) := by
    have := MapIs.made (Value.int .i64) (Value.int .i64) W3
    rwa [hs3] at this
  have HW3 := Aside0.mk hW3
  have HM0 := Aside0.mk hM0
  have HB3 := Aside0.mk hB3
  have K0 := Aside0.mk k0
  have K1 := Aside0.mk k1
  have K2 := Aside0.mk k2
  have HS3 := Aside0.mk hs3
  clear hT h ct1 ct2 hC hW3 hM0 hB3 hs3 k0 k1 k2
  go_enter Try.func90, Try.ntmps90
  go_wp2_with (first | (refine wpList_ins _ rfl _ _ _ _ rfl keyI Try.underlying122 (b := w.heap.size + 3) (HW3.out ▸ HM0.out) 0 0 rfl rfl rfl ?_; intro o1 hM1; have HM1 := Aside0.mk hM1; clear hM1 HM0) | (refine wpList_ins _ rfl _ _ _ _ rfl keyI Try.underlying122 HM1.out 1 1 rfl rfl rfl ?_; intro o2 hM2; clear HM1; have hB5 : Below w.heap.size w (setBlock (setBlock ((((w.alloc (.cells #[.pointer (some ⟨t, 0, none⟩)] 109)).alloc (.cells #[.int .i64 0, .slice none 0 0, .int .i64 0] 28)).alloc (.cells #[.int .i64 T.vars, .slice none 0 0, .int .i64 0] 28)).alloc (.map #[] 0)) (w.heap.size + 3) o1) (w.heap.size + 3) o2) := below5 w _ (HW3.out ▸ HB3.out) _ _ _ (by omega); have hs5 : (setBlock (setBlock ((((w.alloc (.cells #[.pointer (some ⟨t, 0, none⟩)] 109)).alloc (.cells #[.int .i64 0, .slice none 0 0, .int .i64 0] 28)).alloc (.cells #[.int .i64 T.vars, .slice none 0 0, .int .i64 0] 28)).alloc (.map #[] 0)) (w.heap.size + 3) o1) (w.heap.size + 3) o2).heap.size = w.heap.size + 4 := (by simp [setBlock_size]); have j0 := blk5 (o1 := o1) (o2 := o2) (HW3.out ▸ K0.out) (.map #[] 0) (w.heap.size + 3) (by omega); have j1 := blk5 (o1 := o1) (o2 := o2) (HW3.out ▸ K1.out) (.map #[] 0) (w.heap.size + 3) (by omega); have j2 := blk5 (o1 := o1) (o2 := o2) (HW3.out ▸ K2.out) (.map #[] 0) (w.heap.size + 3) (by omega); generalize setBlock (setBlock ((((w.alloc (.cells #[.pointer (some ⟨t, 0, none⟩)] 109)).alloc (.cells #[.int .i64 0, .slice none 0 0, .int .i64 0] 28)).alloc (.cells #[.int .i64 T.vars, .slice none 0 0, .int .i64 0] 28)).alloc (.map #[] 0)) (w.heap.size + 3) o1) (w.heap.size + 3) o2 = W5 at hM2 hB5 hs5 j0 j1 j2 ⊢; have HM2 := Aside0.mk hM2; have HB5 := Aside0.mk hB5; have HJ0 := Aside0.mk j0; have HJ1 := Aside0.mk j1; have HJ2 := Aside0.mk j2; clear hM2 hB5 j0 j1 j2) | fail)
  have hB7 : Below w.heap.size w ((W5.alloc (.cells #[.map (some (w.heap.size + 3))] 122)).alloc (.cells #[fnM (w.heap.size + 4) w.heap.size (w.heap.size + 5) (w.heap.size + 2)] 123)) := below_alloc (below_alloc HB5.out _) _
  have hK : Mk ((W5.alloc (.cells #[.map (some (w.heap.size + 3))] 122)).alloc (.cells #[fnM (w.heap.size + 4) w.heap.size (w.heap.size + 5) (w.heap.size + 2)] 123)) (fun i => i = w.heap.size + 2 ∨ i = w.heap.size + 3) (w.heap.size + 4) w.heap.size (w.heap.size + 5) (w.heap.size + 2) t T ⟨[(0, 0), (1, 1)], []⟩ := by
    refine ⟨w.heap.size + 3, .slice none 0 0, ?_, blk_alloc (blk_alloc HJ0.out _) _, ?_, blk_alloc (blk_alloc HJ2.out _) _, .inr rfl, .inl rfl, by omega, by omega, by omega, ?_, Kd.R_nil _ _ _ _ _, fun i => S i ∧ i < w.heap.size, HT.out.bound.below hB7, fun i hi h => by omega⟩
    · have := blk_new W5 (.cells #[.map (some (w.heap.size + 3))] 122)
      rw [hs5] at this
      exact blk_alloc this _
    · have := blk_new (W5.alloc (.cells #[.map (some (w.heap.size + 3))] 122)) (.cells #[fnM (w.heap.size + 4) w.heap.size (w.heap.size + 5) (w.heap.size + 2)] 123)
      have hs6 : (W5.alloc (.cells #[.map (some (w.heap.size + 3))] 122)).heap.size = w.heap.size + 5 := by simp [hs5]
      rw [hs6] at this
      exact this
    · exact HM2.out.move ((Below.heap_alloc _ _ _ (by simp [hs5])).trans (Below.heap_alloc _ _ _ (by omega)))
  refine (tmask1_calls (w.heap.size + 4) w.heap.size (w.heap.size + 5) (w.heap.size + 2) t T k (fun i => i = w.heap.size + 2 ∨ i = w.heap.size + 3) ⟨[(0, 0), (1, 1)], []⟩ s' root r ((W5.alloc (.cells #[.map (some (w.heap.size + 3))] 122)).alloc (.cells #[fnM (w.heap.size + 4) w.heap.size (w.heap.size + 5) (w.heap.size + 2)] 123)) hK hlen HP.out).mono ?_
  intro e w8 hv
  obtain ⟨rfl, ⟨mb, vN, g1, g2, g3, g4, g5, g6, g7, g8, g9, gM, gR, S4, gT, gS⟩, hF8⟩ := hv
  have r8 : w8.heap[w.heap.size + 1]? = some (.cells #[.int .i64 0, .slice none 0 0, .int .i64 0] 28 (0, 0)) := (hF8.block _ (by simp [hs5]) (by omega)).trans (blk_alloc (blk_alloc HJ1.out _) _)
  obtain ⟨A8, c8, rfl, hc8, _⟩ := Kd.R_reads gR
  have b0 := (blk_cell g4 0).trans rfl
  have b1 := (blk_cell g4 1).trans rfl
  have b2 := (blk_cell g4 2).trans rfl
  have q0 := (blk_cell r8 0).trans rfl
  have q1 := (blk_cell r8 1).trans rfl
  have q2 := (blk_cell r8 2).trans rfl
  have fb2 := blk_frozen g4 2
  have fq0 := blk_frozen r8 0
  have fq1 := blk_frozen r8 1
  have fq2 := blk_frozen r8 2
  have hF8' : Below w.heap.size w w8 := ⟨hF8.os.trans hB7.os, hF8.tape.trans hB7.tape, hF8.output.trans hB7.output, Nat.le_trans hB7.size hF8.size, fun i hi => (hF8.block i (Nat.lt_of_lt_of_le hi hB7.size) (by omega)).trans (hB7.block i hi)⟩
  have GR := Aside0.mk (R_raise (base := w.heap.size) (fun w ok ok' x cs hm => by rw [k107_openM hm]; exact k107_mkM _ _ _ _) gR (fun k hk => hk.1.elim (fun h => by omega) (fun h => Nat.le_trans hB7.size h)))
  have G4 := Aside0.mk g4
  have R8 := Aside0.mk r8
  have HF8 := Aside0.mk hF8'
  have hu := Try.underlying28
  clear g1 g2 g3 g4 g5 g6 g7 g8 g9 gM gR gT gS hK hB7 hF8 hF8' r8
  go_wp2
  have N0 := Kd.R_types (Kd.R_types GR.out G4.out (by decide)) R8.out (by decide)
  have N1 := Kd.R_far (p := ⟨w.heap.size + 1 + 1, 2, none⟩) N0 (fun _ hk => hk.1.2) (.int .i64 r)
  have N2 := Kd.R_far (p := ⟨w.heap.size + 1, 0, none⟩) N1 (fun _ hk => hk.2) (.int .i64 T.vars)
  have N3 := Kd.R_far (p := ⟨w.heap.size + 1, 1, none⟩) N2 (fun _ hk => hk.2) (.slice A8 s'.out.length c8)
  have N4 := Kd.R_far (p := ⟨w.heap.size + 1, 2, none⟩) N3 (fun _ hk => hk.2) (.int .i64 r)
  have r9 := blk_far (p := ⟨w.heap.size + 1 + 1, 2, none⟩) R8.out (by simp) (.int .i64 r)
  have hb4 : ((((w8.setCell ⟨w.heap.size + 1 + 1, 2, none⟩ (.int .i64 r)).setCell ⟨w.heap.size + 1, 0, none⟩ (.int .i64 T.vars)).setCell ⟨w.heap.size + 1, 1, none⟩ (.slice A8 s'.out.length c8)).setCell ⟨w.heap.size + 1, 2, none⟩ (.int .i64 r)).heap[w.heap.size + 1]? = some (.cells #[.int .i64 T.vars, .slice A8 s'.out.length c8, .int .i64 r] 28 (0, 0)) :=
    blk_put (cs := #[.int .i64 T.vars, .slice A8 s'.out.length c8, .int .i64 0]) (blk_put (cs := #[.int .i64 T.vars, .slice none 0 0, .int .i64 0]) (blk_put (cs := #[.int .i64 0, .slice none 0 0, .int .i64 0]) r9 0 _ rfl) 1 _ rfl) 2 _ rfl
  refine bodyPost_ret (results_cell_row rfl _ _ (w.heap.size + 1) 28 #[.int .i64 T.vars, .slice A8 s'.out.length c8, .int .i64 r] (0, 0) _ rfl hb4 Try.underlying28 rfl (by kernel_rfl)) rfl ?_
  refine ⟨_, rfl, Kd.R_mono N4 (fun _ _ => trivial), ?_⟩
  exact below_set (below_set (below_set (below_set HF8.out (by show w.heap.size ≤ w.heap.size + 1 + 1; omega)) (Nat.le_succ _)) (Nat.le_succ _)) (Nat.le_succ _)
end Go.Proofs.Ytlplphgoldkoeaa.HTab
end
