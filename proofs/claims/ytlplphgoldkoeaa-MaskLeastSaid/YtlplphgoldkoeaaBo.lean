/- Lemmas of the masks: part Bo. -/
import Derived.Test.YtlplphgoldkoeaaBd
import Derived.Test.YtlplphgoldkoeaaBc
import Derived.Test.YtlplphgoldkoeaaBm
import Derived.Test.YtlplphgoldkoeaaBg
section
set_option linter.unusedVariables false
set_option linter.unusedSimpArgs false
namespace Go.Proofs.Ytlplphgoldkoeaa.HTab
open Go.RowKit Go.Proofs.YtlplphgoldkoeaaW.PrintWords Go.Proofs.YtlplphgoldkoeaaW.PrintLast Go.Proofs.YtlplphgoldkoeaaW.PrintMore Go.Proofs.Ytlplphgoldkoeaa.HMap Go.Proofs.Ytlplphgoldkoeaa.X
open Go.ChangeMaps (setBlock)
attribute [local go_sem] max2_int min2_int max_two min_two max_three min_three max_four min_four   -- for this text's walks alone
set_option linter.unusedVariables false
set_option linter.unusedSimpArgs false
theorem keyC : MKey Try.prog 158 encN where
  check w em x := by
    show (Instr.checkKey em (9998 + 1 + 1) 158 (encN x)).run Try.prog w = _
    unfold encN Instr.checkKey
    simp only [Sem.run_bind, run_underlying Try.underlying158, Result.andThen_ok]
    have h3 : ∀ v : Int, (Instr.checkKey em 9999 3 (.int .i64 v)).run Try.prog w = .ok () w := fun v => Go.MapKept.run_checkKey Try.underlying3 (show Go.MapKept.IsKey (.int .i64) (.int .i64 v) from rfl) em 9998
    rw [← Array.forIn_toList]
    have p0 : (part 3 #[Value.int IntKind.i64 x.f0, Value.int IntKind.i64 x.f1, Value.int IntKind.i64 x.f2] 0).run Try.prog w = .ok (.int .i64 x.f0) w := by go_simp
    have p1 : (part 3 #[Value.int IntKind.i64 x.f0, Value.int IntKind.i64 x.f1, Value.int IntKind.i64 x.f2] 1).run Try.prog w = .ok (.int .i64 x.f1) w := by go_simp
    have p2 : (part 3 #[Value.int IntKind.i64 x.f0, Value.int IntKind.i64 x.f1, Value.int IntKind.i64 x.f2] 2).run Try.prog w = .ok (.int .i64 x.f2) w := by go_simp
    simp [p0, p1, p2, h3]
  und := ⟨_, Try.underlying158, .inl fun x y => by rfl⟩
  eq w x y := by
    unfold encN
    rw [eqN]
    show (Op.equalIn (9998 + 2) 158 _ _).run Try.prog w = _
    refine eqA_of Try.underlying158 (by kernel_rfl) ?_
    refine eqf_cons (by rfl) (by go_simp; rfl) (by go_simp; rfl) (by go_simp) ?_
    refine eqf_cons (by rfl) (by go_simp; rfl) (by go_simp; rfl) (by go_simp) ?_
    exact eqf_last (by rfl) (by go_simp; rfl) (by go_simp; rfl) (by go_simp)
  same x := by
    unfold encN
    simp [Instr.sameBits]
def min3 (a b c : Int) : Int := if c < (if b < a then b else a) then c else (if b < a then b else a)
def okI (T : TB) (f g h v : Int) : Prop := (f < 2 ∨ f < (T.ns.length : Int)) ∧ (g < 2 ∨ g < (T.ns.length : Int)) ∧ (h < 2 ∨ h < (T.ns.length : Int)) ∧ v < T.vars
instance (T : TB) (f g h v : Int) : Decidable (okI T f g h v) := by unfold okI; exact inferInstance
abbrev SL := List (S107 × Int)
def iteP : Nat → TB → SL → Int → Int → Int → Option (Int × TB × SL)
  | 0, _, _, _, _, _ => none
  | k + 1, T, L, f, g, h =>
    if f = 1 ∨ g = h then some (g, T, L) else
    if f = 0 then some (h, T, L) else
    match HMap.look L ⟨f, g, h⟩ with
    | some p => some (p, T, L)
    | none => if okI T f g h (min3 (asksP T f) (asksP T g) (asksP T h)) then
        (iteP k T L (sideP T f (min3 (asksP T f) (asksP T g) (asksP T h)) false) (sideP T g (min3 (asksP T f) (asksP T g) (asksP T h)) false) (sideP T h (min3 (asksP T f) (asksP T g) (asksP T h)) false)).bind fun a =>
        if okI a.2.1 f g h (min3 (asksP T f) (asksP T g) (asksP T h)) then
          (iteP k a.2.1 a.2.2 (sideP a.2.1 f (min3 (asksP T f) (asksP T g) (asksP T h)) true) (sideP a.2.1 g (min3 (asksP T f) (asksP T g) (asksP T h)) true) (sideP a.2.1 h (min3 (asksP T f) (asksP T g) (asksP T h)) true)).bind fun b =>
          some ((nodeP b.2.1 ⟨min3 (asksP T f) (asksP T g) (asksP T h), a.1, b.1⟩).1, (nodeP b.2.1 ⟨min3 (asksP T f) (asksP T g) (asksP T h), a.1, b.1⟩).2, HMap.upd b.2.2 ⟨f, g, h⟩ (nodeP b.2.1 ⟨min3 (asksP T f) (asksP T g) (asksP T h), a.1, b.1⟩).1)
        else none
      else none
structure It (w : World) (S : Nat → Prop) (t : Nat) (T : TB) (mc : Nat) (L : SL) : Prop where
  tab : Tab w S t T
  map : MapIs encN (Value.int .i64) w mc L
  off : ¬ S mc
theorem It.bound {w : World} {S : Nat → Prop} {t : Nat} {T : TB} {mc : Nat} {L : SL} (h : It w S t T mc L) : It w (fun k => S k ∧ k < w.heap.size) t T mc L := ⟨h.tab.bound, h.map, fun k => h.off k.1⟩
theorem It.below {w w1 : World} {S : Nat → Prop} {t : Nat} {T : TB} {mc : Nat} {L : SL} (h : It w S t T mc L) (hb : Below w.heap.size w w1) : It w1 S t T mc L := ⟨h.tab.below hb, h.map.move (hb.block mc h.map.lt), h.off⟩
def IPost (w : World) (S : Nat → Prop) (t mc : Nat) (r : Int) (T : TB) (L : SL) (e : Ending) (w' : World) : Prop :=
  e = .returned (.int .i64 r) ∧ It w' (fun k => (S k ∨ (w.heap.size ≤ k ∧ k ≠ mc)) ∧ k < w'.heap.size) t T mc L ∧ Fr (fun k => S k ∨ k = mc) w w'
set_option maxRecDepth 100000 in
set_option maxHeartbeats 4000000 in
theorem ite_leaf {S : Nat → Prop} (t mc : Nat) (T : TB) (L : SL) (f g h r : Int) (w : World) (hI : It w S t T mc L) (hr : (f = 1 ∨ g = h) ∧ r = g ∨ (¬ (f = 1 ∨ g = h) ∧ f = 0 ∧ r = h)) :
    Calls Try.prog 101 #[.pointer (some ⟨t, 0, none⟩), .int .i64 f, .int .i64 g, .int .i64 h, .map (some mc)] w (IPost w S t mc r T L) := by
  have H := Aside0.mk (show It w (fun k => (S k ∨ (w.heap.size ≤ k ∧ k ≠ mc)) ∧ k < w.heap.size) t T mc L from ⟨(hI.tab.bound).mono (fun k hk => ⟨.inl hk.1, hk.2⟩), hI.map, fun k => k.1.elim hI.off (fun q => q.2 rfl)⟩)
  by_cases h1 : f = 1
  · obtain rfl : r = g := by omega
    subst h1
    clear hr
    go_enter Try.func101, Try.ntmps101
    go_wp2
    go_ret
    exact ⟨rfl, H.out, Fr.refl _ _⟩
  have e1 : (f == 1) = false := by simpa using h1
  by_cases h2 : g = h
  · obtain rfl : r = g := by omega
    have e2 : (r == h) = true := by simpa using h2
    clear hr h2
    go_enter Try.func101, Try.ntmps101
    go_wp2
    go_ret
    exact ⟨rfl, H.out, Fr.refl _ _⟩
  · have e2 : (g == h) = false := by simpa using h2
    have h3 : f = 0 := by omega
    obtain rfl : r = h := by omega
    subst h3
    clear hr
    go_enter Try.func101, Try.ntmps101
    go_wp2
    go_ret
    exact ⟨rfl, H.out, Fr.refl _ _⟩
set_option maxRecDepth 100000 in
set_option maxHeartbeats 4000000 in
theorem ite_found {S : Nat → Prop} (t mc : Nat) (T : TB) (L : SL) (f g h r : Int) (w : World) (hI : It w S t T mc L) (h1 : f ≠ 1) (h2 : g ≠ h) (h3 : f ≠ 0) (hl : HMap.look L ⟨f, g, h⟩ = some r) :
    Calls Try.prog 101 #[.pointer (some ⟨t, 0, none⟩), .int .i64 f, .int .i64 g, .int .i64 h, .map (some mc)] w (IPost w S t mc r T L) := by
  have e1 : (f == 1) = false := by simpa using h1
  have e2 : (g == h) = false := by simpa using h2
  have e3 : (f == 0) = false := by simpa using h3
  have hb : Below w.heap.size w (w.alloc (.cells #[.int .i64 f, .int .i64 g, .int .i64 h] 158)) := below_alloc (Below.refl _ _) _
  have hM1 : MapIs encN (Value.int .i64) (w.alloc (.cells #[.int .i64 f, .int .i64 g, .int .i64 h] 158)) mc L := hI.map.move (hb.block mc hI.map.lt)
  have hrun : (Instr.lookup 121 (.map (some mc)) (.agg #[.int .i64 f, .int .i64 g, .int .i64 h]) true).run Try.prog (w.alloc (.cells #[.int .i64 f, .int .i64 g, .int .i64 h] 158)) = .ok (.tuple #[.int .i64 r, .bool true]) (w.alloc (.cells #[.int .i64 f, .int .i64 g, .int .i64 h] 158)) := by
    have := run_lookup keyC Try.underlying121 hM1 ⟨f, g, h⟩ true (zero3 _)
    simpa [hl, encN] using this
  have HI := Aside0.mk hI
  have HB := Aside0.mk hb
  clear hI hM1 hl h1 h2 h3 hb
  go_enter Try.func101, Try.ntmps101
  go_wp2
  go_ret
  refine ⟨rfl, ⟨((HI.out.tab.bound).below HB.out).mono (fun k hk => ⟨.inl hk.1, Nat.lt_of_lt_of_le hk.2 HB.out.size⟩), HI.out.map.move (HB.out.block mc HI.out.map.lt), fun k => k.1.elim HI.out.off (fun q => q.2 rfl)⟩, Fr.of_below HB.out⟩
set_option maxRecDepth 100000 in
set_option maxHeartbeats 8000000 in
theorem ite_new {S : Nat → Prop} (t mc : Nat) (T T1 T2 : TB) (L L1 L2 : SL) (f g h v r1 r2 : Int) (w : World) (hI : It w S t T mc L) (h1 : f ≠ 1) (h2 : g ≠ h) (h3 : f ≠ 0) (hl : HMap.look L ⟨f, g, h⟩ = none)
    (hv : v = min3 (asksP T f) (asksP T g) (asksP T h)) (ok0 : okI T f g h v) (ok1 : okI T1 f g h v) (hlen : T2.ns.length < 1000000000000)
    (IH1 : ∀ (S1 : Nat → Prop) (W : World), It W S1 t T mc L → Calls Try.prog 101 #[.pointer (some ⟨t, 0, none⟩), .int .i64 (sideP T f v false), .int .i64 (sideP T g v false), .int .i64 (sideP T h v false), .map (some mc)] W (IPost W S1 t mc r1 T1 L1))
    (IH2 : ∀ (S1 : Nat → Prop) (W : World), It W S1 t T1 mc L1 → Calls Try.prog 101 #[.pointer (some ⟨t, 0, none⟩), .int .i64 (sideP T1 f v true), .int .i64 (sideP T1 g v true), .int .i64 (sideP T1 h v true), .map (some mc)] W (IPost W S1 t mc r2 T2 L2)) :
    Calls Try.prog 101 #[.pointer (some ⟨t, 0, none⟩), .int .i64 f, .int .i64 g, .int .i64 h, .map (some mc)] w (IPost w S t mc (nodeP T2 ⟨v, r1, r2⟩).1 (nodeP T2 ⟨v, r1, r2⟩).2 (HMap.upd L2 ⟨f, g, h⟩ (nodeP T2 ⟨v, r1, r2⟩).1)) := by
  have e1 : (f == 1) = false := by simpa using h1
  have e2 : (g == h) = false := by simpa using h2
  have e3 : (f == 0) = false := by simpa using h3
  have hmc := hI.map.lt
  have OFF := Aside0.mk hI.off
  obtain ⟨np, hnp0⟩ : ∃ np, np = nodeP T2 ⟨v, r1, r2⟩ := ⟨_, rfl⟩
  rw [← hnp0]
  have hnp := Aside0.mk hnp0
  clear hnp0
  obtain ⟨W1, hW1⟩ : ∃ W, W = w.alloc (.cells #[.int .i64 f, .int .i64 g, .int .i64 h] 158) := ⟨_, rfl⟩
  have hb : Below w.heap.size w W1 := by rw [hW1]; exact below_alloc (Below.refl _ _) _
  have hK : W1.heap[w.heap.size]? = some (.cells #[.int .i64 f, .int .i64 g, .int .i64 h] 158 (0, 0)) := by rw [hW1]; exact blk_new _ _
  have hI1 := hI.bound.below hb
  have hrun : (Instr.lookup 121 (.map (some mc)) (.agg #[.int .i64 f, .int .i64 g, .int .i64 h]) true).run Try.prog (w.alloc (.cells #[.int .i64 f, .int .i64 g, .int .i64 h] 158)) = .ok (.tuple #[.int .i64 0, .bool false]) (w.alloc (.cells #[.int .i64 f, .int .i64 g, .int .i64 h] 158)) := by
    have := run_lookup keyC Try.underlying121 hI1.map ⟨f, g, h⟩ true (zero3 _)
    rw [hW1] at this
    simpa [hl, encN] using this
  have H1 := Aside0.mk hI1
  have HB := Aside0.mk hb
  have HK := Aside0.mk hK
  have HV := Aside0.mk hv
  have OK0 := Aside0.mk ok0
  have OK1 := Aside0.mk ok1
  have I1 := Aside0.mk IH1
  have I2 := Aside0.mk IH2
  obtain ⟨af, haf⟩ : ∃ a, a = asksP T f := ⟨_, rfl⟩
  obtain ⟨ag, hag⟩ : ∃ a, a = asksP T g := ⟨_, rfl⟩
  obtain ⟨ah, hah⟩ : ∃ a, a = asksP T h := ⟨_, rfl⟩
  have CA : Aside0 ((∀ W S, Tab W S t T → Calls Try.prog 104 #[.pointer (some ⟨t, 0, none⟩), .int .i64 f] W fun e w' => e = .returned (.int .i64 af) ∧ W = w') ∧ (∀ W S, Tab W S t T → Calls Try.prog 104 #[.pointer (some ⟨t, 0, none⟩), .int .i64 g] W fun e w' => e = .returned (.int .i64 ag) ∧ W = w') ∧ (∀ W S, Tab W S t T → Calls Try.prog 104 #[.pointer (some ⟨t, 0, none⟩), .int .i64 h] W fun e w' => e = .returned (.int .i64 ah) ∧ W = w')) :=
    ⟨fun W S hT => by rw [haf]; exact asks_calls t T f W hT ok0.1, fun W S hT => by rw [hag]; exact asks_calls t T g W hT ok0.2.1, fun W S hT => by rw [hah]; exact asks_calls t T h W hT ok0.2.2.1⟩
  have hvv : v = min3 af ag ah := by rw [haf, hag, hah]; exact hv
  obtain ⟨m1, hm1⟩ : ∃ m, (if ag < af then ag else af) = m := ⟨_, rfl⟩
  have hm2 : (if ah < m1 then ah else m1) = v := by rw [hvv, ← hm1]; rfl
  have CS : Aside0 (∀ W S q p b, Tab W S t q → (q = T ∨ q = T1) → (p = f ∨ p = g ∨ p = h) → Calls Try.prog 123 #[.pointer (some ⟨t, 0, none⟩), .int .i64 p, .int .i64 v, .bool b] W fun e w' => e = .returned (.int .i64 (sideP q p v b)) ∧ W = w') := ⟨fun W S q p b hT hq hp => by
    have hq2 : okI q f g h v := by
      rcases hq with h' | h' <;> rw [h']
      · exact ok0
      · exact ok1
    refine side_calls t q p v b W hT ?_ (fun _ => by have := hq2.2.2.2; omega)
    rcases hp with rfl | rfl | rfl
    · exact hq2.1
    · exact hq2.2.1
    · exact hq2.2.2.1⟩
  clear hI hI1 hl h1 h2 h3 hb hK hv ok0 ok1 IH1 IH2 hvv haf hag hah HV OK0 OK1
  go_enter Try.func101, Try.ntmps101
  go_wp2_with fail
  rw [← hW1]
  clear hW1 hrun
  refine (CA.out.1 W1 _ H1.out.tab).mono ?_
  rintro e w' ⟨rfl, rfl⟩
  go_wp2_with fail
  refine (CA.out.2.1 W1 _ H1.out.tab).mono ?_
  rintro e w' ⟨rfl, rfl⟩
  go_wp2_with fail
  refine (CA.out.2.2 W1 _ H1.out.tab).mono ?_
  rintro e w' ⟨rfl, rfl⟩
  go_wp2_with fail
  refine (CS.out W1 _ T f false H1.out.tab (.inl rfl) (.inl rfl)).mono ?_
  rintro e w' ⟨rfl, rfl⟩
  go_wp2_with fail
  refine (CS.out W1 _ T g false H1.out.tab (.inl rfl) (.inr (.inl rfl))).mono ?_
  rintro e w' ⟨rfl, rfl⟩
  go_wp2_with fail
  refine (CS.out W1 _ T h false H1.out.tab (.inl rfl) (.inr (.inr rfl))).mono ?_
  rintro e w' ⟨rfl, rfl⟩
  go_wp2_with fail
  refine (I1.out _ W1 H1.out).mono ?_
  rintro e w2 ⟨rfl, hI2, hF2⟩
  have H2 := Aside0.mk hI2
  have F2 := Aside0.mk hF2
  have hs1 := HB.out.size
  have hs1' := blk_lt HK.out
  have K2 : Aside0 (w2.heap[w.heap.size]? = some (.cells #[.int .i64 f, .int .i64 g, .int .i64 h] 158 (0, 0))) := ⟨(hF2.block _ hs1' (fun q => q.elim (fun q => Nat.lt_irrefl _ q.2) (fun q => by omega))).trans HK.out⟩
  clear hI2 hF2 CA I1
  go_wp2_with fail
  refine (CS.out w2 _ T1 f true H2.out.tab (.inr rfl) (.inl rfl)).mono ?_
  rintro e w' ⟨rfl, rfl⟩
  go_wp2_with fail
  refine (CS.out w2 _ T1 g true H2.out.tab (.inr rfl) (.inr (.inl rfl))).mono ?_
  rintro e w' ⟨rfl, rfl⟩
  go_wp2_with fail
  refine (CS.out w2 _ T1 h true H2.out.tab (.inr rfl) (.inr (.inr rfl))).mono ?_
  rintro e w' ⟨rfl, rfl⟩
  go_wp2_with fail
  refine (I2.out _ w2 H2.out).mono ?_
  rintro e w3 ⟨rfl, hI3, hF3⟩
  have H3 := Aside0.mk hI3
  have F3 := Aside0.mk hF3
  have hs2 := F2.out.size
  have K3 : Aside0 (w3.heap[w.heap.size]? = some (.cells #[.int .i64 f, .int .i64 g, .int .i64 h] 158 (0, 0))) := ⟨(hF3.block _ (blk_lt K2.out) (fun q => q.elim (fun q => q.1.elim (fun q => Nat.lt_irrefl _ q.2) (fun q => by omega)) (fun q => by omega))).trans K2.out⟩
  clear hI3 hF3 CS I2
  go_wp2_with fail
  refine (node_calls t T2 ⟨v, r1, r2⟩ w3 H3.out.tab hlen).mono ?_
  intro e w4 hp
  rw [← hnp.out] at hp
  obtain ⟨rfl, hT4, hF4⟩ := hp
  have F4 := Aside0.mk hF4
  have hs3 := F3.out.size
  have hlt3 := H3.out.map.lt
  have M4 : MapIs encN (Value.int .i64) w4 mc L2 := H3.out.map.move (hF4.block mc hlt3 H3.out.off)
  have K4 : w4.heap[w.heap.size]? = some (.cells #[.int .i64 f, .int .i64 g, .int .i64 h] 158 (0, 0)) := (hF4.block _ (blk_lt K3.out) (fun q => q.1.elim (fun q => q.1.elim (fun q => Nat.lt_irrefl _ q.2) (fun q => by omega)) (fun q => by omega))).trans K3.out
  obtain ⟨o, ho, hM5⟩ := run_mapUpdate keyC Try.underlying121 (w := w4) M4 ⟨f, g, h⟩ np.1
  unfold encN at ho
  have T4 := Aside0.mk hT4
  have M5 := Aside0.mk hM5
  have k0 := (blk_cell K4 0).trans rfl
  have k1 := (blk_cell K4 1).trans rfl
  have k2 := (blk_cell K4 2).trans rfl
  have HN4 := Aside0.mk (show w3.heap.size ≤ w4.heap.size from hF4.size)
  clear hT4 hM5 M4 hF4 K4 hnp
  go_wp2
  go_ret
  have hin : ∀ k, ((((S k ∧ k < w.heap.size) ∨ (W1.heap.size ≤ k ∧ k ≠ mc)) ∧ k < w2.heap.size) ∨ (w2.heap.size ≤ k ∧ k ≠ mc)) → S k ∨ (w.heap.size ≤ k ∧ k ≠ mc) := fun k q => by
    rcases q with ⟨q | q, _⟩ | q
    · exact .inl q.1
    · exact .inr ⟨by omega, q.2⟩
    · exact .inr ⟨by omega, q.2⟩
  refine ⟨rfl, ⟨?_, M5.out, fun q => q.1.elim OFF.out (fun q => q.2 rfl)⟩, ?_⟩
  · have h5 : Tab (setBlock w4 mc o) (fun k => (((((S k ∧ k < w.heap.size) ∨ (W1.heap.size ≤ k ∧ k ≠ mc)) ∧ k < w2.heap.size) ∨ (w2.heap.size ≤ k ∧ k ≠ mc)) ∧ k < w3.heap.size ∨ w3.heap.size ≤ k) ∧ k < w4.heap.size) t np.2 :=
      T4.out.bound.move (fun k hk hlt => setBlock_other _ _ _ _ (fun e => hk.1.elim (fun q => H3.out.off (e ▸ q)) (fun q => by omega)))
    refine h5.mono (fun k hk => ⟨?_, by rw [setBlock_size]; exact hk.2⟩)
    rcases hk.1 with q | q
    · exact hin k q.1
    · exact .inr ⟨by omega, by omega⟩
  · have f1 : Fr (fun k => S k ∨ k = mc) w W1 := Fr.of_below HB.out
    have f2 := f1.then_ F2.out (fun i q => q.elim (fun q => .inl (.inl q.1)) (fun q => .inl (.inr q)))
    have f3 := f2.then_ F3.out (fun i q => q.elim (fun q => (q.1).elim (fun q => .inl (.inl q.1)) (fun q => .inr (by omega))) (fun q => .inl (.inr q)))
    have f4 := f3.then_ F4.out (fun i q => (hin i q.1).elim (fun q => .inl (.inl q)) (fun q => .inr q.1))
    exact f4.then_ (Fr.setBlock (fun k => S k ∨ k = mc) w4 mc o (.inr rfl)) (fun i q => .inl q)
theorem nodeP_ge (T : TB) (n : S107) : T.ns.length ≤ (nodeP T n).2.ns.length := by
  unfold nodeP
  split
  · exact Nat.le_refl _
  · split
    · exact Nat.le_refl _
    · simp
theorem iteP_len : ∀ (k : Nat) (T : TB) (L : SL) (f g h r : Int) (T' : TB) (L' : SL), iteP k T L f g h = some (r, T', L') → T.ns.length ≤ T'.ns.length
  | 0, _, _, _, _, _, _, _, _, hq => by simp [iteP] at hq
  | k + 1, T, L, f, g, h, r, T', L', hq => by
    unfold iteP at hq
    split at hq
    · simp only [Option.some.injEq, Prod.mk.injEq] at hq; rw [hq.2.1]; exact Nat.le_refl _
    split at hq
    · simp only [Option.some.injEq, Prod.mk.injEq] at hq; rw [hq.2.1]; exact Nat.le_refl _
    split at hq
    · simp only [Option.some.injEq, Prod.mk.injEq] at hq; rw [hq.2.1]; exact Nat.le_refl _
    split at hq
    case isFalse => cases hq
    obtain ⟨⟨r1, T1, L1⟩, h1, hq⟩ := Option.bind_eq_some_iff.1 hq
    dsimp only at hq
    split at hq
    case isFalse => cases hq
    obtain ⟨⟨r2, T2, L2⟩, h2, hq⟩ := Option.bind_eq_some_iff.1 hq
    simp only [Option.some.injEq, Prod.mk.injEq] at hq
    have a1 := iteP_len k _ _ _ _ _ _ _ _ h1
    have a2 := iteP_len k _ _ _ _ _ _ _ _ h2
    rw [← hq.2.1]
    exact Nat.le_trans a1 (Nat.le_trans a2 (nodeP_ge _ _))
theorem ite_calls (t mc : Nat) : ∀ (k : Nat) (S : Nat → Prop) (T : TB) (L : SL) (f g h r : Int) (T' : TB) (L' : SL) (w : World), It w S t T mc L → iteP k T L f g h = some (r, T', L') → T'.ns.length < 1000000000000 →
    Calls Try.prog 101 #[.pointer (some ⟨t, 0, none⟩), .int .i64 f, .int .i64 g, .int .i64 h, .map (some mc)] w (IPost w S t mc r T' L')
  | 0, _, _, _, _, _, _, _, _, _, _, _, hq, _ => by simp [iteP] at hq
  | k + 1, S, T, L, f, g, h, r, T', L', w, hI, hq, hlen => by
    have hq0 := hq
    unfold iteP at hq
    split at hq
    · rename_i hc
      simp only [Option.some.injEq, Prod.mk.injEq] at hq
      obtain ⟨rfl, rfl, rfl⟩ := hq
      exact ite_leaf t mc T L f g h g w hI (.inl ⟨hc, rfl⟩)
    rename_i hc
    split at hq
    · rename_i hc2
      simp only [Option.some.injEq, Prod.mk.injEq] at hq
      obtain ⟨rfl, rfl, rfl⟩ := hq
      exact ite_leaf t mc T L f g h h w hI (.inr ⟨hc, hc2, rfl⟩)
    rename_i hc2
    split at hq
    · rename_i p hp
      simp only [Option.some.injEq, Prod.mk.injEq] at hq
      obtain ⟨rfl, rfl, rfl⟩ := hq
      exact ite_found t mc T L f g h p w hI (fun e => hc (.inl e)) (fun e => hc (.inr e)) hc2 hp
    rename_i hp
    split at hq
    case isFalse => cases hq
    rename_i ok0
    obtain ⟨⟨r1, T1, L1⟩, h1, hq⟩ := Option.bind_eq_some_iff.1 hq
    dsimp only at hq
    split at hq
    case isFalse => cases hq
    rename_i ok1
    obtain ⟨⟨r2, T2, L2⟩, h2, hq⟩ := Option.bind_eq_some_iff.1 hq
    simp only [Option.some.injEq, Prod.mk.injEq] at hq
    obtain ⟨rfl, rfl, rfl⟩ := hq
    have a2 := iteP_len k _ _ _ _ _ _ _ _ h2
    have a3 : T2.ns.length ≤ (nodeP T2 ⟨min3 (asksP T f) (asksP T g) (asksP T h), r1, r2⟩).2.ns.length := nodeP_ge _ _
    exact ite_new t mc T T1 T2 L L1 L2 f g h _ r1 r2 w hI (fun e => hc (.inl e)) (fun e => hc (.inr e)) hc2 hp rfl ok0 ok1 (by omega)
      (fun S1 W hW => ite_calls t mc k S1 T L _ _ _ r1 T1 L1 W hW h1 (by omega)) (fun S1 W hW => ite_calls t mc k S1 T1 L1 _ _ _ r2 T2 L2 W hW h2 (by omega))
end Go.Proofs.Ytlplphgoldkoeaa.HTab
end

section
set_option linter.unusedVariables false
set_option linter.unusedSimpArgs false
namespace Go.Proofs.Ytlplphgoldkoeaa.X
open Go.RowKit Go.Proofs.YtlplphgoldkoeaaW.PrintWords Go.Proofs.YtlplphgoldkoeaaW.PrintLast Go.Proofs.YtlplphgoldkoeaaW.PrintMore
attribute [local go_sem] max2_int min2_int max_two min_two max_three min_three max_four min_four   -- for this text's walks alone
set_option linter.unusedVariables false
set_option linter.unusedSimpArgs false
def mask_valid.l0 : Nat → List (S28) → List (S28) → Int → Int → Option (Bool)
  | 0, _, _, _, _ => none
  | k + 1, x0, x5, x6, x7 => if x7 < x6 then (if 0 ≤ x7 then (if x7 < (x5.length : Int) then ((mask_Valid.f ((rd_T28 x5 x7).f0) ((rd_T28 x5 x7).f1) ((rd_T28 x5 x7).f2)).bind fun t429 => (if t429 = true then (if 0 < (x0.length : Int) then (if ((rd_T28 x5 x7).f0) = ((rd_T28 x0 0).f0) then (mask_valid.l0 k x0 x5 x6 (wrap64 (x7 + 1))) else (some false)) else (none)) else (some false))) else (none)) else (none)) else (some true)
def mask_valid.f (k : Nat) (l0 : List (S28)) : Option (Bool) := mask_valid.l0 k l0 l0 (l0.length : Int) 0
theorem mask_valid.mono_l : ∀ k, (∀ y0 y1 y2 y3, LeO (mask_valid.l0 k y0 y1 y2 y3) (mask_valid.l0 (k + 1) y0 y1 y2 y3))
  | 0 => fun _ _ _ _ r h => by simp [mask_valid.l0] at h
  | k + 1 => by
    have ih0 := mask_valid.mono_l k
    · intro y0 y1 y2 y3
      unfold mask_valid.l0
      repeat' first
      | (with_reducible exact ih0 _ _ _ _)
      | (with_reducible exact LeO.refl _)
      | (with_reducible exact LeO.none _)
      | (with_reducible refine LeO.ite ?_ ?_)
      | (with_reducible refine LeO.bind ?_ (fun _ => ?_))
      | exact ih0 _ _ _ _
      | exact LeO.none _
      | refine LeO.ite ?_ ?_
      | refine LeO.bind ?_ (fun _ => ?_)
theorem mask_valid.mono : ∀ a0 k, LeO (mask_valid.f k a0) (mask_valid.f (k + 1) a0) := by
  intro a0 k
  have ih0 := mask_valid.mono_l k
  unfold mask_valid.f
  repeat' first
      | (with_reducible exact ih0 _ _ _ _)
      | (with_reducible exact LeO.refl _)
      | (with_reducible exact LeO.none _)
      | (with_reducible refine LeO.ite ?_ ?_)
      | (with_reducible refine LeO.bind ?_ (fun _ => ?_))
      | exact ih0 _ _ _ _
      | exact LeO.none _
      | refine LeO.ite ?_ ?_
      | refine LeO.bind ?_ (fun _ => ?_)
def mask_valid.T4 : Bool × List (List Nat × List Nat) := (true, [([], []), ([0], [0]), ([1], [1]), ([2, 1], [2]), ([3], [3]), ([4, 3], [3, 4]), ([3], [3]), ([6, 3], [3, 6]), ([7, 3], [3, 7]), ([8, 3], [3, 8]), ([5, 9, 3], [3, 5, 9]), ([3, 10], [3, 10])])
def mask_valid.B4 : List Nat := [0, 1, 3, 7, 15, 31, 15, 79, 207, 463, 1023, 2047]
theorem mask_valid.tab4 : rtab .any (opsOf Try.f100 4) = mask_valid.T4 := by kernel_rfl
theorem mask_valid.bits4 : waitsOk mask_valid.T4.2 mask_valid.B4 = true := by kernel_rfl
set_option maxHeartbeats 8000000 in
set_option maxRecDepth 100000 in
theorem mask_valid.calls (k : Nat) (A0 : Option Addr) (c0 : Nat) (l0 : List (S28)) (r : Bool) (w : World) (hr0 : Kd.C k28 w A0 l0.length l0) (hc0 : l0.length ≤ c0) (h : mask_valid.f k l0 = some r) :
    Calls Try.prog 100 #[.slice A0 l0.length c0] w fun e w' => e = .returned (.bool r) ∧ Below w.heap.size w w' := by
  have hu28 := Try.underlying28
  have HR0 := Aside0.mk hr0
  have HC0 := Aside0.mk hc0
  clear hr0 hc0
  have HB := Aside0.mk (Below.refl w.heap.size w)
  have H : (mask_valid.l0 k l0 l0 (l0.length : Int) 0) = some r := h
  clear h
  have H' := Aside0.mk H
  clear H
  go_enter Try.func100, Try.ntmps100
  go_wp2
  go_loopg [7] k (fun kq v7 w' => ∃ (x7_1 : Int), v7 = .int .i64 x7_1 ∧ Aside0 (mask_valid.l0 kq l0 l0 (l0.length : Int) x7_1 = some r) ∧ Aside0 (kq ≤ k) ∧ Aside0 (Below w.heap.size w w'))
  case atStart => exact ⟨(0), (by first | rfl | (simp; done) | (simp [*]; done)), H', ⟨Nat.le_refl _⟩, ⟨by repeat (first | (with_reducible first | exact HB.out | apply below_alloc | apply pw_below_drewN | apply below_drew1) | exact HB.out)⟩⟩
  case round =>
    clear H'
    try clear c1
    obtain ⟨x7_1, rfl, HA, HK1, HB⟩ := hrel
    cases gk with
    | zero => exact absurd HA.out (by simp [mask_valid.l0])
    | succ k1 =>
      have H := HA.out
      clear HA
      simp only [mask_valid.l0] at H
      by_cases c2 : x7_1 < (l0.length : Int)
      · rw [if_pos c2] at H
        have c2b0 : decide (x7_1 < (l0.length : Int)) = true := decide_eq_true c2
        (try (have c2b0_0 := c2b0; rw [hl427_1] at c2b0_0))
        (try (have c2b0_1 := c2b0; rw [hl430_1] at c2b0_1))
        clear c2
        by_cases c3 : 0 ≤ x7_1
        · rw [if_pos c3] at H
          have c3b0 : decide (0 ≤ x7_1) = true := decide_eq_true c3
          (try (have c3b0_0 := c3b0; rw [hl427_1] at c3b0_0))
          (try (have c3b0_1 := c3b0; rw [hl430_1] at c3b0_1))
          clear c3
          by_cases c4 : x7_1 < (l0.length : Int)
          · rw [if_pos c4] at H
            have c4b0 : decide (x7_1 < (l0.length : Int)) = true := decide_eq_true c4
            (try (have c4b0_0 := c4b0; rw [hl427_1] at c4b0_0))
            (try (have c4b0_1 := c4b0; rw [hl430_1] at c4b0_1))
            clear c4
            replace H := Option.bind_eq_some_iff.mp H
            obtain ⟨t429, A50, H⟩ := H
            replace H : (if t429 = true then (if 0 < (l0.length : Int) then (if ((rd_T28 l0 x7_1).f0) = ((rd_T28 l0 0).f0) then (mask_valid.l0 k1 l0 l0 (l0.length : Int) (wrap64 (x7_1 + 1))) else (some false)) else (none)) else (some false)) = some r := H
            have A5 := Aside0.mk A50
            clear A50
            by_cases c6 : t429 = true
            · subst c6
              have H1 : (if 0 < (l0.length : Int) then (if ((rd_T28 l0 x7_1).f0) = ((rd_T28 l0 0).f0) then (mask_valid.l0 k1 l0 l0 (l0.length : Int) (wrap64 (x7_1 + 1))) else (some false)) else (none)) = some r := by rw [if_pos rfl] at H; exact H
              clear H
              have H := H1
              clear H1
              by_cases c7 : 0 < (l0.length : Int)
              · rw [if_pos c7] at H
                have c7b0 : decide (0 < (l0.length : Int)) = true := decide_eq_true c7
                (try (have c7b0_0 := c7b0; rw [hl427_1] at c7b0_0))
                (try (have c7b0_1 := c7b0; rw [hl430_1] at c7b0_1))
                have c7b1 : decide (0 < l0.length) = true := decide_eq_true (by omega)
                clear c7
                by_cases c8 : ((rd_T28 l0 x7_1).f0) = ((rd_T28 l0 0).f0)
                · rw [if_pos c8] at H
                  have c8b0 : (((rd_T28 l0 x7_1).f0) == ((rd_T28 l0 0).f0)) = true := beq_iff_eq.mpr c8
                  have c8b1 : (((rd_T28 l0 x7_1).f0) != ((rd_T28 l0 0).f0)) = false := bne_eq_false_iff_eq.mpr c8
                  clear c8
                  have H' := Aside0.mk H
                  clear H
                  have p427 : 0 ≤ (x7_1 : Int) := of_decide_eq_true (by first | (with_reducible assumption) | assumption)
                  have q427 : x7_1 < (l0.length : Int) := of_decide_eq_true (by first | (with_reducible assumption) | assumption)
                  obtain ⟨ad427, A427_1, c427_1, e427, hx427_0, hx427_1, hx427_2, hl427_1, hi427_1⟩ := at_T28 HR0.out x7_1 p427 q427
                  cases e427
                  replace hx427_0 := (HB.out.cell (World.block_lt_of_cell? w _ hx427_0)).trans hx427_0
                  replace hx427_1 := (HB.out.cell (World.block_lt_of_cell? w _ hx427_1)).trans hx427_1
                  replace hx427_2 := (HB.out.cell (World.block_lt_of_cell? w _ hx427_2)).trans hx427_2
                  have HR427_1 := Aside0.mk hi427_1
                  have HC427_1 := Aside0.mk hl427_1
                  clear hi427_1 hl427_1
                  replace p427 := eq_true p427
                  replace q427 := eq_true q427
                  try go_wp2_with (first | ((with_reducible refine gate_dst (N := 4) rfl ?_); refine box_event ?hg (N := 4) ?hd (cs := #[.int .i64 0, .slice none 0 0, .int .i64 0]) (t := 28) ?hr ?_; (case hd => rfl); (case hg => rfl); (case hr => first | (go_simp; done) | (go_simp; rfl)); intro gb428 hg w9 hbox hb; have n0_ := Aside0.mk (below_step (by repeat (first | (with_reducible first | exact HB.out | apply below_alloc | apply pw_below_drewN | apply below_drew1) | exact HB.out)) hb); have n1_ := Aside0.mk (hbox); have n2_ := Aside0.mk ((by rw [hg]; exact (below_size (by repeat (first | (with_reducible first | exact HB.out | apply below_alloc | apply pw_below_drewN | apply below_drew1) | exact HB.out))) : w.heap.size ≤ gb428)); have n3_ := Aside0.mk ((by rw [hg]; exact (below_size (by repeat (first | (with_reducible first | exact HB.out | apply below_alloc | apply pw_below_drewN | apply below_drew1) | exact HB.out))) : w.heap.size ≤ gb428)); clear HB; have HB := n0_; have BK428 := n1_; have GW428 := n2_; have GE428 := n3_; clear n0_ n1_ n2_ n3_; clear hb hbox hg; have hcz10_0 : w9.cell? ⟨gb428, 0, none⟩ = some (.int .i64 0) := (blk_cell BK428.out 0).trans rfl; have hcz10_1 : w9.cell? ⟨gb428, 1, none⟩ = some (.slice none 0 0) := (blk_cell BK428.out 1).trans rfl; have hcz10_2 : w9.cell? ⟨gb428, 2, none⟩ = some (.int .i64 0) := (blk_cell BK428.out 2).trans rfl; have hfz10_0 := blk_frozen BK428.out 0; have hfz10_1 := blk_frozen BK428.out 1; have hfz10_2 := blk_frozen BK428.out 2))
                  have n0_ : Aside0 ((((w9.setCell ⟨gb428, 0, none⟩ (.int .i64 ((rd_T28 l0 x7_1).f0))).setCell ⟨gb428, 1, none⟩ (.slice A427_1 ((rd_T28 l0 x7_1).f1).length c427_1)).setCell ⟨gb428, 2, none⟩ (.int .i64 ((rd_T28 l0 x7_1).f2))).heap[gb428]? = some (.cells #[.int .i64 ((rd_T28 l0 x7_1).f0), .slice A427_1 ((rd_T28 l0 x7_1).f1).length c427_1, .int .i64 ((rd_T28 l0 x7_1).f2)] 28 (0, 0))) := ⟨by (with_reducible repeat (first | refine blk_drewN ?_ _ | refine blk_drew ?_ | refine blk_alloc ?_ _)); refine blk_put (cs := #[.int .i64 ((rd_T28 l0 x7_1).f0), .slice A427_1 ((rd_T28 l0 x7_1).f1).length c427_1, .int .i64 0]) ?_ 2 _ rfl; (with_reducible repeat (first | refine blk_drewN ?_ _ | refine blk_drew ?_ | refine blk_alloc ?_ _)); refine blk_put (cs := #[.int .i64 ((rd_T28 l0 x7_1).f0), .slice none 0 0, .int .i64 0]) ?_ 1 _ rfl; (with_reducible repeat (first | refine blk_drewN ?_ _ | refine blk_drew ?_ | refine blk_alloc ?_ _)); refine blk_put (cs := #[.int .i64 0, .slice none 0 0, .int .i64 0]) ?_ 0 _ rfl; (with_reducible repeat (first | refine blk_drewN ?_ _ | refine blk_drew ?_ | refine blk_alloc ?_ _)); exact BK428.out⟩
                  have n1_ : Aside0 (Below w.heap.size w (((w9.setCell ⟨gb428, 0, none⟩ (.int .i64 ((rd_T28 l0 x7_1).f0))).setCell ⟨gb428, 1, none⟩ (.slice A427_1 ((rd_T28 l0 x7_1).f1).length c427_1)).setCell ⟨gb428, 2, none⟩ (.int .i64 ((rd_T28 l0 x7_1).f2)))) := ⟨by repeat (first | (with_reducible first | exact HB.out | apply below_alloc | apply pw_below_drewN | apply below_drew1 | refine below_set ?_ GE428.out) | exact HB.out)⟩
                  (try clear BK428)
                  (try clear HB)
                  generalize (((w9.setCell ⟨gb428, 0, none⟩ (.int .i64 ((rd_T28 l0 x7_1).f0))).setCell ⟨gb428, 1, none⟩ (.slice A427_1 ((rd_T28 l0 x7_1).f1).length c427_1)).setCell ⟨gb428, 2, none⟩ (.int .i64 ((rd_T28 l0 x7_1).f2))) = w11 at n0_ n1_ ⊢
                  have BK428 := n0_
                  have HB := n1_
                  clear n0_ n1_
                  have n0_ := Aside0.mk (blk_drew BK428.out)
                  have n1_ := Aside0.mk (below_drew1 HB.out)
                  clear BK428
                  clear HB
                  have BK428 := n0_
                  have HB := n1_
                  clear n0_ n1_
                  have p430 : 0 ≤ (0 : Int) := (by omega)
                  have q430 : 0 < (l0.length : Int) := of_decide_eq_true (by first | (with_reducible assumption) | assumption)
                  obtain ⟨ad430, A430_1, c430_1, e430, hx430_0, hx430_1, hx430_2, hl430_1, hi430_1⟩ := at_T28 HR0.out 0 p430 q430
                  have hw430_2 := hx430_2
                  (try rw [show ((0 : Int)).toNat = 0 from rfl] at hw430_2)
                  (try rw [show 0 * 3 = 0 from rfl] at hw430_2)
                  (try rw [Addr.add_zero'] at hw430_2)
                  have hw430_1 := hx430_1
                  (try rw [show ((0 : Int)).toNat = 0 from rfl] at hw430_1)
                  (try rw [show 0 * 3 = 0 from rfl] at hw430_1)
                  (try rw [Addr.add_zero'] at hw430_1)
                  have hw430_0 := hx430_0
                  (try rw [show ((0 : Int)).toNat = 0 from rfl] at hw430_0)
                  (try rw [show 0 * 3 = 0 from rfl] at hw430_0)
                  (try rw [Addr.add_zero'] at hw430_0)
                  obtain rfl : ad427 = ad430 := (by injection e430)
                  have qi430 : (0 < l0.length) = True := eq_true (by omega)
                  (try rw [show ((0 : Int)).toNat = 0 from rfl] at hx430_0)
                  (try rw [show 0 * 3 = 0 from rfl] at hx430_0)
                  (try rw [Addr.add_zero'] at hx430_0)
                  (try rw [show ((0 : Int)).toNat = 0 from rfl] at hx430_1)
                  (try rw [show 0 * 3 = 0 from rfl] at hx430_1)
                  (try rw [Addr.add_zero'] at hx430_1)
                  (try rw [show ((0 : Int)).toNat = 0 from rfl] at hx430_2)
                  (try rw [show 0 * 3 = 0 from rfl] at hx430_2)
                  (try rw [Addr.add_zero'] at hx430_2)
                  replace hx430_0 := (HB.out.cell (World.block_lt_of_cell? w _ hx430_0)).trans hx430_0
                  replace hx430_1 := (HB.out.cell (World.block_lt_of_cell? w _ hx430_1)).trans hx430_1
                  replace hx430_2 := (HB.out.cell (World.block_lt_of_cell? w _ hx430_2)).trans hx430_2
                  have HR430_1 := Aside0.mk hi430_1
                  have HC430_1 := Aside0.mk hl430_1
                  clear hi430_1 hl430_1
                  replace p430 := eq_true p430
                  replace q430 := eq_true q430
                  refine start_ (n := 12) (S := fun w' => w'.cell? ⟨gb428, 0, none⟩ = some (.int .i64 ((rd_T28 l0 x7_1).f0)) ∧ w'.cell? ⟨gb428, 1, none⟩ = some (.slice A427_1 ((rd_T28 l0 x7_1).f1).length c427_1) ∧ w'.cell? ⟨gb428, 2, none⟩ = some (.int .i64 ((rd_T28 l0 x7_1).f2)) ∧ w'.cell? ad427 = some (.int .i64 ((rd_T28 l0 0).f0)) ∧ w'.cell? ⟨ad427.block, ad427.off + 1, none⟩ = some (.slice A430_1 ((rd_T28 l0 0).f1).length c430_1) ∧ w'.cell? ⟨ad427.block, ad427.off + 2, none⟩ = some (.int .i64 ((rd_T28 l0 0).f2))) (ds := []) #[false, false, false, false, false, false, false, false, false, false, false, false] (by kernel_rfl) rfl rfl ⟨(blk_cell BK428.out 0).trans rfl, (blk_cell BK428.out 1).trans rfl, (blk_cell BK428.out 2).trans rfl, ((HB.out.cell (World.block_lt_of_cell? w _ hw430_0)).trans hw430_0), ((HB.out.cell (World.block_lt_of_cell? w _ hw430_1)).trans hw430_1), ((HB.out.cell (World.block_lt_of_cell? w _ hw430_2)).trans hw430_2)⟩ (fun hHeld => ?_); refine with_tabW mask_valid.tab4 mask_valid.bits4 (fun HT_ HW_ => ?_)
                  generalize w11.drew = w12 at BK428 HB HR430_1 hx430_0 hx430_1 hx430_2 hHeld ⊢
                  refine take_ (i := 0) (N := some 11) (v := ?_) (a' := ?_) #[true, false, false, false, false, false, false, false, false, false, false, false] rfl rfl (take_ofW HT_.out HW_.out (by kernel_rfl)) (fun _ _ _ h => h) (Or.inl ⟨by rfl, ?_⟩) hHeld ?_ ?_
                  rotate_left
                  · rintro w' ⟨s0, s1, s2, s3, s4, s5⟩
                    go_simp
                    with_reducible rfl
                  rotate_left
                  · simp only [Act.put, List.setIfInBounds_toArray, List.set_cons_zero, List.set_cons_succ, i64_w, i32_w]
                    rfl
                  refine one_ (i := 1) (N := some 12) #[true, true, false, false, false, false, false, false, false, false, false, false] rfl rfl (one_of HT_.out (by kernel_rfl)) (by decide) (fun K hK => ?_)
                  refine goes_ Try.func29 (by kernel_rfl) rfl #[.agg #[.int .i64 ((rd_T28 l0 x7_1).f0), .slice A427_1 ((rd_T28 l0 x7_1).f1).length c427_1, .int .i64 ((rd_T28 l0 x7_1).f2)]] (by rfl) rfl rfl (by (try simp only [List.map_toArray, List.map_cons, List.map_nil]); first | done | rfl | (simp only [List.length_drop, List.length_take]; rfl)) ?_
                  with_reducible refine (mask_Valid.calls ((rd_T28 l0 x7_1).f0) _ _ ((rd_T28 l0 x7_1).f1) ((rd_T28 l0 x7_1).f2) true _ ?side1 ?side2 A5.out).mono ?_
                  (case side1 => repeat (first | exact (Kd.C_below HR427_1.out HB.out) | (with_reducible refine Kd.C_alloc ?_ _) | (with_reducible refine Kd.C_drewN ?_ _) | (with_reducible refine Kd.C_drew ?_)))
                  (case side2 => exact HC427_1.out)
                  rintro e w13 ⟨rfl, hb⟩
                  refine ⟨_, rfl, ?_⟩
                  have n0_ := Aside0.mk (blk_below (g := gb428) (o := .cells #[.int .i64 ((rd_T28 l0 x7_1).f0), .slice A427_1 ((rd_T28 l0 x7_1).f1).length c427_1, .int .i64 ((rd_T28 l0 x7_1).f2)] 28 (0, 0)) (by (with_reducible repeat (first | refine blk_drewN ?_ _ | refine blk_drew ?_ | refine blk_alloc ?_ _)); exact BK428.out) hb)
                  have n1_ := Aside0.mk (below_step (by repeat (first | (with_reducible first | exact HB.out | apply below_alloc | apply pw_below_drewN | apply below_drew1 | refine below_set ?_ GE428.out) | exact HB.out)) hb)
                  clear BK428
                  clear HB
                  have BK428 := n0_
                  have HB := n1_
                  clear n0_ n1_
                  (try clear hb)
                  (try clear hb2)
                  (try clear hk)
                  (try clear hi)
                  refine hK.out _ _ ⟨(blk_cell BK428.out 0).trans rfl, (blk_cell BK428.out 1).trans rfl, (blk_cell BK428.out 2).trans rfl, ((HB.out.cell (World.block_lt_of_cell? w _ hw430_0)).trans hw430_0), ((HB.out.cell (World.block_lt_of_cell? w _ hw430_1)).trans hw430_1), ((HB.out.cell (World.block_lt_of_cell? w _ hw430_2)).trans hw430_2)⟩ (fun hHeld => ?_)
                  clear hK K
                  refine norm_ (a' := ?_) ?_ ?_
                  rotate_left
                  · show Act.put _ (some 12) _ = _
                    simp only [Act.put, List.setIfInBounds_toArray, List.set_cons_zero, List.set_cons_succ, i64_w, i32_w]
                    rfl
                  refine pure_ (i := 2) (N := some 13) (v := ?_) (a' := ?_) #[true, true, true, false, false, false, false, false, false, false, false, false] rfl rfl (any_of HT_.out (by kernel_rfl)) (fun _ _ _ h => h) (Or.inl ⟨by rfl, ?_⟩) ?_ ?_
                  rotate_left
                  · intro w'
                    go_simp
                    with_reducible rfl
                  rotate_left
                  · simp only [Act.put, List.setIfInBounds_toArray, List.set_cons_zero, List.set_cons_succ, i64_w, i32_w]
                    rfl
                  refine pure_ (i := 3) (N := some 14) (v := ?_) (a' := ?_) #[true, true, true, true, false, false, false, false, false, false, false, false] rfl rfl (any_of HT_.out (by kernel_rfl)) (fun _ _ _ h => h) (Or.inl ⟨by rfl, ?_⟩) ?_ ?_
                  rotate_left
                  · intro w'
                    go_simp
                    with_reducible rfl
                  rotate_left
                  · simp only [Act.put, List.setIfInBounds_toArray, List.set_cons_zero, List.set_cons_succ, i64_w, i32_w]
                    rfl
                  refine pure_ (i := 4) (N := some 15) (v := ?_) (a' := ?_) #[true, true, true, true, true, false, false, false, false, false, false, false] rfl rfl (any_of HT_.out (by kernel_rfl)) (fun _ _ _ h => h) (Or.inl ⟨by rfl, ?_⟩) ?_ ?_
                  rotate_left
                  · intro w'
                    go_simp
                    with_reducible rfl
                  rotate_left
                  · simp only [Act.put, List.setIfInBounds_toArray, List.set_cons_zero, List.set_cons_succ, i64_w, i32_w]
                    rfl
                  refine pure_ (i := 6) (N := some 17) (v := ?_) (a' := ?_) #[true, true, true, true, true, false, true, false, false, false, false, false] rfl rfl (any_of HT_.out (by kernel_rfl)) (fun _ _ _ h => h) (Or.inl ⟨by rfl, ?_⟩) ?_ ?_
                  rotate_left
                  · intro w'
                    go_simp
                    with_reducible rfl
                  rotate_left
                  · simp only [Act.put, List.setIfInBounds_toArray, List.set_cons_zero, List.set_cons_succ, i64_w, i32_w]
                    rfl
                  refine pure_ (i := 7) (N := some 18) (v := ?_) (a' := ?_) #[true, true, true, true, true, false, true, true, false, false, false, false] rfl rfl (any_of HT_.out (by kernel_rfl)) (fun _ _ _ h => h) (Or.inl ⟨by rfl, ?_⟩) ?_ ?_
                  rotate_left
                  · intro w'
                    go_simp
                    with_reducible rfl
                  rotate_left
                  · simp only [Act.put, List.setIfInBounds_toArray, List.set_cons_zero, List.set_cons_succ, i64_w, i32_w]
                    rfl
                  refine pure_ (i := 8) (N := some 19) (v := ?_) (a' := ?_) #[true, true, true, true, true, false, true, true, true, false, false, false] rfl rfl (any_of HT_.out (by kernel_rfl)) (fun _ _ _ h => h) (Or.inl ⟨by rfl, ?_⟩) ?_ ?_
                  rotate_left
                  · intro w'
                    go_simp
                    with_reducible rfl
                  rotate_left
                  · simp only [Act.put, List.setIfInBounds_toArray, List.set_cons_zero, List.set_cons_succ, i64_w, i32_w]
                    rfl
                  refine take_ (i := 5) (N := some 16) (v := ?_) (a' := ?_) #[true, true, true, true, true, true, true, true, true, false, false, false] rfl rfl (take_ofW HT_.out HW_.out (by kernel_rfl)) (fun _ _ _ h => h) (Or.inl ⟨by rfl, ?_⟩) hHeld ?_ ?_
                  rotate_left
                  · rintro w' ⟨s0, s1, s2, s3, s4, s5⟩
                    go_simp
                    with_reducible rfl
                  rotate_left
                  · simp only [Act.put, List.setIfInBounds_toArray, List.set_cons_zero, List.set_cons_succ, i64_w, i32_w]
                    rfl
                  refine take_ (i := 9) (N := some 20) (v := ?_) (a' := ?_) #[true, true, true, true, true, true, true, true, true, true, false, false] rfl rfl (take_ofW HT_.out HW_.out (by kernel_rfl)) (fun _ _ _ h => h) (Or.inl ⟨by rfl, ?_⟩) hHeld ?_ ?_
                  rotate_left
                  · rintro w' ⟨s0, s1, s2, s3, s4, s5⟩
                    go_simp
                    with_reducible rfl
                  rotate_left
                  · simp only [Act.put, List.setIfInBounds_toArray, List.set_cons_zero, List.set_cons_succ, i64_w, i32_w]
                    rfl
                  refine pure_ (i := 10) (N := some 21) (v := ?_) (a' := ?_) #[true, true, true, true, true, true, true, true, true, true, true, false] rfl rfl (any_of HT_.out (by kernel_rfl)) (fun _ _ _ h => h) (Or.inl ⟨by rfl, ?_⟩) ?_ ?_
                  rotate_left
                  · intro w'
                    go_simp
                    with_reducible rfl
                  rotate_left
                  · simp only [Act.put, List.setIfInBounds_toArray, List.set_cons_zero, List.set_cons_succ, i64_w, i32_w]
                    rfl
                  refine pure_ (i := 11) (N := some 22) (v := ?_) (a' := ?_) #[true, true, true, true, true, true, true, true, true, true, true, true] rfl rfl (any_of HT_.out (by kernel_rfl)) (fun _ _ _ h => h) (Or.inl ⟨by rfl, ?_⟩) ?_ ?_
                  rotate_left
                  · intro w'
                    go_simp
                    with_reducible rfl
                  rotate_left
                  · simp only [Act.put, List.setIfInBounds_toArray, List.set_cons_zero, List.set_cons_succ, i64_w, i32_w]
                    rfl
                  refine done_ (done_of HT_.out (by kernel_rfl)) ?_
                  try go_wp2
                  go_roundg k1
                  case measure => have := HK1.out; omega
                  case rel => exact ⟨(wrap64 (x7_1 + 1)), (by first | rfl | (simp; done) | (simp [*]; done)), H', ⟨by have := HK1.out; omega⟩, ⟨by repeat (first | (with_reducible first | exact HB.out | apply below_alloc | apply pw_below_drewN | apply below_drew1 | refine below_set ?_ GE428.out) | exact HB.out)⟩⟩
                · rw [if_neg c8] at H
                  have c8b0 : (((rd_T28 l0 x7_1).f0) == ((rd_T28 l0 0).f0)) = false := beq_eq_false_iff_ne.mpr c8
                  have c8b1 : (((rd_T28 l0 x7_1).f0) != ((rd_T28 l0 0).f0)) = true := bne_iff_ne.mpr c8
                  obtain rfl := Option.some.inj H
                  have p427 : 0 ≤ (x7_1 : Int) := of_decide_eq_true (by first | (with_reducible assumption) | assumption)
                  have q427 : x7_1 < (l0.length : Int) := of_decide_eq_true (by first | (with_reducible assumption) | assumption)
                  obtain ⟨ad427, A427_1, c427_1, e427, hx427_0, hx427_1, hx427_2, hl427_1, hi427_1⟩ := at_T28 HR0.out x7_1 p427 q427
                  cases e427
                  replace hx427_0 := (HB.out.cell (World.block_lt_of_cell? w _ hx427_0)).trans hx427_0
                  replace hx427_1 := (HB.out.cell (World.block_lt_of_cell? w _ hx427_1)).trans hx427_1
                  replace hx427_2 := (HB.out.cell (World.block_lt_of_cell? w _ hx427_2)).trans hx427_2
                  have HR427_1 := Aside0.mk hi427_1
                  have HC427_1 := Aside0.mk hl427_1
                  clear hi427_1 hl427_1
                  replace p427 := eq_true p427
                  replace q427 := eq_true q427
                  try go_wp2_with (first | ((with_reducible refine gate_dst (N := 4) rfl ?_); refine box_event ?hg (N := 4) ?hd (cs := #[.int .i64 0, .slice none 0 0, .int .i64 0]) (t := 28) ?hr ?_; (case hd => rfl); (case hg => rfl); (case hr => first | (go_simp; done) | (go_simp; rfl)); intro gb428 hg w14 hbox hb; have n0_ := Aside0.mk (below_step (by repeat (first | (with_reducible first | exact HB.out | apply below_alloc | apply pw_below_drewN | apply below_drew1) | exact HB.out)) hb); have n1_ := Aside0.mk (hbox); have n2_ := Aside0.mk ((by rw [hg]; exact (below_size (by repeat (first | (with_reducible first | exact HB.out | apply below_alloc | apply pw_below_drewN | apply below_drew1) | exact HB.out))) : w.heap.size ≤ gb428)); have n3_ := Aside0.mk ((by rw [hg]; exact (below_size (by repeat (first | (with_reducible first | exact HB.out | apply below_alloc | apply pw_below_drewN | apply below_drew1) | exact HB.out))) : w.heap.size ≤ gb428)); clear HB; have HB := n0_; have BK428 := n1_; have GW428 := n2_; have GE428 := n3_; clear n0_ n1_ n2_ n3_; clear hb hbox hg; have hcz15_0 : w14.cell? ⟨gb428, 0, none⟩ = some (.int .i64 0) := (blk_cell BK428.out 0).trans rfl; have hcz15_1 : w14.cell? ⟨gb428, 1, none⟩ = some (.slice none 0 0) := (blk_cell BK428.out 1).trans rfl; have hcz15_2 : w14.cell? ⟨gb428, 2, none⟩ = some (.int .i64 0) := (blk_cell BK428.out 2).trans rfl; have hfz15_0 := blk_frozen BK428.out 0; have hfz15_1 := blk_frozen BK428.out 1; have hfz15_2 := blk_frozen BK428.out 2))
                  have n0_ : Aside0 ((((w14.setCell ⟨gb428, 0, none⟩ (.int .i64 ((rd_T28 l0 x7_1).f0))).setCell ⟨gb428, 1, none⟩ (.slice A427_1 ((rd_T28 l0 x7_1).f1).length c427_1)).setCell ⟨gb428, 2, none⟩ (.int .i64 ((rd_T28 l0 x7_1).f2))).heap[gb428]? = some (.cells #[.int .i64 ((rd_T28 l0 x7_1).f0), .slice A427_1 ((rd_T28 l0 x7_1).f1).length c427_1, .int .i64 ((rd_T28 l0 x7_1).f2)] 28 (0, 0))) := ⟨by (with_reducible repeat (first | refine blk_drewN ?_ _ | refine blk_drew ?_ | refine blk_alloc ?_ _)); refine blk_put (cs := #[.int .i64 ((rd_T28 l0 x7_1).f0), .slice A427_1 ((rd_T28 l0 x7_1).f1).length c427_1, .int .i64 0]) ?_ 2 _ rfl; (with_reducible repeat (first | refine blk_drewN ?_ _ | refine blk_drew ?_ | refine blk_alloc ?_ _)); refine blk_put (cs := #[.int .i64 ((rd_T28 l0 x7_1).f0), .slice none 0 0, .int .i64 0]) ?_ 1 _ rfl; (with_reducible repeat (first | refine blk_drewN ?_ _ | refine blk_drew ?_ | refine blk_alloc ?_ _)); refine blk_put (cs := #[.int .i64 0, .slice none 0 0, .int .i64 0]) ?_ 0 _ rfl; (with_reducible repeat (first | refine blk_drewN ?_ _ | refine blk_drew ?_ | refine blk_alloc ?_ _)); exact BK428.out⟩
                  have n1_ : Aside0 (Below w.heap.size w (((w14.setCell ⟨gb428, 0, none⟩ (.int .i64 ((rd_T28 l0 x7_1).f0))).setCell ⟨gb428, 1, none⟩ (.slice A427_1 ((rd_T28 l0 x7_1).f1).length c427_1)).setCell ⟨gb428, 2, none⟩ (.int .i64 ((rd_T28 l0 x7_1).f2)))) := ⟨by repeat (first | (with_reducible first | exact HB.out | apply below_alloc | apply pw_below_drewN | apply below_drew1 | refine below_set ?_ GE428.out) | exact HB.out)⟩
                  (try clear BK428)
                  (try clear HB)
                  generalize (((w14.setCell ⟨gb428, 0, none⟩ (.int .i64 ((rd_T28 l0 x7_1).f0))).setCell ⟨gb428, 1, none⟩ (.slice A427_1 ((rd_T28 l0 x7_1).f1).length c427_1)).setCell ⟨gb428, 2, none⟩ (.int .i64 ((rd_T28 l0 x7_1).f2))) = w16 at n0_ n1_ ⊢
                  have BK428 := n0_
                  have HB := n1_
                  clear n0_ n1_
                  have n0_ := Aside0.mk (blk_drew BK428.out)
                  have n1_ := Aside0.mk (below_drew1 HB.out)
                  clear BK428
                  clear HB
                  have BK428 := n0_
                  have HB := n1_
                  clear n0_ n1_
                  have p430 : 0 ≤ (0 : Int) := (by omega)
                  have q430 : 0 < (l0.length : Int) := of_decide_eq_true (by first | (with_reducible assumption) | assumption)
                  obtain ⟨ad430, A430_1, c430_1, e430, hx430_0, hx430_1, hx430_2, hl430_1, hi430_1⟩ := at_T28 HR0.out 0 p430 q430
                  have hw430_2 := hx430_2
                  (try rw [show ((0 : Int)).toNat = 0 from rfl] at hw430_2)
                  (try rw [show 0 * 3 = 0 from rfl] at hw430_2)
                  (try rw [Addr.add_zero'] at hw430_2)
                  have hw430_1 := hx430_1
                  (try rw [show ((0 : Int)).toNat = 0 from rfl] at hw430_1)
                  (try rw [show 0 * 3 = 0 from rfl] at hw430_1)
                  (try rw [Addr.add_zero'] at hw430_1)
                  have hw430_0 := hx430_0
                  (try rw [show ((0 : Int)).toNat = 0 from rfl] at hw430_0)
                  (try rw [show 0 * 3 = 0 from rfl] at hw430_0)
                  (try rw [Addr.add_zero'] at hw430_0)
                  obtain rfl : ad427 = ad430 := (by injection e430)
                  have qi430 : (0 < l0.length) = True := eq_true (by omega)
                  (try rw [show ((0 : Int)).toNat = 0 from rfl] at hx430_0)
                  (try rw [show 0 * 3 = 0 from rfl] at hx430_0)
                  (try rw [Addr.add_zero'] at hx430_0)
                  (try rw [show ((0 : Int)).toNat = 0 from rfl] at hx430_1)
                  (try rw [show 0 * 3 = 0 from rfl] at hx430_1)
                  (try rw [Addr.add_zero'] at hx430_1)
                  (try rw [show ((0 : Int)).toNat = 0 from rfl] at hx430_2)
                  (try rw [show 0 * 3 = 0 from rfl] at hx430_2)
                  (try rw [Addr.add_zero'] at hx430_2)
                  replace hx430_0 := (HB.out.cell (World.block_lt_of_cell? w _ hx430_0)).trans hx430_0
                  replace hx430_1 := (HB.out.cell (World.block_lt_of_cell? w _ hx430_1)).trans hx430_1
                  replace hx430_2 := (HB.out.cell (World.block_lt_of_cell? w _ hx430_2)).trans hx430_2
                  have HR430_1 := Aside0.mk hi430_1
                  have HC430_1 := Aside0.mk hl430_1
                  clear hi430_1 hl430_1
                  replace p430 := eq_true p430
                  replace q430 := eq_true q430
                  refine start_ (n := 12) (S := fun w' => w'.cell? ⟨gb428, 0, none⟩ = some (.int .i64 ((rd_T28 l0 x7_1).f0)) ∧ w'.cell? ⟨gb428, 1, none⟩ = some (.slice A427_1 ((rd_T28 l0 x7_1).f1).length c427_1) ∧ w'.cell? ⟨gb428, 2, none⟩ = some (.int .i64 ((rd_T28 l0 x7_1).f2)) ∧ w'.cell? ad427 = some (.int .i64 ((rd_T28 l0 0).f0)) ∧ w'.cell? ⟨ad427.block, ad427.off + 1, none⟩ = some (.slice A430_1 ((rd_T28 l0 0).f1).length c430_1) ∧ w'.cell? ⟨ad427.block, ad427.off + 2, none⟩ = some (.int .i64 ((rd_T28 l0 0).f2))) (ds := []) #[false, false, false, false, false, false, false, false, false, false, false, false] (by kernel_rfl) rfl rfl ⟨(blk_cell BK428.out 0).trans rfl, (blk_cell BK428.out 1).trans rfl, (blk_cell BK428.out 2).trans rfl, ((HB.out.cell (World.block_lt_of_cell? w _ hw430_0)).trans hw430_0), ((HB.out.cell (World.block_lt_of_cell? w _ hw430_1)).trans hw430_1), ((HB.out.cell (World.block_lt_of_cell? w _ hw430_2)).trans hw430_2)⟩ (fun hHeld => ?_); refine with_tabW mask_valid.tab4 mask_valid.bits4 (fun HT_ HW_ => ?_)
                  generalize w16.drew = w17 at BK428 HB HR430_1 hx430_0 hx430_1 hx430_2 hHeld ⊢
                  refine take_ (i := 0) (N := some 11) (v := ?_) (a' := ?_) #[true, false, false, false, false, false, false, false, false, false, false, false] rfl rfl (take_ofW HT_.out HW_.out (by kernel_rfl)) (fun _ _ _ h => h) (Or.inl ⟨by rfl, ?_⟩) hHeld ?_ ?_
                  rotate_left
                  · rintro w' ⟨s0, s1, s2, s3, s4, s5⟩
                    go_simp
                    with_reducible rfl
                  rotate_left
                  · simp only [Act.put, List.setIfInBounds_toArray, List.set_cons_zero, List.set_cons_succ, i64_w, i32_w]
                    rfl
                  refine one_ (i := 1) (N := some 12) #[true, true, false, false, false, false, false, false, false, false, false, false] rfl rfl (one_of HT_.out (by kernel_rfl)) (by decide) (fun K hK => ?_)
                  refine goes_ Try.func29 (by kernel_rfl) rfl #[.agg #[.int .i64 ((rd_T28 l0 x7_1).f0), .slice A427_1 ((rd_T28 l0 x7_1).f1).length c427_1, .int .i64 ((rd_T28 l0 x7_1).f2)]] (by rfl) rfl rfl (by (try simp only [List.map_toArray, List.map_cons, List.map_nil]); first | done | rfl | (simp only [List.length_drop, List.length_take]; rfl)) ?_
                  with_reducible refine (mask_Valid.calls ((rd_T28 l0 x7_1).f0) _ _ ((rd_T28 l0 x7_1).f1) ((rd_T28 l0 x7_1).f2) true _ ?side1 ?side2 A5.out).mono ?_
                  (case side1 => repeat (first | exact (Kd.C_below HR427_1.out HB.out) | (with_reducible refine Kd.C_alloc ?_ _) | (with_reducible refine Kd.C_drewN ?_ _) | (with_reducible refine Kd.C_drew ?_)))
                  (case side2 => exact HC427_1.out)
                  rintro e w18 ⟨rfl, hb⟩
                  refine ⟨_, rfl, ?_⟩
                  have n0_ := Aside0.mk (blk_below (g := gb428) (o := .cells #[.int .i64 ((rd_T28 l0 x7_1).f0), .slice A427_1 ((rd_T28 l0 x7_1).f1).length c427_1, .int .i64 ((rd_T28 l0 x7_1).f2)] 28 (0, 0)) (by (with_reducible repeat (first | refine blk_drewN ?_ _ | refine blk_drew ?_ | refine blk_alloc ?_ _)); exact BK428.out) hb)
                  have n1_ := Aside0.mk (below_step (by repeat (first | (with_reducible first | exact HB.out | apply below_alloc | apply pw_below_drewN | apply below_drew1 | refine below_set ?_ GE428.out) | exact HB.out)) hb)
                  clear BK428
                  clear HB
                  have BK428 := n0_
                  have HB := n1_
                  clear n0_ n1_
                  (try clear hb)
                  (try clear hb2)
                  (try clear hk)
                  (try clear hi)
                  refine hK.out _ _ ⟨(blk_cell BK428.out 0).trans rfl, (blk_cell BK428.out 1).trans rfl, (blk_cell BK428.out 2).trans rfl, ((HB.out.cell (World.block_lt_of_cell? w _ hw430_0)).trans hw430_0), ((HB.out.cell (World.block_lt_of_cell? w _ hw430_1)).trans hw430_1), ((HB.out.cell (World.block_lt_of_cell? w _ hw430_2)).trans hw430_2)⟩ (fun hHeld => ?_)
                  clear hK K
                  refine norm_ (a' := ?_) ?_ ?_
                  rotate_left
                  · show Act.put _ (some 12) _ = _
                    simp only [Act.put, List.setIfInBounds_toArray, List.set_cons_zero, List.set_cons_succ, i64_w, i32_w]
                    rfl
                  refine pure_ (i := 2) (N := some 13) (v := ?_) (a' := ?_) #[true, true, true, false, false, false, false, false, false, false, false, false] rfl rfl (any_of HT_.out (by kernel_rfl)) (fun _ _ _ h => h) (Or.inl ⟨by rfl, ?_⟩) ?_ ?_
                  rotate_left
                  · intro w'
                    go_simp
                    with_reducible rfl
                  rotate_left
                  · simp only [Act.put, List.setIfInBounds_toArray, List.set_cons_zero, List.set_cons_succ, i64_w, i32_w]
                    rfl
                  refine pure_ (i := 3) (N := some 14) (v := ?_) (a' := ?_) #[true, true, true, true, false, false, false, false, false, false, false, false] rfl rfl (any_of HT_.out (by kernel_rfl)) (fun _ _ _ h => h) (Or.inl ⟨by rfl, ?_⟩) ?_ ?_
                  rotate_left
                  · intro w'
                    go_simp
                    with_reducible rfl
                  rotate_left
                  · simp only [Act.put, List.setIfInBounds_toArray, List.set_cons_zero, List.set_cons_succ, i64_w, i32_w]
                    rfl
                  refine pure_ (i := 4) (N := some 15) (v := ?_) (a' := ?_) #[true, true, true, true, true, false, false, false, false, false, false, false] rfl rfl (any_of HT_.out (by kernel_rfl)) (fun _ _ _ h => h) (Or.inl ⟨by rfl, ?_⟩) ?_ ?_
                  rotate_left
                  · intro w'
                    go_simp
                    with_reducible rfl
                  rotate_left
                  · simp only [Act.put, List.setIfInBounds_toArray, List.set_cons_zero, List.set_cons_succ, i64_w, i32_w]
                    rfl
                  refine pure_ (i := 6) (N := some 17) (v := ?_) (a' := ?_) #[true, true, true, true, true, false, true, false, false, false, false, false] rfl rfl (any_of HT_.out (by kernel_rfl)) (fun _ _ _ h => h) (Or.inl ⟨by rfl, ?_⟩) ?_ ?_
                  rotate_left
                  · intro w'
                    go_simp
                    with_reducible rfl
                  rotate_left
                  · simp only [Act.put, List.setIfInBounds_toArray, List.set_cons_zero, List.set_cons_succ, i64_w, i32_w]
                    rfl
                  refine pure_ (i := 7) (N := some 18) (v := ?_) (a' := ?_) #[true, true, true, true, true, false, true, true, false, false, false, false] rfl rfl (any_of HT_.out (by kernel_rfl)) (fun _ _ _ h => h) (Or.inl ⟨by rfl, ?_⟩) ?_ ?_
                  rotate_left
                  · intro w'
                    go_simp
                    with_reducible rfl
                  rotate_left
                  · simp only [Act.put, List.setIfInBounds_toArray, List.set_cons_zero, List.set_cons_succ, i64_w, i32_w]
                    rfl
                  refine pure_ (i := 8) (N := some 19) (v := ?_) (a' := ?_) #[true, true, true, true, true, false, true, true, true, false, false, false] rfl rfl (any_of HT_.out (by kernel_rfl)) (fun _ _ _ h => h) (Or.inl ⟨by rfl, ?_⟩) ?_ ?_
                  rotate_left
                  · intro w'
                    go_simp
                    with_reducible rfl
                  rotate_left
                  · simp only [Act.put, List.setIfInBounds_toArray, List.set_cons_zero, List.set_cons_succ, i64_w, i32_w]
                    rfl
                  refine take_ (i := 5) (N := some 16) (v := ?_) (a' := ?_) #[true, true, true, true, true, true, true, true, true, false, false, false] rfl rfl (take_ofW HT_.out HW_.out (by kernel_rfl)) (fun _ _ _ h => h) (Or.inl ⟨by rfl, ?_⟩) hHeld ?_ ?_
                  rotate_left
                  · rintro w' ⟨s0, s1, s2, s3, s4, s5⟩
                    go_simp
                    with_reducible rfl
                  rotate_left
                  · simp only [Act.put, List.setIfInBounds_toArray, List.set_cons_zero, List.set_cons_succ, i64_w, i32_w]
                    rfl
                  refine take_ (i := 9) (N := some 20) (v := ?_) (a' := ?_) #[true, true, true, true, true, true, true, true, true, true, false, false] rfl rfl (take_ofW HT_.out HW_.out (by kernel_rfl)) (fun _ _ _ h => h) (Or.inl ⟨by rfl, ?_⟩) hHeld ?_ ?_
                  rotate_left
                  · rintro w' ⟨s0, s1, s2, s3, s4, s5⟩
                    go_simp
                    with_reducible rfl
                  rotate_left
                  · simp only [Act.put, List.setIfInBounds_toArray, List.set_cons_zero, List.set_cons_succ, i64_w, i32_w]
                    rfl
                  refine pure_ (i := 10) (N := some 21) (v := ?_) (a' := ?_) #[true, true, true, true, true, true, true, true, true, true, true, false] rfl rfl (any_of HT_.out (by kernel_rfl)) (fun _ _ _ h => h) (Or.inl ⟨by rfl, ?_⟩) ?_ ?_
                  rotate_left
                  · intro w'
                    go_simp
                    with_reducible rfl
                  rotate_left
                  · simp only [Act.put, List.setIfInBounds_toArray, List.set_cons_zero, List.set_cons_succ, i64_w, i32_w]
                    rfl
                  refine pure_ (i := 11) (N := some 22) (v := ?_) (a' := ?_) #[true, true, true, true, true, true, true, true, true, true, true, true] rfl rfl (any_of HT_.out (by kernel_rfl)) (fun _ _ _ h => h) (Or.inl ⟨by rfl, ?_⟩) ?_ ?_
                  rotate_left
                  · intro w'
                    go_simp
                    with_reducible rfl
                  rotate_left
                  · simp only [Act.put, List.setIfInBounds_toArray, List.set_cons_zero, List.set_cons_succ, i64_w, i32_w]
                    rfl
                  refine done_ (done_of HT_.out (by kernel_rfl)) ?_
                  try go_wp2
                  go_ret
                  exact ⟨by first | rfl | (simp [errW_none, errW_some] <;> rfl) | (simp [*, errW_none, errW_some] <;> rfl), by repeat (first | (with_reducible first | exact HB.out | apply below_alloc | apply pw_below_drewN | apply below_drew1 | refine below_set ?_ GE428.out) | exact HB.out)⟩
              · rw [if_neg c7] at H
                exact absurd H (by simp)
            · replace c6 := Bool.eq_false_iff.mpr c6
              subst c6
              have H1 : (some false) = some r := by rw [if_neg (show ¬ (false = true) by decide)] at H; exact H
              clear H
              have H := H1
              clear H1
              obtain rfl := Option.some.inj H
              have p427 : 0 ≤ (x7_1 : Int) := of_decide_eq_true (by first | (with_reducible assumption) | assumption)
              have q427 : x7_1 < (l0.length : Int) := of_decide_eq_true (by first | (with_reducible assumption) | assumption)
              obtain ⟨ad427, A427_1, c427_1, e427, hx427_0, hx427_1, hx427_2, hl427_1, hi427_1⟩ := at_T28 HR0.out x7_1 p427 q427
              cases e427
              replace hx427_0 := (HB.out.cell (World.block_lt_of_cell? w _ hx427_0)).trans hx427_0
              replace hx427_1 := (HB.out.cell (World.block_lt_of_cell? w _ hx427_1)).trans hx427_1
              replace hx427_2 := (HB.out.cell (World.block_lt_of_cell? w _ hx427_2)).trans hx427_2
              have HR427_1 := Aside0.mk hi427_1
              have HC427_1 := Aside0.mk hl427_1
              clear hi427_1 hl427_1
              replace p427 := eq_true p427
              replace q427 := eq_true q427
              try go_wp2_with (first | ((with_reducible refine gate_dst (N := 4) rfl ?_); refine box_event ?hg (N := 4) ?hd (cs := #[.int .i64 0, .slice none 0 0, .int .i64 0]) (t := 28) ?hr ?_; (case hd => rfl); (case hg => rfl); (case hr => first | (go_simp; done) | (go_simp; rfl)); intro gb428 hg w19 hbox hb; have n0_ := Aside0.mk (below_step (by repeat (first | (with_reducible first | exact HB.out | apply below_alloc | apply pw_below_drewN | apply below_drew1) | exact HB.out)) hb); have n1_ := Aside0.mk (hbox); have n2_ := Aside0.mk ((by rw [hg]; exact (below_size (by repeat (first | (with_reducible first | exact HB.out | apply below_alloc | apply pw_below_drewN | apply below_drew1) | exact HB.out))) : w.heap.size ≤ gb428)); have n3_ := Aside0.mk ((by rw [hg]; exact (below_size (by repeat (first | (with_reducible first | exact HB.out | apply below_alloc | apply pw_below_drewN | apply below_drew1) | exact HB.out))) : w.heap.size ≤ gb428)); clear HB; have HB := n0_; have BK428 := n1_; have GW428 := n2_; have GE428 := n3_; clear n0_ n1_ n2_ n3_; clear hb hbox hg; have hcz20_0 : w19.cell? ⟨gb428, 0, none⟩ = some (.int .i64 0) := (blk_cell BK428.out 0).trans rfl; have hcz20_1 : w19.cell? ⟨gb428, 1, none⟩ = some (.slice none 0 0) := (blk_cell BK428.out 1).trans rfl; have hcz20_2 : w19.cell? ⟨gb428, 2, none⟩ = some (.int .i64 0) := (blk_cell BK428.out 2).trans rfl; have hfz20_0 := blk_frozen BK428.out 0; have hfz20_1 := blk_frozen BK428.out 1; have hfz20_2 := blk_frozen BK428.out 2))
              have n0_ : Aside0 ((((w19.setCell ⟨gb428, 0, none⟩ (.int .i64 ((rd_T28 l0 x7_1).f0))).setCell ⟨gb428, 1, none⟩ (.slice A427_1 ((rd_T28 l0 x7_1).f1).length c427_1)).setCell ⟨gb428, 2, none⟩ (.int .i64 ((rd_T28 l0 x7_1).f2))).heap[gb428]? = some (.cells #[.int .i64 ((rd_T28 l0 x7_1).f0), .slice A427_1 ((rd_T28 l0 x7_1).f1).length c427_1, .int .i64 ((rd_T28 l0 x7_1).f2)] 28 (0, 0))) := ⟨by (with_reducible repeat (first | refine blk_drewN ?_ _ | refine blk_drew ?_ | refine blk_alloc ?_ _)); refine blk_put (cs := #[.int .i64 ((rd_T28 l0 x7_1).f0), .slice A427_1 ((rd_T28 l0 x7_1).f1).length c427_1, .int .i64 0]) ?_ 2 _ rfl; (with_reducible repeat (first | refine blk_drewN ?_ _ | refine blk_drew ?_ | refine blk_alloc ?_ _)); refine blk_put (cs := #[.int .i64 ((rd_T28 l0 x7_1).f0), .slice none 0 0, .int .i64 0]) ?_ 1 _ rfl; (with_reducible repeat (first | refine blk_drewN ?_ _ | refine blk_drew ?_ | refine blk_alloc ?_ _)); refine blk_put (cs := #[.int .i64 0, .slice none 0 0, .int .i64 0]) ?_ 0 _ rfl; (with_reducible repeat (first | refine blk_drewN ?_ _ | refine blk_drew ?_ | refine blk_alloc ?_ _)); exact BK428.out⟩
              have n1_ : Aside0 (Below w.heap.size w (((w19.setCell ⟨gb428, 0, none⟩ (.int .i64 ((rd_T28 l0 x7_1).f0))).setCell ⟨gb428, 1, none⟩ (.slice A427_1 ((rd_T28 l0 x7_1).f1).length c427_1)).setCell ⟨gb428, 2, none⟩ (.int .i64 ((rd_T28 l0 x7_1).f2)))) := ⟨by repeat (first | (with_reducible first | exact HB.out | apply below_alloc | apply pw_below_drewN | apply below_drew1 | refine below_set ?_ GE428.out) | exact HB.out)⟩
              (try clear BK428)
              (try clear HB)
              generalize (((w19.setCell ⟨gb428, 0, none⟩ (.int .i64 ((rd_T28 l0 x7_1).f0))).setCell ⟨gb428, 1, none⟩ (.slice A427_1 ((rd_T28 l0 x7_1).f1).length c427_1)).setCell ⟨gb428, 2, none⟩ (.int .i64 ((rd_T28 l0 x7_1).f2))) = w21 at n0_ n1_ ⊢
              have BK428 := n0_
              have HB := n1_
              clear n0_ n1_
              have n0_ := Aside0.mk (blk_drew BK428.out)
              have n1_ := Aside0.mk (below_drew1 HB.out)
              clear BK428
              clear HB
              have BK428 := n0_
              have HB := n1_
              clear n0_ n1_
              refine start_ (n := 12) (S := fun w' => w'.cell? ⟨gb428, 0, none⟩ = some (.int .i64 ((rd_T28 l0 x7_1).f0)) ∧ w'.cell? ⟨gb428, 1, none⟩ = some (.slice A427_1 ((rd_T28 l0 x7_1).f1).length c427_1) ∧ w'.cell? ⟨gb428, 2, none⟩ = some (.int .i64 ((rd_T28 l0 x7_1).f2))) (ds := []) #[false, false, false, false, false, false, false, false, false, false, false, false] (by kernel_rfl) rfl rfl ⟨(blk_cell BK428.out 0).trans rfl, (blk_cell BK428.out 1).trans rfl, (blk_cell BK428.out 2).trans rfl⟩ (fun hHeld => ?_); refine with_tabW mask_valid.tab4 mask_valid.bits4 (fun HT_ HW_ => ?_)
              generalize w21.drew = w22 at BK428 HB hHeld ⊢
              refine take_ (i := 0) (N := some 11) (v := ?_) (a' := ?_) #[true, false, false, false, false, false, false, false, false, false, false, false] rfl rfl (take_ofW HT_.out HW_.out (by kernel_rfl)) (fun _ _ _ h => h) (Or.inl ⟨by rfl, ?_⟩) hHeld ?_ ?_
              rotate_left
              · rintro w' ⟨s0, s1, s2⟩
                go_simp
                with_reducible rfl
              rotate_left
              · simp only [Act.put, List.setIfInBounds_toArray, List.set_cons_zero, List.set_cons_succ, i64_w, i32_w]
                rfl
              refine one_ (i := 1) (N := some 12) #[true, true, false, false, false, false, false, false, false, false, false, false] rfl rfl (one_of HT_.out (by kernel_rfl)) (by decide) (fun K hK => ?_)
              refine goes_ Try.func29 (by kernel_rfl) rfl #[.agg #[.int .i64 ((rd_T28 l0 x7_1).f0), .slice A427_1 ((rd_T28 l0 x7_1).f1).length c427_1, .int .i64 ((rd_T28 l0 x7_1).f2)]] (by rfl) rfl rfl (by (try simp only [List.map_toArray, List.map_cons, List.map_nil]); first | done | rfl | (simp only [List.length_drop, List.length_take]; rfl)) ?_
              with_reducible refine (mask_Valid.calls ((rd_T28 l0 x7_1).f0) _ _ ((rd_T28 l0 x7_1).f1) ((rd_T28 l0 x7_1).f2) false _ ?side1 ?side2 A5.out).mono ?_
              (case side1 => repeat (first | exact (Kd.C_below HR427_1.out HB.out) | (with_reducible refine Kd.C_alloc ?_ _) | (with_reducible refine Kd.C_drewN ?_ _) | (with_reducible refine Kd.C_drew ?_)))
              (case side2 => exact HC427_1.out)
              rintro e w23 ⟨rfl, hb⟩
              refine ⟨_, rfl, ?_⟩
              have n0_ := Aside0.mk (blk_below (g := gb428) (o := .cells #[.int .i64 ((rd_T28 l0 x7_1).f0), .slice A427_1 ((rd_T28 l0 x7_1).f1).length c427_1, .int .i64 ((rd_T28 l0 x7_1).f2)] 28 (0, 0)) (by (with_reducible repeat (first | refine blk_drewN ?_ _ | refine blk_drew ?_ | refine blk_alloc ?_ _)); exact BK428.out) hb)
              have n1_ := Aside0.mk (below_step (by repeat (first | (with_reducible first | exact HB.out | apply below_alloc | apply pw_below_drewN | apply below_drew1 | refine below_set ?_ GE428.out) | exact HB.out)) hb)
              clear BK428
              clear HB
              have BK428 := n0_
              have HB := n1_
              clear n0_ n1_
              (try clear hb)
              (try clear hb2)
              (try clear hk)
              (try clear hi)
              refine hK.out _ _ ⟨(blk_cell BK428.out 0).trans rfl, (blk_cell BK428.out 1).trans rfl, (blk_cell BK428.out 2).trans rfl⟩ (fun hHeld => ?_)
              clear hK K
              refine norm_ (a' := ?_) ?_ ?_
              rotate_left
              · show Act.put _ (some 12) _ = _
                simp only [Act.put, List.setIfInBounds_toArray, List.set_cons_zero, List.set_cons_succ, i64_w, i32_w]
                rfl
              refine pure_ (i := 2) (N := some 13) (v := ?_) (a' := ?_) #[true, true, true, false, false, false, false, false, false, false, false, false] rfl rfl (any_of HT_.out (by kernel_rfl)) (fun _ _ _ h => h) (Or.inl ⟨by rfl, ?_⟩) ?_ ?_
              rotate_left
              · intro w'
                go_simp
                with_reducible rfl
              rotate_left
              · simp only [Act.put, List.setIfInBounds_toArray, List.set_cons_zero, List.set_cons_succ, i64_w, i32_w]
                rfl
              refine pure_ (i := 3) (N := some 14) (v := ?_) (a' := ?_) #[true, true, true, true, false, false, false, false, false, false, false, false] rfl rfl (any_of HT_.out (by kernel_rfl)) (fun _ _ _ h => h) (Or.inl ⟨by rfl, ?_⟩) ?_ ?_
              rotate_left
              · intro w'
                go_simp
                with_reducible rfl
              rotate_left
              · simp only [Act.put, List.setIfInBounds_toArray, List.set_cons_zero, List.set_cons_succ, i64_w, i32_w]
                rfl
              refine pure_ (i := 4) (N := some 15) (v := undef) (a' := ?_) #[true, true, true, true, true, false, false, false, false, false, false, false] rfl rfl (any_of HT_.out (by kernel_rfl)) (fun _ _ _ h => h) (Or.inr ⟨by rfl, rfl⟩) ?_ ?_
              rotate_left
              · simp only [Act.put, List.setIfInBounds_toArray, List.set_cons_zero, List.set_cons_succ, i64_w, i32_w]
                rfl
              refine pure_ (i := 5) (N := some 16) (v := undef) (a' := ?_) #[true, true, true, true, true, true, false, false, false, false, false, false] rfl rfl (any_of HT_.out (by kernel_rfl)) (fun _ _ _ h => h) (Or.inr ⟨by rfl, rfl⟩) ?_ ?_
              rotate_left
              · simp only [Act.put, List.setIfInBounds_toArray, List.set_cons_zero, List.set_cons_succ, i64_w, i32_w]
                rfl
              refine pure_ (i := 6) (N := some 17) (v := undef) (a' := ?_) #[true, true, true, true, true, true, true, false, false, false, false, false] rfl rfl (any_of HT_.out (by kernel_rfl)) (fun _ _ _ h => h) (Or.inr ⟨by rfl, rfl⟩) ?_ ?_
              rotate_left
              · simp only [Act.put, List.setIfInBounds_toArray, List.set_cons_zero, List.set_cons_succ, i64_w, i32_w]
                rfl
              refine pure_ (i := 7) (N := some 18) (v := undef) (a' := ?_) #[true, true, true, true, true, true, true, true, false, false, false, false] rfl rfl (any_of HT_.out (by kernel_rfl)) (fun _ _ _ h => h) (Or.inr ⟨by rfl, rfl⟩) ?_ ?_
              rotate_left
              · simp only [Act.put, List.setIfInBounds_toArray, List.set_cons_zero, List.set_cons_succ, i64_w, i32_w]
                rfl
              refine pure_ (i := 8) (N := some 19) (v := undef) (a' := ?_) #[true, true, true, true, true, true, true, true, true, false, false, false] rfl rfl (any_of HT_.out (by kernel_rfl)) (fun _ _ _ h => h) (Or.inr ⟨by rfl, rfl⟩) ?_ ?_
              rotate_left
              · simp only [Act.put, List.setIfInBounds_toArray, List.set_cons_zero, List.set_cons_succ, i64_w, i32_w]
                rfl
              refine pure_ (i := 9) (N := some 20) (v := undef) (a' := ?_) #[true, true, true, true, true, true, true, true, true, true, false, false] rfl rfl (any_of HT_.out (by kernel_rfl)) (fun _ _ _ h => h) (Or.inr ⟨by rfl, rfl⟩) ?_ ?_
              rotate_left
              · simp only [Act.put, List.setIfInBounds_toArray, List.set_cons_zero, List.set_cons_succ, i64_w, i32_w]
                rfl
              refine pure_ (i := 10) (N := some 21) (v := undef) (a' := ?_) #[true, true, true, true, true, true, true, true, true, true, true, false] rfl rfl (any_of HT_.out (by kernel_rfl)) (fun _ _ _ h => h) (Or.inr ⟨by rfl, rfl⟩) ?_ ?_
              rotate_left
              · simp only [Act.put, List.setIfInBounds_toArray, List.set_cons_zero, List.set_cons_succ, i64_w, i32_w]
                rfl
              refine pure_ (i := 11) (N := some 22) (v := ?_) (a' := ?_) #[true, true, true, true, true, true, true, true, true, true, true, true] rfl rfl (any_of HT_.out (by kernel_rfl)) (fun _ _ _ h => h) (Or.inl ⟨by rfl, ?_⟩) ?_ ?_
              rotate_left
              · intro w'
                go_simp
                with_reducible rfl
              rotate_left
              · simp only [Act.put, List.setIfInBounds_toArray, List.set_cons_zero, List.set_cons_succ, i64_w, i32_w]
                rfl
              refine done_ (done_of HT_.out (by kernel_rfl)) ?_
              try go_wp2
              go_ret
              exact ⟨by first | rfl | (simp [errW_none, errW_some] <;> rfl) | (simp [*, errW_none, errW_some] <;> rfl), by repeat (first | (with_reducible first | exact HB.out | apply below_alloc | apply pw_below_drewN | apply below_drew1 | refine below_set ?_ GE428.out) | exact HB.out)⟩
          · rw [if_neg c4] at H
            exact absurd H (by simp)
        · rw [if_neg c3] at H
          exact absurd H (by simp)
      · rw [if_neg c2] at H
        have c2b0 : decide (x7_1 < (l0.length : Int)) = false := decide_eq_false c2
        (try (have c2b0_0 := c2b0; rw [hl427_1] at c2b0_0))
        (try (have c2b0_1 := c2b0; rw [hl430_1] at c2b0_1))
        clear c2
        obtain rfl := Option.some.inj H
        go_wp2
        go_ret
        exact ⟨by first | rfl | (simp [errW_none, errW_some] <;> rfl) | (simp [*, errW_none, errW_some] <;> rfl), by repeat (first | (with_reducible first | exact HB.out | apply below_alloc | apply pw_below_drewN | apply below_drew1) | exact HB.out)⟩
end Go.Proofs.Ytlplphgoldkoeaa.X
end

section
set_option linter.unusedVariables false
set_option linter.unusedSimpArgs false
namespace Go.Proofs.Ytlplphgoldkoeaa.HTab
open Go.RowKit Go.Proofs.YtlplphgoldkoeaaW.PrintWords Go.Proofs.YtlplphgoldkoeaaW.PrintLast Go.Proofs.YtlplphgoldkoeaaW.PrintMore Go.Proofs.Ytlplphgoldkoeaa.HMap Go.Proofs.Ytlplphgoldkoeaa.X
open Go.ChangeMaps (setBlock)
set_option linter.unusedVariables false
set_option linter.unusedSimpArgs false
theorem Fr.to_below {S : Nat → Prop} {w0 w w' : World} (h : Fr S w w') (hb : Below w0.heap.size w0 w) (hs : ∀ k, S k → w0.heap.size ≤ k) : Below w0.heap.size w0 w' :=
  ⟨h.os.trans hb.os, h.tape.trans hb.tape, h.output.trans hb.output, Nat.le_trans hb.size h.size, fun k hk => (h.block k (Nat.lt_of_lt_of_le hk hb.size) (fun q => by have := hs k q; omega)).trans (hb.block k hk)⟩
structure Ld (w0 w : World) (t : Nat) (T : TB) (mb : Option Nat) : Prop where
  bel : Below w0.heap.size w0 w
  tab : ∃ S, Tab w S t T ∧ (∀ k, S k → w0.heap.size ≤ k ∧ k < w.heap.size) ∧ ∀ b, mb = some b → ¬ S b
  map : ∀ b, mb = some b → w0.heap.size ≤ b ∧ MapIs encN (Value.int .i64) w b ([] : SL)
theorem Ld.drew {w0 w : World} {t : Nat} {T : TB} {mb : Option Nat} (h : Ld w0 w t T mb) : Ld w0 w.drew t T mb := by
  obtain ⟨hb, ⟨S, hT, hS, ho⟩, hm⟩ := h
  exact ⟨below_drew hb, ⟨S, hT.below (below_drew (Below.refl _ _)), hS, ho⟩, fun b e => ⟨(hm b e).1, (hm b e).2.move rfl⟩⟩
theorem Ld.alloc {w0 w : World} {t : Nat} {T : TB} {mb : Option Nat} (h : Ld w0 w t T mb) (o : Obj) : Ld w0 (w.alloc o) t T mb := by
  obtain ⟨hb, ⟨S, hT, hS, ho⟩, hm⟩ := h
  have h1 : Below w.heap.size w (w.alloc o) := below_alloc (Below.refl _ _) o
  exact ⟨below_alloc hb o, ⟨S, hT.below h1, fun k hk => ⟨(hS k hk).1, Nat.lt_of_lt_of_le (hS k hk).2 h1.size⟩, ho⟩, fun b e => ⟨(hm b e).1, (hm b e).2.move (h1.block b (hm b e).2.lt)⟩⟩
theorem Ld.map_made {w0 w : World} {t : Nat} {T : TB} (h : Ld w0 w t T none) : Ld w0 (w.alloc (.map #[] 0)) t T (some w.heap.size) := by
  obtain ⟨hb, ⟨S, hT, hS, ho⟩, hm⟩ := h
  have h1 : Below w.heap.size w (w.alloc (.map #[] 0)) := below_alloc (Below.refl _ _) _
  refine ⟨below_alloc hb _, ⟨S, hT.below h1, fun k hk => ⟨(hS k hk).1, Nat.lt_of_lt_of_le (hS k hk).2 h1.size⟩, fun b e => ?_⟩, fun b e => ?_⟩
  · injection e with e
    subst e
    intro q
    exact Nat.lt_irrefl _ (hS _ q).2
  · injection e with e
    subst e
    exact ⟨hb.size, MapIs.made _ _ _⟩
theorem Ld.load {w0 w : World} {t : Nat} {T : TB} {mb : Option Nat} (h : Ld w0 w t T mb) (vars root : Int) (A : Option Addr) (c : Nat) (l : List S107) (R : List Int × TB) (hl : T.ns.length + l.length < 1000000000000)
    (hC : Kd.C k107 w0 A l.length l) (hc : l.length ≤ c) (hp : loadP l [0, 1] T = some R) (hroot : 0 ≤ root ∧ root < R.1.length) :
    Calls Try.prog 91 #[.pointer (some ⟨t, 0, none⟩), .agg #[.int .i64 vars, .slice A l.length c, .int .i64 root]] w fun e w' => e = .returned (.int .i64 (rd R.1 root)) ∧ Ld w0 w' t R.2 mb := by
  obtain ⟨hb, ⟨S, hT, hS, ho⟩, hm⟩ := h
  refine (load_calls t T vars root A c l R w hT hl (fun w' hf => Kd.C_below hC (hf.to_below hb (fun k hk => (hS k hk).1))) hc hp hroot).mono ?_
  rintro e w' ⟨he, hT', hF⟩
  refine ⟨he, hF.to_below hb (fun k hk => (hS k hk).1), ⟨_, hT'.bound, fun k hk => ⟨hk.1.elim (fun q => (hS k q).1) (fun q => Nat.le_trans hb.size q), hk.2⟩, fun b e q => q.1.elim (ho b e) (fun q => by have := (hm b e).2.lt; omega)⟩, fun b e => ⟨(hm b e).1, (hm b e).2.move (hF.block b (hm b e).2.lt (ho b e))⟩⟩
theorem Ld.ite {w0 w : World} {t mc : Nat} {T : TB} (h : Ld w0 w t T (some mc)) (k : Nat) (f g h' r : Int) (T' : TB) (L' : SL) (hp : iteP k T [] f g h' = some (r, T', L')) (hlen : T'.ns.length < 1000000000000) :
    Calls Try.prog 101 #[.pointer (some ⟨t, 0, none⟩), .int .i64 f, .int .i64 g, .int .i64 h', .map (some mc)] w fun e w' => e = .returned (.int .i64 r) ∧ Below w0.heap.size w0 w' ∧ ∃ S, Tab w' S t T' := by
  obtain ⟨hb, ⟨S, hT, hS, ho⟩, hm⟩ := h
  refine (ite_calls t mc k S T [] f g h' r T' L' w ⟨hT, (hm mc rfl).2, ho mc rfl⟩ hp hlen).mono ?_
  rintro e w' ⟨he, hI, hF⟩
  exact ⟨he, hF.to_below hb (fun k hk => hk.elim (fun q => (hS k q).1) (fun q => by rw [q]; exact (hm mc rfl).1)), _, hI.tab⟩
theorem Ld.new {w w1 : World} {t : Nat} {T : TB} (hT : Tab w1 (fun k => w.heap.size ≤ k ∧ k < w1.heap.size) t T) (hb : Below w.heap.size w w1) : Ld w w1 t T none :=
  ⟨hb, ⟨_, hT, fun k hk => hk, fun b e => by cases e⟩, fun b e => by cases e⟩
theorem three_C {W : World} {b : Nat} {v1 r1 v2 r2 v3 r3 : Int} {A1 A2 A3 : Option Addr} {c1 c2 c3 : Nat} {l1 l2 l3 : List S107} (h : W.heap[b]? = some (.cells #[.int .i64 v1, .slice A1 l1.length c1, .int .i64 r1, .int .i64 v2, .slice A2 l2.length c2, .int .i64 r2, .int .i64 v3, .slice A3 l3.length c3, .int .i64 r3] 28 (0, 0)))
    (h1 : Kd.C k107 W A1 l1.length l1) (e1 : l1.length ≤ c1) (h2 : Kd.C k107 W A2 l2.length l2) (e2 : l2.length ≤ c2) (h3 : Kd.C k107 W A3 l3.length l3) (e3 : l3.length ≤ c3) :
    Kd.C k28 W (some ⟨b, 0, none⟩) 3 [⟨v1, l1, r1⟩, ⟨v2, l2, r2⟩, ⟨v3, l3, r3⟩] := by
  refine ⟨rfl, by decide, fun _ => ⟨_, rfl, fun j p hp => ?_⟩⟩
  have hz : k28.sz = 3 := rfl
  rw [hz]
  have cell : ∀ i, W.cell? ((⟨b, 0, none⟩ : Addr).add i) = (#[.int .i64 v1, .slice A1 l1.length c1, .int .i64 r1, .int .i64 v2, .slice A2 l2.length c2, .int .i64 r2, .int .i64 v3, .slice A3 l3.length c3, .int .i64 r3] : Array Value)[i]? := fun i => by
    rw [add_plain]; exact blk_cell h i
  match j, hp with
  | 0, hp =>
    simp only [List.getElem?_cons_zero, Option.some.injEq] at hp
    subst hp
    refine ⟨_, rfl, k28_mk W ⟨v1, l1, r1⟩ e1 h1, fun i u hi => ?_⟩
    match i, hi with
    | 0, hi => rw [cell]; exact hi
    | 1, hi => rw [cell]; exact hi
    | 2, hi => rw [cell]; exact hi
    | i + 3, hi => simp at hi
  | 1, hp =>
    simp only [List.getElem?_cons_succ, List.getElem?_cons_zero, Option.some.injEq] at hp
    subst hp
    refine ⟨_, rfl, k28_mk W ⟨v2, l2, r2⟩ e2 h2, fun i u hi => ?_⟩
    match i, hi with
    | 0, hi => rw [cell]; exact hi
    | 1, hi => rw [cell]; exact hi
    | 2, hi => rw [cell]; exact hi
    | i + 3, hi => simp at hi
  | 2, hp =>
    simp only [List.getElem?_cons_succ, List.getElem?_cons_zero, Option.some.injEq] at hp
    subst hp
    refine ⟨_, rfl, k28_mk W ⟨v3, l3, r3⟩ e3 h3, fun i u hi => ?_⟩
    match i, hi with
    | 0, hi => rw [cell]; exact hi
    | 1, hi => rw [cell]; exact hi
    | 2, hi => rw [cell]; exact hi
    | i + 3, hi => simp at hi
  | j + 3, hp => simp at hp
theorem valid3_f (v1 v2 v3 r1 r2 r3 : Int) (l1 l2 l3 : List S107) (h1 : l1.length ≤ 1000000000) (h2 : l2.length ≤ 1000000000) (h3 : l3.length ≤ 1000000000) :
    mask_valid.f 10 [⟨v1, l1, r1⟩, ⟨v2, l2, r2⟩, ⟨v3, l3, r3⟩] = some (vmB v1 l1 r1 && (vmB v2 l2 r2 && (decide (v2 = v1) && (vmB v3 l3 r3 && decide (v3 = v1))))) := by
  have w0 : wrap64 (0 + 1) = 1 := by unfold wrap64; omega
  have w1 : wrap64 (1 + 1) = 2 := by unfold wrap64; omega
  have w2 : wrap64 (2 + 1) = 3 := by unfold wrap64; omega
  have e1 : mask_Valid.f v1 l1 r1 = some (vmB v1 l1 r1) := by unfold mask_Valid.f; rw [if_pos h1]
  have e2 : mask_Valid.f v2 l2 r2 = some (vmB v2 l2 r2) := by unfold mask_Valid.f; rw [if_pos h2]
  have e3 : mask_Valid.f v3 l3 r3 = some (vmB v3 l3 r3) := by unfold mask_Valid.f; rw [if_pos h3]
  have g0 : rd_T28 [⟨v1, l1, r1⟩, ⟨v2, l2, r2⟩, ⟨v3, l3, r3⟩] 0 = ⟨v1, l1, r1⟩ := rfl
  have g1 : rd_T28 [⟨v1, l1, r1⟩, ⟨v2, l2, r2⟩, ⟨v3, l3, r3⟩] 1 = ⟨v2, l2, r2⟩ := rfl
  have g2 : rd_T28 [⟨v1, l1, r1⟩, ⟨v2, l2, r2⟩, ⟨v3, l3, r3⟩] 2 = ⟨v3, l3, r3⟩ := rfl
  have hl : (([⟨v1, l1, r1⟩, ⟨v2, l2, r2⟩, ⟨v3, l3, r3⟩] : List S28).length : Int) = 3 := rfl
  unfold mask_valid.f
  simp only [mask_valid.l0, hl, g0, g1, g2, e1, e2, e3, w0, w1, w2]
  cases vmB v1 l1 r1
  · rfl
  cases vmB v2 l2 r2
  · rfl
  by_cases q2 : v2 = v1
  · cases vmB v3 l3 r3
    · simp [q2]
    · by_cases q3 : v3 = v1 <;> simp [q2, q3]
  · simp [q2]
end Go.Proofs.Ytlplphgoldkoeaa.HTab
end
