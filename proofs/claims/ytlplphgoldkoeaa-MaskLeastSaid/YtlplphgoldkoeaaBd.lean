/- Lemmas of the masks: part Bd. -/
import Derived.WalkKit
import Derived.Maps.OwnOps
import Derived.Laws.StructEq
import Derived.Test.YtlplphgoldkoeaaBc
import Derived.BigQuiet
import Derived.Deep.RegionLaw
import Derived.BigRegion
import Derived.StillTailTactics
import Derived.Lib.Hide
import Derived.Deep.LoopGhost
section
set_option linter.unusedVariables false
set_option linter.unusedSimpArgs false
namespace Go.Proofs.Ytlplphgoldkoeaa.HMap
open Go.RowKit Go.MapKept
open Go.ChangeMaps (setBlock)
structure MKey {α : Type} [DecidableEq α] (P : Program) (kt : TypeId) (enc : α → Value) : Prop where
  check : ∀ w em x, (Instr.checkKey em 10000 kt (enc x)).run P w = .ok () w
  und : ∃ u, P.underlying kt = some u ∧ ((∀ x y, Instr.sameNow u (enc x) (enc y) = none) ∨ (∀ x y, Instr.sameNow u (enc x) (enc y) = some (decide (x = y))))
  eq : ∀ w x y, (Op.equal kt (enc x) (enc y)).run P w = .ok (decide (x = y)) w
  same : ∀ x, Instr.sameBits 10000 (enc x) (enc x) = true
def MapIs {α β : Type} (enc : α → Value) (encv : β → Value) (w : World) (b : Nat) (L : List (α × β)) : Prop :=
  ∃ es clk, w.heap[b]? = some (.map es clk) ∧ es.toList.map (fun e => (e.key, e.val)) = L.map (fun p => (enc p.1, encv p.2))
theorem MapIs.lt {α β : Type} {enc : α → Value} {encv : β → Value} {w : World} {b : Nat} {L : List (α × β)} (h : MapIs enc encv w b L) : b < w.heap.size := by
  obtain ⟨es, clk, hb, _⟩ := h
  exact (Array.getElem?_eq_some_iff.1 hb).1
theorem MapIs.move {α β : Type} {enc : α → Value} {encv : β → Value} {w w1 : World} {b : Nat} {L : List (α × β)} (h : MapIs enc encv w b L) (hm : w1.heap[b]? = w.heap[b]?) : MapIs enc encv w1 b L := by
  obtain ⟨es, clk, hb, he⟩ := h
  exact ⟨es, clk, hm.trans hb, he⟩
theorem setBlock_size (w : World) (b : Nat) (o : Obj) : (setBlock w b o).heap.size = w.heap.size := by simp [setBlock]
theorem setBlock_other (w : World) (b : Nat) (o : Obj) (i : Nat) (h : i ≠ b) : (setBlock w b o).heap[i]? = w.heap[i]? := by
  simp [setBlock, Array.getElem?_setIfInBounds, Ne.symm h]
theorem MapIs.made {α β : Type} (enc : α → Value) (encv : β → Value) (w : World) : MapIs enc encv (w.alloc (.map #[] 0)) w.heap.size [] :=
  ⟨#[], 0, heap_alloc_new w _, rfl⟩
section
variable {α β : Type} [DecidableEq α] {P : Program} {kt : TypeId} {enc : α → Value} {encv : β → Value}
def look : List (α × β) → α → Option β
  | [], _ => none
  | p :: r, x => if x = p.1 then some p.2 else look r x
def placeOf : List (α × β) → α → Nat → Option (Nat × β)
  | [], _, _ => none
  | p :: r, x, i => if x = p.1 then some (i, p.2) else placeOf r x (i + 1)
def upd : List (α × β) → α → β → List (α × β)
  | [], x, v => [(x, v)]
  | p :: r, x, v => if x = p.1 then (x, v) :: r else p :: upd r x v
theorem placeOf_look (L : List (α × β)) (x : α) (i : Nat) : (placeOf L x i).map (·.2) = look L x := by
  induction L generalizing i with
  | nil => rfl
  | cons p r ih => unfold placeOf look; split <;> simp [*]
theorem placeOf_get (L : List (α × β)) (x : α) (i j : Nat) (v : β) (h : placeOf L x i = some (j, v)) : ∃ d, j = i + d ∧ L[d]? = some (x, v) := by
  induction L generalizing i with
  | nil => simp [placeOf] at h
  | cons p r ih =>
    unfold placeOf at h
    split at h
    · rename_i e
      simp only [Option.some.injEq, Prod.mk.injEq] at h
      exact ⟨0, by omega, by obtain ⟨h1, h2⟩ := h; subst h2; subst e; rfl⟩
    · obtain ⟨d, h1, h2⟩ := ih _ h
      exact ⟨d + 1, by omega, by simpa using h2⟩
theorem upd_none (L : List (α × β)) (x : α) (v : β) (h : look L x = none) : upd L x v = L ++ [(x, v)] := by
  induction L with
  | nil => rfl
  | cons p r ih =>
    unfold look at h
    split at h
    · cases h
    · rename_i e; unfold upd; rw [if_neg e, ih h]; rfl
theorem upd_place (L : List (α × β)) (x : α) (v v0 : β) (i j : Nat) (h : placeOf L x i = some (j, v0)) : upd L x v = L.set (j - i) (x, v) := by
  induction L generalizing i with
  | nil => simp [placeOf] at h
  | cons p r ih =>
    unfold placeOf at h
    split at h
    · rename_i e
      simp only [Option.some.injEq, Prod.mk.injEq] at h
      obtain ⟨rfl, _⟩ := h
      unfold upd; rw [if_pos e]; simp
    · rename_i e
      obtain ⟨d, h1, h2⟩ := placeOf_get _ _ _ _ _ h
      unfold upd; rw [if_neg e, ih _ h]
      rw [show j - i = (j - (i + 1)) + 1 by omega]; rfl
theorem look_upd_same (L : List (α × β)) (x : α) (v : β) : look (upd L x v) x = some v := by
  induction L with
  | nil => simp [upd, look]
  | cons p r ih => unfold upd; split <;> simp [look, *]
theorem look_upd_other (L : List (α × β)) (x y : α) (v : β) (h : y ≠ x) : look (upd L x v) y = look L y := by
  induction L with
  | nil => simp [upd, look, h]
  | cons p r ih =>
    unfold upd
    split
    · rename_i e; subst e; simp [look, h]
    · simp [look, ih]
theorem run_findAsking (K : MKey P kt enc) (w : World) (x : α) : ∀ (es : List MapEntry) (L : List (α × β)) (i : Nat), es.map (fun e => (e.key, e.val)) = L.map (fun p => (enc p.1, encv p.2)) →
    (Instr.findAsking kt (enc x) es i).run P w = .ok ((placeOf L x i).map fun q => (q.1, encv q.2)) w
  | [], [], i, _ => by simp [Instr.findAsking, placeOf]
  | e :: es, p :: L, i, h => by
    simp only [List.map_cons, List.cons.injEq, Prod.mk.injEq] at h
    obtain ⟨⟨h1, h2⟩, h3⟩ := h
    have ih := run_findAsking K w x es L (i + 1) h3
    simp only [Instr.findAsking, Sem.run_bind, h1, K.eq, Result.andThen_ok, placeOf]
    by_cases e : x = p.1
    · simp [e, h2]
    · simp [e, ih]
  | [], _ :: _, _, h => by simp at h
  | _ :: _, [], _, h => by simp at h
theorem findNow_some {u : TypeDesc} (hu : ∀ x y : α, Instr.sameNow u (enc x) (enc y) = some (decide (x = y))) (x : α) : ∀ (es : List MapEntry) (L : List (α × β)) (i : Nat), es.map (fun e => (e.key, e.val)) = L.map (fun p => (enc p.1, encv p.2)) →
    Instr.findNow u (enc x) es i = some ((placeOf L x i).map fun q => (q.1, encv q.2))
  | [], [], i, _ => by simp [Instr.findNow, placeOf]
  | e :: es, p :: L, i, h => by
    simp only [List.map_cons, List.cons.injEq, Prod.mk.injEq] at h
    obtain ⟨⟨h1, h2⟩, h3⟩ := h
    have ih := findNow_some hu x es L (i + 1) h3
    simp only [Instr.findNow, h1, hu, placeOf]
    by_cases e : x = p.1
    · simp [e, h2]
    · simp [e, ih]
  | [], _ :: _, _, h => by simp at h
  | _ :: _, [], _, h => by simp at h
theorem run_findKey' (K : MKey P kt enc) (w : World) (x : α) (es : List MapEntry) (L : List (α × β)) (h : es.map (fun e => (e.key, e.val)) = L.map (fun p => (enc p.1, encv p.2))) :
    (Instr.findKey kt (enc x) es).run P w = .ok ((placeOf L x 0).map fun q => (q.1, encv q.2)) w := by
  obtain ⟨u, hu, hor⟩ := K.und
  unfold Instr.findKey
  simp only [Sem.run_bind, run_underlying hu, Result.andThen_ok]
  rcases hor with h0 | h0
  · cases es with
    | nil =>
      cases L with
      | nil => simp [Instr.findNow, placeOf]
      | cons p L => simp at h
    | cons e es =>
      cases L with
      | nil => simp at h
      | cons p L =>
        have h' := h
        simp only [List.map_cons, List.cons.injEq, Prod.mk.injEq] at h'
        have : Instr.findNow u (enc x) (e :: es) 0 = none := by simp [Instr.findNow, h'.1.1, h0]
        rw [this]
        exact run_findAsking K w x _ _ 0 h
  · rw [findNow_some h0 x _ _ 0 h]; rfl
theorem run_lookup (K : MKey P kt enc) {t e : TypeId} (ht : P.underlying t = some (.map kt e)) {w : World} {b : Nat} {L : List (α × β)} (h : MapIs enc encv w b L) (x : α) (ok : Bool) {z : Value} (hz : (zeroValue e).run P w = .ok z w) :
    (Instr.lookup t (.map (some b)) (enc x) ok).run P w = .ok (if ok then .tuple #[((look L x).map encv).getD z, .bool (look L x).isSome] else ((look L x).map encv).getD z) w := by
  obtain ⟨es, clk, hb, he⟩ := h
  have hf := run_findKey' K w x es.toList L he
  unfold Instr.lookup
  simp only [Sem.run_bind, run_underlying ht, Result.andThen_ok, Go.MapKept.run_getObj_map hb, K.check, Sem.run_pure]
  rw [hf]
  simp only [Result.andThen_ok]
  rw [← placeOf_look L x 0]
  cases placeOf L x 0 with
  | none => simp [hz, Result.andThen]
  | some q => simp
theorem run_keyThatStays' (K : MKey P kt enc) (w : World) (x : α) : (Instr.keyThatStays (enc x) (enc x)).run P w = .ok (enc x) w := by
  unfold Instr.keyThatStays
  simp [K.same x]
theorem run_mapUpdate (K : MKey P kt enc) {t e : TypeId} (ht : P.underlying t = some (.map kt e)) {w : World} {b : Nat} {L : List (α × β)} (h : MapIs enc encv w b L) (x : α) (v : β) :
    ∃ o, (Instr.mapUpdate t (.map (some b)) (enc x) (encv v)).run P w = .ok () (setBlock w b o) ∧ MapIs enc encv (setBlock w b o) b (upd L x v) := by
  obtain ⟨es, clk, hb, he⟩ := h
  have hf := run_findKey' K w x es.toList L he
  have hlt : b < w.heap.size := (Array.getElem?_eq_some_iff.1 hb).1
  have hlen : es.size = L.length := by have := congrArg List.length he; simpa using this
  cases hp : placeOf L x 0 with
  | none =>
    refine ⟨.map (es.push ⟨enc x, encv v, clk⟩) (clk + 1), ?_, ?_⟩
    · rw [hp] at hf
      simp [Instr.mapUpdate, run_underlying ht, Go.MapKept.run_getObj_map hb, K.check, hf, Go.MapKept.run_setObj_map _ hb, Result.andThen, setBlock]
    · refine ⟨es.push ⟨enc x, encv v, clk⟩, clk + 1, by simp [setBlock, hlt], ?_⟩
      have hl : look L x = none := by rw [← placeOf_look L x 0, hp]; rfl
      rw [upd_none L x v hl]
      simp [he]
  | some q =>
    obtain ⟨j, v0⟩ := q
    obtain ⟨d, hd, hg⟩ := placeOf_get _ _ _ _ _ hp
    have hdj : d = j := by omega
    subst hdj
    have hdl : d < L.length := (List.getElem?_eq_some_iff.1 hg).1
    have hes : d < es.size := by omega
    have hkey : (es[d]'hes).key = enc x ∧ (es[d]'hes).val = encv v0 := by
      have := congrArg (fun l => l[d]?) he
      simp [hg, hes] at this
      exact this
    refine ⟨.map (es.modify d fun e => { e with key := enc x, val := encv v }) clk, ?_, ?_⟩
    · rw [hp] at hf
      simp [Instr.mapUpdate, run_underlying ht, Go.MapKept.run_getObj_map hb, K.check, hf, hes, hkey.1, run_keyThatStays' K, Go.MapKept.run_setObj_map _ hb, Result.andThen, setBlock]
    · refine ⟨es.modify d fun e => { e with key := enc x, val := encv v }, clk, by simp [setBlock, hlt], ?_⟩
      rw [upd_place L x v v0 0 d hp]
      apply List.ext_getElem
      · simp [hlen]
      · intro n h1 h2
        have hn : n < es.size := by simpa using h1
        have hnL : n < L.length := by omega
        have := congrArg (fun l => l[n]?) he
        simp [hn, hnL] at this
        simp only [List.getElem_map, Array.getElem_toList, Array.getElem_modify, List.getElem_set, Nat.sub_zero]
        by_cases e : d = n
        · subst e; simp
        · simp [e, this]
theorem wpList_upd {ops : Array Oper} {rest : List Oper} {o : Oper} {a : Act} {Q : Exit → Act → World → Prop} (w : World) (hg : o.guard = none) (m k v : Operand) (t : TypeId) (hop : o.op = Op.mapUpdate t m k v) {e : TypeId}
    (K : MKey P kt enc) (ht : P.underlying t = some (.map kt e)) {b : Nat} {L : List (α × β)} (h : MapIs enc encv w b L) (x : α) (y : β) (hm : a.eval m = .map (some b)) (hx : a.eval k = enc x) (hy : a.eval v = encv y)
    (hK : ∀ o', MapIs enc encv (setBlock w b o') b (upd L x y) → wpList P ops Q rest (a.put o.dst undef) (setBlock w b o')) : wpList P ops Q (o :: rest) a w := by
  refine wpList_plain hg fun K' hK' => ?_
  obtain ⟨o', hrun, hM⟩ := run_mapUpdate K ht h x y
  unfold Oper.wp
  simp [execOp, hop, hm, hx, hy, hrun, Result.andThen]
  exact hK' _ _ (hK o' hM)
theorem wpList_ins {ops : Array Oper} {rest : List Oper} {o : Oper} {a : Act} {Q : Exit → Act → World → Prop} (w : World) (hg : o.guard = none) (m k v : Operand) (t : TypeId) (hop : o.op = Op.insert t m k v) {e : TypeId}
    (K : MKey P kt enc) (ht : P.underlying t = some (.map kt e)) {b : Nat} {L : List (α × β)} (h : MapIs enc encv w b L) (x : α) (y : β) (hm : a.eval m = .map (some b)) (hx : a.eval k = enc x) (hy : a.eval v = encv y)
    (hK : ∀ o', MapIs enc encv (setBlock w b o') b (upd L x y) → wpList P ops Q rest (a.put o.dst undef) (setBlock w b o')) : wpList P ops Q (o :: rest) a w := by
  refine wpList_plain hg fun K' hK' => ?_
  obtain ⟨o', hrun, hM⟩ := run_mapUpdate K ht h x y
  unfold Oper.wp
  simp [execOp, hop, hm, hx, hy, hrun, Result.andThen]
  exact hK' _ _ (hK o' hM)
end
end Go.Proofs.Ytlplphgoldkoeaa.HMap
end

section
set_option linter.unusedVariables false
set_option linter.unusedSimpArgs false
namespace Go.Proofs.Ytlplphgoldkoeaa.HTab
open Go.RowKit Go.Proofs.YtlplphgoldkoeaaW.PrintWords Go.Proofs.YtlplphgoldkoeaaW.PrintLast Go.Proofs.YtlplphgoldkoeaaW.PrintMore Go.Proofs.Ytlplphgoldkoeaa.HMap Go.Proofs.Ytlplphgoldkoeaa.X
open Go.ChangeMaps (setBlock)
set_option linter.unusedVariables false
structure Fr (S : Nat → Prop) (w w' : World) : Prop where
  os : w'.os = w.os
  tape : w'.tape = w.tape
  output : w'.output = w.output
  size : w.heap.size ≤ w'.heap.size
  block : ∀ i, i < w.heap.size → ¬ S i → w'.heap[i]? = w.heap[i]?
theorem Fr.refl (S : Nat → Prop) (w : World) : Fr S w w := ⟨rfl, rfl, rfl, Nat.le_refl _, fun _ _ _ => rfl⟩
theorem Fr.of_below {S : Nat → Prop} {w w1 : World} (h : Below w.heap.size w w1) : Fr S w w1 := ⟨h.os, h.tape, h.output, h.size, fun i hi _ => h.block i hi⟩
theorem Fr.then_ {S S2 : Nat → Prop} {w w1 w2 : World} (h : Fr S w w1) (k : Fr S2 w1 w2) (hs : ∀ i, S2 i → S i ∨ w.heap.size ≤ i) : Fr S w w2 :=
  ⟨k.os.trans h.os, k.tape.trans h.tape, k.output.trans h.output, Nat.le_trans h.size k.size, fun i hi hn => (k.block i (Nat.lt_of_lt_of_le hi h.size) (fun h2 => (hs i h2).elim hn (fun h3 => by omega))).trans (h.block i hi hn)⟩
theorem Fr.of_grown {S : Nat → Prop} {w w1 : World} {row : Option Nat} (h : w.grownBy w1 row) (hr : ∀ k, row = some k → S k) : Fr S w w1 :=
  ⟨h.os, h.tape, h.output, h.size, fun i hi hn => h.block i hi (fun e => hn (hr i e.symm))⟩
theorem Fr.undrew {S : Nat → Prop} {w w1 : World} (h : Fr S w.drew w1) : Fr S w w1 := ⟨h.os, h.tape, h.output, h.size, h.block⟩
theorem Fr.setCell (S : Nat → Prop) (w : World) (p : Addr) (v : Value) (hp : S p.block) : Fr S w (w.setCell p v) :=
  ⟨rfl, rfl, rfl, by simp [World.setCell], fun i _ hn => Below.heap_setCell w p v i (fun e => hn (e ▸ hp))⟩
theorem Fr.setBlock (S : Nat → Prop) (w : World) (b : Nat) (o : Obj) (hp : S b) : Fr S w (setBlock w b o) :=
  ⟨rfl, rfl, rfl, by simp [Go.ChangeMaps.setBlock], fun i _ hn => setBlock_other w b o i (fun e => hn (e ▸ hp))⟩
theorem Fr.mono {S S2 : Nat → Prop} {w w1 : World} (h : Fr S w w1) (hs : ∀ k, S k → S2 k) : Fr S2 w w1 := ⟨h.os, h.tape, h.output, h.size, fun i hi hn => h.block i hi (fun k => hn (hs i k))⟩
theorem Fr.R {α : Type} {S : Nat → Prop} {w w1 : World} (h : Fr S w w1) {d : Kd α} {e base : Nat} {ok : Nat → Prop} {v : Value} {xs : List α} (hR : d.R e w base ok v xs) (hok : ∀ k, ok k → ¬ S k) : d.R e w1 base ok v xs :=
  Kd.R_step hR (fun k hk hlt => h.block k hlt (hok k hk))
theorem map_ne_cells {w : World} {b t : Nat} {es : Array MapEntry} {clk : Nat} {cs : Array Value} {ty : TypeId} {fr : Nat × Nat} (h : w.heap[b]? = some (.map es clk)) (h2 : w.heap[t]? = some (.cells cs ty fr)) : b ≠ t := by
  rintro rfl
  rw [h] at h2
  injection h2 with h2
  cases h2
theorem map_ne_own {α β : Type} {enc : α → Value} {encv : β → Value} {w : World} {b : Nat} {L : List (α × β)} (h : MapIs enc encv w b L) {γ : Type} {d : Kd γ} {e base : Nat} {ok : Nat → Prop} {v : Value} {xs : List γ} (hR : d.R e w base ok v xs) : some b ≠ v.ownBlock := by
  obtain ⟨es, clk, hb, _⟩ := h
  intro he
  obtain ⟨_, inner, ho, _⟩ := hR
  obtain ⟨cells, hc⟩ := own_typed ho b he.symm
  exact map_ne_cells hb hc rfl
theorem R_setMap {α β : Type} {enc : α → Value} {encv : β → Value} {w : World} {b : Nat} {L : List (α × β)} (h : MapIs enc encv w b L) {γ : Type} {d : Kd γ} {e base : Nat} {ok : Nat → Prop} {v : Value} {xs : List γ} (hR : d.R e w base ok v xs) (o : Obj) : d.R e (setBlock w b o) base ok v xs := by
  refine Kd.R_mono (Kd.R_step (w1 := setBlock w b o) (Kd.R_bound hR) (fun k hk _ => setBlock_other w b o k ?_)) (fun _ hk => hk.1)
  obtain ⟨es, clk, hb, _⟩ := h
  obtain ⟨_, _, _, q, _, cells, hc⟩ := hk
  exact fun e => map_ne_cells hb hc e.symm
def encN (n : S107) : Value := .agg #[.int .i64 n.f0, .int .i64 n.f1, .int .i64 n.f2]
instance : DecidableEq S107 := fun a b => if h : a.f0 = b.f0 ∧ a.f1 = b.f1 ∧ a.f2 = b.f2 then .isTrue (by cases a; cases b; simp_all) else .isFalse (fun e => h (by subst e; simp))
theorem eqN (a b : S107) : (decide (a = b)) = (a.f0 == b.f0 && (a.f1 == b.f1 && a.f2 == b.f2)) := by
  rw [Bool.eq_iff_iff]
  cases a; cases b; simp
theorem keyN : MKey Try.prog 107 encN where
  check w em x := by
    show (Instr.checkKey em (9998 + 1 + 1) 107 (encN x)).run Try.prog w = _
    unfold encN Instr.checkKey
    simp only [Sem.run_bind, run_underlying Try.underlying107, Result.andThen_ok]
    have h3 : ∀ v : Int, (Instr.checkKey em 9999 3 (.int .i64 v)).run Try.prog w = .ok () w := fun v => Go.MapKept.run_checkKey Try.underlying3 (show Go.MapKept.IsKey (.int .i64) (.int .i64 v) from rfl) em 9998
    rw [← Array.forIn_toList]
    have p0 : (part 3 #[Value.int IntKind.i64 x.f0, Value.int IntKind.i64 x.f1, Value.int IntKind.i64 x.f2] 0).run Try.prog w = .ok (.int .i64 x.f0) w := by go_simp
    have p1 : (part 3 #[Value.int IntKind.i64 x.f0, Value.int IntKind.i64 x.f1, Value.int IntKind.i64 x.f2] 1).run Try.prog w = .ok (.int .i64 x.f1) w := by go_simp
    have p2 : (part 3 #[Value.int IntKind.i64 x.f0, Value.int IntKind.i64 x.f1, Value.int IntKind.i64 x.f2] 2).run Try.prog w = .ok (.int .i64 x.f2) w := by go_simp
    simp [p0, p1, p2, h3]
  und := ⟨_, Try.underlying107, .inl fun x y => by rfl⟩
  eq w x y := by
    unfold encN
    rw [eqN]
    show (Op.equalIn (9998 + 2) 107 _ _).run Try.prog w = _
    refine eqA_of Try.underlying107 (by kernel_rfl) ?_
    refine eqf_cons (by rfl) (by go_simp; rfl) (by go_simp; rfl) (by go_simp) ?_
    refine eqf_cons (by rfl) (by go_simp; rfl) (by go_simp; rfl) (by go_simp) ?_
    exact eqf_last (by rfl) (by go_simp; rfl) (by go_simp; rfl) (by go_simp)
  same x := by
    unfold encN
    simp [Instr.sameBits]
def Tab0 (w : World) (B : Nat) (S : Nat → Prop) (t : Nat) (vars : Int) (ns : List S107) (L : List (S107 × Int)) : Prop :=
  ∃ v mb, w.heap[t]? = some (.cells #[.int .i64 vars, v, .map (some mb)] 127 (0, 0)) ∧ S t ∧ S mb ∧ Kd.R k107 107 w B S v ns ∧ MapIs encN (Value.int .i64) w mb L
theorem node_same (t : Nat) (n : S107) (w : World) (he : n.f1 = n.f2) :
    Calls Try.prog 105 #[.pointer (some ⟨t, 0, none⟩), encN n] w fun e w' => e = .returned (.int .i64 n.f1) ∧ Below w.heap.size w w' := by
  obtain ⟨a, b, c⟩ := n
  simp only at he
  subst he
  unfold encN
  go_enter Try.func105, Try.ntmps105
  go_wp2
  go_ret
  exact ⟨rfl, by apply below_alloc; exact Below.refl _ _⟩
theorem zero3 (w : World) : (zeroValue 3).run Try.prog w = .ok (.int .i64 0) w := by kernel_rfl
theorem node_found {B : Nat} {S : Nat → Prop} (t : Nat) (vars : Int) (ns : List S107) (L : List (S107 × Int)) (n : S107) (r : Int) (w : World) (hT : Tab0 w B S t vars ns L) (he : n.f1 ≠ n.f2) (hl : HMap.look L n = some r) :
    Calls Try.prog 105 #[.pointer (some ⟨t, 0, none⟩), encN n] w fun e w' => e = .returned (.int .i64 r) ∧ Below w.heap.size w w' := by
  obtain ⟨v, mb, hb, st, sm, hR, hM⟩ := hT
  have hb1 : (w.alloc (.cells #[.int .i64 n.f0, .int .i64 n.f1, .int .i64 n.f2] 107)).heap[t]? = some (.cells #[.int .i64 vars, v, .map (some mb)] 127 (0, 0)) := blk_alloc hb _
  have c0 := blk_cell hb1 2
  replace c0 := c0.trans rfl
  have hM1 : MapIs encN (Value.int .i64) (w.alloc (.cells #[.int .i64 n.f0, .int .i64 n.f1, .int .i64 n.f2] 107)) mb L := hM.move (Below.heap_alloc w _ mb hM.lt)
  have hrun : ∀ q, (Instr.lookup 125 (.map (some mb)) (.agg #[.int .i64 n.f0, .int .i64 n.f1, .int .i64 n.f2]) true).run Try.prog ((w.alloc (.cells #[.int .i64 n.f0, .int .i64 n.f1, .int .i64 n.f2] 107)).drewN q) = .ok (.tuple #[.int .i64 r, .bool true]) ((w.alloc (.cells #[.int .i64 n.f0, .int .i64 n.f1, .int .i64 n.f2] 107)).drewN q) := fun q => by
    have := run_lookup keyN Try.underlying125 (w := (w.alloc (.cells #[.int .i64 n.f0, .int .i64 n.f1, .int .i64 n.f2] 107)).drewN q) hM1 n true (zero3 _)
    simpa [hl, encN] using this
  clear hb hb1 hM hM1 hR hl
  have he' : (n.f1 == n.f2) = false := by simpa using he
  unfold encN
  go_enter Try.func105, Try.ntmps105
  go_wp2
  go_quiet (fail)
  go_wp2
  go_ret
  exact ⟨rfl, by apply pw_below_drewN; apply below_alloc; exact Below.refl _ _⟩
set_option maxRecDepth 100000 in
theorem node_new {S : Nat → Prop} (t : Nat) (vars : Int) (ns : List S107) (L : List (S107 × Int)) (n : S107) (w : World) (hT : Tab0 w 0 S t vars ns L) (he : n.f1 ≠ n.f2) (hl : HMap.look L n = none) (hlen : ns.length < 1000000000000) :
    Calls Try.prog 105 #[.pointer (some ⟨t, 0, none⟩), encN n] w fun e w' => e = .returned (.int .i64 ns.length) ∧ Tab0 w' 0 (fun k => S k ∨ w.heap.size ≤ k) t vars (ns ++ [n]) (HMap.upd L n ns.length) ∧ Fr S w w' := by
  obtain ⟨v, mb, hb, st, sm, hR, hM⟩ := hT
  obtain ⟨A, c, rfl, hc, hC⟩ := Kd.R_reads hR
  obtain ⟨w1, hw1⟩ : ∃ w1, w1 = (w.alloc (.cells #[.int .i64 n.f0, .int .i64 n.f1, .int .i64 n.f2] 107)) := ⟨_, rfl⟩
  have hbel : Below w.heap.size w w1 := by rw [hw1]; apply below_alloc; exact Below.refl _ _
  have hbox : w1.heap[w.heap.size]? = some (.cells #[.int .i64 n.f0, .int .i64 n.f1, .int .i64 n.f2] 107 (0, 0)) := by rw [hw1]; exact blk_new _ _
  have hb1 : w1.heap[t]? = some (.cells #[.int .i64 vars, .slice A ns.length c, .map (some mb)] 127 (0, 0)) := blk_below hb hbel
  have hR1 := Kd.R_below hR hbel
  have c0 := blk_cell hb1 2
  have c1 := blk_cell hb1 1
  replace c0 := c0.trans rfl
  replace c1 := c1.trans rfl
  have b0 : w1.cell? ⟨w.heap.size, 0, none⟩ = some (.int .i64 n.f0) := (blk_cell hbox 0).trans rfl
  have b1 : w1.cell? ⟨w.heap.size, 1, none⟩ = some (.int .i64 n.f1) := (blk_cell hbox 1).trans rfl
  have b2 : w1.cell? ⟨w.heap.size, 2, none⟩ = some (.int .i64 n.f2) := (blk_cell hbox 2).trans rfl
  have hM1 : MapIs encN (Value.int .i64) w1 mb L := hM.move (hbel.block mb hM.lt)
  have hrun : ∀ q, (Instr.lookup 125 (.map (some mb)) (.agg #[.int .i64 n.f0, .int .i64 n.f1, .int .i64 n.f2]) true).run Try.prog (w1.drewN q) = .ok (.tuple #[.int .i64 0, .bool false]) (w1.drewN q) := fun q => by
    have := run_lookup keyN Try.underlying125 (w := w1.drewN q) hM1 n true (zero3 _)
    simpa [hl, encN] using this
  have hnx : some w.heap.size ≠ (Value.slice A ns.length c).ownBlock := fun e => Nat.lt_irrefl _ ((Kd.R_bound hR).1 _ e.symm).2.2.1
  clear hM hl hR hC
  have he' : (n.f1 == n.f2) = false := by simpa using he
  unfold encN
  go_enter Try.func105, Try.ntmps105
  go_wp2
  rw [← hw1]
  clear hw1
  go_quiet (fail)
  go_wp2
  clear hrun
  have hb2 : (w1.drewN nq).heap[t]? = some (.cells #[.int .i64 vars, .slice A ns.length c, .map (some mb)] 127 (0, 0)) := hb1
  have hR2 := Kd.R_drewN (m := nq) hR1
  have hM2 : MapIs encN (Value.int .i64) (w1.drewN nq) mb L := hM1
  have hbel2 : Below w.heap.size w (w1.drewN nq) := pw_below_drewN hbel nq
  replace b0 : (w1.drewN nq).cell? ⟨w.heap.size, 0, none⟩ = some (.int .i64 n.f0) := b0
  replace b1 : (w1.drewN nq).cell? ⟨w.heap.size, 1, none⟩ = some (.int .i64 n.f1) := b1
  replace b2 : (w1.drewN nq).cell? ⟨w.heap.size, 2, none⟩ = some (.int .i64 n.f2) := b2
  replace c1 : (w1.drewN nq).cell? ⟨t, 1, none⟩ = some (.slice A ns.length c) := c1
  replace c0 : (w1.drewN nq).cell? ⟨t, 2, none⟩ = some (.map (some mb)) := c0
  have hbox2 : (w1.drewN nq).heap[w.heap.size]? = some (.cells #[.int .i64 n.f0, .int .i64 n.f1, .int .i64 n.f2] 107 (0, 0)) := hbox
  generalize w1.drewN nq = w2 at hb2 hR2 hM2 hbel2 b0 b1 b2 c0 c1 hbox2 ⊢
  clear hb1 hR1 hM1 hbel hbox w1
  have hBX := Lib.hid hbox2
  clear hbox2
  have hne := Lib.hid (Kd.R_ne hR2 hb2 (by decide))
  have hR3 := Lib.hid (Kd.R_drew (Kd.R_mono hR2 (fun k hk => (Or.inl hk : S k ∨ w.heap.size ≤ k))))
  have hsz := Lib.hid hbel2.size
  have HB2 := Lib.hid hb2
  have c1x : ∀ o : Obj, (w2.alloc o).cell? ⟨t, 1, none⟩ = some (.slice A ns.length c) := fun o => pw_cell_below (below_alloc (Below.refl _ _) o) c1
  clear hR2 hb2
  go_region_law ((refine Kd.R_append_step k107 (w0 := w2.drew) (W := w2.drew) 0 rfl (.tmp 34) (.tmp 36) 26 107 _ 24 rfl Try.underlying26 info107 rfl (by decide) (by decide) (.slice A ns.length c) ns n [.int .i64 n.f0, .int .i64 n.f1, .int .i64 n.f2] (fun k => S k ∨ w.heap.size ≤ k) (fun _ => False) rfl rfl (k107_mkM _ _ _ n) (fun k hk => hk.elim) (fun k hk => .inr (Nat.le_trans hsz.out hk)) hR3.out (Below.refl 0 _) (Nat.zero_le _) (by omega) ?_); intro v1 w3 hR4 hB0 hg hat; obtain ⟨A1, cap1, rfl, hcap1, hC1⟩ := Kd.R_reads hR4; have hb4 := Lib.hid (blk_grown (blk_drew HB2.out) hg hne.out); have c4 := (blk_cell hb4.out 1).trans rfl; have f4 := blk_frozen hb4.out 1)
  all_goals
    have hmt : mb ≠ t := by
      obtain ⟨es, clk, h1, _⟩ := hM2
      exact map_ne_cells h1 HB2.out
    have hmo : some mb ≠ (Value.slice A ns.length c).ownBlock := map_ne_own hM2 (Kd.R_drew hR3.out)
    have hM3 : MapIs encN (Value.int .i64) w3 mb L := hM2.move (hg.block mb hM2.lt hmo)
    have hl2 : (ns ++ [n]).length = ns.length + 1 := by simp
    have hb5 : (w3.setCell ⟨t, 1, none⟩ (.slice A1 (ns.length + 1) cap1)).heap[t]? = some (.cells #[.int .i64 vars, .slice A1 (ns.length + 1) cap1, .map (some mb)] 127 (0, 0)) := by simpa using blk_set hb4.out 1 (.slice A1 (ns.length + 1) cap1)
    have hR5 := Kd.R_set hR4 hb4.out (by decide) 1 (.slice A1 (ns.length + 1) cap1)
    have hM5 : MapIs encN (Value.int .i64) (w3.setCell ⟨t, 1, none⟩ (.slice A1 (ns.length + 1) cap1)) mb L := hM3.move (Below.heap_setCell _ _ _ _ hmt)
    have hF2 : Fr S w w2 := Fr.of_below hbel2
    have hF3 : Fr S w w3 := hF2.then_ (S2 := fun k => S k ∨ w.heap.size ≤ k) (Fr.undrew (Fr.of_grown hg (fun k hk => hR3.out.1 k hk))) (fun i h => h)
    have hF5 : Fr S w (w3.setCell ⟨t, 1, none⟩ (.slice A1 (ns.length + 1) cap1)) := hF3.then_ (S2 := S) (Fr.setCell _ _ _ _ st) (fun i h => .inl h)
    have hlt2 : w.heap.size < w2.heap.size := blk_lt hBX.out
    have hbx3 : w3.heap[w.heap.size]? = some (.cells #[.int .i64 n.f0, .int .i64 n.f1, .int .i64 n.f2] 107 (0, 0)) := (hg.block _ hlt2 hnx).trans hBX.out
    have hbx5 := blk_far (p := ⟨t, 1, none⟩) hbx3 (fun e => Nat.lt_irrefl _ (e ▸ blk_lt hb)) (.slice A1 (ns.length + 1) cap1)
    have d0 := (blk_cell hbx5 0).trans rfl
    have d1 := (blk_cell hbx5 1).trans rfl
    have d2 := (blk_cell hbx5 2).trans rfl
    have d3 := (blk_cell hb5 2).trans rfl
    rw [hl2] at hR5
    clear c4 f4 hat hcap1 hC1 c1x b0 b1 b2 c0 c1 hmo hbx3 hbx5 hb4 hM3 hM2 hB0 hg hR4
    generalize w3.setCell ⟨t, 1, none⟩ (.slice A1 (ns.length + 1) cap1) = w4 at hb5 hR5 hM5 hF5 d0 d1 d2 d3 ⊢
    obtain ⟨o, ho, hM6⟩ := run_mapUpdate keyN Try.underlying125 (w := w4.drew) hM5 n (ns.length : Int)
    unfold encN at ho
    have hbs := Lib.hid hb5
    clear hl2 hb5
    go_wp2
    go_still_tail 6, (by kernel_rfl)
    go_wp2
    go_ret
    refine ⟨rfl, ⟨_, mb, (setBlock_other _ _ _ _ (Ne.symm hmt)).trans hbs.out, .inl st, .inl sm, R_setMap hM5 (Kd.R_drew hR5) o, hM6⟩, ?_⟩
    exact hF5.then_ (S2 := S) (Fr.undrew (Fr.setBlock S w4.drew mb o sm)) (fun i h => .inl h)
structure TB where
  vars : Int
  ns : List S107
  L : List (S107 × Int)
def Tab (w : World) (S : Nat → Prop) (t : Nat) (T : TB) : Prop := Tab0 w 0 S t T.vars T.ns T.L
def nodeP (T : TB) (n : S107) : Int × TB :=
  if n.f1 = n.f2 then (n.f1, T) else
  match HMap.look T.L n with
  | some r => (r, T)
  | none => (T.ns.length, ⟨T.vars, T.ns ++ [n], HMap.upd T.L n T.ns.length⟩)
theorem Tab.mono {w : World} {S S2 : Nat → Prop} {t : Nat} {T : TB} (h : Tab w S t T) (hs : ∀ k, S k → S2 k) : Tab w S2 t T := by
  obtain ⟨v, mb, hb, st, sm, hR, hM⟩ := h
  exact ⟨v, mb, hb, hs _ st, hs _ sm, Kd.R_mono hR hs, hM⟩
theorem Tab.move {w w1 : World} {S : Nat → Prop} {t : Nat} {T : TB} (h : Tab w S t T) (hm : ∀ k, S k → k < w.heap.size → w1.heap[k]? = w.heap[k]?) : Tab w1 S t T := by
  obtain ⟨v, mb, hb, st, sm, hR, hM⟩ := h
  exact ⟨v, mb, (hm t st (blk_lt hb)).trans hb, st, sm, Kd.R_step hR hm, hM.move (hm mb sm hM.lt)⟩
theorem Tab.below {w w1 : World} {S : Nat → Prop} {t : Nat} {T : TB} (h : Tab w S t T) (hb : Below w.heap.size w w1) : Tab w1 S t T := h.move (fun k _ hk => hb.block k hk)
theorem Tab.fr {w w1 : World} {S S2 : Nat → Prop} {t : Nat} {T : TB} (h : Tab w S t T) (hf : Fr S2 w w1) (hs : ∀ k, S k → ¬ S2 k) : Tab w1 S t T := h.move (fun k hk hlt => hf.block k hlt (hs k hk))
theorem node_calls {S : Nat → Prop} (t : Nat) (T : TB) (n : S107) (w : World) (hT : Tab w S t T) (hlen : T.ns.length < 1000000000000) :
    Calls Try.prog 105 #[.pointer (some ⟨t, 0, none⟩), encN n] w fun e w' => e = .returned (.int .i64 (nodeP T n).1) ∧ Tab w' (fun k => S k ∨ w.heap.size ≤ k) t (nodeP T n).2 ∧ Fr S w w' := by
  unfold nodeP
  by_cases he : n.f1 = n.f2
  · rw [if_pos he]
    exact (node_same t n w he).mono fun e w' h => ⟨h.1, (hT.below h.2).mono (fun k hk => .inl hk), Fr.of_below h.2⟩
  · rw [if_neg he]
    cases hl : HMap.look T.L n with
    | some r => exact (node_found t T.vars T.ns T.L n r w hT he hl).mono fun e w' h => ⟨h.1, (hT.below h.2).mono (fun k hk => .inl hk), Fr.of_below h.2⟩
    | none => exact node_new t T.vars T.ns T.L n w hT he hl hlen
end Go.Proofs.Ytlplphgoldkoeaa.HTab
end

section
set_option linter.unusedVariables false
set_option linter.unusedSimpArgs false
namespace Go.Proofs.Ytlplphgoldkoeaa.HTab
open Go.RowKit Go.Proofs.YtlplphgoldkoeaaW.PrintWords Go.Proofs.YtlplphgoldkoeaaW.PrintLast Go.Proofs.YtlplphgoldkoeaaW.PrintMore Go.Proofs.Ytlplphgoldkoeaa.HMap Go.Proofs.Ytlplphgoldkoeaa.X
open Go.ChangeMaps (setBlock)
set_option linter.unusedVariables false
def asksP (T : TB) (p : Int) : Int := if p < 2 then T.vars else (T.ns.getD p.toNat ⟨0, 0, 0⟩).f0
def sideP (T : TB) (p v : Int) (high : Bool) : Int := if asksP T p ≠ v then p else if high then (T.ns.getD p.toNat ⟨0, 0, 0⟩).f2 else (T.ns.getD p.toNat ⟨0, 0, 0⟩).f1
theorem Tab.cells {w : World} {S : Nat → Prop} {t : Nat} {T : TB} (h : Tab w S t T) : ∃ A c mb, w.cell? ⟨t, 0, none⟩ = some (.int .i64 T.vars) ∧ w.cell? ⟨t, 1, none⟩ = some (.slice A T.ns.length c) ∧ w.cell? ⟨t, 2, none⟩ = some (.map (some mb)) ∧ Kd.C k107 w A T.ns.length T.ns := by
  obtain ⟨v, mb, hb, st, sm, hR, hM⟩ := h
  obtain ⟨A, c, rfl, hc, hC⟩ := Kd.R_reads hR
  exact ⟨A, c, mb, (blk_cell hb 0).trans rfl, (blk_cell hb 1).trans rfl, (blk_cell hb 2).trans rfl, hC⟩
theorem asks_calls {S : Nat → Prop} (t : Nat) (T : TB) (p : Int) (w : World) (hT : Tab w S t T) (hp : p < 2 ∨ p < T.ns.length) :
    Calls Try.prog 104 #[.pointer (some ⟨t, 0, none⟩), .int .i64 p] w fun e w' => e = .returned (.int .i64 (asksP T p)) ∧ w = w' := by
  obtain ⟨A, c, mb, c0, c1, c2, hC⟩ := hT.cells
  by_cases h2 : p < 2
  · have H := Lib.hid (show asksP T p = T.vars from if_pos h2)
    have hd : decide (p < 2) = true := decide_eq_true h2
    go_enter Try.func104, Try.ntmps104
    go_wp2
    go_ret
    exact ⟨by rw [H.out]; rfl, rfl⟩
  · have H := Lib.hid (show asksP T p = (rd_T107 T.ns p).f0 from if_neg h2)
    have hd : decide (p < 2) = false := decide_eq_false h2
    have hp' : p < (T.ns.length : Int) := by omega
    have h0 : 0 ≤ p := by omega
    obtain ⟨ad, rfl, x0, x1, x2⟩ := at_T107 hC p h0 hp'
    go_enter Try.func104, Try.ntmps104
    go_wp2
    go_ret
    exact ⟨by rw [H.out]; rfl, rfl⟩
theorem side_calls {S : Nat → Prop} (t : Nat) (T : TB) (p v : Int) (high : Bool) (w : World) (hT : Tab w S t T) (hp : p < 2 ∨ p < T.ns.length) (hpv : p < 2 → T.vars ≠ v) :
    Calls Try.prog 123 #[.pointer (some ⟨t, 0, none⟩), .int .i64 p, .int .i64 v, .bool high] w fun e w' => e = .returned (.int .i64 (sideP T p v high)) ∧ w = w' := by
  obtain ⟨A, c, mb, c0, c1, c2, hC⟩ := hT.cells
  by_cases hv : asksP T p = v
  · have h2 : ¬ p < 2 := fun h => hpv h (by rw [← hv]; exact (if_pos h).symm)
    have hp' : p < (T.ns.length : Int) := by omega
    have h0 : 0 ≤ p := by omega
    obtain ⟨ad, rfl, x0, x1, x2⟩ := at_T107 hC p h0 hp'
    have hb : (asksP T p != v) = false := by simpa using hv
    have H1 := Lib.hid (show sideP T p v true = (rd_T107 T.ns p).f2 from if_neg (by simpa using hv))
    have H0 := Lib.hid (show sideP T p v false = (rd_T107 T.ns p).f1 from if_neg (by simpa using hv))
    clear hv
    cases high
    · go_enter Try.func123, Try.ntmps123
      go_wp2_with (go_at_call 104; refine (asks_calls t T p _ hT (by omega)).mono ?_; rintro e w' ⟨rfl, rfl⟩)
      go_ret
      exact ⟨by rw [H0.out]; rfl, rfl⟩
    · go_enter Try.func123, Try.ntmps123
      go_wp2_with (go_at_call 104; refine (asks_calls t T p _ hT (by omega)).mono ?_; rintro e w' ⟨rfl, rfl⟩)
      go_ret
      exact ⟨by rw [H1.out]; rfl, rfl⟩
  · have H := Lib.hid (show sideP T p v high = p from if_pos (by simpa using hv))
    have hb : (asksP T p != v) = true := by simpa using hv
    clear hv
    go_enter Try.func123, Try.ntmps123
    go_wp2_with (go_at_call 104; refine (asks_calls t T p _ hT (by omega)).mono ?_; rintro e w' ⟨rfl, rfl⟩)
    go_ret
    exact ⟨by rw [H.out]; rfl, rfl⟩
end Go.Proofs.Ytlplphgoldkoeaa.HTab
end

section
set_option linter.unusedVariables false
set_option linter.unusedSimpArgs false
namespace Go.Proofs.Ytlplphgoldkoeaa.HTab
open Go.RowKit Go.Proofs.YtlplphgoldkoeaaW.PrintWords Go.Proofs.YtlplphgoldkoeaaW.PrintLast Go.Proofs.YtlplphgoldkoeaaW.PrintMore Go.Proofs.Ytlplphgoldkoeaa.HMap Go.Proofs.Ytlplphgoldkoeaa.X
open Go.ChangeMaps (setBlock)
set_option linter.unusedVariables false
set_option linter.unusedSimpArgs false
def loadP : List S107 → List Int → TB → Option (List Int × TB)
  | [], at_, T => some (at_, T)
  | n :: r, at_, T => if 0 ≤ n.f1 ∧ n.f1 < at_.length ∧ 0 ≤ n.f2 ∧ n.f2 < at_.length then
      loadP r (at_ ++ [(nodeP T ⟨n.f0, rd at_ n.f1, rd at_ n.f2⟩).1]) (nodeP T ⟨n.f0, rd at_ n.f1, rd at_ n.f2⟩).2 else none
def tb_load_5.T : Bool × List (List Nat × List Nat) := (true, [([], []), ([], []), ([], []), ([2], [2]), ([], []), ([], []), ([5], [5]), ([4, 6], [4, 6]), ([7], [7]), ([], []), ([], []), ([10], [10]), ([9, 11], [9, 11]), ([12], [12]), ([3, 8, 13], [3, 8, 13]), ([1, 14], [1, 14]), ([15], [15]), ([0, 16, 15], [0, 16]), ([17, 17, 0, 1, 2, 3, 4, 5, 6, 7, 8, 9, 10, 11, 12, 13, 14, 15, 16, 17], [0, 4, 9, 17])])
def tb_load_5.B : List Nat := [0, 0, 0, 4, 0, 0, 32, 112, 240, 0, 0, 1024, 3584, 7680, 16380, 32766, 65534, 131071, 262143]
theorem tb_load_5.tab : rtab .any (opsOf Try.f91 5) = tb_load_5.T := by kernel_rfl
theorem tb_load_5.bits : waitsOk tb_load_5.T.2 tb_load_5.B = true := by kernel_rfl
theorem Tab.bound {w : World} {S : Nat → Prop} {t : Nat} {T : TB} (h : Tab w S t T) : Tab w (fun k => S k ∧ k < w.heap.size) t T := by
  obtain ⟨v, mb, hb, st, sm, hR, hM⟩ := h
  exact ⟨v, mb, hb, ⟨st, blk_lt hb⟩, ⟨sm, hM.lt⟩, Kd.R_mono (Kd.R_bound hR) (fun k hk => ⟨hk.1, hk.2.2.1⟩), hM⟩
theorem nodeP_len (T : TB) (n : S107) : (nodeP T n).2.ns.length ≤ T.ns.length + 1 := by
  unfold nodeP
  split
  · simp
  · split <;> simp
theorem R_newInts (W : World) (e : TypeId) (xs : List Int) (ok : Nat → Prop) (hm : xs.length ≤ 9223372036854775807) (hok : ok W.heap.size) : (Kd.int .i64).R e (W.alloc (.cells (nums .i64 xs).toArray e)) 0 ok (.slice (some ⟨W.heap.size, 0, none⟩) xs.length xs.length) xs :=
  Kd.R_of_own (enc := Value.int .i64) (own_lit W 0 e .i64 xs (Nat.zero_le _) hm) (fun k hk => by
    have : W.heap.size = k := by simpa [Value.ownBlock] using hk
    rw [← this]; exact hok)
set_option maxRecDepth 100000 in
set_option maxHeartbeats 4000000 in
theorem load_calls {S : Nat → Prop} (t : Nat) (T : TB) (vars root : Int) (A : Option Addr) (c : Nat) (l : List S107) (R : List Int × TB) (w : World) (hT : Tab w S t T) (hl : T.ns.length + l.length < 1000000000000)
    (hr : ∀ w', Fr S w w' → Kd.C k107 w' A l.length l) (hc : l.length ≤ c) (h : loadP l [0, 1] T = some R) (hroot : 0 ≤ root ∧ root < R.1.length) :
    Calls Try.prog 91 #[.pointer (some ⟨t, 0, none⟩), .agg #[.int .i64 vars, .slice A l.length c, .int .i64 root]] w fun e w' => e = .returned (.int .i64 (rd R.1 root)) ∧ Tab w' (fun k => S k ∨ w.heap.size ≤ k) t R.2 ∧ Fr S w w' := by
  have H := Aside0.mk h
  have HR := Aside0.mk hr
  have HT := Aside0.mk hT
  clear h hr hT
  have hb0 : Below w.heap.size w (w.alloc (.cells #[.int .i64 vars, .slice A l.length c, .int .i64 root] 28)) := below_alloc (Below.refl _ _) _
  have hb1 : Below w.heap.size w ((w.alloc (.cells #[.int .i64 vars, .slice A l.length c, .int .i64 root] 28)).alloc (.cells #[.int .i64 0, .int .i64 1] 3)) := below_alloc hb0 _
  have hf1 : Aside0 (((w.alloc (.cells #[.int .i64 vars, .slice A l.length c, .int .i64 root] 28)).alloc (.cells #[.int .i64 0, .int .i64 1] 3)).heap[w.heap.size]? = some (.cells #[.int .i64 vars, .slice A l.length c, .int .i64 root] 28 (0, 0))) := Aside0.mk (blk_alloc (blk_new _ _) _)
  have hf2 : Aside0 ((Kd.int .i64).R 3 ((w.alloc (.cells #[.int .i64 vars, .slice A l.length c, .int .i64 root] 28)).alloc (.cells #[.int .i64 0, .int .i64 1] 3)) 0 (fun k => w.heap.size < k) (.slice (some ⟨w.heap.size + 1, 0, none⟩) 2 2) [0, 1]) :=
    Aside0.mk (by have h := R_newInts (w.alloc (.cells #[.int .i64 vars, .slice A l.length c, .int .i64 root] 28)) 3 [0, 1] (fun k => w.heap.size < k) (by decide) (by simp); simpa [nums] using h)
  go_enter Try.func91, Try.ntmps91
  go_wp2
  go_loopg [5, 12] (l.length) (fun kq v5 v12 w' => ∃ (i : Nat) (at_ : List Int) (T' : TB) (S' : Nat → Prop), i + kq = l.length ∧ v12 = .int .i64 i ∧ Aside0 (loadP (l.drop i) at_ T' = some R) ∧ T'.ns.length + kq < 1000000000000 ∧ Aside0 (at_.length ≤ i + 2) ∧ Aside0 (∀ k, S' k → ((S k ∧ k < w.heap.size) ∨ w.heap.size < k) ∧ k < w'.heap.size) ∧ Aside0 (Tab w' S' t T') ∧ Aside0 ((Kd.int .i64).R 3 w' 0 (fun k => w.heap.size < k ∧ ¬ S' k) v5 at_) ∧ Aside0 (w'.heap[w.heap.size]? = some (.cells #[.int .i64 vars, .slice A l.length c, .int .i64 root] 28 (0, 0))) ∧ Aside0 (Fr S w w'))
  case atStart =>
    refine ⟨0, [0, 1], T, fun k => S k ∧ k < w.heap.size, by omega, rfl, H, hl, Aside0.mk (Nat.le_refl _), Aside0.mk (fun k hk => ⟨.inl hk, Nat.lt_of_lt_of_le hk.2 hb1.size⟩), Aside0.mk (HT.out.bound.below hb1), Aside0.mk (Kd.R_mono hf2.out (fun k hk => ⟨hk, fun h2 => ?_⟩)), hf1, Aside0.mk (Fr.of_below hb1)⟩
    have := h2.2; omega
  case round =>
    clear hb0 hb1 hf1 hf2
    obtain ⟨i, at_, T', S', hi, rfl, HL, hlen, HAL, HS, HT', HO, HBX, HF⟩ := hrel
    have hbx := (blk_cell HBX.out 1).trans rfl
    by_cases hlt : i < l.length
    · obtain ⟨ad, e1, x0, x1, x2⟩ := at_T107 (HR.out wr HF.out) (i : Int) (by omega) (by omega)
      subst e1
      have hd : decide (i < l.length) = true := decide_eq_true hlt
      simp only [Int.toNat_natCast] at x0 x1 x2
      obtain ⟨n, hn⟩ : ∃ n, n = rd_T107 l i := ⟨_, rfl⟩
      rw [← hn] at x0 x1 x2
      replace hn := Aside0.mk hn
      have hdrop : l.drop i = n :: l.drop (i + 1) := by
        rw [List.drop_eq_getElem_cons hlt, hn.out]
        simp [rd_T107, hlt]
      have hL2 := HL.out
      rw [hdrop] at hL2
      unfold loadP at hL2
      split at hL2
      case isFalse => cases hL2
      rename_i hin
      obtain ⟨q1, q2, q3, q4⟩ := hin
      replace hL2 := Aside0.mk hL2
      clear HL hdrop
      obtain ⟨A5, c5, rfl, hc5, hC5⟩ := Kd.R_reads HO.out
      obtain ⟨ad5, e5, y1⟩ := Kd.at_int hC5 n.f1 q1 q2
      obtain ⟨ad6, e6, y2⟩ := Kd.at_int hC5 n.f2 q3 q4
      obtain rfl : ad5 = ad6 := by rw [e5] at e6; injection e6
      subst e5
      go_wp2
      have hbel3 : Below wr.heap.size wr (wr.alloc (Obj.cells #[Value.int IntKind.i64 n.f0, Value.int IntKind.i64 n.f1, Value.int IntKind.i64 n.f2] 107)) := below_alloc (Below.refl _ _) _
      have z := blk_new wr (Obj.cells #[Value.int IntKind.i64 n.f0, Value.int IntKind.i64 n.f1, Value.int IntKind.i64 n.f2] 107)
      have z0 := (blk_cell z 0).trans rfl
      have z1 := (blk_cell z 1).trans rfl
      have z2 := (blk_cell z 2).trans rfl
      replace y1 := pw_cell_below hbel3 y1
      replace y2 := pw_cell_below hbel3 y2
      have HB3 := Aside0.mk hbel3
      have hsz3 : wr.heap.size < (wr.alloc (Obj.cells #[Value.int IntKind.i64 n.f0, Value.int IntKind.i64 n.f1, Value.int IntKind.i64 n.f2] 107)).heap.size := by simp
      clear hbel3 z x0 x1 x2 hC5
      generalize (wr.alloc (Obj.cells #[Value.int IntKind.i64 n.f0, Value.int IntKind.i64 n.f1, Value.int IntKind.i64 n.f2] 107)) = w3 at z0 z1 z2 y1 y2 HB3 hsz3 ⊢
      have HT3 : Aside0 (Tab w3.drew S' t T') := Aside0.mk (HT'.out.below (below_drew HB3.out))
      have HO3 := Aside0.mk (Kd.R_drew (Kd.R_below HO.out HB3.out))
      have hlen' : T'.ns.length < 1000000000000 := by omega
      have hsz0 : Aside0 (w.heap.size < w3.drew.heap.size) := Aside0.mk (by have := blk_lt HBX.out; show w.heap.size < w3.heap.size; omega)
      have hal : Aside0 ((at_.length + 1) * 8 ≤ 140737488355328) := Aside0.mk (by have := HAL.out; omega)
      have HN : Aside0 (Calls Try.prog 105 #[.pointer (some ⟨t, 0, none⟩), .agg #[.int .i64 n.f0, .int .i64 (rd at_ n.f1), .int .i64 (rd at_ n.f2)]] w3.drew fun e w4 => e = .returned (.int .i64 (nodeP T' ⟨n.f0, rd at_ n.f1, rd at_ n.f2⟩).1) ∧ Aside0 (Tab w4 (fun k => (S' k ∨ w3.heap.size ≤ k) ∧ k < w4.heap.size) t (nodeP T' ⟨n.f0, rd at_ n.f1, rd at_ n.f2⟩).2) ∧ Aside0 (Fr S' w3.drew w4) ∧ Aside0 ((Kd.int .i64).R 3 w4 0 (fun k => w.heap.size < k ∧ ¬ ((S' k ∨ w3.heap.size ≤ k) ∧ k < w4.heap.size)) (.slice (some ad5) at_.length c5) at_) ∧ Aside0 (w.heap.size < w4.heap.size)) :=
        Aside0.mk ((node_calls t T' ⟨n.f0, rd at_ n.f1, rd at_ n.f2⟩ w3.drew HT3.out hlen').mono fun e w4 h => ⟨h.1, ⟨h.2.1.bound⟩, ⟨h.2.2⟩, ⟨Kd.R_mono (h.2.2.R (Kd.R_bound HO3.out) (fun k hk => hk.1.2)) (fun k hk => ⟨hk.1.1, fun h => h.1.elim hk.1.2 (fun h => Nat.lt_irrefl _ (Nat.lt_of_lt_of_le hk.2.2.1 h))⟩)⟩, ⟨Nat.lt_of_lt_of_le hsz0.out h.2.2.size⟩⟩)
      clear HT3 HO3 hsz0 hlen'
      refine start_ (n := 19) (S := fun w' => (w'.cell? ⟨wr.heap.size, 0, none⟩ = some (.int .i64 n.f0)) ∧ (w'.cell? ⟨wr.heap.size, 1, none⟩ = some (.int .i64 n.f1)) ∧ (w'.cell? ⟨wr.heap.size, 2, none⟩ = some (.int .i64 n.f2)) ∧ (w'.cell? (ad5.add n.f1.toNat) = some (.int .i64 (rd at_ n.f1))) ∧ (w'.cell? (ad5.add n.f2.toNat) = some (.int .i64 (rd at_ n.f2)))) (ds := [15, 16, 17, 18]) #[false, false, false, false, false, false, false, false, false, false, false, false, false, false, false, false, false, false, false] (by kernel_rfl) rfl rfl ⟨z0, z1, z2, y1, y2⟩ (fun hHeld => ?_)
      refine with_tabW tb_load_5.tab tb_load_5.bits (fun HT_ HW_ => ?_)
      refine pure_ (i := 0) (N := some 16) (v := ?_) (a' := ?_) #[true, false, false, false, false, false, false, false, false, false, false, false, false, false, false, false, false, false, false] rfl rfl (any_of HT_.out (by kernel_rfl)) (fun _ _ _ h => h) (Or.inl ⟨by rfl, ?_⟩) ?_ ?_
      rotate_left
      · intro w'
        go_simp
        with_reducible rfl
      rotate_left
      · simp only [Act.put, List.setIfInBounds_toArray, List.set_cons_zero, List.set_cons_succ, i64_w, i32_w]
        rfl
      refine pure_ (i := 1) (N := some 17) (v := ?_) (a' := ?_) #[true, true, false, false, false, false, false, false, false, false, false, false, false, false, false, false, false, false, false] rfl rfl (any_of HT_.out (by kernel_rfl)) (fun _ _ _ h => h) (Or.inl ⟨by rfl, ?_⟩) ?_ ?_
      rotate_left
      · intro w'
        go_simp
        with_reducible rfl
      rotate_left
      · simp only [Act.put, List.setIfInBounds_toArray, List.set_cons_zero, List.set_cons_succ, i64_w, i32_w]
        rfl
      refine pure_ (i := 2) (N := some 18) (v := ?_) (a' := ?_) #[true, true, true, false, false, false, false, false, false, false, false, false, false, false, false, false, false, false, false] rfl rfl (any_of HT_.out (by kernel_rfl)) (fun _ _ _ h => h) (Or.inl ⟨by rfl, ?_⟩) ?_ ?_
      rotate_left
      · intro w'
        go_simp
        with_reducible rfl
      rotate_left
      · simp only [Act.put, List.setIfInBounds_toArray, List.set_cons_zero, List.set_cons_succ, i64_w, i32_w]
        rfl
      refine take_ (i := 3) (N := some 19) (v := ?_) (a' := ?_) #[true, true, true, true, false, false, false, false, false, false, false, false, false, false, false, false, false, false, false] rfl rfl (take_ofW HT_.out HW_.out (by kernel_rfl)) (fun _ _ _ h => h) (Or.inl ⟨by rfl, ?_⟩) hHeld ?_ ?_
      rotate_left
      · rintro w' ⟨s0, s1, s2, s3, s4⟩
        go_simp
        with_reducible rfl
      rotate_left
      · simp only [Act.put, List.setIfInBounds_toArray, List.set_cons_zero, List.set_cons_succ, i64_w, i32_w]
        rfl
      refine pure_ (i := 4) (N := some 20) (v := ?_) (a' := ?_) #[true, true, true, true, true, false, false, false, false, false, false, false, false, false, false, false, false, false, false] rfl rfl (any_of HT_.out (by kernel_rfl)) (fun _ _ _ h => h) (Or.inl ⟨by rfl, ?_⟩) ?_ ?_
      rotate_left
      · intro w'
        go_simp
        with_reducible rfl
      rotate_left
      · simp only [Act.put, List.setIfInBounds_toArray, List.set_cons_zero, List.set_cons_succ, i64_w, i32_w]
        rfl
      refine pure_ (i := 5) (N := some 21) (v := ?_) (a' := ?_) #[true, true, true, true, true, true, false, false, false, false, false, false, false, false, false, false, false, false, false] rfl rfl (any_of HT_.out (by kernel_rfl)) (fun _ _ _ h => h) (Or.inl ⟨by rfl, ?_⟩) ?_ ?_
      rotate_left
      · intro w'
        go_simp
        with_reducible rfl
      rotate_left
      · simp only [Act.put, List.setIfInBounds_toArray, List.set_cons_zero, List.set_cons_succ, i64_w, i32_w]
        rfl
      refine take_ (i := 6) (N := some 22) (v := ?_) (a' := ?_) #[true, true, true, true, true, true, true, false, false, false, false, false, false, false, false, false, false, false, false] rfl rfl (take_ofW HT_.out HW_.out (by kernel_rfl)) (fun _ _ _ h => h) (Or.inl ⟨by rfl, ?_⟩) hHeld ?_ ?_
      rotate_left
      · rintro w' ⟨s0, s1, s2, s3, s4⟩
        go_simp
        with_reducible rfl
      rotate_left
      · simp only [Act.put, List.setIfInBounds_toArray, List.set_cons_zero, List.set_cons_succ, i64_w, i32_w]
        rfl
      refine pure_ (i := 7) (N := some 23) (v := ?_) (a' := ?_) #[true, true, true, true, true, true, true, true, false, false, false, false, false, false, false, false, false, false, false] rfl rfl (any_of HT_.out (by kernel_rfl)) (fun _ _ _ h => h) (Or.inl ⟨by rfl, ?_⟩) ?_ ?_
      rotate_left
      · intro w'
        go_simp
        with_reducible rfl
      rotate_left
      · simp only [Act.put, List.setIfInBounds_toArray, List.set_cons_zero, List.set_cons_succ, i64_w, i32_w]
        rfl
      refine take_ (i := 8) (N := some 24) (v := ?_) (a' := ?_) #[true, true, true, true, true, true, true, true, true, false, false, false, false, false, false, false, false, false, false] rfl rfl (take_ofW HT_.out HW_.out (by kernel_rfl)) (fun _ _ _ h => h) (Or.inl ⟨by rfl, ?_⟩) hHeld ?_ ?_
      rotate_left
      · rintro w' ⟨s0, s1, s2, s3, s4⟩
        go_simp
        with_reducible rfl
      rotate_left
      · simp only [Act.put, List.setIfInBounds_toArray, List.set_cons_zero, List.set_cons_succ, i64_w, i32_w]
        rfl
      refine pure_ (i := 9) (N := some 25) (v := ?_) (a' := ?_) #[true, true, true, true, true, true, true, true, true, true, false, false, false, false, false, false, false, false, false] rfl rfl (any_of HT_.out (by kernel_rfl)) (fun _ _ _ h => h) (Or.inl ⟨by rfl, ?_⟩) ?_ ?_
      rotate_left
      · intro w'
        go_simp
        with_reducible rfl
      rotate_left
      · simp only [Act.put, List.setIfInBounds_toArray, List.set_cons_zero, List.set_cons_succ, i64_w, i32_w]
        rfl
      refine pure_ (i := 10) (N := some 26) (v := ?_) (a' := ?_) #[true, true, true, true, true, true, true, true, true, true, true, false, false, false, false, false, false, false, false] rfl rfl (any_of HT_.out (by kernel_rfl)) (fun _ _ _ h => h) (Or.inl ⟨by rfl, ?_⟩) ?_ ?_
      rotate_left
      · intro w'
        go_simp
        with_reducible rfl
      rotate_left
      · simp only [Act.put, List.setIfInBounds_toArray, List.set_cons_zero, List.set_cons_succ, i64_w, i32_w]
        rfl
      refine take_ (i := 11) (N := some 27) (v := ?_) (a' := ?_) #[true, true, true, true, true, true, true, true, true, true, true, true, false, false, false, false, false, false, false] rfl rfl (take_ofW HT_.out HW_.out (by kernel_rfl)) (fun _ _ _ h => h) (Or.inl ⟨by rfl, ?_⟩) hHeld ?_ ?_
      rotate_left
      · rintro w' ⟨s0, s1, s2, s3, s4⟩
        go_simp
        with_reducible rfl
      rotate_left
      · simp only [Act.put, List.setIfInBounds_toArray, List.set_cons_zero, List.set_cons_succ, i64_w, i32_w]
        rfl
      refine pure_ (i := 12) (N := some 28) (v := ?_) (a' := ?_) #[true, true, true, true, true, true, true, true, true, true, true, true, true, false, false, false, false, false, false] rfl rfl (any_of HT_.out (by kernel_rfl)) (fun _ _ _ h => h) (Or.inl ⟨by rfl, ?_⟩) ?_ ?_
      rotate_left
      · intro w'
        go_simp
        with_reducible rfl
      rotate_left
      · simp only [Act.put, List.setIfInBounds_toArray, List.set_cons_zero, List.set_cons_succ, i64_w, i32_w]
        rfl
      refine take_ (i := 13) (N := some 29) (v := ?_) (a' := ?_) #[true, true, true, true, true, true, true, true, true, true, true, true, true, true, false, false, false, false, false] rfl rfl (take_ofW HT_.out HW_.out (by kernel_rfl)) (fun _ _ _ h => h) (Or.inl ⟨by rfl, ?_⟩) hHeld ?_ ?_
      rotate_left
      · rintro w' ⟨s0, s1, s2, s3, s4⟩
        go_simp
        with_reducible rfl
      rotate_left
      · simp only [Act.put, List.setIfInBounds_toArray, List.set_cons_zero, List.set_cons_succ, i64_w, i32_w]
        rfl
      refine pure_ (i := 14) (N := some 30) (v := ?_) (a' := ?_) #[true, true, true, true, true, true, true, true, true, true, true, true, true, true, true, false, false, false, false] rfl rfl (any_of HT_.out (by kernel_rfl)) (fun _ _ _ h => h) (Or.inl ⟨by rfl, ?_⟩) ?_ ?_
      rotate_left
      · intro w'
        go_simp
        with_reducible rfl
      rotate_left
      · simp only [Act.put, List.setIfInBounds_toArray, List.set_cons_zero, List.set_cons_succ, i64_w, i32_w]
        rfl
      refine last_ (i := 15) (N := some 31) #[true, true, true, true, true, true, true, true, true, true, true, true, true, true, true, true, false, false, false] rfl rfl (one_of HT_.out (by kernel_rfl)) (by decide) (fun K hK => ?_)
      refine goes_ Try.func105 (by kernel_rfl) rfl #[.pointer (some ⟨t, 0, none⟩), .agg #[.int .i64 n.f0, .int .i64 (rd at_ n.f1), .int .i64 (rd at_ n.f2)]] (by rfl) rfl rfl (by simp only [List.map_toArray, List.map_cons, List.map_nil]; rfl) ?_
      refine HN.out.mono ?_
      rintro e w4 ⟨rfl, HT4, HF4, HO4, hsz4⟩
      refine ⟨_, rfl, ?_⟩
      refine hK.out _ _ ?_
      clear hK K
      refine norm_ (a' := ?_) ?_ ?_
      rotate_left
      · show Act.put _ (some 31) _ = _
        (try simp only [Act.put, List.setIfInBounds_toArray, List.set_cons_zero, List.set_cons_succ, i64_w, i32_w])
        rfl
      refine last_ (i := 16) (N := some 32) #[true, true, true, true, true, true, true, true, true, true, true, true, true, true, true, true, true, false, false] rfl rfl (one_of HT_.out (by kernel_rfl)) (by decide) (fun K hK => ?_)
      refine value_ (w1 := ?_) (v := ?_) (by rfl) rfl ?_ ?_
      rotate_left 2
      · go_simp
        constructor
        · rfl
        · rfl
      refine hK.out _ _ ?_
      clear hK K
      refine norm_ (a' := ?_) ?_ ?_
      rotate_left
      · show Act.put _ (some 32) _ = _
        (try simp only [Act.put, List.setIfInBounds_toArray, List.set_cons_zero, List.set_cons_succ, i64_w, i32_w])
        rfl
      refine last_ (i := 17) (N := some 33) #[true, true, true, true, true, true, true, true, true, true, true, true, true, true, true, true, true, true, false] rfl rfl (one_of HT_.out (by kernel_rfl)) (by decide) (fun K hK => ?_)
      refine Kd.R_append_step (Kd.int .i64) (w0 := w4) 0 (by rfl) (.tmp 16) (.tmp 32) 82 3 _ 8 rfl Try.underlying82 info3 rfl (by decide) (by decide) (.slice (some ad5) at_.length c5) at_ _ _ _ (fun _ => False) rfl rfl rfl (fun k hk => hk.elim) (fun k hk => ⟨Nat.lt_of_lt_of_le hsz4.out hk, fun h2 => Nat.lt_irrefl _ (Nat.lt_of_lt_of_le h2.2 hk)⟩) HO4.out (Below.refl 0 _) (Nat.zero_le _) hal.out ?_
      intro v5 w5 hR5 hB5 hg5 hat5
      obtain ⟨A5', c5', rfl, hc5', hC5'⟩ := Kd.R_reads hR5
      refine hK.out _ _ ?_
      clear hK K
      refine norm_ (a' := ?_) ?_ ?_
      rotate_left
      · show Act.put _ (some 33) _ = _
        (try simp only [Act.put, List.setIfInBounds_toArray, List.set_cons_zero, List.set_cons_succ, i64_w, i32_w])
        rfl
      refine last_ (i := 18) (N := some 5) #[true, true, true, true, true, true, true, true, true, true, true, true, true, true, true, true, true, true, true] rfl rfl (one_of HT_.out (by kernel_rfl)) (by decide) (fun K hK => ?_)
      refine value_ (w1 := ?_) (v := ?_) (by rfl) rfl ?_ ?_
      rotate_left 2
      · go_simp
        constructor
        · rfl
        · rfl
      refine hK.out _ _ ?_
      clear hK K
      refine norm_ (a' := ?_) ?_ ?_
      rotate_left
      · show Act.put _ (some 5) _ = _
        (try simp only [Act.put, List.setIfInBounds_toArray, List.set_cons_zero, List.set_cons_succ, i64_w, i32_w])
        rfl
      refine done_ (done_of HT_.out (by kernel_rfl)) ?_
      clear z0 z1 z2 y1 y2 hHeld
      have hi2 : (i : Int) + 1 ≤ 1000000000001 := by omega
      have hi3 : (0 : Int) ≤ i := by omega
      go_wp2
      go_roundg (gk - 1)
      case measure => omega
      case rel =>
        have hne5 : ∀ k, (Value.slice (some ad5) at_.length c5).ownBlock = some k → w.heap.size < k ∧ ¬ ((S' k ∨ w3.heap.size ≤ k) ∧ k < w4.heap.size) := HO4.out.1
        have hT5 : Tab w5 (fun k => (S' k ∨ w3.heap.size ≤ k) ∧ k < w4.heap.size) t (nodeP T' ⟨n.f0, rd at_ n.f1, rd at_ n.f2⟩).2 :=
          HT4.out.move (fun k hk hlt => hg5.block k hlt (fun e => (hne5 k e.symm).2 hk))
        have hF5 : Fr S w w5 := by
          have h3 : Fr S w w3.drew := HF.out.then_ (S2 := S) (Fr.of_below (below_drew HB3.out)) (fun i h => .inl h)
          have h4 : Fr S w w4 := h3.then_ (S2 := S') HF4.out (fun i h => ((HS.out i h).1).imp And.left Nat.le_of_lt)
          exact h4.then_ (S2 := fun k => (Value.slice (some ad5) at_.length c5).ownBlock = some k) (Fr.of_grown hg5 (fun k h => h)) (fun i h => .inr (Nat.le_of_lt (hne5 i h).1))
        have hl5 : (at_ ++ [(nodeP T' ⟨n.f0, rd at_ n.f1, rd at_ n.f2⟩).1]).length = at_.length + 1 := by simp
        rw [hl5] at hR5
        have hnl := nodeP_len T' ⟨n.f0, rd at_ n.f1, rd at_ n.f2⟩
        refine ⟨i + 1, at_ ++ [(nodeP T' ⟨n.f0, rd at_ n.f1, rd at_ n.f2⟩).1], (nodeP T' ⟨n.f0, rd at_ n.f1, rd at_ n.f2⟩).2, fun k => (S' k ∨ w3.heap.size ≤ k) ∧ k < w4.heap.size, by omega, by go_num, hL2, by omega, ⟨by have := HAL.out; omega⟩, ⟨fun k hk => ⟨?_, Nat.lt_of_lt_of_le hk.2 hg5.size⟩⟩, ⟨hT5⟩, ⟨hR5⟩, ⟨?_⟩, ⟨hF5⟩⟩
        · rcases hk.1 with h | h
          · exact (HS.out k h).1
          · have := blk_lt HBX.out; omega
        · have hlt3 : w.heap.size < w3.heap.size := by have := blk_lt HBX.out; omega
          have h1 : w3.heap[w.heap.size]? = some (.cells #[.int .i64 vars, .slice (some ad) l.length c, .int .i64 root] 28 (0, 0)) := blk_below HBX.out HB3.out
          have h2 : w4.heap[w.heap.size]? = _ := (HF4.out.block w.heap.size hlt3 (fun h => ?_)).trans h1
          · exact (hg5.block _ hsz4.out (fun e => Nat.lt_irrefl _ (hne5 _ e.symm).1)).trans h2
          · rcases (HS.out _ h).1 with h' | h'
            · exact Nat.lt_irrefl _ h'.2
            · exact Nat.lt_irrefl _ h'
    · have hd : decide (i < l.length) = false := decide_eq_false hlt
      have hge : l.drop i = [] := List.drop_eq_nil_of_le (by omega)
      have hL2 := HL.out
      rw [hge] at hL2
      unfold loadP at hL2
      obtain rfl := Option.some.inj hL2
      clear hL2 HL hge
      obtain ⟨A5, c5, rfl, hc5, hC5⟩ := Kd.R_reads HO.out
      obtain ⟨ad5, rfl, y1⟩ := Kd.at_int hC5 root hroot.1 hroot.2
      have hr0 := hroot.1
      have hr1 := hroot.2
      have hbx2 := (blk_cell HBX.out 2).trans rfl
      clear hroot
      go_wp2
      go_ret
      refine ⟨rfl, HT'.out.mono (fun k hk => (HS.out k hk).1.imp And.left Nat.le_of_lt), HF.out⟩
end Go.Proofs.Ytlplphgoldkoeaa.HTab
end
