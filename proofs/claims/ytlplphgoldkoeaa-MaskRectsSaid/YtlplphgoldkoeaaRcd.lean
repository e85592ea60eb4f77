/- Lemmas, part 4. -/
import Derived.Test.YtlplphgoldkoeaaRows
import Derived.WalkKit
import Derived.ProofKit
import Derived.OpenShut
import Derived.ShutString
import Derived.ChangeOld
import Derived.Below
import Derived.SizedLaws
import Derived.Lib.SmallJoins
import Derived.Maps.OwnOps
import Derived.Laws.StructEq
import Derived.Test.YtlplphgoldkoeaaProg
import Derived.Deep.Draws
import Derived.Deep.AppendLies
import Derived.Maps.AppendAt
import Derived.OwnWalk
import Derived.Laws.BytesArg
import Derived.Laws.MakeOwn
import Derived.Laws.OwnMore
import Derived.Deep.OwnRows
import Derived.Tactics
import Derived.Lib.ConvBytes
import Derived.Laws.Slices
import Derived.KernelRfl
import Derived.RowKit3
import Derived.Deep.LoopGhost
import Derived.Deep.QuietTactic
import Derived.BigQuiet
import Derived.WideLaws
import Derived.Deep.DeepCutAuto
import Derived.Deep.CutBlock
import Derived.Deep.RegionHeld3
import Derived.Laws.Rows
import Derived.Lib.AppendStr
import Derived.ArgAppend
import Derived.Laws.IdiomCopy
import Derived.OrdersHeld
import Derived.Laws.BitsLemmas
import Derived.RowKit
import Derived.Deep.RegionLaw
import Derived.BigRegion
import Derived.StillTailTactics
import Derived.Lib.Hide
import Derived.Deep.DeepMust
import Derived.Laws.EntriesVeiled
import Derived.Test.YtlplphgoldkoeaaRca
import Derived.Test.YtlplphgoldkoeaaRcb
import Derived.Test.YtlplphgoldkoeaaRcc
section
/- Opening an array of four whole numbers. -/
namespace Go.Proofs.Ytlplphgoldkoeaa.HTab
open Go.ChangeShapes Go.WideShapes Go.ChangeAt Go.RowKit
set_option linter.unusedVariables false
set_option maxRecDepth 100000 in
theorem open_arr4 {H : Type} {enc : TypeId × Value → H} {W : World} {r : Reach} {b0 base : Nat} {sp : Nat → Bool} {held : Bool} {v : Value} {d : DataW H} {ps : List MemPlace} (hval : Value.okWide Try.prog W r b0 22 v) (hd : DataW.Trod enc Try.prog W base sp held 22 v d ps) :
    ∃ a0 a1 a2 a3 : Int, v = .agg #[.int .i64 a0, .int .i64 a1, .int .i64 a2, .int .i64 a3] ∧ (Lit.int .i64 a0).wf = true ∧ (Lit.int .i64 a1).wf = true ∧ (Lit.int .i64 a2).wf = true ∧ (Lit.int .i64 a3).wf = true := by
  have hu := Try.underlying22
  have hc : Try.prog.cellsOf 22 = 4 := by kernel_rfl
  have he : Try.prog.cellsOf 3 = 1 := by kernel_rfl
  simp only [Value.okWide, hu] at hval
  obtain ⟨cs, rfl, h2, _⟩ := hval
  rw [hc] at h2
  obtain ⟨c0, c1, c2, c3, rfl⟩ := Go.Joins.array4 h2
  obtain ⟨fuel, hf⟩ := hd
  obtain ⟨xs, m, _, _, _, hl, hx⟩ := Go.DataW.trod_array hu hf
  have g0 := hx 0 (by omega)
  have g1 := hx 1 (by omega)
  have g2 := hx 2 (by omega)
  have g3 := hx 3 (by omega)
  match xs, hl with
  | [y0, y1, y2, y3], _ =>
    simp [he, Value.cells] at g0 g1 g2 g3
    obtain ⟨n0, e0, _, w0⟩ := DataW.trod_int Try.underlying3 g0
    obtain ⟨n1, e1, _, w1⟩ := DataW.trod_int Try.underlying3 g1
    obtain ⟨n2, e2, _, w2⟩ := DataW.trod_int Try.underlying3 g2
    obtain ⟨n3, e3, _, w3⟩ := DataW.trod_int Try.underlying3 g3
    simp at e0 e1 e2 e3
    subst e0 e1 e2 e3
    exact ⟨n0, n1, n2, n3, rfl, w0, w1, w2, w3⟩
end Go.Proofs.Ytlplphgoldkoeaa.HTab

end

section
/- Maps of a call, as plain lists of pairs: look-up and store. -/
namespace Go.Proofs.Ytlplphgoldkoeaa.HMap
open Go.RowKit Go.MapKept
open Go.ChangeMaps (setBlock)

/-- What is asked of a key's type: all by closed facts. -/
structure MKey {α : Type} [DecidableEq α] (P : Program) (kt : TypeId) (enc : α → Value) : Prop where
  check : ∀ w em x, (Instr.checkKey em 10000 kt (enc x)).run P w = .ok () w
  und : ∃ u, P.underlying kt = some u ∧ ((∀ x y, Instr.sameNow u (enc x) (enc y) = none) ∨ (∀ x y, Instr.sameNow u (enc x) (enc y) = some (decide (x = y))))
  eq : ∀ w x y, (Op.equal kt (enc x) (enc y)).run P w = .ok (decide (x = y)) w
  same : ∀ x, Instr.sameBits 10000 (enc x) (enc x) = true

/-- Block b is a map with just these entries. -/
def MapIs {α β : Type} (enc : α → Value) (encv : β → Value) (w : World) (b : Nat) (L : List (α × β)) : Prop :=
  ∃ es clk, w.heap[b]? = some (.map es clk) ∧ es.toList.map (fun e => (e.key, e.val)) = L.map (fun p => (enc p.1, encv p.2))

theorem MapIs.lt {α β : Type} {enc : α → Value} {encv : β → Value} {w : World} {b : Nat} {L : List (α × β)} (h : MapIs enc encv w b L) : b < w.heap.size := by
  obtain ⟨es, clk, hb, _⟩ := h
  exact (Array.getElem?_eq_some_iff.1 hb).1
theorem MapIs.move {α β : Type} {enc : α → Value} {encv : β → Value} {w w1 : World} {b : Nat} {L : List (α × β)} (h : MapIs enc encv w b L) (hm : w1.heap[b]? = w.heap[b]?) : MapIs enc encv w1 b L := by
  obtain ⟨es, clk, hb, he⟩ := h
  exact ⟨es, clk, hm.trans hb, he⟩
theorem setBlock_size (w : World) (b : Nat) (o : Obj) : (setBlock w b o).heap.size = w.heap.size := by simp [setBlock]
theorem setBlock_other (w : World) (b : Nat) (o : Obj) (i : Nat) (h : i ≠ b) : (setBlock w b o).heap[i]? = w.heap[i]? := by
  simp [setBlock, Array.getElem?_setIfInBounds, Ne.symm h]
theorem MapIs.made {α β : Type} (enc : α → Value) (encv : β → Value) (w : World) : MapIs enc encv (w.alloc (.map #[] 0)) w.heap.size [] :=
  ⟨#[], 0, heap_alloc_new w _, rfl⟩
section
variable {α β : Type} [DecidableEq α] {P : Program} {kt : TypeId} {enc : α → Value} {encv : β → Value}

/-- The first entry at a key: its place and value. -/
def look : List (α × β) → α → Option β
  | [], _ => none
  | p :: r, x => if x = p.1 then some p.2 else look r x
def placeOf : List (α × β) → α → Nat → Option (Nat × β)
  | [], _, _ => none
  | p :: r, x, i => if x = p.1 then some (i, p.2) else placeOf r x (i + 1)
/-- The list behind a store. -/
def upd : List (α × β) → α → β → List (α × β)
  | [], x, v => [(x, v)]
  | p :: r, x, v => if x = p.1 then (x, v) :: r else p :: upd r x v

theorem placeOf_look (L : List (α × β)) (x : α) (i : Nat) : (placeOf L x i).map (·.2) = look L x := by
  induction L generalizing i with
  | nil => rfl
  | cons p r ih => unfold placeOf look; split <;> simp [*]
theorem placeOf_get (L : List (α × β)) (x : α) (i j : Nat) (v : β) (h : placeOf L x i = some (j, v)) : ∃ d, j = i + d ∧ L[d]? = some (x, v) := by
  induction L generalizing i with
  | nil => simp [placeOf] at h
  | cons p r ih =>
    unfold placeOf at h
    split at h
    · rename_i e
      simp only [Option.some.injEq, Prod.mk.injEq] at h
      exact ⟨0, by omega, by obtain ⟨h1, h2⟩ := h; subst h2; subst e; rfl⟩
    · obtain ⟨d, h1, h2⟩ := ih _ h
      exact ⟨d + 1, by omega, by simpa using h2⟩
theorem upd_none (L : List (α × β)) (x : α) (v : β) (h : look L x = none) : upd L x v = L ++ [(x, v)] := by
  induction L with
  | nil => rfl
  | cons p r ih =>
    unfold look at h
    split at h
    · cases h
    · rename_i e; unfold upd; rw [if_neg e, ih h]; rfl
theorem upd_place (L : List (α × β)) (x : α) (v v0 : β) (i j : Nat) (h : placeOf L x i = some (j, v0)) : upd L x v = L.set (j - i) (x, v) := by
  induction L generalizing i with
  | nil => simp [placeOf] at h
  | cons p r ih =>
    unfold placeOf at h
    split at h
    · rename_i e
      simp only [Option.some.injEq, Prod.mk.injEq] at h
      obtain ⟨rfl, _⟩ := h
      unfold upd; rw [if_pos e]; simp
    · rename_i e
      obtain ⟨d, h1, h2⟩ := placeOf_get _ _ _ _ _ h
      unfold upd; rw [if_neg e, ih _ h]
      rw [show j - i = (j - (i + 1)) + 1 by omega]; rfl
theorem look_upd_same (L : List (α × β)) (x : α) (v : β) : look (upd L x v) x = some v := by
  induction L with
  | nil => simp [upd, look]
  | cons p r ih => unfold upd; split <;> simp [look, *]
theorem look_upd_other (L : List (α × β)) (x y : α) (v : β) (h : y ≠ x) : look (upd L x v) y = look L y := by
  induction L with
  | nil => simp [upd, look, h]
  | cons p r ih =>
    unfold upd
    split
    · rename_i e; subst e; simp [look, h]
    · simp [look, ih]
theorem length_upd (L : List (α × β)) (x : α) (v : β) : (upd L x v).length ≤ L.length + 1 := by
  induction L with
  | nil => simp [upd]
  | cons p r ih => unfold upd; split <;> simp <;> omega

theorem run_findAsking (K : MKey P kt enc) (w : World) (x : α) : ∀ (es : List MapEntry) (L : List (α × β)) (i : Nat), es.map (fun e => (e.key, e.val)) = L.map (fun p => (enc p.1, encv p.2)) →
    (Instr.findAsking kt (enc x) es i).run P w = .ok ((placeOf L x i).map fun q => (q.1, encv q.2)) w
  | [], [], i, _ => by simp [Instr.findAsking, placeOf]
  | e :: es, p :: L, i, h => by
    simp only [List.map_cons, List.cons.injEq, Prod.mk.injEq] at h
    obtain ⟨⟨h1, h2⟩, h3⟩ := h
    have ih := run_findAsking K w x es L (i + 1) h3
    simp only [Instr.findAsking, Sem.run_bind, h1, K.eq, Result.andThen_ok, placeOf]
    by_cases e : x = p.1
    · simp [e, h2]
    · simp [e, ih]
  | [], _ :: _, _, h => by simp at h
  | _ :: _, [], _, h => by simp at h

theorem findNow_some {u : TypeDesc} (hu : ∀ x y : α, Instr.sameNow u (enc x) (enc y) = some (decide (x = y))) (x : α) : ∀ (es : List MapEntry) (L : List (α × β)) (i : Nat), es.map (fun e => (e.key, e.val)) = L.map (fun p => (enc p.1, encv p.2)) →
    Instr.findNow u (enc x) es i = some ((placeOf L x i).map fun q => (q.1, encv q.2))
  | [], [], i, _ => by simp [Instr.findNow, placeOf]
  | e :: es, p :: L, i, h => by
    simp only [List.map_cons, List.cons.injEq, Prod.mk.injEq] at h
    obtain ⟨⟨h1, h2⟩, h3⟩ := h
    have ih := findNow_some hu x es L (i + 1) h3
    simp only [Instr.findNow, h1, hu, placeOf]
    by_cases e : x = p.1
    · simp [e, h2]
    · simp [e, ih]
  | [], _ :: _, _, h => by simp at h
  | _ :: _, [], _, h => by simp at h

theorem run_findKey' (K : MKey P kt enc) (w : World) (x : α) (es : List MapEntry) (L : List (α × β)) (h : es.map (fun e => (e.key, e.val)) = L.map (fun p => (enc p.1, encv p.2))) :
    (Instr.findKey kt (enc x) es).run P w = .ok ((placeOf L x 0).map fun q => (q.1, encv q.2)) w := by
  obtain ⟨u, hu, hor⟩ := K.und
  unfold Instr.findKey
  simp only [Sem.run_bind, run_underlying hu, Result.andThen_ok]
  rcases hor with h0 | h0
  · cases es with
    | nil =>
      cases L with
      | nil => simp [Instr.findNow, placeOf]
      | cons p L => simp at h
    | cons e es =>
      cases L with
      | nil => simp at h
      | cons p L =>
        have h' := h
        simp only [List.map_cons, List.cons.injEq, Prod.mk.injEq] at h'
        have : Instr.findNow u (enc x) (e :: es) 0 = none := by simp [Instr.findNow, h'.1.1, h0]
        rw [this]
        exact run_findAsking K w x _ _ 0 h
  · rw [findNow_some h0 x _ _ 0 h]; rfl

theorem run_lookup (K : MKey P kt enc) {t e : TypeId} (ht : P.underlying t = some (.map kt e)) {w : World} {b : Nat} {L : List (α × β)} (h : MapIs enc encv w b L) (x : α) (ok : Bool) {z : Value} (hz : (zeroValue e).run P w = .ok z w) :
    (Instr.lookup t (.map (some b)) (enc x) ok).run P w = .ok (if ok then .tuple #[((look L x).map encv).getD z, .bool (look L x).isSome] else ((look L x).map encv).getD z) w := by
  obtain ⟨es, clk, hb, he⟩ := h
  have hf := run_findKey' K w x es.toList L he
  unfold Instr.lookup
  simp only [Sem.run_bind, run_underlying ht, Result.andThen_ok, Go.MapKept.run_getObj_map hb, K.check, Sem.run_pure]
  rw [hf]
  simp only [Result.andThen_ok]
  rw [← placeOf_look L x 0]
  cases placeOf L x 0 with
  | none => simp [hz, Result.andThen]
  | some q => simp

theorem run_lookup_nil (K : MKey P kt enc) {t e : TypeId} (ht : P.underlying t = some (.map kt e)) {w : World} (x : α) (ok : Bool) {z : Value} (hz : (zeroValue e).run P w = .ok z w) :
    (Instr.lookup t (.map none) (enc x) ok).run P w = .ok (if ok then .tuple #[z, .bool false] else z) w := by
  have hf := run_findKey' (encv := (fun v : Value => v)) K w x [] [] rfl
  unfold Instr.lookup
  simp only [Sem.run_bind, run_underlying ht, Result.andThen_ok, K.check, Sem.run_pure]
  rw [hf]
  simp [placeOf, hz, Result.andThen]

theorem run_keyThatStays' (K : MKey P kt enc) (w : World) (x : α) : (Instr.keyThatStays (enc x) (enc x)).run P w = .ok (enc x) w := by
  unfold Instr.keyThatStays
  simp [K.same x]


theorem run_mapUpdate (K : MKey P kt enc) {t e : TypeId} (ht : P.underlying t = some (.map kt e)) {w : World} {b : Nat} {L : List (α × β)} (h : MapIs enc encv w b L) (x : α) (v : β) :
    ∃ o, (Instr.mapUpdate t (.map (some b)) (enc x) (encv v)).run P w = .ok () (setBlock w b o) ∧ MapIs enc encv (setBlock w b o) b (upd L x v) := by
  obtain ⟨es, clk, hb, he⟩ := h
  have hf := run_findKey' K w x es.toList L he
  have hlt : b < w.heap.size := (Array.getElem?_eq_some_iff.1 hb).1
  have hlen : es.size = L.length := by have := congrArg List.length he; simpa using this
  cases hp : placeOf L x 0 with
  | none =>
    refine ⟨.map (es.push ⟨enc x, encv v, clk⟩) (clk + 1), ?_, ?_⟩
    · rw [hp] at hf
      simp [Instr.mapUpdate, run_underlying ht, Go.MapKept.run_getObj_map hb, K.check, hf, Go.MapKept.run_setObj_map _ hb, Result.andThen, setBlock]
    · refine ⟨es.push ⟨enc x, encv v, clk⟩, clk + 1, by simp [setBlock, hlt], ?_⟩
      have hl : look L x = none := by rw [← placeOf_look L x 0, hp]; rfl
      rw [upd_none L x v hl]
      simp [he]
  | some q =>
    obtain ⟨j, v0⟩ := q
    obtain ⟨d, hd, hg⟩ := placeOf_get _ _ _ _ _ hp
    have hdj : d = j := by omega
    subst hdj
    have hdl : d < L.length := (List.getElem?_eq_some_iff.1 hg).1
    have hes : d < es.size := by omega
    have hkey : (es[d]'hes).key = enc x ∧ (es[d]'hes).val = encv v0 := by
      have := congrArg (fun l => l[d]?) he
      simp [hg, hes] at this
      exact this
    refine ⟨.map (es.modify d fun e => { e with key := enc x, val := encv v }) clk, ?_, ?_⟩
    · rw [hp] at hf
      simp [Instr.mapUpdate, run_underlying ht, Go.MapKept.run_getObj_map hb, K.check, hf, hes, hkey.1, run_keyThatStays' K, Go.MapKept.run_setObj_map _ hb, Result.andThen, setBlock]
    · refine ⟨es.modify d fun e => { e with key := enc x, val := encv v }, clk, by simp [setBlock, hlt], ?_⟩
      rw [upd_place L x v v0 0 d hp]
      apply List.ext_getElem
      · simp [hlen]
      · intro n h1 h2
        have hn : n < es.size := by simpa using h1
        have hnL : n < L.length := by omega
        have := congrArg (fun l => l[n]?) he
        simp [hn, hnL] at this
        simp only [List.getElem_map, Array.getElem_toList, Array.getElem_modify, List.getElem_set, Nat.sub_zero]
        by_cases e : d = n
        · subst e; simp
        · simp [e, this]

/-- The store, at the operation: an arm behind 'at_mapUpdate'. -/
theorem wpList_upd {ops : Array Oper} {rest : List Oper} {o : Oper} {a : Act} {Q : Exit → Act → World → Prop} (w : World) (hg : o.guard = none) (m k v : Operand) (t : TypeId) (hop : o.op = Op.mapUpdate t m k v) {e : TypeId}
    (K : MKey P kt enc) (ht : P.underlying t = some (.map kt e)) {b : Nat} {L : List (α × β)} (h : MapIs enc encv w b L) (x : α) (y : β) (hm : a.eval m = .map (some b)) (hx : a.eval k = enc x) (hy : a.eval v = encv y)
    (hK : ∀ o', MapIs enc encv (setBlock w b o') b (upd L x y) → wpList P ops Q rest (a.put o.dst undef) (setBlock w b o')) : wpList P ops Q (o :: rest) a w := by
  refine wpList_plain hg fun K' hK' => ?_
  obtain ⟨o', hrun, hM⟩ := run_mapUpdate K ht h x y
  unfold Oper.wp
  simp [execOp, hop, hm, hx, hy, hrun, Result.andThen]
  exact hK' _ _ (hK o' hM)
/-- The same for an entry of a literal. -/
theorem wpList_ins {ops : Array Oper} {rest : List Oper} {o : Oper} {a : Act} {Q : Exit → Act → World → Prop} (w : World) (hg : o.guard = none) (m k v : Operand) (t : TypeId) (hop : o.op = Op.insert t m k v) {e : TypeId}
    (K : MKey P kt enc) (ht : P.underlying t = some (.map kt e)) {b : Nat} {L : List (α × β)} (h : MapIs enc encv w b L) (x : α) (y : β) (hm : a.eval m = .map (some b)) (hx : a.eval k = enc x) (hy : a.eval v = encv y)
    (hK : ∀ o', MapIs enc encv (setBlock w b o') b (upd L x y) → wpList P ops Q rest (a.put o.dst undef) (setBlock w b o')) : wpList P ops Q (o :: rest) a w := by
  refine wpList_plain hg fun K' hK' => ?_
  obtain ⟨o', hrun, hM⟩ := run_mapUpdate K ht h x y
  unfold Oper.wp
  simp [execOp, hop, hm, hx, hy, hrun, Result.andThen]
  exact hK' _ _ (hK o' hM)
end
end Go.Proofs.Ytlplphgoldkoeaa.HMap

end

section
-- By a program of this session (xprint.py) that runs the print over this seat's translation.
namespace Go.Proofs.Ytlplphgoldkoeaa.X
open Go.RowKit Go.Proofs.YtlplphgoldkoeaaW.PrintWords Go.Proofs.YtlplphgoldkoeaaW.PrintLast Go.Proofs.YtlplphgoldkoeaaW.PrintMore
attribute [local go_sem] max2_int min2_int max_two min_two max_three min_three max_four min_four   -- for this text's walks alone
set_option linter.unusedVariables false
set_option linter.unusedSimpArgs false

def errW : Option Int → Value
  | none => .nilIface
  | some c => .iface 0 (.int .i64 c)
theorem errW_none : errW none = .nilIface := rfl
theorem errW_some (c : Int) : errW (some c) = .iface 0 (.int .i64 c) := rfl

theorem info2 : (Try.prog.info? 2).map (fun i => (i.zero, i.size, i.bytes)) = some (some (.int .i64 0), 1, 8) := by kernel_rfl
theorem info3 : (Try.prog.info? 3).map (fun i => (i.zero, i.size, i.bytes)) = some (some (.int .i64 0), 1, 8) := by kernel_rfl
theorem info4 : (Try.prog.info? 4).map (fun i => (i.zero, i.size, i.bytes)) = some (some (.bool false), 1, 1) := by kernel_rfl
theorem info5 : (Try.prog.info? 5).map (fun i => (i.zero, i.size, i.bytes)) = some (some (.int .u8 0), 1, 1) := by kernel_rfl
theorem info6 : (Try.prog.info? 6).map (fun i => (i.zero, i.size, i.bytes)) = some (some (.int .u8 0), 1, 1) := by kernel_rfl
theorem info9 : (Try.prog.info? 9).map (fun i => (i.zero, i.size, i.bytes)) = some (some (.string ⟨#[]⟩), 1, 16) := by kernel_rfl
theorem info10 : (Try.prog.info? 10).map (fun i => (i.zero, i.size, i.bytes)) = some (some (.string ⟨#[]⟩), 1, 16) := by kernel_rfl
theorem info11 : (Try.prog.info? 11).map (fun i => (i.zero, i.size, i.bytes)) = some (some (.string ⟨#[]⟩), 1, 16) := by kernel_rfl
theorem info12 : (Try.prog.info? 12).map (fun i => (i.zero, i.size, i.bytes)) = some (some (.int .u64 0), 1, 8) := by kernel_rfl
theorem info21 : (Try.prog.info? 21).map (fun i => (i.zero, i.size, i.bytes)) = some (some (.int .i32 0), 1, 4) := by kernel_rfl
theorem info23 : (Try.prog.info? 23).map (fun i => (i.zero, i.size, i.bytes)) = some (some (.int .i64 0), 1, 8) := by kernel_rfl
theorem info26 : (Try.prog.info? 26).map (fun i => (i.zero, i.size, i.bytes)) = some (some (.slice none 0 0), 1, 24) := by kernel_rfl
theorem info28 : (Try.prog.info? 28).map (fun i => (i.zero, i.size, i.bytes)) = some (some (.agg #[(.int .i64 0), (.slice none 0 0), (.int .i64 0)]), 3, 40) := by kernel_rfl
theorem info31 : (Try.prog.info? 31).map (fun i => (i.zero, i.size, i.bytes)) = some (some (.slice none 0 0), 1, 24) := by kernel_rfl
theorem info47 : (Try.prog.info? 47).map (fun i => (i.zero, i.size, i.bytes)) = some (some (.slice none 0 0), 1, 24) := by kernel_rfl
theorem info77 : (Try.prog.info? 77).map (fun i => (i.zero, i.size, i.bytes)) = some (some (.slice none 0 0), 1, 24) := by kernel_rfl
theorem info82 : (Try.prog.info? 82).map (fun i => (i.zero, i.size, i.bytes)) = some (some (.slice none 0 0), 1, 24) := by kernel_rfl
theorem info84 : (Try.prog.info? 84).map (fun i => (i.zero, i.size, i.bytes)) = some (some (.int .u64 0), 1, 8) := by kernel_rfl
theorem info106 : (Try.prog.info? 106).map (fun i => (i.zero, i.size, i.bytes)) = some (some (.agg #[(.int .i64 0), (.int .i64 0), (.int .i64 0)]), 3, 24) := by kernel_rfl
theorem info107 : (Try.prog.info? 107).map (fun i => (i.zero, i.size, i.bytes)) = some (some (.agg #[(.int .i64 0), (.int .i64 0), (.int .i64 0)]), 3, 24) := by kernel_rfl
theorem info139 : (Try.prog.info? 139).map (fun i => (i.zero, i.size, i.bytes)) = some (some (.slice none 0 0), 1, 24) := by kernel_rfl
theorem info152 : (Try.prog.info? 152).map (fun i => (i.zero, i.size, i.bytes)) = some (some (.slice none 0 0), 1, 24) := by kernel_rfl
theorem info156 : (Try.prog.info? 156).map (fun i => (i.zero, i.size, i.bytes)) = some (some (.slice none 0 0), 1, 24) := by kernel_rfl
theorem info167 : (Try.prog.info? 167).map (fun i => (i.zero, i.size, i.bytes)) = some (some (.int .u32 0), 1, 4) := by kernel_rfl
theorem info170 : (Try.prog.info? 170).map (fun i => (i.zero, i.size, i.bytes)) = some (some (.int .u64 0), 1, 8) := by kernel_rfl
theorem info179 : (Try.prog.info? 179).map (fun i => (i.zero, i.size, i.bytes)) = some (some (.int .u8 0), 1, 1) := by kernel_rfl
theorem info180 : (Try.prog.info? 180).map (fun i => (i.zero, i.size, i.bytes)) = some (some (.int .u8 0), 1, 1) := by kernel_rfl
theorem info183 : (Try.prog.info? 183).map (fun i => (i.zero, i.size, i.bytes)) = some (some (.int .i32 0), 1, 4) := by kernel_rfl
theorem info184 : (Try.prog.info? 184).map (fun i => (i.zero, i.size, i.bytes)) = some (some (.int .i32 0), 1, 4) := by kernel_rfl
/-! #### struct type 107 -/
structure S107 where
  f0 : Int
  f1 : Int
  f2 : Int
def z107 : S107 := ⟨(0 : Int), (0 : Int), (0 : Int)⟩
def k107 : Kd S107 := Kd.iso (Kd.pair (Kd.int .i64) (Kd.pair (Kd.int .i64) (Kd.int .i64))) (fun x : S107 => (x.f0, x.f1, x.f2))
theorem k107_open {w : World} {x : S107} {cs : List Value} (h : k107.K w x cs) : cs = [.int .i64 x.f0, .int .i64 x.f1, .int .i64 x.f2] := by
  obtain ⟨_, _, rfl, rfl, ⟨_, _, rfl, rfl, rfl⟩⟩ := h
  exact rfl
theorem k107_openM {w : World} {base : Nat} {ok : Nat → Prop} {x : S107} {cs : List Value} (h : k107.M w base ok x cs) : cs = [.int .i64 x.f0, .int .i64 x.f1, .int .i64 x.f2] := by
  obtain ⟨_, _, rfl, rfl, ⟨_, _, rfl, rfl, rfl⟩⟩ := h
  exact rfl
theorem k107_mk (w : World) (x : S107)  : k107.K w x [.int .i64 x.f0, .int .i64 x.f1, .int .i64 x.f2] := ⟨[.int .i64 x.f0], [.int .i64 x.f1, .int .i64 x.f2], rfl, rfl, ⟨[.int .i64 x.f1], [.int .i64 x.f2], rfl, rfl, rfl⟩⟩
theorem k107_mkM (w : World) (base : Nat) (ok : Nat → Prop) (x : S107)  : k107.M w base ok x [.int .i64 x.f0, .int .i64 x.f1, .int .i64 x.f2] := ⟨[.int .i64 x.f0], [.int .i64 x.f1, .int .i64 x.f2], rfl, rfl, ⟨[.int .i64 x.f1], [.int .i64 x.f2], rfl, rfl, rfl⟩⟩
theorem k107_mkF (W : World) (ok : Nat → Prop) (x : S107) : Kd.FK k107 W ok x [.int .i64 x.f0, .int .i64 x.f1, .int .i64 x.f2] := fun W2 _ => k107_mk W2 x
def rd_T107 (xs : List S107) (i : Int) : S107 := xs.getD i.toNat z107
theorem at_T107 {w : World} {A : Option Addr} {n : Nat} {xs : List S107} (h : Kd.C k107 w A n xs) (i : Int) (h0 : 0 ≤ i) (h1 : i < n) : ∃ ad , A = some ad ∧ w.cell? (ad.add (i.toNat * 3)) = some (.int .i64 (rd_T107 xs i).f0) ∧ w.cell? ⟨(ad.add (i.toNat * 3)).block, (ad.add (i.toNat * 3)).off + 1, none⟩ = some (.int .i64 (rd_T107 xs i).f1) ∧ w.cell? ⟨(ad.add (i.toNat * 3)).block, (ad.add (i.toNat * 3)).off + 2, none⟩ = some (.int .i64 (rd_T107 xs i).f2) := by
  obtain ⟨ad, c, e, _, hK, hc0⟩ := Kd.C_get h z107 i h0 h1
  have hc : ∀ j u, c[j]? = some u → w.cell? (ad.add (i.toNat * 3 + j)) = some u := hc0
  obtain rfl := k107_open hK
  exact ⟨ad, e, hc 0 _ rfl, by rw [← add_field _ _ 1 (by omega)]; exact hc 1 _ rfl, by rw [← add_field _ _ 2 (by omega)]; exact hc 2 _ rfl⟩

def rd_L2 (xs : List (List S107)) (i : Int) : (List S107) := xs.getD i.toNat ([] : List S107)
theorem at_L2 {w : World} {A : Option Addr} {n : Nat} {xs : List (List S107)} (h : Kd.C (Kd.slice 107 k107) w A n xs) (i : Int) (h0 : 0 ≤ i) (h1 : i < n) : ∃ ad A0 c0, A = some ad ∧ w.cell? (ad.add i.toNat) = some (.slice A0 (rd_L2 xs i).length c0) ∧ (rd_L2 xs i).length ≤ c0 ∧ k107.C w A0 (rd_L2 xs i).length (rd_L2 xs i) := by
  obtain ⟨ad, c, e, _, hK, hc0⟩ := Kd.C_get h ([] : List S107) i h0 h1
  have hc : ∀ j u, c[j]? = some u → w.cell? (ad.add (i.toNat * 1 + j)) = some u := hc0
  obtain ⟨A0, c0, rfl, l0, g0⟩ := hK
  exact ⟨ad, A0, c0, e, by have hq := hc 0 _ rfl; rwa [Nat.mul_one, Nat.add_zero] at hq, l0, g0⟩

def rd_L4 (xs : List (List Bool)) (i : Int) : (List Bool) := xs.getD i.toNat ([] : List Bool)
theorem at_L4 {w : World} {A : Option Addr} {n : Nat} {xs : List (List Bool)} (h : Kd.C (Kd.slice 4 Kd.bool) w A n xs) (i : Int) (h0 : 0 ≤ i) (h1 : i < n) : ∃ ad A0 c0, A = some ad ∧ w.cell? (ad.add i.toNat) = some (.slice A0 (rd_L4 xs i).length c0) ∧ (rd_L4 xs i).length ≤ c0 ∧ Kd.bool.C w A0 (rd_L4 xs i).length (rd_L4 xs i) := by
  obtain ⟨ad, c, e, _, hK, hc0⟩ := Kd.C_get h ([] : List Bool) i h0 h1
  have hc : ∀ j u, c[j]? = some u → w.cell? (ad.add (i.toNat * 1 + j)) = some u := hc0
  obtain ⟨A0, c0, rfl, l0, g0⟩ := hK
  exact ⟨ad, A0, c0, e, by have hq := hc 0 _ rfl; rwa [Nat.mul_one, Nat.add_zero] at hq, l0, g0⟩

/-! #### struct type 106 -/
structure S106 where
  f0 : Int
  f1 : Int
  f2 : Int
def z106 : S106 := ⟨(0 : Int), (0 : Int), (0 : Int)⟩
def k106 : Kd S106 := Kd.iso (Kd.pair (Kd.int .i64) (Kd.pair (Kd.int .i64) (Kd.int .i64))) (fun x : S106 => (x.f0, x.f1, x.f2))
theorem k106_open {w : World} {x : S106} {cs : List Value} (h : k106.K w x cs) : cs = [.int .i64 x.f0, .int .i64 x.f1, .int .i64 x.f2] := by
  obtain ⟨_, _, rfl, rfl, ⟨_, _, rfl, rfl, rfl⟩⟩ := h
  exact rfl
theorem k106_openM {w : World} {base : Nat} {ok : Nat → Prop} {x : S106} {cs : List Value} (h : k106.M w base ok x cs) : cs = [.int .i64 x.f0, .int .i64 x.f1, .int .i64 x.f2] := by
  obtain ⟨_, _, rfl, rfl, ⟨_, _, rfl, rfl, rfl⟩⟩ := h
  exact rfl
theorem k106_mk (w : World) (x : S106)  : k106.K w x [.int .i64 x.f0, .int .i64 x.f1, .int .i64 x.f2] := ⟨[.int .i64 x.f0], [.int .i64 x.f1, .int .i64 x.f2], rfl, rfl, ⟨[.int .i64 x.f1], [.int .i64 x.f2], rfl, rfl, rfl⟩⟩
theorem k106_mkM (w : World) (base : Nat) (ok : Nat → Prop) (x : S106)  : k106.M w base ok x [.int .i64 x.f0, .int .i64 x.f1, .int .i64 x.f2] := ⟨[.int .i64 x.f0], [.int .i64 x.f1, .int .i64 x.f2], rfl, rfl, ⟨[.int .i64 x.f1], [.int .i64 x.f2], rfl, rfl, rfl⟩⟩
theorem k106_mkF (W : World) (ok : Nat → Prop) (x : S106) : Kd.FK k106 W ok x [.int .i64 x.f0, .int .i64 x.f1, .int .i64 x.f2] := fun W2 _ => k106_mk W2 x
def rd_T106 (xs : List S106) (i : Int) : S106 := xs.getD i.toNat z106
theorem at_T106 {w : World} {A : Option Addr} {n : Nat} {xs : List S106} (h : Kd.C k106 w A n xs) (i : Int) (h0 : 0 ≤ i) (h1 : i < n) : ∃ ad , A = some ad ∧ w.cell? (ad.add (i.toNat * 3)) = some (.int .i64 (rd_T106 xs i).f0) ∧ w.cell? ⟨(ad.add (i.toNat * 3)).block, (ad.add (i.toNat * 3)).off + 1, none⟩ = some (.int .i64 (rd_T106 xs i).f1) ∧ w.cell? ⟨(ad.add (i.toNat * 3)).block, (ad.add (i.toNat * 3)).off + 2, none⟩ = some (.int .i64 (rd_T106 xs i).f2) := by
  obtain ⟨ad, c, e, _, hK, hc0⟩ := Kd.C_get h z106 i h0 h1
  have hc : ∀ j u, c[j]? = some u → w.cell? (ad.add (i.toNat * 3 + j)) = some u := hc0
  obtain rfl := k106_open hK
  exact ⟨ad, e, hc 0 _ rfl, by rw [← add_field _ _ 1 (by omega)]; exact hc 1 _ rfl, by rw [← add_field _ _ 2 (by omega)]; exact hc 2 _ rfl⟩

def rd_L6 (xs : List (List S106)) (i : Int) : (List S106) := xs.getD i.toNat ([] : List S106)
theorem at_L6 {w : World} {A : Option Addr} {n : Nat} {xs : List (List S106)} (h : Kd.C (Kd.slice 106 k106) w A n xs) (i : Int) (h0 : 0 ≤ i) (h1 : i < n) : ∃ ad A0 c0, A = some ad ∧ w.cell? (ad.add i.toNat) = some (.slice A0 (rd_L6 xs i).length c0) ∧ (rd_L6 xs i).length ≤ c0 ∧ k106.C w A0 (rd_L6 xs i).length (rd_L6 xs i) := by
  obtain ⟨ad, c, e, _, hK, hc0⟩ := Kd.C_get h ([] : List S106) i h0 h1
  have hc : ∀ j u, c[j]? = some u → w.cell? (ad.add (i.toNat * 1 + j)) = some u := hc0
  obtain ⟨A0, c0, rfl, l0, g0⟩ := hK
  exact ⟨ad, A0, c0, e, by have hq := hc 0 _ rfl; rwa [Nat.mul_one, Nat.add_zero] at hq, l0, g0⟩

/-! #### struct type 28 -/
structure S28 where
  f0 : Int
  f1 : (List S107)
  f2 : Int
def z28 : S28 := ⟨(0 : Int), ([] : List S107), (0 : Int)⟩
def k28 : Kd S28 := Kd.iso (Kd.pair (Kd.int .i64) (Kd.pair (Kd.slice 107 k107) (Kd.int .i64))) (fun x : S28 => (x.f0, x.f1, x.f2))
theorem k28_open {w : World} {x : S28} {cs : List Value} (h : k28.K w x cs) : ∃ A1 c1, cs = [.int .i64 x.f0, .slice A1 x.f1.length c1, .int .i64 x.f2] ∧ x.f1.length ≤ c1 ∧ k107.C w A1 x.f1.length x.f1 := by
  obtain ⟨_, _, rfl, rfl, ⟨_, _, rfl, ⟨A1, c1, rfl, l1, g1⟩, rfl⟩⟩ := h
  exact ⟨A1, c1, rfl, l1, g1⟩
theorem k28_openM {w : World} {base : Nat} {ok : Nat → Prop} {x : S28} {cs : List Value} (h : k28.M w base ok x cs) : ∃ v1, cs = [.int .i64 x.f0, v1, .int .i64 x.f2] ∧ k107.R 107 w base ok v1 x.f1 := by
  obtain ⟨_, _, rfl, rfl, ⟨_, _, rfl, ⟨v1, rfl, g1⟩, rfl⟩⟩ := h
  exact ⟨v1, rfl, g1⟩
theorem k28_mk (w : World) (x : S28) {A1 : Option Addr} {c1 : Nat} (l1 : x.f1.length ≤ c1) (g1 : k107.C w A1 x.f1.length x.f1) : k28.K w x [.int .i64 x.f0, .slice A1 x.f1.length c1, .int .i64 x.f2] := ⟨[.int .i64 x.f0], [.slice A1 x.f1.length c1, .int .i64 x.f2], rfl, rfl, ⟨[.slice A1 x.f1.length c1], [.int .i64 x.f2], rfl, ⟨A1, c1, rfl, l1, g1⟩, rfl⟩⟩
theorem k28_mkM (w : World) (base : Nat) (ok : Nat → Prop) (x : S28) {v1 : Value} (g1 : k107.R 107 w base ok v1 x.f1) : k28.M w base ok x [.int .i64 x.f0, v1, .int .i64 x.f2] := ⟨[.int .i64 x.f0], [v1, .int .i64 x.f2], rfl, rfl, ⟨[v1], [.int .i64 x.f2], rfl, ⟨v1, rfl, g1⟩, rfl⟩⟩
theorem k28_openF {W : World} {ok : Nat → Prop} {x : S28} {cs : List Value} (h : Kd.FK k28 W ok x cs) : ∃ A1 c1, cs = [.int .i64 x.f0, .slice A1 x.f1.length c1, .int .i64 x.f2] ∧ x.f1.length ≤ c1 ∧ Kd.F k107 W ok A1 x.f1.length x.f1 := by
  obtain ⟨A1, c1, rfl, l1, _⟩ := k28_open (Kd.FK_now h)
  exact ⟨A1, c1, rfl, l1, (fun W' hW => by obtain ⟨A1_, c1_, he, l1_, g1_⟩ := k28_open (h W' hW); injection (Option.some.inj (show some (Value.slice A1 x.f1.length c1) = some (Value.slice A1_ x.f1.length c1_) from congrArg (fun l => l[1]?) he)) with ha_ _ _; rw [ha_]; exact g1_)⟩
theorem k28_mkF (W : World) (ok : Nat → Prop) (x : S28) {A1 : Option Addr} {c1 : Nat} (l1 : x.f1.length ≤ c1) (g1 : Kd.F k107 W ok A1 x.f1.length x.f1) : Kd.FK k28 W ok x [.int .i64 x.f0, .slice A1 x.f1.length c1, .int .i64 x.f2] := fun W2 hW => k28_mk W2 x l1 (g1 W2 hW)
def rd_T28 (xs : List S28) (i : Int) : S28 := xs.getD i.toNat z28
theorem at_T28 {w : World} {A : Option Addr} {n : Nat} {xs : List S28} (h : Kd.C k28 w A n xs) (i : Int) (h0 : 0 ≤ i) (h1 : i < n) : ∃ ad A1 c1, A = some ad ∧ w.cell? (ad.add (i.toNat * 3)) = some (.int .i64 (rd_T28 xs i).f0) ∧ w.cell? ⟨(ad.add (i.toNat * 3)).block, (ad.add (i.toNat * 3)).off + 1, none⟩ = some (.slice A1 (rd_T28 xs i).f1.length c1) ∧ w.cell? ⟨(ad.add (i.toNat * 3)).block, (ad.add (i.toNat * 3)).off + 2, none⟩ = some (.int .i64 (rd_T28 xs i).f2) ∧ (rd_T28 xs i).f1.length ≤ c1 ∧ k107.C w A1 (rd_T28 xs i).f1.length (rd_T28 xs i).f1 := by
  obtain ⟨ad, c, e, _, hK, hc0⟩ := Kd.C_get h z28 i h0 h1
  have hc : ∀ j u, c[j]? = some u → w.cell? (ad.add (i.toNat * 3 + j)) = some u := hc0
  obtain ⟨A1, c1, rfl, l1, g1⟩ := k28_open hK
  exact ⟨ad, A1, c1, e, hc 0 _ rfl, by rw [← add_field _ _ 1 (by omega)]; exact hc 1 _ rfl, by rw [← add_field _ _ 2 (by omega)]; exact hc 2 _ rfl, l1, g1⟩

end Go.Proofs.Ytlplphgoldkoeaa.X

end

section
/- The program's table of nodes in memory; node, asks, side. -/
namespace Go.Proofs.Ytlplphgoldkoeaa.HTab
open Go.RowKit Go.Proofs.YtlplphgoldkoeaaW.PrintWords Go.Proofs.YtlplphgoldkoeaaW.PrintLast Go.Proofs.YtlplphgoldkoeaaW.PrintMore Go.Proofs.Ytlplphgoldkoeaa.HMap Go.Proofs.Ytlplphgoldkoeaa.X
open Go.ChangeMaps (setBlock)
set_option linter.unusedVariables false

/-- All but the blocks of S, and what is new, stays. -/
structure Fr (S : Nat → Prop) (w w' : World) : Prop where
  os : w'.os = w.os
  tape : w'.tape = w.tape
  output : w'.output = w.output
  size : w.heap.size ≤ w'.heap.size
  block : ∀ i, i < w.heap.size → ¬ S i → w'.heap[i]? = w.heap[i]?

theorem Fr.refl (S : Nat → Prop) (w : World) : Fr S w w := ⟨rfl, rfl, rfl, Nat.le_refl _, fun _ _ _ => rfl⟩
theorem Fr.of_below {S : Nat → Prop} {w w1 : World} (h : Below w.heap.size w w1) : Fr S w w1 := ⟨h.os, h.tape, h.output, h.size, fun i hi _ => h.block i hi⟩
theorem Fr.then_ {S S2 : Nat → Prop} {w w1 w2 : World} (h : Fr S w w1) (k : Fr S2 w1 w2) (hs : ∀ i, S2 i → S i ∨ w.heap.size ≤ i) : Fr S w w2 :=
  ⟨k.os.trans h.os, k.tape.trans h.tape, k.output.trans h.output, Nat.le_trans h.size k.size, fun i hi hn => (k.block i (Nat.lt_of_lt_of_le hi h.size) (fun h2 => (hs i h2).elim hn (fun h3 => by omega))).trans (h.block i hi hn)⟩
theorem Fr.of_grown {S : Nat → Prop} {w w1 : World} {row : Option Nat} (h : w.grownBy w1 row) (hr : ∀ k, row = some k → S k) : Fr S w w1 :=
  ⟨h.os, h.tape, h.output, h.size, fun i hi hn => h.block i hi (fun e => hn (hr i e.symm))⟩
theorem Fr.undrew {S : Nat → Prop} {w w1 : World} (h : Fr S w.drew w1) : Fr S w w1 := ⟨h.os, h.tape, h.output, h.size, h.block⟩
theorem Fr.setCell (S : Nat → Prop) (w : World) (p : Addr) (v : Value) (hp : S p.block) : Fr S w (w.setCell p v) :=
  ⟨rfl, rfl, rfl, by simp [World.setCell], fun i _ hn => Below.heap_setCell w p v i (fun e => hn (e ▸ hp))⟩
theorem Fr.setBlock (S : Nat → Prop) (w : World) (b : Nat) (o : Obj) (hp : S b) : Fr S w (setBlock w b o) :=
  ⟨rfl, rfl, rfl, by simp [Go.ChangeMaps.setBlock], fun i _ hn => setBlock_other w b o i (fun e => hn (e ▸ hp))⟩
theorem Fr.mono {S S2 : Nat → Prop} {w w1 : World} (h : Fr S w w1) (hs : ∀ k, S k → S2 k) : Fr S2 w w1 := ⟨h.os, h.tape, h.output, h.size, fun i hi hn => h.block i hi (fun k => hn (hs i k))⟩
theorem Fr.R {α : Type} {S : Nat → Prop} {w w1 : World} (h : Fr S w w1) {d : Kd α} {e base : Nat} {ok : Nat → Prop} {v : Value} {xs : List α} (hR : d.R e w base ok v xs) (hok : ∀ k, ok k → ¬ S k) : d.R e w1 base ok v xs :=
  Kd.R_step hR (fun k hk hlt => h.block k hlt (hok k hk))
theorem map_ne_cells {w : World} {b t : Nat} {es : Array MapEntry} {clk : Nat} {cs : Array Value} {ty : TypeId} {fr : Nat × Nat} (h : w.heap[b]? = some (.map es clk)) (h2 : w.heap[t]? = some (.cells cs ty fr)) : b ≠ t := by
  rintro rfl
  rw [h] at h2
  injection h2 with h2
  cases h2
theorem map_ne_own {α β : Type} {enc : α → Value} {encv : β → Value} {w : World} {b : Nat} {L : List (α × β)} (h : MapIs enc encv w b L) {γ : Type} {d : Kd γ} {e base : Nat} {ok : Nat → Prop} {v : Value} {xs : List γ} (hR : d.R e w base ok v xs) : some b ≠ v.ownBlock := by
  obtain ⟨es, clk, hb, _⟩ := h
  intro he
  obtain ⟨_, inner, ho, _⟩ := hR
  obtain ⟨cells, hc⟩ := own_typed ho b he.symm
  exact map_ne_cells hb hc rfl

theorem R_setMap {α β : Type} {enc : α → Value} {encv : β → Value} {w : World} {b : Nat} {L : List (α × β)} (h : MapIs enc encv w b L) {γ : Type} {d : Kd γ} {e base : Nat} {ok : Nat → Prop} {v : Value} {xs : List γ} (hR : d.R e w base ok v xs) (o : Obj) : d.R e (setBlock w b o) base ok v xs := by
  refine Kd.R_mono (Kd.R_step (w1 := setBlock w b o) (Kd.R_bound hR) (fun k hk _ => setBlock_other w b o k ?_)) (fun _ hk => hk.1)
  obtain ⟨es, clk, hb, _⟩ := h
  obtain ⟨_, _, _, q, _, cells, hc⟩ := hk
  exact fun e => map_ne_cells hb hc e.symm

def encN (n : S107) : Value := .agg #[.int .i64 n.f0, .int .i64 n.f1, .int .i64 n.f2]
instance : DecidableEq S107 := fun a b => if h : a.f0 = b.f0 ∧ a.f1 = b.f1 ∧ a.f2 = b.f2 then .isTrue (by cases a; cases b; simp_all) else .isFalse (fun e => h (by subst e; simp))
theorem eqN (a b : S107) : (decide (a = b)) = (a.f0 == b.f0 && (a.f1 == b.f1 && a.f2 == b.f2)) := by
  rw [Bool.eq_iff_iff]
  cases a; cases b; simp

theorem keyN : MKey Try.prog 107 encN where
  check w em x := by
    show (Instr.checkKey em (9998 + 1 + 1) 107 (encN x)).run Try.prog w = _
    unfold encN Instr.checkKey
    simp only [Sem.run_bind, run_underlying Try.underlying107, Result.andThen_ok]
    have h3 : ∀ v : Int, (Instr.checkKey em 9999 3 (.int .i64 v)).run Try.prog w = .ok () w := fun v => Go.MapKept.run_checkKey Try.underlying3 (show Go.MapKept.IsKey (.int .i64) (.int .i64 v) from rfl) em 9998
    rw [← Array.forIn_toList]
    have p0 : (part 3 #[Value.int IntKind.i64 x.f0, Value.int IntKind.i64 x.f1, Value.int IntKind.i64 x.f2] 0).run Try.prog w = .ok (.int .i64 x.f0) w := by go_simp
    have p1 : (part 3 #[Value.int IntKind.i64 x.f0, Value.int IntKind.i64 x.f1, Value.int IntKind.i64 x.f2] 1).run Try.prog w = .ok (.int .i64 x.f1) w := by go_simp
    have p2 : (part 3 #[Value.int IntKind.i64 x.f0, Value.int IntKind.i64 x.f1, Value.int IntKind.i64 x.f2] 2).run Try.prog w = .ok (.int .i64 x.f2) w := by go_simp
    simp [p0, p1, p2, h3]
  und := ⟨_, Try.underlying107, .inl fun x y => by rfl⟩
  eq w x y := by
    unfold encN
    rw [eqN]
    show (Op.equalIn (9998 + 2) 107 _ _).run Try.prog w = _
    refine eqA_of Try.underlying107 (by kernel_rfl) ?_
    refine eqf_cons (by rfl) (by go_simp; rfl) (by go_simp; rfl) (by go_simp) ?_
    refine eqf_cons (by rfl) (by go_simp; rfl) (by go_simp; rfl) (by go_simp) ?_
    exact eqf_last (by rfl) (by go_simp; rfl) (by go_simp; rfl) (by go_simp)
  same x := by
    unfold encN
    simp [Instr.sameBits]

/-- Block t is a table of 'vars' variables, with nodes ns and entries L. -/
def Tab0 (w : World) (B : Nat) (S : Nat → Prop) (t : Nat) (vars : Int) (ns : List S107) (L : List (S107 × Int)) : Prop :=
  ∃ v mb, w.heap[t]? = some (.cells #[.int .i64 vars, v, .map (some mb)] 127 (0, 0)) ∧ S t ∧ S mb ∧ Kd.R k107 107 w B S v ns ∧ MapIs encN (Value.int .i64) w mb L

theorem node_same (t : Nat) (n : S107) (w : World) (he : n.f1 = n.f2) :
    Calls Try.prog 105 #[.pointer (some ⟨t, 0, none⟩), encN n] w fun e w' => e = .returned (.int .i64 n.f1) ∧ Below w.heap.size w w' := by
  obtain ⟨a, b, c⟩ := n
  simp only at he
  subst he
  unfold encN
  go_enter Try.func105, Try.ntmps105
  go_wp2
  go_ret
  exact ⟨rfl, by apply below_alloc; exact Below.refl _ _⟩

theorem zero3 (w : World) : (zeroValue 3).run Try.prog w = .ok (.int .i64 0) w := by kernel_rfl




theorem node_found {B : Nat} {S : Nat → Prop} (t : Nat) (vars : Int) (ns : List S107) (L : List (S107 × Int)) (n : S107) (r : Int) (w : World) (hT : Tab0 w B S t vars ns L) (he : n.f1 ≠ n.f2) (hl : HMap.look L n = some r) :
    Calls Try.prog 105 #[.pointer (some ⟨t, 0, none⟩), encN n] w fun e w' => e = .returned (.int .i64 r) ∧ Below w.heap.size w w' := by
  obtain ⟨v, mb, hb, st, sm, hR, hM⟩ := hT
  have hb1 : (w.alloc (.cells #[.int .i64 n.f0, .int .i64 n.f1, .int .i64 n.f2] 107)).heap[t]? = some (.cells #[.int .i64 vars, v, .map (some mb)] 127 (0, 0)) := blk_alloc hb _
  have c0 := blk_cell hb1 2
  replace c0 := c0.trans rfl
  have hM1 : MapIs encN (Value.int .i64) (w.alloc (.cells #[.int .i64 n.f0, .int .i64 n.f1, .int .i64 n.f2] 107)) mb L := hM.move (Below.heap_alloc w _ mb hM.lt)
  have hrun : ∀ q, (Instr.lookup 125 (.map (some mb)) (.agg #[.int .i64 n.f0, .int .i64 n.f1, .int .i64 n.f2]) true).run Try.prog ((w.alloc (.cells #[.int .i64 n.f0, .int .i64 n.f1, .int .i64 n.f2] 107)).drewN q) = .ok (.tuple #[.int .i64 r, .bool true]) ((w.alloc (.cells #[.int .i64 n.f0, .int .i64 n.f1, .int .i64 n.f2] 107)).drewN q) := fun q => by
    have := run_lookup keyN Try.underlying125 (w := (w.alloc (.cells #[.int .i64 n.f0, .int .i64 n.f1, .int .i64 n.f2] 107)).drewN q) hM1 n true (zero3 _)
    simpa [hl, encN] using this
  clear hb hb1 hM hM1 hR hl
  have he' : (n.f1 == n.f2) = false := by simpa using he
  unfold encN
  go_enter Try.func105, Try.ntmps105
  go_wp2
  go_quiet (fail)
  go_wp2
  go_ret
  exact ⟨rfl, by apply pw_below_drewN; apply below_alloc; exact Below.refl _ _⟩

set_option maxRecDepth 100000 in
theorem node_new {S : Nat → Prop} (t : Nat) (vars : Int) (ns : List S107) (L : List (S107 × Int)) (n : S107) (w : World) (hT : Tab0 w 0 S t vars ns L) (he : n.f1 ≠ n.f2) (hl : HMap.look L n = none) (hlen : ns.length < 1000000000000) :
    Calls Try.prog 105 #[.pointer (some ⟨t, 0, none⟩), encN n] w fun e w' => e = .returned (.int .i64 ns.length) ∧ Tab0 w' 0 (fun k => S k ∨ w.heap.size ≤ k) t vars (ns ++ [n]) (HMap.upd L n ns.length) ∧ Fr S w w' := by
  obtain ⟨v, mb, hb, st, sm, hR, hM⟩ := hT
  obtain ⟨A, c, rfl, hc, hC⟩ := Kd.R_reads hR
  obtain ⟨w1, hw1⟩ : ∃ w1, w1 = (w.alloc (.cells #[.int .i64 n.f0, .int .i64 n.f1, .int .i64 n.f2] 107)) := ⟨_, rfl⟩
  have hbel : Below w.heap.size w w1 := by rw [hw1]; apply below_alloc; exact Below.refl _ _
  have hbox : w1.heap[w.heap.size]? = some (.cells #[.int .i64 n.f0, .int .i64 n.f1, .int .i64 n.f2] 107 (0, 0)) := by rw [hw1]; exact blk_new _ _
  have hb1 : w1.heap[t]? = some (.cells #[.int .i64 vars, .slice A ns.length c, .map (some mb)] 127 (0, 0)) := blk_below hb hbel
  have hR1 := Kd.R_below hR hbel
  have c0 := blk_cell hb1 2
  have c1 := blk_cell hb1 1
  replace c0 := c0.trans rfl
  replace c1 := c1.trans rfl
  have b0 : w1.cell? ⟨w.heap.size, 0, none⟩ = some (.int .i64 n.f0) := (blk_cell hbox 0).trans rfl
  have b1 : w1.cell? ⟨w.heap.size, 1, none⟩ = some (.int .i64 n.f1) := (blk_cell hbox 1).trans rfl
  have b2 : w1.cell? ⟨w.heap.size, 2, none⟩ = some (.int .i64 n.f2) := (blk_cell hbox 2).trans rfl
  have hM1 : MapIs encN (Value.int .i64) w1 mb L := hM.move (hbel.block mb hM.lt)
  have hrun : ∀ q, (Instr.lookup 125 (.map (some mb)) (.agg #[.int .i64 n.f0, .int .i64 n.f1, .int .i64 n.f2]) true).run Try.prog (w1.drewN q) = .ok (.tuple #[.int .i64 0, .bool false]) (w1.drewN q) := fun q => by
    have := run_lookup keyN Try.underlying125 (w := w1.drewN q) hM1 n true (zero3 _)
    simpa [hl, encN] using this
  have hnx : some w.heap.size ≠ (Value.slice A ns.length c).ownBlock := fun e => Nat.lt_irrefl _ ((Kd.R_bound hR).1 _ e.symm).2.2.1
  clear hM hl hR hC
  have he' : (n.f1 == n.f2) = false := by simpa using he
  unfold encN
  go_enter Try.func105, Try.ntmps105
  go_wp2
  rw [← hw1]
  clear hw1
  go_quiet (fail)
  go_wp2
  clear hrun
  have hb2 : (w1.drewN nq).heap[t]? = some (.cells #[.int .i64 vars, .slice A ns.length c, .map (some mb)] 127 (0, 0)) := hb1
  have hR2 := Kd.R_drewN (m := nq) hR1
  have hM2 : MapIs encN (Value.int .i64) (w1.drewN nq) mb L := hM1
  have hbel2 : Below w.heap.size w (w1.drewN nq) := pw_below_drewN hbel nq
  replace b0 : (w1.drewN nq).cell? ⟨w.heap.size, 0, none⟩ = some (.int .i64 n.f0) := b0
  replace b1 : (w1.drewN nq).cell? ⟨w.heap.size, 1, none⟩ = some (.int .i64 n.f1) := b1
  replace b2 : (w1.drewN nq).cell? ⟨w.heap.size, 2, none⟩ = some (.int .i64 n.f2) := b2
  replace c1 : (w1.drewN nq).cell? ⟨t, 1, none⟩ = some (.slice A ns.length c) := c1
  replace c0 : (w1.drewN nq).cell? ⟨t, 2, none⟩ = some (.map (some mb)) := c0
  have hbox2 : (w1.drewN nq).heap[w.heap.size]? = some (.cells #[.int .i64 n.f0, .int .i64 n.f1, .int .i64 n.f2] 107 (0, 0)) := hbox
  generalize w1.drewN nq = w2 at hb2 hR2 hM2 hbel2 b0 b1 b2 c0 c1 hbox2 ⊢
  clear hb1 hR1 hM1 hbel hbox w1
  have hBX := Lib.hid hbox2
  clear hbox2
  have hne := Lib.hid (Kd.R_ne hR2 hb2 (by decide))
  have hR3 := Lib.hid (Kd.R_drew (Kd.R_mono hR2 (fun k hk => (Or.inl hk : S k ∨ w.heap.size ≤ k))))
  have hsz := Lib.hid hbel2.size
  have HB2 := Lib.hid hb2
  have c1x : ∀ o : Obj, (w2.alloc o).cell? ⟨t, 1, none⟩ = some (.slice A ns.length c) := fun o => pw_cell_below (below_alloc (Below.refl _ _) o) c1
  clear hR2 hb2
  go_region_law ((refine Kd.R_append_step k107 (w0 := w2.drew) (W := w2.drew) 0 rfl (.tmp 34) (.tmp 36) 26 107 _ 24 rfl Try.underlying26 info107 rfl (by decide) (by decide) (.slice A ns.length c) ns n [.int .i64 n.f0, .int .i64 n.f1, .int .i64 n.f2] (fun k => S k ∨ w.heap.size ≤ k) (fun _ => False) rfl rfl (k107_mkM _ _ _ n) (fun k hk => hk.elim) (fun k hk => .inr (Nat.le_trans hsz.out hk)) hR3.out (Below.refl 0 _) (Nat.zero_le _) (by omega) ?_); intro v1 w3 hR4 hB0 hg hat; obtain ⟨A1, cap1, rfl, hcap1, hC1⟩ := Kd.R_reads hR4; have hb4 := Lib.hid (blk_grown (blk_drew HB2.out) hg hne.out); have c4 := (blk_cell hb4.out 1).trans rfl; have f4 := blk_frozen hb4.out 1)
  all_goals
    have hmt : mb ≠ t := by
      obtain ⟨es, clk, h1, _⟩ := hM2
      exact map_ne_cells h1 HB2.out
    have hmo : some mb ≠ (Value.slice A ns.length c).ownBlock := map_ne_own hM2 (Kd.R_drew hR3.out)
    have hM3 : MapIs encN (Value.int .i64) w3 mb L := hM2.move (hg.block mb hM2.lt hmo)
    have hl2 : (ns ++ [n]).length = ns.length + 1 := by simp
    have hb5 : (w3.setCell ⟨t, 1, none⟩ (.slice A1 (ns.length + 1) cap1)).heap[t]? = some (.cells #[.int .i64 vars, .slice A1 (ns.length + 1) cap1, .map (some mb)] 127 (0, 0)) := by simpa using blk_set hb4.out 1 (.slice A1 (ns.length + 1) cap1)
    have hR5 := Kd.R_set hR4 hb4.out (by decide) 1 (.slice A1 (ns.length + 1) cap1)
    have hM5 : MapIs encN (Value.int .i64) (w3.setCell ⟨t, 1, none⟩ (.slice A1 (ns.length + 1) cap1)) mb L := hM3.move (Below.heap_setCell _ _ _ _ hmt)
    have hF2 : Fr S w w2 := Fr.of_below hbel2
    have hF3 : Fr S w w3 := hF2.then_ (S2 := fun k => S k ∨ w.heap.size ≤ k) (Fr.undrew (Fr.of_grown hg (fun k hk => hR3.out.1 k hk))) (fun i h => h)
    have hF5 : Fr S w (w3.setCell ⟨t, 1, none⟩ (.slice A1 (ns.length + 1) cap1)) := hF3.then_ (S2 := S) (Fr.setCell _ _ _ _ st) (fun i h => .inl h)
    have hlt2 : w.heap.size < w2.heap.size := blk_lt hBX.out
    have hbx3 : w3.heap[w.heap.size]? = some (.cells #[.int .i64 n.f0, .int .i64 n.f1, .int .i64 n.f2] 107 (0, 0)) := (hg.block _ hlt2 hnx).trans hBX.out
    have hbx5 := blk_far (p := ⟨t, 1, none⟩) hbx3 (fun e => Nat.lt_irrefl _ (e ▸ blk_lt hb)) (.slice A1 (ns.length + 1) cap1)
    have d0 := (blk_cell hbx5 0).trans rfl
    have d1 := (blk_cell hbx5 1).trans rfl
    have d2 := (blk_cell hbx5 2).trans rfl
    have d3 := (blk_cell hb5 2).trans rfl
    rw [hl2] at hR5
    clear c4 f4 hat hcap1 hC1 c1x b0 b1 b2 c0 c1 hmo hbx3 hbx5 hb4 hM3 hM2 hB0 hg hR4
    generalize w3.setCell ⟨t, 1, none⟩ (.slice A1 (ns.length + 1) cap1) = w4 at hb5 hR5 hM5 hF5 d0 d1 d2 d3 ⊢
    obtain ⟨o, ho, hM6⟩ := run_mapUpdate keyN Try.underlying125 (w := w4.drew) hM5 n (ns.length : Int)
    unfold encN at ho
    have hbs := Lib.hid hb5
    clear hl2 hb5
    go_wp2
    go_still_tail 6, (by kernel_rfl)
    go_wp2
    go_ret
    refine ⟨rfl, ⟨_, mb, (setBlock_other _ _ _ _ (Ne.symm hmt)).trans hbs.out, .inl st, .inl sm, R_setMap hM5 (Kd.R_drew hR5) o, hM6⟩, ?_⟩
    exact hF5.then_ (S2 := S) (Fr.undrew (Fr.setBlock S w4.drew mb o sm)) (fun i h => .inl h)

/-- The table, as a value. -/
structure TB where
  vars : Int
  ns : List S107
  L : List (S107 × Int)
def Tab (w : World) (S : Nat → Prop) (t : Nat) (T : TB) : Prop := Tab0 w 0 S t T.vars T.ns T.L
/-- What 'node' does. -/
def nodeP (T : TB) (n : S107) : Int × TB :=
  if n.f1 = n.f2 then (n.f1, T) else
  match HMap.look T.L n with
  | some r => (r, T)
  | none => (T.ns.length, ⟨T.vars, T.ns ++ [n], HMap.upd T.L n T.ns.length⟩)
theorem Tab.mono {w : World} {S S2 : Nat → Prop} {t : Nat} {T : TB} (h : Tab w S t T) (hs : ∀ k, S k → S2 k) : Tab w S2 t T := by
  obtain ⟨v, mb, hb, st, sm, hR, hM⟩ := h
  exact ⟨v, mb, hb, hs _ st, hs _ sm, Kd.R_mono hR hs, hM⟩
theorem Tab.move {w w1 : World} {S : Nat → Prop} {t : Nat} {T : TB} (h : Tab w S t T) (hm : ∀ k, S k → k < w.heap.size → w1.heap[k]? = w.heap[k]?) : Tab w1 S t T := by
  obtain ⟨v, mb, hb, st, sm, hR, hM⟩ := h
  exact ⟨v, mb, (hm t st (blk_lt hb)).trans hb, st, sm, Kd.R_step hR hm, hM.move (hm mb sm hM.lt)⟩
theorem Tab.below {w w1 : World} {S : Nat → Prop} {t : Nat} {T : TB} (h : Tab w S t T) (hb : Below w.heap.size w w1) : Tab w1 S t T := h.move (fun k _ hk => hb.block k hk)
theorem Tab.fr {w w1 : World} {S S2 : Nat → Prop} {t : Nat} {T : TB} (h : Tab w S t T) (hf : Fr S2 w w1) (hs : ∀ k, S k → ¬ S2 k) : Tab w1 S t T := h.move (fun k hk hlt => hf.block k hlt (hs k hk))

theorem node_calls {S : Nat → Prop} (t : Nat) (T : TB) (n : S107) (w : World) (hT : Tab w S t T) (hlen : T.ns.length < 1000000000000) :
    Calls Try.prog 105 #[.pointer (some ⟨t, 0, none⟩), encN n] w fun e w' => e = .returned (.int .i64 (nodeP T n).1) ∧ Tab w' (fun k => S k ∨ w.heap.size ≤ k) t (nodeP T n).2 ∧ Fr S w w' := by
  unfold nodeP
  by_cases he : n.f1 = n.f2
  · rw [if_pos he]
    exact (node_same t n w he).mono fun e w' h => ⟨h.1, (hT.below h.2).mono (fun k hk => .inl hk), Fr.of_below h.2⟩
  · rw [if_neg he]
    cases hl : HMap.look T.L n with
    | some r => exact (node_found t T.vars T.ns T.L n r w hT he hl).mono fun e w' h => ⟨h.1, (hT.below h.2).mono (fun k hk => .inl hk), Fr.of_below h.2⟩
    | none => exact node_new t T.vars T.ns T.L n w hT he hl hlen

end Go.Proofs.Ytlplphgoldkoeaa.HTab

end

section
/- asks, side, load of the program's table. -/
namespace Go.Proofs.Ytlplphgoldkoeaa.HTab
open Go.RowKit Go.Proofs.YtlplphgoldkoeaaW.PrintWords Go.Proofs.YtlplphgoldkoeaaW.PrintLast Go.Proofs.YtlplphgoldkoeaaW.PrintMore Go.Proofs.Ytlplphgoldkoeaa.HMap Go.Proofs.Ytlplphgoldkoeaa.X
open Go.ChangeMaps (setBlock)
set_option linter.unusedVariables false

/-! ### asks, side -/
def asksP (T : TB) (p : Int) : Int := if p < 2 then T.vars else (T.ns.getD p.toNat ⟨0, 0, 0⟩).f0
def sideP (T : TB) (p v : Int) (high : Bool) : Int := if asksP T p ≠ v then p else if high then (T.ns.getD p.toNat ⟨0, 0, 0⟩).f2 else (T.ns.getD p.toNat ⟨0, 0, 0⟩).f1

theorem Tab.cells {w : World} {S : Nat → Prop} {t : Nat} {T : TB} (h : Tab w S t T) : ∃ A c mb, w.cell? ⟨t, 0, none⟩ = some (.int .i64 T.vars) ∧ w.cell? ⟨t, 1, none⟩ = some (.slice A T.ns.length c) ∧ w.cell? ⟨t, 2, none⟩ = some (.map (some mb)) ∧ Kd.C k107 w A T.ns.length T.ns := by
  obtain ⟨v, mb, hb, st, sm, hR, hM⟩ := h
  obtain ⟨A, c, rfl, hc, hC⟩ := Kd.R_reads hR
  exact ⟨A, c, mb, (blk_cell hb 0).trans rfl, (blk_cell hb 1).trans rfl, (blk_cell hb 2).trans rfl, hC⟩

theorem asks_calls {S : Nat → Prop} (t : Nat) (T : TB) (p : Int) (w : World) (hT : Tab w S t T) (hp : p < 2 ∨ p < T.ns.length) :
    Calls Try.prog 104 #[.pointer (some ⟨t, 0, none⟩), .int .i64 p] w fun e w' => e = .returned (.int .i64 (asksP T p)) ∧ w = w' := by
  obtain ⟨A, c, mb, c0, c1, c2, hC⟩ := hT.cells
  by_cases h2 : p < 2
  · have H := Lib.hid (show asksP T p = T.vars from if_pos h2)
    have hd : decide (p < 2) = true := decide_eq_true h2
    go_enter Try.func104, Try.ntmps104
    go_wp2
    go_ret
    exact ⟨by rw [H.out]; rfl, rfl⟩
  · have H := Lib.hid (show asksP T p = (rd_T107 T.ns p).f0 from if_neg h2)
    have hd : decide (p < 2) = false := decide_eq_false h2
    have hp' : p < (T.ns.length : Int) := by omega
    have h0 : 0 ≤ p := by omega
    obtain ⟨ad, rfl, x0, x1, x2⟩ := at_T107 hC p h0 hp'
    go_enter Try.func104, Try.ntmps104
    go_wp2
    go_ret
    exact ⟨by rw [H.out]; rfl, rfl⟩

theorem side_calls {S : Nat → Prop} (t : Nat) (T : TB) (p v : Int) (high : Bool) (w : World) (hT : Tab w S t T) (hp : p < 2 ∨ p < T.ns.length) (hpv : p < 2 → T.vars ≠ v) :
    Calls Try.prog 123 #[.pointer (some ⟨t, 0, none⟩), .int .i64 p, .int .i64 v, .bool high] w fun e w' => e = .returned (.int .i64 (sideP T p v high)) ∧ w = w' := by
  obtain ⟨A, c, mb, c0, c1, c2, hC⟩ := hT.cells
  by_cases hv : asksP T p = v
  · have h2 : ¬ p < 2 := fun h => hpv h (by rw [← hv]; exact (if_pos h).symm)
    have hp' : p < (T.ns.length : Int) := by omega
    have h0 : 0 ≤ p := by omega
    obtain ⟨ad, rfl, x0, x1, x2⟩ := at_T107 hC p h0 hp'
    have hb : (asksP T p != v) = false := by simpa using hv
    have H1 := Lib.hid (show sideP T p v true = (rd_T107 T.ns p).f2 from if_neg (by simpa using hv))
    have H0 := Lib.hid (show sideP T p v false = (rd_T107 T.ns p).f1 from if_neg (by simpa using hv))
    clear hv
    cases high
    · go_enter Try.func123, Try.ntmps123
      go_wp2_with (go_at_call 104; refine (asks_calls t T p _ hT (by omega)).mono ?_; rintro e w' ⟨rfl, rfl⟩)
      go_ret
      exact ⟨by rw [H0.out]; rfl, rfl⟩
    · go_enter Try.func123, Try.ntmps123
      go_wp2_with (go_at_call 104; refine (asks_calls t T p _ hT (by omega)).mono ?_; rintro e w' ⟨rfl, rfl⟩)
      go_ret
      exact ⟨by rw [H1.out]; rfl, rfl⟩
  · have H := Lib.hid (show sideP T p v high = p from if_pos (by simpa using hv))
    have hb : (asksP T p != v) = true := by simpa using hv
    clear hv
    go_enter Try.func123, Try.ntmps123
    go_wp2_with (go_at_call 104; refine (asks_calls t T p _ hT (by omega)).mono ?_; rintro e w' ⟨rfl, rfl⟩)
    go_ret
    exact ⟨by rw [H.out]; rfl, rfl⟩
end Go.Proofs.Ytlplphgoldkoeaa.HTab

end

section
/- load of the program's table. -/
namespace Go.Proofs.Ytlplphgoldkoeaa.HTab
open Go.RowKit Go.Proofs.YtlplphgoldkoeaaW.PrintWords Go.Proofs.YtlplphgoldkoeaaW.PrintLast Go.Proofs.YtlplphgoldkoeaaW.PrintMore Go.Proofs.Ytlplphgoldkoeaa.HMap Go.Proofs.Ytlplphgoldkoeaa.X
open Go.ChangeMaps (setBlock)
set_option linter.unusedVariables false
set_option linter.unusedSimpArgs false

def atI (xs : List Int) (i : Int) : Int := xs.getD i.toNat 0
def loadP : List S107 → List Int → TB → Option (List Int × TB)
  | [], at_, T => some (at_, T)
  | n :: r, at_, T => if 0 ≤ n.f1 ∧ n.f1 < at_.length ∧ 0 ≤ n.f2 ∧ n.f2 < at_.length then
      loadP r (at_ ++ [(nodeP T ⟨n.f0, rd at_ n.f1, rd at_ n.f2⟩).1]) (nodeP T ⟨n.f0, rd at_ n.f1, rd at_ n.f2⟩).2 else none

def tb_load_5.T : Bool × List (List Nat × List Nat) := (true, [([], []), ([], []), ([], []), ([2], [2]), ([], []), ([], []), ([5], [5]), ([4, 6], [4, 6]), ([7], [7]), ([], []), ([], []), ([10], [10]), ([9, 11], [9, 11]), ([12], [12]), ([3, 8, 13], [3, 8, 13]), ([1, 14], [1, 14]), ([15], [15]), ([0, 16, 15], [0, 16]), ([17, 17, 0, 1, 2, 3, 4, 5, 6, 7, 8, 9, 10, 11, 12, 13, 14, 15, 16, 17], [0, 4, 9, 17])])
def tb_load_5.B : List Nat := [0, 0, 0, 4, 0, 0, 32, 112, 240, 0, 0, 1024, 3584, 7680, 16380, 32766, 65534, 131071, 262143]
theorem tb_load_5.tab : rtab .any (opsOf Try.f91 5) = tb_load_5.T := by kernel_rfl
theorem tb_load_5.bits : waitsOk tb_load_5.T.2 tb_load_5.B = true := by kernel_rfl
theorem Tab.bound {w : World} {S : Nat → Prop} {t : Nat} {T : TB} (h : Tab w S t T) : Tab w (fun k => S k ∧ k < w.heap.size) t T := by
  obtain ⟨v, mb, hb, st, sm, hR, hM⟩ := h
  exact ⟨v, mb, hb, ⟨st, blk_lt hb⟩, ⟨sm, hM.lt⟩, Kd.R_mono (Kd.R_bound hR) (fun k hk => ⟨hk.1, hk.2.2.1⟩), hM⟩
theorem nodeP_len (T : TB) (n : S107) : (nodeP T n).2.ns.length ≤ T.ns.length + 1 := by
  unfold nodeP
  split
  · simp
  · split <;> simp
theorem R_newInts (W : World) (e : TypeId) (xs : List Int) (ok : Nat → Prop) (hm : xs.length ≤ 9223372036854775807) (hok : ok W.heap.size) : (Kd.int .i64).R e (W.alloc (.cells (nums .i64 xs).toArray e)) 0 ok (.slice (some ⟨W.heap.size, 0, none⟩) xs.length xs.length) xs :=
  Kd.R_of_own (enc := Value.int .i64) (own_lit W 0 e .i64 xs (Nat.zero_le _) hm) (fun k hk => by
    have : W.heap.size = k := by simpa [Value.ownBlock] using hk
    rw [← this]; exact hok)
set_option maxRecDepth 100000 in
set_option maxHeartbeats 4000000 in
theorem load_calls {S : Nat → Prop} (t : Nat) (T : TB) (vars root : Int) (A : Option Addr) (c : Nat) (l : List S107) (R : List Int × TB) (w : World) (hT : Tab w S t T) (hl : T.ns.length + l.length < 1000000000000)
    (hr : ∀ w', Fr S w w' → Kd.C k107 w' A l.length l) (hc : l.length ≤ c) (h : loadP l [0, 1] T = some R) (hroot : 0 ≤ root ∧ root < R.1.length) :
    Calls Try.prog 91 #[.pointer (some ⟨t, 0, none⟩), .agg #[.int .i64 vars, .slice A l.length c, .int .i64 root]] w fun e w' => e = .returned (.int .i64 (rd R.1 root)) ∧ Tab w' (fun k => S k ∨ w.heap.size ≤ k) t R.2 ∧ Fr S w w' := by
  have H := Aside0.mk h
  have HR := Aside0.mk hr
  have HT := Aside0.mk hT
  clear h hr hT
  have hb0 : Below w.heap.size w (w.alloc (.cells #[.int .i64 vars, .slice A l.length c, .int .i64 root] 28)) := below_alloc (Below.refl _ _) _
  have hb1 : Below w.heap.size w ((w.alloc (.cells #[.int .i64 vars, .slice A l.length c, .int .i64 root] 28)).alloc (.cells #[.int .i64 0, .int .i64 1] 3)) := below_alloc hb0 _
  have hf1 : Aside0 (((w.alloc (.cells #[.int .i64 vars, .slice A l.length c, .int .i64 root] 28)).alloc (.cells #[.int .i64 0, .int .i64 1] 3)).heap[w.heap.size]? = some (.cells #[.int .i64 vars, .slice A l.length c, .int .i64 root] 28 (0, 0))) := Aside0.mk (blk_alloc (blk_new _ _) _)
  have hf2 : Aside0 ((Kd.int .i64).R 3 ((w.alloc (.cells #[.int .i64 vars, .slice A l.length c, .int .i64 root] 28)).alloc (.cells #[.int .i64 0, .int .i64 1] 3)) 0 (fun k => w.heap.size < k) (.slice (some ⟨w.heap.size + 1, 0, none⟩) 2 2) [0, 1]) :=
    Aside0.mk (by have h := R_newInts (w.alloc (.cells #[.int .i64 vars, .slice A l.length c, .int .i64 root] 28)) 3 [0, 1] (fun k => w.heap.size < k) (by decide) (by simp); simpa [nums] using h)
  go_enter Try.func91, Try.ntmps91
  go_wp2
  go_loopg [5, 12] (l.length) (fun kq v5 v12 w' => ∃ (i : Nat) (at_ : List Int) (T' : TB) (S' : Nat → Prop), i + kq = l.length ∧ v12 = .int .i64 i ∧ Aside0 (loadP (l.drop i) at_ T' = some R) ∧ T'.ns.length + kq < 1000000000000 ∧ Aside0 (at_.length ≤ i + 2) ∧ Aside0 (∀ k, S' k → ((S k ∧ k < w.heap.size) ∨ w.heap.size < k) ∧ k < w'.heap.size) ∧ Aside0 (Tab w' S' t T') ∧ Aside0 ((Kd.int .i64).R 3 w' 0 (fun k => w.heap.size < k ∧ ¬ S' k) v5 at_) ∧ Aside0 (w'.heap[w.heap.size]? = some (.cells #[.int .i64 vars, .slice A l.length c, .int .i64 root] 28 (0, 0))) ∧ Aside0 (Fr S w w'))
  case atStart =>
    refine ⟨0, [0, 1], T, fun k => S k ∧ k < w.heap.size, by omega, rfl, H, hl, Aside0.mk (Nat.le_refl _), Aside0.mk (fun k hk => ⟨.inl hk, Nat.lt_of_lt_of_le hk.2 hb1.size⟩), Aside0.mk (HT.out.bound.below hb1), Aside0.mk (Kd.R_mono hf2.out (fun k hk => ⟨hk, fun h2 => ?_⟩)), hf1, Aside0.mk (Fr.of_below hb1)⟩
    have := h2.2; omega
  case round =>
    clear hb0 hb1 hf1 hf2
    obtain ⟨i, at_, T', S', hi, rfl, HL, hlen, HAL, HS, HT', HO, HBX, HF⟩ := hrel
    have hbx := (blk_cell HBX.out 1).trans rfl
    by_cases hlt : i < l.length
    · obtain ⟨ad, e1, x0, x1, x2⟩ := at_T107 (HR.out wr HF.out) (i : Int) (by omega) (by omega)
      subst e1
      have hd : decide (i < l.length) = true := decide_eq_true hlt
      simp only [Int.toNat_natCast] at x0 x1 x2
      obtain ⟨n, hn⟩ : ∃ n, n = rd_T107 l i := ⟨_, rfl⟩
      rw [← hn] at x0 x1 x2
      replace hn := Aside0.mk hn
      have hdrop : l.drop i = n :: l.drop (i + 1) := by
        rw [List.drop_eq_getElem_cons hlt, hn.out]
        simp [rd_T107, hlt]
      have hL2 := HL.out
      rw [hdrop] at hL2
      unfold loadP at hL2
      split at hL2
      case isFalse => cases hL2
      rename_i hin
      obtain ⟨q1, q2, q3, q4⟩ := hin
      replace hL2 := Aside0.mk hL2
      clear HL hdrop
      obtain ⟨A5, c5, rfl, hc5, hC5⟩ := Kd.R_reads HO.out
      obtain ⟨ad5, e5, y1⟩ := Kd.at_int hC5 n.f1 q1 q2
      obtain ⟨ad6, e6, y2⟩ := Kd.at_int hC5 n.f2 q3 q4
      obtain rfl : ad5 = ad6 := by rw [e5] at e6; injection e6
      subst e5
      go_wp2
      have hbel3 : Below wr.heap.size wr (wr.alloc (Obj.cells #[Value.int IntKind.i64 n.f0, Value.int IntKind.i64 n.f1, Value.int IntKind.i64 n.f2] 107)) := below_alloc (Below.refl _ _) _
      have z := blk_new wr (Obj.cells #[Value.int IntKind.i64 n.f0, Value.int IntKind.i64 n.f1, Value.int IntKind.i64 n.f2] 107)
      have z0 := (blk_cell z 0).trans rfl
      have z1 := (blk_cell z 1).trans rfl
      have z2 := (blk_cell z 2).trans rfl
      replace y1 := pw_cell_below hbel3 y1
      replace y2 := pw_cell_below hbel3 y2
      have HB3 := Aside0.mk hbel3
      have hsz3 : wr.heap.size < (wr.alloc (Obj.cells #[Value.int IntKind.i64 n.f0, Value.int IntKind.i64 n.f1, Value.int IntKind.i64 n.f2] 107)).heap.size := by simp
      clear hbel3 z x0 x1 x2 hC5
      generalize (wr.alloc (Obj.cells #[Value.int IntKind.i64 n.f0, Value.int IntKind.i64 n.f1, Value.int IntKind.i64 n.f2] 107)) = w3 at z0 z1 z2 y1 y2 HB3 hsz3 ⊢
      have HT3 : Aside0 (Tab w3.drew S' t T') := Aside0.mk (HT'.out.below (below_drew HB3.out))
      have HO3 := Aside0.mk (Kd.R_drew (Kd.R_below HO.out HB3.out))
      have hlen' : T'.ns.length < 1000000000000 := by omega
      have hsz0 : Aside0 (w.heap.size < w3.drew.heap.size) := Aside0.mk (by have := blk_lt HBX.out; show w.heap.size < w3.heap.size; omega)
      have hal : Aside0 ((at_.length + 1) * 8 ≤ 140737488355328) := Aside0.mk (by have := HAL.out; omega)
      have HN : Aside0 (Calls Try.prog 105 #[.pointer (some ⟨t, 0, none⟩), .agg #[.int .i64 n.f0, .int .i64 (rd at_ n.f1), .int .i64 (rd at_ n.f2)]] w3.drew fun e w4 => e = .returned (.int .i64 (nodeP T' ⟨n.f0, rd at_ n.f1, rd at_ n.f2⟩).1) ∧ Aside0 (Tab w4 (fun k => (S' k ∨ w3.heap.size ≤ k) ∧ k < w4.heap.size) t (nodeP T' ⟨n.f0, rd at_ n.f1, rd at_ n.f2⟩).2) ∧ Aside0 (Fr S' w3.drew w4) ∧ Aside0 ((Kd.int .i64).R 3 w4 0 (fun k => w.heap.size < k ∧ ¬ ((S' k ∨ w3.heap.size ≤ k) ∧ k < w4.heap.size)) (.slice (some ad5) at_.length c5) at_) ∧ Aside0 (w.heap.size < w4.heap.size)) :=
        Aside0.mk ((node_calls t T' ⟨n.f0, rd at_ n.f1, rd at_ n.f2⟩ w3.drew HT3.out hlen').mono fun e w4 h => ⟨h.1, ⟨h.2.1.bound⟩, ⟨h.2.2⟩, ⟨Kd.R_mono (h.2.2.R (Kd.R_bound HO3.out) (fun k hk => hk.1.2)) (fun k hk => ⟨hk.1.1, fun h => h.1.elim hk.1.2 (fun h => Nat.lt_irrefl _ (Nat.lt_of_lt_of_le hk.2.2.1 h))⟩)⟩, ⟨Nat.lt_of_lt_of_le hsz0.out h.2.2.size⟩⟩)
      clear HT3 HO3 hsz0 hlen'
      refine start_ (n := 19) (S := fun w' => (w'.cell? ⟨wr.heap.size, 0, none⟩ = some (.int .i64 n.f0)) ∧ (w'.cell? ⟨wr.heap.size, 1, none⟩ = some (.int .i64 n.f1)) ∧ (w'.cell? ⟨wr.heap.size, 2, none⟩ = some (.int .i64 n.f2)) ∧ (w'.cell? (ad5.add n.f1.toNat) = some (.int .i64 (rd at_ n.f1))) ∧ (w'.cell? (ad5.add n.f2.toNat) = some (.int .i64 (rd at_ n.f2)))) (ds := [15, 16, 17, 18]) #[false, false, false, false, false, false, false, false, false, false, false, false, false, false, false, false, false, false, false] (by kernel_rfl) rfl rfl ⟨z0, z1, z2, y1, y2⟩ (fun hHeld => ?_)
      refine with_tabW tb_load_5.tab tb_load_5.bits (fun HT_ HW_ => ?_)
      refine pure_ (i := 0) (N := some 16) (v := ?_) (a' := ?_) #[true, false, false, false, false, false, false, false, false, false, false, false, false, false, false, false, false, false, false] rfl rfl (any_of HT_.out (by kernel_rfl)) (fun _ _ _ h => h) (Or.inl ⟨by rfl, ?_⟩) ?_ ?_
      rotate_left
      · intro w'
        go_simp
        with_reducible rfl
      rotate_left
      · simp only [Act.put, List.setIfInBounds_toArray, List.set_cons_zero, List.set_cons_succ, i64_w, i32_w]
        rfl
      refine pure_ (i := 1) (N := some 17) (v := ?_) (a' := ?_) #[true, true, false, false, false, false, false, false, false, false, false, false, false, false, false, false, false, false, false] rfl rfl (any_of HT_.out (by kernel_rfl)) (fun _ _ _ h => h) (Or.inl ⟨by rfl, ?_⟩) ?_ ?_
      rotate_left
      · intro w'
        go_simp
        with_reducible rfl
      rotate_left
      · simp only [Act.put, List.setIfInBounds_toArray, List.set_cons_zero, List.set_cons_succ, i64_w, i32_w]
        rfl
      refine pure_ (i := 2) (N := some 18) (v := ?_) (a' := ?_) #[true, true, true, false, false, false, false, false, false, false, false, false, false, false, false, false, false, false, false] rfl rfl (any_of HT_.out (by kernel_rfl)) (fun _ _ _ h => h) (Or.inl ⟨by rfl, ?_⟩) ?_ ?_
      rotate_left
      · intro w'
        go_simp
        with_reducible rfl
      rotate_left
      · simp only [Act.put, List.setIfInBounds_toArray, List.set_cons_zero, List.set_cons_succ, i64_w, i32_w]
        rfl
      refine take_ (i := 3) (N := some 19) (v := ?_) (a' := ?_) #[true, true, true, true, false, false, false, false, false, false, false, false, false, false, false, false, false, false, false] rfl rfl (take_ofW HT_.out HW_.out (by kernel_rfl)) (fun _ _ _ h => h) (Or.inl ⟨by rfl, ?_⟩) hHeld ?_ ?_
      rotate_left
      · rintro w' ⟨s0, s1, s2, s3, s4⟩
        go_simp
        with_reducible rfl
      rotate_left
      · simp only [Act.put, List.setIfInBounds_toArray, List.set_cons_zero, List.set_cons_succ, i64_w, i32_w]
        rfl
      refine pure_ (i := 4) (N := some 20) (v := ?_) (a' := ?_) #[true, true, true, true, true, false, false, false, false, false, false, false, false, false, false, false, false, false, false] rfl rfl (any_of HT_.out (by kernel_rfl)) (fun _ _ _ h => h) (Or.inl ⟨by rfl, ?_⟩) ?_ ?_
      rotate_left
      · intro w'
        go_simp
        with_reducible rfl
      rotate_left
      · simp only [Act.put, List.setIfInBounds_toArray, List.set_cons_zero, List.set_cons_succ, i64_w, i32_w]
        rfl
      refine pure_ (i := 5) (N := some 21) (v := ?_) (a' := ?_) #[true, true, true, true, true, true, false, false, false, false, false, false, false, false, false, false, false, false, false] rfl rfl (any_of HT_.out (by kernel_rfl)) (fun _ _ _ h => h) (Or.inl ⟨by rfl, ?_⟩) ?_ ?_
      rotate_left
      · intro w'
        go_simp
        with_reducible rfl
      rotate_left
      · simp only [Act.put, List.setIfInBounds_toArray, List.set_cons_zero, List.set_cons_succ, i64_w, i32_w]
        rfl
      refine take_ (i := 6) (N := some 22) (v := ?_) (a' := ?_) #[true, true, true, true, true, true, true, false, false, false, false, false, false, false, false, false, false, false, false] rfl rfl (take_ofW HT_.out HW_.out (by kernel_rfl)) (fun _ _ _ h => h) (Or.inl ⟨by rfl, ?_⟩) hHeld ?_ ?_
      rotate_left
      · rintro w' ⟨s0, s1, s2, s3, s4⟩
        go_simp
        with_reducible rfl
      rotate_left
      · simp only [Act.put, List.setIfInBounds_toArray, List.set_cons_zero, List.set_cons_succ, i64_w, i32_w]
        rfl
      refine pure_ (i := 7) (N := some 23) (v := ?_) (a' := ?_) #[true, true, true, true, true, true, true, true, false, false, false, false, false, false, false, false, false, false, false] rfl rfl (any_of HT_.out (by kernel_rfl)) (fun _ _ _ h => h) (Or.inl ⟨by rfl, ?_⟩) ?_ ?_
      rotate_left
      · intro w'
        go_simp
        with_reducible rfl
      rotate_left
      · simp only [Act.put, List.setIfInBounds_toArray, List.set_cons_zero, List.set_cons_succ, i64_w, i32_w]
        rfl
      refine take_ (i := 8) (N := some 24) (v := ?_) (a' := ?_) #[true, true, true, true, true, true, true, true, true, false, false, false, false, false, false, false, false, false, false] rfl rfl (take_ofW HT_.out HW_.out (by kernel_rfl)) (fun _ _ _ h => h) (Or.inl ⟨by rfl, ?_⟩) hHeld ?_ ?_
      rotate_left
      · rintro w' ⟨s0, s1, s2, s3, s4⟩
        go_simp
        with_reducible rfl
      rotate_left
      · simp only [Act.put, List.setIfInBounds_toArray, List.set_cons_zero, List.set_cons_succ, i64_w, i32_w]
        rfl
      refine pure_ (i := 9) (N := some 25) (v := ?_) (a' := ?_) #[true, true, true, true, true, true, true, true, true, true, false, false, false, false, false, false, false, false, false] rfl rfl (any_of HT_.out (by kernel_rfl)) (fun _ _ _ h => h) (Or.inl ⟨by rfl, ?_⟩) ?_ ?_
      rotate_left
      · intro w'
        go_simp
        with_reducible rfl
      rotate_left
      · simp only [Act.put, List.setIfInBounds_toArray, List.set_cons_zero, List.set_cons_succ, i64_w, i32_w]
        rfl
      refine pure_ (i := 10) (N := some 26) (v := ?_) (a' := ?_) #[true, true, true, true, true, true, true, true, true, true, true, false, false, false, false, false, false, false, false] rfl rfl (any_of HT_.out (by kernel_rfl)) (fun _ _ _ h => h) (Or.inl ⟨by rfl, ?_⟩) ?_ ?_
      rotate_left
      · intro w'
        go_simp
        with_reducible rfl
      rotate_left
      · simp only [Act.put, List.setIfInBounds_toArray, List.set_cons_zero, List.set_cons_succ, i64_w, i32_w]
        rfl
      refine take_ (i := 11) (N := some 27) (v := ?_) (a' := ?_) #[true, true, true, true, true, true, true, true, true, true, true, true, false, false, false, false, false, false, false] rfl rfl (take_ofW HT_.out HW_.out (by kernel_rfl)) (fun _ _ _ h => h) (Or.inl ⟨by rfl, ?_⟩) hHeld ?_ ?_
      rotate_left
      · rintro w' ⟨s0, s1, s2, s3, s4⟩
        go_simp
        with_reducible rfl
      rotate_left
      · simp only [Act.put, List.setIfInBounds_toArray, List.set_cons_zero, List.set_cons_succ, i64_w, i32_w]
        rfl
      refine pure_ (i := 12) (N := some 28) (v := ?_) (a' := ?_) #[true, true, true, true, true, true, true, true, true, true, true, true, true, false, false, false, false, false, false] rfl rfl (any_of HT_.out (by kernel_rfl)) (fun _ _ _ h => h) (Or.inl ⟨by rfl, ?_⟩) ?_ ?_
      rotate_left
      · intro w'
        go_simp
        with_reducible rfl
      rotate_left
      · simp only [Act.put, List.setIfInBounds_toArray, List.set_cons_zero, List.set_cons_succ, i64_w, i32_w]
        rfl
      refine take_ (i := 13) (N := some 29) (v := ?_) (a' := ?_) #[true, true, true, true, true, true, true, true, true, true, true, true, true, true, false, false, false, false, false] rfl rfl (take_ofW HT_.out HW_.out (by kernel_rfl)) (fun _ _ _ h => h) (Or.inl ⟨by rfl, ?_⟩) hHeld ?_ ?_
      rotate_left
      · rintro w' ⟨s0, s1, s2, s3, s4⟩
        go_simp
        with_reducible rfl
      rotate_left
      · simp only [Act.put, List.setIfInBounds_toArray, List.set_cons_zero, List.set_cons_succ, i64_w, i32_w]
        rfl
      refine pure_ (i := 14) (N := some 30) (v := ?_) (a' := ?_) #[true, true, true, true, true, true, true, true, true, true, true, true, true, true, true, false, false, false, false] rfl rfl (any_of HT_.out (by kernel_rfl)) (fun _ _ _ h => h) (Or.inl ⟨by rfl, ?_⟩) ?_ ?_
      rotate_left
      · intro w'
        go_simp
        with_reducible rfl
      rotate_left
      · simp only [Act.put, List.setIfInBounds_toArray, List.set_cons_zero, List.set_cons_succ, i64_w, i32_w]
        rfl
      refine last_ (i := 15) (N := some 31) #[true, true, true, true, true, true, true, true, true, true, true, true, true, true, true, true, false, false, false] rfl rfl (one_of HT_.out (by kernel_rfl)) (by decide) (fun K hK => ?_)
      refine goes_ Try.func105 (by kernel_rfl) rfl #[.pointer (some ⟨t, 0, none⟩), .agg #[.int .i64 n.f0, .int .i64 (rd at_ n.f1), .int .i64 (rd at_ n.f2)]] (by rfl) rfl rfl (by simp only [List.map_toArray, List.map_cons, List.map_nil]; rfl) ?_
      refine HN.out.mono ?_
      rintro e w4 ⟨rfl, HT4, HF4, HO4, hsz4⟩
      refine ⟨_, rfl, ?_⟩
      refine hK.out _ _ ?_
      clear hK K
      refine norm_ (a' := ?_) ?_ ?_
      rotate_left
      · show Act.put _ (some 31) _ = _
        (try simp only [Act.put, List.setIfInBounds_toArray, List.set_cons_zero, List.set_cons_succ, i64_w, i32_w])
        rfl
      refine last_ (i := 16) (N := some 32) #[true, true, true, true, true, true, true, true, true, true, true, true, true, true, true, true, true, false, false] rfl rfl (one_of HT_.out (by kernel_rfl)) (by decide) (fun K hK => ?_)
      refine value_ (w1 := ?_) (v := ?_) (by rfl) rfl ?_ ?_
      rotate_left 2
      · go_simp
        constructor
        · rfl
        · rfl
      refine hK.out _ _ ?_
      clear hK K
      refine norm_ (a' := ?_) ?_ ?_
      rotate_left
      · show Act.put _ (some 32) _ = _
        (try simp only [Act.put, List.setIfInBounds_toArray, List.set_cons_zero, List.set_cons_succ, i64_w, i32_w])
        rfl
      refine last_ (i := 17) (N := some 33) #[true, true, true, true, true, true, true, true, true, true, true, true, true, true, true, true, true, true, false] rfl rfl (one_of HT_.out (by kernel_rfl)) (by decide) (fun K hK => ?_)
      refine Kd.R_append_step (Kd.int .i64) (w0 := w4) 0 (by rfl) (.tmp 16) (.tmp 32) 82 3 _ 8 rfl Try.underlying82 info3 rfl (by decide) (by decide) (.slice (some ad5) at_.length c5) at_ _ _ _ (fun _ => False) rfl rfl rfl (fun k hk => hk.elim) (fun k hk => ⟨Nat.lt_of_lt_of_le hsz4.out hk, fun h2 => Nat.lt_irrefl _ (Nat.lt_of_lt_of_le h2.2 hk)⟩) HO4.out (Below.refl 0 _) (Nat.zero_le _) hal.out ?_
      intro v5 w5 hR5 hB5 hg5 hat5
      obtain ⟨A5', c5', rfl, hc5', hC5'⟩ := Kd.R_reads hR5
      refine hK.out _ _ ?_
      clear hK K
      refine norm_ (a' := ?_) ?_ ?_
      rotate_left
      · show Act.put _ (some 33) _ = _
        (try simp only [Act.put, List.setIfInBounds_toArray, List.set_cons_zero, List.set_cons_succ, i64_w, i32_w])
        rfl
      refine last_ (i := 18) (N := some 5) #[true, true, true, true, true, true, true, true, true, true, true, true, true, true, true, true, true, true, true] rfl rfl (one_of HT_.out (by kernel_rfl)) (by decide) (fun K hK => ?_)
      refine value_ (w1 := ?_) (v := ?_) (by rfl) rfl ?_ ?_
      rotate_left 2
      · go_simp
        constructor
        · rfl
        · rfl
      refine hK.out _ _ ?_
      clear hK K
      refine norm_ (a' := ?_) ?_ ?_
      rotate_left
      · show Act.put _ (some 5) _ = _
        (try simp only [Act.put, List.setIfInBounds_toArray, List.set_cons_zero, List.set_cons_succ, i64_w, i32_w])
        rfl
      refine done_ (done_of HT_.out (by kernel_rfl)) ?_
      clear z0 z1 z2 y1 y2 hHeld
      have hi2 : (i : Int) + 1 ≤ 1000000000001 := by omega
      have hi3 : (0 : Int) ≤ i := by omega
      go_wp2
      go_roundg (gk - 1)
      case measure => omega
      case rel =>
        have hne5 : ∀ k, (Value.slice (some ad5) at_.length c5).ownBlock = some k → w.heap.size < k ∧ ¬ ((S' k ∨ w3.heap.size ≤ k) ∧ k < w4.heap.size) := HO4.out.1
        have hT5 : Tab w5 (fun k => (S' k ∨ w3.heap.size ≤ k) ∧ k < w4.heap.size) t (nodeP T' ⟨n.f0, rd at_ n.f1, rd at_ n.f2⟩).2 :=
          HT4.out.move (fun k hk hlt => hg5.block k hlt (fun e => (hne5 k e.symm).2 hk))
        have hF5 : Fr S w w5 := by
          have h3 : Fr S w w3.drew := HF.out.then_ (S2 := S) (Fr.of_below (below_drew HB3.out)) (fun i h => .inl h)
          have h4 : Fr S w w4 := h3.then_ (S2 := S') HF4.out (fun i h => ((HS.out i h).1).imp And.left Nat.le_of_lt)
          exact h4.then_ (S2 := fun k => (Value.slice (some ad5) at_.length c5).ownBlock = some k) (Fr.of_grown hg5 (fun k h => h)) (fun i h => .inr (Nat.le_of_lt (hne5 i h).1))
        have hl5 : (at_ ++ [(nodeP T' ⟨n.f0, rd at_ n.f1, rd at_ n.f2⟩).1]).length = at_.length + 1 := by simp
        rw [hl5] at hR5
        have hnl := nodeP_len T' ⟨n.f0, rd at_ n.f1, rd at_ n.f2⟩
        refine ⟨i + 1, at_ ++ [(nodeP T' ⟨n.f0, rd at_ n.f1, rd at_ n.f2⟩).1], (nodeP T' ⟨n.f0, rd at_ n.f1, rd at_ n.f2⟩).2, fun k => (S' k ∨ w3.heap.size ≤ k) ∧ k < w4.heap.size, by omega, by go_num, hL2, by omega, ⟨by have := HAL.out; omega⟩, ⟨fun k hk => ⟨?_, Nat.lt_of_lt_of_le hk.2 hg5.size⟩⟩, ⟨hT5⟩, ⟨hR5⟩, ⟨?_⟩, ⟨hF5⟩⟩
        · rcases hk.1 with h | h
          · exact (HS.out k h).1
          · have := blk_lt HBX.out; omega
        · have hlt3 : w.heap.size < w3.heap.size := by have := blk_lt HBX.out; omega
          have h1 : w3.heap[w.heap.size]? = some (.cells #[.int .i64 vars, .slice (some ad) l.length c, .int .i64 root] 28 (0, 0)) := blk_below HBX.out HB3.out
          have h2 : w4.heap[w.heap.size]? = _ := (HF4.out.block w.heap.size hlt3 (fun h => ?_)).trans h1
          · exact (hg5.block _ hsz4.out (fun e => Nat.lt_irrefl _ (hne5 _ e.symm).1)).trans h2
          · rcases (HS.out _ h).1 with h' | h'
            · exact Nat.lt_irrefl _ h'.2
            · exact Nat.lt_irrefl _ h'
    · have hd : decide (i < l.length) = false := decide_eq_false hlt
      have hge : l.drop i = [] := List.drop_eq_nil_of_le (by omega)
      have hL2 := HL.out
      rw [hge] at hL2
      unfold loadP at hL2
      obtain rfl := Option.some.inj hL2
      clear hL2 HL hge
      obtain ⟨A5, c5, rfl, hc5, hC5⟩ := Kd.R_reads HO.out
      obtain ⟨ad5, rfl, y1⟩ := Kd.at_int hC5 root hroot.1 hroot.2
      have hr0 := hroot.1
      have hr1 := hroot.2
      have hbx2 := (blk_cell HBX.out 2).trans rfl
      clear hroot
      go_wp2
      go_ret
      refine ⟨rfl, HT'.out.mono (fun k hk => (HS.out k hk).1.imp And.left Nat.le_of_lt), HF.out⟩
end Go.Proofs.Ytlplphgoldkoeaa.HTab

end

section
/- The table's 'mask': the nodes that a place reaches, numbered anew. -/
namespace Go.Proofs.Ytlplphgoldkoeaa.HTab
open Go.RowKit Go.Proofs.YtlplphgoldkoeaaW.PrintWords Go.Proofs.YtlplphgoldkoeaaW.PrintLast Go.Proofs.YtlplphgoldkoeaaW.PrintMore Go.Proofs.Ytlplphgoldkoeaa.HMap Go.Proofs.Ytlplphgoldkoeaa.X
open Go.ChangeMaps (setBlock)
set_option linter.unusedVariables false
set_option linter.unusedSimpArgs false

theorem keyI : MKey Try.prog 3 (Value.int .i64) where
  check w em x := Go.MapKept.run_checkKey Try.underlying3 (show Go.MapKept.IsKey (.int .i64) (.int .i64 x) from rfl) em 9999
  und := ⟨_, Try.underlying3, .inr fun x y => by
    show (if IntKind.i64 = IntKind.i64 then some (x == y) else none) = _
    rw [if_pos rfl]
    congr 1⟩
  eq w x y := by
    show (Op.equalIn (9999 + 1) 3 _ _).run Try.prog w = _
    rw [run_equalIn_int w 9999 3 .i64 .i64 x y Try.underlying3]
    congr 1
  same x := by simp [Instr.sameBits]

/-- What the closure does: the numbers given so far, and the nodes told. -/
structure MS where
  M : List (Int × Int)
  out : List S107
def maskP (T : TB) : Nat → MS → Int → Option (Int × MS)
  | 0, _, _ => none
  | k + 1, s, p => match HMap.look s.M p with
    | some q => some (q, s)
    | none => if 0 ≤ p ∧ p < T.ns.length then
        (maskP T k s (rd_T107 T.ns p).f1).bind fun a => (maskP T k a.2 (rd_T107 T.ns p).f2).bind fun b =>
          some ((b.2.out.length : Int) + 2, ⟨HMap.upd b.2.M p ((b.2.out.length : Int) + 2), b.2.out ++ [⟨(rd_T107 T.ns p).f0, a.1, b.1⟩]⟩)
      else none

def fnM (ga gt gv go : Nat) : Value := .func (.func 129) #[] #[.pointer (some ⟨ga, 0, none⟩), .pointer (some ⟨gt, 0, none⟩), .pointer (some ⟨gv, 0, none⟩), .pointer (some ⟨go, 0, none⟩)]
/-- The closure's variables: 'at', 't', 'visit', 'out'; S: all that changes. -/
def Mk (w : World) (S : Nat → Prop) (ga gt gv go t : Nat) (T : TB) (s : MS) : Prop :=
  ∃ mb vN, w.heap[ga]? = some (.cells #[.map (some mb)] 122 (0, 0)) ∧ w.heap[gt]? = some (.cells #[.pointer (some ⟨t, 0, none⟩)] 109 (0, 0)) ∧
    w.heap[gv]? = some (.cells #[fnM ga gt gv go] 123 (0, 0)) ∧ w.heap[go]? = some (.cells #[.int .i64 T.vars, vN, .int .i64 0] 28 (0, 0)) ∧
    S mb ∧ S go ∧ ¬ S ga ∧ ¬ S gt ∧ ¬ S gv ∧ MapIs (Value.int .i64) (Value.int .i64) w mb s.M ∧ k107.R 107 w 0 S vN s.out ∧ ∃ S2, Tab w S2 t T ∧ ∀ k, S2 k → ¬ S k

set_option maxRecDepth 100000 in
set_option maxHeartbeats 4000000 in
theorem mask_found {S : Nat → Prop} (ga gt gv go t : Nat) (T : TB) (s : MS) (p q : Int) (w : World) (h : Mk w S ga gt gv go t T s) (hl : HMap.look s.M p = some q) :
    Calls Try.prog 129 #[.int .i64 p, .pointer (some ⟨ga, 0, none⟩), .pointer (some ⟨gt, 0, none⟩), .pointer (some ⟨gv, 0, none⟩), .pointer (some ⟨go, 0, none⟩)] w fun e w' => e = .returned (.int .i64 q) ∧ w = w' := by
  obtain ⟨mb, vN, h1, h2, h3, h4, h5, h6, h7, h8, h9, hM, hR, S2, hT, hS⟩ := h
  have c1 := (blk_cell h1 0).trans rfl
  have hrun : (Instr.lookup 122 (.map (some mb)) (.int .i64 p) true).run Try.prog w = .ok (.tuple #[.int .i64 q, .bool true]) w := by
    have := run_lookup keyI Try.underlying122 hM p true (zero3 _)
    simpa [hl] using this
  clear h1 h2 h3 h4 h5 h6 h7 h8 h9 hM hR hT hS hl
  go_enter Try.func129, Try.ntmps129
  go_wp2
  go_ret
  exact ⟨rfl, rfl⟩

theorem Mk.bound {w : World} {S : Nat → Prop} {ga gt gv go t : Nat} {T : TB} {s : MS} (h : Mk w S ga gt gv go t T s) : Mk w (fun k => S k ∧ k < w.heap.size) ga gt gv go t T s := by
  obtain ⟨mb, vN, h1, h2, h3, h4, h5, h6, h7, h8, h9, hM, hR, S2, hT, hS⟩ := h
  exact ⟨mb, vN, h1, h2, h3, h4, ⟨h5, hM.lt⟩, ⟨h6, blk_lt h4⟩, fun h => h7 h.1, fun h => h8 h.1, fun h => h9 h.1, hM, Kd.R_mono (Kd.R_bound hR) (fun k hk => ⟨hk.1, hk.2.2.1⟩), S2, hT, fun k hk h => hS k hk h.1⟩
theorem Mk.below {w w1 : World} {S : Nat → Prop} {ga gt gv go t : Nat} {T : TB} {s : MS} (h : Mk w S ga gt gv go t T s) (hb : Below w.heap.size w w1) : Mk w1 S ga gt gv go t T s := by
  obtain ⟨mb, vN, h1, h2, h3, h4, h5, h6, h7, h8, h9, hM, hR, S2, hT, hS⟩ := h
  exact ⟨mb, vN, blk_below h1 hb, blk_below h2 hb, blk_below h3 hb, blk_below h4 hb, h5, h6, h7, h8, h9, hM.move (hb.block _ hM.lt), Kd.R_below hR hb, S2, hT.below hb, hS⟩
/-- A larger set of what may have changed: nothing that must stay lies in it. -/
theorem Mk.grow {w w0 : World} {S S' : Nat → Prop} {ga gt gv go t : Nat} {T : TB} {s s' : MS} (h : Mk w S' ga gt gv go t T s) (h0 : Mk w0 S ga gt gv go t T s') (hf : Fr S w0 w) (hs : ∀ k, S' k → (S k ∨ w0.heap.size ≤ k) ∧ k < w.heap.size) : Mk w (fun k => (S k ∨ w0.heap.size ≤ k) ∧ k < w.heap.size) ga gt gv go t T s := by
  obtain ⟨mb0, vN0, i1, i2, i3, i4, i5, i6, i7, i8, i9, iM, iR, S20, iT, iS⟩ := h0
  obtain ⟨mb, vN, h1, h2, h3, h4, h5, h6, h7, h8, h9, hM, hR, S2, hT, hS⟩ := h
  have hlt : ∀ {k : Nat} {o : Obj}, w0.heap[k]? = some o → ¬ w0.heap.size ≤ k := fun hk => by have := blk_lt hk; omega
  refine ⟨mb, vN, h1, h2, h3, h4, hs _ h5, hs _ h6, fun h => h.1.elim i7 (hlt i1), fun h => h.1.elim i8 (hlt i2), fun h => h.1.elim i9 (hlt i3), hM, Kd.R_mono hR hs, fun k => S20 k ∧ k < w0.heap.size, (iT.bound.fr hf (fun k hk => iS k hk.1)), fun k hk h => h.1.elim (iS k hk.1) (fun h => by have := hk.2; omega)⟩
def MPost (w : World) (S : Nat → Prop) (ga gt gv go t : Nat) (T : TB) (r : Int) (s : MS) (e : Ending) (w' : World) : Prop :=
  e = .returned (.int .i64 r) ∧ Mk w' (fun k => (S k ∨ w.heap.size ≤ k) ∧ k < w'.heap.size) ga gt gv go t T s ∧ Fr S w w'

set_option maxRecDepth 100000 in
set_option maxHeartbeats 4000000 in
theorem mask_new {S : Nat → Prop} (ga gt gv go t : Nat) (T : TB) (s s1 s2 : MS) (p r1 r2 : Int) (w : World) (h : Mk w S ga gt gv go t T s) (hl : HMap.look s.M p = none) (hp : 0 ≤ p ∧ p < T.ns.length) (hlen : s2.out.length + 1 < 1000000000000)
    (C1 : ∀ (S : Nat → Prop) (W : World), Mk W S ga gt gv go t T s → Calls Try.prog 129 #[.int .i64 (rd_T107 T.ns p).f1, .pointer (some ⟨ga, 0, none⟩), .pointer (some ⟨gt, 0, none⟩), .pointer (some ⟨gv, 0, none⟩), .pointer (some ⟨go, 0, none⟩)] W (MPost W S ga gt gv go t T r1 s1))
    (C2 : ∀ (S' : Nat → Prop) (W : World), Mk W S' ga gt gv go t T s1 → Calls Try.prog 129 #[.int .i64 (rd_T107 T.ns p).f2, .pointer (some ⟨ga, 0, none⟩), .pointer (some ⟨gt, 0, none⟩), .pointer (some ⟨gv, 0, none⟩), .pointer (some ⟨go, 0, none⟩)] W (MPost W S' ga gt gv go t T r2 s2)) :
    Calls Try.prog 129 #[.int .i64 p, .pointer (some ⟨ga, 0, none⟩), .pointer (some ⟨gt, 0, none⟩), .pointer (some ⟨gv, 0, none⟩), .pointer (some ⟨go, 0, none⟩)] w
      (MPost w S ga gt gv go t T ((s2.out.length : Int) + 2) ⟨HMap.upd s2.M p ((s2.out.length : Int) + 2), s2.out ++ [⟨(rd_T107 T.ns p).f0, r1, r2⟩]⟩) := by
  have HK := Aside0.mk h
  obtain ⟨mb, vN, h1, h2, h3, h4, h5, h6, h7, h8, h9, hM, hR, S2, hT, hS⟩ := h
  have c1 := (blk_cell h1 0).trans rfl
  have c2 := (blk_cell h2 0).trans rfl
  have c3 : w.cell? ⟨gv, 0, none⟩ = some (.func (.func 129) #[] #[.pointer (some ⟨ga, 0, none⟩), .pointer (some ⟨gt, 0, none⟩), .pointer (some ⟨gv, 0, none⟩), .pointer (some ⟨go, 0, none⟩)]) := (blk_cell h3 0).trans rfl
  obtain ⟨A, c, mbt, ct0, ct1, ct2, hC⟩ := hT.cells
  obtain ⟨n, hn⟩ : ∃ n, n = rd_T107 T.ns p := ⟨_, rfl⟩
  obtain ⟨ad, rfl, x0, x1, x2⟩ := at_T107 hC p hp.1 hp.2
  rw [← hn] at x0 x1 x2 C1 C2 ⊢
  have hrun : (Instr.lookup 122 (.map (some mb)) (.int .i64 p) true).run Try.prog w = .ok (.tuple #[.int .i64 0, .bool false]) w := by
    have := run_lookup keyI Try.underlying122 hM p true (zero3 _)
    simpa [hl] using this
  have hp0 := hp.1
  have hp1 := hp.2
  obtain ⟨w1, hw1⟩ : ∃ w1, w1 = w.alloc (Obj.cells #[.int .i64 n.f0, .int .i64 n.f1, .int .i64 n.f2] 107) := ⟨_, rfl⟩
  have hbel : Below w.heap.size w w1 := by rw [hw1]; exact below_alloc (Below.refl _ _) _
  have hbx : w1.heap[w.heap.size]? = some (.cells #[.int .i64 n.f0, .int .i64 n.f1, .int .i64 n.f2] 107 (0, 0)) := by rw [hw1]; exact blk_new _ _
  have c3x : ∀ o : Obj, (w.alloc o).cell? ⟨gv, 0, none⟩ = some (.func (.func 129) #[] #[.pointer (some ⟨ga, 0, none⟩), .pointer (some ⟨gt, 0, none⟩), .pointer (some ⟨gv, 0, none⟩), .pointer (some ⟨go, 0, none⟩)]) := fun o => pw_cell_below (below_alloc (Below.refl _ _) o) c3
  have HC1 := Aside0.mk (C1 _ w1 (HK.out.bound.below hbel))
  have HC2 := Aside0.mk C2
  have HBX := Aside0.mk hbx
  have HBL := Aside0.mk hbel
  clear h1 h2 h3 h4 h5 h6 h7 h8 h9 hM hR hT hS hl hp hn hC C1 C2 ct0 ct2 hbel hbx
  go_enter Try.func129, Try.ntmps129
  go_wp2_with fail
  rw [← hw1]
  clear hw1
  refine HC1.out.mono ?_
  intro e w3 hv
  obtain ⟨rfl, hK3, hF3⟩ := hv
  have hb3 : w3.heap[w.heap.size]? = _ := (hF3.block _ (blk_lt HBX.out) (fun h => Nat.lt_irrefl _ h.2)).trans HBX.out
  have b1 := (blk_cell hb3 1).trans rfl
  have b2 := (blk_cell hb3 2).trans rfl
  have hk3 := hK3
  obtain ⟨mb3, vN3, g1, g2, g3, g4, g5, g6, g7, g8, g9, gM, gR, S3, gT, gS⟩ := hk3
  have d3 : w3.cell? ⟨gv, 0, none⟩ = some (.func (.func 129) #[] #[.pointer (some ⟨ga, 0, none⟩), .pointer (some ⟨gt, 0, none⟩), .pointer (some ⟨gv, 0, none⟩), .pointer (some ⟨go, 0, none⟩)]) := (blk_cell g3 0).trans rfl
  have HB3 := Aside0.mk hb3
  have HF3 := Aside0.mk hF3
  replace HC2 := Aside0.mk (HC2.out _ w3 hK3)
  clear g1 g2 g3 g4 g5 g6 g7 g8 g9 gM gR gT gS hK3 hF3 hb3
  go_wp2_with fail
  refine HC2.out.mono ?_
  intro e w4 hv
  obtain ⟨rfl, hK4, hF4⟩ := hv
  have hF3' : Fr S w w3 := (Fr.of_below HBL.out).then_ HF3.out (fun i h => .inl h.1)
  have hF4' : Fr S w w4 := hF3'.then_ hF4 (fun i h => h.1.imp And.left (Nat.le_trans HBL.out.size))
  have hK4' := hK4.grow HK.out hF4' (fun k hk => ⟨hk.1.elim (fun h => h.1.imp And.left (Nat.le_trans HBL.out.size)) (fun h => .inr (Nat.le_trans hF3'.size h)), hk.2⟩)
  have hb4 : w4.heap[w.heap.size]? = _ := (hF4.block _ (blk_lt HB3.out) (fun h => h.1.elim (fun h => Nat.lt_irrefl _ h.2) (fun h => by have := blk_lt HBX.out; omega))).trans HB3.out
  have b0 := (blk_cell hb4 0).trans rfl
  have hk4 := hK4'
  obtain ⟨mb4, vN4, g1, g2, g3, g4, g5, g6, g7, g8, g9, gM, gR, S4, gT, gS⟩ := hk4
  obtain ⟨A4, c4, rfl, hc4, _⟩ := Kd.R_reads gR
  have e0 := (blk_cell g4 1).trans rfl
  have e1 := (blk_cell g1 0).trans rfl
  have G1 := Aside0.mk g1
  have G4 := Aside0.mk g4
  have GR := Aside0.mk (Kd.R_mono gR (fun k hk => hk.1))
  have GM := Aside0.mk gM
  have HF4 := Aside0.mk hF4'
  have HK4 := Aside0.mk hK4'
  have HAL : Aside0 ((s2.out.length + 1) * 24 ≤ 140737488355328) := ⟨by omega⟩
  have hne := Aside0.mk (map_ne_own gM gR)
  have hmg : Aside0 (mb4 ≠ go) := ⟨by obtain ⟨es, clk, h, _⟩ := gM; exact map_ne_cells h g4⟩
  have hga : Aside0 (ga ≠ go ∧ ga ≠ mb4) := ⟨fun e => g7 (e ▸ g6), fun e => g7 (e ▸ g5)⟩
  have G2 := Aside0.mk g2
  have G3 := Aside0.mk g3
  have G56 := Aside0.mk (And.intro g5 g6)
  have G789 := Aside0.mk (And.intro g7 (And.intro g8 g9))
  have GT := Aside0.mk gT
  have GS := Aside0.mk gS
  have hgo : Aside0 ((S go ∨ w.heap.size ≤ go) ∧ (S mb4 ∨ w.heap.size ≤ mb4)) := ⟨g6.1, g5.1⟩
  clear g1 g2 g3 g4 g5 g6 g7 g8 g9 gM gR gT gS hK4 hK4' hF4 hF4' hF3' hb4 HC2 HC1 HB3 HF3 b1 b2 d3
  go_wp2_with (first | (at_builtin; refine Kd.R_append k107 (w0 := w4) (W := w4) 0 rfl (.tmp 36) (.tmp 42) 26 107 _ 24 rfl Try.underlying26 info107 rfl (by decide) (by decide) (.slice A4 s2.out.length c4) s2.out ⟨n.f0, r1, r2⟩ [.int .i64 n.f0, .int .i64 r1, .int .i64 r2] (fun k => S k ∨ w.heap.size ≤ k) (fun _ => False) rfl rfl (k107_mkM _ _ _ ⟨n.f0, r1, r2⟩) (fun k hk => hk.elim) (fun k hk => .inr (Nat.le_trans HF4.out.size hk)) GR.out (Below.refl 0 _) (Nat.zero_le _) HAL.out ?_; intro v5 w5 hR5 hB5 hg5 hat5; obtain ⟨A5, c5, rfl, hc5, hC5'⟩ := Kd.R_reads hR5; have hb5 := blk_grown G4.out hg5 (Kd.R_ne GR.out G4.out (by decide)); have f5 := blk_frozen hb5 1; have d5 := (blk_cell hb5 1).trans rfl; have ha5 := blk_grown G1.out hg5 (Kd.R_ne GR.out G1.out (by decide)); have hM5 := GM.out.move (hg5.block mb4 GM.out.lt hne.out); have HB5 := Aside0.mk hb5; have HA5 := Aside0.mk ha5; have HM5 := Aside0.mk hM5; have ha6 := blk_far (p := ⟨go, 1, none⟩) ha5 hga.out.1 (.slice A5 (s2.out.length + 1) c5); have i6 := (blk_cell ha6 0).trans rfl; have hb6 : (w5.setCell ⟨go, 1, none⟩ (.slice A5 (s2.out.length + 1) c5)).heap[go]? = some (.cells #[.int .i64 T.vars, .slice A5 (s2.out.length + 1) c5, .int .i64 0] 28 (0, 0)) := (by simpa using blk_set hb5 1 (.slice A5 (s2.out.length + 1) c5)); have j6 := (blk_cell hb6 1).trans rfl; have HB6 := Aside0.mk hb6; have HA6 := Aside0.mk ha6; clear hb5 ha5 hM5 hb6 ha6) | (at_mapUpdate; refine wpList_upd _ rfl _ _ _ _ rfl keyI Try.underlying122 (HM5.out.move (Below.heap_setCell _ ⟨go, 1, none⟩ _ _ hmg.out)) p _ rfl rfl rfl ?_; intro o7 hM7; have i7 : (setBlock (w5.setCell ⟨go, 1, none⟩ (.slice A5 (s2.out.length + 1) c5)) mb4 o7).cell? ⟨ga, 0, none⟩ = some (.map (some mb4)) := (blk_cell ((setBlock_other _ mb4 o7 ga hga.out.2).trans HA6.out) 0).trans rfl; have hl7 := run_lookup keyI Try.underlying122 hM7 p false (zero3 _); rw [look_upd_same] at hl7; simp only [Option.map_some, Option.getD_some, if_false] at hl7; have HM7 := Aside0.mk hM7; clear hM7))
  go_ret
  have hl5 : (s2.out ++ [(⟨n.f0, r1, r2⟩ : S107)]).length = s2.out.length + 1 := by simp
  rw [hl5] at hR5
  have hv7 : ((s2.out.length : Int) + 1 + 1) = (s2.out.length : Int) + 2 := by omega
  have K5 : Fr (fun k => (S k ∨ w.heap.size ≤ k) ∧ k < w4.heap.size) w4 w5 := Fr.of_grown hg5 (fun k hk => ⟨GR.out.1 k hk, ((Kd.R_bound GR.out).1 k hk).2.2.1⟩)
  have K6 := K5.then_ (S2 := fun k => (S k ∨ w.heap.size ≤ k) ∧ k < w4.heap.size) (Fr.setCell _ w5 ⟨go, 1, none⟩ (.slice A5 (s2.out.length + 1) c5) G56.out.2) (fun i h => .inl h)
  have K7 := K6.then_ (S2 := fun k => (S k ∨ w.heap.size ≤ k) ∧ k < w4.heap.size) (Fr.setBlock _ _ mb4 o7 G56.out.1) (fun i h => .inl h)
  have F7 : Fr S w _ := HF4.out.then_ K7 (fun i h => h.1)
  have R6 := Kd.R_set hR5 HB5.out (by decide) 1 (.slice A5 (s2.out.length + 1) c5)
  have R7 := R_setMap (HM5.out.move (Below.heap_setCell _ ⟨go, 1, none⟩ (.slice A5 (s2.out.length + 1) c5) _ hmg.out)) R6 o7
  have hM7 := HM7.out
  have up : ∀ {k : Nat}, k < w4.heap.size → k < (setBlock (w5.setCell ⟨go, 1, none⟩ (.slice A5 (s2.out.length + 1) c5)) mb4 o7).heap.size := fun h => Nat.lt_of_lt_of_le h K7.size
  refine ⟨by first | rfl | (rw [← hv7]; rfl), ?_, F7⟩
  refine ⟨mb4, _, (setBlock_other _ mb4 o7 ga hga.out.2).trans HA6.out, (K7.block _ (blk_lt G2.out) G789.out.2.1).trans G2.out, (K7.block _ (blk_lt G3.out) G789.out.2.2).trans G3.out, (setBlock_other _ mb4 o7 go hmg.out.symm).trans HB6.out, ⟨G56.out.1.1, up G56.out.1.2⟩, ⟨G56.out.2.1, up G56.out.2.2⟩, ?_, ?_, ?_, ?_, Kd.R_mono (Kd.R_bound R7) (fun k hk => ⟨hk.1, hk.2.2.1⟩), fun k => S4 k ∧ k < w4.heap.size, (GT.out.bound.fr K7 (fun k hk => GS.out k hk.1)), fun k hk h => GS.out k hk.1 ⟨h.1, hk.2⟩⟩
  · exact fun h => G789.out.1 ⟨h.1, blk_lt G1.out⟩
  · exact fun h => G789.out.2.1 ⟨h.1, blk_lt G2.out⟩
  · exact fun h => G789.out.2.2 ⟨h.1, blk_lt G3.out⟩
  · first | exact hM7 | (rw [← hv7]; exact hM7)

theorem maskP_mono (T : TB) : ∀ (k : Nat) (s s' : MS) (p r : Int), maskP T k s p = some (r, s') → s.out.length ≤ s'.out.length
  | 0, _, _, _, _, h => by simp [maskP] at h
  | k + 1, s, s', p, r, h => by
    unfold maskP at h
    split at h
    · simp only [Option.some.injEq, Prod.mk.injEq] at h
      rw [← h.2]; exact Nat.le_refl _
    · split at h
      · obtain ⟨⟨a1, a2⟩, ha, h⟩ := Option.bind_eq_some_iff.1 h
        obtain ⟨⟨b1, b2⟩, hb, h⟩ := Option.bind_eq_some_iff.1 h
        have h1 := maskP_mono T k _ _ _ _ ha
        have h2 := maskP_mono T k _ _ _ _ hb
        simp only [Option.some.injEq, Prod.mk.injEq] at h
        rw [← h.2]
        simp only at h1 h2
        simp; omega
      · cases h

theorem tmask1_calls (ga gt gv go t : Nat) (T : TB) : ∀ (k : Nat) (S : Nat → Prop) (s s' : MS) (p r : Int) (w : World), Mk w S ga gt gv go t T s → s'.out.length < 1000000000000 → maskP T k s p = some (r, s') →
    Calls Try.prog 129 #[.int .i64 p, .pointer (some ⟨ga, 0, none⟩), .pointer (some ⟨gt, 0, none⟩), .pointer (some ⟨gv, 0, none⟩), .pointer (some ⟨go, 0, none⟩)] w (MPost w S ga gt gv go t T r s')
  | 0, _, _, _, _, _, _, _, _, h => by simp [maskP] at h
  | k + 1, S, s, s', p, r, w, hK, hlen, h => by
    have IH := tmask1_calls ga gt gv go t T k
    unfold maskP at h
    split at h
    · rename_i q hl
      simp only [Option.some.injEq, Prod.mk.injEq] at h
      obtain ⟨rfl, rfl⟩ := h
      refine (mask_found ga gt gv go t T s p q w hK hl).mono ?_
      rintro e w' ⟨rfl, rfl⟩
      exact ⟨rfl, hK.bound.grow hK (Fr.refl S w) (fun k hk => ⟨.inl hk.1, hk.2⟩), Fr.refl S w⟩
    · rename_i hl
      split at h
      · rename_i hp
        obtain ⟨⟨a1, a2⟩, ha, h⟩ := Option.bind_eq_some_iff.1 h
        obtain ⟨⟨b1, b2⟩, hb, h⟩ := Option.bind_eq_some_iff.1 h
        simp only [Option.some.injEq, Prod.mk.injEq] at h
        obtain ⟨rfl, rfl⟩ := h
        have h2 := maskP_mono T k _ _ _ _ hb
        simp only [List.length_append, List.length_singleton] at hlen
        simp only at h2
        exact mask_new ga gt gv go t T s a2 b2 p a1 b1 w hK hl hp hlen
          (fun S W hW => IH S s a2 _ a1 W hW (by omega) ha) (fun S W hW => IH S a2 b2 _ b1 W hW (by omega) hb)
      · cases h
end Go.Proofs.Ytlplphgoldkoeaa.HTab

end

section
-- By a program of this session (xprint.py) that runs the print over this seat's translation.
namespace Go.Proofs.Ytlplphgoldkoeaa.X
open Go.RowKit Go.Proofs.YtlplphgoldkoeaaW.PrintWords Go.Proofs.YtlplphgoldkoeaaW.PrintLast Go.Proofs.YtlplphgoldkoeaaW.PrintMore
attribute [local go_sem] max2_int min2_int max_two min_two max_three min_three max_four min_four   -- for this text's walks alone
set_option linter.unusedVariables false
set_option linter.unusedSimpArgs false

/-! ### cantingref02_constant: function 138 -/
def cantingref02_constant.l0 : Nat → List Bool → List Bool → Int → Int → Option (Bool)
  | 0, _, _, _, _ => none
  | k + 1, x0, x5, x6, x7 => if x7 < x6 then (if 0 ≤ x7 then (if x7 < (x5.length : Int) then (if 0 < (x0.length : Int) then (if ((rdOf false x5 x7) != (rdOf false x0 0)) = true then (some false) else (cantingref02_constant.l0 k x0 x5 x6 (wrap64 (x7 + 1)))) else (none)) else (none)) else (none)) else (some true)
def cantingref02_constant.f (k : Nat) (l0 : List Bool) : Option (Bool) := cantingref02_constant.l0 k l0 l0 (l0.length : Int) 0
theorem cantingref02_constant.mono_l : ∀ k, (∀ y0 y1 y2 y3, LeO (cantingref02_constant.l0 k y0 y1 y2 y3) (cantingref02_constant.l0 (k + 1) y0 y1 y2 y3))
  | 0 => fun _ _ _ _ r h => by simp [cantingref02_constant.l0] at h
  | k + 1 => by
    have ih0 := cantingref02_constant.mono_l k
    · intro y0 y1 y2 y3
      unfold cantingref02_constant.l0
      repeat' first
      | (with_reducible exact ih0 _ _ _ _)
      | (with_reducible exact LeO.refl _)
      | (with_reducible exact LeO.none _)
      | (with_reducible refine LeO.ite ?_ ?_)
      | (with_reducible refine LeO.bind ?_ (fun _ => ?_))
      | exact ih0 _ _ _ _
      | exact LeO.none _
      | refine LeO.ite ?_ ?_
      | refine LeO.bind ?_ (fun _ => ?_)
theorem cantingref02_constant.mono : ∀ a0 k, LeO (cantingref02_constant.f k a0) (cantingref02_constant.f (k + 1) a0) := by
  intro a0 k
  have ih0 := cantingref02_constant.mono_l k
  unfold cantingref02_constant.f
  repeat' first
      | (with_reducible exact ih0 _ _ _ _)
      | (with_reducible exact LeO.refl _)
      | (with_reducible exact LeO.none _)
      | (with_reducible refine LeO.ite ?_ ?_)
      | (with_reducible refine LeO.bind ?_ (fun _ => ?_))
      | exact ih0 _ _ _ _
      | exact LeO.none _
      | refine LeO.ite ?_ ?_
      | refine LeO.bind ?_ (fun _ => ?_)
set_option maxHeartbeats 8000000 in
set_option maxRecDepth 100000 in
theorem cantingref02_constant.calls (k : Nat) (A0 : Option Addr) (c0 : Nat) (l0 : List Bool) (r : Bool) (w : World) (hr0 : Kd.C Kd.bool w A0 l0.length l0) (hc0 : l0.length ≤ c0) (h : cantingref02_constant.f k l0 = some r) :
    Calls Try.prog 138 #[.slice A0 l0.length c0] w fun e w' => e = .returned (.bool r) ∧ Drawn0 w w' := by
  have HR0 := Aside0.mk hr0
  have HC0 := Aside0.mk hc0
  clear hr0 hc0
  have H : (cantingref02_constant.l0 k l0 l0 (l0.length : Int) 0) = some r := h
  clear h
  have H' := Aside0.mk H
  clear H
  go_enter Try.func138, Try.ntmps138
  go_wp2
  go_loopg [7] k (fun kq v7 w' => ∃ (x7_1 : Int), v7 = .int .i64 x7_1 ∧ Aside0 (cantingref02_constant.l0 kq l0 l0 (l0.length : Int) x7_1 = some r) ∧ Aside0 (kq ≤ k) ∧ Drawn0 w w')
  case atStart => exact ⟨(0), (by first | rfl | (simp; done) | (simp [*]; done)), H', ⟨Nat.le_refl _⟩, by repeat (first | exact Drawn0.refl _ | apply Drawn0.step)⟩
  case round =>
    clear H'
    try clear c1
    obtain ⟨x7_1, rfl, HA, HK1, ⟨m1, rfl⟩⟩ := hrel
    cases gk with
    | zero => exact absurd HA.out (by simp [cantingref02_constant.l0])
    | succ k1 =>
      have H := HA.out
      clear HA
      simp only [cantingref02_constant.l0] at H
      by_cases c2 : x7_1 < (l0.length : Int)
      · rw [if_pos c2] at H
        have c2b0 : decide (x7_1 < (l0.length : Int)) = true := decide_eq_true c2
        clear c2
        by_cases c3 : 0 ≤ x7_1
        · rw [if_pos c3] at H
          have c3b0 : decide (0 ≤ x7_1) = true := decide_eq_true c3
          clear c3
          by_cases c4 : x7_1 < (l0.length : Int)
          · rw [if_pos c4] at H
            have c4b0 : decide (x7_1 < (l0.length : Int)) = true := decide_eq_true c4
            clear c4
            by_cases c5 : 0 < (l0.length : Int)
            · rw [if_pos c5] at H
              have c5b0 : decide (0 < (l0.length : Int)) = true := decide_eq_true c5
              have c5b1 : decide (0 < l0.length) = true := decide_eq_true (by omega)
              clear c5
              by_cases c6 : ((rdOf false l0 x7_1) != (rdOf false l0 0)) = true
              · rw [if_pos c6] at H
                have c6b0 : ((rdOf false l0 x7_1) != (rdOf false l0 0)) = true := c6
                (try (have c6b1 : decide ((rdOf false l0 x7_1) = (rdOf false l0 0)) = false := by simpa using c6))
                (try (have c6b2 : ((rdOf false l0 x7_1) == (rdOf false l0 0)) = false := by simpa using c6))
                (try (have c6b3 : ¬ ((rdOf false l0 x7_1) = (rdOf false l0 0)) := by simpa using c6))
                clear c6
                obtain rfl := Option.some.inj H
                have p108 : 0 ≤ (x7_1 : Int) := of_decide_eq_true (by first | (with_reducible assumption) | assumption)
                have q108 : x7_1 < (l0.length : Int) := of_decide_eq_true (by first | (with_reducible assumption) | assumption)
                obtain ⟨ad108, e108, hx108_0⟩ := Kd.at_bool HR0.out x7_1 p108 q108
                cases e108
                replace p108 := eq_true p108
                replace q108 := eq_true q108
                have p109 : 0 ≤ (0 : Int) := (by omega)
                have q109 : 0 < (l0.length : Int) := of_decide_eq_true (by first | (with_reducible assumption) | assumption)
                obtain ⟨ad109, e109, hx109_0⟩ := Kd.at_bool HR0.out 0 p109 q109
                obtain rfl : ad108 = ad109 := (by injection e109)
                have qi109 : (0 < l0.length) = True := eq_true (by omega)
                (try rw [show ((0 : Int)).toNat = 0 from rfl] at hx109_0)
                (try rw [Addr.add_zero'] at hx109_0)
                replace p109 := eq_true p109
                replace q109 := eq_true q109
                go_wp2
                go_ret
                exact ⟨by first | rfl | (simp; done) | (simp [*]; done), by repeat (first | exact Drawn0.refl _ | apply Drawn0.step)⟩
              · rw [if_neg c6] at H
                have c6b0 : ((rdOf false l0 x7_1) != (rdOf false l0 0)) = false := by simpa using c6
                (try (have c6b1 : decide ((rdOf false l0 x7_1) = (rdOf false l0 0)) = true := by simpa using c6))
                (try (have c6b2 : ((rdOf false l0 x7_1) == (rdOf false l0 0)) = true := by simpa using c6))
                clear c6
                have H' := Aside0.mk H
                clear H
                have p108 : 0 ≤ (x7_1 : Int) := of_decide_eq_true (by first | (with_reducible assumption) | assumption)
                have q108 : x7_1 < (l0.length : Int) := of_decide_eq_true (by first | (with_reducible assumption) | assumption)
                obtain ⟨ad108, e108, hx108_0⟩ := Kd.at_bool HR0.out x7_1 p108 q108
                cases e108
                replace p108 := eq_true p108
                replace q108 := eq_true q108
                have p109 : 0 ≤ (0 : Int) := (by omega)
                have q109 : 0 < (l0.length : Int) := of_decide_eq_true (by first | (with_reducible assumption) | assumption)
                obtain ⟨ad109, e109, hx109_0⟩ := Kd.at_bool HR0.out 0 p109 q109
                obtain rfl : ad108 = ad109 := (by injection e109)
                have qi109 : (0 < l0.length) = True := eq_true (by omega)
                (try rw [show ((0 : Int)).toNat = 0 from rfl] at hx109_0)
                (try rw [Addr.add_zero'] at hx109_0)
                replace p109 := eq_true p109
                replace q109 := eq_true q109
                go_wp2
                go_roundg k1
                case measure => have := HK1.out; omega
                case rel => exact ⟨(wrap64 (x7_1 + 1)), (by first | rfl | (simp; done) | (simp [*]; done)), H', ⟨by have := HK1.out; omega⟩, by repeat (first | exact Drawn0.refl _ | apply Drawn0.step)⟩
            · rw [if_neg c5] at H
              exact absurd H (by simp)
          · rw [if_neg c4] at H
            exact absurd H (by simp)
        · rw [if_neg c3] at H
          exact absurd H (by simp)
      · rw [if_neg c2] at H
        have c2b0 : decide (x7_1 < (l0.length : Int)) = false := decide_eq_false c2
        clear c2
        obtain rfl := Option.some.inj H
        go_wp2
        go_ret
        exact ⟨by first | rfl | (simp; done) | (simp [*]; done), by repeat (first | exact Drawn0.refl _ | apply Drawn0.step)⟩

end Go.Proofs.Ytlplphgoldkoeaa.X

end

section
-- By a program of this session (xprint.py) that runs the print over this seat's translation.
namespace Go.Proofs.Ytlplphgoldkoeaa.X
open Go.RowKit Go.Proofs.YtlplphgoldkoeaaW.PrintWords Go.Proofs.YtlplphgoldkoeaaW.PrintLast Go.Proofs.YtlplphgoldkoeaaW.PrintMore
attribute [local go_sem] max2_int min2_int max_two min_two max_three min_three max_four min_four   -- for this text's walks alone
set_option linter.unusedVariables false
set_option linter.unusedSimpArgs false

/-! ### cantingref02_equal: function 139 -/
def cantingref02_equal.l0 : Nat → List Bool → List Bool → Int → Int → Option (Bool)
  | 0, _, _, _, _ => none
  | k + 1, x1, x12, x13, x14 => if x14 < x13 then (if 0 ≤ x14 then (if x14 < (x12.length : Int) then (if x14 < (x1.length : Int) then (if ((rdOf false x12 x14) != (rdOf false x1 x14)) = true then (some false) else (cantingref02_equal.l0 k x1 x12 x13 (wrap64 (x14 + 1)))) else (none)) else (none)) else (none)) else (some true)
def cantingref02_equal.f (k : Nat) (l0 : List Bool) (l1 : List Bool) : Option (Bool) := if (l0.length : Int) = (l1.length : Int) then (cantingref02_equal.l0 k l1 l0 (l0.length : Int) 0) else (some false)
theorem cantingref02_equal.mono_l : ∀ k, (∀ y0 y1 y2 y3, LeO (cantingref02_equal.l0 k y0 y1 y2 y3) (cantingref02_equal.l0 (k + 1) y0 y1 y2 y3))
  | 0 => fun _ _ _ _ r h => by simp [cantingref02_equal.l0] at h
  | k + 1 => by
    have ih0 := cantingref02_equal.mono_l k
    · intro y0 y1 y2 y3
      unfold cantingref02_equal.l0
      repeat' first
      | (with_reducible exact ih0 _ _ _ _)
      | (with_reducible exact LeO.refl _)
      | (with_reducible exact LeO.none _)
      | (with_reducible refine LeO.ite ?_ ?_)
      | (with_reducible refine LeO.bind ?_ (fun _ => ?_))
      | exact ih0 _ _ _ _
      | exact LeO.none _
      | refine LeO.ite ?_ ?_
      | refine LeO.bind ?_ (fun _ => ?_)
theorem cantingref02_equal.mono : ∀ a0 a1 k, LeO (cantingref02_equal.f k a0 a1) (cantingref02_equal.f (k + 1) a0 a1) := by
  intro a0 a1 k
  have ih0 := cantingref02_equal.mono_l k
  unfold cantingref02_equal.f
  repeat' first
      | (with_reducible exact ih0 _ _ _ _)
      | (with_reducible exact LeO.refl _)
      | (with_reducible exact LeO.none _)
      | (with_reducible refine LeO.ite ?_ ?_)
      | (with_reducible refine LeO.bind ?_ (fun _ => ?_))
      | exact ih0 _ _ _ _
      | exact LeO.none _
      | refine LeO.ite ?_ ?_
      | refine LeO.bind ?_ (fun _ => ?_)
set_option maxHeartbeats 8000000 in
set_option maxRecDepth 100000 in
theorem cantingref02_equal.calls (k : Nat) (A0 : Option Addr) (c0 : Nat) (l0 : List Bool) (A1 : Option Addr) (c1 : Nat) (l1 : List Bool) (r : Bool) (w : World) (hr0 : Kd.C Kd.bool w A0 l0.length l0) (hc0 : l0.length ≤ c0) (hr1 : Kd.C Kd.bool w A1 l1.length l1) (hc1 : l1.length ≤ c1) (h : cantingref02_equal.f k l0 l1 = some r) :
    Calls Try.prog 139 #[.slice A0 l0.length c0, .slice A1 l1.length c1] w fun e w' => e = .returned (.bool r) ∧ Drawn0 w w' := by
  have HR0 := Aside0.mk hr0
  have HC0 := Aside0.mk hc0
  clear hr0 hc0
  have HR1 := Aside0.mk hr1
  have HC1 := Aside0.mk hc1
  clear hr1 hc1
  have H : (if (l0.length : Int) = (l1.length : Int) then (cantingref02_equal.l0 k l1 l0 (l0.length : Int) 0) else (some false)) = some r := h
  clear h
  by_cases c3 : (l0.length : Int) = (l1.length : Int)
  · rw [if_pos c3] at H
    have c3b0 : ((l0.length : Int) == (l1.length : Int)) = true := beq_iff_eq.mpr c3
    have c3b1 : ((l0.length : Int) != (l1.length : Int)) = false := bne_eq_false_iff_eq.mpr c3
    have c3b2 : (l0.length == l1.length) = true := by first | simpa using c3 | (simp at c3 ⊢; omega)
    clear c3
    have H' := Aside0.mk H
    clear H
    go_enter Try.func139, Try.ntmps139
    go_wp2
    go_loopg [14] k (fun kq v14 w' => ∃ (x14_1 : Int), v14 = .int .i64 x14_1 ∧ Aside0 (cantingref02_equal.l0 kq l1 l0 (l0.length : Int) x14_1 = some r) ∧ Aside0 (kq ≤ k) ∧ Drawn0 w w')
    case atStart => exact ⟨(0), (by first | rfl | (simp; done) | (simp [*]; done)), H', ⟨Nat.le_refl _⟩, by repeat (first | exact Drawn0.refl _ | apply Drawn0.step)⟩
    case round =>
      clear H'
      try clear c1
      try clear p2
      try clear c3
      try clear c3b0
      try clear c3b1
      try clear c3b2
      obtain ⟨x14_1, rfl, HA, HK1, ⟨m1, rfl⟩⟩ := hrel
      cases gk with
      | zero => exact absurd HA.out (by simp [cantingref02_equal.l0])
      | succ k1 =>
        have H := HA.out
        clear HA
        simp only [cantingref02_equal.l0] at H
        by_cases c4 : x14_1 < (l0.length : Int)
        · rw [if_pos c4] at H
          have c4b0 : decide (x14_1 < (l0.length : Int)) = true := decide_eq_true c4
          clear c4
          by_cases c5 : 0 ≤ x14_1
          · rw [if_pos c5] at H
            have c5b0 : decide (0 ≤ x14_1) = true := decide_eq_true c5
            clear c5
            by_cases c6 : x14_1 < (l0.length : Int)
            · rw [if_pos c6] at H
              have c6b0 : decide (x14_1 < (l0.length : Int)) = true := decide_eq_true c6
              clear c6
              by_cases c7 : x14_1 < (l1.length : Int)
              · rw [if_pos c7] at H
                have c7b0 : decide (x14_1 < (l1.length : Int)) = true := decide_eq_true c7
                clear c7
                by_cases c8 : ((rdOf false l0 x14_1) != (rdOf false l1 x14_1)) = true
                · rw [if_pos c8] at H
                  have c8b0 : ((rdOf false l0 x14_1) != (rdOf false l1 x14_1)) = true := c8
                  (try (have c8b1 : decide ((rdOf false l0 x14_1) = (rdOf false l1 x14_1)) = false := by simpa using c8))
                  (try (have c8b2 : ((rdOf false l0 x14_1) == (rdOf false l1 x14_1)) = false := by simpa using c8))
                  (try (have c8b3 : ¬ ((rdOf false l0 x14_1) = (rdOf false l1 x14_1)) := by simpa using c8))
                  clear c8
                  obtain rfl := Option.some.inj H
                  have p110 : 0 ≤ (x14_1 : Int) := of_decide_eq_true (by first | (with_reducible assumption) | assumption)
                  have q110 : x14_1 < (l0.length : Int) := of_decide_eq_true (by first | (with_reducible assumption) | assumption)
                  obtain ⟨ad110, e110, hx110_0⟩ := Kd.at_bool HR0.out x14_1 p110 q110
                  cases e110
                  replace p110 := eq_true p110
                  replace q110 := eq_true q110
                  have p111 : 0 ≤ (x14_1 : Int) := of_decide_eq_true (by first | (with_reducible assumption) | assumption)
                  have q111 : x14_1 < (l1.length : Int) := of_decide_eq_true (by first | (with_reducible assumption) | assumption)
                  obtain ⟨ad111, e111, hx111_0⟩ := Kd.at_bool HR1.out x14_1 p111 q111
                  cases e111
                  replace p111 := eq_true p111
                  replace q111 := eq_true q111
                  go_wp2
                  go_ret
                  exact ⟨by first | rfl | (simp; done) | (simp [*]; done), by repeat (first | exact Drawn0.refl _ | apply Drawn0.step)⟩
                · rw [if_neg c8] at H
                  have c8b0 : ((rdOf false l0 x14_1) != (rdOf false l1 x14_1)) = false := by simpa using c8
                  (try (have c8b1 : decide ((rdOf false l0 x14_1) = (rdOf false l1 x14_1)) = true := by simpa using c8))
                  (try (have c8b2 : ((rdOf false l0 x14_1) == (rdOf false l1 x14_1)) = true := by simpa using c8))
                  clear c8
                  have H' := Aside0.mk H
                  clear H
                  have p110 : 0 ≤ (x14_1 : Int) := of_decide_eq_true (by first | (with_reducible assumption) | assumption)
                  have q110 : x14_1 < (l0.length : Int) := of_decide_eq_true (by first | (with_reducible assumption) | assumption)
                  obtain ⟨ad110, e110, hx110_0⟩ := Kd.at_bool HR0.out x14_1 p110 q110
                  cases e110
                  replace p110 := eq_true p110
                  replace q110 := eq_true q110
                  have p111 : 0 ≤ (x14_1 : Int) := of_decide_eq_true (by first | (with_reducible assumption) | assumption)
                  have q111 : x14_1 < (l1.length : Int) := of_decide_eq_true (by first | (with_reducible assumption) | assumption)
                  obtain ⟨ad111, e111, hx111_0⟩ := Kd.at_bool HR1.out x14_1 p111 q111
                  cases e111
                  replace p111 := eq_true p111
                  replace q111 := eq_true q111
                  go_wp2
                  go_roundg k1
                  case measure => have := HK1.out; omega
                  case rel => exact ⟨(wrap64 (x14_1 + 1)), (by first | rfl | (simp; done) | (simp [*]; done)), H', ⟨by have := HK1.out; omega⟩, by repeat (first | exact Drawn0.refl _ | apply Drawn0.step)⟩
              · rw [if_neg c7] at H
                exact absurd H (by simp)
            · rw [if_neg c6] at H
              exact absurd H (by simp)
          · rw [if_neg c5] at H
            exact absurd H (by simp)
        · rw [if_neg c4] at H
          have c4b0 : decide (x14_1 < (l0.length : Int)) = false := decide_eq_false c4
          clear c4
          obtain rfl := Option.some.inj H
          go_wp2
          go_ret
          exact ⟨by first | rfl | (simp; done) | (simp [*]; done), by repeat (first | exact Drawn0.refl _ | apply Drawn0.step)⟩
  · rw [if_neg c3] at H
    have c3b0 : ((l0.length : Int) == (l1.length : Int)) = false := beq_eq_false_iff_ne.mpr c3
    have c3b1 : ((l0.length : Int) != (l1.length : Int)) = true := bne_iff_ne.mpr c3
    have c3b2 : (l0.length == l1.length) = false := by first | simpa using c3 | (simp at c3 ⊢; omega)
    obtain rfl := Option.some.inj H
    go_enter Try.func139, Try.ntmps139
    go_wp2
    go_ret
    exact ⟨by first | rfl | (simp; done) | (simp [*]; done), by repeat (first | exact Drawn0.refl _ | apply Drawn0.step)⟩

end Go.Proofs.Ytlplphgoldkoeaa.X

end

section
/- What the reference's 'constant' and 'equal' compute. -/
namespace Go.Proofs.Ytlplphgoldkoeaa.HTab
open Go.RowKit Go.Proofs.YtlplphgoldkoeaaW.PrintWords Go.Proofs.YtlplphgoldkoeaaW.PrintLast Go.Proofs.YtlplphgoldkoeaaW.PrintMore Go.Proofs.Ytlplphgoldkoeaa.X
set_option linter.unusedVariables false

theorem wrap_inc {i : Int} (h0 : 0 ≤ i) (h : i < 140737488355328) : wrap64 (i + 1) = i + 1 := by unfold wrap64; omega
theorem wrap_small {i : Int} (h0 : -9223372036854775808 ≤ i) (h : i < 9223372036854775808) : wrap64 i = i := by unfold wrap64; omega

def constP (l : List Bool) : Bool := l.all (fun x => x == l.getD 0 false)
theorem constant_l0 (l : List Bool) (hl : l.length < 140737488355328) (d : Nat) : ∀ (k i : Nat), i + d = l.length → d < k →
    cantingref02_constant.l0 k l l l.length i = some ((l.drop i).all (fun x => x == l.getD 0 false)) := by
  induction d with
  | zero =>
    intro k i hi hk
    obtain ⟨k, rfl⟩ : ∃ m, k = m + 1 := ⟨k - 1, by omega⟩
    simp only [cantingref02_constant.l0]
    rw [if_neg (by omega), List.drop_eq_nil_of_le (by omega)]
    rfl
  | succ d ih =>
    intro k i hi hk
    obtain ⟨k, rfl⟩ : ∃ m, k = m + 1 := ⟨k - 1, by omega⟩
    have hlt : i < l.length := by omega
    simp only [cantingref02_constant.l0]
    rw [if_pos (by omega), if_pos (by omega), if_pos (by omega), if_pos (by omega), List.drop_eq_getElem_cons hlt]
    have h1 : rdOf false l (i : Int) = l[i] := by simp [rdOf, hlt]
    have h2 : rdOf false l 0 = l.getD 0 false := rfl
    rw [h1, h2, List.all_cons]
    by_cases e : l[i] = l.getD 0 false
    · rw [if_neg (by simp [e]), wrap_inc (by omega) (by omega)]
      have := ih k (i + 1) (by omega) (by omega)
      rw [show ((i : Int) + 1) = ((i + 1 : Nat) : Int) by omega, this]
      simp [e]
    · rw [if_pos (by simpa using e)]
      have : (l[i] == l.getD 0 false) = false := by simpa using e
      rw [this]; rfl
theorem constant_f (l : List Bool) (hl : l.length < 140737488355328) (k : Nat) (hk : l.length < k) : cantingref02_constant.f k l = some (constP l) := by
  have := constant_l0 l hl l.length k 0 (by omega) hk
  simpa [cantingref02_constant.f, constP] using this

theorem equal_l0 (a b : List Bool) (hab : a.length = b.length) (hl : a.length < 140737488355328) (d : Nat) : ∀ (k i : Nat), i + d = a.length → d < k →
    cantingref02_equal.l0 k b a a.length i = some (decide (a.drop i = b.drop i)) := by
  induction d with
  | zero =>
    intro k i hi hk
    obtain ⟨k, rfl⟩ : ∃ m, k = m + 1 := ⟨k - 1, by omega⟩
    simp only [cantingref02_equal.l0]
    rw [if_neg (by omega), List.drop_eq_nil_of_le (by omega), List.drop_eq_nil_of_le (by omega)]
    rfl
  | succ d ih =>
    intro k i hi hk
    obtain ⟨k, rfl⟩ : ∃ m, k = m + 1 := ⟨k - 1, by omega⟩
    have hlt : i < a.length := by omega
    have hlt2 : i < b.length := by omega
    simp only [cantingref02_equal.l0]
    rw [if_pos (by omega), if_pos (by omega), if_pos (by omega), if_pos (by omega), List.drop_eq_getElem_cons hlt, List.drop_eq_getElem_cons hlt2]
    have h1 : rdOf false a (i : Int) = a[i] := by simp [rdOf, hlt]
    have h2 : rdOf false b (i : Int) = b[i] := by simp [rdOf, hlt2]
    rw [h1, h2]
    by_cases e : a[i] = b[i]
    · rw [if_neg (by simp [e]), wrap_inc (by omega) (by omega)]
      have := ih k (i + 1) (by omega) (by omega)
      rw [show ((i : Int) + 1) = ((i + 1 : Nat) : Int) by omega, this, e]
      simp only [List.cons.injEq, true_and]
    · rw [if_pos (by simpa using e), decide_eq_false (fun h => e (List.cons.inj h).1)]
theorem equal_f (a b : List Bool) (hl : a.length < 140737488355328) (k : Nat) (hk : a.length < k) : cantingref02_equal.f k a b = some (decide (a = b)) := by
  unfold cantingref02_equal.f
  by_cases h : a.length = b.length
  · rw [if_pos (by omega)]
    have := equal_l0 a b h hl a.length k 0 (by omega) hk
    simpa using this
  · rw [if_neg (by omega)]
    have : a ≠ b := fun e => h (by rw [e])
    simp [this]

/-- The calls, under the spellings above. -/
theorem constant_calls (A : Option Addr) (c : Nat) (l : List Bool) (w : World) (hr : Kd.C Kd.bool w A l.length l) (hc : l.length ≤ c) (hl : l.length < 140737488355328) :
    Calls Try.prog 138 #[.slice A l.length c] w fun e w' => e = .returned (.bool (constP l)) ∧ Drawn0 w w' :=
  cantingref02_constant.calls (l.length + 1) A c l _ w hr hc (constant_f l hl _ (by omega))
theorem equal_calls (A : Option Addr) (c : Nat) (a : List Bool) (B : Option Addr) (c2 : Nat) (b : List Bool) (w : World) (hr : Kd.C Kd.bool w A a.length a) (hc : a.length ≤ c) (hr2 : Kd.C Kd.bool w B b.length b) (hc2 : b.length ≤ c2) (hl : a.length < 140737488355328) :
    Calls Try.prog 139 #[.slice A a.length c, .slice B b.length c2] w fun e w' => e = .returned (.bool (decide (a = b))) ∧ Drawn0 w w' :=
  cantingref02_equal.calls (a.length + 1) A c a B c2 b _ w hr hc hr2 hc2 (equal_f a b hl _ (by omega))
end Go.Proofs.Ytlplphgoldkoeaa.HTab

end

section
/- The reference's 'visit' and 'Of': from a table of values to nodes. -/
namespace Go.Proofs.Ytlplphgoldkoeaa.HTab
open Go.RowKit Go.Proofs.YtlplphgoldkoeaaW.PrintWords Go.Proofs.YtlplphgoldkoeaaW.PrintLast Go.Proofs.YtlplphgoldkoeaaW.PrintMore Go.Proofs.Ytlplphgoldkoeaa.HMap Go.Proofs.Ytlplphgoldkoeaa.X
set_option linter.unusedVariables false
set_option linter.unusedSimpArgs false

/-- The builder, as a value. -/
structure BS where
  nodes : List S106
  ts : List (List Bool)
def idxOf (ts : List (List Bool)) (t : List Bool) : Option Nat := ts.findIdx? (fun s => decide (s = t))
def visitP : Nat → BS → List Bool → Int → Option (Int × BS)
  | 0, _, _, _ => none
  | k + 1, b, t, v =>
    if t = [] then none else
    if constP t = true then some (if t.getD 0 false then 1 else 0, b) else
    if t.take (t.length / 2) = t.drop (t.length / 2) then visitP k b (t.take (t.length / 2)) (v + 1) else
    match idxOf b.ts t with
    | some i => some ((i : Int) + 2, b)
    | none => (visitP k b (t.take (t.length / 2)) (v + 1)).bind fun p => (visitP k p.2 (t.drop (t.length / 2)) (v + 1)).bind fun q =>
        some ((q.2.nodes.length : Int) + 2, ⟨q.2.nodes ++ [⟨v, p.1, q.1⟩], q.2.ts ++ [t]⟩)

/-- The row at A reads xs as long as all but S stays. -/
def Rd (S : Nat → Prop) (w : World) (A : Option Addr) (xs : List Bool) : Prop := ∀ w', Fr S w w' → Kd.bool.C w' A xs.length xs
theorem Rd.now {S : Nat → Prop} {w : World} {A : Option Addr} {xs : List Bool} (h : Rd S w A xs) : Kd.bool.C w A xs.length xs := h w (Fr.refl S w)
theorem Rd.next {S S2 : Nat → Prop} {w w1 : World} {A : Option Addr} {xs : List Bool} (h : Rd S w A xs) (hf : Fr S w w1) (hs : ∀ k, S2 k → S k ∨ w.heap.size ≤ k) : Rd S2 w1 A xs := fun w' hf' => h w' (hf.then_ hf' hs)
theorem Rd.take {S : Nat → Prop} {w : World} {A : Option Addr} {xs : List Bool} (h : Rd S w A xs) (m : Nat) (hm : m ≤ xs.length) : Rd S w A (xs.take m) := fun w' hf => Kd.C_take (h w' hf) hm
theorem Rd.drop {S : Nat → Prop} {w : World} {A : Option Addr} {xs : List Bool} (h : Rd S w A xs) (m c : Nat) (hm : m < c) (hml : m ≤ xs.length) (hc : xs.length ≤ c) : Rd S w (A.map (·.add m)) (xs.drop m) := fun w' hf => by
  have := Kd.C_drop (h w' hf) hml hc
  rw [if_neg (by omega)] at this
  have hz : Kd.bool.sz = 1 := rfl
  simpa [hz] using this

def kSl : Kd (Option Addr × Nat × Nat) := Kd.scalar (fun p => .slice p.1 p.2.1 p.2.2) (fun _ => rfl)
def RowsOk (S : Nat → Prop) (w : World) (ps : List (Option Addr × Nat × Nat)) (ts : List (List Bool)) : Prop :=
  ps.length = ts.length ∧ ∀ (i : Nat) p t, ps[i]? = some p → ts[i]? = some t → p.2.1 = t.length ∧ t.length ≤ p.2.2 ∧ t.length < 140737488355328 ∧ Rd S w p.1 t
theorem RowsOk.next {S S2 : Nat → Prop} {w w1 : World} {ps : List (Option Addr × Nat × Nat)} {ts : List (List Bool)} (h : RowsOk S w ps ts) (hf : Fr S w w1) (hs : ∀ k, S2 k → S k ∨ w.heap.size ≤ k) : RowsOk S2 w1 ps ts :=
  ⟨h.1, fun i p t hp ht => ⟨(h.2 i p t hp ht).1, (h.2 i p t hp ht).2.1, (h.2 i p t hp ht).2.2.1, (h.2 i p t hp ht).2.2.2.next hf hs⟩⟩
theorem RowsOk.snoc {S : Nat → Prop} {w : World} {ps : List (Option Addr × Nat × Nat)} {ts : List (List Bool)} (h : RowsOk S w ps ts) {A : Option Addr} {c : Nat} {t : List Bool} (hc : t.length ≤ c) (hl : t.length < 140737488355328) (hr : Rd S w A t) : RowsOk S w (ps ++ [(A, t.length, c)]) (ts ++ [t]) := by
  refine ⟨by simp [h.1], fun i p q hp hq => ?_⟩
  have h1 := h.1
  by_cases hi : i < ps.length
  · rw [List.getElem?_append_left hi] at hp
    rw [List.getElem?_append_left (by omega)] at hq
    exact h.2 i p q hp hq
  · rw [List.getElem?_append_right (by omega)] at hp
    rw [List.getElem?_append_right (by omega)] at hq
    have hi2 : i - ps.length < 1 := by
      have := (List.getElem?_eq_some_iff.1 hp).1
      simpa using this
    have e1 : i - ps.length = 0 := by omega
    have e2 : i - ts.length = 0 := by omega
    rw [e1] at hp
    rw [e2] at hq
    simp only [List.getElem?_cons_zero, Option.some.injEq] at hp hq
    subst hp; subst hq
    exact ⟨rfl, hc, hl, hr⟩
/-- Block b is the builder; all that it leads to of its own is in S. -/
def Bld (w : World) (S : Nat → Prop) (b : Nat) (B : BS) : Prop :=
  ∃ vN vT ps, w.heap[b]? = some (.cells #[vN, vT] 154 (0, 0)) ∧ S b ∧ k106.R 106 w 0 S vN B.nodes ∧ kSl.R 47 w 0 S vT ps ∧ RowsOk S w ps B.ts
theorem Bld.bound {w : World} {S : Nat → Prop} {b : Nat} {B : BS} (h : Bld w S b B) : Bld w (fun k => S k ∧ k < w.heap.size) b B := by
  obtain ⟨vN, vT, ps, hb, sb, hN, hT, hR⟩ := h
  exact ⟨vN, vT, ps, hb, ⟨sb, blk_lt hb⟩, Kd.R_mono (Kd.R_bound hN) (fun k hk => ⟨hk.1, hk.2.2.1⟩), Kd.R_mono (Kd.R_bound hT) (fun k hk => ⟨hk.1, hk.2.2.1⟩), hR.next (Fr.refl S w) (fun k hk => .inl hk.1)⟩
theorem Bld.grow {w : World} {S : Nat → Prop} {b : Nat} {B : BS} (h : Bld w S b B) : Bld w (fun k => (S k ∨ w.heap.size ≤ k) ∧ k < w.heap.size) b B := by
  obtain ⟨vN, vT, ps, hb, sb, hN, hT, hR⟩ := h.bound
  exact ⟨vN, vT, ps, hb, ⟨.inl sb.1, sb.2⟩, Kd.R_mono hN (fun k hk => ⟨.inl hk.1, hk.2⟩), Kd.R_mono hT (fun k hk => ⟨.inl hk.1, hk.2⟩), hR.next (Fr.refl _ w) (fun k hk => hk.1.elim (fun h => .inl ⟨h, hk.2⟩) .inr)⟩
theorem Bld.mono' {w : World} {S S2 : Nat → Prop} {b : Nat} {B : BS} (h : Bld w S b B) (hs : ∀ k, S k → S2 k) (h2 : ∀ k, S2 k → S k ∨ w.heap.size ≤ k) : Bld w S2 b B := by
  obtain ⟨vN, vT, ps, hb, sb, hN, hT, hR⟩ := h
  exact ⟨vN, vT, ps, hb, hs _ sb, Kd.R_mono hN hs, Kd.R_mono hT hs, hR.next (Fr.refl S w) h2⟩
theorem Bld.drewN {w : World} {S : Nat → Prop} {b : Nat} {B : BS} (h : Bld w S b B) (n : Nat) : Bld (w.drewN n) S b B := by
  obtain ⟨vN, vT, ps, hb, sb, hN, hT, hR⟩ := h
  exact ⟨vN, vT, ps, hb, sb, Kd.R_drewN hN n, Kd.R_drewN hT n, hR.next ⟨rfl, rfl, rfl, Nat.le_refl _, fun _ _ _ => rfl⟩ (fun k hk => .inl hk)⟩
theorem Bld.drawn {w W : World} {S : Nat → Prop} {b : Nat} {B : BS} (h : Bld w S b B) (hd : Drawn0 w W) : Bld W S b B := by obtain ⟨n, rfl⟩ := hd.out; exact h.drewN n
theorem fr_drewN (S : Nat → Prop) (w : World) (n : Nat) : Fr S w (w.drewN n) := ⟨rfl, rfl, rfl, Nat.le_refl _, fun _ _ _ => rfl⟩
theorem quiet_drawn {P : Program} {f : FuncId} {args : Array Value} {w : World} {n : Nat} {v : Value} (h : Calls P f args (w.drewN n) fun e w' => e = .returned v ∧ Drawn0 (w.drewN n) w') :
    Calls P f args (w.drewN n) fun e w'' => e = .returned v ∧ ∃ m, w'' = w.drewN m := Calls.quiet_of (h.mono fun _ _ h => ⟨h.1, h.2.out⟩)
theorem dr2 (w : World) (a b : Nat) : Drawn0 w ((w.drewN a).drewN b) := ⟨⟨a + b, by rw [World.drewN_drewN]⟩⟩
theorem dr1 (w : World) (a : Nat) : Drawn0 w (w.drewN a) := ⟨⟨a, rfl⟩⟩
theorem fr_drawn (S : Nat → Prop) {w W : World} (h : Drawn0 w W) : Fr S w W := by obtain ⟨n, rfl⟩ := h.out; exact fr_drewN S w n
theorem setCell_size (w : World) (p : Addr) (v : Value) : (w.setCell p v).heap.size = w.heap.size := by simp [World.setCell]
theorem add_zero_addr (ad : Addr) : ad.add 0 = ad := by
  unfold Addr.add
  split <;> simp_all
theorem half_lt {t : List Bool} (h : constP t = false) : 0 < t.length / 2 ∧ t.length / 2 < t.length := by
  have : 2 ≤ t.length := by
    match t, h with
    | [], h => simp [constP] at h
    | [x], h => simp [constP] at h
    | _ :: _ :: _, _ => simp
  omega

def VPost (w : World) (S : Nat → Prop) (b : Nat) (r : Int) (B : BS) (e : Ending) (w' : World) : Prop :=
  e = .returned (.int .i64 r) ∧ Bld w' (fun k => (S k ∨ w.heap.size ≤ k) ∧ k < w'.heap.size) b B ∧ Fr S w w'

set_option maxRecDepth 100000 in
set_option maxHeartbeats 4000000 in
theorem visit_const {S : Nat → Prop} (b : Nat) (B : BS) (A : Option Addr) (c : Nat) (t : List Bool) (v : Int) (w : World) (hB : Bld w S b B) (hr : Rd S w A t) (hc : t.length ≤ c) (hl : t.length < 140737488355328) (h0 : t ≠ []) (hk : constP t = true) :
    Calls Try.prog 128 #[.pointer (some ⟨b, 0, none⟩), .slice A t.length c, .int .i64 v] w (VPost w S b (if t.getD 0 false then 1 else 0) B) := by
  have hlen : 0 < t.length := List.length_pos_iff.2 h0
  have HC : ∀ W, Drawn0 w W → Calls Try.prog 138 #[.slice A t.length c] W fun e w' => e = .returned (.bool true) ∧ Drawn0 W w' := fun W hW => by
    have := constant_calls A c t W (hr _ (fr_drawn S hW)) hc hl
    rwa [hk] at this
  have hC0 := hr.now
  obtain ⟨ad, rfl, x0⟩ := Kd.at_bool hC0 0 (by omega) (by omega)
  have HB := Aside0.mk hB
  have HCs := Aside0.mk HC
  clear hB HC hr hC0 hk
  have hx : rdOf false t 0 = t.getD 0 false := rfl
  rw [hx] at x0
  have hz : (0 : Int) < t.length := by omega
  simp only [Int.toNat_zero, add_zero_addr] at x0
  cases hv : t.getD 0 false
  all_goals
    rw [hv] at x0
    have HV := Aside0.mk hv
    clear hv hx
    go_enter Try.func128, Try.ntmps128
    go_wp2_with (go_at_call 138; first | (refine (HCs.out _ (Drawn0.refl w)).mono ?_; rintro e w1 ⟨rfl, ⟨n, rfl⟩⟩) | (refine (HCs.out _ (dr1 w _)).mono ?_; rintro e w2 ⟨rfl, ⟨n2, rfl⟩⟩))
    go_ret
    exact ⟨rfl, (HB.out.drewN _).grow, fr_drewN S w _⟩

theorem visitP_mono : ∀ (k : Nat) (B : BS) (t : List Bool) (v r : Int) (B' : BS), visitP k B t v = some (r, B') → B.nodes.length ≤ B'.nodes.length ∧ B.ts.length ≤ B'.ts.length
  | 0, _, _, _, _, _, h => by simp [visitP] at h
  | k + 1, B, t, v, r, B', h => by
    unfold visitP at h
    split at h
    · cases h
    split at h
    · simp only [Option.some.injEq, Prod.mk.injEq] at h
      rw [← h.2]; exact ⟨Nat.le_refl _, Nat.le_refl _⟩
    split at h
    · exact visitP_mono k _ _ _ _ _ h
    split at h
    · simp only [Option.some.injEq, Prod.mk.injEq] at h
      rw [← h.2]; exact ⟨Nat.le_refl _, Nat.le_refl _⟩
    · obtain ⟨⟨p1, p2⟩, hp, h⟩ := Option.bind_eq_some_iff.1 h
      obtain ⟨⟨q1, q2⟩, hq, h⟩ := Option.bind_eq_some_iff.1 h
      have h1 := visitP_mono k _ _ _ _ _ hp
      have h2 := visitP_mono k _ _ _ _ _ hq
      simp only [Option.some.injEq, Prod.mk.injEq] at h
      rw [← h.2]
      simp only at h1 h2
      simp; omega

set_option maxRecDepth 100000 in
set_option maxHeartbeats 4000000 in
theorem visit_same {S : Nat → Prop} (b : Nat) (B : BS) (A : Option Addr) (c : Nat) (t : List Bool) (v : Int) (w : World) (R : Ending → World → Prop) (hB : Bld w S b B) (hr : Rd S w A t) (hc : t.length ≤ c) (hl : t.length < 140737488355328) (hk : constP t = false) (hv0 : 0 ≤ v) (hv1 : v < 1000000000000)
    (he : t.take (t.length / 2) = t.drop (t.length / 2))
    (IH : ∀ W, Drawn0 w W → Calls Try.prog 128 #[.pointer (some ⟨b, 0, none⟩), .slice A (t.take (t.length / 2)).length c, .int .i64 (v + 1)] W R)
    (hR : ∀ e w', R e w' → ∃ r, e = .returned (.int .i64 r)) :
    Calls Try.prog 128 #[.pointer (some ⟨b, 0, none⟩), .slice A t.length c, .int .i64 v] w R := by
  obtain ⟨hh0, hh1⟩ := half_lt hk
  have HC : ∀ W, Drawn0 w W → Calls Try.prog 138 #[.slice A t.length c] W fun e w' => e = .returned (.bool false) ∧ Drawn0 W w' := fun W hW => by
    have := constant_calls A c t W (hr _ (fr_drawn S hW)) hc hl
    rwa [hk] at this
  obtain ⟨ad, rfl, x0⟩ := Kd.at_bool hr.now 0 (by omega) (by omega)
  clear x0
  obtain ⟨h, hh⟩ : ∃ h, h = t.length / 2 := ⟨_, rfl⟩
  have hlt : (t.take (t.length / 2)).length = h := by rw [hh]; simp; omega
  have hld : (t.drop (t.length / 2)).length = t.length - h := by rw [hh]; simp
  have HE : ∀ W, Drawn0 w W → Calls Try.prog 139 #[.slice (some ad) h c, .slice (some (ad.add h)) (t.length - h) (c - h)] W fun e w' => e = .returned (.bool true) ∧ Drawn0 W w' := fun W hW => by
    have := equal_calls (some ad) c (t.take (t.length / 2)) (some (ad.add h)) (c - h) (t.drop (t.length / 2)) W ((hr.take _ (by omega)) _ (fr_drawn S hW)) (by omega) (by rw [hh]; exact (hr.drop (t.length / 2) c (by omega) (by omega) hc) _ (fr_drawn S hW)) (by omega) (by omega)
    rw [hlt, hld, decide_eq_true he] at this
    exact this
  rw [hlt] at IH
  have HCs := Aside0.mk HC
  have HEs := Aside0.mk HE
  have IHs := Aside0.mk IH
  have hq : ((t.length : Int) / 2) = (h : Int) := by omega
  have hch : (c = h) = False := by simp; omega
  have hh2 : h < t.length := by omega
  have hh3 : h ≤ c := by omega
  have hh4 : h ≤ t.length := by omega
  have HRs := Aside0.mk hR
  clear hB hr HC HE IH hk he hlt hld hh hh0 hh1 hR
  go_enter Try.func128, Try.ntmps128
  go_wp2_with (go_at_call 138; first | (refine (HCs.out _ (Drawn0.refl w)).mono ?_; rintro e w1 ⟨rfl, ⟨n, rfl⟩⟩) | (refine (HCs.out _ (dr1 w _)).mono ?_; rintro e w2 ⟨rfl, ⟨n2, rfl⟩⟩))
  obtain ⟨W1, hW1, hD1⟩ : ∃ W, W = w.drewN (n + n2) ∧ Aside0 (Drawn0 w W) := ⟨_, rfl, ⟨dr1 w _⟩⟩
  rw [← hW1]
  clear hW1
  go_quiet ((go_at_call 139; exact quiet_drawn (HEs.out _ (hD1.out.step _))))
  go_wp2_with (go_at_call 128; refine (IHs.out _ (hD1.out.step _)).mono ?_; intro e w4 h4; obtain ⟨r, rfl⟩ := HRs.out _ _ h4)
  exact h4

def VIH (b k : Nat) : Prop := ∀ (S : Nat → Prop) (B : BS) (A : Option Addr) (c : Nat) (t : List Bool) (v : Int) (w : World) (r : Int) (B' : BS), Bld w S b B → Rd S w A t → t.length ≤ c → t.length < 140737488355328 → 0 ≤ v → v + k < 1000000000000 → B'.nodes.length < 1000000000000 → B'.ts.length < 1000000000000 → visitP k B t v = some (r, B') →
  Calls Try.prog 128 #[.pointer (some ⟨b, 0, none⟩), .slice A t.length c, .int .i64 v] w (VPost w S b r B')

theorem idxOf_some {ts : List (List Bool)} {t : List Bool} {i : Nat} (h : idxOf ts t = some i) : i < ts.length ∧ ts[i]? = some t ∧ ∀ j, j < i → ts[j]? ≠ some t := by
  unfold idxOf at h
  rw [List.findIdx?_eq_some_iff_getElem] at h
  obtain ⟨h1, h2, h3⟩ := h
  refine ⟨h1, by simpa [h1] using h2, fun j hj => ?_⟩
  have := h3 j hj
  have hl : j < ts.length := by omega
  simpa [hl] using this
theorem idxOf_none {ts : List (List Bool)} {t : List Bool} (h : idxOf ts t = none) (j : Nat) : ts[j]? ≠ some t := by
  unfold idxOf at h
  rw [List.findIdx?_eq_none_iff] at h
  intro e
  have := h t (List.mem_of_getElem? e)
  simp at this

set_option maxRecDepth 100000 in
set_option maxHeartbeats 4000000 in
theorem visit_found {S : Nat → Prop} (b : Nat) (B : BS) (A : Option Addr) (c : Nat) (t : List Bool) (v : Int) (w : World) (i : Nat) (hB : Bld w S b B) (hr : Rd S w A t) (hc : t.length ≤ c) (hl : t.length < 140737488355328) (hk : constP t = false) (hbn : B.ts.length < 1000000000000)
    (he : t.take (t.length / 2) ≠ t.drop (t.length / 2)) (hidx : idxOf B.ts t = some i) :
    Calls Try.prog 128 #[.pointer (some ⟨b, 0, none⟩), .slice A t.length c, .int .i64 v] w (VPost w S b ((i : Int) + 2) B) := by
  obtain ⟨hh0, hh1⟩ := half_lt hk
  have HC : ∀ W, Drawn0 w W → Calls Try.prog 138 #[.slice A t.length c] W fun e w' => e = .returned (.bool false) ∧ Drawn0 W w' := fun W hW => by
    have := constant_calls A c t W (hr _ (fr_drawn S hW)) hc hl
    rwa [hk] at this
  obtain ⟨ad, rfl, x0⟩ := Kd.at_bool hr.now 0 (by omega) (by omega)
  clear x0
  obtain ⟨h, hh⟩ : ∃ h, h = t.length / 2 := ⟨_, rfl⟩
  have hlt : (t.take (t.length / 2)).length = h := by rw [hh]; simp; omega
  have hld : (t.drop (t.length / 2)).length = t.length - h := by rw [hh]; simp
  have HE : ∀ W, Drawn0 w W → Calls Try.prog 139 #[.slice (some ad) h c, .slice (some (ad.add h)) (t.length - h) (c - h)] W fun e w' => e = .returned (.bool false) ∧ Drawn0 W w' := fun W hW => by
    have := equal_calls (some ad) c (t.take (t.length / 2)) (some (ad.add h)) (c - h) (t.drop (t.length / 2)) W ((hr.take _ (by omega)) _ (fr_drawn S hW)) (by omega) (by rw [hh]; exact (hr.drop (t.length / 2) c (by omega) (by omega) hc) _ (fr_drawn S hW)) (by omega) (by omega)
    rw [hlt, hld, decide_eq_false he] at this
    exact this
  have HBG := Aside0.mk hB
  obtain ⟨vN, vT, ps, hb, sb, hN, hT, hR⟩ := hB
  obtain ⟨AT, cT, rfl, hcT, hCT⟩ := Kd.R_reads hT
  have hpl : ps.length = B.ts.length := hR.1
  have HG : ∀ W, Drawn0 w W → ∀ (j : Nat) (p : Option Addr × Nat × Nat) (q : List Bool), ps[j]? = some p → B.ts[j]? = some q → Calls Try.prog 139 #[.slice p.1 p.2.1 p.2.2, .slice (some ad) t.length c] W fun e w' => e = .returned (.bool (decide (q = t))) ∧ Drawn0 W w' := fun W hW j p q hp hq => by
    obtain ⟨g1, g2, g3, g4⟩ := hR.2 j p q hp hq
    have := equal_calls p.1 p.2.2 q (some ad) c t W (g4 _ (fr_drawn S hW)) g2 (hr _ (fr_drawn S hW)) hc g3
    rw [← g1] at this
    exact this
  obtain ⟨hi1, hi2, hi3⟩ := idxOf_some hidx
  have HCs := Aside0.mk HC
  have HEs := Aside0.mk HE
  have HGs := Aside0.mk HG
  have HCT := Aside0.mk hCT
  have HI2 := Aside0.mk hi2
  have HI3 := Aside0.mk hi3
  have hq : ((t.length : Int) / 2) = (h : Int) := by omega
  have hch : (c = h) = False := by simp; omega
  have hh2 : h < t.length := by omega
  have hh3 : h ≤ c := by omega
  have hh4 : h ≤ t.length := by omega
  have hc1 := (blk_cell hb 1).trans rfl
  rw [← hpl] at hi1 hbn
  have HPL := Aside0.mk hpl
  clear hr HC HE hk he hlt hld hh hh0 hh1 hN hT hR hb HG hi2 hi3 hidx hpl hCT
  go_enter Try.func128, Try.ntmps128
  go_wp2_with (go_at_call 138; first | (refine (HCs.out _ (Drawn0.refl w)).mono ?_; rintro e w1 ⟨rfl, ⟨n, rfl⟩⟩) | (refine (HCs.out _ (dr1 w _)).mono ?_; rintro e w2 ⟨rfl, ⟨n2, rfl⟩⟩))
  obtain ⟨W1, hW1, hD1⟩ : ∃ W, W = w.drewN (n + n2) ∧ Aside0 (Drawn0 w W) := ⟨_, rfl, ⟨dr1 w _⟩⟩
  replace hc1 : W1.cell? ⟨b, 1, none⟩ = some (.slice AT ps.length cT) := by rw [hW1]; exact hc1
  replace HCT : Aside0 (kSl.C W1 AT ps.length ps) := ⟨by rw [hW1]; exact HCT.out⟩
  rw [← hW1]
  clear hW1
  go_quiet ((go_at_call 139; exact quiet_drawn (HEs.out _ (hD1.out.step _))))
  go_wp2
  go_loopg [46] (ps.length) (fun kq v46 w' => ∃ (j : Nat) (m : Nat), v46 = .int .i64 j ∧ j ≤ i ∧ j + kq = ps.length ∧ w' = W1.drewN m)
  case atStart => exact ⟨0, _, rfl, Nat.zero_le _, by omega, rfl⟩
  case round =>
    obtain ⟨j, m, rfl, hji, hjk, rfl⟩ := hrel
    have hjlt : j < ps.length := by omega
    have hd : decide (j < ps.length) = true := decide_eq_true hjlt
    obtain ⟨ad2, cc, e2, hcl, hK2, hc2⟩ := Kd.C_get HCT.out (none, 0, 0) (j : Int) (by omega) (by omega)
    subst e2
    obtain ⟨p, hp⟩ : ∃ p, ps[j]? = some p := ⟨_, List.getElem?_eq_getElem hjlt⟩
    have hpj : ps.getD (j : Int).toNat (none, 0, 0) = p := by simp [hp]
    rw [hpj] at hK2
    obtain rfl : cc = [.slice p.1 p.2.1 p.2.2] := hK2
    have y := hc2 0 _ rfl
    have hz : kSl.sz = 1 := rfl
    simp only [hz, Int.toNat_natCast, Nat.mul_one, Nat.add_zero] at y
    have hjt : j < B.ts.length := by rw [← HPL.out]; exact hjlt
    obtain ⟨q, hq2⟩ : ∃ q, B.ts[j]? = some q := ⟨_, List.getElem?_eq_getElem hjt⟩
    have HP := Aside0.mk hp
    have HQ := Aside0.mk hq2
    clear hc2 hcl hpj hp hq2 hz
    by_cases hji2 : j = i
    · subst hji2
      have hqt : decide (q = t) = true := by
        have := HQ.out.symm.trans HI2.out
        simpa using this
      have HQT := Aside0.mk hqt
      clear hqt
      go_wp2_with (go_at_call 139; refine (HGs.out _ (hD1.out.step _) _ p q HP.out HQ.out).mono ?_; rw [HQT.out]; rintro e w5 ⟨rfl, ⟨m5, rfl⟩⟩)
      go_ret
      refine ⟨rfl, ?_, fr_drawn S (hD1.out.step _)⟩
      have h9 := (HBG.out.drawn (hD1.out.step (m + m5))).grow
      obtain ⟨n9, e9⟩ := (hD1.out.step (m + m5)).out
      rw [e9] at h9 ⊢
      exact h9
    · have hqt : decide (q = t) = false := by
        have := HI3.out j (by omega)
        rw [HQ.out] at this
        simpa using this
      have HQT := Aside0.mk hqt
      clear hqt
      go_wp2_with (go_at_call 139; refine (HGs.out _ (hD1.out.step _) _ p q HP.out HQ.out).mono ?_; rw [HQT.out]; rintro e w5 ⟨rfl, ⟨m5, rfl⟩⟩)
      go_roundg (gk - 1)
      case measure => omega
      case rel => exact ⟨j + 1, m + m5, by go_num, by omega, by omega, rfl⟩

set_option maxRecDepth 100000 in
set_option maxHeartbeats 4000000 in
theorem visit_new {S : Nat → Prop} (b k : Nat) (B B1 B2 : BS) (r1 r2 : Int) (A : Option Addr) (c : Nat) (t : List Bool) (v : Int) (w : World) (hB : Bld w S b B) (hr : Rd S w A t) (hc : t.length ≤ c) (hl : t.length < 140737488355328) (hk : constP t = false) (hbn : B.ts.length < 1000000000000)
    (he : t.take (t.length / 2) ≠ t.drop (t.length / 2)) (hidx : idxOf B.ts t = none)
    (hv0 : 0 ≤ v) (hvk : v + k + 1 < 1000000000000) (IH : VIH b k) (h1 : visitP k B (t.take (t.length / 2)) (v + 1) = some (r1, B1)) (h2 : visitP k B1 (t.drop (t.length / 2)) (v + 1) = some (r2, B2)) (hn2 : B2.nodes.length + 1 < 1000000000000) (ht2 : B2.ts.length + 1 < 1000000000000) :
    Calls Try.prog 128 #[.pointer (some ⟨b, 0, none⟩), .slice A t.length c, .int .i64 v] w (VPost w S b ((B2.nodes.length : Int) + 2) ⟨B2.nodes ++ [⟨v, r1, r2⟩], B2.ts ++ [t]⟩) := by
  obtain ⟨hh0, hh1⟩ := half_lt hk
  have HC : ∀ W, Drawn0 w W → Calls Try.prog 138 #[.slice A t.length c] W fun e w' => e = .returned (.bool false) ∧ Drawn0 W w' := fun W hW => by
    have := constant_calls A c t W (hr _ (fr_drawn S hW)) hc hl
    rwa [hk] at this
  obtain ⟨ad, rfl, x0⟩ := Kd.at_bool hr.now 0 (by omega) (by omega)
  clear x0
  obtain ⟨h, hh⟩ : ∃ h, h = t.length / 2 := ⟨_, rfl⟩
  have hlt : (t.take (t.length / 2)).length = h := by rw [hh]; simp; omega
  have hld : (t.drop (t.length / 2)).length = t.length - h := by rw [hh]; simp
  have HE : ∀ W, Drawn0 w W → Calls Try.prog 139 #[.slice (some ad) h c, .slice (some (ad.add h)) (t.length - h) (c - h)] W fun e w' => e = .returned (.bool false) ∧ Drawn0 W w' := fun W hW => by
    have := equal_calls (some ad) c (t.take (t.length / 2)) (some (ad.add h)) (c - h) (t.drop (t.length / 2)) W ((hr.take _ (by omega)) _ (fr_drawn S hW)) (by omega) (by rw [hh]; exact (hr.drop (t.length / 2) c (by omega) (by omega) hc) _ (fr_drawn S hW)) (by omega) (by omega)
    rw [hlt, hld, decide_eq_false he] at this
    exact this
  have HBG := Aside0.mk hB
  obtain ⟨vN, vT, ps, hb, sb, hN, hT, hR⟩ := id hB
  obtain ⟨AT, cT, rfl, hcT, hCT⟩ := Kd.R_reads hT
  have hpl : ps.length = B.ts.length := hR.1
  have HG : ∀ W, Drawn0 w W → ∀ (j : Nat) (p : Option Addr × Nat × Nat) (q : List Bool), ps[j]? = some p → B.ts[j]? = some q → Calls Try.prog 139 #[.slice p.1 p.2.1 p.2.2, .slice (some ad) t.length c] W fun e w' => e = .returned (.bool (decide (q = t))) ∧ Drawn0 W w' := fun W hW j p q hp hq => by
    obtain ⟨g1, g2, g3, g4⟩ := hR.2 j p q hp hq
    have := equal_calls p.1 p.2.2 q (some ad) c t W (g4 _ (fr_drawn S hW)) g2 (hr _ (fr_drawn S hW)) hc g3
    rw [← g1] at this
    exact this
  have m1 := visitP_mono _ _ _ _ _ _ h1
  have m2 := visitP_mono _ _ _ _ _ _ h2
  have HL1 := Aside0.mk hlt
  have HL2 := Aside0.mk hld
  have HHH := Aside0.mk hh
  have HC1 : Aside0 (∀ W, Drawn0 w W → Calls Try.prog 128 #[.pointer (some ⟨b, 0, none⟩), .slice (some ad) h c, .int .i64 (v + 1)] W (VPost W S b r1 B1)) := ⟨fun W hW => by
    have := IH S B (some ad) c (t.take (t.length / 2)) (v + 1) W r1 B1 (hB.drawn hW) ((hr.take _ (by omega)).next (fr_drawn S hW) (fun k hk => .inl hk)) (by omega) (by omega) (by omega) (by omega) (by omega) (by omega) h1
    rwa [hlt] at this⟩
  have HC2 : Aside0 (∀ (S1 : Nat → Prop) (W : World), Bld W S1 b B1 → Fr S w W → (∀ k, S1 k → S k ∨ w.heap.size ≤ k) → Calls Try.prog 128 #[.pointer (some ⟨b, 0, none⟩), .slice (some (ad.add h)) (t.length - h) (c - h), .int .i64 (v + 1)] W (VPost W S1 b r2 B2)) := ⟨fun S1 W hB1 hF hS1 => by
    have := IH S1 B1 (some (ad.add h)) (c - h) (t.drop (t.length / 2)) (v + 1) W r2 B2 hB1 ((by rw [hh]; exact (hr.drop (t.length / 2) c (by omega) (by omega) hc) : Rd S w (some (ad.add h)) (t.drop (t.length / 2))).next hF hS1) (by omega) (by omega) (by omega) (by omega) (by omega) (by omega) h2
    rwa [hld] at this⟩
  have HRT : Aside0 (Rd S w (some ad) t) := ⟨hr⟩
  have HCs := Aside0.mk HC
  have HEs := Aside0.mk HE
  have HGs := Aside0.mk HG
  have HCT := Aside0.mk hCT
  have HI3 := Aside0.mk (idxOf_none hidx)
  have hq : ((t.length : Int) / 2) = (h : Int) := by omega
  have hch : (c = h) = False := by simp; omega
  have hh2 : h < t.length := by omega
  have hh3 : h ≤ c := by omega
  have hh4 : h ≤ t.length := by omega
  have hc1 := (blk_cell hb 1).trans rfl
  rw [← hpl] at hbn
  have HPL := Aside0.mk hpl
  clear hr HC HE hk he hlt hld hh hh0 hh1 hN hT hR hb HG hidx hpl hCT hB h1 h2 IH m1 m2
  go_enter Try.func128, Try.ntmps128
  go_wp2_with (go_at_call 138; first | (refine (HCs.out _ (Drawn0.refl w)).mono ?_; rintro e w1 ⟨rfl, ⟨n, rfl⟩⟩) | (refine (HCs.out _ (dr1 w _)).mono ?_; rintro e w2 ⟨rfl, ⟨n2, rfl⟩⟩))
  obtain ⟨W1, hW1, hD1⟩ : ∃ W, W = w.drewN (n + n2) ∧ Aside0 (Drawn0 w W) := ⟨_, rfl, ⟨dr1 w _⟩⟩
  replace hc1 : W1.cell? ⟨b, 1, none⟩ = some (.slice AT ps.length cT) := by rw [hW1]; exact hc1
  replace HCT : Aside0 (kSl.C W1 AT ps.length ps) := ⟨by rw [hW1]; exact HCT.out⟩
  rw [← hW1]
  clear hW1
  go_quiet ((go_at_call 139; exact quiet_drawn (HEs.out _ (hD1.out.step _))))
  go_wp2
  go_loopg [46] (ps.length) (fun kq v46 w' => ∃ (j : Nat) (m : Nat), v46 = .int .i64 j ∧ j + kq = ps.length ∧ w' = W1.drewN m)
  case atStart => exact ⟨0, _, rfl, by omega, rfl⟩
  case round =>
    obtain ⟨j, m, rfl, hjk, rfl⟩ := hrel
    by_cases hjlt : j < ps.length
    · have hd : decide (j < ps.length) = true := decide_eq_true hjlt
      obtain ⟨ad2, cc, e2, hcl, hK2, hc2⟩ := Kd.C_get HCT.out (none, 0, 0) (j : Int) (by omega) (by omega)
      subst e2
      obtain ⟨p, hp⟩ : ∃ p, ps[j]? = some p := ⟨_, List.getElem?_eq_getElem hjlt⟩
      have hpj : ps.getD (j : Int).toNat (none, 0, 0) = p := by simp [hp]
      rw [hpj] at hK2
      obtain rfl : cc = [.slice p.1 p.2.1 p.2.2] := hK2
      have y := hc2 0 _ rfl
      have hz : kSl.sz = 1 := rfl
      simp only [hz, Int.toNat_natCast, Nat.mul_one, Nat.add_zero] at y
      have hjt : j < B.ts.length := by rw [← HPL.out]; exact hjlt
      obtain ⟨q, hq2⟩ : ∃ q, B.ts[j]? = some q := ⟨_, List.getElem?_eq_getElem hjt⟩
      have HP := Aside0.mk hp
      have HQ := Aside0.mk hq2
      clear hc2 hcl hpj hp hq2 hz
      have hqt : decide (q = t) = false := by
        have := HI3.out j
        rw [HQ.out] at this
        simpa using this
      have HQT := Aside0.mk hqt
      clear hqt
      go_wp2_with (go_at_call 139; refine (HGs.out _ (hD1.out.step _) _ p q HP.out HQ.out).mono ?_; rw [HQT.out]; rintro e w5 ⟨rfl, ⟨m5, rfl⟩⟩)
      go_roundg (gk - 1)
      case measure => omega
      case rel => exact ⟨j + 1, m + m5, by go_num, by omega, rfl⟩
    · have hd : decide (j < ps.length) = false := decide_eq_false hjlt
      obtain ⟨W2, hW2, hD2⟩ : ∃ W, W = W1.drewN m ∧ Aside0 (Drawn0 w W) := ⟨_, rfl, ⟨hD1.out.step _⟩⟩
      rw [← hW2]
      clear hW2 hc1 HCT HGs HEs HCs hjk hbn hD1
      have hv2 : v < 1000000000000 := by omega
      go_wp2_with fail
      refine (HC1.out _ hD2.out).mono ?_
      intro e w3 hv3
      obtain ⟨rfl, hB3, hF3⟩ := hv3
      replace hF3 : Fr S w w3 := (fr_drawn S hD2.out).then_ hF3 (fun i h => .inl h)
      have hS3 : ∀ k, ((S k ∨ W2.heap.size ≤ k) ∧ k < w3.heap.size) → S k ∨ w.heap.size ≤ k := fun k h => h.1.imp id (Nat.le_trans (fr_drawn S hD2.out).size)
      have HC3 := Aside0.mk (HC2.out _ w3 hB3 hF3 hS3)
      replace hF3 := Aside0.mk hF3
      replace hS3 := Aside0.mk hS3
      clear hB3 HC2 HC1
      go_wp2_with fail
      refine HC3.out.mono ?_
      intro e w4 hv4
      obtain ⟨rfl, hB4, hF4⟩ := hv4
      replace hF4 : Fr S w w4 := hF3.out.then_ hF4 hS3.out
      have hws : W2.heap.size = w.heap.size := by obtain ⟨n, e⟩ := hD2.out.out; rw [e]; rfl
      have hB4' : Bld w4 (fun k => (S k ∨ w.heap.size ≤ k) ∧ k < w4.heap.size) b B2 := hB4.mono' (fun k hk => ⟨hk.1.elim (fun h => hS3.out k h) (fun h => .inr (Nat.le_trans hF3.out.size h)), hk.2⟩) (fun k hk => by
        by_cases h3 : k < w3.heap.size
        · exact .inl ⟨.inl ⟨hk.1.imp id (fun h => by rw [hws]; exact h), h3⟩, hk.2⟩
        · exact .inl ⟨.inr (by omega), hk.2⟩)
      have HF4 := Aside0.mk hF4
      clear hB4 hF4 HC3 HBG HI3 HPL hws
      obtain ⟨vN, vT, ps4, hb4, sb4, hN4, hT4, hR4⟩ := hB4'
      obtain ⟨AN4, cN4, rfl, hcN4, _⟩ := Kd.R_reads hN4
      obtain ⟨AT4, cT4, rfl, hcT4, _⟩ := Kd.R_reads hT4
      have c4 := (blk_cell hb4 0).trans rfl
      have HB4 := Aside0.mk hb4
      have HN4 := Aside0.mk (Kd.R_mono hN4 (fun k hk => hk.1))
      have HT4 := Aside0.mk hT4
      have HR4 := Aside0.mk hR4
      have HS4 := Aside0.mk sb4
      have hal : (B2.nodes.length + 1) * 24 ≤ 140737488355328 := by omega
      have HAL := Aside0.mk hal
      have hsz4 := Aside0.mk HF4.out.size
      have hpl4 := hR4.1
      have HAL2 : Aside0 ((ps4.length + 1) * 24 ≤ 140737488355328) := ⟨by rw [hpl4]; omega⟩
      clear hb4 hN4 hT4 hR4 sb4 hal hpl4
      go_wp2_with (first | (at_builtin; refine Kd.R_append k106 (w0 := w4) (W := w4) 0 rfl (.tmp 75) (.tmp 80) 31 106 _ 24 rfl Try.underlying31 info106 rfl (by decide) (by decide) (.slice AN4 B2.nodes.length cN4) B2.nodes ⟨v, r1, r2⟩ [.int .i64 v, .int .i64 r1, .int .i64 r2] (fun k => S k ∨ w.heap.size ≤ k) (fun _ => False) rfl rfl (k106_mkM _ _ _ ⟨v, r1, r2⟩) (fun k hk => hk.elim) (fun k hk => .inr (Nat.le_trans hsz4.out hk)) HN4.out (Below.refl 0 _) (Nat.zero_le _) HAL.out ?_; intro v5 w5 hR5 hB5 hg5 hat5; obtain ⟨A5, c5, rfl, hc5, hC5'⟩ := Kd.R_reads hR5; have hb5 := blk_grown HB4.out hg5 (Kd.R_ne HN4.out HB4.out (by decide)); have d5 := (blk_cell hb5 0).trans rfl; have d6 := (blk_cell hb5 1).trans rfl; have f5 := blk_frozen hb5 0; have f6 := blk_frozen hb5 1; have HB5 := Aside0.mk hb5; have HT6 := Aside0.mk (Kd.R_set (Kd.R_grown (Kd.R_apart' (Kd.R_mono HT4.out (fun k hk => hk.1)) (Kd.R_typed HN4.out) (by decide)) hg5 (fun k hk => hk.2)) hb5 (by decide) 0 (.slice A5 (B2.nodes.length + 1) c5)); clear hb5) | (at_builtin; refine Kd.R_append kSl (w0 := w5.setCell ⟨b, 0, none⟩ (.slice A5 (B2.nodes.length + 1) c5)) (W := w5.setCell ⟨b, 0, none⟩ (.slice A5 (B2.nodes.length + 1) c5)) 0 rfl (.tmp 88) (.tmp 90) 152 47 _ 24 rfl Try.underlying152 info47 rfl (by decide) (by decide) (.slice AT4 ps4.length cT4) ps4 (some ad, t.length, c) [.slice (some ad) t.length c] (fun k => S k ∨ w.heap.size ≤ k) (fun _ => False) rfl (by rw [setCell_size]; rfl) rfl (fun k hk => hk.elim) ?_ (Kd.R_mono HT6.out (fun k hk => hk.1)) (Below.refl 0 _) (Nat.zero_le _) HAL2.out ?_; (exact fun k hk => .inr (Nat.le_trans hsz4.out (Nat.le_trans hg5.size (by simpa [World.setCell] using hk)))); intro v7 w7 hR7 hB7 hg7 hat7; obtain ⟨A7, c7, rfl, hc7, hC7'⟩ := Kd.R_reads hR7; have hb6 : (w5.setCell ⟨b, 0, none⟩ (.slice A5 (B2.nodes.length + 1) c5)).heap[b]? = some (.cells #[.slice A5 (B2.nodes.length + 1) c5, .slice AT4 ps4.length cT4] 154 (0, 0)) := (by simpa using blk_set HB5.out 0 (.slice A5 (B2.nodes.length + 1) c5)); have hb7 := blk_grown hb6 hg7 (Kd.R_ne HT6.out hb6 (by decide)); have d7 := (blk_cell hb7 0).trans rfl; have d8 := (blk_cell hb7 1).trans rfl; have f8 := blk_frozen hb7 1; have HB6 := Aside0.mk hb6; have HB7 := Aside0.mk hb7; clear hb6 hb7))
      go_ret
      have hl5 : (B2.nodes ++ [(⟨v, r1, r2⟩ : S106)]).length = B2.nodes.length + 1 := by simp
      have hl7 : (ps4 ++ [(some ad, t.length, c)]).length = ps4.length + 1 := by simp
      rw [hl5] at hR5
      rw [hl7] at hR7
      have g7 : (w7.setCell ⟨b, 1, none⟩ (.slice A7 (ps4.length + 1) c7)).heap[b]? = some (.cells #[.slice A5 (B2.nodes.length + 1) c5, .slice A7 (ps4.length + 1) c7] 154 (0, 0)) := by simpa using blk_set HB7.out 1 (.slice A7 (ps4.length + 1) c7)
      have F5 : Fr S w w5 := HF4.out.then_ (S2 := fun k => S k ∨ w.heap.size ≤ k) (Fr.of_grown hg5 (fun k hk => HN4.out.1 k hk)) (fun i h => h)
      have F6 : Fr S w (w5.setCell ⟨b, 0, none⟩ (.slice A5 (B2.nodes.length + 1) c5)) := F5.then_ (S2 := S) (Fr.setCell _ _ _ _ sb) (fun i h => .inl h)
      have F7 : Fr S w w7 := F6.then_ (S2 := fun k => (Value.slice AT4 ps4.length cT4).ownBlock = some k) (Fr.of_grown hg7 (fun k hk => hk)) (fun i h => (HT4.out.1 i h).1)
      have F8 : Fr S w (w7.setCell ⟨b, 1, none⟩ (.slice A7 (ps4.length + 1) c7)) := F7.then_ (S2 := S) (Fr.setCell _ _ _ _ sb) (fun i h => .inl h)
      have K5 : Fr (fun k => (S k ∨ w.heap.size ≤ k) ∧ k < w4.heap.size) w4 w5 := Fr.of_grown hg5 (fun k hk => ⟨HN4.out.1 k hk, ((Kd.R_bound HN4.out).1 k hk).2.2.1⟩)
      have N6 := Kd.R_set hR5 HB5.out (by decide) 0 (.slice A5 (B2.nodes.length + 1) c5)
      have N7 := Kd.R_grown (Kd.R_apart' N6 (Kd.R_typed HT6.out) (by decide)) hg7 (fun k hk => hk.2)
      have N8 := Kd.R_set N7 HB7.out (by decide) 1 (.slice A7 (ps4.length + 1) c7)
      have T8 := Kd.R_set hR7 HB7.out (by decide) 1 (.slice A7 (ps4.length + 1) c7)
      refine ⟨by simp; omega, ?_, F8⟩
      refine ⟨_, _, _, g7, ?_, Kd.R_mono (Kd.R_bound N8) (fun k hk => ⟨hk.1.1, hk.2.2.1⟩), Kd.R_mono (Kd.R_bound T8) (fun k hk => ⟨hk.1, hk.2.2.1⟩), ?_⟩
      · exact ⟨.inl sb, blk_lt g7⟩
      · have hb4' : b < w4.heap.size := blk_lt HB4.out
        have K6 := K5.then_ (S2 := fun k => (S k ∨ w.heap.size ≤ k) ∧ k < w4.heap.size) (Fr.setCell _ w5 ⟨b, 0, none⟩ (.slice A5 (B2.nodes.length + 1) c5) ⟨.inl sb, hb4'⟩) (fun i h => .inl h)
        have K7 := K6.then_ (S2 := fun k => (Value.slice AT4 ps4.length cT4).ownBlock = some k) (Fr.of_grown hg7 (fun k hk => hk)) (fun i h => .inl (HT4.out.1 i h))
        have K8 := K7.then_ (S2 := fun k => (S k ∨ w.heap.size ≤ k) ∧ k < w4.heap.size) (Fr.setCell _ w7 ⟨b, 1, none⟩ (.slice A7 (ps4.length + 1) c7) ⟨.inl sb, hb4'⟩) (fun i h => .inl h)
        exact (HR4.out.next K8 (fun k hk => by
          by_cases h4 : k < w4.heap.size
          · exact .inl ⟨hk.1, h4⟩
          · exact .inr (by omega))).snoc hc hl (HRT.out.next F8 (fun k hk => hk.1))
end Go.Proofs.Ytlplphgoldkoeaa.HTab

end

section
/- The reference's 'Of': the mask of a table, by the calls of 'visit'. -/
namespace Go.Proofs.Ytlplphgoldkoeaa.HTab
open Go.RowKit Go.Proofs.YtlplphgoldkoeaaW.PrintWords Go.Proofs.YtlplphgoldkoeaaW.PrintLast Go.Proofs.YtlplphgoldkoeaaW.PrintMore Go.Proofs.Ytlplphgoldkoeaa.HMap Go.Proofs.Ytlplphgoldkoeaa.X
set_option linter.unusedVariables false
set_option linter.unusedSimpArgs false

theorem visit_calls (b : Nat) : ∀ k, VIH b k
  | 0 => by
    intro S B A c t v w r B' _ _ _ _ _ _ _ _ h
    simp [visitP] at h
  | k + 1 => by
    have IH := visit_calls b k
    intro S B A c t v w r B' hB hr hc hl hv0 hvk hn ht h
    unfold visitP at h
    split at h
    · cases h
    rename_i h0
    split at h
    · rename_i hk
      simp only [Option.some.injEq, Prod.mk.injEq] at h
      obtain ⟨rfl, rfl⟩ := h
      exact visit_const b B A c t v w hB hr hc hl h0 hk
    rename_i hk
    have hk' : constP t = false := by simpa using hk
    obtain ⟨hh0, hh1⟩ := half_lt hk'
    split at h
    · rename_i he
      refine visit_same b B A c t v w _ hB hr hc hl hk' hv0 (by omega) he (fun W hW => ?_) (fun e w' h => ⟨_, h.1⟩)
      refine (IH S B A c _ (v + 1) W r B' (hB.drawn hW) ((hr.take _ (by omega)).next (fr_drawn S hW) (fun k hk => .inl hk)) (by simp; omega) (by simp; omega) (by omega) (by omega) hn ht h).mono ?_
      intro e w' hp
      obtain ⟨n, rfl⟩ := hW.out
      exact ⟨hp.1, hp.2.1, (fr_drewN S w n).then_ hp.2.2 (fun i h => .inl h)⟩
    rename_i he
    split at h
    · rename_i i hidx
      simp only [Option.some.injEq, Prod.mk.injEq] at h
      obtain ⟨rfl, rfl⟩ := h
      exact visit_found b B A c t v w i hB hr hc hl hk' ht he hidx
    · rename_i hidx
      obtain ⟨⟨r1, B1⟩, h1, h⟩ := Option.bind_eq_some_iff.1 h
      obtain ⟨⟨r2, B2⟩, h2, h⟩ := Option.bind_eq_some_iff.1 h
      simp only [Option.some.injEq, Prod.mk.injEq] at h
      obtain ⟨rfl, rfl⟩ := h
      have m1 := visitP_mono _ _ _ _ _ _ h1
      have m2 := visitP_mono _ _ _ _ _ _ h2
      simp only [List.length_append, List.length_singleton] at hn ht
      exact visit_new b k B B1 B2 r1 r2 A c t v w hB hr hc hl hk' (by simp only at m1 m2; omega) he hidx hv0 (by omega) IH h1 h2 hn ht

theorem visitP_len : ∀ (k : Nat) (B : BS) (t : List Bool) (v r : Int) (B' : BS), visitP k B t v = some (r, B') → B'.nodes.length + 1 ≤ B.nodes.length + t.length ∧ B'.ts.length + 1 ≤ B.ts.length + t.length
  | 0, _, _, _, _, _, h => by simp [visitP] at h
  | k + 1, B, t, v, r, B', h => by
    unfold visitP at h
    split at h
    · cases h
    rename_i h0
    have hp : 0 < t.length := List.length_pos_iff.2 h0
    split at h
    · simp only [Option.some.injEq, Prod.mk.injEq] at h
      rw [← h.2]; omega
    rename_i hk
    obtain ⟨hh0, hh1⟩ := half_lt (by simpa using hk)
    split at h
    · have := visitP_len k _ _ _ _ _ h
      simp only [List.length_take] at this
      omega
    split at h
    · simp only [Option.some.injEq, Prod.mk.injEq] at h
      rw [← h.2]; omega
    · obtain ⟨⟨p1, p2⟩, hp, h⟩ := Option.bind_eq_some_iff.1 h
      obtain ⟨⟨q1, q2⟩, hq, h⟩ := Option.bind_eq_some_iff.1 h
      have h1 := visitP_len k _ _ _ _ _ hp
      have h2 := visitP_len k _ _ _ _ _ hq
      simp only [Option.some.injEq, Prod.mk.injEq] at h
      rw [← h.2]
      simp only [List.length_take, List.length_drop] at h1 h2
      simp; omega

/-- A row of the call's own whose elements hold no rows: from a higher base on. -/
theorem R_raise {α : Type} {d : Kd α} {e : Nat} {w : World} {base : Nat} {ok : Nat → Prop} {v : Value} {xs : List α} (hM : ∀ (w : World) ok ok' x cs, d.M w 0 ok x cs → d.M w base ok' x cs) (h : d.R e w 0 ok v xs) (hb : ∀ k, ok k → base ≤ k) : d.R e w base (fun _ => True) v xs := by
  obtain ⟨h0, inner, ho, hr⟩ := h
  refine ⟨fun _ _ => trivial, inner, ?_, hr.imp_ (fun _ _ hp => hM _ _ _ _ _ hp)⟩
  obtain ⟨h1, h2⟩ := ho
  refine ⟨h1, ?_⟩
  rcases h2 with h2 | ⟨g, cap, cur, rfl, hg, hh, r⟩
  · exact .inl h2
  · exact .inr ⟨g, cap, cur, rfl, hb g (h0 g (by simp [Value.ownBlock])), hh, r⟩

def ofP (t : List Bool) : Option (Int × BS) := visitP 64 ⟨[], []⟩ t 0
end Go.Proofs.Ytlplphgoldkoeaa.HTab
namespace Go.Proofs.Ytlplphgoldkoeaa.X
open Go.RowKit Go.Proofs.YtlplphgoldkoeaaW.PrintWords Go.Proofs.YtlplphgoldkoeaaW.PrintLast Go.Proofs.YtlplphgoldkoeaaW.PrintMore Go.Proofs.Ytlplphgoldkoeaa.HTab
def cantingref02_Of.f (a0 : Int) (l1 : List Bool) : Option (Int × List S106 × Int) := if l1.length ≤ 8192 then (ofP l1).map fun p => (a0, p.2.nodes, p.1) else none

set_option maxRecDepth 100000 in
set_option maxHeartbeats 4000000 in
theorem cantingref02_Of.calls (a0 : Int) (A1 : Option Addr) (c1 : Nat) (l1 : List Bool) (r1 : Int) (r2 : List (S106)) (r3 : Int) (w : World) (hr1 : Kd.C Kd.bool w A1 l1.length l1) (hc1 : l1.length ≤ c1) (h : cantingref02_Of.f a0 l1 = some (r1, r2, r3)) :
    Calls Try.prog 87 #[.int .i64 a0, .slice A1 l1.length c1] w fun e w' => ∃ v2_ : Value, e = .returned (.agg #[.int .i64 r1, v2_, .int .i64 r3]) ∧ Kd.R k106 106 w' w.heap.size (fun _ => True) v2_ r2 ∧ Below w.heap.size w w' := by
  unfold cantingref02_Of.f at h
  split at h
  case isFalse => cases h
  rename_i hl
  obtain ⟨⟨root, B'⟩, hp, he⟩ := Option.map_eq_some_iff.1 h
  simp only [Prod.mk.injEq] at he
  obtain ⟨rfl, rfl, rfl⟩ := he
  have hlen := visitP_len _ _ _ _ _ _ hp
  simp only [List.length_nil] at hlen
  obtain ⟨g0, hg0⟩ : ∃ g, g = w.heap.size := ⟨_, rfl⟩
  obtain ⟨w2, hw2⟩ : ∃ w2, w2 = (w.alloc (.cells #[.int .i64 0, .slice none 0 0, .int .i64 0] 33)).alloc (.cells #[.slice none 0 0, .slice none 0 0] 154) := ⟨_, rfl⟩
  have hbel : Below w.heap.size w w2 := by rw [hw2]; apply below_alloc; apply below_alloc; exact Below.refl _ _
  have hres : w2.heap[w.heap.size]? = some (.cells #[.int .i64 0, .slice none 0 0, .int .i64 0] 33 (0, 0)) := by rw [hw2]; exact blk_alloc (blk_new _ _) _
  have hbld : w2.heap[w.heap.size + 1]? = some (.cells #[.slice none 0 0, .slice none 0 0] 154 (0, 0)) := by rw [hw2]; simpa using blk_new (w.alloc (.cells #[.int .i64 0, .slice none 0 0, .int .i64 0] 33)) (.cells #[.slice none 0 0, .slice none 0 0] 154)
  have hB : Bld w2 (fun k => k = w.heap.size + 1) (w.heap.size + 1) ⟨[], []⟩ := ⟨_, _, [], hbld, rfl, Kd.R_nil _ _ _ _ _, Kd.R_nil _ _ _ _ _, rfl, fun i p t hp => by simp at hp⟩
  have hrd : Rd (fun k => k = w.heap.size + 1) w2 A1 l1 := fun W hW => Kd.C_below hr1 ⟨hW.os.trans hbel.os, hW.tape.trans hbel.tape, hW.output.trans hbel.output, Nat.le_trans hbel.size hW.size, fun i hi => (hW.block i (Nat.lt_of_lt_of_le hi hbel.size) (fun e => by omega)).trans (hbel.block i hi)⟩
  have HV := Aside0.mk (visit_calls (w.heap.size + 1) 64 (fun k => k = w.heap.size + 1) ⟨[], []⟩ A1 c1 l1 0 w2 root B' hB hrd hc1 (by omega) (by omega) (by omega) (by omega) (by omega) hp)
  have HR := Aside0.mk hres
  have HBL := Aside0.mk hbel
  have hsz2 : w2.heap.size = w.heap.size + 2 := by rw [hw2]; simp
  have HSZ := Aside0.mk hsz2
  clear hB hrd hbld hres hbel h hp hlen hr1 hg0 hsz2 hl
  go_enter Try.func87, Try.ntmps87
  go_wp2_with fail
  rw [← hw2]
  clear hw2
  refine HV.out.mono ?_
  intro e w3 hv
  obtain ⟨rfl, ⟨vN, vT, ps, hb3, sb3, hN3, hT3, hR3⟩, hF3⟩ := hv
  obtain ⟨AN, cN, rfl, hcN, _⟩ := Kd.R_reads hN3
  have c0 := (blk_cell hb3 0).trans rfl
  have hr3 : w3.heap[w.heap.size]? = some (.cells #[.int .i64 0, .slice none 0 0, .int .i64 0] 33 (0, 0)) := (hF3.block w.heap.size (blk_lt HR.out) (fun e => by omega)).trans HR.out
  have d0 := (blk_cell hr3 0).trans rfl
  have d1 := (blk_cell hr3 1).trans rfl
  have d2 := (blk_cell hr3 2).trans rfl
  have f0 := blk_frozen hr3 0
  have f1 := blk_frozen hr3 1
  have f2 := blk_frozen hr3 2
  have HR3 := Aside0.mk hr3
  have HF3 := Aside0.mk hF3
  have HN3 := Aside0.mk hN3
  have hu := Try.underlying33
  clear hb3 sb3 hN3 hT3 hR3 hF3 hr3
  go_wp2
  have hb4 : (((w3.setCell ⟨w.heap.size, 0, none⟩ (.int .i64 a0)).setCell ⟨w.heap.size, 1, none⟩ (.slice AN B'.nodes.length cN)).setCell ⟨w.heap.size, 2, none⟩ (.int .i64 root)).heap[w.heap.size]? = some (.cells #[.int .i64 a0, .slice AN B'.nodes.length cN, .int .i64 root] 33 (0, 0)) :=
    blk_put (cs := #[.int .i64 a0, .slice AN B'.nodes.length cN, .int .i64 0]) (blk_put (cs := #[.int .i64 a0, .slice none 0 0, .int .i64 0]) (blk_put (cs := #[.int .i64 0, .slice none 0 0, .int .i64 0]) HR3.out 0 _ rfl) 1 _ rfl) 2 _ rfl
  refine bodyPost_ret (results_cell_row rfl _ _ w.heap.size 33 #[.int .i64 a0, .slice AN B'.nodes.length cN, .int .i64 root] (0, 0) _ rfl hb4 Try.underlying33 rfl (by kernel_rfl)) rfl ?_
  have hsz := HSZ.out
  refine ⟨_, rfl, ?_, ?_⟩
  · have hN : k106.R 106 w3 w.heap.size (fun _ => True) (.slice AN B'.nodes.length cN) B'.nodes :=
      R_raise (fun w ok ok' x cs hm => by rw [k106_openM hm]; exact k106_mkM _ _ _ _) HN3.out (fun k hk => hk.1.elim (fun h => by omega) (fun h => by omega))
    exact Kd.R_mono (Kd.R_far (p := ⟨w.heap.size, 2, none⟩) (Kd.R_far (p := ⟨w.heap.size, 1, none⟩) (Kd.R_far (p := ⟨w.heap.size, 0, none⟩) (Kd.R_types hN HR3.out (by decide)) (fun _ hk => hk.2) _) (fun _ hk => hk.2) _) (fun _ hk => hk.2) _) (fun _ _ => trivial)
  · have h3 : Below w.heap.size w w3 := ⟨HF3.out.os.trans HBL.out.os, HF3.out.tape.trans HBL.out.tape, HF3.out.output.trans HBL.out.output, Nat.le_trans HBL.out.size HF3.out.size, fun i hi => (HF3.out.block i (Nat.lt_of_lt_of_le hi HBL.out.size) (fun e => by omega)).trans (HBL.out.block i hi)⟩
    exact below_set (below_set (below_set h3 (Nat.le_refl _)) (Nat.le_refl _)) (Nat.le_refl _)
end Go.Proofs.Ytlplphgoldkoeaa.X

end

section
/- The table's 'mask', and 'newTable'. -/
namespace Go.Proofs.Ytlplphgoldkoeaa.HTab
open Go.RowKit Go.Proofs.YtlplphgoldkoeaaW.PrintWords Go.Proofs.YtlplphgoldkoeaaW.PrintLast Go.Proofs.YtlplphgoldkoeaaW.PrintMore Go.Proofs.Ytlplphgoldkoeaa.HMap Go.Proofs.Ytlplphgoldkoeaa.X
open Go.ChangeMaps (setBlock)
set_option linter.unusedVariables false
set_option linter.unusedSimpArgs false

theorem blkAt (w : World) (o : Obj) : (w.alloc o).heap[w.heap.size]? = some o := blk_new w o
theorem below5 (w W : World) (h : Below w.heap.size w W) (o o1 o2 : Obj) {b : Nat} (hb : w.heap.size ≤ b) : Below w.heap.size w (setBlock (setBlock (W.alloc o) b o1) b o2) := by
  have h1 : Below w.heap.size w (W.alloc o) := below_alloc h o
  exact ⟨h1.os, h1.tape, h1.output, by rw [setBlock_size, setBlock_size]; exact h1.size, fun i hi => (setBlock_other _ _ _ _ (by omega)).trans ((setBlock_other _ _ _ _ (by omega)).trans (h1.block i hi))⟩
theorem blk5 {W : World} {g : Nat} {c : Obj} {o1 o2 : Obj} (h : W.heap[g]? = some c) (o : Obj) (b : Nat) (hb : g ≠ b) : (setBlock (setBlock (W.alloc o) b o1) b o2).heap[g]? = some c :=
  (setBlock_other _ _ _ _ hb).trans ((setBlock_other _ _ _ _ hb).trans (blk_alloc h o))
set_option maxRecDepth 100000 in
set_option maxHeartbeats 4000000 in
theorem tmask_calls {S : Nat → Prop} (t : Nat) (T : TB) (k : Nat) (s' : MS) (root r : Int) (w : World) (hT : Tab w S t T) (hlen : s'.out.length < 1000000000000) (h : maskP T k ⟨[(0, 0), (1, 1)], []⟩ root = some (r, s')) :
    Calls Try.prog 90 #[.pointer (some ⟨t, 0, none⟩), .int .i64 root] w fun e w' => ∃ v : Value, e = .returned (.agg #[.int .i64 T.vars, v, .int .i64 r]) ∧ k107.R 107 w' w.heap.size (fun _ => True) v s'.out ∧ Below w.heap.size w w' := by
  obtain ⟨A, c, mbt, ct0, ct1, ct2, hC⟩ := hT.cells
  have HT := Aside0.mk hT
  have HP := Aside0.mk h
  have ct0y : ∀ o o' : Obj, ((w.alloc o).alloc o').cell? ⟨t, 0, none⟩ = some (.int .i64 T.vars) := fun o o' => pw_cell_below (below_alloc (below_alloc (Below.refl _ _) o) o') ct0
  have hmm := @run_makeMap Try.prog
  obtain ⟨W3, hW3⟩ : ∃ W, W = ((w.alloc (.cells #[.pointer (some ⟨t, 0, none⟩)] 109)).alloc (.cells #[.int .i64 0, .slice none 0 0, .int .i64 0] 28)).alloc (.cells #[.int .i64 T.vars, .slice none 0 0, .int .i64 0] 28) := ⟨_, rfl⟩
  have hB3 : Below w.heap.size w W3 := by rw [hW3]; exact below_alloc (below_alloc (below_alloc (Below.refl _ _) _) _) _
  have hs3 : W3.heap.size = w.heap.size + 3 := by rw [hW3]; simp
  have k0 : W3.heap[w.heap.size]? = some (.cells #[.pointer (some ⟨t, 0, none⟩)] 109 (0, 0)) := by rw [hW3]; exact blk_alloc (blk_alloc (blk_new _ _) _) _
  have k1 : W3.heap[w.heap.size + 1]? = some (.cells #[.int .i64 0, .slice none 0 0, .int .i64 0] 28 (0, 0)) := by
    rw [hW3]; refine blk_alloc ?_ _
    simpa using blk_new (w.alloc (.cells #[.pointer (some ⟨t, 0, none⟩)] 109)) (.cells #[.int .i64 0, .slice none 0 0, .int .i64 0] 28)
  have k2 : W3.heap[w.heap.size + 2]? = some (.cells #[.int .i64 T.vars, .slice none 0 0, .int .i64 0] 28 (0, 0)) := by
    rw [hW3]
    simpa using blk_new ((w.alloc (.cells #[.pointer (some ⟨t, 0, none⟩)] 109)).alloc (.cells #[.int .i64 0, .slice none 0 0, .int .i64 0] 28)) (.cells #[.int .i64 T.vars, .slice none 0 0, .int .i64 0] 28)
  have hM0 : MapIs (Value.int .i64) (Value.int .i64) (W3.alloc (.map #[] 0)) (w.heap.size + 3) ([] : List (Int × Int)) := by
    have := MapIs.made (Value.int .i64) (Value.int .i64) W3
    rwa [hs3] at this
  have HW3 := Aside0.mk hW3
  have HM0 := Aside0.mk hM0
  have HB3 := Aside0.mk hB3
  have K0 := Aside0.mk k0
  have K1 := Aside0.mk k1
  have K2 := Aside0.mk k2
  have HS3 := Aside0.mk hs3
  clear hT h ct1 ct2 hC hW3 hM0 hB3 hs3 k0 k1 k2
  go_enter Try.func90, Try.ntmps90
  go_wp2_with (first | (refine wpList_ins _ rfl _ _ _ _ rfl keyI Try.underlying122 (b := w.heap.size + 3) (HW3.out ▸ HM0.out) 0 0 rfl rfl rfl ?_; intro o1 hM1; have HM1 := Aside0.mk hM1; clear hM1 HM0) | (refine wpList_ins _ rfl _ _ _ _ rfl keyI Try.underlying122 HM1.out 1 1 rfl rfl rfl ?_; intro o2 hM2; clear HM1; have hB5 : Below w.heap.size w (setBlock (setBlock ((((w.alloc (.cells #[.pointer (some ⟨t, 0, none⟩)] 109)).alloc (.cells #[.int .i64 0, .slice none 0 0, .int .i64 0] 28)).alloc (.cells #[.int .i64 T.vars, .slice none 0 0, .int .i64 0] 28)).alloc (.map #[] 0)) (w.heap.size + 3) o1) (w.heap.size + 3) o2) := below5 w _ (HW3.out ▸ HB3.out) _ _ _ (by omega); have hs5 : (setBlock (setBlock ((((w.alloc (.cells #[.pointer (some ⟨t, 0, none⟩)] 109)).alloc (.cells #[.int .i64 0, .slice none 0 0, .int .i64 0] 28)).alloc (.cells #[.int .i64 T.vars, .slice none 0 0, .int .i64 0] 28)).alloc (.map #[] 0)) (w.heap.size + 3) o1) (w.heap.size + 3) o2).heap.size = w.heap.size + 4 := (by simp [setBlock_size]); have j0 := blk5 (o1 := o1) (o2 := o2) (HW3.out ▸ K0.out) (.map #[] 0) (w.heap.size + 3) (by omega); have j1 := blk5 (o1 := o1) (o2 := o2) (HW3.out ▸ K1.out) (.map #[] 0) (w.heap.size + 3) (by omega); have j2 := blk5 (o1 := o1) (o2 := o2) (HW3.out ▸ K2.out) (.map #[] 0) (w.heap.size + 3) (by omega); generalize setBlock (setBlock ((((w.alloc (.cells #[.pointer (some ⟨t, 0, none⟩)] 109)).alloc (.cells #[.int .i64 0, .slice none 0 0, .int .i64 0] 28)).alloc (.cells #[.int .i64 T.vars, .slice none 0 0, .int .i64 0] 28)).alloc (.map #[] 0)) (w.heap.size + 3) o1) (w.heap.size + 3) o2 = W5 at hM2 hB5 hs5 j0 j1 j2 ⊢; have HM2 := Aside0.mk hM2; have HB5 := Aside0.mk hB5; have HJ0 := Aside0.mk j0; have HJ1 := Aside0.mk j1; have HJ2 := Aside0.mk j2; clear hM2 hB5 j0 j1 j2) | fail)
  have hB7 : Below w.heap.size w ((W5.alloc (.cells #[.map (some (w.heap.size + 3))] 122)).alloc (.cells #[fnM (w.heap.size + 4) w.heap.size (w.heap.size + 5) (w.heap.size + 2)] 123)) := below_alloc (below_alloc HB5.out _) _
  have hK : Mk ((W5.alloc (.cells #[.map (some (w.heap.size + 3))] 122)).alloc (.cells #[fnM (w.heap.size + 4) w.heap.size (w.heap.size + 5) (w.heap.size + 2)] 123)) (fun i => i = w.heap.size + 2 ∨ i = w.heap.size + 3) (w.heap.size + 4) w.heap.size (w.heap.size + 5) (w.heap.size + 2) t T ⟨[(0, 0), (1, 1)], []⟩ := by
    refine ⟨w.heap.size + 3, .slice none 0 0, ?_, blk_alloc (blk_alloc HJ0.out _) _, ?_, blk_alloc (blk_alloc HJ2.out _) _, .inr rfl, .inl rfl, by omega, by omega, by omega, ?_, Kd.R_nil _ _ _ _ _, fun i => S i ∧ i < w.heap.size, HT.out.bound.below hB7, fun i hi h => by omega⟩
    · have := blk_new W5 (.cells #[.map (some (w.heap.size + 3))] 122)
      rw [hs5] at this
      exact blk_alloc this _
    · have := blk_new (W5.alloc (.cells #[.map (some (w.heap.size + 3))] 122)) (.cells #[fnM (w.heap.size + 4) w.heap.size (w.heap.size + 5) (w.heap.size + 2)] 123)
      have hs6 : (W5.alloc (.cells #[.map (some (w.heap.size + 3))] 122)).heap.size = w.heap.size + 5 := by simp [hs5]
      rw [hs6] at this
      exact this
    · exact HM2.out.move ((Below.heap_alloc _ _ _ (by simp [hs5])).trans (Below.heap_alloc _ _ _ (by omega)))
  refine (tmask1_calls (w.heap.size + 4) w.heap.size (w.heap.size + 5) (w.heap.size + 2) t T k (fun i => i = w.heap.size + 2 ∨ i = w.heap.size + 3) ⟨[(0, 0), (1, 1)], []⟩ s' root r ((W5.alloc (.cells #[.map (some (w.heap.size + 3))] 122)).alloc (.cells #[fnM (w.heap.size + 4) w.heap.size (w.heap.size + 5) (w.heap.size + 2)] 123)) hK hlen HP.out).mono ?_
  intro e w8 hv
  obtain ⟨rfl, ⟨mb, vN, g1, g2, g3, g4, g5, g6, g7, g8, g9, gM, gR, S4, gT, gS⟩, hF8⟩ := hv
  have r8 : w8.heap[w.heap.size + 1]? = some (.cells #[.int .i64 0, .slice none 0 0, .int .i64 0] 28 (0, 0)) := (hF8.block _ (by simp [hs5]) (by omega)).trans (blk_alloc (blk_alloc HJ1.out _) _)
  obtain ⟨A8, c8, rfl, hc8, _⟩ := Kd.R_reads gR
  have b0 := (blk_cell g4 0).trans rfl
  have b1 := (blk_cell g4 1).trans rfl
  have b2 := (blk_cell g4 2).trans rfl
  have q0 := (blk_cell r8 0).trans rfl
  have q1 := (blk_cell r8 1).trans rfl
  have q2 := (blk_cell r8 2).trans rfl
  have fb2 := blk_frozen g4 2
  have fq0 := blk_frozen r8 0
  have fq1 := blk_frozen r8 1
  have fq2 := blk_frozen r8 2
  have hF8' : Below w.heap.size w w8 := ⟨hF8.os.trans hB7.os, hF8.tape.trans hB7.tape, hF8.output.trans hB7.output, Nat.le_trans hB7.size hF8.size, fun i hi => (hF8.block i (Nat.lt_of_lt_of_le hi hB7.size) (by omega)).trans (hB7.block i hi)⟩
  have GR := Aside0.mk (R_raise (base := w.heap.size) (fun w ok ok' x cs hm => by rw [k107_openM hm]; exact k107_mkM _ _ _ _) gR (fun k hk => hk.1.elim (fun h => by omega) (fun h => Nat.le_trans hB7.size h)))
  have G4 := Aside0.mk g4
  have R8 := Aside0.mk r8
  have HF8 := Aside0.mk hF8'
  have hu := Try.underlying28
  clear g1 g2 g3 g4 g5 g6 g7 g8 g9 gM gR gT gS hK hB7 hF8 hF8' r8
  go_wp2
  have N0 := Kd.R_types (Kd.R_types GR.out G4.out (by decide)) R8.out (by decide)
  have N1 := Kd.R_far (p := ⟨w.heap.size + 1 + 1, 2, none⟩) N0 (fun _ hk => hk.1.2) (.int .i64 r)
  have N2 := Kd.R_far (p := ⟨w.heap.size + 1, 0, none⟩) N1 (fun _ hk => hk.2) (.int .i64 T.vars)
  have N3 := Kd.R_far (p := ⟨w.heap.size + 1, 1, none⟩) N2 (fun _ hk => hk.2) (.slice A8 s'.out.length c8)
  have N4 := Kd.R_far (p := ⟨w.heap.size + 1, 2, none⟩) N3 (fun _ hk => hk.2) (.int .i64 r)
  have r9 := blk_far (p := ⟨w.heap.size + 1 + 1, 2, none⟩) R8.out (by simp) (.int .i64 r)
  have hb4 : ((((w8.setCell ⟨w.heap.size + 1 + 1, 2, none⟩ (.int .i64 r)).setCell ⟨w.heap.size + 1, 0, none⟩ (.int .i64 T.vars)).setCell ⟨w.heap.size + 1, 1, none⟩ (.slice A8 s'.out.length c8)).setCell ⟨w.heap.size + 1, 2, none⟩ (.int .i64 r)).heap[w.heap.size + 1]? = some (.cells #[.int .i64 T.vars, .slice A8 s'.out.length c8, .int .i64 r] 28 (0, 0)) :=
    blk_put (cs := #[.int .i64 T.vars, .slice A8 s'.out.length c8, .int .i64 0]) (blk_put (cs := #[.int .i64 T.vars, .slice none 0 0, .int .i64 0]) (blk_put (cs := #[.int .i64 0, .slice none 0 0, .int .i64 0]) r9 0 _ rfl) 1 _ rfl) 2 _ rfl
  refine bodyPost_ret (results_cell_row rfl _ _ (w.heap.size + 1) 28 #[.int .i64 T.vars, .slice A8 s'.out.length c8, .int .i64 r] (0, 0) _ rfl hb4 Try.underlying28 rfl (by kernel_rfl)) rfl ?_
  refine ⟨_, rfl, Kd.R_mono N4 (fun _ _ => trivial), ?_⟩
  exact below_set (below_set (below_set (below_set HF8.out (by show w.heap.size ≤ w.heap.size + 1 + 1; omega)) (Nat.le_succ _)) (Nat.le_succ _)) (Nat.le_succ _)
end Go.Proofs.Ytlplphgoldkoeaa.HTab

end

section
/- newTable; build: the mask of a function on points. -/
namespace Go.Proofs.Ytlplphgoldkoeaa.HTab
open Go.RowKit Go.Proofs.YtlplphgoldkoeaaW.PrintWords Go.Proofs.YtlplphgoldkoeaaW.PrintLast Go.Proofs.YtlplphgoldkoeaaW.PrintMore Go.Proofs.Ytlplphgoldkoeaa.HMap Go.Proofs.Ytlplphgoldkoeaa.X
open Go.ChangeMaps (setBlock)
set_option linter.unusedVariables false
set_option linter.unusedSimpArgs false

/-! ### a call of a function value -/
section
variable {P : Program} {ops : Array Oper} {Q : Exit → Act → World → Prop}
theorem goesV_ {oi : Oper} {N : Option Tmp} {a : Act} {w : World} {K : Act → World → Prop} {f : FuncId} {fn : Func} {x : Operand} {oargs : Array Operand} {ts : Array TypeId} {caps : Array Value} (hf : P.funcs[f]? = some fn) (hname : (fn.name == "runtime.NumGoroutine") = false) (hb : fn.body.isSome = true) (args : Array Value)
    (hw : Region.wanted oi (yielded ops a.tmps) = true) (hN : oi.dst = N) (hop : oi.op = .call { callee := .value x, args := oargs, argTypes := ts }) (hx : a.eval x = .func (.func f) #[] caps) (hargs : oargs.map a.eval ++ caps = args)
    (h : Calls P f args w fun e w' => ∃ v, e = .returned v ∧ K (a.put N v) w') : if Region.wanted oi (yielded ops a.tmps) = true then Oper.wp P oi a w K Q else K (a.put N undef) w := by
  refine call_ f args hw hN ?_ h
  have he := enters_ hf hname hb args w
  unfold execOp
  simp [hop, resolve, Deferred.ofValue, invoke, hx, hargs, he]
theorem goesVL_ {rest : List Oper} {oi : Oper} {a : Act} {w : World} (N : Option Tmp) (hd : oi.dst = N) (hg : oi.guard = none) {f : FuncId} {fn : Func} {x : Operand} {oargs : Array Operand} {ts : Array TypeId} {caps : Array Value} (hf : P.funcs[f]? = some fn) (hname : (fn.name == "runtime.NumGoroutine") = false) (hb : fn.body.isSome = true) (args : Array Value)
    (hop : oi.op = .call { callee := .value x, args := oargs, argTypes := ts }) (hx : a.eval x = .func (.func f) #[] caps) (hargs : oargs.map a.eval ++ caps = args)
    (h : Calls P f args w fun e w' => ∃ v, e = .returned v ∧ wpList P ops Q rest (a.put N v) w') : wpList P ops Q (oi :: rest) a w := by
  refine wpList_plain hg fun K hK => ?_
  have he := enters_ hf hname hb args w
  have hrun : (execOp a.eval oi).run P w = .ok (.enter f args) w := by
    unfold execOp
    simp [hop, resolve, Deferred.ofValue, invoke, hx, hargs, he]
  unfold Oper.wp
  rw [hrun, Oper.upon_enter]
  refine h.mono fun e w'' hh => ?_
  obtain ⟨v, rfl, hk⟩ := hh
  subst hd
  exact hK _ _ hk
end

/-! ### newTable -/
set_option maxRecDepth 100000 in
set_option maxHeartbeats 4000000 in
theorem newTable_calls (vars : Int) (w : World) :
    Calls Try.prog 89 #[.int .i64 vars] w fun e w' => ∃ g : Nat, e = .returned (.pointer (some ⟨g, 0, none⟩)) ∧ Tab w' (fun k => w.heap.size ≤ k ∧ k < w'.heap.size) g ⟨vars, [⟨0, 0, 0⟩, ⟨0, 0, 0⟩], []⟩ ∧ Below w.heap.size w w' := by
  have hmm := @run_makeMap Try.prog
  go_enter Try.func89, Try.ntmps89
  go_wp2_with (first | (refine Kd.R_make k107 (w0 := w) 0 107 rfl (N := 4) rfl 26 _ _ rfl 2 rfl rfl Try.underlying26 _ 24 info107 rfl (by decide) (by decide) ⟨0, 0, 0⟩ (ok := fun k => w.heap.size ≤ k) (okp := fun _ => False) (k107_mkM _ _ _ ⟨0, 0, 0⟩) (fun k hk => hk.elim) (Nat.le_refl _) (by decide) (by decide) (Below.refl 0 _) (Nat.zero_le _) ?_; intro v1 w1 hR1 hB1 hg1 hb1; obtain ⟨A, c, rfl, hc, hC⟩ := Kd.R_reads hR1; have HR1 := Aside0.mk hR1; have HG1 := Aside0.mk hg1; clear hC hb1 hg1 hR1) | fail)
  go_ret
  have hbw : Below w.heap.size w w1 := ⟨HG1.out.os, HG1.out.tape, HG1.out.output, HG1.out.size, fun i hi => HG1.out.block i hi (by simp)⟩
  have hb1 : Below w.heap.size w (w1.alloc (.map #[] 0)) := below_alloc hbw _
  have hsz := HG1.out.size
  refine ⟨w1.heap.size + 1, rfl, ⟨.slice A 2 c, w1.heap.size, ?_, ?_, ?_, ?_, ?_⟩, below_alloc hb1 _⟩
  · simpa using blk_new (w1.alloc (.map #[] 0)) (.cells #[.int .i64 vars, .slice A 2 c, .map (some w1.heap.size)] 127)
  · exact ⟨by omega, by simp⟩
  · exact ⟨by omega, by simp; omega⟩
  · have := Kd.R_alloc (Kd.R_alloc HR1.out (.map #[] 0)) (.cells #[.int .i64 vars, .slice A 2 c, .map (some w1.heap.size)] 127)
    exact Kd.R_mono (Kd.R_bound this) (fun k hk => ⟨hk.1, hk.2.2.1⟩)
  · exact (MapIs.made encN (Value.int .i64) w1).move (Below.heap_alloc _ _ _ (by simp))

/-! ### build's closure 'grow' -/
def growP (n : Int) (f : Int → Bool) : Nat → Int → TB → Int × TB
  | 0, p, T => (if f p then 1 else 0, T)
  | k + 1, p, T => nodeP (growP n f k (2 * p + 1) (growP n f k (2 * p) T).2).2 ⟨n - ((k : Int) + 1), (growP n f k (2 * p) T).1, (growP n f k (2 * p + 1) (growP n f k (2 * p) T).2).1⟩
theorem growP_len (n : Int) (f : Int → Bool) : ∀ (k : Nat) (p : Int) (T : TB), (growP n f k p T).2.ns.length + 1 ≤ T.ns.length + 2 ^ k
  | 0, p, T => by simp [growP]
  | k + 1, p, T => by
    unfold growP
    have h1 := growP_len n f k (2 * p) T
    have h2 := growP_len n f k (2 * p + 1) (growP n f k (2 * p) T).2
    have h3 := nodeP_len (growP n f k (2 * p + 1) (growP n f k (2 * p) T).2).2 ⟨n - ((k : Int) + 1), (growP n f k (2 * p) T).1, (growP n f k (2 * p + 1) (growP n f k (2 * p) T).2).1⟩
    rw [Nat.pow_succ]
    omega
def fnG (gn gf gg gt : Nat) : Value := .func (.func 127) #[] #[.pointer (some ⟨gn, 0, none⟩), .pointer (some ⟨gf, 0, none⟩), .pointer (some ⟨gg, 0, none⟩), .pointer (some ⟨gt, 0, none⟩)]
/-- What 'f' does, in every world in which all but S is as in w. -/
def CB (w : World) (S : Nat → Prop) (fid : FuncId) (caps : Array Value) (N : Int) (f : Int → Bool) : Prop :=
  ∀ W, Fr S w W → ∀ p, 0 ≤ p → p < N → Calls Try.prog fid (#[.int .i64 p] ++ caps) W fun e W' => e = .returned (.bool (f p)) ∧ Below W.heap.size W W'
/-- The closure's variables; S: the table's own blocks. -/
def Bg (w : World) (S : Nat → Prop) (gn gf gg gt t : Nat) (n : Int) (fid : FuncId) (caps : Array Value) (T : TB) : Prop :=
  w.heap[gn]? = some (.cells #[.int .i64 n] 3 (0, 0)) ∧ w.heap[gf]? = some (.cells #[.func (.func fid) #[] caps] 99 (0, 0)) ∧ w.heap[gg]? = some (.cells #[fnG gn gf gg gt] 118 (0, 0)) ∧ w.heap[gt]? = some (.cells #[.pointer (some ⟨t, 0, none⟩)] 109 (0, 0)) ∧
    ¬ S gn ∧ ¬ S gf ∧ ¬ S gg ∧ ¬ S gt ∧ Tab w S t T
def BPost (w : World) (S : Nat → Prop) (gn gf gg gt t : Nat) (n : Int) (fid : FuncId) (caps : Array Value) (r : Int) (T : TB) (e : Ending) (w' : World) : Prop :=
  e = .returned (.int .i64 r) ∧ Bg w' (fun k => (S k ∨ w.heap.size ≤ k) ∧ k < w'.heap.size) gn gf gg gt t n fid caps T ∧ Fr S w w'
theorem CB.next {w w1 : World} {S S2 : Nat → Prop} {fid : FuncId} {caps : Array Value} {N : Int} {f : Int → Bool} (h : CB w S fid caps N f) (hf : Fr S w w1) (hs : ∀ k, S2 k → S k ∨ w.heap.size ≤ k) : CB w1 S2 fid caps N f := fun W hW => h W (hf.then_ hW hs)

theorem Bg.finish {w w5 : World} {S S5 : Nat → Prop} {gn gf gg gt t : Nat} {n : Int} {fid : FuncId} {caps : Array Value} {T T' : TB} (h : Bg w S gn gf gg gt t n fid caps T) (hF : Fr S w w5) (hT : Tab w5 S5 t T') (hs : ∀ k, S5 k → S k ∨ w.heap.size ≤ k) : Bg w5 (fun k => (S k ∨ w.heap.size ≤ k) ∧ k < w5.heap.size) gn gf gg gt t n fid caps T' := by
  obtain ⟨h1, h2, h3, h4, h5, h6, h7, h8, _⟩ := h
  refine ⟨(hF.block _ (blk_lt h1) h5).trans h1, (hF.block _ (blk_lt h2) h6).trans h2, (hF.block _ (blk_lt h3) h7).trans h3, (hF.block _ (blk_lt h4) h8).trans h4, ?_, ?_, ?_, ?_, hT.bound.mono (fun k hk => ⟨hs k hk.1, hk.2⟩)⟩
  · exact fun h => h.1.elim h5 (fun h => by have := blk_lt h1; omega)
  · exact fun h => h.1.elim h6 (fun h => by have := blk_lt h2; omega)
  · exact fun h => h.1.elim h7 (fun h => by have := blk_lt h3; omega)
  · exact fun h => h.1.elim h8 (fun h => by have := blk_lt h4; omega)

def tb_build1_6.T : Bool × List (List Nat × List Nat) := (true, [([], []), ([], []), ([], []), ([], []), ([], []), ([4], [4]), ([], []), ([6], [6]), ([7], [7]), ([3, 5, 8], [3, 5, 8]), ([1, 2, 9], [1, 2, 9]), ([0, 10, 9], [0, 10]), ([11, 11, 0, 1, 2, 3, 4, 5, 6, 7, 8, 9, 10, 11], [11])])
def tb_build1_6.B : List Nat := [0, 0, 0, 0, 0, 16, 0, 64, 192, 504, 1022, 2047, 4095]
theorem tb_build1_6.tab : rtab .any (opsOf Try.f127 6) = tb_build1_6.T := by kernel_rfl
theorem tb_build1_6.bits : waitsOk tb_build1_6.T.2 tb_build1_6.B = true := by kernel_rfl
section
variable {fid : FuncId} {fn : Func} (hfn : Try.prog.funcs[fid]? = some fn) (hname : (fn.name == "runtime.NumGoroutine") = false) (hbody : fn.body.isSome = true)
include hfn hname hbody
set_option maxRecDepth 100000 in
set_option maxHeartbeats 4000000 in
theorem build1_leaf {S : Nat → Prop} (gn gf gg gt t : Nat) (n : Int) (caps : Array Value) (N : Int) (f : Int → Bool) (T : TB) (p : Int) (w : World) (hB : Bg w S gn gf gg gt t n fid caps T) (hC : CB w S fid caps N f) (hp0 : 0 ≤ p) (hpN : p < N) :
    Calls Try.prog 127 #[.int .i64 n, .int .i64 p, .pointer (some ⟨gn, 0, none⟩), .pointer (some ⟨gf, 0, none⟩), .pointer (some ⟨gg, 0, none⟩), .pointer (some ⟨gt, 0, none⟩)] w (BPost w S gn gf gg gt t n fid caps (if f p then 1 else 0) T) := by
  have HB := Aside0.mk hB
  obtain ⟨h1, h2, h3, h4, h5, h6, h7, h8, hT⟩ := hB
  have c1 := (blk_cell h1 0).trans rfl
  have c2 := (blk_cell h2 0).trans rfl
  have HC := Aside0.mk (hC w (Fr.refl S w) p hp0 hpN)
  clear h1 h2 h3 h4 h5 h6 h7 h8 hT hC
  have fin : Aside0 (∀ w', Below w.heap.size w w' → Bg w' (fun k => (S k ∨ w.heap.size ≤ k) ∧ k < w'.heap.size) gn gf gg gt t n fid caps T) := ⟨fun w' hb => by
    obtain ⟨h1, h2, h3, h4, h5, h6, h7, h8, hT⟩ := HB.out
    refine ⟨blk_below h1 hb, blk_below h2 hb, blk_below h3 hb, blk_below h4 hb, ?_, ?_, ?_, ?_, (hT.bound.below hb).mono (fun k hk => ⟨.inl hk.1, Nat.lt_of_lt_of_le hk.2 hb.size⟩)⟩
    · exact fun h => h.1.elim h5 (fun h => by have := blk_lt h1; omega)
    · exact fun h => h.1.elim h6 (fun h => by have := blk_lt h2; omega)
    · exact fun h => h.1.elim h7 (fun h => by have := blk_lt h3; omega)
    · exact fun h => h.1.elim h8 (fun h => by have := blk_lt h4; omega)⟩
  cases hf : f p
  all_goals
    have HF := Aside0.mk hf
    clear hf
    go_enter Try.func127, Try.ntmps127
    go_wp2_with (first | (refine goesVL_ _ rfl rfl hfn hname hbody _ rfl rfl (by simp only [List.map_toArray, List.map_cons, List.map_nil]; rfl) ?_; refine HC.out.mono ?_; rw [HF.out]; rintro e w1 ⟨rfl, hb1⟩; refine ⟨_, rfl, ?_⟩; replace hb1 := Aside0.mk hb1) | fail)
    go_ret
    exact ⟨by rfl, fin.out _ hb1.out, Fr.of_below hb1.out⟩

end

set_option maxRecDepth 100000 in
set_option maxHeartbeats 4000000 in
theorem build1_inner {S : Nat → Prop} {fid : FuncId} (gn gf gg gt t : Nat) (n : Int) (caps : Array Value) (T T1 T2 : TB) (v p r1 r2 : Int) (w : World) (hB : Bg w S gn gf gg gt t n fid caps T) (hv : v < n) (hv0 : 0 ≤ v) (hn : n ≤ 1000) (hp0 : 0 ≤ p) (hp1 : p < 1000000000000) (hlen : T2.ns.length < 1000000000000)
    (C1 : Calls Try.prog 127 #[.int .i64 (v + 1), .int .i64 (2 * p), .pointer (some ⟨gn, 0, none⟩), .pointer (some ⟨gf, 0, none⟩), .pointer (some ⟨gg, 0, none⟩), .pointer (some ⟨gt, 0, none⟩)] w (BPost w S gn gf gg gt t n fid caps r1 T1))
    (C2 : ∀ (S1 : Nat → Prop) (W1 : World), Bg W1 S1 gn gf gg gt t n fid caps T1 → Fr S w W1 → (∀ k, S1 k → S k ∨ w.heap.size ≤ k) → Calls Try.prog 127 #[.int .i64 (v + 1), .int .i64 (2 * p + 1), .pointer (some ⟨gn, 0, none⟩), .pointer (some ⟨gf, 0, none⟩), .pointer (some ⟨gg, 0, none⟩), .pointer (some ⟨gt, 0, none⟩)] W1 (BPost W1 S1 gn gf gg gt t n fid caps r2 T2)) :
    Calls Try.prog 127 #[.int .i64 v, .int .i64 p, .pointer (some ⟨gn, 0, none⟩), .pointer (some ⟨gf, 0, none⟩), .pointer (some ⟨gg, 0, none⟩), .pointer (some ⟨gt, 0, none⟩)] w
      (BPost w S gn gf gg gt t n fid caps (nodeP T2 ⟨v, r1, r2⟩).1 (nodeP T2 ⟨v, r1, r2⟩).2) := by
  have HB := Aside0.mk hB
  obtain ⟨h1, h2, h3, h4, h5, h6, h7, h8, hT⟩ := hB
  have c1 := (blk_cell h1 0).trans rfl
  have c3 : w.cell? ⟨gg, 0, none⟩ = some (.func (.func 127) #[] #[.pointer (some ⟨gn, 0, none⟩), .pointer (some ⟨gf, 0, none⟩), .pointer (some ⟨gg, 0, none⟩), .pointer (some ⟨gt, 0, none⟩)]) := (blk_cell h3 0).trans rfl
  have hb : (v == n) = false := by simp; omega
  have HC1 := Aside0.mk C1
  have HC2 := Aside0.mk C2
  clear h1 h2 h3 h4 h5 h6 h7 h8 hT C1 C2
  go_enter Try.func127, Try.ntmps127
  go_wp2_with fail
  refine HC1.out.mono ?_
  intro e w3 hp
  obtain ⟨rfl, hB3, hF3⟩ := hp
  have hS3 : ∀ k, ((S k ∨ w.heap.size ≤ k) ∧ k < w3.heap.size) → S k ∨ w.heap.size ≤ k := fun k h => h.1
  have HC3 := Aside0.mk (HC2.out _ w3.drew (show Bg w3.drew _ gn gf gg gt t n fid caps T1 from ⟨hB3.1, hB3.2.1, hB3.2.2.1, hB3.2.2.2.1, hB3.2.2.2.2.1, hB3.2.2.2.2.2.1, hB3.2.2.2.2.2.2.1, hB3.2.2.2.2.2.2.2.1, hB3.2.2.2.2.2.2.2.2.move (fun _ _ _ => rfl)⟩) ⟨hF3.os, hF3.tape, hF3.output, hF3.size, hF3.block⟩ hS3)
  have d3 : w3.cell? ⟨gg, 0, none⟩ = some (.func (.func 127) #[] #[.pointer (some ⟨gn, 0, none⟩), .pointer (some ⟨gf, 0, none⟩), .pointer (some ⟨gg, 0, none⟩), .pointer (some ⟨gt, 0, none⟩)]) := (blk_cell hB3.2.2.1 0).trans rfl
  have d4 : w3.cell? ⟨gt, 0, none⟩ = some (.pointer (some ⟨t, 0, none⟩)) := (blk_cell hB3.2.2.2.1 0).trans rfl
  have HF3 := Aside0.mk hF3
  have E1 : Aside0 (wrap64 (v + 1) = v + 1) := ⟨by unfold wrap64; omega⟩
  have E2 : Aside0 (wrap64 (2 * p) = 2 * p) := ⟨by unfold wrap64; omega⟩
  have E3 : Aside0 (wrap64 (2 * p + 1) = 2 * p + 1) := ⟨by unfold wrap64; omega⟩
  clear hB3 hF3 HC2 hS3
  go_wp2
  refine start_ (n := 13) (S := fun w' => (w'.cell? ⟨gg, 0, none⟩ = some (.func (.func 127) #[] #[.pointer (some ⟨gn, 0, none⟩), .pointer (some ⟨gf, 0, none⟩), .pointer (some ⟨gg, 0, none⟩), .pointer (some ⟨gt, 0, none⟩)])) ∧ (w'.cell? ⟨gt, 0, none⟩ = some (.pointer (some ⟨t, 0, none⟩)))) (ds := [11]) #[false, false, false, false, false, false, false, false, false, false, false, false, false] (by kernel_rfl) rfl rfl ⟨d3, d4⟩ (fun hHeld => ?_)
  refine with_tabW tb_build1_6.tab tb_build1_6.bits (fun HT_ HW_ => ?_)
  refine take_ (i := 0) (N := some 22) (v := ?_) (a' := ?_) #[true, false, false, false, false, false, false, false, false, false, false, false, false] rfl rfl (take_ofW HT_.out HW_.out (by kernel_rfl)) (fun _ _ _ h => h) (Or.inl ⟨by rfl, ?_⟩) hHeld ?_ ?_
  rotate_left
  · rintro w' ⟨s0, s1⟩
    go_simp
    with_reducible rfl
  rotate_left
  · simp only [Act.put, List.setIfInBounds_toArray, List.set_cons_zero, List.set_cons_succ, i64_w, i32_w]
    rfl
  refine pure_ (i := 1) (N := some 23) (v := ?_) (a' := ?_) #[true, true, false, false, false, false, false, false, false, false, false, false, false] rfl rfl (any_of HT_.out (by kernel_rfl)) (fun _ _ _ h => h) (Or.inl ⟨by rfl, ?_⟩) ?_ ?_
  rotate_left
  · intro w'
    go_simp
    with_reducible rfl
  rotate_left
  · simp only [Act.put, List.setIfInBounds_toArray, List.set_cons_zero, List.set_cons_succ, i64_w, i32_w]
    rfl
  refine pure_ (i := 2) (N := some 24) (v := ?_) (a' := ?_) #[true, true, true, false, false, false, false, false, false, false, false, false, false] rfl rfl (any_of HT_.out (by kernel_rfl)) (fun _ _ _ h => h) (Or.inl ⟨by rfl, ?_⟩) ?_ ?_
  rotate_left
  · intro w'
    go_simp
    with_reducible rfl
  rotate_left
  · simp only [Act.put, List.setIfInBounds_toArray, List.set_cons_zero, List.set_cons_succ, i64_w, i32_w]
    rfl
  refine take_ (i := 3) (N := some 25) (v := ?_) (a' := ?_) #[true, true, true, true, false, false, false, false, false, false, false, false, false] rfl rfl (take_ofW HT_.out HW_.out (by kernel_rfl)) (fun _ _ _ h => h) (Or.inl ⟨by rfl, ?_⟩) hHeld ?_ ?_
  rotate_left
  · rintro w' ⟨s0, s1⟩
    go_simp
    with_reducible rfl
  rotate_left
  · simp only [Act.put, List.setIfInBounds_toArray, List.set_cons_zero, List.set_cons_succ, i64_w, i32_w]
    rfl
  refine pure_ (i := 4) (N := some 26) (v := ?_) (a' := ?_) #[true, true, true, true, true, false, false, false, false, false, false, false, false] rfl rfl (any_of HT_.out (by kernel_rfl)) (fun _ _ _ h => h) (Or.inl ⟨by rfl, ?_⟩) ?_ ?_
  rotate_left
  · intro w'
    go_simp
    with_reducible rfl
  rotate_left
  · simp only [Act.put, List.setIfInBounds_toArray, List.set_cons_zero, List.set_cons_succ, i64_w, i32_w]
    rfl
  refine pure_ (i := 5) (N := some 27) (v := ?_) (a' := ?_) #[true, true, true, true, true, true, false, false, false, false, false, false, false] rfl rfl (any_of HT_.out (by kernel_rfl)) (fun _ _ _ h => h) (Or.inl ⟨by rfl, ?_⟩) ?_ ?_
  rotate_left
  · intro w'
    go_simp
    with_reducible rfl
  rotate_left
  · simp only [Act.put, List.setIfInBounds_toArray, List.set_cons_zero, List.set_cons_succ, i64_w, i32_w]
    rfl
  refine pure_ (i := 6) (N := some 28) (v := ?_) (a' := ?_) #[true, true, true, true, true, true, true, false, false, false, false, false, false] rfl rfl (any_of HT_.out (by kernel_rfl)) (fun _ _ _ h => h) (Or.inl ⟨by rfl, ?_⟩) ?_ ?_
  rotate_left
  · intro w'
    go_simp
    with_reducible rfl
  rotate_left
  · simp only [Act.put, List.setIfInBounds_toArray, List.set_cons_zero, List.set_cons_succ, i64_w, i32_w]
    rfl
  refine pure_ (i := 7) (N := some 29) (v := ?_) (a' := ?_) #[true, true, true, true, true, true, true, true, false, false, false, false, false] rfl rfl (any_of HT_.out (by kernel_rfl)) (fun _ _ _ h => h) (Or.inl ⟨by rfl, ?_⟩) ?_ ?_
  rotate_left
  · intro w'
    go_simp
    with_reducible rfl
  rotate_left
  · simp only [Act.put, List.setIfInBounds_toArray, List.set_cons_zero, List.set_cons_succ, i64_w, i32_w]
    rfl
  refine pure_ (i := 8) (N := some 30) (v := ?_) (a' := ?_) #[true, true, true, true, true, true, true, true, true, false, false, false, false] rfl rfl (any_of HT_.out (by kernel_rfl)) (fun _ _ _ h => h) (Or.inl ⟨by rfl, ?_⟩) ?_ ?_
  rotate_left
  · intro w'
    go_simp
    with_reducible rfl
  rotate_left
  · simp only [Act.put, List.setIfInBounds_toArray, List.set_cons_zero, List.set_cons_succ, i64_w, i32_w]
    rfl
  refine one_ (i := 9) (N := some 31) #[true, true, true, true, true, true, true, true, true, true, false, false, false] rfl rfl (one_of HT_.out (by kernel_rfl)) (by decide) (fun K hK => ?_)
  refine goesV_ Try.func127 (by kernel_rfl) rfl #[.int .i64 (v + 1), .int .i64 (2 * p + 1), .pointer (some ⟨gn, 0, none⟩), .pointer (some ⟨gf, 0, none⟩), .pointer (some ⟨gg, 0, none⟩), .pointer (some ⟨gt, 0, none⟩)] (by rfl) rfl rfl rfl (by simp only [List.map_toArray, List.map_cons, List.map_nil, E1.out, E2.out, E3.out]; rfl) ?_
  refine HC3.out.mono ?_
  intro e w4 hp
  obtain ⟨rfl, hB4, hF4⟩ := hp
  refine ⟨_, rfl, ?_⟩
  have HB4 := Aside0.mk hB4
  have HF4 := Aside0.mk hF4
  clear hB4 hF4
  refine hK.out _ _ ⟨(blk_cell HB4.out.2.2.1 0).trans rfl, (blk_cell HB4.out.2.2.2.1 0).trans rfl⟩ (fun hHeld => ?_)
  clear hK K
  refine norm_ (a' := ?_) ?_ ?_
  rotate_left
  · show Act.put _ (some 31) _ = _
    (try simp only [Act.put, List.setIfInBounds_toArray, List.set_cons_zero, List.set_cons_succ, i64_w, i32_w])
    rfl
  refine pure_ (i := 10) (N := some 32) (v := ?_) (a' := ?_) #[true, true, true, true, true, true, true, true, true, true, true, false, false] rfl rfl (any_of HT_.out (by kernel_rfl)) (fun _ _ _ h => h) (Or.inl ⟨by rfl, ?_⟩) ?_ ?_
  rotate_left
  · intro w'
    go_simp
    with_reducible rfl
  rotate_left
  · simp only [Act.put, List.setIfInBounds_toArray, List.set_cons_zero, List.set_cons_succ, i64_w, i32_w]
    rfl
  refine last_ (i := 11) (N := some 33) #[true, true, true, true, true, true, true, true, true, true, true, true, false] rfl rfl (one_of HT_.out (by kernel_rfl)) (by decide) (fun K hK => ?_)
  refine goes_ Try.func105 (by kernel_rfl) rfl #[.pointer (some ⟨t, 0, none⟩), encN ⟨v, r1, r2⟩] (by rfl) rfl rfl (by simp only [List.map_toArray, List.map_cons, List.map_nil]; rfl) ?_
  refine (node_calls t T2 ⟨v, r1, r2⟩ _ HB4.out.2.2.2.2.2.2.2.2 hlen).mono ?_
  intro e w5 hp
  obtain ⟨rfl, hT5, hF5⟩ := hp
  refine ⟨_, rfl, ?_⟩
  have HT5 := Aside0.mk hT5
  have HF5 := Aside0.mk hF5
  clear hT5 hF5
  refine hK.out _ _ ?_
  clear hK K
  refine norm_ (a' := ?_) ?_ ?_
  rotate_left
  · show Act.put _ (some 33) _ = _
    (try simp only [Act.put, List.setIfInBounds_toArray, List.set_cons_zero, List.set_cons_succ, i64_w, i32_w])
    rfl
  refine pure_ (i := 12) (N := some 8) (v := ?_) (a' := ?_) #[true, true, true, true, true, true, true, true, true, true, true, true, true] rfl rfl (any_of HT_.out (by kernel_rfl)) (fun _ _ _ h => h) (Or.inl ⟨by rfl, ?_⟩) ?_ ?_
  rotate_left
  · intro w'
    go_simp
    with_reducible rfl
  rotate_left
  · simp only [Act.put, List.setIfInBounds_toArray, List.set_cons_zero, List.set_cons_succ, i64_w, i32_w]
    rfl
  refine done_ (done_of HT_.out (by kernel_rfl)) ?_
  go_wp2
  go_ret
  have hF4 : Fr S w _ := (HF3.out.then_ (S2 := fun k => (S k ∨ w.heap.size ≤ k) ∧ k < w3.heap.size) (Fr.undrew HF4.out) (fun i h => h.1))
  have hF5 : Fr S w _ := hF4.then_ HF5.out (fun i h => h.1.elim (fun h => h.1) (fun h => .inr (Nat.le_trans HF3.out.size h)))
  refine ⟨rfl, HB.out.finish hF5 HT5.out (fun k h => h.elim (fun h => h.1.elim (fun h => h.1) (fun h => .inr (Nat.le_trans HF3.out.size h))) (fun h => .inr (Nat.le_trans hF4.size h))), hF5⟩

section
variable {fid : FuncId} {fn : Func} (hfn : Try.prog.funcs[fid]? = some fn) (hname : (fn.name == "runtime.NumGoroutine") = false) (hbody : fn.body.isSome = true)
include hfn hname hbody
omit hfn hname hbody in
theorem two_pow_one (k : Nat) : (1 : Int) ≤ 2 ^ k := by
  induction k with
  | zero => decide
  | succ k ih => rw [Int.pow_succ]; omega
set_option maxRecDepth 100000 in
theorem build1_calls (gn gf gg gt t : Nat) (n : Int) (caps : Array Value) (f : Int → Bool) (hn : n ≤ 1000) : ∀ (k : Nat) (S : Nat → Prop) (T : TB) (v p : Int) (w : World), Bg w S gn gf gg gt t n fid caps T → CB w S fid caps (2 ^ (n.toNat)) f → v + k = n → 0 ≤ v → 0 ≤ p → (p + 1) * 2 ^ k ≤ 2 ^ (n.toNat) → (2 : Int) ^ (n.toNat) < 1000000000 → T.ns.length + 2 ^ k < 1000000000000 →
    Calls Try.prog 127 #[.int .i64 v, .int .i64 p, .pointer (some ⟨gn, 0, none⟩), .pointer (some ⟨gf, 0, none⟩), .pointer (some ⟨gg, 0, none⟩), .pointer (some ⟨gt, 0, none⟩)] w (BPost w S gn gf gg gt t n fid caps (growP n f k p T).1 (growP n f k p T).2)
  | 0, S, T, v, p, w, hB, hC, hv, hv0, hp0, hpk, hN, hlen => by
    obtain rfl : v = n := by omega
    exact build1_leaf hfn hname hbody gn gf gg gt t v caps (2 ^ (v.toNat)) f T p w hB hC hp0 (by simp at hpk; omega)
  | k + 1, S, T, v, p, w, hB, hC, hv, hv0, hp0, hpk, hN, hlen => by
    have IH := build1_calls gn gf gg gt t n caps f hn k
    have hk2 : (2 : Int) ^ (k + 1) = 2 * 2 ^ k := by rw [Int.pow_succ]; omega
    have hk3 : (1 : Int) ≤ 2 ^ k := two_pow_one _
    have hn2 : 2 ^ (k + 1) = 2 * 2 ^ k := by rw [Nat.pow_succ]; omega
    have hple : p + 1 ≤ (p + 1) * 2 ^ (k + 1) := by
      have : (1 : Int) ≤ 2 ^ (k + 1) := two_pow_one _
      have := Int.mul_le_mul_of_nonneg_left this (show 0 ≤ p + 1 by omega)
      omega
    have l1 := growP_len n f k (2 * p) T
    have l2 := growP_len n f k (2 * p + 1) (growP n f k (2 * p) T).2
    have e1 : (2 * p + 1) * 2 ^ k ≤ 2 ^ n.toNat := by
      have : (p + 1) * 2 ^ (k + 1) = (2 * p + 1) * 2 ^ k + 2 ^ k := by rw [hk2, Int.add_mul, Int.add_mul, ← Int.mul_assoc, Int.mul_comm p 2]; omega
      omega
    have e2 : (2 * p + 1 + 1) * 2 ^ k ≤ 2 ^ n.toNat := by
      have : (p + 1) * 2 ^ (k + 1) = (2 * p + 1 + 1) * 2 ^ k := by
        rw [hk2, ← Int.mul_assoc]
        congr 1
        omega
      omega
    unfold growP
    have hvn : n - ((k : Int) + 1) = v := by omega
    rw [hvn]
    refine build1_inner gn gf gg gt t n caps T (growP n f k (2 * p) T).2 (growP n f k (2 * p + 1) (growP n f k (2 * p) T).2).2 v p (growP n f k (2 * p) T).1 (growP n f k (2 * p + 1) (growP n f k (2 * p) T).2).1 w hB (by omega) hv0 hn hp0 (by omega) (by omega) ?_ ?_
    · exact IH S T (v + 1) (2 * p) w hB hC (by omega) (by omega) (by omega) e1 hN (by omega)
    · intro S1 W1 hB1 hF1 hs1
      exact IH S1 _ (v + 1) (2 * p + 1) W1 hB1 (hC.next hF1 hs1) (by omega) (by omega) (by omega) e2 hN (by omega)
end
end Go.Proofs.Ytlplphgoldkoeaa.HTab

end

section
/- build: the mask of a function on points. -/
namespace Go.Proofs.Ytlplphgoldkoeaa.HTab
open Go.RowKit Go.Proofs.YtlplphgoldkoeaaW.PrintWords Go.Proofs.YtlplphgoldkoeaaW.PrintLast Go.Proofs.YtlplphgoldkoeaaW.PrintMore Go.Proofs.Ytlplphgoldkoeaa.HMap Go.Proofs.Ytlplphgoldkoeaa.X
open Go.ChangeMaps (setBlock)
set_option linter.unusedVariables false
set_option linter.unusedSimpArgs false

/-- What 'build' makes of a function. -/
def T0 (n : Int) : TB := ⟨n, [⟨0, 0, 0⟩, ⟨0, 0, 0⟩], []⟩
def M0 : MS := ⟨[(0, 0), (1, 1)], []⟩
def buildP (n : Int) (f : Int → Bool) : Option (List S107 × Int) :=
  (maskP (growP n f n.toNat 0 (T0 n)).2 64 M0 (growP n f n.toNat 0 (T0 n)).1).map fun p => (p.2.out, p.1)
theorem nodeP_vars (T : TB) (n : S107) : (nodeP T n).2.vars = T.vars := by
  unfold nodeP
  split
  · rfl
  · split <;> rfl
theorem growP_vars (n : Int) (f : Int → Bool) : ∀ (k : Nat) (p : Int) (T : TB), (growP n f k p T).2.vars = T.vars
  | 0, p, T => by simp [growP]
  | k + 1, p, T => by
    unfold growP
    rw [nodeP_vars, growP_vars n f k, growP_vars n f k]
def tb_build_4.T : Bool × List (List Nat × List Nat) := (true, [([], []), ([], []), ([1], [1]), ([0, 2, 2], [0, 2]), ([3, 3, 0, 1, 2, 3], [3])])
def tb_build_4.B : List Nat := [0, 0, 2, 7, 15]
theorem tb_build_4.tab : rtab .any (opsOf Try.f84 4) = tb_build_4.T := by kernel_rfl
theorem tb_build_4.bits : waitsOk tb_build_4.T.2 tb_build_4.B = true := by kernel_rfl
section
variable {fid : FuncId} {fn : Func} (hfn : Try.prog.funcs[fid]? = some fn) (hname : (fn.name == "runtime.NumGoroutine") = false) (hbody : fn.body.isSome = true)
include hfn hname hbody
set_option maxRecDepth 100000 in
set_option maxHeartbeats 4000000 in
theorem build_calls (n : Int) (caps : Array Value) (f : Int → Bool) (out : List S107) (r : Int) (w : World) (hn0 : 0 ≤ n) (hn : n ≤ 12) (hC : CB w (fun _ => False) fid caps (2 ^ n.toNat) f) (hlen : out.length < 1000000000000) (h : buildP n f = some (out, r)) :
    Calls Try.prog 84 #[.int .i64 n, .func (.func fid) #[] caps] w fun e w' => ∃ v : Value, e = .returned (.agg #[.int .i64 n, v, .int .i64 r]) ∧ k107.R 107 w' w.heap.size (fun _ => True) v out ∧ Below w.heap.size w w' := by
  obtain ⟨⟨r', s'⟩, hm, he⟩ := Option.map_eq_some_iff.1 h
  simp only [Prod.mk.injEq] at he
  obtain ⟨rfl, rfl⟩ := he
  have HC := Aside0.mk hC
  have HM := Aside0.mk hm
  obtain ⟨W3, hW3⟩ : ∃ W, W = ((w.alloc (.cells #[.int .i64 n] 3)).alloc (.cells #[.func (.func fid) #[] caps] 99)).alloc (.cells #[.int .i64 0, .slice none 0 0, .int .i64 0] 28) := ⟨_, rfl⟩
  have hB3 : Below w.heap.size w W3 := by rw [hW3]; exact below_alloc (below_alloc (below_alloc (Below.refl _ _) _) _) _
  have hs3 : W3.heap.size = w.heap.size + 3 := by rw [hW3]; simp
  have k0 : W3.heap[w.heap.size]? = some (.cells #[.int .i64 n] 3 (0, 0)) := by rw [hW3]; exact blk_alloc (blk_alloc (blk_new _ _) _) _
  have k1 : W3.heap[w.heap.size + 1]? = some (.cells #[.func (.func fid) #[] caps] 99 (0, 0)) := by
    rw [hW3]; refine blk_alloc ?_ _
    simpa using blk_new (w.alloc (.cells #[.int .i64 n] 3)) (.cells #[.func (.func fid) #[] caps] 99)
  have k2 : W3.heap[w.heap.size + 2]? = some (.cells #[.int .i64 0, .slice none 0 0, .int .i64 0] 28 (0, 0)) := by
    rw [hW3]
    simpa using blk_new ((w.alloc (.cells #[.int .i64 n] 3)).alloc (.cells #[.func (.func fid) #[] caps] 99)) (.cells #[.int .i64 0, .slice none 0 0, .int .i64 0] 28)
  have HB3 := Aside0.mk hB3
  have HS3 := Aside0.mk hs3
  have K0 := Aside0.mk k0
  have K1 := Aside0.mk k1
  have K2 := Aside0.mk k2
  clear hC hm h hB3 hs3 k0 k1 k2
  go_enter Try.func84, Try.ntmps84
  go_wp2_with fail
  rw [← hW3]
  clear hW3
  refine (newTable_calls n W3).mono ?_
  rintro e w4 ⟨g, rfl, hT4, hB4⟩
  have HT4 := Aside0.mk hT4
  have HB4 := Aside0.mk hB4
  clear hT4 hB4
  go_wp2
  have hsz4 : W3.heap.size ≤ w4.heap.size := HB4.out.size
  have hs3 := HS3.out
  obtain ⟨W6, hW6⟩ : ∃ W, W = (w4.alloc (.cells #[.pointer (some ⟨g, 0, none⟩)] 109)).alloc (.cells #[.func (.func 127) #[] #[.pointer (some ⟨w.heap.size, 0, none⟩), .pointer (some ⟨w.heap.size + 1, 0, none⟩), .pointer (some ⟨w4.heap.size + 1, 0, none⟩), .pointer (some ⟨w4.heap.size, 0, none⟩)]] 118) := ⟨_, rfl⟩
  have hB6 : Below w4.heap.size w4 W6 := by rw [hW6]; exact below_alloc (below_alloc (Below.refl _ _) _) _
  have hB36 : Below W3.heap.size W3 W6 := below_then HB4.out hsz4 hB6
  have hBw6 : Below w.heap.size w W6 := below_then HB3.out (by omega) hB36
  have hgg : W6.heap[w4.heap.size + 1]? = some (.cells #[.func (.func 127) #[] #[.pointer (some ⟨w.heap.size, 0, none⟩), .pointer (some ⟨w.heap.size + 1, 0, none⟩), .pointer (some ⟨w4.heap.size + 1, 0, none⟩), .pointer (some ⟨w4.heap.size, 0, none⟩)]] 118 (0, 0)) := by
    rw [hW6]
    simpa using blk_new (w4.alloc (.cells #[.pointer (some ⟨g, 0, none⟩)] 109)) (.cells #[.func (.func 127) #[] #[.pointer (some ⟨w.heap.size, 0, none⟩), .pointer (some ⟨w.heap.size + 1, 0, none⟩), .pointer (some ⟨w4.heap.size + 1, 0, none⟩), .pointer (some ⟨w4.heap.size, 0, none⟩)]] 118)
  have hgt : W6.heap[w4.heap.size]? = some (.cells #[.pointer (some ⟨g, 0, none⟩)] 109 (0, 0)) := by rw [hW6]; exact blk_alloc (blk_new _ _) _
  have hg : Bg W6 (fun k => W3.heap.size ≤ k ∧ k < w4.heap.size) w.heap.size (w.heap.size + 1) (w4.heap.size + 1) w4.heap.size g n fid caps (T0 n) :=
    ⟨blk_below K0.out hB36, blk_below K1.out hB36, hgg, hgt, by omega, by omega, by omega, by omega, HT4.out.below hB6⟩
  have hCB : CB W6 (fun k => W3.heap.size ≤ k ∧ k < w4.heap.size) fid caps (2 ^ n.toNat) f := HC.out.next (Fr.of_below hBw6) (fun k hk => .inr (by omega))
  have K2' : W6.heap[w.heap.size + 2]? = _ := blk_below K2.out hB36
  have d3 : W6.cell? ⟨w4.heap.size + 1, 0, none⟩ = some (.func (.func 127) #[] #[.pointer (some ⟨w.heap.size, 0, none⟩), .pointer (some ⟨w.heap.size + 1, 0, none⟩), .pointer (some ⟨w4.heap.size + 1, 0, none⟩), .pointer (some ⟨w4.heap.size, 0, none⟩)]) := (blk_cell hgg 0).trans rfl
  have d4 : W6.cell? ⟨w4.heap.size, 0, none⟩ = some (.pointer (some ⟨g, 0, none⟩)) := (blk_cell hgt 0).trans rfl
  rw [← hW6]
  clear hW6 hgg hgt
  have hpow : (2 : Int) ^ n.toNat ≤ 4096 ∧ 2 ^ n.toNat ≤ 4096 := by
    have : n.toNat = 0 ∨ n.toNat = 1 ∨ n.toNat = 2 ∨ n.toNat = 3 ∨ n.toNat = 4 ∨ n.toNat = 5 ∨ n.toNat = 6 ∨ n.toNat = 7 ∨ n.toNat = 8 ∨ n.toNat = 9 ∨ n.toNat = 10 ∨ n.toNat = 11 ∨ n.toNat = 12 := by omega
    rcases this with h | h | h | h | h | h | h | h | h | h | h | h | h <;> rw [h] <;> decide
  have HD := Aside0.mk (build1_calls hfn hname hbody w.heap.size (w.heap.size + 1) (w4.heap.size + 1) w4.heap.size g n caps f (by omega) n.toNat (fun k => W3.heap.size ≤ k ∧ k < w4.heap.size) (T0 n) 0 0 W6.drew (show Bg W6.drew _ _ _ _ _ _ _ _ _ _ from ⟨hg.1, hg.2.1, hg.2.2.1, hg.2.2.2.1, hg.2.2.2.2.1, hg.2.2.2.2.2.1, hg.2.2.2.2.2.2.1, hg.2.2.2.2.2.2.2.1, hg.2.2.2.2.2.2.2.2.move (fun _ _ _ => rfl)⟩) (hCB.next (fr_drewN _ W6 1) (fun k hk => .inl hk)) (by omega) (by omega) (by omega) (by omega) (by omega) (by simp only [T0, List.length_cons, List.length_nil]; omega))
  have K3 := Aside0.mk K2'
  have HBw6 := Aside0.mk hBw6
  have hvars := growP_vars n f n.toNat 0 (T0 n)
  have HVR := Aside0.mk hvars
  have hg3 := Aside0.mk hg.2.2.1
  clear hg hCB K2' hpow hB6 hB36 hBw6 hvars
  refine start_ (n := 5) (S := fun w' => (w'.cell? ⟨w4.heap.size + 1, 0, none⟩ = some (.func (.func 127) #[] #[.pointer (some ⟨w.heap.size, 0, none⟩), .pointer (some ⟨w.heap.size + 1, 0, none⟩), .pointer (some ⟨w4.heap.size + 1, 0, none⟩), .pointer (some ⟨w4.heap.size, 0, none⟩)])) ∧ (w'.cell? ⟨w4.heap.size, 0, none⟩ = some (.pointer (some ⟨g, 0, none⟩)))) (ds := [3, 4]) #[false, false, false, false, false] (by kernel_rfl) rfl rfl ⟨d3, d4⟩ (fun hHeld => ?_)
  refine with_tabW tb_build_4.tab tb_build_4.bits (fun HT_ HW_ => ?_)
  refine take_ (i := 0) (N := some 10) (v := ?_) (a' := ?_) #[true, false, false, false, false] rfl rfl (take_ofW HT_.out HW_.out (by kernel_rfl)) (fun _ _ _ h => h) (Or.inl ⟨by rfl, ?_⟩) hHeld ?_ ?_
  rotate_left
  · rintro w' ⟨s0, s1⟩
    go_simp
    with_reducible rfl
  rotate_left
  · simp only [Act.put, List.setIfInBounds_toArray, List.set_cons_zero, List.set_cons_succ, i64_w, i32_w]
    rfl
  refine take_ (i := 1) (N := some 11) (v := ?_) (a' := ?_) #[true, true, false, false, false] rfl rfl (take_ofW HT_.out HW_.out (by kernel_rfl)) (fun _ _ _ h => h) (Or.inl ⟨by rfl, ?_⟩) hHeld ?_ ?_
  rotate_left
  · rintro w' ⟨s0, s1⟩
    go_simp
    with_reducible rfl
  rotate_left
  · simp only [Act.put, List.setIfInBounds_toArray, List.set_cons_zero, List.set_cons_succ, i64_w, i32_w]
    rfl
  refine one_ (i := 2) (N := some 12) #[true, true, true, false, false] rfl rfl (one_of HT_.out (by kernel_rfl)) (by decide) (fun K hK => ?_)
  refine goesV_ Try.func127 (by kernel_rfl) rfl #[.int .i64 0, .int .i64 0, .pointer (some ⟨w.heap.size, 0, none⟩), .pointer (some ⟨w.heap.size + 1, 0, none⟩), .pointer (some ⟨w4.heap.size + 1, 0, none⟩), .pointer (some ⟨w4.heap.size, 0, none⟩)] (by rfl) rfl rfl rfl (by simp only [List.map_toArray, List.map_cons, List.map_nil]; rfl) ?_
  refine HD.out.mono ?_
  intro e w7 hp
  obtain ⟨rfl, hB7, hF7⟩ := hp
  refine ⟨_, rfl, ?_⟩
  have HB7 := Aside0.mk hB7
  have HF7 := Aside0.mk hF7
  clear hB7 hF7
  refine hK.out _ _ ⟨(blk_cell HB7.out.2.2.1 0).trans rfl, (blk_cell HB7.out.2.2.2.1 0).trans rfl⟩ (fun hHeld => ?_)
  clear hK K
  refine norm_ (a' := ?_) ?_ ?_
  rotate_left
  · show Act.put _ (some 12) _ = _
    (try simp only [Act.put, List.setIfInBounds_toArray, List.set_cons_zero, List.set_cons_succ, i64_w, i32_w])
    rfl
  refine last_ (i := 3) (N := some 13) #[true, true, true, true, false] rfl rfl (one_of HT_.out (by kernel_rfl)) (by decide) (fun K hK => ?_)
  refine goes_ Try.func90 (by kernel_rfl) rfl #[.pointer (some ⟨g, 0, none⟩), .int .i64 (growP n f n.toNat 0 (T0 n)).1] (by rfl) rfl rfl (by simp only [List.map_toArray, List.map_cons, List.map_nil]; rfl) ?_
  refine (tmask_calls g _ 64 s' _ r' _ HB7.out.2.2.2.2.2.2.2.2 hlen HM.out).mono ?_
  rintro e w8 ⟨v8, rfl, hR8, hB8⟩
  obtain ⟨A8, c8, rfl, hc8, hC8⟩ := Kd.R_reads hR8
  rw [show (growP n f n.toNat 0 (T0 n)).2.vars = n from HVR.out]
  refine ⟨.agg #[.int .i64 n, .slice A8 s'.out.length c8, .int .i64 r'], rfl, ?_⟩
  have hF7' : Below w.heap.size w w7 := ⟨HF7.out.os.trans HBw6.out.os, HF7.out.tape.trans HBw6.out.tape, HF7.out.output.trans HBw6.out.output, Nat.le_trans HBw6.out.size HF7.out.size, fun i hi => (HF7.out.block i (Nat.lt_of_lt_of_le hi HBw6.out.size) (by omega)).trans (HBw6.out.block i hi)⟩
  have k7 : w7.heap[w.heap.size + 2]? = _ := (HF7.out.block _ (blk_lt K3.out) (by omega)).trans K3.out
  have k8 := blk_below k7 hB8
  have q0 := (blk_cell k8 0).trans rfl
  have q1 := (blk_cell k8 1).trans rfl
  have q2 := (blk_cell k8 2).trans rfl
  have fq0 := blk_frozen k8 0
  have fq1 := blk_frozen k8 1
  have fq2 := blk_frozen k8 2
  have K8 := Aside0.mk k8
  have HR8 := Aside0.mk (Kd.R_lower hR8 hF7'.size)
  have HBW8 := Aside0.mk (below_then hF7' hF7'.size hB8)
  clear k7 k8 hR8 hB8 hC8 hF7'
  refine hK.out _ _ ?_
  clear hK K
  refine norm_ (a' := ?_) ?_ ?_
  rotate_left
  · show Act.put _ (some 13) _ = _
    (try simp only [Act.put, List.setIfInBounds_toArray, List.set_cons_zero, List.set_cons_succ, i64_w, i32_w])
    rfl
  refine last_ (i := 4) (N := none) #[true, true, true, true, true] rfl rfl (one_of HT_.out (by kernel_rfl)) (by decide) (fun K hK => ?_)
  refine skip_ (w1 := ?_) (by rfl) rfl ?_ ?_
  rotate_left
  · go_simp
    rfl
  refine hK.out _ _ ?_
  clear hK K
  refine norm_ (a' := ?_) ?_ ?_
  rotate_left
  · rfl
  refine done_ (done_of HT_.out (by kernel_rfl)) ?_
  have hu := Try.underlying28
  have hsh := HS3.out
  go_wp2
  have N0 := Kd.R_types HR8.out K8.out (by decide)
  have N1 := Kd.R_far (p := ⟨w.heap.size + 2, 0, none⟩) N0 (fun _ hk => hk.2) (.int .i64 n)
  have N2 := Kd.R_far (p := ⟨w.heap.size + 2, 1, none⟩) N1 (fun _ hk => hk.2) (.slice A8 s'.out.length c8)
  have N3 := Kd.R_far (p := ⟨w.heap.size + 2, 2, none⟩) N2 (fun _ hk => hk.2) (.int .i64 r')
  have hb4 : (((w8.setCell ⟨w.heap.size + 2, 0, none⟩ (.int .i64 n)).setCell ⟨w.heap.size + 2, 1, none⟩ (.slice A8 s'.out.length c8)).setCell ⟨w.heap.size + 2, 2, none⟩ (.int .i64 r')).heap[w.heap.size + 2]? = some (.cells #[.int .i64 n, .slice A8 s'.out.length c8, .int .i64 r'] 28 (0, 0)) :=
    blk_put (cs := #[.int .i64 n, .slice A8 s'.out.length c8, .int .i64 0]) (blk_put (cs := #[.int .i64 n, .slice none 0 0, .int .i64 0]) (blk_put (cs := #[.int .i64 0, .slice none 0 0, .int .i64 0]) K8.out 0 _ rfl) 1 _ rfl) 2 _ rfl
  refine bodyPost_ret (results_cell_row rfl _ _ (w.heap.size + 2) 28 #[.int .i64 n, .slice A8 s'.out.length c8, .int .i64 r'] (0, 0) _ rfl hb4 Try.underlying28 rfl (by kernel_rfl)) rfl ?_
  refine ⟨_, rfl, Kd.R_mono N3 (fun _ _ => trivial), ?_⟩
  exact below_set (below_set (below_set HBW8.out (Nat.le_add_right _ 2)) (Nat.le_add_right _ 2)) (Nat.le_add_right _ 2)
end
end Go.Proofs.Ytlplphgoldkoeaa.HTab

end

section
/- 'where': the cell of a point. -/
namespace Go.Proofs.Ytlplphgoldkoeaa.HTab
open Go.RowKit Go.Proofs.YtlplphgoldkoeaaW.PrintWords Go.Proofs.YtlplphgoldkoeaaW.PrintLast Go.Proofs.YtlplphgoldkoeaaW.PrintMore Go.Proofs.Ytlplphgoldkoeaa.HMap Go.Proofs.Ytlplphgoldkoeaa.X
set_option linter.unusedVariables false
set_option linter.unusedSimpArgs false

/-- What 'where' computes from the levels below i. -/
def whP : Nat → Int → Int → Int → Int × Int
  | 0, _, x, y => (x, y)
  | i + 1, p, x, y => whP i p (wrap64 (wrap64 (2 * x) + Go.bits .and .i64 (p / 2 ^ (2 * i + 1)) 1)) (wrap64 (wrap64 (2 * y) + Go.bits .and .i64 (p / 2 ^ (2 * i)) 1))
def tb_where_4.T : Bool × List (List Nat × List Nat) := (true, [([], []), ([0], [0]), ([], []), ([], []), ([3], [3]), ([4], [4]), ([2, 5], [2, 5]), ([6], [6]), ([1, 7], [1, 7]), ([], []), ([9], [9]), ([], []), ([], []), ([12], [12]), ([11, 13], [11, 13]), ([14], [14]), ([10, 15], [10, 15]), ([8, 0, 1, 2, 3, 4, 5, 6, 7, 8], [0, 8]), ([16, 17, 0, 1, 2, 3, 4, 5, 6, 7, 8, 9, 10, 11, 12, 13, 14, 15, 16, 17], [9, 16])])
def tb_where_4.B : List Nat := [0, 1, 0, 0, 8, 24, 60, 124, 255, 0, 512, 0, 0, 4096, 14336, 30720, 65024, 511, 262143]
theorem tb_where_4.tab : rtab .any (opsOf Try.f86 4) = tb_where_4.T := by kernel_rfl
theorem tb_where_4.bits : waitsOk tb_where_4.T.2 tb_where_4.B = true := by kernel_rfl
set_option maxRecDepth 100000 in
set_option maxHeartbeats 4000000 in
theorem where_calls (k : Nat) (p : Int) (w : World) (hk : k ≤ 20) :
    Calls Try.prog 86 #[.int .i64 k, .int .i64 p] w fun e w' => e = .returned (.tuple #[.int .i64 (whP k p 0 0).1, .int .i64 (whP k p 0 0).2]) ∧ Drawn0 w w' := by
  have Hk := Aside0.mk hk
  clear hk
  go_enter Try.func86, Try.ntmps86
  go_wp2
  repeat (go_quiet (fail); try go_wp2)
  go_loopg [4, 5, 6] k (fun kq v4 v5 v6 w' => ∃ (x y : Int), v4 = .int .i64 x ∧ v5 = .int .i64 y ∧ v6 = .int .i64 ((kq : Int) - 1) ∧ Aside0 (whP kq p x y = whP k p 0 0) ∧ Aside0 (kq ≤ k) ∧ Drawn0 w w')
  case atStart => exact ⟨0, 0, by rfl, by rfl, by have := Hk.out; congr 1; show wrap64 ((k : Int) - 1) = _; unfold wrap64; omega, ⟨rfl⟩, ⟨Nat.le_refl _⟩, by repeat (first | exact Drawn0.refl _ | apply Drawn0.step)⟩
  case round =>
    obtain ⟨x, y, rfl, rfl, rfl, HA, HK1, ⟨m1, rfl⟩⟩ := hrel
    cases gk with
    | zero =>
      have h0 : decide ((0 : Int) ≤ ((0 : Nat) : Int) - 1) = false := by decide
      go_wp2
      go_ret2
      exact ⟨by rw [← HA.out]; rfl, ⟨m1, rfl⟩⟩
    | succ i =>
      have := Hk.out
      have := HK1.out
      have hi : ((i + 1 : Nat) : Int) - 1 = i := by omega
      rw [hi]
      have h0 : decide ((0 : Int) ≤ (i : Int)) = true := by simp
      have hq0 : wrap64 (2 * (i : Int) + 1) = 2 * (i : Int) + 1 := by unfold wrap64; omega
      have hq1 : wrap64 (wrap64 (2 * (i : Int)) + 1) = 2 * (i : Int) + 1 := by unfold wrap64; omega
      have hq2 : wrap64 (2 * (i : Int)) = 2 * (i : Int) := by unfold wrap64; omega
      have hp1 : (0 : Int) ≤ 2 * (i : Int) + 1 := by omega
      have hp2 : (0 : Int) ≤ 2 * (i : Int) := by omega
      have D1 := decide_eq_true hp1
      have D2 := decide_eq_true hp2
      have E1 := eq_true hp1
      have E2 := eq_true hp2
      clear hp1 hp2 hi
      go_wp2
      refine start_ (n := 19) (S := fun w' => True) (ds := [17, 18]) #[false, false, false, false, false, false, false, false, false, false, false, false, false, false, false, false, false, false, false] (by kernel_rfl) rfl rfl trivial (fun hHeld => ?_)
      refine with_tabW tb_where_4.tab tb_where_4.bits (fun HT_ HW_ => ?_)
      refine pure_ (i := 0) (N := some 13) (v := ?_) (a' := ?_) #[true, false, false, false, false, false, false, false, false, false, false, false, false, false, false, false, false, false, false] rfl rfl (any_of HT_.out (by kernel_rfl)) (fun _ _ _ h => h) (Or.inl ⟨by rfl, ?_⟩) ?_ ?_
      rotate_left
      · intro w'
        go_simp
        with_reducible rfl
      rotate_left
      · simp only [Act.put, List.setIfInBounds_toArray, List.set_cons_zero, List.set_cons_succ, i64_w, i32_w]
        rfl
      refine pure_ (i := 1) (N := some 14) (v := ?_) (a' := ?_) #[true, true, false, false, false, false, false, false, false, false, false, false, false, false, false, false, false, false, false] rfl rfl (any_of HT_.out (by kernel_rfl)) (fun _ _ _ h => h) (Or.inl ⟨by rfl, ?_⟩) ?_ ?_
      rotate_left
      · intro w'
        go_simp
        with_reducible rfl
      rotate_left
      · simp only [Act.put, List.setIfInBounds_toArray, List.set_cons_zero, List.set_cons_succ, i64_w, i32_w]
        rfl
      refine pure_ (i := 2) (N := some 15) (v := ?_) (a' := ?_) #[true, true, true, false, false, false, false, false, false, false, false, false, false, false, false, false, false, false, false] rfl rfl (any_of HT_.out (by kernel_rfl)) (fun _ _ _ h => h) (Or.inl ⟨by rfl, ?_⟩) ?_ ?_
      rotate_left
      · intro w'
        go_simp
        with_reducible rfl
      rotate_left
      · simp only [Act.put, List.setIfInBounds_toArray, List.set_cons_zero, List.set_cons_succ, i64_w, i32_w]
        rfl
      refine pure_ (i := 3) (N := some 16) (v := ?_) (a' := ?_) #[true, true, true, true, false, false, false, false, false, false, false, false, false, false, false, false, false, false, false] rfl rfl (any_of HT_.out (by kernel_rfl)) (fun _ _ _ h => h) (Or.inl ⟨by rfl, ?_⟩) ?_ ?_
      rotate_left
      · intro w'
        go_simp
        with_reducible rfl
      rotate_left
      · simp only [Act.put, List.setIfInBounds_toArray, List.set_cons_zero, List.set_cons_succ, i64_w, i32_w]
        rfl
      refine pure_ (i := 4) (N := some 17) (v := ?_) (a' := ?_) #[true, true, true, true, true, false, false, false, false, false, false, false, false, false, false, false, false, false, false] rfl rfl (any_of HT_.out (by kernel_rfl)) (fun _ _ _ h => h) (Or.inl ⟨by rfl, ?_⟩) ?_ ?_
      rotate_left
      · intro w'
        go_simp
        with_reducible rfl
      rotate_left
      · simp only [Act.put, List.setIfInBounds_toArray, List.set_cons_zero, List.set_cons_succ, i64_w, i32_w]
        rfl
      refine pure_ (i := 5) (N := some 18) (v := ?_) (a' := ?_) #[true, true, true, true, true, true, false, false, false, false, false, false, false, false, false, false, false, false, false] rfl rfl (any_of HT_.out (by kernel_rfl)) (fun _ _ _ h => h) (Or.inl ⟨by rfl, ?_⟩) ?_ ?_
      rotate_left
      · intro w'
        go_simp
        with_reducible rfl
      rotate_left
      · simp only [Act.put, List.setIfInBounds_toArray, List.set_cons_zero, List.set_cons_succ, i64_w, i32_w]
        rfl
      refine pure_ (i := 6) (N := some 19) (v := ?_) (a' := ?_) #[true, true, true, true, true, true, true, false, false, false, false, false, false, false, false, false, false, false, false] rfl rfl (any_of HT_.out (by kernel_rfl)) (fun _ _ _ h => h) (Or.inl ⟨by rfl, ?_⟩) ?_ ?_
      rotate_left
      · intro w'
        go_simp
        with_reducible rfl
      rotate_left
      · simp only [Act.put, List.setIfInBounds_toArray, List.set_cons_zero, List.set_cons_succ, i64_w, i32_w]
        rfl
      refine pure_ (i := 7) (N := some 20) (v := ?_) (a' := ?_) #[true, true, true, true, true, true, true, true, false, false, false, false, false, false, false, false, false, false, false] rfl rfl (any_of HT_.out (by kernel_rfl)) (fun _ _ _ h => h) (Or.inl ⟨by rfl, ?_⟩) ?_ ?_
      rotate_left
      · intro w'
        go_simp
        with_reducible rfl
      rotate_left
      · simp only [Act.put, List.setIfInBounds_toArray, List.set_cons_zero, List.set_cons_succ, i64_w, i32_w]
        rfl
      refine pure_ (i := 8) (N := some 21) (v := ?_) (a' := ?_) #[true, true, true, true, true, true, true, true, true, false, false, false, false, false, false, false, false, false, false] rfl rfl (any_of HT_.out (by kernel_rfl)) (fun _ _ _ h => h) (Or.inl ⟨by rfl, ?_⟩) ?_ ?_
      rotate_left
      · intro w'
        go_simp
        with_reducible rfl
      rotate_left
      · simp only [Act.put, List.setIfInBounds_toArray, List.set_cons_zero, List.set_cons_succ, i64_w, i32_w]
        rfl
      refine pure_ (i := 9) (N := some 22) (v := ?_) (a' := ?_) #[true, true, true, true, true, true, true, true, true, true, false, false, false, false, false, false, false, false, false] rfl rfl (any_of HT_.out (by kernel_rfl)) (fun _ _ _ h => h) (Or.inl ⟨by rfl, ?_⟩) ?_ ?_
      rotate_left
      · intro w'
        go_simp
        with_reducible rfl
      rotate_left
      · simp only [Act.put, List.setIfInBounds_toArray, List.set_cons_zero, List.set_cons_succ, i64_w, i32_w]
        rfl
      refine pure_ (i := 10) (N := some 23) (v := ?_) (a' := ?_) #[true, true, true, true, true, true, true, true, true, true, true, false, false, false, false, false, false, false, false] rfl rfl (any_of HT_.out (by kernel_rfl)) (fun _ _ _ h => h) (Or.inl ⟨by rfl, ?_⟩) ?_ ?_
      rotate_left
      · intro w'
        go_simp
        with_reducible rfl
      rotate_left
      · simp only [Act.put, List.setIfInBounds_toArray, List.set_cons_zero, List.set_cons_succ, i64_w, i32_w]
        rfl
      refine pure_ (i := 11) (N := some 24) (v := ?_) (a' := ?_) #[true, true, true, true, true, true, true, true, true, true, true, true, false, false, false, false, false, false, false] rfl rfl (any_of HT_.out (by kernel_rfl)) (fun _ _ _ h => h) (Or.inl ⟨by rfl, ?_⟩) ?_ ?_
      rotate_left
      · intro w'
        go_simp
        with_reducible rfl
      rotate_left
      · simp only [Act.put, List.setIfInBounds_toArray, List.set_cons_zero, List.set_cons_succ, i64_w, i32_w]
        rfl
      refine pure_ (i := 12) (N := some 25) (v := ?_) (a' := ?_) #[true, true, true, true, true, true, true, true, true, true, true, true, true, false, false, false, false, false, false] rfl rfl (any_of HT_.out (by kernel_rfl)) (fun _ _ _ h => h) (Or.inl ⟨by rfl, ?_⟩) ?_ ?_
      rotate_left
      · intro w'
        go_simp
        with_reducible rfl
      rotate_left
      · simp only [Act.put, List.setIfInBounds_toArray, List.set_cons_zero, List.set_cons_succ, i64_w, i32_w]
        rfl
      refine pure_ (i := 13) (N := some 26) (v := ?_) (a' := ?_) #[true, true, true, true, true, true, true, true, true, true, true, true, true, true, false, false, false, false, false] rfl rfl (any_of HT_.out (by kernel_rfl)) (fun _ _ _ h => h) (Or.inl ⟨by rfl, ?_⟩) ?_ ?_
      rotate_left
      · intro w'
        go_simp
        with_reducible rfl
      rotate_left
      · simp only [Act.put, List.setIfInBounds_toArray, List.set_cons_zero, List.set_cons_succ, i64_w, i32_w]
        rfl
      refine pure_ (i := 14) (N := some 27) (v := ?_) (a' := ?_) #[true, true, true, true, true, true, true, true, true, true, true, true, true, true, true, false, false, false, false] rfl rfl (any_of HT_.out (by kernel_rfl)) (fun _ _ _ h => h) (Or.inl ⟨by rfl, ?_⟩) ?_ ?_
      rotate_left
      · intro w'
        go_simp
        with_reducible rfl
      rotate_left
      · simp only [Act.put, List.setIfInBounds_toArray, List.set_cons_zero, List.set_cons_succ, i64_w, i32_w]
        rfl
      refine pure_ (i := 15) (N := some 28) (v := ?_) (a' := ?_) #[true, true, true, true, true, true, true, true, true, true, true, true, true, true, true, true, false, false, false] rfl rfl (any_of HT_.out (by kernel_rfl)) (fun _ _ _ h => h) (Or.inl ⟨by rfl, ?_⟩) ?_ ?_
      rotate_left
      · intro w'
        go_simp
        with_reducible rfl
      rotate_left
      · simp only [Act.put, List.setIfInBounds_toArray, List.set_cons_zero, List.set_cons_succ, i64_w, i32_w]
        rfl
      refine pure_ (i := 16) (N := some 29) (v := ?_) (a' := ?_) #[true, true, true, true, true, true, true, true, true, true, true, true, true, true, true, true, true, false, false] rfl rfl (any_of HT_.out (by kernel_rfl)) (fun _ _ _ h => h) (Or.inl ⟨by rfl, ?_⟩) ?_ ?_
      rotate_left
      · intro w'
        go_simp
        with_reducible rfl
      rotate_left
      · simp only [Act.put, List.setIfInBounds_toArray, List.set_cons_zero, List.set_cons_succ, i64_w, i32_w]
        rfl
      refine pure_ (i := 17) (N := some 4) (v := ?_) (a' := ?_) #[true, true, true, true, true, true, true, true, true, true, true, true, true, true, true, true, true, true, false] rfl rfl (any_of HT_.out (by kernel_rfl)) (fun _ _ _ h => h) (Or.inl ⟨by rfl, ?_⟩) ?_ ?_
      rotate_left
      · intro w'
        go_simp
        with_reducible rfl
      rotate_left
      · simp only [Act.put, List.setIfInBounds_toArray, List.set_cons_zero, List.set_cons_succ, i64_w, i32_w]
        rfl
      refine pure_ (i := 18) (N := some 5) (v := ?_) (a' := ?_) #[true, true, true, true, true, true, true, true, true, true, true, true, true, true, true, true, true, true, true] rfl rfl (any_of HT_.out (by kernel_rfl)) (fun _ _ _ h => h) (Or.inl ⟨by rfl, ?_⟩) ?_ ?_
      rotate_left
      · intro w'
        go_simp
        with_reducible rfl
      rotate_left
      · simp only [Act.put, List.setIfInBounds_toArray, List.set_cons_zero, List.set_cons_succ, i64_w, i32_w]
        rfl
      refine done_ (done_of HT_.out (by kernel_rfl)) ?_
      go_wp2
      repeat (go_quiet (fail); try go_wp2)
      go_roundg i
      case measure => have := HK1.out; omega
      case rel => exact ⟨_, _, by rfl, by rfl, by rfl, ⟨by rw [← HA.out, show (2 * (i : Int) + 1).toNat = 2 * i + 1 by omega, show (2 * (i : Int)).toNat = 2 * i by omega]; rfl⟩, ⟨by have := HK1.out; omega⟩, by repeat (first | exact Drawn0.refl _ | apply Drawn0.step | exact ⟨_, rfl⟩)⟩
end Go.Proofs.Ytlplphgoldkoeaa.HTab

end

section
/- The program's 'Rect'. -/
namespace Go.Proofs.Ytlplphgoldkoeaa.HTab
open Go.RowKit Go.Proofs.YtlplphgoldkoeaaW.PrintWords Go.Proofs.YtlplphgoldkoeaaW.PrintLast Go.Proofs.YtlplphgoldkoeaaW.PrintMore Go.Proofs.Ytlplphgoldkoeaa.HMap Go.Proofs.Ytlplphgoldkoeaa.X
attribute [local go_sem] max2_int min2_int max_two min_two max_three min_three max_four min_four   -- for this text's walks alone
set_option linter.unusedVariables false
set_option linter.unusedSimpArgs false

def rectF (k : Nat) (x0 y0 x1 y1 : Int) (p : Int) : Bool :=
  decide (x0 ≤ (whP k p 0 0).1) && decide ((whP k p 0 0).1 ≤ x1) && decide (y0 ≤ (whP k p 0 0).2) && decide ((whP k p 0 0).2 ≤ y1)
set_option maxRecDepth 100000 in
set_option maxHeartbeats 4000000 in
theorem rect1_calls (k : Nat) (x0 y0 x1 y1 p : Int) (hk : k ≤ 20) (b : Nat) (w : World)
    (c0 : w.heap[b]? = some (.cells #[.int .i64 k] 3 (0, 0))) (c1 : w.heap[b + 1]? = some (.cells #[.int .i64 x0] 3 (0, 0))) (c2 : w.heap[b + 2]? = some (.cells #[.int .i64 y0] 3 (0, 0)))
    (c3 : w.heap[b + 3]? = some (.cells #[.int .i64 x1] 3 (0, 0))) (c4 : w.heap[b + 4]? = some (.cells #[.int .i64 y1] 3 (0, 0))) :
    Calls Try.prog 85 #[.int .i64 p, .pointer (some ⟨b, 0, none⟩), .pointer (some ⟨b + 1, 0, none⟩), .pointer (some ⟨b + 3, 0, none⟩), .pointer (some ⟨b + 2, 0, none⟩), .pointer (some ⟨b + 4, 0, none⟩)] w fun e w' => e = .returned (.bool (rectF k x0 y0 x1 y1 p)) ∧ Below w.heap.size w w' := by
  have d0 : w.cell? ⟨b, 0, none⟩ = some (.int .i64 k) := (blk_cell c0 0).trans rfl
  have HC := Aside0.mk (And.intro c1 (And.intro c2 (And.intro c3 c4)))
  have HW : ∀ W, Calls Try.prog 86 #[.int .i64 k, .int .i64 p] W fun e w' => e = .returned (.tuple #[.int .i64 (whP k p 0 0).1, .int .i64 (whP k p 0 0).2]) ∧ Drawn0 W w' := fun W => where_calls k p W hk
  unfold rectF
  generalize whP k p 0 0 = q at HW ⊢
  obtain ⟨X, Y⟩ := q
  have HW := Aside0.mk HW
  clear c0 c1 c2 c3 c4 hk
  cases h1 : decide (x0 ≤ X)
  all_goals cases h2 : decide (X ≤ x1)
  all_goals cases h3 : decide (y0 ≤ Y)
  all_goals cases h4 : decide (Y ≤ y1)
  all_goals
    go_enter Try.func85, Try.ntmps85
    go_wp2_with (first | ((with_reducible refine gate_callee (f := 86) rfl ?_); go_must (refine goesL_ _ rfl rfl Try.func86 (by kernel_rfl) rfl #[.int .i64 k, .int .i64 p] rfl (by simp only [List.map_toArray, List.map_cons, List.map_nil]; rfl) ?_; refine (HW.out _).mono ?_; rintro e w1 ⟨rfl, hb1⟩; obtain ⟨m, hm⟩ := hb1.out; have e1 : w1.cell? ⟨b + 1, 0, none⟩ = some (.int .i64 x0) := (by rw [hm]; exact (blk_cell HC.out.1 0).trans rfl); have e2 : w1.cell? ⟨b + 2, 0, none⟩ = some (.int .i64 y0) := (by rw [hm]; exact (blk_cell HC.out.2.1 0).trans rfl); have e3 : w1.cell? ⟨b + 3, 0, none⟩ = some (.int .i64 x1) := (by rw [hm]; exact (blk_cell HC.out.2.2.1 0).trans rfl); have e4 : w1.cell? ⟨b + 4, 0, none⟩ = some (.int .i64 y1) := (by rw [hm]; exact (blk_cell HC.out.2.2.2 0).trans rfl); have HM := Aside0.mk hm; clear hm hb1; refine ⟨_, rfl, ?_⟩)) | fail)
    go_ret
    exact ⟨by rfl, by rw [HM.out]; exact pw_below_drewN (Below.refl _ _) _⟩

theorem rect_blk (w : World) (a0 a1 a2 a3 a4 o : Obj) : ((((((w.alloc a0).alloc a1).alloc a2).alloc a3).alloc a4).alloc o).heap[w.heap.size + 5]? = some o := by
  simpa using blk_new (((((w.alloc a0).alloc a1).alloc a2).alloc a3).alloc a4) o
set_option maxRecDepth 100000 in
set_option maxHeartbeats 4000000 in
theorem rect_err (k x0 y0 x1 y1 m1 m2 m3 n1 n2 n3 : Int) (w : World) (hm1 : (if y0 < x0 then y0 else x0) = m1) (hm2 : (if x1 < m1 then x1 else m1) = m2) (hm3 : (if y1 < m2 then y1 else m2) = m3)
    (hn1 : (if x0 < y0 then y0 else x0) = n1) (hn2 : (if n1 < x1 then x1 else n1) = n2) (hn3 : (if n2 < y1 then y1 else n2) = n3) (h : k < 0 ∨ 6 < k ∨ m3 < 0 ∨ (2 : Int) ^ k.toNat ≤ n3) :
    Calls Try.prog 21 #[.int .i64 k, .int .i64 x0, .int .i64 y0, .int .i64 x1, .int .i64 y1] w fun e w' => e = .returned (.tuple #[.agg #[.int .i64 0, .slice none 0 0, .int .i64 0], .int .i64 2]) ∧ Below w.heap.size w w' := by
  have hu := Try.underlying28
  by_cases h0 : k < 0
  · have d0 : decide (k < 0) = true := decide_eq_true h0
    clear h h0
    go_enter Try.func21, Try.ntmps21
    go_wp2
    go_quiet (fail)
    try go_wp2
    refine bodyPost_ret (results_ct rfl _ _ (w.heap.size + 5) 28 #[.int .i64 0, .slice none 0 0, .int .i64 0] (0, 0) _ rfl ?_ hu rfl (by kernel_rfl)) rfl ?_
    · exact blk_put (cs := #[.int .i64 0, .slice none 0 0, .int .i64 0]) (blk_put (cs := #[.int .i64 0, .slice none 0 0, .int .i64 0]) (blk_put (cs := #[.int .i64 0, .slice none 0 0, .int .i64 0]) (blk_drewN (rect_blk w _ _ _ _ _ _) _) 0 _ rfl) 1 _ rfl) 2 _ rfl
    · exact ⟨by rfl, below_set (below_set (below_set (pw_below_drewN (below_alloc (below_alloc (below_alloc (below_alloc (below_alloc (below_alloc (Below.refl _ _) _) _) _) _) _) _) _) (Nat.le_add_right _ 5)) (Nat.le_add_right _ 5)) (Nat.le_add_right _ 5)⟩
  have d0 : decide (k < 0) = false := decide_eq_false h0
  by_cases h1 : 6 < k
  · have d1 : decide (6 < k) = true := decide_eq_true h1
    clear h h0 h1
    go_enter Try.func21, Try.ntmps21
    go_wp2
    go_quiet (fail)
    try go_wp2
    refine bodyPost_ret (results_ct rfl _ _ (w.heap.size + 5) 28 #[.int .i64 0, .slice none 0 0, .int .i64 0] (0, 0) _ rfl ?_ hu rfl (by kernel_rfl)) rfl ?_
    · exact blk_put (cs := #[.int .i64 0, .slice none 0 0, .int .i64 0]) (blk_put (cs := #[.int .i64 0, .slice none 0 0, .int .i64 0]) (blk_put (cs := #[.int .i64 0, .slice none 0 0, .int .i64 0]) (blk_drewN (rect_blk w _ _ _ _ _ _) _) 0 _ rfl) 1 _ rfl) 2 _ rfl
    · exact ⟨by rfl, below_set (below_set (below_set (pw_below_drewN (below_alloc (below_alloc (below_alloc (below_alloc (below_alloc (below_alloc (Below.refl _ _) _) _) _) _) _) _) _) (Nat.le_add_right _ 5)) (Nat.le_add_right _ 5)) (Nat.le_add_right _ 5)⟩
  have d1 : decide (6 < k) = false := decide_eq_false h1
  by_cases h2 : m3 < 0
  · have d2 : decide (m3 < 0) = true := decide_eq_true h2
    clear h h0 h1 h2
    go_enter Try.func21, Try.ntmps21
    go_wp2
    go_quiet (fail)
    try go_wp2
    refine bodyPost_ret (results_ct rfl _ _ (w.heap.size + 5) 28 #[.int .i64 0, .slice none 0 0, .int .i64 0] (0, 0) _ rfl ?_ hu rfl (by kernel_rfl)) rfl ?_
    · exact blk_put (cs := #[.int .i64 0, .slice none 0 0, .int .i64 0]) (blk_put (cs := #[.int .i64 0, .slice none 0 0, .int .i64 0]) (blk_put (cs := #[.int .i64 0, .slice none 0 0, .int .i64 0]) (blk_drewN (rect_blk w _ _ _ _ _ _) _) 0 _ rfl) 1 _ rfl) 2 _ rfl
    · exact ⟨by rfl, below_set (below_set (below_set (pw_below_drewN (below_alloc (below_alloc (below_alloc (below_alloc (below_alloc (below_alloc (Below.refl _ _) _) _) _) _) _) _) _) (Nat.le_add_right _ 5)) (Nat.le_add_right _ 5)) (Nat.le_add_right _ 5)⟩
  have d2 : decide (m3 < 0) = false := decide_eq_false h2
  have h3 : (2 : Int) ^ k.toNat ≤ n3 := by omega
  have d3 : decide ((2 : Int) ^ k.toNat ≤ n3) = true := decide_eq_true h3
  have s0 : decide (0 ≤ k) = true := decide_eq_true (by omega)
  have s1 : (0 ≤ k) = True := eq_true (by omega)
  obtain ⟨P, hP⟩ : ∃ P : Int, P = (2 : Int) ^ k.toNat := ⟨_, rfl⟩
  have hs : shl .i64 1 k = P := by
    have : k = 0 ∨ k = 1 ∨ k = 2 ∨ k = 3 ∨ k = 4 ∨ k = 5 ∨ k = 6 := by omega
    rw [hP]
    rcases this with h | h | h | h | h | h | h <;> rw [h] <;> decide
  have hs1 : (IntKind.i64.wrap (1 * 2 ^ min k.toNat 64)) = P := hs
  have hs2 : (IntKind.i64.wrap (1 * 2 ^ k.toNat)) = P := shl_small hs (show _ ≤ (64 : Int) by omega)
  have hs3 : (IntKind.i64.wrap (2 ^ min k.toNat 64)) = P := by have h_ := hs1; rw [Int.one_mul] at h_; exact h_
  have hs4 : (IntKind.i64.wrap (2 ^ k.toNat)) = P := by have h_ := hs2; rw [Int.one_mul] at h_; exact h_
  have hs5 : (wrap64 (1 * 2 ^ min k.toNat 64)) = P := (i64_w _).symm.trans hs1
  have hs6 : (wrap64 (1 * 2 ^ k.toNat)) = P := (i64_w _).symm.trans hs2
  rw [← hP] at d3
  clear h h0 h1 h2 h3 hP
  go_enter Try.func21, Try.ntmps21
  go_wp2
  go_quiet (fail)
  try go_wp2
  refine bodyPost_ret (results_ct rfl _ _ (w.heap.size + 5) 28 #[.int .i64 0, .slice none 0 0, .int .i64 0] (0, 0) _ rfl ?_ hu rfl (by kernel_rfl)) rfl ?_
  · exact blk_put (cs := #[.int .i64 0, .slice none 0 0, .int .i64 0]) (blk_put (cs := #[.int .i64 0, .slice none 0 0, .int .i64 0]) (blk_put (cs := #[.int .i64 0, .slice none 0 0, .int .i64 0]) (blk_drewN (rect_blk w _ _ _ _ _ _) _) 0 _ rfl) 1 _ rfl) 2 _ rfl
  · exact ⟨by rfl, below_set (below_set (below_set (pw_below_drewN (below_alloc (below_alloc (below_alloc (below_alloc (below_alloc (below_alloc (Below.refl _ _) _) _) _) _) _) _) _) (Nat.le_add_right _ 5)) (Nat.le_add_right _ 5)) (Nat.le_add_right _ 5)⟩

set_option maxRecDepth 100000 in
set_option maxHeartbeats 4000000 in
theorem rect_ok (k : Nat) (x0 y0 x1 y1 m1 m2 m3 n1 n2 n3 : Int) (out : List S107) (r : Int) (w : World) (hm1 : (if y0 < x0 then y0 else x0) = m1) (hm2 : (if x1 < m1 then x1 else m1) = m2) (hm3 : (if y1 < m2 then y1 else m2) = m3)
    (hn1 : (if x0 < y0 then y0 else x0) = n1) (hn2 : (if n1 < x1 then x1 else n1) = n2) (hn3 : (if n2 < y1 then y1 else n2) = n3) (h0 : k ≤ 6) (h2 : ¬ m3 < 0) (h3 : ¬ (2 : Int) ^ k ≤ n3) (hlen : out.length < 1000000000000) (h : buildP (2 * k) (rectF k x0 y0 x1 y1) = some (out, r)) :
    Calls Try.prog 21 #[.int .i64 k, .int .i64 x0, .int .i64 y0, .int .i64 x1, .int .i64 y1] w fun e w' => ∃ v : Value, e = .returned (.tuple #[.agg #[.int .i64 (2 * k), v, .int .i64 r], .int .i64 0]) ∧ k107.R 107 w' w.heap.size (fun _ => True) v out ∧ Below w.heap.size w w' := by
  have hu := Try.underlying28
  have d0 : decide ((k : Int) < 0) = false := decide_eq_false (by omega)
  have d1 : decide ((6 : Int) < k) = false := decide_eq_false (by omega)
  have d2 : decide (m3 < 0) = false := decide_eq_false h2
  have d3 : decide ((2 : Int) ^ k ≤ n3) = false := decide_eq_false h3
  have s0 : decide (0 ≤ (k : Int)) = true := decide_eq_true (by omega)
  have s1 : (0 ≤ (k : Int)) = True := eq_true (by omega)
  obtain ⟨P, hP⟩ : ∃ P : Int, P = (2 : Int) ^ k := ⟨_, rfl⟩
  have hs : shl .i64 1 k = P := by
    have : k = 0 ∨ k = 1 ∨ k = 2 ∨ k = 3 ∨ k = 4 ∨ k = 5 ∨ k = 6 := by omega
    rw [hP]
    rcases this with h | h | h | h | h | h | h <;> rw [h] <;> decide
  have hs1 : (IntKind.i64.wrap (1 * 2 ^ min (k : Int).toNat 64)) = P := hs
  have hs2 : (IntKind.i64.wrap (1 * 2 ^ (k : Int).toNat)) = P := shl_small hs (show _ ≤ (64 : Int) by omega)
  have hs3 : (IntKind.i64.wrap (2 ^ min (k : Int).toNat 64)) = P := by have h_ := hs1; rw [Int.one_mul] at h_; exact h_
  have hs4 : (IntKind.i64.wrap (2 ^ (k : Int).toNat)) = P := by have h_ := hs2; rw [Int.one_mul] at h_; exact h_
  have hs5 : (wrap64 (1 * 2 ^ min (k : Int).toNat 64)) = P := (i64_w _).symm.trans hs1
  have hs6 : (wrap64 (1 * 2 ^ (k : Int).toNat)) = P := (i64_w _).symm.trans hs2
  have hs7 : (wrap64 (2 ^ k)) = P := by have h_ := hs4; rw [Int.toNat_natCast] at h_; exact (i64_w _).symm.trans h_
  have hs8 : (wrap64 (2 ^ min k 64)) = P := by have h_ := hs3; rw [Int.toNat_natCast] at h_; exact (i64_w _).symm.trans h_
  rw [← hP] at d3
  have HK := Aside0.mk h0
  have HH := Aside0.mk h
  have EW : Aside0 (wrap64 (2 * (k : Int)) = 2 * k) := ⟨by unfold wrap64; omega⟩
  clear h h0 h2 h3 hP
  go_enter Try.func21, Try.ntmps21
  go_wp2
  go_quiet (fail)
  go_wp2_with (first | ((with_reducible refine gate_callee (f := 84) rfl ?_); go_must (refine goesL_ _ rfl rfl Try.func84 (by kernel_rfl) rfl #[.int .i64 (2 * k), .func (.func 85) #[] #[.pointer (some ⟨w.heap.size, 0, none⟩), .pointer (some ⟨w.heap.size + 1, 0, none⟩), .pointer (some ⟨w.heap.size + 3, 0, none⟩), .pointer (some ⟨w.heap.size + 2, 0, none⟩), .pointer (some ⟨w.heap.size + 4, 0, none⟩)]] rfl (by simp only [List.map_toArray, List.map_cons, List.map_nil, EW.out]; rfl) ?_)) | fail)
  obtain ⟨W6, hW6⟩ : ∃ W, W = (((((((w.alloc (Obj.cells #[Value.int IntKind.i64 k] 3)).alloc (Obj.cells #[Value.int IntKind.i64 x0] 3)).alloc (Obj.cells #[Value.int IntKind.i64 y0] 3)).alloc (Obj.cells #[Value.int IntKind.i64 x1] 3)).alloc (Obj.cells #[Value.int IntKind.i64 y1] 3)).alloc (Obj.cells #[Value.int IntKind.i64 0, Value.slice none 0 0, Value.int IntKind.i64 0] 28)).drewN nq) := ⟨_, rfl⟩
  rw [← hW6]
  have hB6 : Below w.heap.size w W6 := by rw [hW6]; exact pw_below_drewN (below_alloc (below_alloc (below_alloc (below_alloc (below_alloc (below_alloc (Below.refl _ _) _) _) _) _) _) _) _
  have g5 : W6.heap[w.heap.size + 5]? = some (.cells #[.int .i64 0, .slice none 0 0, .int .i64 0] 28 (0, 0)) := by rw [hW6]; exact blk_drewN (rect_blk w _ _ _ _ _ _) _
  have g0 : W6.heap[w.heap.size]? = some (.cells #[.int .i64 k] 3 (0, 0)) := by rw [hW6]; exact blk_drewN (blk_alloc (blk_alloc (blk_alloc (blk_alloc (blk_alloc (blk_new _ _) _) _) _) _) _) _
  have g1 : W6.heap[w.heap.size + 1]? = some (.cells #[.int .i64 x0] 3 (0, 0)) := by rw [hW6]; exact blk_drewN (blk_alloc (blk_alloc (blk_alloc (blk_alloc (by simpa using blk_new (w.alloc _) _) _) _) _) _) _
  have g2 : W6.heap[w.heap.size + 2]? = some (.cells #[.int .i64 y0] 3 (0, 0)) := by rw [hW6]; exact blk_drewN (blk_alloc (blk_alloc (blk_alloc (by simpa using blk_new ((w.alloc _).alloc _) _) _) _) _) _
  have g3 : W6.heap[w.heap.size + 3]? = some (.cells #[.int .i64 x1] 3 (0, 0)) := by rw [hW6]; exact blk_drewN (blk_alloc (blk_alloc (by simpa using blk_new (((w.alloc _).alloc _).alloc _) _) _) _) _
  have g4 : W6.heap[w.heap.size + 4]? = some (.cells #[.int .i64 y1] 3 (0, 0)) := by rw [hW6]; exact blk_drewN (blk_alloc (by simpa using blk_new ((((w.alloc _).alloc _).alloc _).alloc _) _) _) _
  clear hW6
  refine (build_calls Try.func85 (by kernel_rfl) rfl (2 * (k : Int)) _ (rectF k x0 y0 x1 y1) out r W6 (by omega) (by have := HK.out; omega) ?cb hlen HH.out).mono ?_
  case cb =>
    intro W hF p hp0 hp1
    exact rect1_calls k x0 y0 x1 y1 p (by have := HK.out; omega) w.heap.size W ((hF.block _ (blk_lt g0) (fun h => h)).trans g0) ((hF.block _ (blk_lt g1) (fun h => h)).trans g1) ((hF.block _ (blk_lt g2) (fun h => h)).trans g2) ((hF.block _ (blk_lt g3) (fun h => h)).trans g3) ((hF.block _ (blk_lt g4) (fun h => h)).trans g4)
  rintro e w7 ⟨v, rfl, hR, hB7⟩
  obtain ⟨A7, c7, rfl, hc7, hC7⟩ := Kd.R_reads hR
  refine ⟨_, rfl, ?_⟩
  have k5 := blk_below g5 hB7
  have q0 := (blk_cell k5 0).trans rfl
  have q1 := (blk_cell k5 1).trans rfl
  have q2 := (blk_cell k5 2).trans rfl
  have fq0 := blk_frozen k5 0
  have fq1 := blk_frozen k5 1
  have fq2 := blk_frozen k5 2
  have K5 := Aside0.mk k5
  have HR7 := Aside0.mk (Kd.R_lower hR hB6.size)
  have HB7 := Aside0.mk (below_then hB6 hB6.size hB7)
  clear k5 hR hB7 hC7 hB6 g0 g1 g2 g3 g4 g5
  go_wp2
  have N0 := Kd.R_types HR7.out K5.out (by decide)
  have N1 := Kd.R_far (p := ⟨w.heap.size + 5, 0, none⟩) N0 (fun _ hk => hk.2) (.int .i64 (2 * k))
  have N2 := Kd.R_far (p := ⟨w.heap.size + 5, 1, none⟩) N1 (fun _ hk => hk.2) (.slice A7 out.length c7)
  have N3 := Kd.R_far (p := ⟨w.heap.size + 5, 2, none⟩) N2 (fun _ hk => hk.2) (.int .i64 r)
  refine bodyPost_ret (results_ct rfl _ _ (w.heap.size + 5) 28 #[.int .i64 (2 * k), .slice A7 out.length c7, .int .i64 r] (0, 0) _ rfl ?_ hu rfl (by kernel_rfl)) rfl ?_
  · exact blk_put (cs := #[.int .i64 (2 * k), .slice A7 out.length c7, .int .i64 0]) (blk_put (cs := #[.int .i64 (2 * k), .slice none 0 0, .int .i64 0]) (blk_put (cs := #[.int .i64 0, .slice none 0 0, .int .i64 0]) K5.out 0 _ rfl) 1 _ rfl) 2 _ rfl
  · exact ⟨_, by rfl, Kd.R_mono N3 (fun _ _ => trivial), below_set (below_set (below_set HB7.out (Nat.le_add_right _ 5)) (Nat.le_add_right _ 5)) (Nat.le_add_right _ 5)⟩
end Go.Proofs.Ytlplphgoldkoeaa.HTab
namespace Go.Proofs.Ytlplphgoldkoeaa.X
open Go.RowKit Go.Proofs.YtlplphgoldkoeaaW.PrintWords Go.Proofs.YtlplphgoldkoeaaW.PrintLast Go.Proofs.YtlplphgoldkoeaaW.PrintMore Go.Proofs.Ytlplphgoldkoeaa.HTab
set_option linter.unusedVariables false
def mask_Rect.f (a0 a1 a2 a3 a4 : Int) : Option (Int × List S107 × Int × Int) :=
  if a0 < 0 ∨ 6 < a0 ∨ mn (mn (mn a1 a2) a3) a4 < 0 ∨ (2 : Int) ^ a0.toNat ≤ mx (mx (mx a1 a2) a3) a4 then some (0, [], 0, 2)
  else (buildP (2 * (a0.toNat : Int)) (rectF a0.toNat a1 a2 a3 a4)).bind fun p => if p.1.length < 1000000000000 then some (2 * (a0.toNat : Int), p.1, p.2, 0) else none
theorem mask_Rect.calls (a0 : Int) (a1 : Int) (a2 : Int) (a3 : Int) (a4 : Int) (r1 : Int) (r2 : List (S107)) (r3 : Int) (r4 : Int) (w : World) (h : mask_Rect.f a0 a1 a2 a3 a4 = some (r1, r2, r3, r4)) :
    Calls Try.prog 21 #[.int .i64 a0, .int .i64 a1, .int .i64 a2, .int .i64 a3, .int .i64 a4] w fun e w' => ∃ v1_ : Value, e = .returned (.tuple #[.agg #[.int .i64 r1, v1_, .int .i64 r3], .int .i64 r4]) ∧ Kd.R k107 107 w' w.heap.size (fun _ => True) v1_ r2 ∧ Below w.heap.size w w' := by
  unfold mask_Rect.f at h
  split at h
  · rename_i hc
    simp only [Option.some.injEq, Prod.mk.injEq] at h
    obtain ⟨rfl, rfl, rfl, rfl⟩ := h
    refine (rect_err a0 a1 a2 a3 a4 _ _ _ _ _ _ w rfl rfl rfl rfl rfl rfl hc).mono ?_
    rintro e w' ⟨rfl, hb⟩
    exact ⟨_, rfl, Kd.R_nil _ _ _ _ _, hb⟩
  · rename_i hc
    obtain ⟨⟨out, r⟩, hb, h⟩ := Option.bind_eq_some_iff.1 h
    dsimp only at h
    split at h
    case isFalse => cases h
    rename_i hl
    simp only [Option.some.injEq, Prod.mk.injEq] at h
    obtain ⟨rfl, rfl, rfl, rfl⟩ := h
    have hk : (a0.toNat : Int) = a0 := by omega
    have := rect_ok a0.toNat a1 a2 a3 a4 _ _ _ _ _ _ out r w rfl rfl rfl rfl rfl rfl (by omega) (fun h => hc (.inr (.inr (.inl h)))) (fun h => hc (.inr (.inr (.inr h)))) hl hb
    rw [hk] at this
    rw [hk]
    exact this
end Go.Proofs.Ytlplphgoldkoeaa.X

end

section
-- By a program of this session (xprint.py) that runs the print over this seat's translation.
namespace Go.Proofs.Ytlplphgoldkoeaa.X
open Go.RowKit Go.Proofs.YtlplphgoldkoeaaW.PrintWords Go.Proofs.YtlplphgoldkoeaaW.PrintLast Go.Proofs.YtlplphgoldkoeaaW.PrintMore
attribute [local go_sem] max2_int min2_int max_two min_two max_three min_three max_four min_four   -- for this text's walks alone
set_option linter.unusedVariables false
set_option linter.unusedSimpArgs false

/-! ### mask_cell: function 80 -/
def mask_cell.l0 : Nat → Int → Int → Int → Int → Option (Int)
  | 0, _, _, _, _ => none
  | k + 1, x1, x2, x7, x8 => if x8 ≥ 0 then (if 0 ≤ x8 then (mask_cell.l0 k x1 x2 (wrap64 ((wrap64 ((wrap64 (4 * x7)) + (wrap64 (2 * (Go.bits .and .i64 (shr .i64 x1 x8) 1))))) + (Go.bits .and .i64 (shr .i64 x2 x8) 1))) (wrap64 (x8 - 1))) else (none)) else (some x7)
def mask_cell.f (k : Nat) (a0 : Int) (a1 : Int) (a2 : Int) : Option (Int) := mask_cell.l0 k a1 a2 0 (wrap64 (a0 - 1))
theorem mask_cell.mono_l : ∀ k, (∀ y0 y1 y2 y3, LeO (mask_cell.l0 k y0 y1 y2 y3) (mask_cell.l0 (k + 1) y0 y1 y2 y3))
  | 0 => fun _ _ _ _ r h => by simp [mask_cell.l0] at h
  | k + 1 => by
    have ih0 := mask_cell.mono_l k
    · intro y0 y1 y2 y3
      unfold mask_cell.l0
      repeat' first
      | (with_reducible exact ih0 _ _ _ _)
      | (with_reducible exact LeO.refl _)
      | (with_reducible exact LeO.none _)
      | (with_reducible refine LeO.ite ?_ ?_)
      | (with_reducible refine LeO.bind ?_ (fun _ => ?_))
      | exact ih0 _ _ _ _
      | exact LeO.none _
      | refine LeO.ite ?_ ?_
      | refine LeO.bind ?_ (fun _ => ?_)
theorem mask_cell.mono : ∀ a0 a1 a2 k, LeO (mask_cell.f k a0 a1 a2) (mask_cell.f (k + 1) a0 a1 a2) := by
  intro a0 a1 a2 k
  have ih0 := mask_cell.mono_l k
  unfold mask_cell.f
  repeat' first
      | (with_reducible exact ih0 _ _ _ _)
      | (with_reducible exact LeO.refl _)
      | (with_reducible exact LeO.none _)
      | (with_reducible refine LeO.ite ?_ ?_)
      | (with_reducible refine LeO.bind ?_ (fun _ => ?_))
      | exact ih0 _ _ _ _
      | exact LeO.none _
      | refine LeO.ite ?_ ?_
      | refine LeO.bind ?_ (fun _ => ?_)
set_option maxHeartbeats 8000000 in
set_option maxRecDepth 100000 in
theorem mask_cell.calls (k : Nat) (a0 : Int) (a1 : Int) (a2 : Int) (r : Int) (w : World) (h : mask_cell.f k a0 a1 a2 = some r) :
    Calls Try.prog 80 #[.int .i64 a0, .int .i64 a1, .int .i64 a2] w fun e w' => e = .returned (.int .i64 r) ∧ Drawn0 w w' := by
  have H : (mask_cell.l0 k a1 a2 0 (wrap64 (a0 - 1))) = some r := h
  clear h
  have H' := Aside0.mk H
  clear H
  go_enter Try.func80, Try.ntmps80
  go_wp2
  repeat (go_quiet (fail); try go_wp2)
  go_loopg [7, 8] k (fun kq v7 v8 w' => ∃ (x7_1 : Int) (x8_1 : Int), v7 = .int .i64 x7_1 ∧ v8 = .int .i64 x8_1 ∧ Aside0 (mask_cell.l0 kq a1 a2 x7_1 x8_1 = some r) ∧ Aside0 (kq ≤ k) ∧ Drawn0 w w')
  case atStart => exact ⟨(0), (wrap64 (a0 - 1)), (by first | rfl | (simp; done) | (simp [*]; done)), (by first | rfl | (simp; done) | (simp [*]; done)), H', ⟨Nat.le_refl _⟩, by repeat (first | exact Drawn0.refl _ | apply Drawn0.step)⟩
  case round =>
    clear H'
    try clear p2
    obtain ⟨x7_1, x8_1, rfl, rfl, HA, HK1, ⟨m1, rfl⟩⟩ := hrel
    cases gk with
    | zero => exact absurd HA.out (by simp [mask_cell.l0])
    | succ k1 =>
      have H := HA.out
      clear HA
      simp only [mask_cell.l0] at H
      by_cases c4 : x8_1 ≥ 0
      · rw [if_pos c4] at H
        have c4b0 : decide (0 ≤ x8_1) = true := decide_eq_true c4
        clear c4
        by_cases c5 : 0 ≤ x8_1
        · rw [if_pos c5] at H
          have c5b0 := eq_true c5
          have c5b1 : decide (0 ≤ x8_1) = true := decide_eq_true c5
          clear c5
          obtain ⟨ji6, hji6⟩ : ∃ j_ : Int, (shr .i64 a1 x8_1) = j_ := ⟨_, rfl⟩
          replace H : (mask_cell.l0 k1 a1 a2 (wrap64 ((wrap64 ((wrap64 (4 * x7_1)) + (wrap64 (2 * (Go.bits .and .i64 (ji6) 1))))) + (Go.bits .and .i64 (shr .i64 a2 x8_1) 1))) (wrap64 (x8_1 - 1))) = some r := by first | (rw [hji6] at H; exact H) | (simp only [hji6] at H ⊢; exact H)
          have hji6_ : (a1 / 2 ^ min x8_1.toNat 64) = ji6 := hji6
          have hji6z : x8_1 ≤ 64 → (a1 / 2 ^ x8_1.toNat) = ji6 := shr_small hji6
          have c7b0 := eq_true (of_decide_eq_true (by first | (with_reducible assumption) | assumption) : 0 ≤ x8_1)
          obtain ⟨ji8, hji8⟩ : ∃ j_ : Int, (shr .i64 a2 x8_1) = j_ := ⟨_, rfl⟩
          replace H : (mask_cell.l0 k1 a1 a2 (wrap64 ((wrap64 ((wrap64 (4 * x7_1)) + (wrap64 (2 * (Go.bits .and .i64 (ji6) 1))))) + (Go.bits .and .i64 (ji8) 1))) (wrap64 (x8_1 - 1))) = some r := by first | (rw [hji8] at H; exact H) | (simp only [hji8] at H ⊢; exact H)
          have hji8_ : (a2 / 2 ^ min x8_1.toNat 64) = ji8 := hji8
          have hji8z : x8_1 ≤ 64 → (a2 / 2 ^ x8_1.toNat) = ji8 := shr_small hji8
          have H' := Aside0.mk H
          clear H
          go_wp2
          repeat (go_quiet (fail); try go_wp2)
          go_roundg k1
          case measure => have := HK1.out; omega
          case rel => exact ⟨(wrap64 ((wrap64 ((wrap64 (4 * x7_1)) + (wrap64 (2 * (Go.bits .and .i64 (ji6) 1))))) + (Go.bits .and .i64 (ji8) 1))), (wrap64 (x8_1 - 1)), (by first | rfl | (simp; done) | (simp only [← hji6, ← hji8] <;> (first | rfl | simp)) | (simp [*]; done)), (by first | rfl | (simp; done) | (simp [*]; done)), H', ⟨by have := HK1.out; omega⟩, by repeat (first | exact Drawn0.refl _ | apply Drawn0.step)⟩
        · rw [if_neg c5] at H
          exact absurd H (by simp)
      · rw [if_neg c4] at H
        have c4b0 : decide (0 ≤ x8_1) = false := decide_eq_false c4
        clear c4
        obtain rfl := Option.some.inj H
        go_wp2
        repeat (go_quiet (fail); try go_wp2)
        go_ret
        exact ⟨by first | rfl | (simp; done) | (simp [*]; done), by repeat (first | exact Drawn0.refl _ | apply Drawn0.step)⟩

end Go.Proofs.Ytlplphgoldkoeaa.X

end
