/- Lemmas of the proof: part Bw. -/
import Derived.Test.YtbamanjedfccpaaBu
import Derived.Test.YtbamanjedfccpaaBt
import Derived.Test.YtbamanjedfccpaaBe
import Derived.Laws.EntriesVeiled
import Derived.Test.YtbamanjedfccpaaBc
section
set_option linter.unusedVariables false
set_option linter.unusedSimpArgs false
namespace Go.Proofs.Ytbamanjedfccpaa.HTab
open Go.RowKit Go.Proofs.YtbamanjedfccpaaW.PrintWords Go.Proofs.YtbamanjedfccpaaW.PrintLast Go.Proofs.YtbamanjedfccpaaW.PrintMore Go.Proofs.Ytbamanjedfccpaa.X
set_option linter.unusedVariables false
set_option linter.unusedSimpArgs false
def setA (out : List Int) (x : Int) (l : List Int) : List Int := l.foldl (fun o i => o.set i.toNat x) out
theorem setA_len (x : Int) : ∀ (l out : List Int), (setA out x l).length = out.length
  | [], _ => rfl
  | i :: l, out => by
    have := setA_len x l (out.set i.toNat x)
    rw [List.length_set] at this
    exact this
theorem setA_take (out : List Int) (x : Int) (l : List Int) (i : Nat) (h : i < l.length) : setA out x (l.take (i + 1)) = (setA out x (l.take i)).set (rd l (i : Int)).toNat x := by
  have e : rd l (i : Int) = l[i] := by simp [rd, h]
  rw [e, List.take_succ_eq_append_getElem h]
  unfold setA
  rw [List.foldl_append]
  rfl
def partP (lab : Int → Option (List Bool × List Bool)) : Nat → List Int → Int → Int → List Int → Option (List Int)
  | 0, _, _, _, _ => none
  | k + 1, l, lo, hi, out => if l.length = 0 ∨ hi - lo = 1 then some (setA out lo l) else
    (lab (lo + Int.tdiv (hi - lo) 2)).bind fun m => if m.2.length = out.length then
      (partP lab k (l.filter fun i => rdOf false m.2 i) (lo + Int.tdiv (hi - lo) 2) hi out).bind fun o => partP lab k (l.filter fun i => !rdOf false m.2 i) lo (lo + Int.tdiv (hi - lo) 2) o
    else none
def fnQ (gO gC gP : Nat) : Value := .func (.func 68) #[] #[.pointer (some ⟨gO, 0, none⟩), .pointer (some ⟨gC, 0, none⟩), .pointer (some ⟨gP, 0, none⟩)]
structure Cl where
  W : Int
  H : Int
  A2 : Option Addr
  c2 : Nat
  l2 : List Int
  A3 : Option Addr
  c3 : Nat
  l3 : List Int
  A4 : Option Addr
  c4 : Nat
  l4 : List Int
  A5 : Option Addr
  c5 : Nat
  l5 : List Int
def Cl.cells (C : Cl) : Array Value := #[.int .i64 C.W, .int .i64 C.H, .slice C.A2 C.l2.length C.c2, .slice C.A3 C.l3.length C.c3, .slice C.A4 C.l4.length C.c4, .slice C.A5 C.l5.length C.c5]
def Cl.lab (C : Cl) (r : Int) : Option (List Bool × List Bool) := wax_Cloth_labels.f C.W C.H C.l2 C.l3 C.l4 C.l5 r
structure Cl.In (C : Cl) (w : World) : Prop where
  r2 : Kd.C (Kd.int .i64) w C.A2 C.l2.length C.l2
  h2 : C.l2.length ≤ C.c2
  r3 : Kd.C (Kd.int .i64) w C.A3 C.l3.length C.l3
  h3 : C.l3.length ≤ C.c3
  r4 : Kd.C (Kd.int .i64) w C.A4 C.l4.length C.l4
  h4 : C.l4.length ≤ C.c4
  r5 : Kd.C (Kd.int .i64) w C.A5 C.l5.length C.l5
  h5 : C.l5.length ≤ C.c5
theorem Cl.In.below {C : Cl} {w w1 : World} (h : C.In w) (hb : Below w.heap.size w w1) : C.In w1 := ⟨Kd.C_below h.r2 hb, h.h2, Kd.C_below h.r3 hb, h.h3, Kd.C_below h.r4 hb, h.h4, Kd.C_below h.r5 hb, h.h5⟩
structure Ps (w0 w : World) (C : Cl) (gO gC gP gb cb n : Nat) (out : List Int) : Prop where
  kO : w.heap[gO]? = some (.cells #[.slice (some ⟨gb, 0, none⟩) n cb] 40 (0, 0))
  kC : w.heap[gC]? = some (.cells #[.int .i64 C.W, .int .i64 C.H, .slice C.A2 C.l2.length C.c2, .slice C.A3 C.l3.length C.c3, .slice C.A4 C.l4.length C.c4, .slice C.A5 C.l5.length C.c5] 63 (0, 0))
  kP : w.heap[gP]? = some (.cells #[fnQ gO gC gP] 108 (0, 0))
  row : KI.R 3 w w0.heap.size (fun _ => True) (.slice (some ⟨gb, 0, none⟩) n cb) out
  bel : Below w0.heap.size w0 w
section
variable {w0 w : World} {C : Cl} {gO gC gP gb cb n : Nat} {out : List Int}
theorem Ps.lb (h : Ps w0 w C gO gC gP gb cb n out) : w0.heap.size ≤ gb := Kd.R_base h.row gb rfl
theorem Ps.lt (h : Ps w0 w C gO gC gP gb cb n out) : gb < w.heap.size := Kd.R_lt h.row gb rfl
theorem Ps.below {w1 : World} (h : Ps w0 w C gO gC gP gb cb n out) (hb : Below w.heap.size w w1) : Ps w0 w1 C gO gC gP gb cb n out :=
  ⟨blk_below h.kO hb, blk_below h.kC hb, blk_below h.kP hb, Kd.R_below h.row hb, below_then h.bel h.bel.size hb⟩
theorem Ps.put (h : Ps w0 w C gO gC gP gb cb n out) (i x : Int) : Ps w0 (w.setCell ⟨gb, i.toNat, none⟩ (.int .i64 x)) C gO gC gP gb cb n (out.set i.toNat x) ∧ w.grownBy (w.setCell ⟨gb, i.toNat, none⟩ (.int .i64 x)) (some gb) := by
  obtain ⟨hr, hg⟩ := Kd.R_putg h.row i x
  refine ⟨⟨blk_grown h.kO hg (Kd.R_ne h.row h.kO (by decide)), blk_grown h.kC hg (Kd.R_ne h.row h.kC (by decide)), blk_grown h.kP hg (Kd.R_ne h.row h.kP (by decide)), hr, h.bel.grown hg h.bel.size (fun k hk => by injection hk with hk; have := h.lb; omega)⟩, hg⟩
theorem grown_trans {w w1 w2 : World} {g : Option Nat} (h : w.grownBy w1 g) (k : w1.grownBy w2 g) : w.grownBy w2 g :=
  ⟨k.os.trans h.os, k.tape.trans h.tape, k.output.trans h.output, Nat.le_trans h.size k.size, fun i hi hne => (k.block i (Nat.lt_of_lt_of_le hi h.size) hne).trans (h.block i hi hne)⟩
end
def QPost (w0 w : World) (C : Cl) (gO gC gP gb cb n : Nat) (out : List Int) (e : Ending) (w' : World) : Prop :=
  e = .returned (.tuple #[]) ∧ Ps w0 w' C gO gC gP gb cb n out ∧ w.grownBy w' (some gb)
set_option maxRecDepth 100000 in
set_option maxHeartbeats 4000000 in
theorem part_leaf (w0 w : World) (C : Cl) (gO gC gP gb cb n : Nat) (out : List Int) (hS : Ps w0 w C gO gC gP gb cb n out) (A : Option Addr) (c base : Nat) (l : List Int) (hL : KI.R 3 w base (fun k => k ≠ gb) (.slice A l.length c) l) (lo hi : Int) (hlo : -10000 ≤ lo ∧ lo ≤ 10000) (hhi : -10000 ≤ hi ∧ hi ≤ 10000) (hx : l.length = 0 ∨ hi - lo = 1) (hn : n ≤ 1000) (hin : ∀ x ∈ l, 0 ≤ x ∧ x < (n : Int)) (hll : l.length ≤ 1000) :
    Calls Try.prog 68 #[.slice A l.length c, .int .i64 lo, .int .i64 hi, .pointer (some ⟨gO, 0, none⟩), .pointer (some ⟨gC, 0, none⟩), .pointer (some ⟨gP, 0, none⟩)] w (QPost w0 w C gO gC gP gb cb n (setA out lo l)) := by
  have HS := Aside0.mk hS
  have HL := Aside0.mk hL
  have HI := Aside0.mk hin
  have e1 : wrap64 (hi - lo) = hi - lo := wrap_id (by omega) (by omega)
  have q3 : ¬ l.length = 0 → hi - lo = 1 := fun h => hx.resolve_left h
  by_cases h0 : l.length = 0
  case pos =>
    have q0 : ((l.length : Int) == 0) = true := beq_iff_eq.mpr (by omega)
    have q1 : ((l.length : Int) = 0) = True := eq_true (by omega)
    clear hS hL hin q3 hx h0
    go_enter Try.func68, Try.ntmps68
    go_wp2
    go_loopg [29] (l.length) (fun kq vi w' => ∃ i : Nat, i + kq = l.length ∧ vi = .int .i64 i ∧ Aside0 (Ps w0 w' C gO gC gP gb cb n (setA out lo (l.take i))) ∧ Aside0 (w.grownBy w' (some gb)))
    case atStart => exact ⟨0, by omega, rfl, HS, ⟨World.grownBy.refl w _⟩⟩
    case round =>
      obtain ⟨i, hi_, rfl, HP, HG⟩ := hrel
      by_cases hlt : i < l.length
      · have hdec : decide (i < l.length) = true := decide_eq_true hlt
        have hL2 := Kd.R_grown HL.out HG.out (fun k hk he => hk (by injection he))
        obtain ⟨gl, capl, hvl, _⟩ := Kd.R_form HL.out (by omega)
        injection hvl with hv1 hv2 hv3
        subst hv1
        clear hv2 hv3 capl
        obtain ⟨kl, fl⟩ := R_at hL2 (i : Int) (by omega) (by omega)
        simp only [Int.toNat_natCast] at kl fl
        have hm := HI.out _ (rd_mem l (i : Int) (by omega) (by omega))
        have hs := setA_take out lo l i hlt
        obtain ⟨x, hx⟩ : ∃ x, x = rd l (i : Int) := ⟨_, rfl⟩
        rw [← hx] at kl hm hs
        obtain ⟨kr, fr⟩ := R_at HP.out.row x hm.1 hm.2
        have ko : _ = some (Value.slice (some ⟨gb, 0, none⟩) n cb) := (blk_cell HP.out.kO 0).trans rfl
        obtain ⟨hp, hg⟩ := HP.out.put x lo
        rw [← hs] at hp
        have HP2 := Aside0.mk hp
        have HG2 := Aside0.mk (grown_trans HG.out hg)
        have b0 : (x < 0) = False := eq_false (by omega)
        have b1 : (x < (n : Int)) = True := eq_true hm.2
        have b2 : (0 ≤ x) = True := eq_true hm.1
        clear hx hs hp hg hL2 hm
        go_wp2
        go_roundg (l.length - (i + 1))
        case measure => omega
        case rel => exact ⟨i + 1, by omega, by go_num, HP2, HG2⟩
      · have hdec : decide (i < l.length) = false := decide_eq_false hlt
        obtain rfl : i = l.length := by omega
        have HP2 := HP
        rw [List.take_length] at HP2
        go_wp2
        first | go_end0 | ((try simp only [Exit.inBlock, Exit.then]); refine bodyPost_ret (results_none rfl _ _ _) rfl ?_)
        exact ⟨by rfl, HP2.out, HG.out⟩
  case neg =>
    have q0 : ((l.length : Int) == 0) = false := beq_eq_false_iff_ne.mpr (by omega)
    have q1 : ((l.length : Int) = 0) = False := eq_false (by omega)
    have q4 : (hi - lo == 1) = true := beq_iff_eq.mpr (q3 h0)
    have q5 : (hi - lo = 1) = True := eq_true (q3 h0)
    clear hS hL hin q3 hx h0
    go_enter Try.func68, Try.ntmps68
    go_wp2
    clear q4 q5
    go_loopg [29] (l.length) (fun kq vi w' => ∃ i : Nat, i + kq = l.length ∧ vi = .int .i64 i ∧ Aside0 (Ps w0 w' C gO gC gP gb cb n (setA out lo (l.take i))) ∧ Aside0 (w.grownBy w' (some gb)))
    case atStart => exact ⟨0, by omega, rfl, HS, ⟨World.grownBy.refl w _⟩⟩
    case round =>
      obtain ⟨i, hi_, rfl, HP, HG⟩ := hrel
      by_cases hlt : i < l.length
      · have hdec : decide (i < l.length) = true := decide_eq_true hlt
        have hL2 := Kd.R_grown HL.out HG.out (fun k hk he => hk (by injection he))
        obtain ⟨gl, capl, hvl, _⟩ := Kd.R_form HL.out (by omega)
        injection hvl with hv1 hv2 hv3
        subst hv1
        clear hv2 hv3 capl
        obtain ⟨kl, fl⟩ := R_at hL2 (i : Int) (by omega) (by omega)
        simp only [Int.toNat_natCast] at kl fl
        have hm := HI.out _ (rd_mem l (i : Int) (by omega) (by omega))
        have hs := setA_take out lo l i hlt
        obtain ⟨x, hx⟩ : ∃ x, x = rd l (i : Int) := ⟨_, rfl⟩
        rw [← hx] at kl hm hs
        obtain ⟨kr, fr⟩ := R_at HP.out.row x hm.1 hm.2
        have ko : _ = some (Value.slice (some ⟨gb, 0, none⟩) n cb) := (blk_cell HP.out.kO 0).trans rfl
        obtain ⟨hp, hg⟩ := HP.out.put x lo
        rw [← hs] at hp
        have HP2 := Aside0.mk hp
        have HG2 := Aside0.mk (grown_trans HG.out hg)
        have b0 : (x < 0) = False := eq_false (by omega)
        have b1 : (x < (n : Int)) = True := eq_true hm.2
        have b2 : (0 ≤ x) = True := eq_true hm.1
        clear hx hs hp hg hL2 hm
        go_wp2
        go_roundg (l.length - (i + 1))
        case measure => omega
        case rel => exact ⟨i + 1, by omega, by go_num, HP2, HG2⟩
      · have hdec : decide (i < l.length) = false := decide_eq_false hlt
        obtain rfl : i = l.length := by omega
        have HP2 := HP
        rw [List.take_length] at HP2
        go_wp2
        first | go_end0 | ((try simp only [Exit.inBlock, Exit.then]); refine bodyPost_ret (results_none rfl _ _ _) rfl ?_)
        exact ⟨by rfl, HP2.out, HG.out⟩
set_option maxRecDepth 100000 in
set_option maxHeartbeats 8000000 in
theorem part_on (w0 w : World) (C : Cl) (gO gC gP gb cb n : Nat) (out out1 out2 : List Int) (hS : Ps w0 w C gO gC gP gb cb n out) (hI : C.In w0) (A : Option Addr) (c base : Nat) (l : List Int) (hL : KI.R 3 w base (fun k => k ≠ gb) (.slice A l.length c) l) (lo hi mid : Int) (hlo : -10000 ≤ lo ∧ lo ≤ 10000) (hhi : -10000 ≤ hi ∧ hi ≤ 10000) (hx : ¬ (l.length = 0 ∨ hi - lo = 1)) (hn : n ≤ 1000) (hin : ∀ x ∈ l, 0 ≤ x ∧ x < (n : Int)) (hll : l.length ≤ 1000)
    (hmid : mid = lo + Int.tdiv (hi - lo) 2) (hmm : -10000 ≤ mid ∧ mid ≤ 10000) (m0 m1 : List Bool) (hlab : C.lab mid = some (m0, m1)) (hm1 : m1.length = n)
    (IH1 : ∀ W As cs base, Ps w0 W C gO gC gP gb cb n out → KI.R 3 W base (fun k => k ≠ gb) (.slice As (l.filter fun i => rdOf false m1 i).length cs) (l.filter fun i => rdOf false m1 i) → Calls Try.prog 68 #[.slice As (l.filter fun i => rdOf false m1 i).length cs, .int .i64 mid, .int .i64 hi, .pointer (some ⟨gO, 0, none⟩), .pointer (some ⟨gC, 0, none⟩), .pointer (some ⟨gP, 0, none⟩)] W (QPost w0 W C gO gC gP gb cb n out1))
    (IH2 : ∀ W As cs base, Ps w0 W C gO gC gP gb cb n out1 → KI.R 3 W base (fun k => k ≠ gb) (.slice As (l.filter fun i => !rdOf false m1 i).length cs) (l.filter fun i => !rdOf false m1 i) → Calls Try.prog 68 #[.slice As (l.filter fun i => !rdOf false m1 i).length cs, .int .i64 lo, .int .i64 mid, .pointer (some ⟨gO, 0, none⟩), .pointer (some ⟨gC, 0, none⟩), .pointer (some ⟨gP, 0, none⟩)] W (QPost w0 W C gO gC gP gb cb n out2)) :
    Calls Try.prog 68 #[.slice A l.length c, .int .i64 lo, .int .i64 hi, .pointer (some ⟨gO, 0, none⟩), .pointer (some ⟨gC, 0, none⟩), .pointer (some ⟨gP, 0, none⟩)] w (QPost w0 w C gO gC gP gb cb n out2) := by
  have HS := Aside0.mk hS
  have HL := Aside0.mk hL
  have HI := Aside0.mk hin
  have HC := Aside0.mk hI
  have I1 := Aside0.mk IH1
  have I2 := Aside0.mk IH2
  have HM := Aside0.mk hlab
  have HM1 := Aside0.mk hm1
  have h0 : ¬ l.length = 0 := fun h => hx (.inl h)
  have h1 : ¬ hi - lo = 1 := fun h => hx (.inr h)
  have e1 : wrap64 (hi - lo) = hi - lo := wrap_id (by omega) (by omega)
  have q0 : ((l.length : Int) == 0) = false := beq_eq_false_iff_ne.mpr (by omega)
  have q1 : ((l.length : Int) = 0) = False := eq_false (by omega)
  have q4 : (hi - lo == 1) = false := beq_eq_false_iff_ne.mpr h1
  have q5 : (hi - lo = 1) = False := eq_false h1
  have e2 : wrap64 (Int.tdiv (hi - lo) 2) = Int.tdiv (hi - lo) 2 := by
    have : Int.tdiv (hi - lo) 2 = mid - lo := by omega
    rw [this]
    exact wrap_id (by omega) (by omega)
  have e3 : wrap64 (lo + Int.tdiv (hi - lo) 2) = mid := by rw [← hmid]; exact wrap_id (by omega) (by omega)
  have kc : ∀ i : Nat, _ := fun i => blk_cell hS.kC i
  have k0 := (kc 0).trans rfl
  have k1 := (kc 1).trans rfl
  have k2 := (kc 2).trans rfl
  have k3 := (kc 3).trans rfl
  have k4 := (kc 4).trans rfl
  have k5 := (kc 5).trans rfl
  clear hS hI hL hin IH1 IH2 hlab hm1 h0 h1 hx hmid kc
  go_enter Try.func68, Try.ntmps68
  go_wp2_with fail
  refine (wax_Cloth_labels.calls C.W C.H C.A2 C.c2 C.l2 C.A3 C.c3 C.l3 C.A4 C.c4 C.l4 C.A5 C.c5 C.l5 mid m0 m1 w (HC.out.below HS.out.bel).r2 HC.out.h2 (HC.out.below HS.out.bel).r3 HC.out.h3 (HC.out.below HS.out.bel).r4 HC.out.h4 (HC.out.below HS.out.bel).r5 HC.out.h5 HM.out).mono ?_
  rintro e w1 ⟨v0, v1, rfl, hv0, hv1, hb1⟩
  obtain ⟨Am, cm, rfl⟩ := Kv.R_slice hv1
  have HB1 := Aside0.mk hb1
  have HS1 := Aside0.mk (HS.out.below hb1)
  have HL1 := Aside0.mk (Kd.R_below HL.out hb1)
  have HV1 := Aside0.mk (Kv.R_reads' hv1).2.2
  have HG1 : Aside0 (gb < w1.heap.size) := ⟨HS1.out.lt⟩
  have hml : Aside0 ((m1.length : Int) = (n : Int)) := ⟨by have := HM1.out; omega⟩
  clear hv0 hv1 hb1 k0 k1 k2 k3 k4 k5 q0 q1 q4 q5 e1 e2
  go_wp2
  clear e3
  go_loopg [14, 15, 52] (l.length) (fun kq vs vn vi w' => ∃ (i : Nat) (As : Option Addr) (cs : Nat) (An : Option Addr) (cn : Nat), i + kq = l.length ∧ vi = .int .i64 i ∧ vs = .slice As ((l.take i).filter fun i => rdOf false m1 i).length cs ∧ vn = .slice An ((l.take i).filter fun i => !rdOf false m1 i).length cn ∧ Aside0 (KI.R 3 w' w1.heap.size (fun k => True ∧ some k ≠ (Value.slice An ((l.take i).filter fun i => !rdOf false m1 i).length cn).ownBlock) (.slice As ((l.take i).filter fun i => rdOf false m1 i).length cs) ((l.take i).filter fun i => rdOf false m1 i)) ∧ Aside0 (KI.R 3 w' w1.heap.size (fun k => True ∧ some k ≠ (Value.slice As ((l.take i).filter fun i => rdOf false m1 i).length cs).ownBlock) (.slice An ((l.take i).filter fun i => !rdOf false m1 i).length cn) ((l.take i).filter fun i => !rdOf false m1 i)) ∧ Aside0 (Below w1.heap.size w1 w'))
  case atStart => exact ⟨0, none, 0, none, 0, by omega, rfl, rfl, rfl, ⟨Kd.R_nil _ _ _ _ _⟩, ⟨Kd.R_nil _ _ _ _ _⟩, ⟨Below.refl _ _⟩⟩
  case round =>
    obtain ⟨i, As, cs, An, cn, hi_, rfl, rfl, rfl, HY, HN, HW⟩ := hrel
    by_cases hlt : i < l.length
    · have hdec : decide (i < l.length) = true := decide_eq_true hlt
      have hL2 := Kd.R_below HL1.out HW.out
      obtain ⟨gl, capl, hvl, _⟩ := Kd.R_form HL1.out (by omega)
      injection hvl with hv1 hv2 hv3
      subst hv1
      clear hv2 hv3 capl
      obtain ⟨kl, fl⟩ := R_at hL2 (i : Int) (by omega) (by omega)
      simp only [Int.toNat_natCast] at kl fl
      have hm := HI.out _ (rd_mem l (i : Int) (by omega) (by omega))
      have ht : l.take (i + 1) = l.take i ++ [rd l (i : Int)] := by
        have e : rd l (i : Int) = l[i] := by simp [rd, hlt]
        rw [e, List.take_succ_eq_append_getElem hlt]
      have hlen : Aside0 (((l.take i).filter fun i => rdOf false m1 i).length ≤ 1000 ∧ ((l.take i).filter fun i => !rdOf false m1 i).length ≤ 1000) := ⟨by
        have a := List.length_filter_le (fun i => rdOf false m1 i) (l.take i)
        have b := List.length_filter_le (fun i => !rdOf false m1 i) (l.take i)
        rw [List.length_take] at a b
        omega⟩
      obtain ⟨x, hx⟩ : ∃ x, x = rd l (i : Int) := ⟨_, rfl⟩
      rw [← hx] at kl hm ht
      have hx1 : x < (m1.length : Int) := by rw [hml.out]; exact hm.2
      obtain ⟨ad, ea, kb⟩ := Kd.at_bool (Kd.C_below HV1.out HW.out) x hm.1 hx1
      subst ea
      have b0 : (x < 0) = False := eq_false (by omega)
      have b1 : (x < (m1.length : Int)) = True := eq_true hx1
      have b2 : (0 ≤ x) = True := eq_true hm.1
      clear hx hL2 hm hx1
      cases hq : rdOf false m1 x with
      | true =>
        have hY : (l.take i).filter (fun i => rdOf false m1 i) ++ [x] = (l.take (i + 1)).filter (fun i => rdOf false m1 i) := by rw [ht, List.filter_append]; simp [hq]
        have hN : (l.take i).filter (fun i => !rdOf false m1 i) = (l.take (i + 1)).filter (fun i => !rdOf false m1 i) := by rw [ht, List.filter_append]; simp [hq]
        rw [hq] at kb
        have HE := Aside0.mk (And.intro hY hN)
        clear ht hY hN hq
        go_wp2_with ((with_reducible refine gate_dst (N := 63) rfl ?_); refine mark_ ?_)
        refine ⟨?_⟩
        refine Kd.R_append KI (w0 := w1) (W := wr) w1.heap.size rfl (.tmp 60) (.tmp 62) 40 3 (.int .i64 0) 8 rfl Try.underlying40 info3 rfl (by decide) (by decide) (.slice As ((l.take i).filter fun i => rdOf false m1 i).length cs) ((l.take i).filter fun i => rdOf false m1 i) x [.int .i64 x] (fun k => True ∧ some k ≠ (Value.slice An ((l.take i).filter fun i => !rdOf false m1 i).length cn).ownBlock) (fun _ => False) rfl rfl rfl (fun k hk => hk.elim) (fun k hk => ⟨trivial, Kd.fresh' (Kd.R_lt HN.out) k hk⟩) HY.out HW.out HW.out.size (by have := hlen.out; omega) ?_
        intro v9 w7 hR7 hB7 hg7 hat7
        have hN7 := Kd.R_after (ok := fun _ => True) HN.out hg7 hat7
        rw [HE.out.1] at hR7
        obtain ⟨A7, c7, rfl, _⟩ := Kd.R_reads hR7
        rw [HE.out.2] at hR7 hN7
        have HY7 := Aside0.mk hR7
        have HN7 := Aside0.mk hN7
        have HW7 := Aside0.mk hB7
        clear hR7 hN7 hB7 hg7 hat7 kl fl kb b0 b1 b2
        go_wp2
        go_roundg (l.length - (i + 1))
        case measure => omega
        case rel => exact ⟨i + 1, _, _, _, _, by omega, by go_num, rfl, by rw [← HE.out.2], HY7, HN7, HW7⟩
      | false =>
        have hY : (l.take i).filter (fun i => rdOf false m1 i) = (l.take (i + 1)).filter (fun i => rdOf false m1 i) := by rw [ht, List.filter_append]; simp [hq]
        have hN : (l.take i).filter (fun i => !rdOf false m1 i) ++ [x] = (l.take (i + 1)).filter (fun i => !rdOf false m1 i) := by rw [ht, List.filter_append]; simp [hq]
        rw [hq] at kb
        have HE := Aside0.mk (And.intro hY hN)
        clear ht hY hN hq
        go_wp2_with ((with_reducible refine gate_dst (N := 67) rfl ?_); refine mark_ ?_)
        refine ⟨?_⟩
        refine Kd.R_append KI (w0 := w1) (W := wr) w1.heap.size rfl (.tmp 64) (.tmp 66) 40 3 (.int .i64 0) 8 rfl Try.underlying40 info3 rfl (by decide) (by decide) (.slice An ((l.take i).filter fun i => !rdOf false m1 i).length cn) ((l.take i).filter fun i => !rdOf false m1 i) x [.int .i64 x] (fun k => True ∧ some k ≠ (Value.slice As ((l.take i).filter fun i => rdOf false m1 i).length cs).ownBlock) (fun _ => False) rfl rfl rfl (fun k hk => hk.elim) (fun k hk => ⟨trivial, Kd.fresh' (Kd.R_lt HY.out) k hk⟩) HN.out HW.out HW.out.size (by have := hlen.out; omega) ?_
        intro v9 w7 hR7 hB7 hg7 hat7
        have hN7 := Kd.R_after (ok := fun _ => True) HY.out hg7 hat7
        rw [HE.out.2] at hR7
        obtain ⟨A7, c7, rfl, _⟩ := Kd.R_reads hR7
        rw [HE.out.1] at hR7 hN7
        have HN7 := Aside0.mk hR7
        have HY7 := Aside0.mk hN7
        have HW7 := Aside0.mk hB7
        clear hR7 hN7 hB7 hg7 hat7 kl fl kb b0 b1 b2
        go_wp2
        go_roundg (l.length - (i + 1))
        case measure => omega
        case rel => exact ⟨i + 1, _, _, _, _, by omega, by go_num, by rw [← HE.out.1], rfl, HY7, HN7, HW7⟩
    · have hdec : decide (i < l.length) = false := decide_eq_false hlt
      obtain rfl : i = l.length := by omega
      simp only [List.take_length] at HY HN ⊢
      have HSW := Aside0.mk (HS1.out.below HW.out)
      have kp : _ = some (fnQ gO gC gP) := (blk_cell HSW.out.kP 0).trans rfl
      unfold fnQ at kp
      have hY : Aside0 (KI.R 3 wr w1.heap.size (fun k => k ≠ gb) (.slice As (l.filter fun i => rdOf false m1 i).length cs) (l.filter fun i => rdOf false m1 i)) := ⟨Kd.R_mono (Kd.R_bound HY.out) (fun k hk => by have := hk.2.1; have := HG1.out; omega)⟩
      have hN : Aside0 (KI.R 3 wr w1.heap.size (fun k => k ≠ gb) (.slice An (l.filter fun i => !rdOf false m1 i).length cn) (l.filter fun i => !rdOf false m1 i)) := ⟨Kd.R_mono (Kd.R_bound HN.out) (fun k hk => by have := hk.2.1; have := HG1.out; omega)⟩
      clear HY HN
      go_wp2_with fail
      refine (I1.out wr As cs w1.heap.size HSW.out hY.out).mono ?_
      rintro e w3 ⟨rfl, hS3, hg3⟩
      have HS3 := Aside0.mk hS3
      have HG3 := Aside0.mk hg3
      have HN3 := Aside0.mk (Kd.R_grown hN.out hg3 (fun k hk he => hk (by injection he)))
      have kp3 : _ = some (fnQ gO gC gP) := (blk_cell hS3.kP 0).trans rfl
      unfold fnQ at kp3
      clear hS3 hg3 kp
      go_wp2_with fail
      refine (I2.out w3 An cn w1.heap.size HS3.out HN3.out).mono ?_
      rintro e w4 ⟨rfl, hS4, hg4⟩
      have HS4 := Aside0.mk hS4
      have HG4 := Aside0.mk (grown_trans (grown_trans (grown_of_below HB1.out (some gb)) (grown_trans (grown_of_below HW.out (some gb)) HG3.out)) hg4)
      clear hS4 hg4 kp3
      go_wp2
      first | go_end0 | ((try simp only [Exit.inBlock, Exit.then]); refine bodyPost_ret (results_none rfl _ _ _) rfl ?_)
      exact ⟨by rfl, HS4.out, HG4.out⟩
theorem part_calls (w0 : World) (C : Cl) (gO gC gP gb cb n : Nat) (hI : C.In w0) (hn : n ≤ 1000) : ∀ (k : Nat) (l : List Int) (lo hi : Int) (out r : List Int), partP C.lab k l lo hi out = some r → -10000 ≤ lo → lo < hi → hi ≤ 10000 → (∀ x ∈ l, 0 ≤ x ∧ x < (n : Int)) → l.length ≤ 1000 →
    ∀ (w : World) (A : Option Addr) (c base : Nat), Ps w0 w C gO gC gP gb cb n out → KI.R 3 w base (fun k => k ≠ gb) (.slice A l.length c) l →
      Calls Try.prog 68 #[.slice A l.length c, .int .i64 lo, .int .i64 hi, .pointer (some ⟨gO, 0, none⟩), .pointer (some ⟨gC, 0, none⟩), .pointer (some ⟨gP, 0, none⟩)] w (QPost w0 w C gO gC gP gb cb n r)
  | 0, l, lo, hi, out, r, h, _, _, _, _, _ => by simp [partP] at h
  | k + 1, l, lo, hi, out, r, h, h1, h2, h3, hin, hll => by
    intro w A c base hS hL
    simp only [partP] at h
    split at h
    · rename_i hx
      injection h with h
      subst h
      exact part_leaf w0 w C gO gC gP gb cb n out hS A c base l hL lo hi ⟨by omega, by omega⟩ ⟨by omega, by omega⟩ hx hn hin hll
    · rename_i hx
      obtain ⟨m, hm, h⟩ := Option.bind_eq_some_iff.1 h
      split at h
      · rename_i hml
        obtain ⟨o, ho, h⟩ := Option.bind_eq_some_iff.1 h
        have hon := (Kd.R_reads' hS.row).1
        have hd : 2 ≤ hi - lo := by
          rcases Int.lt_or_le (hi - lo) 2 with q | q
          · exact absurd (show l.length = 0 ∨ hi - lo = 1 from .inr (by omega)) hx
          · exact q
        have hmid : Int.tdiv (hi - lo) 2 = (hi - lo) / 2 := Int.tdiv_eq_ediv_of_nonneg (by omega)
        have a := List.length_filter_le (fun i => rdOf false m.2 i) l
        have b := List.length_filter_le (fun i => !rdOf false m.2 i) l
        exact part_on w0 w C gO gC gP gb cb n out o r hS hI A c base l hL lo hi (lo + Int.tdiv (hi - lo) 2) ⟨by omega, by omega⟩ ⟨by omega, by omega⟩ hx hn hin hll rfl (by rw [hmid]; omega) m.1 m.2 hm (by omega)
          (fun W As cs base' hS' hL' => part_calls w0 C gO gC gP gb cb n hI hn k _ _ _ _ _ ho (by rw [hmid]; omega) (by rw [hmid]; omega) (by omega) (fun x hx => hin x (List.mem_filter.1 hx).1) (by omega) W As cs base' hS' hL')
          (fun W As cs base' hS' hL' => part_calls w0 C gO gC gP gb cb n hI hn k _ _ _ _ _ h (by omega) (by rw [hmid]; omega) (by rw [hmid]; omega) (fun x hx => hin x (List.mem_filter.1 hx).1) (by omega) W As cs base' hS' hL')
      · cases h
def cellsL (i : Nat) : List Int := (List.range i).map fun (j : Nat) => (j : Int)
theorem cellsL_len (i : Nat) : (cellsL i).length = i := by simp [cellsL]
theorem cellsL_succ (i : Nat) : cellsL i ++ [(i : Int)] = cellsL (i + 1) := by unfold cellsL; rw [List.range_succ, List.map_append]; rfl
def PrP (w : World) (r : List Int) (b : Int) (e : Ending) (w' : World) : Prop := ∃ v : Value, e = .returned (.tuple #[v, .int .i64 b]) ∧ KI.R 3 w' w.heap.size (fun _ => True) v r ∧ Below w.heap.size w w'
set_option maxRecDepth 100000 in
set_option maxHeartbeats 8000000 in
theorem prices_err (C : Cl) (w : World) (hI : C.In w) (hv : cvB C.W C.H C.l2 C.l3 C.l4 C.l5 = false) :
    Calls Try.prog 44 #[.agg #[.int .i64 C.W, .int .i64 C.H, .slice C.A2 C.l2.length C.c2, .slice C.A3 C.l3.length C.c3, .slice C.A4 C.l4.length C.c4, .slice C.A5 C.l5.length C.c5]] w (PrP w [] 2) := by
  have HI := Aside0.mk hI
  have HV := Aside0.mk hv
  obtain ⟨W0, hW0⟩ : ∃ W, W = w.alloc (.cells #[.int .i64 C.W, .int .i64 C.H, .slice C.A2 C.l2.length C.c2, .slice C.A3 C.l3.length C.c3, .slice C.A4 C.l4.length C.c4, .slice C.A5 C.l5.length C.c5] 63) := ⟨_, rfl⟩
  have HB0 := Aside0.mk (show Below w.heap.size w W0 by rw [hW0]; exact below_alloc (Below.refl _ _) _)
  clear hI hv
  go_enter Try.func44, Try.ntmps44
  go_wp2_with fail
  rw [← hW0]
  have HI0 := Aside0.mk (HI.out.below HB0.out)
  refine (wax_Cloth_valid.calls C.W C.H C.A2 C.c2 C.l2 C.A3 C.c3 C.l3 C.A4 C.c4 C.l4 C.A5 C.c5 C.l5 false W0 HI0.out.r2 HI0.out.h2 HI0.out.r3 HI0.out.h3 HI0.out.r4 HI0.out.h4 HI0.out.r5 HI0.out.h5 (by unfold wax_Cloth_valid.f; rw [HV.out])).mono ?_
  rintro e w2 ⟨rfl, hb2⟩
  have HB2 := Aside0.mk (below_then HB0.out HB0.out.size hb2)
  clear hb2
  go_wp2
  go_ret2
  exact ⟨_, rfl, Kd.R_nil _ _ _ _ _, HB2.out⟩
set_option maxRecDepth 100000 in
set_option maxHeartbeats 8000000 in
theorem prices_ok (C : Cl) (w : World) (hI : C.In w) (hv : cvB C.W C.H C.l2 C.l3 C.l4 C.l5 = true) (n : Nat) (hn : (n : Int) = C.W * C.H) (h1 : 1 ≤ n) (h36 : n ≤ 36) (k : Nat) (r : List Int) (hr : partP C.lab k (cellsL n) (-5001) 5001 (List.replicate n 0) = some r) :
    Calls Try.prog 44 #[.agg #[.int .i64 C.W, .int .i64 C.H, .slice C.A2 C.l2.length C.c2, .slice C.A3 C.l3.length C.c3, .slice C.A4 C.l4.length C.c4, .slice C.A5 C.l5.length C.c5]] w (PrP w r 0) := by
  have HI := Aside0.mk hI
  have HV := Aside0.mk hv
  have HR := Aside0.mk hr
  have e0 : wrap64 (C.W * C.H) = (n : Int) := by rw [← hn]; exact wrap_id (by omega) (by omega)
  obtain ⟨W0, hW0⟩ : ∃ W, W = w.alloc (.cells #[.int .i64 C.W, .int .i64 C.H, .slice C.A2 C.l2.length C.c2, .slice C.A3 C.l3.length C.c3, .slice C.A4 C.l4.length C.c4, .slice C.A5 C.l5.length C.c5] 63) := ⟨_, rfl⟩
  have HB0 := Aside0.mk (show Below w.heap.size w W0 by rw [hW0]; exact below_alloc (Below.refl _ _) _)
  have HX0 := Aside0.mk (show W0.heap[w.heap.size]? = some (.cells #[.int .i64 C.W, .int .i64 C.H, .slice C.A2 C.l2.length C.c2, .slice C.A3 C.l3.length C.c3, .slice C.A4 C.l4.length C.c4, .slice C.A5 C.l5.length C.c5] 63 (0, 0)) by rw [hW0]; exact blk_new _ _)
  clear hI hv hr hn
  go_enter Try.func44, Try.ntmps44
  go_wp2_with fail
  rw [← hW0]
  have HI0 := Aside0.mk (HI.out.below HB0.out)
  refine (wax_Cloth_valid.calls C.W C.H C.A2 C.c2 C.l2 C.A3 C.c3 C.l3 C.A4 C.c4 C.l4 C.A5 C.c5 C.l5 true W0 HI0.out.r2 HI0.out.h2 HI0.out.r3 HI0.out.h3 HI0.out.r4 HI0.out.h4 HI0.out.r5 HI0.out.h5 (by unfold wax_Cloth_valid.f; rw [HV.out])).mono ?_
  rintro e w2 ⟨rfl, hb2⟩
  have HB2 := Aside0.mk (below_then HB0.out HB0.out.size hb2)
  have hbx2 := blk_below HX0.out hb2
  have HX2 := Aside0.mk hbx2
  have j0 := (blk_cell hbx2 0).trans rfl
  have j1 := (blk_cell hbx2 1).trans rfl
  clear hb2 hbx2
  have HS2 : Aside0 (w.heap.size ≤ w2.heap.size) := ⟨HB2.out.size⟩
  have HBr : Aside0 (Below w.heap.size w w2) := HB2
  go_wp2_with ((with_reducible refine gate_dst (N := 16) rfl ?_); refine mark_ ?_)
  refine ⟨?_⟩
  refine Kd.R_make (Kd.int .i64) (w0 := w2) w2.heap.size 3 rfl (N := 16) rfl 40 _ _ rfl (n : Int) (congrArg (Value.int .i64) e0) (congrArg (Value.int .i64) e0) Try.underlying40 (.int .i64 0) 8 info3 rfl (by decide) (by omega) 0 (ok := fun _ => True) (okp := fun _ => False) rfl (fun _ h => trivial) trivial (by omega) (by rw [Int.toNat_natCast]; omega) (Below.refl _ _) (Nat.le_refl _) ?_
  intro v3 w3 hR3 hB3 hg3 hne3
  obtain ⟨gb, cb, rfl, hgb⟩ := made_slice hR3 hne3
  rw [List.length_replicate, Int.toNat_natCast] at hR3
  rw [List.length_replicate, Int.toNat_natCast]
  have R3 := Aside0.mk hR3
  have B3 := Aside0.mk hB3
  have G3 := Aside0.mk hgb
  have X3 := Aside0.mk (blk_below HX2.out hB3)
  clear hR3 hB3 hg3 hne3 hgb j0 j1
  go_wp2
  obtain ⟨w4, hw4⟩ : ∃ W, W = w3.alloc (.cells #[.slice (some ⟨gb, 0, none⟩) n cb] 40) := ⟨_, rfl⟩
  have hb4 : Below w3.heap.size w3 w4 := by rw [hw4]; exact below_alloc (Below.refl _ _) _
  have K4 := Aside0.mk (show w4.heap[w3.heap.size]? = some (.cells #[.slice (some ⟨gb, 0, none⟩) n cb] 40 (0, 0)) by rw [hw4]; exact blk_new _ _)
  have R4 := Aside0.mk (Kd.R_below R3.out hb4)
  have X4 := Aside0.mk (blk_below X3.out hb4)
  have B4 := Aside0.mk (below_then B3.out B3.out.size hb4)
  have S4 := Aside0.mk hb4.size
  rw [← hw4]
  clear hw4 hb4
  go_loopg [5, 19] n (fun kq va vi w' => ∃ (i : Nat) (Aa : Option Addr) (ca : Nat), i + kq = n ∧ vi = .int .i64 i ∧ va = .slice Aa (cellsL i).length ca ∧ Aside0 (KI.R 3 w' w4.heap.size (fun _ => True) (.slice Aa (cellsL i).length ca) (cellsL i)) ∧ Aside0 (Below w4.heap.size w4 w'))
  case atStart => exact ⟨0, none, 0, by omega, rfl, rfl, ⟨Kd.R_nil _ _ _ _ _⟩, ⟨Below.refl _ _⟩⟩
  case round =>
    obtain ⟨i, Aa, ca, hi_, rfl, rfl, HO, HW⟩ := hrel
    by_cases hlt : i < n
    · have hdec : decide (i < n) = true := decide_eq_true hlt
      have hsucc : Aside0 (cellsL i ++ [(i : Int)] = cellsL (i + 1)) := ⟨cellsL_succ i⟩
      go_wp2_with ((with_reducible refine gate_dst (N := 25) rfl ?_); refine mark_ ?_)
      refine ⟨?_⟩
      refine Kd.R_append KI (w0 := w4) (W := wr) w4.heap.size rfl (.tmp 22) (.tmp 24) 40 3 (.int .i64 0) 8 rfl Try.underlying40 info3 rfl (by decide) (by decide) (.slice Aa (cellsL i).length ca) (cellsL i) (i : Int) [.int .i64 i] (fun _ => True) (fun _ => False) rfl rfl rfl (fun k hk => hk.elim) (fun k hk => trivial) HO.out HW.out HW.out.size (by rw [cellsL_len]; omega) ?_
      intro v9 w7 hR7 hB7 hg7 hat7
      rw [hsucc.out] at hR7
      obtain ⟨A7, c7, rfl, _⟩ := Kd.R_reads hR7
      have HO7 := Aside0.mk hR7
      have HW7 := Aside0.mk hB7
      clear hR7 hB7 hg7 hat7
      go_wp2
      go_roundg (n - (i + 1))
      case measure => omega
      case rel => exact ⟨i + 1, _, _, by omega, by go_num, rfl, HO7, HW7⟩
    · have hdec : decide (i < n) = false := decide_eq_false hlt
      obtain rfl : i = n := by omega
      obtain ⟨W6, hW6⟩ : ∃ W, W = wr.alloc (.cells #[.func (.func 68) #[] #[.pointer (some ⟨w3.heap.size, 0, none⟩), .pointer (some ⟨w.heap.size, 0, none⟩), .pointer (some ⟨wr.heap.size, 0, none⟩)]] 108) := ⟨_, rfl⟩
      have hB6 : Below wr.heap.size wr W6 := by rw [hW6]; exact below_alloc (Below.refl _ _) _
      have KP6 := Aside0.mk (show W6.heap[wr.heap.size]? = some (.cells #[fnQ w3.heap.size w.heap.size wr.heap.size] 108 (0, 0)) by rw [hW6]; exact blk_new _ _)
      have HP := Aside0.mk (show Ps w2 W6 C w3.heap.size w.heap.size wr.heap.size gb cb i (List.replicate i 0) from ⟨blk_below (blk_below K4.out HW.out) hB6, blk_below (blk_below X4.out HW.out) hB6, KP6.out, Kd.R_below (Kd.R_below R4.out HW.out) hB6, below_then (below_then B4.out B4.out.size HW.out) (Nat.le_trans B4.out.size HW.out.size) hB6⟩)
      have HO6 := Aside0.mk (Kd.R_mono (ok' := fun k => k ≠ gb) (Kd.R_bound (Kd.R_below HO.out hB6)) (fun k hk => by have := hk.2.1; have := G3.out; have := S4.out; omega))
      clear hB6
      go_wp2_with fail
      rw [← hW6]
      clear hW6
      refine (part_calls w2 C w3.heap.size w.heap.size wr.heap.size gb cb i (HI.out.below HBr.out) (by omega) k (cellsL i) (-5001) 5001 (List.replicate i 0) r HR.out (by omega) (by omega) (by omega) (fun x hx => ?_) (by rw [cellsL_len]; omega) W6 Aa ca w4.heap.size HP.out HO6.out).mono ?_
      · obtain ⟨j, hj, rfl⟩ := List.mem_map.1 hx
        have := List.mem_range.1 hj
        omega
      rintro e w8 ⟨rfl, hS8, hg8⟩
      have HS8 := Aside0.mk hS8
      have y2 := (blk_cell hS8.kO 0).trans rfl
      clear hS8 hg8
      go_wp2
      go_ret2
      exact ⟨_, by rfl, Kd.R_lower HS8.out.row HBr.out.size, below_then HBr.out HBr.out.size HS8.out.bel⟩
theorem cvB_n {W H : Int} {l2 l3 l4 l5 : List Int} (h : cvB W H l2 l3 l4 l5 = true) : 1 ≤ W * H ∧ W * H ≤ 36 := by
  unfold cvB at h
  simp only [Bool.and_eq_true, decide_eq_true_eq] at h
  obtain ⟨⟨hw, hh⟩, _⟩ := h
  have h1 : W = 1 ∨ W = 2 ∨ W = 3 ∨ W = 4 ∨ W = 5 ∨ W = 6 := by omega
  rcases h1 with h1 | h1 | h1 | h1 | h1 | h1 <;> rw [h1] <;> omega
end Go.Proofs.Ytbamanjedfccpaa.HTab
namespace Go.Proofs.Ytbamanjedfccpaa.X
open Go.RowKit Go.Proofs.YtbamanjedfccpaaW.PrintWords Go.Proofs.YtbamanjedfccpaaW.PrintLast Go.Proofs.YtbamanjedfccpaaW.PrintMore Go.Proofs.Ytbamanjedfccpaa.HTab
def wax_Prices.f (W H : Int) (l2 l3 l4 l5 : List Int) : Option (List Int × Int) :=
  if cvB W H l2 l3 l4 l5 = true then (partP (wax_Cloth_labels.f W H l2 l3 l4 l5) 20 (cellsL (W * H).toNat) (-5001) 5001 (List.replicate (W * H).toNat 0)).map fun r => (r, 0) else some ([], 2)
theorem wax_Prices.calls (a0_0 : Int) (a0_1 : Int) (A0_2 : Option Addr) (c0_2 : Nat) (l0_2 : List Int) (A0_3 : Option Addr) (c0_3 : Nat) (l0_3 : List Int) (A0_4 : Option Addr) (c0_4 : Nat) (l0_4 : List Int) (A0_5 : Option Addr) (c0_5 : Nat) (l0_5 : List Int) (r1 : List Int) (r2 : Int) (w : World) (hr0_2 : Kd.C (Kd.int .i64) w A0_2 l0_2.length l0_2) (hc0_2 : l0_2.length ≤ c0_2) (hr0_3 : Kd.C (Kd.int .i64) w A0_3 l0_3.length l0_3) (hc0_3 : l0_3.length ≤ c0_3) (hr0_4 : Kd.C (Kd.int .i64) w A0_4 l0_4.length l0_4) (hc0_4 : l0_4.length ≤ c0_4) (hr0_5 : Kd.C (Kd.int .i64) w A0_5 l0_5.length l0_5) (hc0_5 : l0_5.length ≤ c0_5) (h : wax_Prices.f a0_0 a0_1 l0_2 l0_3 l0_4 l0_5 = some (r1, r2)) :
    Calls Try.prog 44 #[.agg #[.int .i64 a0_0, .int .i64 a0_1, .slice A0_2 l0_2.length c0_2, .slice A0_3 l0_3.length c0_3, .slice A0_4 l0_4.length c0_4, .slice A0_5 l0_5.length c0_5]] w fun e w' => ∃ v1_ : Value, e = .returned (.tuple #[v1_, .int .i64 r2]) ∧ Kd.R (Kd.int .i64) 3 w' w.heap.size (fun _ => True) v1_ r1 ∧ Below w.heap.size w w' := by
  have hI : Cl.In ⟨a0_0, a0_1, A0_2, c0_2, l0_2, A0_3, c0_3, l0_3, A0_4, c0_4, l0_4, A0_5, c0_5, l0_5⟩ w := ⟨hr0_2, hc0_2, hr0_3, hc0_3, hr0_4, hc0_4, hr0_5, hc0_5⟩
  have e : Cl.lab ⟨a0_0, a0_1, A0_2, c0_2, l0_2, A0_3, c0_3, l0_3, A0_4, c0_4, l0_4, A0_5, c0_5, l0_5⟩ = wax_Cloth_labels.f a0_0 a0_1 l0_2 l0_3 l0_4 l0_5 := rfl
  unfold wax_Prices.f at h
  rw [← e] at h
  clear e
  obtain ⟨C, hC⟩ : ∃ C : Cl, C = ⟨a0_0, a0_1, A0_2, c0_2, l0_2, A0_3, c0_3, l0_3, A0_4, c0_4, l0_4, A0_5, c0_5, l0_5⟩ := ⟨_, rfl⟩
  rw [← hC] at hI h
  obtain rfl : a0_0 = C.W := by rw [hC]
  obtain rfl : a0_1 = C.H := by rw [hC]
  obtain rfl : A0_2 = C.A2 := by rw [hC]
  obtain rfl : c0_2 = C.c2 := by rw [hC]
  obtain rfl : l0_2 = C.l2 := by rw [hC]
  obtain rfl : A0_3 = C.A3 := by rw [hC]
  obtain rfl : c0_3 = C.c3 := by rw [hC]
  obtain rfl : l0_3 = C.l3 := by rw [hC]
  obtain rfl : A0_4 = C.A4 := by rw [hC]
  obtain rfl : c0_4 = C.c4 := by rw [hC]
  obtain rfl : l0_4 = C.l4 := by rw [hC]
  obtain rfl : A0_5 = C.A5 := by rw [hC]
  obtain rfl : c0_5 = C.c5 := by rw [hC]
  obtain rfl : l0_5 = C.l5 := by rw [hC]
  clear hC
  cases hv : cvB C.W C.H C.l2 C.l3 C.l4 C.l5 with
  | true =>
    rw [hv, if_pos rfl] at h
    obtain ⟨r, hr, h⟩ := Option.map_eq_some_iff.1 h
    injection h with h1 h2
    subst h1; subst h2
    have hn := cvB_n hv
    exact prices_ok C w hI hv (C.W * C.H).toNat (Int.toNat_of_nonneg (by omega)) (by omega) (by omega) 20 r hr
  | false =>
    rw [hv] at h
    simp only [Bool.false_eq_true, if_false] at h
    injection h with h
    injection h with h1 h2
    subst h1; subst h2
    exact prices_err C w hI hv
end Go.Proofs.Ytbamanjedfccpaa.X
end

section
set_option linter.unusedVariables false
set_option linter.unusedSimpArgs false
namespace Go.Proofs.Ytbamanjedfccpaa.X
open Go.RowKit Go.Proofs.YtbamanjedfccpaaW.PrintWords Go.Proofs.YtbamanjedfccpaaW.PrintLast Go.Proofs.YtbamanjedfccpaaW.PrintMore
attribute [local go_sem] max2_int min2_int max_two min_two max_three min_three max_four min_four   -- for this text's walks alone
set_option linter.unusedVariables false
set_option linter.unusedSimpArgs false
theorem info_tri : (Try.prog.info? 121).map (fun i => (i.zero, i.size, i.bytes)) = some (some (.agg #[(.int .i64 0), (.int .i64 0), (.int .i64 0)]), 3, 24) := by kernel_rfl
mutual
def cantingref07_pairs.l0 : Nat → List (S100) → List Int → Int → Int → Int → Int → List Int → List Int → List Int → List Int → Option ((List (S100)))
  | 0, _, _, _, _, _, _, _, _, _, _ => none
  | k + 1, x3, x10, x11, x12, x438000, x438001, x438002, x438003, x438004, x438005 => if x12 < x11 then (if 0 ≤ x12 then (if x12 < (x10.length : Int) then (if (wrap64 (x438000 - 1)) = 0 then (none) else (if x3.length < 5864062014805 then (cantingref07_pairs.l0 k (x3 ++ [(⟨wrap64 ((wrap64 ((wrap64 (Int.tdiv x12 (wrap64 (x438000 - 1)))) * x438000)) + (Int.tmod x12 (wrap64 (x438000 - 1)))), wrap64 ((wrap64 ((wrap64 ((wrap64 (Int.tdiv x12 (wrap64 (x438000 - 1)))) * x438000)) + (Int.tmod x12 (wrap64 (x438000 - 1))))) + 1), rd x10 x12⟩ : S100)]) x10 x11 (wrap64 (x12 + 1)) x438000 x438001 x438002 x438003 x438004 x438005) else (none))) else (none)) else (none)) else (cantingref07_pairs.l1 k x3 x438005 (x438005.length : Int) 0 x438000 x438001 x438002 x438003 x438004 x438005)
def cantingref07_pairs.l1 : Nat → List (S100) → List Int → Int → Int → Int → Int → List Int → List Int → List Int → List Int → Option ((List (S100)))
  | 0, _, _, _, _, _, _, _, _, _, _ => none
  | k + 1, x3, x41, x42, x43, x438000, x438001, x438002, x438003, x438004, x438005 => if x43 < x42 then (if 0 ≤ x43 then (if x43 < (x41.length : Int) then (if x3.length < 5864062014805 then (cantingref07_pairs.l1 k (x3 ++ [(⟨x43, wrap64 (x43 + x438000), rd x41 x43⟩ : S100)]) x41 x42 (wrap64 (x43 + 1)) x438000 x438001 x438002 x438003 x438004 x438005) else (none)) else (none)) else (none)) else (some x3)
end
def cantingref07_pairs.f (k : Nat) (a0_0 : Int) (a0_1 : Int) (l0_2 : List Int) (l0_3 : List Int) (l0_4 : List Int) (l0_5 : List Int) : Option ((List (S100))) := cantingref07_pairs.l0 k ([] : List (S100)) l0_4 (l0_4.length : Int) 0 a0_0 a0_1 l0_2 l0_3 l0_4 l0_5
set_option maxHeartbeats 8000000 in
set_option maxRecDepth 100000 in
theorem cantingref07_pairs.calls (k : Nat) (a0_0 : Int) (a0_1 : Int) (A0_2 : Option Addr) (c0_2 : Nat) (l0_2 : List Int) (A0_3 : Option Addr) (c0_3 : Nat) (l0_3 : List Int) (A0_4 : Option Addr) (c0_4 : Nat) (l0_4 : List Int) (A0_5 : Option Addr) (c0_5 : Nat) (l0_5 : List Int) (r : List (S100)) (w : World) (hr0_2 : Kd.C (Kd.int .i64) w A0_2 l0_2.length l0_2) (hc0_2 : l0_2.length ≤ c0_2) (hr0_3 : Kd.C (Kd.int .i64) w A0_3 l0_3.length l0_3) (hc0_3 : l0_3.length ≤ c0_3) (hr0_4 : Kd.C (Kd.int .i64) w A0_4 l0_4.length l0_4) (hc0_4 : l0_4.length ≤ c0_4) (hr0_5 : Kd.C (Kd.int .i64) w A0_5 l0_5.length l0_5) (hc0_5 : l0_5.length ≤ c0_5) (h : cantingref07_pairs.f k a0_0 a0_1 l0_2 l0_3 l0_4 l0_5 = some r) :
    Calls Try.prog 81 #[.agg #[.int .i64 a0_0, .int .i64 a0_1, .slice A0_2 l0_2.length c0_2, .slice A0_3 l0_3.length c0_3, .slice A0_4 l0_4.length c0_4, .slice A0_5 l0_5.length c0_5]] w fun e w' => ∃ v0_ : Value, e = .returned (v0_) ∧ Kd.R k100 121 w' w.heap.size (fun _ => True) v0_ r ∧ Below w.heap.size w w' := by
  have hu61 := Try.underlying61
  have hu100 := Try.underlying100
  have HR0_2 := Aside0.mk hr0_2
  have HC0_2 := Aside0.mk hc0_2
  clear hr0_2 hc0_2
  have HR0_3 := Aside0.mk hr0_3
  have HC0_3 := Aside0.mk hc0_3
  clear hr0_3 hc0_3
  have HR0_4 := Aside0.mk hr0_4
  have HC0_4 := Aside0.mk hc0_4
  clear hr0_4 hc0_4
  have HR0_5 := Aside0.mk hr0_5
  have HC0_5 := Aside0.mk hc0_5
  clear hr0_5 hc0_5
  have HB := Aside0.mk (Below.refl w.heap.size w)
  have H : (cantingref07_pairs.l0 k ([] : List (S100)) l0_4 (l0_4.length : Int) 0 a0_0 a0_1 l0_2 l0_3 l0_4 l0_5) = some r := h
  clear h
  have H' := Aside0.mk H
  clear H
  go_enter Try.func81, Try.ntmps81
  go_wp2_with (first | ((with_reducible refine gate_dst (N := 1) rfl ?_); refine box_event ?hg (N := 1) ?hd (cs := #[.int .i64 a0_0, .int .i64 a0_1, .slice A0_2 l0_2.length c0_2, .slice A0_3 l0_3.length c0_3, .slice A0_4 l0_4.length c0_4, .slice A0_5 l0_5.length c0_5]) (t := 61) ?hr ?_; (case hd => rfl); (case hg => rfl); (case hr => first | (go_simp; done) | (go_simp; rfl)); intro gb437 hg w2 hbox hb; have n0_ := Aside0.mk (below_step (by repeat (first | (with_reducible first | exact HB.out | apply below_alloc | apply pw_below_drewN | apply below_drew1) | exact HB.out)) hb); have n1_ := Aside0.mk (hbox); have n2_ := Aside0.mk ((by rw [hg]; exact (below_size (by repeat (first | (with_reducible first | exact HB.out | apply below_alloc | apply pw_below_drewN | apply below_drew1) | exact HB.out))) : w.heap.size ≤ gb437)); have n3_ := Aside0.mk ((by rw [hg]; exact (below_size (by repeat (first | (with_reducible first | exact HB.out | apply below_alloc | apply pw_below_drewN | apply below_drew1) | exact HB.out))) : w.heap.size ≤ gb437)); clear HB; have HB := n0_; have BK437 := n1_; have GW437 := n2_; have GE437 := n3_; clear n0_ n1_ n2_ n3_; clear hb hbox hg; have hcz3_0 : w2.cell? ⟨gb437, 0, none⟩ = some (.int .i64 a0_0) := (blk_cell BK437.out 0).trans rfl; have hcz3_1 : w2.cell? ⟨gb437, 1, none⟩ = some (.int .i64 a0_1) := (blk_cell BK437.out 1).trans rfl; have hcz3_2 : w2.cell? ⟨gb437, 2, none⟩ = some (.slice A0_2 l0_2.length c0_2) := (blk_cell BK437.out 2).trans rfl; have hcz3_3 : w2.cell? ⟨gb437, 3, none⟩ = some (.slice A0_3 l0_3.length c0_3) := (blk_cell BK437.out 3).trans rfl; have hcz3_4 : w2.cell? ⟨gb437, 4, none⟩ = some (.slice A0_4 l0_4.length c0_4) := (blk_cell BK437.out 4).trans rfl; have hcz3_5 : w2.cell? ⟨gb437, 5, none⟩ = some (.slice A0_5 l0_5.length c0_5) := (blk_cell BK437.out 5).trans rfl; have hfz3_0 := blk_frozen BK437.out 0; have hfz3_1 := blk_frozen BK437.out 1; have hfz3_2 := blk_frozen BK437.out 2; have hfz3_3 := blk_frozen BK437.out 3; have hfz3_4 := blk_frozen BK437.out 4; have hfz3_5 := blk_frozen BK437.out 5))
  repeat (go_quiet (first | ((with_reducible refine gate_dst (N := 1) rfl ?_); refine box_event ?hg (N := 1) ?hd (cs := #[.int .i64 a0_0, .int .i64 a0_1, .slice A0_2 l0_2.length c0_2, .slice A0_3 l0_3.length c0_3, .slice A0_4 l0_4.length c0_4, .slice A0_5 l0_5.length c0_5]) (t := 61) ?hr ?_; (case hd => rfl); (case hg => rfl); (case hr => first | (go_simp; done) | (go_simp; rfl)); intro gb437 hg w2 hbox hb; have n0_ := Aside0.mk (below_step (by repeat (first | (with_reducible first | exact HB.out | apply below_alloc | apply pw_below_drewN | apply below_drew1) | exact HB.out)) hb); have n1_ := Aside0.mk (hbox); have n2_ := Aside0.mk ((by rw [hg]; exact (below_size (by repeat (first | (with_reducible first | exact HB.out | apply below_alloc | apply pw_below_drewN | apply below_drew1) | exact HB.out))) : w.heap.size ≤ gb437)); have n3_ := Aside0.mk ((by rw [hg]; exact (below_size (by repeat (first | (with_reducible first | exact HB.out | apply below_alloc | apply pw_below_drewN | apply below_drew1) | exact HB.out))) : w.heap.size ≤ gb437)); clear HB; have HB := n0_; have BK437 := n1_; have GW437 := n2_; have GE437 := n3_; clear n0_ n1_ n2_ n3_; clear hb hbox hg; have hcz3_0 : w2.cell? ⟨gb437, 0, none⟩ = some (.int .i64 a0_0) := (blk_cell BK437.out 0).trans rfl; have hcz3_1 : w2.cell? ⟨gb437, 1, none⟩ = some (.int .i64 a0_1) := (blk_cell BK437.out 1).trans rfl; have hcz3_2 : w2.cell? ⟨gb437, 2, none⟩ = some (.slice A0_2 l0_2.length c0_2) := (blk_cell BK437.out 2).trans rfl; have hcz3_3 : w2.cell? ⟨gb437, 3, none⟩ = some (.slice A0_3 l0_3.length c0_3) := (blk_cell BK437.out 3).trans rfl; have hcz3_4 : w2.cell? ⟨gb437, 4, none⟩ = some (.slice A0_4 l0_4.length c0_4) := (blk_cell BK437.out 4).trans rfl; have hcz3_5 : w2.cell? ⟨gb437, 5, none⟩ = some (.slice A0_5 l0_5.length c0_5) := (blk_cell BK437.out 5).trans rfl; have hfz3_0 := blk_frozen BK437.out 0; have hfz3_1 := blk_frozen BK437.out 1; have hfz3_2 := blk_frozen BK437.out 2; have hfz3_3 := blk_frozen BK437.out 3; have hfz3_4 := blk_frozen BK437.out 4; have hfz3_5 := blk_frozen BK437.out 5)); try go_wp2_with (first | ((with_reducible refine gate_dst (N := 1) rfl ?_); refine box_event ?hg (N := 1) ?hd (cs := #[.int .i64 a0_0, .int .i64 a0_1, .slice A0_2 l0_2.length c0_2, .slice A0_3 l0_3.length c0_3, .slice A0_4 l0_4.length c0_4, .slice A0_5 l0_5.length c0_5]) (t := 61) ?hr ?_; (case hd => rfl); (case hg => rfl); (case hr => first | (go_simp; done) | (go_simp; rfl)); intro gb437 hg w2 hbox hb; have n0_ := Aside0.mk (below_step (by repeat (first | (with_reducible first | exact HB.out | apply below_alloc | apply pw_below_drewN | apply below_drew1) | exact HB.out)) hb); have n1_ := Aside0.mk (hbox); have n2_ := Aside0.mk ((by rw [hg]; exact (below_size (by repeat (first | (with_reducible first | exact HB.out | apply below_alloc | apply pw_below_drewN | apply below_drew1) | exact HB.out))) : w.heap.size ≤ gb437)); have n3_ := Aside0.mk ((by rw [hg]; exact (below_size (by repeat (first | (with_reducible first | exact HB.out | apply below_alloc | apply pw_below_drewN | apply below_drew1) | exact HB.out))) : w.heap.size ≤ gb437)); clear HB; have HB := n0_; have BK437 := n1_; have GW437 := n2_; have GE437 := n3_; clear n0_ n1_ n2_ n3_; clear hb hbox hg; have hcz3_0 : w2.cell? ⟨gb437, 0, none⟩ = some (.int .i64 a0_0) := (blk_cell BK437.out 0).trans rfl; have hcz3_1 : w2.cell? ⟨gb437, 1, none⟩ = some (.int .i64 a0_1) := (blk_cell BK437.out 1).trans rfl; have hcz3_2 : w2.cell? ⟨gb437, 2, none⟩ = some (.slice A0_2 l0_2.length c0_2) := (blk_cell BK437.out 2).trans rfl; have hcz3_3 : w2.cell? ⟨gb437, 3, none⟩ = some (.slice A0_3 l0_3.length c0_3) := (blk_cell BK437.out 3).trans rfl; have hcz3_4 : w2.cell? ⟨gb437, 4, none⟩ = some (.slice A0_4 l0_4.length c0_4) := (blk_cell BK437.out 4).trans rfl; have hcz3_5 : w2.cell? ⟨gb437, 5, none⟩ = some (.slice A0_5 l0_5.length c0_5) := (blk_cell BK437.out 5).trans rfl; have hfz3_0 := blk_frozen BK437.out 0; have hfz3_1 := blk_frozen BK437.out 1; have hfz3_2 := blk_frozen BK437.out 2; have hfz3_3 := blk_frozen BK437.out 3; have hfz3_4 := blk_frozen BK437.out 4; have hfz3_5 := blk_frozen BK437.out 5)))
  go_loopg [3, 12] k (fun kq v3 v12 w' => ∃ (x3_1 : List (S100)) (x12_1 : Int), v12 = .int .i64 x12_1 ∧ Aside0 (cantingref07_pairs.l0 kq x3_1 l0_4 (l0_4.length : Int) x12_1 a0_0 a0_1 l0_2 l0_3 l0_4 l0_5 = some r) ∧ Aside0 (kq ≤ k) ∧ Aside0 (Kd.R k100 121 w' w.heap.size (fun _ => True) v3 x3_1) ∧ Aside0 (w'.heap[gb437]? = some (.cells #[.int .i64 a0_0, .int .i64 a0_1, (.slice A0_2 l0_2.length c0_2), (.slice A0_3 l0_3.length c0_3), (.slice A0_4 l0_4.length c0_4), (.slice A0_5 l0_5.length c0_5)] 61 (0, 0))) ∧ Aside0 (Below w.heap.size w w'))
  case atStart => exact ⟨(([] : List (S100))), (0), (by first | rfl | (simp; done) | (simp [*]; done)), H', ⟨Nat.le_refl _⟩, ⟨by first | exact Kd.R_nil _ _ _ _ _ | exact Kd.N_nil _ _ _ _ _ | exact Kd.V_nil _ _ _ _ _ | exact Kd.Q_nil _ _ _ _ _ | exact Kd.S_nil _ _ _ _ _⟩, ⟨by (with_reducible repeat (first | refine blk_drewN ?_ _ | refine blk_drew ?_ | refine blk_alloc ?_ _)); exact BK437.out⟩, ⟨by repeat (first | (with_reducible first | exact HB.out | apply below_alloc | apply pw_below_drewN | apply below_drew1 | refine below_set ?_ GE437.out) | exact HB.out)⟩⟩
  case round =>
    clear H'
    try clear p2
    try clear hcz3_0
    try clear hcz3_1
    try clear hcz3_2
    try clear hcz3_3
    try clear hcz3_4
    try clear hcz3_5
    try clear hfz3_0
    try clear hfz3_1
    try clear hfz3_2
    try clear hfz3_3
    try clear hfz3_4
    try clear hfz3_5
    obtain ⟨x3_1, x12_1, rfl, HA, HK1, HO_3, BK437, HB⟩ := hrel
    cases gk with
    | zero => exact absurd HA.out (by simp [cantingref07_pairs.l0])
    | succ k1 =>
      have H := HA.out
      clear HA
      simp only [cantingref07_pairs.l0] at H
      by_cases c4 : x12_1 < (l0_4.length : Int)
      · rw [if_pos c4] at H
        have c4b0 : decide (x12_1 < (l0_4.length : Int)) = true := decide_eq_true c4
        clear c4
        by_cases c5 : 0 ≤ x12_1
        · rw [if_pos c5] at H
          have c5b0 : decide (0 ≤ x12_1) = true := decide_eq_true c5
          clear c5
          by_cases c6 : x12_1 < (l0_4.length : Int)
          · rw [if_pos c6] at H
            have c6b0 : decide (x12_1 < (l0_4.length : Int)) = true := decide_eq_true c6
            clear c6
            by_cases c7 : (wrap64 (a0_0 - 1)) = 0
            · rw [if_pos c7] at H
              exact absurd H (by simp)
            · rw [if_neg c7] at H
              have c7b0 : ((wrap64 (a0_0 - 1)) == 0) = false := beq_eq_false_iff_ne.mpr c7
              have c7b1 : ((wrap64 (a0_0 - 1)) != 0) = true := bne_iff_ne.mpr c7
              by_cases c8 : x3_1.length < 5864062014805
              · rw [if_pos c8] at H
                have LMc8 := Aside0.mk c8
                clear c8
                obtain ⟨y439, hy439⟩ : ∃ y_ : List (S100), y_ = (x3_1 ++ [(⟨wrap64 ((wrap64 ((wrap64 (Int.tdiv x12_1 (wrap64 (a0_0 - 1)))) * a0_0)) + (Int.tmod x12_1 (wrap64 (a0_0 - 1)))), wrap64 ((wrap64 ((wrap64 ((wrap64 (Int.tdiv x12_1 (wrap64 (a0_0 - 1)))) * a0_0)) + (Int.tmod x12_1 (wrap64 (a0_0 - 1))))) + 1), rd l0_4 x12_1⟩ : S100)]) := ⟨_, rfl⟩
                replace H : (cantingref07_pairs.l0 k1 y439 l0_4 (l0_4.length : Int) (wrap64 (x12_1 + 1)) a0_0 a0_1 l0_2 l0_3 l0_4 l0_5) = some r := by first | (rw [hy439]; with_reducible exact H) | (have H2_ := (Option.bind_some _ _).symm.trans H; rw [hy439]; with_reducible exact H2_) | (have H2_ := (Option.bind_some _ _).symm.trans H; with_reducible exact H2_) | with_reducible exact H | (rw [hy439]; exact H) | exact H
                have Ny439 := Aside0.mk hy439
                clear hy439
                have H' := Aside0.mk H
                clear H
                have p438 : 0 ≤ (x12_1 : Int) := of_decide_eq_true (by first | (with_reducible assumption) | assumption)
                have q438 : x12_1 < (l0_4.length : Int) := of_decide_eq_true (by first | (with_reducible assumption) | assumption)
                obtain ⟨ad438, e438, hx438_0⟩ := Kd.at_int HR0_4.out x12_1 p438 q438
                cases e438
                replace hx438_0 := (HB.out.cell (World.block_lt_of_cell? w _ hx438_0)).trans hx438_0
                replace p438 := eq_true p438
                replace q438 := eq_true q438
                have hcz9_0 : wr.cell? ⟨gb437, 0, none⟩ = some (.int .i64 a0_0) := (blk_cell BK437.out 0).trans rfl
                have hcz9_1 : wr.cell? ⟨gb437, 1, none⟩ = some (.int .i64 a0_1) := (blk_cell BK437.out 1).trans rfl
                have hcz9_2 : wr.cell? ⟨gb437, 2, none⟩ = some (.slice A0_2 l0_2.length c0_2) := (blk_cell BK437.out 2).trans rfl
                have hcz9_3 : wr.cell? ⟨gb437, 3, none⟩ = some (.slice A0_3 l0_3.length c0_3) := (blk_cell BK437.out 3).trans rfl
                have hcz9_4 : wr.cell? ⟨gb437, 4, none⟩ = some (.slice (some ad438) l0_4.length c0_4) := (blk_cell BK437.out 4).trans rfl
                have hcz9_5 : wr.cell? ⟨gb437, 5, none⟩ = some (.slice A0_5 l0_5.length c0_5) := (blk_cell BK437.out 5).trans rfl
                have hfz9_0 := blk_frozen BK437.out 0
                have hfz9_1 := blk_frozen BK437.out 1
                have hfz9_2 := blk_frozen BK437.out 2
                have hfz9_3 := blk_frozen BK437.out 3
                have hfz9_4 := blk_frozen BK437.out 4
                have hfz9_5 := blk_frozen BK437.out 5
                go_wp2_with (first | ((with_reducible refine gate_builtin (b := .append) (xs := #[.tmp 31, .tmp 37]) rfl ?_); at_builtin; refine Kd.R_append k100 (w0 := w) w.heap.size rfl (.tmp 31) (.tmp 37) 119 121 (.agg #[(.int .i64 0), (.int .i64 0), (.int .i64 0)]) 24 rfl Try.underlying119 info_tri rfl (by decide) (by omega) u3 x3_1 (⟨wrap64 ((wrap64 ((wrap64 (Int.tdiv x12_1 (wrap64 (a0_0 - 1)))) * a0_0)) + (Int.tmod x12_1 (wrap64 (a0_0 - 1)))), wrap64 ((wrap64 ((wrap64 ((wrap64 (Int.tdiv x12_1 (wrap64 (a0_0 - 1)))) * a0_0)) + (Int.tmod x12_1 (wrap64 (a0_0 - 1))))) + 1), rd l0_4 x12_1⟩ : S100) [.int .i64 (wrap64 ((wrap64 ((wrap64 (Int.tdiv x12_1 (wrap64 (a0_0 - 1)))) * a0_0)) + (Int.tmod x12_1 (wrap64 (a0_0 - 1))))), .int .i64 (wrap64 ((wrap64 ((wrap64 ((wrap64 (Int.tdiv x12_1 (wrap64 (a0_0 - 1)))) * a0_0)) + (Int.tmod x12_1 (wrap64 (a0_0 - 1))))) + 1)), .int .i64 (rd l0_4 x12_1)] (fun _ => True) (fun _ => False) rfl rfl ?aP (fun _ hk => hk.elim) ?aF ?aO ?aB ?aS ?aL ?_; (case aP => exact k100_mkM _ _ _ (⟨wrap64 ((wrap64 ((wrap64 (Int.tdiv x12_1 (wrap64 (a0_0 - 1)))) * a0_0)) + (Int.tmod x12_1 (wrap64 (a0_0 - 1)))), wrap64 ((wrap64 ((wrap64 ((wrap64 (Int.tdiv x12_1 (wrap64 (a0_0 - 1)))) * a0_0)) + (Int.tmod x12_1 (wrap64 (a0_0 - 1))))) + 1), rd l0_4 x12_1⟩ : S100)); (case aB => exact (by repeat (first | (with_reducible first | exact HB.out | apply below_alloc | apply pw_below_drewN | apply below_drew1 | refine below_set ?_ GE437.out) | exact HB.out))); (case aF => exact (fun _ _ => trivial)); (case aO => exact (by (with_reducible repeat (first | apply Kd.R_alloc | apply Kd.R_drewN | apply Kd.R_drew)); exact HO_3.out)); (case aS => exact (below_size (by repeat (first | (with_reducible first | exact HB.out | apply below_alloc | apply pw_below_drewN | apply below_drew1 | refine below_set ?_ GE437.out) | exact HB.out)))); (case aL => have := LMc8.out; omega); intro v440 w10 ho hb hg hat; rw [← Ny439.out] at ho; have n0_ := Aside0.mk (blk_grown (g := gb437) (o := .cells #[.int .i64 a0_0, .int .i64 a0_1, .slice A0_2 l0_2.length c0_2, .slice A0_3 l0_3.length c0_3, .slice (some ad438) l0_4.length c0_4, .slice A0_5 l0_5.length c0_5] 61 (0, 0)) (by (with_reducible repeat (first | refine blk_drewN ?_ _ | refine blk_drew ?_ | refine blk_alloc ?_ _)); exact BK437.out) hg (Kd.R_ne HO_3.out BK437.out (by decide))); have n1_ := Aside0.mk (hb); have n2_ := Aside0.mk (ho); clear BK437; clear HB; clear HO_3; have BK437 := n0_; have HB := n1_; have HO441 := n2_; clear n0_ n1_ n2_; clear ho hb hg hat))
                repeat (go_quiet (first | ((with_reducible refine gate_builtin (b := .append) (xs := #[.tmp 31, .tmp 37]) rfl ?_); at_builtin; refine Kd.R_append k100 (w0 := w) w.heap.size rfl (.tmp 31) (.tmp 37) 119 121 (.agg #[(.int .i64 0), (.int .i64 0), (.int .i64 0)]) 24 rfl Try.underlying119 info_tri rfl (by decide) (by omega) u3 x3_1 (⟨wrap64 ((wrap64 ((wrap64 (Int.tdiv x12_1 (wrap64 (a0_0 - 1)))) * a0_0)) + (Int.tmod x12_1 (wrap64 (a0_0 - 1)))), wrap64 ((wrap64 ((wrap64 ((wrap64 (Int.tdiv x12_1 (wrap64 (a0_0 - 1)))) * a0_0)) + (Int.tmod x12_1 (wrap64 (a0_0 - 1))))) + 1), rd l0_4 x12_1⟩ : S100) [.int .i64 (wrap64 ((wrap64 ((wrap64 (Int.tdiv x12_1 (wrap64 (a0_0 - 1)))) * a0_0)) + (Int.tmod x12_1 (wrap64 (a0_0 - 1))))), .int .i64 (wrap64 ((wrap64 ((wrap64 ((wrap64 (Int.tdiv x12_1 (wrap64 (a0_0 - 1)))) * a0_0)) + (Int.tmod x12_1 (wrap64 (a0_0 - 1))))) + 1)), .int .i64 (rd l0_4 x12_1)] (fun _ => True) (fun _ => False) rfl rfl ?aP (fun _ hk => hk.elim) ?aF ?aO ?aB ?aS ?aL ?_; (case aP => exact k100_mkM _ _ _ (⟨wrap64 ((wrap64 ((wrap64 (Int.tdiv x12_1 (wrap64 (a0_0 - 1)))) * a0_0)) + (Int.tmod x12_1 (wrap64 (a0_0 - 1)))), wrap64 ((wrap64 ((wrap64 ((wrap64 (Int.tdiv x12_1 (wrap64 (a0_0 - 1)))) * a0_0)) + (Int.tmod x12_1 (wrap64 (a0_0 - 1))))) + 1), rd l0_4 x12_1⟩ : S100)); (case aB => exact (by repeat (first | (with_reducible first | exact HB.out | apply below_alloc | apply pw_below_drewN | apply below_drew1 | refine below_set ?_ GE437.out) | exact HB.out))); (case aF => exact (fun _ _ => trivial)); (case aO => exact (by (with_reducible repeat (first | apply Kd.R_alloc | apply Kd.R_drewN | apply Kd.R_drew)); exact HO_3.out)); (case aS => exact (below_size (by repeat (first | (with_reducible first | exact HB.out | apply below_alloc | apply pw_below_drewN | apply below_drew1 | refine below_set ?_ GE437.out) | exact HB.out)))); (case aL => have := LMc8.out; omega); intro v440 w10 ho hb hg hat; rw [← Ny439.out] at ho; have n0_ := Aside0.mk (blk_grown (g := gb437) (o := .cells #[.int .i64 a0_0, .int .i64 a0_1, .slice A0_2 l0_2.length c0_2, .slice A0_3 l0_3.length c0_3, .slice (some ad438) l0_4.length c0_4, .slice A0_5 l0_5.length c0_5] 61 (0, 0)) (by (with_reducible repeat (first | refine blk_drewN ?_ _ | refine blk_drew ?_ | refine blk_alloc ?_ _)); exact BK437.out) hg (Kd.R_ne HO_3.out BK437.out (by decide))); have n1_ := Aside0.mk (hb); have n2_ := Aside0.mk (ho); clear BK437; clear HB; clear HO_3; have BK437 := n0_; have HB := n1_; have HO441 := n2_; clear n0_ n1_ n2_; clear ho hb hg hat)); try go_wp2_with (first | ((with_reducible refine gate_builtin (b := .append) (xs := #[.tmp 31, .tmp 37]) rfl ?_); at_builtin; refine Kd.R_append k100 (w0 := w) w.heap.size rfl (.tmp 31) (.tmp 37) 119 121 (.agg #[(.int .i64 0), (.int .i64 0), (.int .i64 0)]) 24 rfl Try.underlying119 info_tri rfl (by decide) (by omega) u3 x3_1 (⟨wrap64 ((wrap64 ((wrap64 (Int.tdiv x12_1 (wrap64 (a0_0 - 1)))) * a0_0)) + (Int.tmod x12_1 (wrap64 (a0_0 - 1)))), wrap64 ((wrap64 ((wrap64 ((wrap64 (Int.tdiv x12_1 (wrap64 (a0_0 - 1)))) * a0_0)) + (Int.tmod x12_1 (wrap64 (a0_0 - 1))))) + 1), rd l0_4 x12_1⟩ : S100) [.int .i64 (wrap64 ((wrap64 ((wrap64 (Int.tdiv x12_1 (wrap64 (a0_0 - 1)))) * a0_0)) + (Int.tmod x12_1 (wrap64 (a0_0 - 1))))), .int .i64 (wrap64 ((wrap64 ((wrap64 ((wrap64 (Int.tdiv x12_1 (wrap64 (a0_0 - 1)))) * a0_0)) + (Int.tmod x12_1 (wrap64 (a0_0 - 1))))) + 1)), .int .i64 (rd l0_4 x12_1)] (fun _ => True) (fun _ => False) rfl rfl ?aP (fun _ hk => hk.elim) ?aF ?aO ?aB ?aS ?aL ?_; (case aP => exact k100_mkM _ _ _ (⟨wrap64 ((wrap64 ((wrap64 (Int.tdiv x12_1 (wrap64 (a0_0 - 1)))) * a0_0)) + (Int.tmod x12_1 (wrap64 (a0_0 - 1)))), wrap64 ((wrap64 ((wrap64 ((wrap64 (Int.tdiv x12_1 (wrap64 (a0_0 - 1)))) * a0_0)) + (Int.tmod x12_1 (wrap64 (a0_0 - 1))))) + 1), rd l0_4 x12_1⟩ : S100)); (case aB => exact (by repeat (first | (with_reducible first | exact HB.out | apply below_alloc | apply pw_below_drewN | apply below_drew1 | refine below_set ?_ GE437.out) | exact HB.out))); (case aF => exact (fun _ _ => trivial)); (case aO => exact (by (with_reducible repeat (first | apply Kd.R_alloc | apply Kd.R_drewN | apply Kd.R_drew)); exact HO_3.out)); (case aS => exact (below_size (by repeat (first | (with_reducible first | exact HB.out | apply below_alloc | apply pw_below_drewN | apply below_drew1 | refine below_set ?_ GE437.out) | exact HB.out)))); (case aL => have := LMc8.out; omega); intro v440 w10 ho hb hg hat; rw [← Ny439.out] at ho; have n0_ := Aside0.mk (blk_grown (g := gb437) (o := .cells #[.int .i64 a0_0, .int .i64 a0_1, .slice A0_2 l0_2.length c0_2, .slice A0_3 l0_3.length c0_3, .slice (some ad438) l0_4.length c0_4, .slice A0_5 l0_5.length c0_5] 61 (0, 0)) (by (with_reducible repeat (first | refine blk_drewN ?_ _ | refine blk_drew ?_ | refine blk_alloc ?_ _)); exact BK437.out) hg (Kd.R_ne HO_3.out BK437.out (by decide))); have n1_ := Aside0.mk (hb); have n2_ := Aside0.mk (ho); clear BK437; clear HB; clear HO_3; have BK437 := n0_; have HB := n1_; have HO441 := n2_; clear n0_ n1_ n2_; clear ho hb hg hat)))
                go_roundg k1
                case measure => have := HK1.out; omega
                case rel => exact ⟨(y439), (wrap64 (x12_1 + 1)), (by first | rfl | (simp; done) | (simp [*]; done)), H', ⟨by have := HK1.out; omega⟩, ⟨by (with_reducible repeat (first | apply Kd.R_alloc | apply Kd.R_drewN | apply Kd.R_drew)); exact HO441.out⟩, ⟨by (with_reducible repeat (first | refine blk_drewN ?_ _ | refine blk_drew ?_ | refine blk_alloc ?_ _)); exact BK437.out⟩, ⟨by repeat (first | (with_reducible first | exact HB.out | apply below_alloc | apply pw_below_drewN | apply below_drew1 | refine below_set ?_ GE437.out) | exact HB.out)⟩⟩
              · rw [if_neg c8] at H
                exact absurd H (by simp)
          · rw [if_neg c6] at H
            exact absurd H (by simp)
        · rw [if_neg c5] at H
          exact absurd H (by simp)
      · rw [if_neg c4] at H
        have c4b0 : decide (x12_1 < (l0_4.length : Int)) = false := decide_eq_false c4
        clear c4
        have H' := Aside0.mk H
        clear H
        have hcz11_0 : wr.cell? ⟨gb437, 0, none⟩ = some (.int .i64 a0_0) := (blk_cell BK437.out 0).trans rfl
        have hcz11_1 : wr.cell? ⟨gb437, 1, none⟩ = some (.int .i64 a0_1) := (blk_cell BK437.out 1).trans rfl
        have hcz11_2 : wr.cell? ⟨gb437, 2, none⟩ = some (.slice A0_2 l0_2.length c0_2) := (blk_cell BK437.out 2).trans rfl
        have hcz11_3 : wr.cell? ⟨gb437, 3, none⟩ = some (.slice A0_3 l0_3.length c0_3) := (blk_cell BK437.out 3).trans rfl
        have hcz11_4 : wr.cell? ⟨gb437, 4, none⟩ = some (.slice A0_4 l0_4.length c0_4) := (blk_cell BK437.out 4).trans rfl
        have hcz11_5 : wr.cell? ⟨gb437, 5, none⟩ = some (.slice A0_5 l0_5.length c0_5) := (blk_cell BK437.out 5).trans rfl
        have hfz11_0 := blk_frozen BK437.out 0
        have hfz11_1 := blk_frozen BK437.out 1
        have hfz11_2 := blk_frozen BK437.out 2
        have hfz11_3 := blk_frozen BK437.out 3
        have hfz11_4 := blk_frozen BK437.out 4
        have hfz11_5 := blk_frozen BK437.out 5
        go_wp2
        repeat (go_quiet (fail); try go_wp2)
        go_loopg [3, 43] k1 (fun kq v3 v43 w' => ∃ (x3_2 : List (S100)) (x43_2 : Int), v43 = .int .i64 x43_2 ∧ Aside0 (cantingref07_pairs.l1 kq x3_2 l0_5 (l0_5.length : Int) x43_2 a0_0 a0_1 l0_2 l0_3 l0_4 l0_5 = some r) ∧ Aside0 (kq ≤ k1) ∧ Aside0 (Kd.R k100 121 w' w.heap.size (fun _ => True) v3 x3_2) ∧ Aside0 (w'.heap[gb437]? = some (.cells #[.int .i64 a0_0, .int .i64 a0_1, (.slice A0_2 l0_2.length c0_2), (.slice A0_3 l0_3.length c0_3), (.slice A0_4 l0_4.length c0_4), (.slice A0_5 l0_5.length c0_5)] 61 (0, 0))) ∧ Aside0 (Below w.heap.size w w'))
        case atStart => exact ⟨(x3_1), (0), (by first | rfl | (simp; done) | (simp [*]; done)), H', ⟨Nat.le_refl _⟩, ⟨by (with_reducible repeat (first | apply Kd.R_alloc | apply Kd.R_drewN | apply Kd.R_drew)); exact HO_3.out⟩, ⟨by (with_reducible repeat (first | refine blk_drewN ?_ _ | refine blk_drew ?_ | refine blk_alloc ?_ _)); exact BK437.out⟩, ⟨by repeat (first | (with_reducible first | exact HB.out | apply below_alloc | apply pw_below_drewN | apply below_drew1 | refine below_set ?_ GE437.out) | exact HB.out)⟩⟩
        case round =>
          clear H'
          try clear p2
          try clear c4
          try clear c4b0
          try clear p4
          try clear q4
          try clear hx4
          try clear c5
          try clear c5b0
          try clear c6
          try clear c6b0
          try clear p6
          try clear c7
          try clear c7b0
          try clear c7b1
          try clear c8
          try clear hcz11_0
          try clear hcz11_1
          try clear hcz11_2
          try clear hcz11_3
          try clear hcz11_4
          try clear hcz11_5
          try clear hcz3_0
          try clear hcz3_1
          try clear hcz3_2
          try clear hcz3_3
          try clear hcz3_4
          try clear hcz3_5
          try clear hcz9_0
          try clear hcz9_1
          try clear hcz9_2
          try clear hcz9_3
          try clear hcz9_4
          try clear hcz9_5
          try clear hfz11_0
          try clear hfz11_1
          try clear hfz11_2
          try clear hfz11_3
          try clear hfz11_4
          try clear hfz11_5
          try clear hfz3_0
          try clear hfz3_1
          try clear hfz3_2
          try clear hfz3_3
          try clear hfz3_4
          try clear hfz3_5
          try clear hfz9_0
          try clear hfz9_1
          try clear hfz9_2
          try clear hfz9_3
          try clear hfz9_4
          try clear hfz9_5
          try clear hx438_0
          try clear p2
          try clear p438
          try clear q438
          obtain ⟨x3_2, x43_2, rfl, HA, HK2, HO_3, BK437, HB⟩ := hrel
          cases gk with
          | zero => exact absurd HA.out (by simp [cantingref07_pairs.l1])
          | succ k2 =>
            have H := HA.out
            clear HA
            simp only [cantingref07_pairs.l1] at H
            by_cases c12 : x43_2 < (l0_5.length : Int)
            · rw [if_pos c12] at H
              have c12b0 : decide (x43_2 < (l0_5.length : Int)) = true := decide_eq_true c12
              clear c12
              by_cases c13 : 0 ≤ x43_2
              · rw [if_pos c13] at H
                have c13b0 : decide (0 ≤ x43_2) = true := decide_eq_true c13
                clear c13
                by_cases c14 : x43_2 < (l0_5.length : Int)
                · rw [if_pos c14] at H
                  have c14b0 : decide (x43_2 < (l0_5.length : Int)) = true := decide_eq_true c14
                  clear c14
                  by_cases c15 : x3_2.length < 5864062014805
                  · rw [if_pos c15] at H
                    have LMc15 := Aside0.mk c15
                    clear c15
                    obtain ⟨y443, hy443⟩ : ∃ y_ : List (S100), y_ = (x3_2 ++ [(⟨x43_2, wrap64 (x43_2 + a0_0), rd l0_5 x43_2⟩ : S100)]) := ⟨_, rfl⟩
                    replace H : (cantingref07_pairs.l1 k2 y443 l0_5 (l0_5.length : Int) (wrap64 (x43_2 + 1)) a0_0 a0_1 l0_2 l0_3 l0_4 l0_5) = some r := by first | (rw [hy443]; with_reducible exact H) | (have H2_ := (Option.bind_some _ _).symm.trans H; rw [hy443]; with_reducible exact H2_) | (have H2_ := (Option.bind_some _ _).symm.trans H; with_reducible exact H2_) | with_reducible exact H | (rw [hy443]; exact H) | exact H
                    have Ny443 := Aside0.mk hy443
                    clear hy443
                    have H' := Aside0.mk H
                    clear H
                    have p442 : 0 ≤ (x43_2 : Int) := of_decide_eq_true (by first | (with_reducible assumption) | assumption)
                    have q442 : x43_2 < (l0_5.length : Int) := of_decide_eq_true (by first | (with_reducible assumption) | assumption)
                    obtain ⟨ad442, e442, hx442_0⟩ := Kd.at_int HR0_5.out x43_2 p442 q442
                    cases e442
                    replace hx442_0 := (HB.out.cell (World.block_lt_of_cell? w _ hx442_0)).trans hx442_0
                    replace p442 := eq_true p442
                    replace q442 := eq_true q442
                    have hcz16_0 : wr.cell? ⟨gb437, 0, none⟩ = some (.int .i64 a0_0) := (blk_cell BK437.out 0).trans rfl
                    have hcz16_1 : wr.cell? ⟨gb437, 1, none⟩ = some (.int .i64 a0_1) := (blk_cell BK437.out 1).trans rfl
                    have hcz16_2 : wr.cell? ⟨gb437, 2, none⟩ = some (.slice A0_2 l0_2.length c0_2) := (blk_cell BK437.out 2).trans rfl
                    have hcz16_3 : wr.cell? ⟨gb437, 3, none⟩ = some (.slice A0_3 l0_3.length c0_3) := (blk_cell BK437.out 3).trans rfl
                    have hcz16_4 : wr.cell? ⟨gb437, 4, none⟩ = some (.slice A0_4 l0_4.length c0_4) := (blk_cell BK437.out 4).trans rfl
                    have hcz16_5 : wr.cell? ⟨gb437, 5, none⟩ = some (.slice (some ad442) l0_5.length c0_5) := (blk_cell BK437.out 5).trans rfl
                    have hfz16_0 := blk_frozen BK437.out 0
                    have hfz16_1 := blk_frozen BK437.out 1
                    have hfz16_2 := blk_frozen BK437.out 2
                    have hfz16_3 := blk_frozen BK437.out 3
                    have hfz16_4 := blk_frozen BK437.out 4
                    have hfz16_5 := blk_frozen BK437.out 5
                    go_wp2_with (first | ((with_reducible refine gate_builtin (b := .append) (xs := #[.tmp 48, .tmp 56]) rfl ?_); at_builtin; refine Kd.R_append k100 (w0 := w) w.heap.size rfl (.tmp 48) (.tmp 56) 119 121 (.agg #[(.int .i64 0), (.int .i64 0), (.int .i64 0)]) 24 rfl Try.underlying119 info_tri rfl (by decide) (by omega) u3 x3_2 (⟨x43_2, wrap64 (x43_2 + a0_0), rd l0_5 x43_2⟩ : S100) [.int .i64 x43_2, .int .i64 (wrap64 (x43_2 + a0_0)), .int .i64 (rd l0_5 x43_2)] (fun _ => True) (fun _ => False) rfl rfl ?aP (fun _ hk => hk.elim) ?aF ?aO ?aB ?aS ?aL ?_; (case aP => exact k100_mkM _ _ _ (⟨x43_2, wrap64 (x43_2 + a0_0), rd l0_5 x43_2⟩ : S100)); (case aB => exact (by repeat (first | (with_reducible first | exact HB.out | apply below_alloc | apply pw_below_drewN | apply below_drew1 | refine below_set ?_ GE437.out) | exact HB.out))); (case aF => exact (fun _ _ => trivial)); (case aO => exact (by (with_reducible repeat (first | apply Kd.R_alloc | apply Kd.R_drewN | apply Kd.R_drew)); exact HO_3.out)); (case aS => exact (below_size (by repeat (first | (with_reducible first | exact HB.out | apply below_alloc | apply pw_below_drewN | apply below_drew1 | refine below_set ?_ GE437.out) | exact HB.out)))); (case aL => have := LMc15.out; omega); intro v444 w17 ho hb hg hat; rw [← Ny443.out] at ho; have n0_ := Aside0.mk (blk_grown (g := gb437) (o := .cells #[.int .i64 a0_0, .int .i64 a0_1, .slice A0_2 l0_2.length c0_2, .slice A0_3 l0_3.length c0_3, .slice A0_4 l0_4.length c0_4, .slice (some ad442) l0_5.length c0_5] 61 (0, 0)) (by (with_reducible repeat (first | refine blk_drewN ?_ _ | refine blk_drew ?_ | refine blk_alloc ?_ _)); exact BK437.out) hg (Kd.R_ne HO_3.out BK437.out (by decide))); have n1_ := Aside0.mk (hb); have n2_ := Aside0.mk (ho); clear BK437; clear HB; clear HO_3; have BK437 := n0_; have HB := n1_; have HO445 := n2_; clear n0_ n1_ n2_; clear ho hb hg hat))
                    repeat (go_quiet (first | ((with_reducible refine gate_builtin (b := .append) (xs := #[.tmp 48, .tmp 56]) rfl ?_); at_builtin; refine Kd.R_append k100 (w0 := w) w.heap.size rfl (.tmp 48) (.tmp 56) 119 121 (.agg #[(.int .i64 0), (.int .i64 0), (.int .i64 0)]) 24 rfl Try.underlying119 info_tri rfl (by decide) (by omega) u3 x3_2 (⟨x43_2, wrap64 (x43_2 + a0_0), rd l0_5 x43_2⟩ : S100) [.int .i64 x43_2, .int .i64 (wrap64 (x43_2 + a0_0)), .int .i64 (rd l0_5 x43_2)] (fun _ => True) (fun _ => False) rfl rfl ?aP (fun _ hk => hk.elim) ?aF ?aO ?aB ?aS ?aL ?_; (case aP => exact k100_mkM _ _ _ (⟨x43_2, wrap64 (x43_2 + a0_0), rd l0_5 x43_2⟩ : S100)); (case aB => exact (by repeat (first | (with_reducible first | exact HB.out | apply below_alloc | apply pw_below_drewN | apply below_drew1 | refine below_set ?_ GE437.out) | exact HB.out))); (case aF => exact (fun _ _ => trivial)); (case aO => exact (by (with_reducible repeat (first | apply Kd.R_alloc | apply Kd.R_drewN | apply Kd.R_drew)); exact HO_3.out)); (case aS => exact (below_size (by repeat (first | (with_reducible first | exact HB.out | apply below_alloc | apply pw_below_drewN | apply below_drew1 | refine below_set ?_ GE437.out) | exact HB.out)))); (case aL => have := LMc15.out; omega); intro v444 w17 ho hb hg hat; rw [← Ny443.out] at ho; have n0_ := Aside0.mk (blk_grown (g := gb437) (o := .cells #[.int .i64 a0_0, .int .i64 a0_1, .slice A0_2 l0_2.length c0_2, .slice A0_3 l0_3.length c0_3, .slice A0_4 l0_4.length c0_4, .slice (some ad442) l0_5.length c0_5] 61 (0, 0)) (by (with_reducible repeat (first | refine blk_drewN ?_ _ | refine blk_drew ?_ | refine blk_alloc ?_ _)); exact BK437.out) hg (Kd.R_ne HO_3.out BK437.out (by decide))); have n1_ := Aside0.mk (hb); have n2_ := Aside0.mk (ho); clear BK437; clear HB; clear HO_3; have BK437 := n0_; have HB := n1_; have HO445 := n2_; clear n0_ n1_ n2_; clear ho hb hg hat)); try go_wp2_with (first | ((with_reducible refine gate_builtin (b := .append) (xs := #[.tmp 48, .tmp 56]) rfl ?_); at_builtin; refine Kd.R_append k100 (w0 := w) w.heap.size rfl (.tmp 48) (.tmp 56) 119 121 (.agg #[(.int .i64 0), (.int .i64 0), (.int .i64 0)]) 24 rfl Try.underlying119 info_tri rfl (by decide) (by omega) u3 x3_2 (⟨x43_2, wrap64 (x43_2 + a0_0), rd l0_5 x43_2⟩ : S100) [.int .i64 x43_2, .int .i64 (wrap64 (x43_2 + a0_0)), .int .i64 (rd l0_5 x43_2)] (fun _ => True) (fun _ => False) rfl rfl ?aP (fun _ hk => hk.elim) ?aF ?aO ?aB ?aS ?aL ?_; (case aP => exact k100_mkM _ _ _ (⟨x43_2, wrap64 (x43_2 + a0_0), rd l0_5 x43_2⟩ : S100)); (case aB => exact (by repeat (first | (with_reducible first | exact HB.out | apply below_alloc | apply pw_below_drewN | apply below_drew1 | refine below_set ?_ GE437.out) | exact HB.out))); (case aF => exact (fun _ _ => trivial)); (case aO => exact (by (with_reducible repeat (first | apply Kd.R_alloc | apply Kd.R_drewN | apply Kd.R_drew)); exact HO_3.out)); (case aS => exact (below_size (by repeat (first | (with_reducible first | exact HB.out | apply below_alloc | apply pw_below_drewN | apply below_drew1 | refine below_set ?_ GE437.out) | exact HB.out)))); (case aL => have := LMc15.out; omega); intro v444 w17 ho hb hg hat; rw [← Ny443.out] at ho; have n0_ := Aside0.mk (blk_grown (g := gb437) (o := .cells #[.int .i64 a0_0, .int .i64 a0_1, .slice A0_2 l0_2.length c0_2, .slice A0_3 l0_3.length c0_3, .slice A0_4 l0_4.length c0_4, .slice (some ad442) l0_5.length c0_5] 61 (0, 0)) (by (with_reducible repeat (first | refine blk_drewN ?_ _ | refine blk_drew ?_ | refine blk_alloc ?_ _)); exact BK437.out) hg (Kd.R_ne HO_3.out BK437.out (by decide))); have n1_ := Aside0.mk (hb); have n2_ := Aside0.mk (ho); clear BK437; clear HB; clear HO_3; have BK437 := n0_; have HB := n1_; have HO445 := n2_; clear n0_ n1_ n2_; clear ho hb hg hat)))
                    go_roundg k2
                    case measure => have := HK1.out; have := HK2.out; omega
                    case rel => exact ⟨(y443), (wrap64 (x43_2 + 1)), (by first | rfl | (simp; done) | (simp [*]; done)), H', ⟨by have := HK1.out; have := HK2.out; omega⟩, ⟨by (with_reducible repeat (first | apply Kd.R_alloc | apply Kd.R_drewN | apply Kd.R_drew)); exact HO445.out⟩, ⟨by (with_reducible repeat (first | refine blk_drewN ?_ _ | refine blk_drew ?_ | refine blk_alloc ?_ _)); exact BK437.out⟩, ⟨by repeat (first | (with_reducible first | exact HB.out | apply below_alloc | apply pw_below_drewN | apply below_drew1 | refine below_set ?_ GE437.out) | exact HB.out)⟩⟩
                  · rw [if_neg c15] at H
                    exact absurd H (by simp)
                · rw [if_neg c14] at H
                  exact absurd H (by simp)
              · rw [if_neg c13] at H
                exact absurd H (by simp)
            · rw [if_neg c12] at H
              have c12b0 : decide (x43_2 < (l0_5.length : Int)) = false := decide_eq_false c12
              clear c12
              obtain rfl := Option.some.inj H
              go_wp2
              repeat (go_quiet (fail); try go_wp2)
              go_ret
              exact ⟨_, by first | rfl | (simp [errW_none, errW_some] <;> rfl) | (simp [*, errW_none, errW_some] <;> rfl), by (with_reducible repeat (first | apply Kd.R_alloc | apply Kd.R_drewN | apply Kd.R_drew)); exact HO_3.out, by repeat (first | (with_reducible first | exact HB.out | apply below_alloc | apply pw_below_drewN | apply below_drew1 | refine below_set ?_ GE437.out) | exact HB.out)⟩
end Go.Proofs.Ytbamanjedfccpaa.X
end

section
set_option linter.unusedVariables false
set_option linter.unusedSimpArgs false
namespace Go.Proofs.Ytbamanjedfccpaa.X
open Go.RowKit Go.Proofs.YtbamanjedfccpaaW.PrintWords Go.Proofs.YtbamanjedfccpaaW.PrintLast Go.Proofs.YtbamanjedfccpaaW.PrintMore
attribute [local go_sem] max2_int min2_int max_two min_two max_three min_three max_four min_four   -- for this text's walks alone
set_option linter.unusedVariables false
set_option linter.unusedSimpArgs false
def cantingref07_priced.l0 : Nat → List Int → Int → List Int → Int → Int → Option (Bool)
  | 0, _, _, _, _, _ => none
  | k + 1, x0, x1, x7, x8, x9 => if x9 < x8 then (if 0 ≤ x9 then (if x9 < (x7.length : Int) then (if (rd x7 x9) < 0 then (some false) else (if (rd x7 x9) > 1000 then (some false) else (cantingref07_priced.l0 k x0 x1 x7 x8 (wrap64 (x9 + 1))))) else (none)) else (none)) else (some ((x0.length : Int) == x1))
def cantingref07_priced.f (k : Nat) (l0 : List Int) (a1 : Int) : Option (Bool) := cantingref07_priced.l0 k l0 a1 l0 (l0.length : Int) 0
set_option maxHeartbeats 8000000 in
set_option maxRecDepth 100000 in
theorem cantingref07_priced.calls (k : Nat) (A0 : Option Addr) (c0 : Nat) (l0 : List Int) (a1 : Int) (r : Bool) (w : World) (hr0 : Kd.C (Kd.int .i64) w A0 l0.length l0) (hc0 : l0.length ≤ c0) (h : cantingref07_priced.f k l0 a1 = some r) :
    Calls Try.prog 69 #[.slice A0 l0.length c0, .int .i64 a1] w fun e w' => e = .returned (.bool r) ∧ Drawn0 w w' := by
  have HR0 := Aside0.mk hr0
  have HC0 := Aside0.mk hc0
  clear hr0 hc0
  have H : (cantingref07_priced.l0 k l0 a1 l0 (l0.length : Int) 0) = some r := h
  clear h
  have H' := Aside0.mk H
  clear H
  go_enter Try.func69, Try.ntmps69
  go_wp2
  go_loopg [9] k (fun kq v9 w' => ∃ (x9_1 : Int), v9 = .int .i64 x9_1 ∧ Aside0 (cantingref07_priced.l0 kq l0 a1 l0 (l0.length : Int) x9_1 = some r) ∧ Aside0 (kq ≤ k) ∧ Drawn0 w w')
  case atStart => exact ⟨(0), (by first | rfl | (simp; done) | (simp [*]; done)), H', ⟨Nat.le_refl _⟩, by repeat (first | exact Drawn0.refl _ | apply Drawn0.step)⟩
  case round =>
    clear H'
    try clear p2
    obtain ⟨x9_1, rfl, HA, HK1, ⟨m1, rfl⟩⟩ := hrel
    cases gk with
    | zero => exact absurd HA.out (by simp [cantingref07_priced.l0])
    | succ k1 =>
      have H := HA.out
      clear HA
      simp only [cantingref07_priced.l0] at H
      by_cases c3 : x9_1 < (l0.length : Int)
      · rw [if_pos c3] at H
        have c3b0 : decide (x9_1 < (l0.length : Int)) = true := decide_eq_true c3
        clear c3
        by_cases c4 : 0 ≤ x9_1
        · rw [if_pos c4] at H
          have c4b0 : decide (0 ≤ x9_1) = true := decide_eq_true c4
          clear c4
          by_cases c5 : x9_1 < (l0.length : Int)
          · rw [if_pos c5] at H
            have c5b0 : decide (x9_1 < (l0.length : Int)) = true := decide_eq_true c5
            clear c5
            by_cases c6 : (rd l0 x9_1) < 0
            · rw [if_pos c6] at H
              have c6b0 : decide ((rd l0 x9_1) < 0) = true := decide_eq_true c6
              clear c6
              obtain rfl := Option.some.inj H
              have p756 : 0 ≤ (x9_1 : Int) := of_decide_eq_true (by first | (with_reducible assumption) | assumption)
              have q756 : x9_1 < (l0.length : Int) := of_decide_eq_true (by first | (with_reducible assumption) | assumption)
              obtain ⟨ad756, e756, hx756_0⟩ := Kd.at_int HR0.out x9_1 p756 q756
              cases e756
              replace p756 := eq_true p756
              replace q756 := eq_true q756
              go_wp2
              go_ret
              exact ⟨by first | rfl | (simp; done) | (simp [*]; done), by repeat (first | exact Drawn0.refl _ | apply Drawn0.step)⟩
            · rw [if_neg c6] at H
              have c6b0 : decide ((rd l0 x9_1) < 0) = false := decide_eq_false c6
              clear c6
              by_cases c7 : (rd l0 x9_1) > 1000
              · rw [if_pos c7] at H
                have c7b0 : decide (1000 < (rd l0 x9_1)) = true := decide_eq_true c7
                clear c7
                obtain rfl := Option.some.inj H
                have p756 : 0 ≤ (x9_1 : Int) := of_decide_eq_true (by first | (with_reducible assumption) | assumption)
                have q756 : x9_1 < (l0.length : Int) := of_decide_eq_true (by first | (with_reducible assumption) | assumption)
                obtain ⟨ad756, e756, hx756_0⟩ := Kd.at_int HR0.out x9_1 p756 q756
                cases e756
                replace p756 := eq_true p756
                replace q756 := eq_true q756
                go_wp2
                go_ret
                exact ⟨by first | rfl | (simp; done) | (simp [*]; done), by repeat (first | exact Drawn0.refl _ | apply Drawn0.step)⟩
              · rw [if_neg c7] at H
                have c7b0 : decide (1000 < (rd l0 x9_1)) = false := decide_eq_false c7
                clear c7
                have H' := Aside0.mk H
                clear H
                have p756 : 0 ≤ (x9_1 : Int) := of_decide_eq_true (by first | (with_reducible assumption) | assumption)
                have q756 : x9_1 < (l0.length : Int) := of_decide_eq_true (by first | (with_reducible assumption) | assumption)
                obtain ⟨ad756, e756, hx756_0⟩ := Kd.at_int HR0.out x9_1 p756 q756
                cases e756
                replace p756 := eq_true p756
                replace q756 := eq_true q756
                go_wp2
                go_roundg k1
                case measure => have := HK1.out; omega
                case rel => exact ⟨(wrap64 (x9_1 + 1)), (by first | rfl | (simp; done) | (simp [*]; done)), H', ⟨by have := HK1.out; omega⟩, by repeat (first | exact Drawn0.refl _ | apply Drawn0.step)⟩
          · rw [if_neg c5] at H
            exact absurd H (by simp)
        · rw [if_neg c4] at H
          exact absurd H (by simp)
      · rw [if_neg c3] at H
        have c3b0 : decide (x9_1 < (l0.length : Int)) = false := decide_eq_false c3
        clear c3
        obtain rfl := Option.some.inj H
        go_wp2
        go_ret
        exact ⟨by first | rfl | (simp; done) | (simp [*]; done), by repeat (first | exact Drawn0.refl _ | apply Drawn0.step)⟩
end Go.Proofs.Ytbamanjedfccpaa.X
end

section
set_option linter.unusedVariables false
set_option linter.unusedSimpArgs false
namespace Go.Proofs.Ytbamanjedfccpaa.X
open Go.RowKit Go.Proofs.YtbamanjedfccpaaW.PrintWords Go.Proofs.YtbamanjedfccpaaW.PrintLast Go.Proofs.YtbamanjedfccpaaW.PrintMore
attribute [local go_sem] max2_int min2_int max_two min_two max_three min_three max_four min_four   -- for this text's walks alone
set_option linter.unusedVariables false
set_option linter.unusedSimpArgs false
def cantingref07_Woven.j0 : Nat → Bool → Int → Int → List Int → List Int → List Int → List Int → Option (Bool)
  | 0, _, _, _, _, _, _, _ => none
  | k + 1, x20, x758000, x758001, x758002, x758003, x758004, x758005 => if x20 = true then (some false) else ((cantingref07_priced.f k x758002 (wrap64 (x758000 * x758001))).bind fun t758 => (if t758 = true then ((cantingref07_priced.f k x758003 (wrap64 (x758000 * x758001))).bind fun t759 => (if t759 = true then ((cantingref07_priced.f k x758004 (wrap64 ((wrap64 (x758000 - 1)) * x758001))).bind fun t760 => (if t760 = true then ((cantingref07_priced.f k x758005 (wrap64 (x758000 * (wrap64 (x758001 - 1))))).bind fun t761 => (some t761)) else (some false))) else (some false))) else (some false)))
def cantingref07_Woven.f (k : Nat) (a0_0 : Int) (a0_1 : Int) (l0_2 : List Int) (l0_3 : List Int) (l0_4 : List Int) (l0_5 : List Int) : Option (Bool) := if a0_0 < 1 then (cantingref07_Woven.j0 k true a0_0 a0_1 l0_2 l0_3 l0_4 l0_5) else (if a0_0 > 6 then (cantingref07_Woven.j0 k true a0_0 a0_1 l0_2 l0_3 l0_4 l0_5) else (if a0_1 < 1 then (cantingref07_Woven.j0 k true a0_0 a0_1 l0_2 l0_3 l0_4 l0_5) else (cantingref07_Woven.j0 k (decide (a0_1 > 6)) a0_0 a0_1 l0_2 l0_3 l0_4 l0_5)))
set_option maxHeartbeats 8000000 in
set_option maxRecDepth 100000 in
theorem cantingref07_Woven.calls (k : Nat) (a0_0 : Int) (a0_1 : Int) (A0_2 : Option Addr) (c0_2 : Nat) (l0_2 : List Int) (A0_3 : Option Addr) (c0_3 : Nat) (l0_3 : List Int) (A0_4 : Option Addr) (c0_4 : Nat) (l0_4 : List Int) (A0_5 : Option Addr) (c0_5 : Nat) (l0_5 : List Int) (r : Bool) (w : World) (hr0_2 : Kd.C (Kd.int .i64) w A0_2 l0_2.length l0_2) (hc0_2 : l0_2.length ≤ c0_2) (hr0_3 : Kd.C (Kd.int .i64) w A0_3 l0_3.length l0_3) (hc0_3 : l0_3.length ≤ c0_3) (hr0_4 : Kd.C (Kd.int .i64) w A0_4 l0_4.length l0_4) (hc0_4 : l0_4.length ≤ c0_4) (hr0_5 : Kd.C (Kd.int .i64) w A0_5 l0_5.length l0_5) (hc0_5 : l0_5.length ≤ c0_5) (h : cantingref07_Woven.f k a0_0 a0_1 l0_2 l0_3 l0_4 l0_5 = some r) :
    Calls Try.prog 45 #[.agg #[.int .i64 a0_0, .int .i64 a0_1, .slice A0_2 l0_2.length c0_2, .slice A0_3 l0_3.length c0_3, .slice A0_4 l0_4.length c0_4, .slice A0_5 l0_5.length c0_5]] w fun e w' => e = .returned (.bool r) ∧ Below w.heap.size w w' := by
  have hu61 := Try.underlying61
  have HR0_2 := Aside0.mk hr0_2
  have HC0_2 := Aside0.mk hc0_2
  clear hr0_2 hc0_2
  have HR0_3 := Aside0.mk hr0_3
  have HC0_3 := Aside0.mk hc0_3
  clear hr0_3 hc0_3
  have HR0_4 := Aside0.mk hr0_4
  have HC0_4 := Aside0.mk hc0_4
  clear hr0_4 hc0_4
  have HR0_5 := Aside0.mk hr0_5
  have HC0_5 := Aside0.mk hc0_5
  clear hr0_5 hc0_5
  have HB := Aside0.mk (Below.refl w.heap.size w)
  have H : (if a0_0 < 1 then (cantingref07_Woven.j0 k true a0_0 a0_1 l0_2 l0_3 l0_4 l0_5) else (if a0_0 > 6 then (cantingref07_Woven.j0 k true a0_0 a0_1 l0_2 l0_3 l0_4 l0_5) else (if a0_1 < 1 then (cantingref07_Woven.j0 k true a0_0 a0_1 l0_2 l0_3 l0_4 l0_5) else (cantingref07_Woven.j0 k (decide (a0_1 > 6)) a0_0 a0_1 l0_2 l0_3 l0_4 l0_5)))) = some r := h
  clear h
  have HC2 := Aside0.mk H
  clear H
  go_enter Try.func45, Try.ntmps45
  go_upto_region 1 with (first | ((with_reducible refine gate_dst (N := 1) rfl ?_); refine box_event ?hg (N := 1) ?hd (cs := #[.int .i64 a0_0, .int .i64 a0_1, .slice A0_2 l0_2.length c0_2, .slice A0_3 l0_3.length c0_3, .slice A0_4 l0_4.length c0_4, .slice A0_5 l0_5.length c0_5]) (t := 61) ?hr ?_; (case hd => rfl); (case hg => rfl); (case hr => first | (go_simp; done) | (go_simp; rfl)); intro gb757 hg w3 hbox hb; have n0_ := Aside0.mk (below_step (by repeat (first | (with_reducible first | exact HB.out | apply below_alloc | apply pw_below_drewN | apply below_drew1) | exact HB.out)) hb); have n1_ := Aside0.mk (hbox); have n2_ := Aside0.mk ((by rw [hg]; exact (below_size (by repeat (first | (with_reducible first | exact HB.out | apply below_alloc | apply pw_below_drewN | apply below_drew1) | exact HB.out))) : w.heap.size ≤ gb757)); have n3_ := Aside0.mk ((by rw [hg]; exact (below_size (by repeat (first | (with_reducible first | exact HB.out | apply below_alloc | apply pw_below_drewN | apply below_drew1) | exact HB.out))) : w.heap.size ≤ gb757)); clear HB; have HB := n0_; have BK757 := n1_; have GW757 := n2_; have GE757 := n3_; clear n0_ n1_ n2_ n3_; clear hb hbox hg))
  (try simp only [Act.put, List.setIfInBounds_toArray, List.set_cons_zero, List.set_cons_succ])
  go_cut [20] (fun v20 wc => ∃ (kq : Nat) (x20_1 : Bool), v20 = .bool x20_1 ∧ Aside0 (cantingref07_Woven.j0 kq x20_1 a0_0 a0_1 l0_2 l0_3 l0_4 l0_5 = some r) ∧ Aside0 (kq ≤ k) ∧ Aside0 (wc.heap[gb757]? = some (.cells #[.int .i64 a0_0, .int .i64 a0_1, (.slice A0_2 l0_2.length c0_2), (.slice A0_3 l0_3.length c0_3), (.slice A0_4 l0_4.length c0_4), (.slice A0_5 l0_5.length c0_5)] 61 (0, 0))) ∧ Aside0 (Below w.heap.size w wc))
  case first =>
    have H := HC2.out
    clear HC2
    by_cases c4 : a0_0 < 1
    · rw [if_pos c4] at H
      have c4b0 : decide (a0_0 < 1) = true := decide_eq_true c4
      clear c4
      (first | rw [c4b0] | (simp only [i64_w, i32_w]; rw [c4b0]) | skip)
      have H' := Aside0.mk H
      clear H
      have hcz5_0 : w3.cell? ⟨gb757, 0, none⟩ = some (.int .i64 a0_0) := (blk_cell BK757.out 0).trans rfl
      have hcz5_1 : w3.cell? ⟨gb757, 1, none⟩ = some (.int .i64 a0_1) := (blk_cell BK757.out 1).trans rfl
      have hcz5_2 : w3.cell? ⟨gb757, 2, none⟩ = some (.slice A0_2 l0_2.length c0_2) := (blk_cell BK757.out 2).trans rfl
      have hcz5_3 : w3.cell? ⟨gb757, 3, none⟩ = some (.slice A0_3 l0_3.length c0_3) := (blk_cell BK757.out 3).trans rfl
      have hcz5_4 : w3.cell? ⟨gb757, 4, none⟩ = some (.slice A0_4 l0_4.length c0_4) := (blk_cell BK757.out 4).trans rfl
      have hcz5_5 : w3.cell? ⟨gb757, 5, none⟩ = some (.slice A0_5 l0_5.length c0_5) := (blk_cell BK757.out 5).trans rfl
      have hfz5_0 := blk_frozen BK757.out 0
      have hfz5_1 := blk_frozen BK757.out 1
      have hfz5_2 := blk_frozen BK757.out 2
      have hfz5_3 := blk_frozen BK757.out 3
      have hfz5_4 := blk_frozen BK757.out 4
      have hfz5_5 := blk_frozen BK757.out 5
      go_wp2
      go_meet
      case rel => exact ⟨_, (true), (by first | rfl | (simp; done) | (simp [*]; done)), H', ⟨by first | omega | exact Nat.le_refl _⟩, ⟨by (with_reducible repeat (first | refine blk_drewN ?_ _ | refine blk_drew ?_ | refine blk_alloc ?_ _)); exact BK757.out⟩, ⟨by repeat (first | (with_reducible first | exact HB.out | apply below_alloc | apply pw_below_drewN | apply below_drew1 | refine below_set ?_ GE757.out) | exact HB.out)⟩⟩
    · rw [if_neg c4] at H
      have c4b0 : decide (a0_0 < 1) = false := decide_eq_false c4
      clear c4
      (first | rw [c4b0] | (simp only [i64_w, i32_w]; rw [c4b0]) | skip)
      by_cases c6 : a0_0 > 6
      · rw [if_pos c6] at H
        have c6b0 : decide (6 < a0_0) = true := decide_eq_true c6
        clear c6
        have H' := Aside0.mk H
        clear H
        have hcz7_0 : w3.cell? ⟨gb757, 0, none⟩ = some (.int .i64 a0_0) := (blk_cell BK757.out 0).trans rfl
        have hcz7_1 : w3.cell? ⟨gb757, 1, none⟩ = some (.int .i64 a0_1) := (blk_cell BK757.out 1).trans rfl
        have hcz7_2 : w3.cell? ⟨gb757, 2, none⟩ = some (.slice A0_2 l0_2.length c0_2) := (blk_cell BK757.out 2).trans rfl
        have hcz7_3 : w3.cell? ⟨gb757, 3, none⟩ = some (.slice A0_3 l0_3.length c0_3) := (blk_cell BK757.out 3).trans rfl
        have hcz7_4 : w3.cell? ⟨gb757, 4, none⟩ = some (.slice A0_4 l0_4.length c0_4) := (blk_cell BK757.out 4).trans rfl
        have hcz7_5 : w3.cell? ⟨gb757, 5, none⟩ = some (.slice A0_5 l0_5.length c0_5) := (blk_cell BK757.out 5).trans rfl
        have hfz7_0 := blk_frozen BK757.out 0
        have hfz7_1 := blk_frozen BK757.out 1
        have hfz7_2 := blk_frozen BK757.out 2
        have hfz7_3 := blk_frozen BK757.out 3
        have hfz7_4 := blk_frozen BK757.out 4
        have hfz7_5 := blk_frozen BK757.out 5
        go_wp2
        go_meet
        case rel => exact ⟨_, (true), (by first | rfl | (simp; done) | (simp [*]; done)), H', ⟨by first | omega | exact Nat.le_refl _⟩, ⟨by (with_reducible repeat (first | refine blk_drewN ?_ _ | refine blk_drew ?_ | refine blk_alloc ?_ _)); exact BK757.out⟩, ⟨by repeat (first | (with_reducible first | exact HB.out | apply below_alloc | apply pw_below_drewN | apply below_drew1 | refine below_set ?_ GE757.out) | exact HB.out)⟩⟩
      · rw [if_neg c6] at H
        have c6b0 : decide (6 < a0_0) = false := decide_eq_false c6
        clear c6
        by_cases c8 : a0_1 < 1
        · rw [if_pos c8] at H
          have c8b0 : decide (a0_1 < 1) = true := decide_eq_true c8
          clear c8
          have H' := Aside0.mk H
          clear H
          have hcz9_0 : w3.cell? ⟨gb757, 0, none⟩ = some (.int .i64 a0_0) := (blk_cell BK757.out 0).trans rfl
          have hcz9_1 : w3.cell? ⟨gb757, 1, none⟩ = some (.int .i64 a0_1) := (blk_cell BK757.out 1).trans rfl
          have hcz9_2 : w3.cell? ⟨gb757, 2, none⟩ = some (.slice A0_2 l0_2.length c0_2) := (blk_cell BK757.out 2).trans rfl
          have hcz9_3 : w3.cell? ⟨gb757, 3, none⟩ = some (.slice A0_3 l0_3.length c0_3) := (blk_cell BK757.out 3).trans rfl
          have hcz9_4 : w3.cell? ⟨gb757, 4, none⟩ = some (.slice A0_4 l0_4.length c0_4) := (blk_cell BK757.out 4).trans rfl
          have hcz9_5 : w3.cell? ⟨gb757, 5, none⟩ = some (.slice A0_5 l0_5.length c0_5) := (blk_cell BK757.out 5).trans rfl
          have hfz9_0 := blk_frozen BK757.out 0
          have hfz9_1 := blk_frozen BK757.out 1
          have hfz9_2 := blk_frozen BK757.out 2
          have hfz9_3 := blk_frozen BK757.out 3
          have hfz9_4 := blk_frozen BK757.out 4
          have hfz9_5 := blk_frozen BK757.out 5
          go_wp2
          go_meet
          case rel => exact ⟨_, (true), (by first | rfl | (simp; done) | (simp [*]; done)), H', ⟨by first | omega | exact Nat.le_refl _⟩, ⟨by (with_reducible repeat (first | refine blk_drewN ?_ _ | refine blk_drew ?_ | refine blk_alloc ?_ _)); exact BK757.out⟩, ⟨by repeat (first | (with_reducible first | exact HB.out | apply below_alloc | apply pw_below_drewN | apply below_drew1 | refine below_set ?_ GE757.out) | exact HB.out)⟩⟩
        · rw [if_neg c8] at H
          have c8b0 : decide (a0_1 < 1) = false := decide_eq_false c8
          clear c8
          have H' := Aside0.mk H
          clear H
          have hcz10_0 : w3.cell? ⟨gb757, 0, none⟩ = some (.int .i64 a0_0) := (blk_cell BK757.out 0).trans rfl
          have hcz10_1 : w3.cell? ⟨gb757, 1, none⟩ = some (.int .i64 a0_1) := (blk_cell BK757.out 1).trans rfl
          have hcz10_2 : w3.cell? ⟨gb757, 2, none⟩ = some (.slice A0_2 l0_2.length c0_2) := (blk_cell BK757.out 2).trans rfl
          have hcz10_3 : w3.cell? ⟨gb757, 3, none⟩ = some (.slice A0_3 l0_3.length c0_3) := (blk_cell BK757.out 3).trans rfl
          have hcz10_4 : w3.cell? ⟨gb757, 4, none⟩ = some (.slice A0_4 l0_4.length c0_4) := (blk_cell BK757.out 4).trans rfl
          have hcz10_5 : w3.cell? ⟨gb757, 5, none⟩ = some (.slice A0_5 l0_5.length c0_5) := (blk_cell BK757.out 5).trans rfl
          have hfz10_0 := blk_frozen BK757.out 0
          have hfz10_1 := blk_frozen BK757.out 1
          have hfz10_2 := blk_frozen BK757.out 2
          have hfz10_3 := blk_frozen BK757.out 3
          have hfz10_4 := blk_frozen BK757.out 4
          have hfz10_5 := blk_frozen BK757.out 5
          go_wp2
          go_meet
          case rel => exact ⟨_, (decide (a0_1 > 6)), (by first | rfl | (simp; done) | (simp [*]; done)), H', ⟨by first | omega | exact Nat.le_refl _⟩, ⟨by (with_reducible repeat (first | refine blk_drewN ?_ _ | refine blk_drew ?_ | refine blk_alloc ?_ _)); exact BK757.out⟩, ⟨by repeat (first | (with_reducible first | exact HB.out | apply below_alloc | apply pw_below_drewN | apply below_drew1 | refine below_set ?_ GE757.out) | exact HB.out)⟩⟩
  case rest =>
    clear HC2
    try clear p2
    try clear c4
    try clear c4b0
    try clear c6
    try clear c6b0
    try clear c8
    try clear c8b0
    try clear hcz10_0
    try clear hcz10_1
    try clear hcz10_2
    try clear hcz10_3
    try clear hcz10_4
    try clear hcz10_5
    try clear hcz5_0
    try clear hcz5_1
    try clear hcz5_2
    try clear hcz5_3
    try clear hcz5_4
    try clear hcz5_5
    try clear hcz7_0
    try clear hcz7_1
    try clear hcz7_2
    try clear hcz7_3
    try clear hcz7_4
    try clear hcz7_5
    try clear hcz9_0
    try clear hcz9_1
    try clear hcz9_2
    try clear hcz9_3
    try clear hcz9_4
    try clear hcz9_5
    try clear hfz10_0
    try clear hfz10_1
    try clear hfz10_2
    try clear hfz10_3
    try clear hfz10_4
    try clear hfz10_5
    try clear hfz5_0
    try clear hfz5_1
    try clear hfz5_2
    try clear hfz5_3
    try clear hfz5_4
    try clear hfz5_5
    try clear hfz7_0
    try clear hfz7_1
    try clear hfz7_2
    try clear hfz7_3
    try clear hfz7_4
    try clear hfz7_5
    try clear hfz9_0
    try clear hfz9_1
    try clear hfz9_2
    try clear hfz9_3
    try clear hfz9_4
    try clear hfz9_5
    obtain ⟨kq, x20_1, rfl, HA, HJ1, BK757, HB⟩ := hcut
    cases kq with
    | zero => exact absurd HA.out (by simp [cantingref07_Woven.j0])
    | succ kj1 =>
      have H := HA.out
      clear HA
      simp only [cantingref07_Woven.j0] at H
      by_cases c11 : x20_1 = true
      · subst c11
        have H1 : (some false) = some r := by rw [if_pos rfl] at H; exact H
        clear H
        have H := H1
        clear H1
        obtain rfl := Option.some.inj H
        go_wp2
        go_ret
        exact ⟨by first | rfl | (simp [errW_none, errW_some] <;> rfl) | (simp [*, errW_none, errW_some] <;> rfl), by repeat (first | (with_reducible first | exact HB.out | apply below_alloc | apply pw_below_drewN | apply below_drew1 | refine below_set ?_ GE757.out) | exact HB.out)⟩
      · replace c11 := Bool.eq_false_iff.mpr c11
        subst c11
        have H1 : ((cantingref07_priced.f kj1 l0_2 (wrap64 (a0_0 * a0_1))).bind fun t758 => (if t758 = true then ((cantingref07_priced.f kj1 l0_3 (wrap64 (a0_0 * a0_1))).bind fun t759 => (if t759 = true then ((cantingref07_priced.f kj1 l0_4 (wrap64 ((wrap64 (a0_0 - 1)) * a0_1))).bind fun t760 => (if t760 = true then ((cantingref07_priced.f kj1 l0_5 (wrap64 (a0_0 * (wrap64 (a0_1 - 1))))).bind fun t761 => (some t761)) else (some false))) else (some false))) else (some false))) = some r := by rw [if_neg (show ¬ (false = true) by decide)] at H; exact H
        clear H
        have H := H1
        clear H1
        replace H := Option.bind_eq_some_iff.mp H
        obtain ⟨t758, A120, H⟩ := H
        replace H : (if t758 = true then ((cantingref07_priced.f kj1 l0_3 (wrap64 (a0_0 * a0_1))).bind fun t759 => (if t759 = true then ((cantingref07_priced.f kj1 l0_4 (wrap64 ((wrap64 (a0_0 - 1)) * a0_1))).bind fun t760 => (if t760 = true then ((cantingref07_priced.f kj1 l0_5 (wrap64 (a0_0 * (wrap64 (a0_1 - 1))))).bind fun t761 => (some t761)) else (some false))) else (some false))) else (some false)) = some r := H
        have A12 := Aside0.mk A120
        clear A120
        by_cases c13 : t758 = true
        · subst c13
          have H1 : ((cantingref07_priced.f kj1 l0_3 (wrap64 (a0_0 * a0_1))).bind fun t759 => (if t759 = true then ((cantingref07_priced.f kj1 l0_4 (wrap64 ((wrap64 (a0_0 - 1)) * a0_1))).bind fun t760 => (if t760 = true then ((cantingref07_priced.f kj1 l0_5 (wrap64 (a0_0 * (wrap64 (a0_1 - 1))))).bind fun t761 => (some t761)) else (some false))) else (some false))) = some r := by rw [if_pos rfl] at H; exact H
          clear H
          have H := H1
          clear H1
          replace H := Option.bind_eq_some_iff.mp H
          obtain ⟨t759, A140, H⟩ := H
          replace H : (if t759 = true then ((cantingref07_priced.f kj1 l0_4 (wrap64 ((wrap64 (a0_0 - 1)) * a0_1))).bind fun t760 => (if t760 = true then ((cantingref07_priced.f kj1 l0_5 (wrap64 (a0_0 * (wrap64 (a0_1 - 1))))).bind fun t761 => (some t761)) else (some false))) else (some false)) = some r := H
          have A14 := Aside0.mk A140
          clear A140
          by_cases c15 : t759 = true
          · subst c15
            have H1 : ((cantingref07_priced.f kj1 l0_4 (wrap64 ((wrap64 (a0_0 - 1)) * a0_1))).bind fun t760 => (if t760 = true then ((cantingref07_priced.f kj1 l0_5 (wrap64 (a0_0 * (wrap64 (a0_1 - 1))))).bind fun t761 => (some t761)) else (some false))) = some r := by rw [if_pos rfl] at H; exact H
            clear H
            have H := H1
            clear H1
            replace H := Option.bind_eq_some_iff.mp H
            obtain ⟨t760, A160, H⟩ := H
            replace H : (if t760 = true then ((cantingref07_priced.f kj1 l0_5 (wrap64 (a0_0 * (wrap64 (a0_1 - 1))))).bind fun t761 => (some t761)) else (some false)) = some r := H
            have A16 := Aside0.mk A160
            clear A160
            by_cases c17 : t760 = true
            · subst c17
              have H1 : ((cantingref07_priced.f kj1 l0_5 (wrap64 (a0_0 * (wrap64 (a0_1 - 1))))).bind fun t761 => (some t761)) = some r := by rw [if_pos rfl] at H; exact H
              clear H
              have H := H1
              clear H1
              replace H := Option.bind_eq_some_iff.mp H
              obtain ⟨t761, A180, H⟩ := H
              replace H : (some t761) = some r := H
              have A18 := Aside0.mk A180
              clear A180
              obtain rfl := Option.some.inj H
              have hcz19_0 : wc.cell? ⟨gb757, 0, none⟩ = some (.int .i64 a0_0) := (blk_cell BK757.out 0).trans rfl
              have hcz19_1 : wc.cell? ⟨gb757, 1, none⟩ = some (.int .i64 a0_1) := (blk_cell BK757.out 1).trans rfl
              have hcz19_2 : wc.cell? ⟨gb757, 2, none⟩ = some (.slice A0_2 l0_2.length c0_2) := (blk_cell BK757.out 2).trans rfl
              have hcz19_3 : wc.cell? ⟨gb757, 3, none⟩ = some (.slice A0_3 l0_3.length c0_3) := (blk_cell BK757.out 3).trans rfl
              have hcz19_4 : wc.cell? ⟨gb757, 4, none⟩ = some (.slice A0_4 l0_4.length c0_4) := (blk_cell BK757.out 4).trans rfl
              have hcz19_5 : wc.cell? ⟨gb757, 5, none⟩ = some (.slice A0_5 l0_5.length c0_5) := (blk_cell BK757.out 5).trans rfl
              have hfz19_0 := blk_frozen BK757.out 0
              have hfz19_1 := blk_frozen BK757.out 1
              have hfz19_2 := blk_frozen BK757.out 2
              have hfz19_3 := blk_frozen BK757.out 3
              have hfz19_4 := blk_frozen BK757.out 4
              have hfz19_5 := blk_frozen BK757.out 5
              go_wp2_with (first | ((with_reducible refine gate_callee (f := 69) rfl ?_); refine goesL_ (some 28) rfl rfl Try.func69 (by kernel_rfl) rfl #[.slice A0_2 l0_2.length c0_2, .int .i64 (wrap64 (a0_0 * a0_1))] rfl (by (try simp only [List.map_toArray, List.map_cons, List.map_nil]); first | done | rfl | (simp only [List.length_drop, List.length_take]; rfl)) ?_; (with_reducible refine (cantingref07_priced.calls kj1 _ _ l0_2 (wrap64 (a0_0 * a0_1)) true _ ?side1 ?side2 A12.out).mono ?_); (case side1 => repeat (first | exact (Kd.C_below HR0_2.out HB.out) | (with_reducible refine Kd.C_alloc ?_ _) | (with_reducible refine Kd.C_drewN ?_ _) | (with_reducible refine Kd.C_drew ?_))); (case side2 => exact HC0_2.out); rintro e w' ⟨rfl, ⟨nd, rfl⟩⟩; refine ⟨_, rfl, ?_⟩) | (go_at_call 69; (with_reducible refine (cantingref07_priced.calls kj1 _ _ l0_3 (wrap64 (a0_0 * a0_1)) true _ ?side1 ?side2 A14.out).mono ?_); (case side1 => repeat (first | exact (Kd.C_below HR0_3.out (by repeat (first | (with_reducible first | exact HB.out | apply below_alloc | apply pw_below_drewN | apply below_drew1 | refine below_set ?_ GE757.out) | exact HB.out))) | (with_reducible refine Kd.C_alloc ?_ _) | (with_reducible refine Kd.C_drewN ?_ _) | (with_reducible refine Kd.C_drew ?_))); (case side2 => exact HC0_3.out); rintro e w' ⟨rfl, ⟨nd, rfl⟩⟩) | (go_at_call 69; (with_reducible refine (cantingref07_priced.calls kj1 _ _ l0_4 (wrap64 ((wrap64 (a0_0 - 1)) * a0_1)) true _ ?side1 ?side2 A16.out).mono ?_); (case side1 => repeat (first | exact (Kd.C_below HR0_4.out (by repeat (first | (with_reducible first | exact HB.out | apply below_alloc | apply pw_below_drewN | apply below_drew1 | refine below_set ?_ GE757.out) | exact HB.out))) | (with_reducible refine Kd.C_alloc ?_ _) | (with_reducible refine Kd.C_drewN ?_ _) | (with_reducible refine Kd.C_drew ?_))); (case side2 => exact HC0_4.out); rintro e w' ⟨rfl, ⟨nd, rfl⟩⟩) | (go_at_call 69; (with_reducible refine (cantingref07_priced.calls kj1 _ _ l0_5 (wrap64 (a0_0 * (wrap64 (a0_1 - 1)))) t761 _ ?side1 ?side2 A18.out).mono ?_); (case side1 => repeat (first | exact (Kd.C_below HR0_5.out (by repeat (first | (with_reducible first | exact HB.out | apply below_alloc | apply pw_below_drewN | apply below_drew1 | refine below_set ?_ GE757.out) | exact HB.out))) | (with_reducible refine Kd.C_alloc ?_ _) | (with_reducible refine Kd.C_drewN ?_ _) | (with_reducible refine Kd.C_drew ?_))); (case side2 => exact HC0_5.out); rintro e w' ⟨rfl, ⟨nd, rfl⟩⟩))
              go_ret
              exact ⟨by first | rfl | (simp [errW_none, errW_some] <;> rfl) | (simp [*, errW_none, errW_some] <;> rfl), by repeat (first | (with_reducible first | exact HB.out | apply below_alloc | apply pw_below_drewN | apply below_drew1 | refine below_set ?_ GE757.out) | exact HB.out)⟩
            · replace c17 := Bool.eq_false_iff.mpr c17
              subst c17
              have H1 : (some false) = some r := by rw [if_neg (show ¬ (false = true) by decide)] at H; exact H
              clear H
              have H := H1
              clear H1
              obtain rfl := Option.some.inj H
              have hcz20_0 : wc.cell? ⟨gb757, 0, none⟩ = some (.int .i64 a0_0) := (blk_cell BK757.out 0).trans rfl
              have hcz20_1 : wc.cell? ⟨gb757, 1, none⟩ = some (.int .i64 a0_1) := (blk_cell BK757.out 1).trans rfl
              have hcz20_2 : wc.cell? ⟨gb757, 2, none⟩ = some (.slice A0_2 l0_2.length c0_2) := (blk_cell BK757.out 2).trans rfl
              have hcz20_3 : wc.cell? ⟨gb757, 3, none⟩ = some (.slice A0_3 l0_3.length c0_3) := (blk_cell BK757.out 3).trans rfl
              have hcz20_4 : wc.cell? ⟨gb757, 4, none⟩ = some (.slice A0_4 l0_4.length c0_4) := (blk_cell BK757.out 4).trans rfl
              have hcz20_5 : wc.cell? ⟨gb757, 5, none⟩ = some (.slice A0_5 l0_5.length c0_5) := (blk_cell BK757.out 5).trans rfl
              have hfz20_0 := blk_frozen BK757.out 0
              have hfz20_1 := blk_frozen BK757.out 1
              have hfz20_2 := blk_frozen BK757.out 2
              have hfz20_3 := blk_frozen BK757.out 3
              have hfz20_4 := blk_frozen BK757.out 4
              have hfz20_5 := blk_frozen BK757.out 5
              go_wp2_with (first | ((with_reducible refine gate_callee (f := 69) rfl ?_); refine goesL_ (some 28) rfl rfl Try.func69 (by kernel_rfl) rfl #[.slice A0_2 l0_2.length c0_2, .int .i64 (wrap64 (a0_0 * a0_1))] rfl (by (try simp only [List.map_toArray, List.map_cons, List.map_nil]); first | done | rfl | (simp only [List.length_drop, List.length_take]; rfl)) ?_; (with_reducible refine (cantingref07_priced.calls kj1 _ _ l0_2 (wrap64 (a0_0 * a0_1)) true _ ?side1 ?side2 A12.out).mono ?_); (case side1 => repeat (first | exact (Kd.C_below HR0_2.out HB.out) | (with_reducible refine Kd.C_alloc ?_ _) | (with_reducible refine Kd.C_drewN ?_ _) | (with_reducible refine Kd.C_drew ?_))); (case side2 => exact HC0_2.out); rintro e w' ⟨rfl, ⟨nd, rfl⟩⟩; refine ⟨_, rfl, ?_⟩) | (go_at_call 69; (with_reducible refine (cantingref07_priced.calls kj1 _ _ l0_3 (wrap64 (a0_0 * a0_1)) true _ ?side1 ?side2 A14.out).mono ?_); (case side1 => repeat (first | exact (Kd.C_below HR0_3.out (by repeat (first | (with_reducible first | exact HB.out | apply below_alloc | apply pw_below_drewN | apply below_drew1 | refine below_set ?_ GE757.out) | exact HB.out))) | (with_reducible refine Kd.C_alloc ?_ _) | (with_reducible refine Kd.C_drewN ?_ _) | (with_reducible refine Kd.C_drew ?_))); (case side2 => exact HC0_3.out); rintro e w' ⟨rfl, ⟨nd, rfl⟩⟩) | (go_at_call 69; (with_reducible refine (cantingref07_priced.calls kj1 _ _ l0_4 (wrap64 ((wrap64 (a0_0 - 1)) * a0_1)) false _ ?side1 ?side2 A16.out).mono ?_); (case side1 => repeat (first | exact (Kd.C_below HR0_4.out (by repeat (first | (with_reducible first | exact HB.out | apply below_alloc | apply pw_below_drewN | apply below_drew1 | refine below_set ?_ GE757.out) | exact HB.out))) | (with_reducible refine Kd.C_alloc ?_ _) | (with_reducible refine Kd.C_drewN ?_ _) | (with_reducible refine Kd.C_drew ?_))); (case side2 => exact HC0_4.out); rintro e w' ⟨rfl, ⟨nd, rfl⟩⟩))
              go_ret
              exact ⟨by first | rfl | (simp [errW_none, errW_some] <;> rfl) | (simp [*, errW_none, errW_some] <;> rfl), by repeat (first | (with_reducible first | exact HB.out | apply below_alloc | apply pw_below_drewN | apply below_drew1 | refine below_set ?_ GE757.out) | exact HB.out)⟩
          · replace c15 := Bool.eq_false_iff.mpr c15
            subst c15
            have H1 : (some false) = some r := by rw [if_neg (show ¬ (false = true) by decide)] at H; exact H
            clear H
            have H := H1
            clear H1
            obtain rfl := Option.some.inj H
            have hcz21_0 : wc.cell? ⟨gb757, 0, none⟩ = some (.int .i64 a0_0) := (blk_cell BK757.out 0).trans rfl
            have hcz21_1 : wc.cell? ⟨gb757, 1, none⟩ = some (.int .i64 a0_1) := (blk_cell BK757.out 1).trans rfl
            have hcz21_2 : wc.cell? ⟨gb757, 2, none⟩ = some (.slice A0_2 l0_2.length c0_2) := (blk_cell BK757.out 2).trans rfl
            have hcz21_3 : wc.cell? ⟨gb757, 3, none⟩ = some (.slice A0_3 l0_3.length c0_3) := (blk_cell BK757.out 3).trans rfl
            have hcz21_4 : wc.cell? ⟨gb757, 4, none⟩ = some (.slice A0_4 l0_4.length c0_4) := (blk_cell BK757.out 4).trans rfl
            have hcz21_5 : wc.cell? ⟨gb757, 5, none⟩ = some (.slice A0_5 l0_5.length c0_5) := (blk_cell BK757.out 5).trans rfl
            have hfz21_0 := blk_frozen BK757.out 0
            have hfz21_1 := blk_frozen BK757.out 1
            have hfz21_2 := blk_frozen BK757.out 2
            have hfz21_3 := blk_frozen BK757.out 3
            have hfz21_4 := blk_frozen BK757.out 4
            have hfz21_5 := blk_frozen BK757.out 5
            go_wp2_with (first | ((with_reducible refine gate_callee (f := 69) rfl ?_); refine goesL_ (some 28) rfl rfl Try.func69 (by kernel_rfl) rfl #[.slice A0_2 l0_2.length c0_2, .int .i64 (wrap64 (a0_0 * a0_1))] rfl (by (try simp only [List.map_toArray, List.map_cons, List.map_nil]); first | done | rfl | (simp only [List.length_drop, List.length_take]; rfl)) ?_; (with_reducible refine (cantingref07_priced.calls kj1 _ _ l0_2 (wrap64 (a0_0 * a0_1)) true _ ?side1 ?side2 A12.out).mono ?_); (case side1 => repeat (first | exact (Kd.C_below HR0_2.out HB.out) | (with_reducible refine Kd.C_alloc ?_ _) | (with_reducible refine Kd.C_drewN ?_ _) | (with_reducible refine Kd.C_drew ?_))); (case side2 => exact HC0_2.out); rintro e w' ⟨rfl, ⟨nd, rfl⟩⟩; refine ⟨_, rfl, ?_⟩) | (go_at_call 69; (with_reducible refine (cantingref07_priced.calls kj1 _ _ l0_3 (wrap64 (a0_0 * a0_1)) false _ ?side1 ?side2 A14.out).mono ?_); (case side1 => repeat (first | exact (Kd.C_below HR0_3.out (by repeat (first | (with_reducible first | exact HB.out | apply below_alloc | apply pw_below_drewN | apply below_drew1 | refine below_set ?_ GE757.out) | exact HB.out))) | (with_reducible refine Kd.C_alloc ?_ _) | (with_reducible refine Kd.C_drewN ?_ _) | (with_reducible refine Kd.C_drew ?_))); (case side2 => exact HC0_3.out); rintro e w' ⟨rfl, ⟨nd, rfl⟩⟩))
            go_ret
            exact ⟨by first | rfl | (simp [errW_none, errW_some] <;> rfl) | (simp [*, errW_none, errW_some] <;> rfl), by repeat (first | (with_reducible first | exact HB.out | apply below_alloc | apply pw_below_drewN | apply below_drew1 | refine below_set ?_ GE757.out) | exact HB.out)⟩
        · replace c13 := Bool.eq_false_iff.mpr c13
          subst c13
          have H1 : (some false) = some r := by rw [if_neg (show ¬ (false = true) by decide)] at H; exact H
          clear H
          have H := H1
          clear H1
          obtain rfl := Option.some.inj H
          have hcz22_0 : wc.cell? ⟨gb757, 0, none⟩ = some (.int .i64 a0_0) := (blk_cell BK757.out 0).trans rfl
          have hcz22_1 : wc.cell? ⟨gb757, 1, none⟩ = some (.int .i64 a0_1) := (blk_cell BK757.out 1).trans rfl
          have hcz22_2 : wc.cell? ⟨gb757, 2, none⟩ = some (.slice A0_2 l0_2.length c0_2) := (blk_cell BK757.out 2).trans rfl
          have hcz22_3 : wc.cell? ⟨gb757, 3, none⟩ = some (.slice A0_3 l0_3.length c0_3) := (blk_cell BK757.out 3).trans rfl
          have hcz22_4 : wc.cell? ⟨gb757, 4, none⟩ = some (.slice A0_4 l0_4.length c0_4) := (blk_cell BK757.out 4).trans rfl
          have hcz22_5 : wc.cell? ⟨gb757, 5, none⟩ = some (.slice A0_5 l0_5.length c0_5) := (blk_cell BK757.out 5).trans rfl
          have hfz22_0 := blk_frozen BK757.out 0
          have hfz22_1 := blk_frozen BK757.out 1
          have hfz22_2 := blk_frozen BK757.out 2
          have hfz22_3 := blk_frozen BK757.out 3
          have hfz22_4 := blk_frozen BK757.out 4
          have hfz22_5 := blk_frozen BK757.out 5
          go_wp2_with (first | ((with_reducible refine gate_callee (f := 69) rfl ?_); refine goesL_ (some 28) rfl rfl Try.func69 (by kernel_rfl) rfl #[.slice A0_2 l0_2.length c0_2, .int .i64 (wrap64 (a0_0 * a0_1))] rfl (by (try simp only [List.map_toArray, List.map_cons, List.map_nil]); first | done | rfl | (simp only [List.length_drop, List.length_take]; rfl)) ?_; (with_reducible refine (cantingref07_priced.calls kj1 _ _ l0_2 (wrap64 (a0_0 * a0_1)) false _ ?side1 ?side2 A12.out).mono ?_); (case side1 => repeat (first | exact (Kd.C_below HR0_2.out HB.out) | (with_reducible refine Kd.C_alloc ?_ _) | (with_reducible refine Kd.C_drewN ?_ _) | (with_reducible refine Kd.C_drew ?_))); (case side2 => exact HC0_2.out); rintro e w' ⟨rfl, ⟨nd, rfl⟩⟩; refine ⟨_, rfl, ?_⟩))
          go_ret
          exact ⟨by first | rfl | (simp [errW_none, errW_some] <;> rfl) | (simp [*, errW_none, errW_some] <;> rfl), by repeat (first | (with_reducible first | exact HB.out | apply below_alloc | apply pw_below_drewN | apply below_drew1 | refine below_set ?_ GE757.out) | exact HB.out)⟩
end Go.Proofs.Ytbamanjedfccpaa.X
end
