/- Lemmas of the masks: part Bzb. -/
import Derived.Test.YtlplphgoldkoeaaBp
section
set_option linter.unusedVariables false
set_option linter.unusedSimpArgs false
namespace Go.Proofs.Ytlplphgoldkoeaa.HTab
open Go.RowKit Go.Proofs.YtlplphgoldkoeaaW.PrintWords Go.Proofs.YtlplphgoldkoeaaW.PrintLast Go.Proofs.YtlplphgoldkoeaaW.PrintMore Go.Proofs.Ytlplphgoldkoeaa.HMap Go.Proofs.Ytlplphgoldkoeaa.X
set_option linter.unusedVariables false
set_option linter.unusedSimpArgs false
def bitN (P e : Nat) : Bool := P.testBit e
theorem bitN_eq (P e : Nat) : (P / 2 ^ e % 2 = 1) ↔ bitN P e = true := by
  unfold bitN
  rw [Nat.testBit_eq_decide_div_mod_eq]
  simp
def val (T : TB) (p : Int) (P : Nat) : Bool := (den T T.vars.toNat p).getD (P % 2 ^ T.vars.toNat) false
theorem den_up {T : TB} {p : Int} {k : Nat} (ha : T.vars - k ≤ asksP T p) (P : Nat) : ∀ d : Nat, (den T (k + d) p).getD (P % 2 ^ (k + d)) false = (den T k p).getD (P % 2 ^ k) false
  | 0 => rfl
  | d + 1 => by
    rw [← Nat.add_assoc, den_get_ne (by omega), den_up ha P d]
theorem val_at {T : TB} {p : Int} {k : Nat} (hk : (k : Int) ≤ T.vars) (ha : T.vars - k ≤ asksP T p) (P : Nat) : val T p P = (den T k p).getD (P % 2 ^ k) false := by
  have := den_up ha P (T.vars.toNat - k)
  unfold val
  rwa [show k + (T.vars.toNat - k) = T.vars.toNat by omega] at this
theorem val_low {T : TB} (hv : 0 ≤ T.vars) {p : Int} (h : p < 2) (P : Nat) : val T p P = decide (p = 1) := by
  rw [val_at (k := 0) (by omega) (by rw [asks_lt h]; omega) P]
  have : P % 2 ^ 0 = 0 := Nat.mod_one P
  rw [this]
  rfl
theorem val_node {T : TB} (hw : WF T) {p : Int} (h2 : 2 ≤ p) (hp : Pl T p) (P : Nat) :
    val T p P = if bitN P (T.vars - 1 - (getN T p).f0).toNat = true then val T (getN T p).f2 P else val T (getN T p).f1 P := by
  have ok := hw.ok p h2 hp.2
  obtain ⟨e, he⟩ : ∃ e : Nat, T.vars - 1 - (getN T p).f0 = e := ⟨(T.vars - 1 - (getN T p).f0).toNat, by omega⟩
  have ap : asksP T p = (getN T p).f0 := asks_ge (by omega)
  rw [val_at (k := e + 1) (by omega) (by omega) P, den_get (by omega), he, Int.toNat_natCast]
  by_cases hb : P / 2 ^ e % 2 = 1
  · rw [if_pos hb, if_pos ((bitN_eq P e).1 hb), val_at (k := e) (by omega) (by omega) P]
  · rw [if_neg hb, if_neg (fun q => hb ((bitN_eq P e).2 q)), val_at (k := e) (by omega) (by omega) P]
theorem Ext.val {T T' : TB} (h : Ext T T') (hw : WF T) {p : Int} (hp : Pl T p) (P : Nat) : HTab.val T' p P = HTab.val T p P := by
  unfold HTab.val
  have h0 := hw.vars
  rw [h.1, h.den hw T.vars.toNat p (by omega) hp (by have := hw.asks_nonneg hp; omega)]
theorem IsIte.val {T : TB} {f g h r : Int} (i : IsIte T f g h r) (hw : WF T) (P : Nat) : HTab.val T r P = if HTab.val T f P = true then HTab.val T g P else HTab.val T h P := by
  have h0 := hw.vars
  have hm := i.den T.vars.toNat (by omega) (by rw [le_min3]; have := hw.asks_nonneg i.pf; have := hw.asks_nonneg i.pg; have := hw.asks_nonneg i.ph; omega)
  unfold HTab.val
  rw [hm, iteL_get _ _ _ _ (by rw [den_length]; exact Nat.mod_lt _ (Nat.two_pow_pos _)) (by rw [den_length, den_length]) (by rw [den_length, den_length])]
end Go.Proofs.Ytlplphgoldkoeaa.HTab
end
