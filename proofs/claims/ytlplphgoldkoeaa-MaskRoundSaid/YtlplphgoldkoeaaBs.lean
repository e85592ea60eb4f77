/- Lemmas of the masks: part Bs. -/
import Derived.Test.YtlplphgoldkoeaaBg
import Derived.Test.YtlplphgoldkoeaaBh
import Derived.Deep.LoopGhost
import Derived.Lib.Hide
import Derived.Deep.DeepMust
section
set_option linter.unusedVariables false
set_option linter.unusedSimpArgs false
namespace Go.Proofs.Ytlplphgoldkoeaa.HTab
open Go.RowKit Go.Proofs.YtlplphgoldkoeaaW.PrintWords Go.Proofs.YtlplphgoldkoeaaW.PrintLast Go.Proofs.YtlplphgoldkoeaaW.PrintMore Go.Proofs.Ytlplphgoldkoeaa.HMap Go.Proofs.Ytlplphgoldkoeaa.X
set_option linter.unusedVariables false
set_option linter.unusedSimpArgs false
theorem shl_all (k : Nat) (hk : k ≤ 12) (P : Int) (hP : P = (2 : Int) ^ k) : shl .i64 1 k = P ∧ (IntKind.i64.wrap (1 * 2 ^ min (k : Int).toNat 64)) = P ∧ (IntKind.i64.wrap (1 * 2 ^ (k : Int).toNat)) = P ∧ (IntKind.i64.wrap (2 ^ min (k : Int).toNat 64)) = P ∧ (IntKind.i64.wrap (2 ^ (k : Int).toNat)) = P ∧
    (wrap64 (1 * 2 ^ min (k : Int).toNat 64)) = P ∧ (wrap64 (1 * 2 ^ (k : Int).toNat)) = P ∧ (wrap64 (2 ^ k)) = P ∧ (wrap64 (2 ^ min k 64)) = P ∧ (IntKind.i64.wrap (2 ^ k)) = P ∧ (IntKind.i64.wrap (2 ^ min k 64)) = P := by
  have hs : shl .i64 1 k = P := by rw [hP]; have := shl1 (k := (k : Int)) (by omega) (by omega); rwa [Int.toNat_natCast] at this
  have hs1 : (IntKind.i64.wrap (1 * 2 ^ min (k : Int).toNat 64)) = P := hs
  have hs2 : (IntKind.i64.wrap (1 * 2 ^ (k : Int).toNat)) = P := shl_small hs (show _ ≤ (64 : Int) by omega)
  have hs3 : (IntKind.i64.wrap (2 ^ min (k : Int).toNat 64)) = P := by have h_ := hs1; rw [Int.one_mul] at h_; exact h_
  have hs4 : (IntKind.i64.wrap (2 ^ (k : Int).toNat)) = P := by have h_ := hs2; rw [Int.one_mul] at h_; exact h_
  have hs9 : (IntKind.i64.wrap (2 ^ k)) = P := by have h_ := hs4; rwa [Int.toNat_natCast] at h_
  have hs10 : (IntKind.i64.wrap (2 ^ min k 64)) = P := by have h_ := hs3; rwa [Int.toNat_natCast] at h_
  exact ⟨hs, hs1, hs2, hs3, hs4, (i64_w _).symm.trans hs1, (i64_w _).symm.trans hs2, (i64_w _).symm.trans hs9, (i64_w _).symm.trans hs10, hs9, hs10⟩
def nFT (len : Nat) : Nat → Nat → Nat
  | 0, k => k
  | d + 1, k => if 2 ^ k < len then nFT len d (k + 1) else k
theorem nFT_spec (len : Nat) : ∀ (d k : Nat), (∀ m, m < k → 2 ^ m < len) → nFT len d k ≤ k + d ∧ (∀ m, m < nFT len d k → 2 ^ m < len) ∧ (nFT len d k = k + d ∨ len ≤ 2 ^ nFT len d k)
  | 0, k, h => ⟨Nat.le_refl _, h, .inl rfl⟩
  | d + 1, k, h => by
    unfold nFT
    split
    · rename_i hk
      have := nFT_spec len d (k + 1) (fun m hm => by
        by_cases e : m = k
        · subst e; exact hk
        · exact h m (by omega))
      exact ⟨by omega, this.2.1, this.2.2.imp (fun e => by omega) id⟩
    · rename_i hk
      exact ⟨by omega, h, .inr (by omega)⟩
set_option maxRecDepth 100000 in
theorem ft1_calls (b : Nat) (A : Option Addr) (c : Nat) (l : List Bool) (p : Int) (w : World) (hb : w.heap[b]? = some (.cells #[.slice A l.length c] 47 (0, 0))) (hC : Kd.C Kd.bool w A l.length l) (h0 : 0 ≤ p) (h1 : p < l.length) :
    Calls Try.prog 95 #[.int .i64 p, .pointer (some ⟨b, 0, none⟩)] w fun e w' => e = .returned (.bool (rdOf false l p)) ∧ Below w.heap.size w w' := by
  obtain ⟨ad, rfl, x0⟩ := Kd.at_bool hC p h0 h1
  have k0 := (blk_cell hb 0).trans rfl
  clear hb hC
  go_enter Try.func95, Try.ntmps95
  go_wp2
  go_ret
  exact ⟨rfl, Below.refl _ _⟩
set_option maxRecDepth 100000 in
set_option maxHeartbeats 4000000 in
theorem ft_calls (A : Option Addr) (c : Nat) (l : List Bool) (w : World) (hC : Kd.C Kd.bool w A l.length l) (hc : l.length ≤ c) (hl : l.length ≤ 1000000000000000) (N : Nat) (hN : N ≤ 12) (hm : ∀ m, m < N → 2 ^ m < l.length) (he : N = 12 ∨ l.length ≤ 2 ^ N) (out : List S107) (r e4 v : Int)
    (hres : (l.length ≠ 2 ^ N ∧ v = 0 ∧ out = [] ∧ r = 0 ∧ e4 = 2) ∨ (l.length = 2 ^ N ∧ v = N ∧ e4 = 0 ∧ buildP N (rdOf false l) = some (out, r) ∧ out.length < 1000000000000)) :
    Calls Try.prog 35 #[.slice A l.length c] w fun e w' => ∃ u : Value, e = .returned (.tuple #[.agg #[.int .i64 v, u, .int .i64 r], .int .i64 e4]) ∧ Kd.R k107 107 w' w.heap.size (fun _ => True) u out ∧ Below w.heap.size w w' := by
  have hu := Try.underlying28
  have HC := Aside0.mk hC
  have HM := Aside0.mk hm
  have HE := Aside0.mk he
  have HR := Aside0.mk hres
  obtain ⟨W2, hW2⟩ : ∃ W, W = (w.alloc (.cells #[.slice A l.length c] 47)).alloc (.cells #[.int .i64 0, .slice none 0 0, .int .i64 0] 28) := ⟨_, rfl⟩
  have hB2 : Below w.heap.size w W2 := by rw [hW2]; exact below_alloc (below_alloc (Below.refl _ _) _) _
  have hK0 : W2.heap[w.heap.size]? = some (.cells #[.slice A l.length c] 47 (0, 0)) := by rw [hW2]; exact blk_alloc (blk_new _ _) _
  have hK1 : W2.heap[w.heap.size + 1]? = some (.cells #[.int .i64 0, .slice none 0 0, .int .i64 0] 28 (0, 0)) := by
    rw [hW2]
    simpa using blk_new (w.alloc (.cells #[.slice A l.length c] 47)) (.cells #[.int .i64 0, .slice none 0 0, .int .i64 0] 28)
  have HB := Aside0.mk hB2
  have HK := Aside0.mk (And.intro hK0 hK1)
  have k0 := (blk_cell hK0 0).trans rfl
  clear hC hm he hres hB2 hK1 hK0
  go_enter Try.func35, Try.ntmps35
  go_wp2
  rw [← hW2]
  clear hW2
  go_loopg [4] (N) (fun kq v4 w' => ∃ (k m : Nat), k + kq = N ∧ v4 = .int .i64 k ∧ w' = W2.drewN m)
  case atStart => exact ⟨0, 0, by omega, rfl, rfl⟩
  case round =>
    obtain ⟨k, m, hk, rfl, rfl⟩ := hrel
    have hk0 : decide (0 ≤ (k : Int)) = true := decide_eq_true (by omega)
    have hk1 : (0 ≤ (k : Int)) = True := eq_true (by omega)
    obtain ⟨P, hP, hPn⟩ : ∃ P : Int, P = (2 : Int) ^ k ∧ P = ((2 ^ k : Nat) : Int) := ⟨_, rfl, (pow_cast k).symm⟩
    by_cases hlt : k < N
    · have d0 : decide (k < 12) = true := decide_eq_true (by omega)
      have d0' : decide ((k : Int) < 12) = true := decide_eq_true (by omega)
      have d1 : decide (P < (l.length : Int)) = true := decide_eq_true (by have := HM.out k hlt; omega)
      obtain ⟨hs0, hs1, hs2, hs3, hs4, hs5, hs6, hs7, hs8, hs9, hs10⟩ := shl_all k (by clear hPn; omega) P hP
      clear hP hPn
      go_wp2
      go_quiet (fail)
      go_wp2
      clear hs0 hs1 hs2 hs3 hs4 hs5 hs6 hs7 hs8 hs9 hs10
      go_roundg (gk - 1)
      case measure => omega
      case rel => exact ⟨k + 1, _, by omega, by go_num, rfl⟩
    · have hkN : k = N := by omega
      subst hkN
      have dq : (k = 12 ∧ decide (k < 12) = false ∧ decide ((k : Int) < 12) = false) ∨ (decide (k < 12) = true ∧ decide ((k : Int) < 12) = true ∧ decide (P < (l.length : Int)) = false) := by
        rcases HE.out with h | h
        · exact .inl ⟨h, decide_eq_false (by omega), decide_eq_false (by omega)⟩
        · by_cases h12 : k = 12
          · exact .inl ⟨h12, decide_eq_false (by omega), decide_eq_false (by omega)⟩
          · exact .inr ⟨decide_eq_true (by omega), decide_eq_true (by omega), decide_eq_false (by omega)⟩
      rcases HR.out with ⟨g1, rfl, rfl, rfl, rfl⟩ | ⟨g1, rfl, rfl, hb, ho⟩
      · have d2 : ((l.length : Int) != P) = true := by rw [bne_iff_ne]; omega
        obtain ⟨hs0, hs1, hs2, hs3, hs4, hs5, hs6, hs7, hs8, hs9, hs10⟩ := shl_all k hN P hP
        clear hP hPn HR HE HM g1 hlt hk
        rcases dq with ⟨h12, q1, q2⟩ | ⟨q1, q2, q3⟩
        all_goals
          (try (replace h12 := Lib.hid h12))
          have y0 := (blk_cell HK.out.2 0).trans rfl
          have y1 := (blk_cell HK.out.2 1).trans rfl
          have y2 := (blk_cell HK.out.2 2).trans rfl
          have f0 := blk_frozen HK.out.2 0
          have f1 := blk_frozen HK.out.2 1
          have f2 := blk_frozen HK.out.2 2
          go_wp2
          go_quiet (fail)
          go_wp2
          go_quiet (fail)
          go_wp2
          refine bodyPost_ret (results_ct rfl _ _ (w.heap.size + 1) 28 #[.int .i64 0, .slice none 0 0, .int .i64 0] (0, 0) _ rfl ?_ hu rfl (by kernel_rfl)) rfl ?_
          · exact blk_put (cs := #[.int .i64 0, .slice none 0 0, .int .i64 0]) (blk_put (cs := #[.int .i64 0, .slice none 0 0, .int .i64 0]) (blk_put (cs := #[.int .i64 0, .slice none 0 0, .int .i64 0]) (show _ from HK.out.2) 0 _ rfl) 1 _ rfl) 2 _ rfl
          · exact ⟨_, by rfl, Kd.R_nil _ _ _ _ _, below_set (below_set (below_set (show Below _ _ _ from ⟨HB.out.os, HB.out.tape, HB.out.output, HB.out.size, HB.out.block⟩) (Nat.le_add_right _ 1)) (Nat.le_add_right _ 1)) (Nat.le_add_right _ 1)⟩
      · have d2 : ((l.length : Int) != P) = false := by rw [bne_eq_false_iff_eq]; omega
        obtain ⟨hs0, hs1, hs2, hs3, hs4, hs5, hs6, hs7, hs8, hs9, hs10⟩ := shl_all k hN P hP
        have G1 := Aside0.mk g1
        have HBP := Aside0.mk hb
        have HO := Aside0.mk ho
        have HP := Aside0.mk hP
        clear hP hPn HR HE HM g1 hlt hk hb ho
        rcases dq with ⟨h12, q1, q2⟩ | ⟨q1, q2, q3⟩
        all_goals
          (try (replace h12 := Lib.hid h12))
          go_wp2
          go_quiet (fail)
          go_wp2
          go_quiet (fail)
          clear hs0 hs1 hs2 hs3 hs4 hs5 hs6 hs7 hs8 hs9 hs10
          go_wp2_with fail
          refine (build_calls Try.func95 (by kernel_rfl) rfl (k : Int) _ (rdOf false l) out r _ (by omega) (by omega) ?cb HO.out HBP.out).mono ?_
          case cb =>
            intro W hF p hp0 hp1
            have hlp : p < (l.length : Int) := by have h1 := HP.out; have h2 := G1.out; have h3 := pow_cast k; rw [Int.toNat_natCast] at hp1; omega
            exact ft1_calls w.heap.size A c l p W ((hF.block _ (blk_lt HK.out.1) (fun h => h)).trans HK.out.1) (Kd.C_below HC.out ⟨hF.os.trans HB.out.os, hF.tape.trans HB.out.tape, hF.output.trans HB.out.output, Nat.le_trans HB.out.size hF.size, fun i hi => (hF.block i (Nat.lt_of_lt_of_le hi HB.out.size) (fun h => h)).trans (HB.out.block i hi)⟩) hp0 hlp
          rintro e w7 ⟨u, rfl, hR7, hB7⟩
          replace hB7 : Below W2.heap.size W2 w7 := ⟨hB7.os, hB7.tape, hB7.output, hB7.size, hB7.block⟩
          replace hR7 : Kd.R k107 107 w7 W2.heap.size (fun _ => True) u out := hR7
          obtain ⟨A7, c7, rfl, hc7, _⟩ := Kd.R_reads hR7
          have K7 := Aside0.mk (blk_below HK.out.2 hB7)
          have R7 := Aside0.mk (Kd.R_lower hR7 HB.out.size)
          have B7 := Aside0.mk (below_then HB.out HB.out.size hB7)
          clear hR7 hB7
          have y0 := (blk_cell K7.out 0).trans rfl
          have y1 := (blk_cell K7.out 1).trans rfl
          have y2 := (blk_cell K7.out 2).trans rfl
          have f0 := blk_frozen K7.out 0
          have f1 := blk_frozen K7.out 1
          have f2 := blk_frozen K7.out 2
          go_wp2
          have N0 := Kd.R_types R7.out K7.out (by decide)
          have N1 := Kd.R_far (p := ⟨w.heap.size + 1, 0, none⟩) N0 (fun _ hk => hk.2) (.int .i64 k)
          have N2 := Kd.R_far (p := ⟨w.heap.size + 1, 1, none⟩) N1 (fun _ hk => hk.2) (.slice A7 out.length c7)
          have N3 := Kd.R_far (p := ⟨w.heap.size + 1, 2, none⟩) N2 (fun _ hk => hk.2) (.int .i64 r)
          refine bodyPost_ret (results_ct rfl _ _ (w.heap.size + 1) 28 #[.int .i64 k, .slice A7 out.length c7, .int .i64 r] (0, 0) _ rfl ?_ hu rfl (by kernel_rfl)) rfl ?_
          · exact blk_put (cs := #[.int .i64 k, .slice A7 out.length c7, .int .i64 0]) (blk_put (cs := #[.int .i64 k, .slice none 0 0, .int .i64 0]) (blk_put (cs := #[.int .i64 0, .slice none 0 0, .int .i64 0]) K7.out 0 _ rfl) 1 _ rfl) 2 _ rfl
          · exact ⟨_, by rfl, Kd.R_mono N3 (fun _ _ => trivial), below_set (below_set (below_set B7.out (Nat.le_add_right _ 1)) (Nat.le_add_right _ 1)) (Nat.le_add_right _ 1)⟩
end Go.Proofs.Ytlplphgoldkoeaa.HTab
namespace Go.Proofs.Ytlplphgoldkoeaa.X
open Go.RowKit Go.Proofs.YtlplphgoldkoeaaW.PrintWords Go.Proofs.YtlplphgoldkoeaaW.PrintLast Go.Proofs.YtlplphgoldkoeaaW.PrintMore Go.Proofs.Ytlplphgoldkoeaa.HTab
set_option linter.unusedVariables false
def mask_FromTable.f (l0 : List Bool) : Option (Int × List (S107) × Int × Int) :=
  if l0.length ≤ 1000000000000000 then
    if l0.length = 2 ^ nFT l0.length 12 0 then (buildP (nFT l0.length 12 0) (rdOf false l0)).bind fun p => if p.1.length < 1000000000000 then some ((nFT l0.length 12 0 : Int), p.1, p.2, 0) else none
    else some (0, [], 0, 2)
  else none
theorem mask_FromTable.calls (A0 : Option Addr) (c0 : Nat) (l0 : List Bool) (r1 : Int) (r2 : List (S107)) (r3 : Int) (r4 : Int) (w : World) (hr0 : Kd.C Kd.bool w A0 l0.length l0) (hc0 : l0.length ≤ c0) (h : mask_FromTable.f l0 = some (r1, r2, r3, r4)) :
    Calls Try.prog 35 #[.slice A0 l0.length c0] w fun e w' => ∃ v1_ : Value, e = .returned (.tuple #[.agg #[.int .i64 r1, v1_, .int .i64 r3], .int .i64 r4]) ∧ Kd.R k107 107 w' w.heap.size (fun _ => True) v1_ r2 ∧ Below w.heap.size w w' := by
  unfold mask_FromTable.f at h
  split at h
  case isFalse => cases h
  rename_i hl
  obtain ⟨s1, s2, s3⟩ := nFT_spec l0.length 12 0 (fun m hm => by omega)
  split at h
  · rename_i he
    obtain ⟨⟨out, r⟩, hb, h⟩ := Option.bind_eq_some_iff.1 h
    dsimp only at h
    split at h
    case isFalse => cases h
    rename_i ho
    simp only [Option.some.injEq, Prod.mk.injEq] at h
    obtain ⟨rfl, rfl, rfl, rfl⟩ := h
    exact ft_calls A0 c0 l0 w hr0 hc0 hl _ (by omega) s2 (s3.imp (fun e => by omega) id) out r 0 _ (.inr ⟨he, rfl, rfl, hb, ho⟩)
  · rename_i he
    simp only [Option.some.injEq, Prod.mk.injEq] at h
    obtain ⟨rfl, rfl, rfl, rfl⟩ := h
    exact ft_calls A0 c0 l0 w hr0 hc0 hl _ (by omega) s2 (s3.imp (fun e => by omega) id) [] 0 2 0 (.inl ⟨he, rfl, rfl, rfl, rfl⟩)
end Go.Proofs.Ytlplphgoldkoeaa.X
end
