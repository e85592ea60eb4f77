/- Lemmas of the proof: part Bf. -/
import Derived.Test.YtbamanjedfccpaaBe
section
set_option linter.unusedVariables false
set_option linter.unusedSimpArgs false
namespace Go.Proofs.Ytbamanjedfccpaa.HTab
open Go.RowKit Go.Proofs.YtbamanjedfccpaaW.PrintWords Go.Proofs.YtbamanjedfccpaaW.PrintLast Go.Proofs.YtbamanjedfccpaaW.PrintMore Go.Proofs.Ytbamanjedfccpaa.X
set_option linter.unusedVariables false
set_option linter.unusedSimpArgs false
def lvE (arcs : List S35) (left : List Int) (v : Int) (s : List Int × List Int) (e : Int) : List Int × List Int :=
  if 0 < rd left e ∧ rd s.2 (endP arcs e) < 0 then (s.1 ++ [endP arcs e], s.2.set (endP arcs e).toNat (wrap64 (rd s.2 v + 1))) else s
def lvQ (arcs : List S35) (left : List Int) (out : List (List Int)) : Nat → List Int → List Int → Option (List Int)
  | _, [], d => some d
  | 0, _ :: _, _ => none
  | k + 1, v :: q, d => lvQ arcs left out k ((rowOf out v).foldl (lvE arcs left v) (q, d)).1 ((rowOf out v).foldl (lvE arcs left v) (q, d)).2
def levelP (k : Nat) (Z : RZ) : Option (List Int) := lvQ Z.arcs Z.left Z.out k [Z.src] ((List.replicate Z.n.toNat (-1)).set Z.src.toNat 0)
structure WZ (Z : RZ) : Prop where
  n : Z.n = Z.out.length
  small : Z.out.length ≤ 1000
  l2 : Z.left.length = 2 * Z.arcs.length
  la : Z.arcs.length ≤ 1000
  rl : ∀ i : Int, (rowOf Z.out i).length ≤ 1000000
  edge : ∀ (i e : Int), e ∈ rowOf Z.out i → 0 ≤ e ∧ e < 2 * Z.arcs.length
  ends : ∀ e : Int, 0 ≤ e → e < 2 * Z.arcs.length → 0 ≤ endP Z.arcs e ∧ endP Z.arcs e < Z.n
  src : 0 ≤ Z.src ∧ Z.src < Z.n
  snk : 0 ≤ Z.snk ∧ Z.snk < Z.n
theorem lvF_len (arcs : List S35) (left : List Int) (v : Int) : ∀ (l : List Int) (s : List Int × List Int), s.1.length ≤ (l.foldl (lvE arcs left v) s).1.length
  | [], s => Nat.le_refl _
  | e :: l, s => by
    refine Nat.le_trans ?_ (lvF_len arcs left v l _)
    unfold lvE
    split
    · simp
    · exact Nat.le_refl _
theorem lvQ_len (arcs : List S35) (left : List Int) (out : List (List Int)) : ∀ (k : Nat) (q d D : List Int), lvQ arcs left out k q d = some D → q.length ≤ k
  | _, [], d, D, h => Nat.zero_le _
  | 0, v :: q, d, D, h => by simp [lvQ] at h
  | k + 1, v :: q, d, D, h => by
    simp only [lvQ] at h
    have h1 := lvQ_len arcs left out k _ _ D h
    have h2 := lvF_len arcs left v (rowOf out v) (q, d)
    simp only [List.length_cons] at *
    omega
theorem add_zero_ (a : Addr) : a.add 0 = a := by
  obtain ⟨b, o, p⟩ := a
  unfold Addr.add
  split <;> simp_all
theorem lit1C (w : World) (x : Int) : Kd.C KI (w.alloc (.cells #[.int .i64 x] 3)) (some ⟨w.heap.size, 0, none⟩) 1 [x] := by
  refine ⟨rfl, by decide, fun _ => ⟨_, rfl, fun j p hj => ?_⟩⟩
  have hj0 : j = 0 := by have := (List.getElem?_eq_some_iff.1 hj).1; simp at this; omega
  subst hj0
  have hp : x = p := by simpa using hj
  subst hp
  refine ⟨[.int .i64 x], rfl, rfl, fun i u hu => ?_⟩
  have hi : i = 0 := by have := (List.getElem?_eq_some_iff.1 hu).1; simp at this; omega
  subst hi
  have hu' : Value.int .i64 x = u := by simpa using hu
  subst hu'
  rw [add_plain]
  exact (blk_cell (blk_new w _) _).trans rfl
theorem lvQ_nil (arcs : List S35) (left : List Int) (out : List (List Int)) (k : Nat) (d : List Int) : lvQ arcs left out k [] d = some d := by cases k <;> rfl
def LvPost (w0 : World) (g : Nat) (A1 : Option Addr) (c1 : Nat) (v2 v3 v7 : Value) (Z : RZ) (D : List Int) (e : Ending) (w' : World) : Prop :=
  ∃ col v6, e = .returned (.bool (decide (0 ≤ rd D Z.snk))) ∧ Rs w0 w' g col A1 c1 v2 v3 v6 v7 {Z with dep := D}
set_option maxRecDepth 100000 in
set_option maxHeartbeats 4000000 in
theorem level_calls {w0 w : World} {g : Nat} {col : Nat → Nat} {A1 : Option Addr} {c1 : Nat} {v2 v3 v6 v7 : Value} {Z : RZ} (h : Rs w0 w g col A1 c1 v2 v3 v6 v7 Z) (hz : WZ Z) (k : Nat) (hk : k ≤ 1000000000000) (D : List Int) (hD : levelP k Z = some D) :
    Calls Try.prog 71 #[.pointer (some ⟨g, 0, none⟩)] w (LvPost w0 g A1 c1 v2 v3 v7 Z D) := by
  obtain ⟨n, arcs, left, out, src, snk, dep, nxt⟩ := Z
  obtain ⟨N, rfl⟩ : ∃ N : Nat, n = N := ⟨n.toNat, by have := hz.n; dsimp only at this; omega⟩
  have hN : N ≤ 1000 := by have := hz.n; have := hz.small; dsimp only at *; omega
  obtain ⟨s0, s1⟩ := hz.src
  dsimp only at s0 s1
  obtain ⟨AL, cL, rfl, hcL, _⟩ := Kd.R_reads h.left
  dsimp only at h hcL ⊢
  have H := Aside0.mk h
  have HD := Aside0.mk hD
  have HZ := Aside0.mk hz
  have k0 := (blk_cell h.box 0).trans rfl
  obtain ⟨W1, hW1⟩ : ∃ W, W = w.alloc (.cells #[.int .i64 (-1)] 3) := ⟨_, rfl⟩
  have HW1 := Aside0.mk hW1
  have hC1 : Aside0 (Kd.C KI W1 (some ⟨w.heap.size, 0, none⟩) 1 [-1]) := ⟨by rw [hW1]; exact lit1C w (-1)⟩
  have hB1 : Aside0 (Below w.heap.size w W1) := ⟨by rw [hW1]; exact below_alloc (Below.refl _ _) _⟩
  have k0' : ∀ o : Obj, (w.alloc o).cell? ⟨g, 0, none⟩ = some (.int .i64 N) := fun o => pw_cell_below (below_alloc (Below.refl _ _) o) k0
  clear h hD hz k0
  go_enter Try.func71, Try.ntmps71
  go_wp2_with fail
  rw [← hW1]
  clear hW1
  refine (repeat_calls (-1) (N : Int) (some ⟨w.heap.size, 0, none⟩) 1 W1 hC1.out (by omega) (by omega)).mono ?_
  rintro e w2 ⟨gd, cd, rfl, hRd, hBd, hgd⟩
  rw [Int.toNat_natCast] at hRd
  obtain ⟨col1, hcol1⟩ : ∃ c : Nat → Nat, c = fun k => if k < w.heap.size then col k else 3 := ⟨_, rfl⟩
  have H1 := Aside0.mk (((H.out.recol (col' := col1) (fun k hk => by rw [hcol1]; simp [hk])).below hB1.out).below hBd)
  have hR1 : KI.R 3 w2 w0.heap.size (fun k => col1 k = 3) (.slice (some ⟨gd, 0, none⟩) N cd) (List.replicate N (-1)) :=
    Kd.R_lower (Kd.R_mono (Kd.R_bound hRd) (fun k hk => by have := hk.2.1; have := hB1.out.size; rw [hcol1]; simp; omega)) (by have := hB1.out.size; have := H.out.bel.size; omega)
  have R1 := Aside0.mk hR1
  have k6 := H1.out.k6
  have f6 := H1.out.fz 6
  rw [Int.toNat_natCast]
  clear hRd hBd hgd hR1
  go_wp2
  have hbx := H1.out.boxD R1.out
  dsimp only at hbx
  obtain ⟨w3, hw3⟩ : ∃ W, W = w2.setCell ⟨g, 6, none⟩ (.slice (some ⟨gd, 0, none⟩) N cd) := ⟨_, rfl⟩
  rw [← hw3] at hbx ⊢
  have H2 := Aside0.mk hbx
  clear hbx hw3 k6 f6 R1 H1 k0'
  have k6 := H2.out.k6
  have k4 := H2.out.k4
  dsimp only at k6 k4
  obtain ⟨kd, fd⟩ := R_at H2.out.dep src s0 s1
  have H3 := Aside0.mk (H2.out.putD src 0)
  have k4s := H3.out.k4
  dsimp only at k4s
  go_still_tail 9, (by kernel_rfl)
  go_wp2
  obtain ⟨W4, hW4⟩ : ∃ W, W = (w3.setCell ⟨gd, src.toNat, none⟩ (.int .i64 0)) := ⟨_, rfl⟩
  rw [← hW4] at H3 ⊢
  have hsz : w3.heap.size = W4.heap.size := by rw [hW4]; simp [World.setCell]
  rw [hsz]
  obtain ⟨col2, hcol2⟩ : ∃ c : Nat → Nat, c = fun k => if k < W4.heap.size then col1 k else 5 := ⟨_, rfl⟩
  have hfr : Aside0 (∀ k, W4.heap.size ≤ k → col2 k = 5) := ⟨fun k hk => by rw [hcol2]; simp; omega⟩
  have HR := Aside0.mk (((H3.out.recol (col' := col2) (fun k hk => by rw [hcol2]; simp [hk])).below (below_alloc (Below.refl _ _) (.cells #[.int .i64 src] 3))).below (below_drew (Below.refl _ _)))
  have HQ := Aside0.mk (Kd.Q_drew (Kd.Q_of_R (lit1R W4 src w0.heap.size (fun k => col2 k = 5) H3.out.bel.size (hfr.out _ (Nat.le_refl _)))))
  have HD' : Aside0 (lvQ arcs left out k [src] ((List.replicate N (-1)).set src.toNat 0) = some D) := ⟨by have := HD.out; unfold levelP at this; rwa [Int.toNat_natCast] at this⟩
  have Hd0 : Aside0 (((List.replicate N (-1 : Int)).set src.toNat 0).length = N) := ⟨by simp⟩
  have hrg : Aside0 (∀ x ∈ [src], 0 ≤ x ∧ x < (N : Int)) := ⟨fun x hx => by rw [List.mem_singleton] at hx; omega⟩
  have hgs : Aside0 (W4.heap.size ≤ ((W4.alloc (.cells #[.int .i64 src] 3)).drew).heap.size) := ⟨(below_drew (below_alloc (Below.refl _ _) _)).size⟩
  clear hsz hW4 kd fd k4 k6 k4s H3 H2 hcol1 hcol2 HD
  generalize (W4.alloc (.cells #[.int .i64 src] 3)).drew = W5 at HR HQ hgs ⊢
  go_loopg [3] (k) (fun kq vq w' => ∃ (q d : List Int) (A : Option Addr) (c : Nat), vq = .slice A q.length c ∧ Aside0 (lvQ arcs left out kq q d = some D) ∧ Aside0 (d.length = N) ∧ Aside0 (∀ x ∈ q, 0 ≤ x ∧ x < (N : Int)) ∧ Aside0 (kq ≤ k) ∧ Aside0 (W4.heap.size ≤ w'.heap.size) ∧
      Aside0 (Rs w0 w' g col2 A1 c1 (.slice AL left.length cL) v3 (.slice (some ⟨gd, 0, none⟩) N cd) v7 ⟨(N : Int), arcs, left, out, src, snk, d, nxt⟩) ∧ Aside0 (KI.Q 3 w' w0.heap.size (fun k => col2 k = 5) (.slice A q.length c) q))
  case atStart => exact ⟨_, _, _, _, rfl, HD', Hd0, hrg, ⟨Nat.le_refl _⟩, hgs, HR, HQ⟩
  case round =>
    clear HR HQ HD' Hd0 hrg hgs
    obtain ⟨q, d, A, c, rfl, HD, Hd, Hr, HK, HS, HR, HQ⟩ := hrel
    cases q with
    | nil =>
      have hDd : d = D := by have := HD.out; rw [lvQ_nil] at this; injection this
      subst hDd
      obtain ⟨kd, fd⟩ := R_at HR.out.dep snk HZ.out.snk.1 HZ.out.snk.2
      have k6 := HR.out.k6
      have k5 := HR.out.k5
      dsimp only at k6 k5 kd
      have s2 := HZ.out.snk.1
      have s3 := HZ.out.snk.2
      dsimp only at s2 s3
      go_wp2
      go_quiet (fail)
      go_wp2
      go_ret
      exact ⟨_, _, rfl, HR.out.below (pw_below_drewN (Below.refl _ _) nq)⟩
    | cons v q =>
      cases gk with
      | zero => exact absurd HD.out (by simp [lvQ])
      | succ k1 =>
        obtain ⟨r0, r1⟩ := Hr.out v (List.mem_cons_self ..)
        have hn := HZ.out.n
        dsimp only at hn
        have ro : v < (out.length : Int) := by omega
        replace hn := Aside0.mk hn
        obtain ⟨bo, co, Ar, cr, rfl, kr, Rr⟩ := HR.out.out.row v r0 ro
        have k3 := HR.out.k3
        have hqC := (Kd.Q_reads' HQ.out).2.2
        have hqc := (Kd.Q_reads' HQ.out).2.1
        obtain ⟨aq, rfl, kq0⟩ := Kd.at_int hqC 0 (by omega) (by simp <;> omega)
        have hrd0 : rd (v :: q) 0 = v := rfl
        rw [hrd0] at kq0
        have kq1 : wr.cell? aq = some (.int .i64 v) := by rw [← add_zero_ aq]; exact kq0
        obtain ⟨i0, hi0, _, hsz, _⟩ := info_parts info3
        have hcut := cut_from (P := Try.prog) 40 3 .i64 Try.underlying40 hi0 1 hsz (some aq) (v :: q).length c 1 (by omega) (by simp <;> omega)
        have hQ2 := Kd.Q_drop (k := 1) HQ.out (by simp)
        obtain ⟨A2, hA2⟩ : ∃ A2, A2 = (if c = 1 then some aq else (some aq).map (·.add (1 * 1))) := ⟨_, rfl⟩
        have hl1 : (v :: q).length - 1 = q.length := by simp
        have hd1 : (v :: q).drop 1 = q := rfl
        rw [show (1 : Int).toNat = 1 from rfl, hl1, ← hA2] at hcut
        rw [hl1, hd1] at hQ2
        replace hQ2 : KI.Q 3 wr w0.heap.size (fun k => col2 k = 5) (.slice A2 q.length (c - 1)) q := by rw [hA2]; exact hQ2
        have HQ2 := Aside0.mk hQ2
        have RR := Aside0.mk Rr
        have hlen : decide (0 < (((v :: q).length : Nat) : Int)) = true := decide_eq_true (by simp <;> omega)
        have hlen' : decide ((((v :: q).length : Nat) : Int) > 0) = true := decide_eq_true (by simp <;> omega)
        have i0' : ((0 : Int) < (((v :: q).length : Nat) : Int)) = True := eq_true (by simp <;> omega)
        have vb0 : (v < 0) = False := eq_false (by omega)
        have vb1 : (v < (out.length : Int)) = True := eq_true ro
        clear hA2 hi0 hsz hQ2 Rr hqC hrd0 hl1 hd1 HQ kq0
        have hlen3 : decide (0 < (v :: q).length) = true := decide_eq_true (by simp)
        have hlen4 : (0 < (v :: q).length) = True := eq_true (by simp)
        obtain ⟨m, hm⟩ : ∃ m, m = (v :: q).length := ⟨_, rfl⟩
        rw [← hm] at hlen hlen' hlen3 hlen4 i0' hcut hqc ⊢
        clear hm
        go_wp2
        have hD2 := HD.out
        simp only [lvQ] at hD2
        obtain ⟨S, hS⟩ : ∃ S, S = (rowOf out v).foldl (lvE arcs left v) (q, d) := ⟨_, rfl⟩
        rw [← hS] at hD2
        have HD2 := Aside0.mk hD2
        have HSl : Aside0 (S.1.length ≤ 1000000000000) := ⟨by have := lvQ_len arcs left (out) k1 S.1 S.2 D hD2; have := HK.out; omega⟩
        have hS0 : Aside0 (((rowOf out v).drop 0).foldl (lvE arcs left v) (q, d) = S) := ⟨hS.symm⟩
        have Hr2 : Aside0 (∀ x ∈ q, 0 ≤ x ∧ x < (N : Int)) := ⟨fun x hx => Hr.out x (List.mem_cons_of_mem _ hx)⟩
        have HE : Aside0 (∀ e ∈ rowOf out v, 0 ≤ e ∧ e < 2 * (arcs.length : Int)) := ⟨fun e he => HZ.out.edge v e he⟩
        have HEn : Aside0 (∀ e : Int, 0 ≤ e → e < 2 * (arcs.length : Int) → 0 ≤ endP arcs e ∧ endP arcs e < (N : Int)) := ⟨HZ.out.ends⟩
        obtain ⟨row, hrow⟩ : ∃ row, row = rowOf out v := ⟨_, rfl⟩
        rw [← hrow] at hS0 HE RR ⊢
        have hrow' := Aside0.mk hrow
        have hrl : row.length ≤ 1000000 := by rw [hrow]; exact HZ.out.rl v
        clear hD2 hS HD Hr kr k3 kq1 hcut hlen hlen' hlen3 hlen4 i0' hqc hrow
        go_loopg [3, 48] (row.length) (fun kq vq vi w' => ∃ (i : Nat) (q d : List Int) (A : Option Addr) (c : Nat), i + kq = row.length ∧ vi = .int .i64 i ∧ vq = .slice A q.length c ∧ Aside0 ((row.drop i).foldl (lvE arcs left v) (q, d) = S) ∧ Aside0 (d.length = N) ∧ Aside0 (∀ x ∈ q, 0 ≤ x ∧ x < (N : Int)) ∧ Aside0 (W4.heap.size ≤ w'.heap.size) ∧
            Aside0 (Rs w0 w' g col2 A1 c1 (.slice AL left.length cL) (.slice (some ⟨bo, 0, none⟩) out.length co) (.slice (some ⟨gd, 0, none⟩) N cd) v7 ⟨(N : Int), arcs, left, out, src, snk, d, nxt⟩) ∧ Aside0 (KI.Q 3 w' w0.heap.size (fun k => col2 k = 5) (.slice A q.length c) q) ∧ Aside0 (KI.R 3 w' w0.heap.size (fun k => col2 k = 10 + v.toNat) (.slice Ar row.length cr) row))
        case atStart => exact ⟨0, q, d, _, _, by omega, rfl, rfl, hS0, Hd, Hr2, HS, HR, HQ2, RR⟩
        case round =>
          clear HR HQ2 HS Hd Hr2 hS0 RR
          obtain ⟨i, q, d, A, c, hi, rfl, rfl, HF, Hd, Hr, HS, HR, HQ, RR⟩ := hrel
          by_cases hlt : i < row.length
          · have hdec : decide (i < row.length) = true := decide_eq_true hlt
            have b0 : ((i : Int) < 0) = False := eq_false (by omega)
            have b1 : ((i : Int) < (row.length : Int)) = True := eq_true (by omega)
            obtain ⟨ae, rfl, ke⟩ := Kd.at_int (Kd.R_reads' RR.out).2.2 (i : Int) (by omega) (by omega)
            simp only [Int.toNat_natCast] at ke
            have hrow2 : row.drop i = rd row (i : Int) :: row.drop (i + 1) := by rw [List.drop_eq_getElem_cons hlt]; simp [rd, hlt]
            obtain ⟨e, he⟩ : ∃ e, e = rd row (i : Int) := ⟨_, rfl⟩
            have hmem : e ∈ row := by rw [he]; simp [rd, hlt]
            rw [← he] at ke hrow2
            have HF2 : Aside0 ((row.drop (i + 1)).foldl (lvE arcs left v) (lvE arcs left v (q, d) e) = S) := ⟨by have := HF.out; rw [hrow2] at this; exact this⟩
            obtain ⟨e0, e1⟩ := HE.out e hmem
            obtain ⟨x0, x1⟩ := HEn.out e e0 e1
            clear he hrow2 hmem HF
            go_wp2_with fail
            refine (end_calls HR.out e e0 e1).mono ?_
            rintro r w' ⟨rfl, rfl⟩
            dsimp only
            have HF3 : Aside0 ((row.drop (i + 1)).foldl (lvE arcs left v) (if 0 < rd left e ∧ rd d (endP arcs e) < 0 then (q ++ [endP arcs e], d.set (endP arcs e).toNat (wrap64 (rd d v + 1))) else (q, d)) = S) := HF2
            obtain ⟨x, hx⟩ : ∃ x, x = endP arcs e := ⟨_, rfl⟩
            rw [← hx] at x0 x1 HF3 ⊢
            clear hx HF2 ke
            have el : e < (left.length : Int) := by have := HZ.out.l2; dsimp only at this; omega
            obtain ⟨al, rfl, kl⟩ := Kd.at_int (Kd.R_reads' HR.out.left).2.2 e e0 el
            have k2 := HR.out.k2
            have k6 := HR.out.k6
            dsimp only at k2 k6 kl
            obtain ⟨kx, fx⟩ := R_at HR.out.dep x x0 x1
            obtain ⟨kv, fv⟩ := R_at HR.out.dep v r0 r1
            dsimp only at kx kv
            have le0 : (e < 0) = False := eq_false (by omega)
            have le1 : (e < (left.length : Int)) = True := eq_true el
            have lx0 : (x < 0) = False := eq_false (by omega)
            have lx1 : (x < (N : Int)) = True := eq_true x1
            have lv1 : (v < (N : Int)) = True := eq_true r1
            by_cases p1 : 0 < rd left e
            · have s1 : decide (0 < rd left e) = true := decide_eq_true p1
              have s1' : decide (rd left e > 0) = true := decide_eq_true p1
              by_cases p2 : rd d x < 0
              · have s2 : decide (rd d x < 0) = true := decide_eq_true p2
                have HF4 := HF3.out
                rw [if_pos ⟨p1, p2⟩] at HF4
                replace HF4 := Aside0.mk HF4
                clear HF3 p1 p2
                have HP := Aside0.mk (HR.out.putD x (wrap64 (rd d v + 1)))
                have hgdc : col2 gd = 3 := HR.out.dep.1 gd rfl
                have HQ6 := Aside0.mk (Kd.Q_far (p := ⟨gd, x.toNat, none⟩) HQ.out (fun k hk e => by replace e : k = gd := e; subst e; (try dsimp only at hk); omega) (.int .i64 (wrap64 (rd d v + 1))))
                have RR6 := Aside0.mk (Kd.R_far (p := ⟨gd, x.toNat, none⟩) RR.out (fun k hk e => by replace e : k = gd := e; subst e; (try dsimp only at hk); omega) (.int .i64 (wrap64 (rd d v + 1))))
                have HS6 : Aside0 (W4.heap.size ≤ (wr.setCell ⟨gd, x.toNat, none⟩ (.int .i64 (wrap64 (rd d v + 1)))).heap.size) := ⟨by simpa [World.setCell] using HS.out⟩
                have hql : Aside0 (q.length + 1 ≤ 1000000000000) := ⟨by
                  have h1 := lvF_len arcs left v (row.drop (i + 1)) (q ++ [x], d.set x.toNat (wrap64 (rd d v + 1)))
                  rw [HF4.out] at h1
                  have := HSl.out
                  simp only [List.length_append, List.length_singleton] at h1
                  omega⟩
                clear hgdc
                go_wp2
                go_still_tail 14, (by kernel_rfl)
                go_wp2_with ((with_reducible refine gate_dst (N := 90) rfl ?_); refine mark_ ?_)
                refine ⟨?_⟩
                obtain ⟨W6, hW6⟩ : ∃ W, W = wr.setCell ⟨gd, x.toNat, none⟩ (.int .i64 (wrap64 (rd d v + 1))) := ⟨_, rfl⟩
                rw [← hW6] at HP HQ6 RR6 HS6 ⊢
                have hsz6 : wr.heap.size = W6.heap.size := by rw [hW6]; simp [World.setCell]
                rw [hsz6]
                clear hsz6 hW6 kx fx kv fv k2 k6 kl
                refine Kd.Q_append KI (w0 := w0) (W := W6.drew) w0.heap.size rfl (.tmp 87) (.tmp 89) 40 3 (.int .i64 0) 8 rfl Try.underlying40 info3 rfl (by decide) (by decide) (.slice A q.length c) q x [.int .i64 x] (fun k => col2 k = 5) (fun _ => False) rfl rfl rfl (fun k hk => hk.elim) (fun k hk => hfr.out k (Nat.le_trans HS6.out hk)) (Kd.Q_drew HQ6.out) (below_drew HP.out.bel) HP.out.bel.size (by have := hql.out; omega) ?_
                intro v9 w7 hQ7 hB7 hg7 hat7
                obtain ⟨A7, c7, rfl, _⟩ := Kd.Q_slice hQ7
                have HR7 := Aside0.mk ((HP.out.below (below_drew (Below.refl _ _))).grown hg7 hB7 (fun k hk => by have : col2 k = 5 := HQ.out.1 k hk; omega))
                have RR7 := Aside0.mk (Kd.R_grown (Kd.R_drew RR6.out) hg7 (fun k hk e => by have : col2 k = 5 := HQ.out.1 k e.symm; (try dsimp only at hk); omega))
                have HS7 : Aside0 (W4.heap.size ≤ w7.heap.size) := ⟨Nat.le_trans HS6.out hg7.size⟩
                have HQ7 := Aside0.mk hQ7
                have Hd7 : Aside0 ((d.set x.toNat (wrap64 (rd d v + 1))).length = N) := ⟨by rw [List.length_set]; exact Hd.out⟩
                have Hr7 : Aside0 (∀ y ∈ q ++ [x], 0 ≤ y ∧ y < (N : Int)) := ⟨fun y hy => by
                  rcases List.mem_append.1 hy with hy | hy
                  · exact Hr.out y hy
                  · rw [List.mem_singleton] at hy; rw [hy]; exact ⟨x0, x1⟩⟩
                clear hQ7 hB7 hg7 hat7
                go_wp2
                go_roundg (row.length - (i + 1))
                case measure => omega
                case rel => exact ⟨i + 1, q ++ [x], d.set x.toNat (wrap64 (rd d v + 1)), _, _, by omega, by go_num, by simp, HF4, Hd7, Hr7, HS7, HR7, HQ7, RR7⟩
              · have s2 : decide (rd d x < 0) = false := decide_eq_false p2
                have HF4 := HF3.out
                rw [if_neg (fun z => p2 z.2)] at HF4
                replace HF4 := Aside0.mk HF4
                clear HF3 p1 p2
                go_wp2
                go_roundg (row.length - (i + 1))
                case measure => omega
                case rel => exact ⟨i + 1, q, d, _, _, by omega, by go_num, rfl, HF4, Hd, Hr, HS, HR, HQ, RR⟩
            · have s1 : decide (0 < rd left e) = false := decide_eq_false p1
              have s1' : decide (rd left e > 0) = false := decide_eq_false p1
              have HF4 := HF3.out
              rw [if_neg (fun z => p1 z.1)] at HF4
              replace HF4 := Aside0.mk HF4
              clear HF3 p1
              go_wp2
              go_roundg (row.length - (i + 1))
              case measure => omega
              case rel => exact ⟨i + 1, q, d, _, _, by omega, by go_num, rfl, HF4, Hd, Hr, HS, HR, HQ, RR⟩
          · have hdec : decide (i < row.length) = false := decide_eq_false hlt
            have hS2 : (q, d) = S := by have := HF.out; rw [List.drop_eq_nil_of_le (by omega)] at this; exact this
            subst hS2
            go_wp2
            go_roundg k1
            case measure => omega
            case rel => exact ⟨q, d, _, _, rfl, HD2, Hd, Hr, ⟨by have := HK.out; omega⟩, HS, HR, HQ⟩
end Go.Proofs.Ytbamanjedfccpaa.HTab
end

section
set_option linter.unusedVariables false
set_option linter.unusedSimpArgs false
namespace Go.Proofs.Ytbamanjedfccpaa.HTab
open Go.RowKit Go.Proofs.YtbamanjedfccpaaW.PrintWords Go.Proofs.YtbamanjedfccpaaW.PrintLast Go.Proofs.YtbamanjedfccpaaW.PrintMore Go.Proofs.Ytbamanjedfccpaa.X
attribute [local go_sem] max2_int min2_int max_two min_two
set_option linter.unusedVariables false
set_option linter.unusedSimpArgs false
def xrP (e : Int) : Int := if e % 2 = 0 then e + 1 else e - 1
theorem xor_eq (e : Int) (h0 : 0 ≤ e) (h1 : e < 2000) : Go.bits .xor .i64 e 1 = xrP e := by
  obtain ⟨k, rfl⟩ := Int.eq_ofNat_of_zero_le h0
  have : ∀ k : Fin 2000, Go.bits .xor .i64 ((k.val : Nat) : Int) 1 = xrP ((k.val : Nat) : Int) := by decide +kernel
  exact this ⟨k, by omega⟩
theorem xrP_in (e n : Int) (h0 : 0 ≤ e) (h1 : e < 2 * n) : 0 ≤ xrP e ∧ xrP e < 2 * n := by unfold xrP; split <;> omega
def sendP (left : List Int) (e f : Int) : List Int := (left.set e.toNat (wrap64 (rd left e - f))).set (xrP e).toNat (wrap64 (rd (left.set e.toNat (wrap64 (rd left e - f))) (xrP e) + f))
mutual
def pushP (Z : RZ) : Nat → List Int → List Int → Int → Int → Option (Int × List Int × List Int)
  | 0, _, _, _, _ => none
  | k + 1, left, nxt, v, most => if v = Z.snk then some (most, left, nxt) else pushL Z k left nxt v most
def pushL (Z : RZ) : Nat → List Int → List Int → Int → Int → Option (Int × List Int × List Int)
  | 0, _, _, _, _ => none
  | k + 1, left, nxt, v, most =>
    if 0 ≤ rd nxt v then
      if rd nxt v < ((rowOf Z.out v).length : Int) then
        if rd left (rd (rowOf Z.out v) (rd nxt v)) = 0 then pushL Z k left (nxt.set v.toNat (wrap64 (rd nxt v + 1))) v most
        else if rd Z.dep (endP Z.arcs (rd (rowOf Z.out v) (rd nxt v))) ≠ wrap64 (rd Z.dep v + 1) then pushL Z k left (nxt.set v.toNat (wrap64 (rd nxt v + 1))) v most
        else match pushP Z k left nxt (endP Z.arcs (rd (rowOf Z.out v) (rd nxt v))) (mn most (rd left (rd (rowOf Z.out v) (rd nxt v)))) with
          | none => none
          | some (f, l1, n1) => if f > 0 then some (f, sendP l1 (rd (rowOf Z.out v) (rd nxt v)) f, n1) else pushL Z k l1 (n1.set v.toNat (wrap64 (rd n1 v + 1))) v most
      else some (0, left, nxt)
    else none
end
theorem push_lens (Z : RZ) : ∀ k, (∀ left nxt v m f l1 n1, pushP Z k left nxt v m = some (f, l1, n1) → l1.length = left.length ∧ n1.length = nxt.length) ∧ (∀ left nxt v m f l1 n1, pushL Z k left nxt v m = some (f, l1, n1) → l1.length = left.length ∧ n1.length = nxt.length)
  | 0 => ⟨fun _ _ _ _ _ _ _ h => by simp [pushP] at h, fun _ _ _ _ _ _ _ h => by simp [pushL] at h⟩
  | k + 1 => by
    obtain ⟨ih1, ih2⟩ := push_lens Z k
    refine ⟨fun left nxt v m f l1 n1 h => ?_, fun left nxt v m f l1 n1 h => ?_⟩
    · simp only [pushP] at h
      split at h
      · injection h with h; injection h with h1 h; injection h with h2 h3; subst h2; subst h3; exact ⟨rfl, rfl⟩
      · exact ih2 _ _ _ _ _ _ _ h
    · simp only [pushL] at h
      split at h
      · split at h
        · split at h
          · have := ih2 _ _ _ _ _ _ _ h; rwa [List.length_set] at this
          · split at h
            · have := ih2 _ _ _ _ _ _ _ h; rwa [List.length_set] at this
            · split at h
              · cases h
              · rename_i f' l' n' hq
                have h1 := ih1 _ _ _ _ _ _ _ hq
                split at h
                · injection h with h; injection h with h2 h; injection h with h3 h4; subst h3; subst h4
                  exact ⟨by unfold sendP; rw [List.length_set, List.length_set]; exact h1.1, h1.2⟩
                · have h2 := ih2 _ _ _ _ _ _ _ h; rw [List.length_set] at h2; exact ⟨h2.1.trans h1.1, h2.2.trans h1.2⟩
        · injection h with h; injection h with h1 h; injection h with h2 h3; subst h2; subst h3; exact ⟨rfl, rfl⟩
      · cases h
def RZ.at_ (Z : RZ) (left nxt : List Int) : RZ := ⟨Z.n, Z.arcs, left, Z.out, Z.src, Z.snk, Z.dep, nxt⟩
set_option maxRecDepth 100000 in
set_option maxHeartbeats 8000000 in
theorem push_step {w0 : World} {g : Nat} {col : Nat → Nat} {A1 : Option Addr} {c1 : Nat} {al : Option Addr} {ll cl bo co gd cd gn cn N : Nat} (Z : RZ) (hz : WZ Z) (hN : Z.n = N) (hll : Z.left.length = ll) (K : Nat)
    (IH : ∀ j, j < K → ∀ (w : World) (left nxt : List Int) (v m f : Int) (l1 n1 : List Int), left.length = ll → nxt.length = N → 0 ≤ v → v < N → pushP Z j left nxt v m = some (f, l1, n1) → Rs w0 w g col A1 c1 (.slice al ll cl) (.slice (some ⟨bo, 0, none⟩) N co) (.slice (some ⟨gd, 0, none⟩) N cd) (.slice (some ⟨gn, 0, none⟩) N cn) (Z.at_ left nxt) →
      Calls Try.prog 72 #[.pointer (some ⟨g, 0, none⟩), .int .i64 v, .int .i64 m] w fun e w' => e = .returned (.int .i64 f) ∧ Rs w0 w' g col A1 c1 (.slice al ll cl) (.slice (some ⟨bo, 0, none⟩) N co) (.slice (some ⟨gd, 0, none⟩) N cd) (.slice (some ⟨gn, 0, none⟩) N cn) (Z.at_ l1 n1))
    (w : World) (left nxt : List Int) (v m f : Int) (l1 n1 : List Int) (hl : left.length = ll) (hn : nxt.length = N) (v0 : 0 ≤ v) (v1 : v < N) (hP : pushP Z K left nxt v m = some (f, l1, n1)) (h : Rs w0 w g col A1 c1 (.slice al ll cl) (.slice (some ⟨bo, 0, none⟩) N co) (.slice (some ⟨gd, 0, none⟩) N cd) (.slice (some ⟨gn, 0, none⟩) N cn) (Z.at_ left nxt)) :
    Calls Try.prog 72 #[.pointer (some ⟨g, 0, none⟩), .int .i64 v, .int .i64 m] w fun e w' => e = .returned (.int .i64 f) ∧ Rs w0 w' g col A1 c1 (.slice al ll cl) (.slice (some ⟨bo, 0, none⟩) N co) (.slice (some ⟨gd, 0, none⟩) N cd) (.slice (some ⟨gn, 0, none⟩) N cn) (Z.at_ l1 n1) := by
  obtain ⟨n, arcs, left0, out, src, snk, dep, nxt0⟩ := Z
  dsimp only at hN hll
  subst hN
  cases K with
  | zero => simp [pushP] at hP
  | succ K =>
  simp only [pushP] at hP
  have H := Aside0.mk h
  have HZ := Aside0.mk hz
  have I := Aside0.mk IH
  have k5 := h.k5
  dsimp only [RZ.at_] at k5
  clear h hz IH
  by_cases hv : v = snk
  · subst hv
    rw [if_pos rfl] at hP
    injection hP with hP; injection hP with h1 hP; injection hP with h2 h3
    subst h1; subst h2; subst h3
    have d0 : (v == v) = true := by simp
    clear hl hn
    go_enter Try.func72, Try.ntmps72
    go_wp2
    go_ret
    exact ⟨rfl, H.out⟩
  have d0 : (v == snk) = false := by simpa using hv
  have d0' : (v = snk) = False := eq_false hv
  rw [if_neg hv] at hP
  have HP := Aside0.mk hP
  have HL := Aside0.mk (And.intro hl hn)
  replace hll := Aside0.mk hll
  have hno := HZ.out.n
  dsimp only at hno
  have ro : v < (out.length : Int) := by omega
  replace hno := Aside0.mk hno
  clear hP hl hn hv
  go_enter Try.func72, Try.ntmps72
  go_wp2
  go_loopg [6] (K) (fun kq v6 w' => ∃ (left nxt : List Int), v6 = .int .i64 0 ∧ Aside0 (pushL ⟨(N : Int), arcs, left0, out, src, snk, dep, nxt0⟩ kq left nxt v m = some (f, l1, n1)) ∧ Aside0 (left.length = ll ∧ nxt.length = N) ∧ Aside0 (kq ≤ K) ∧
      Aside0 (Rs w0 w' g col A1 c1 (.slice al ll cl) (.slice (some ⟨bo, 0, none⟩) N co) (.slice (some ⟨gd, 0, none⟩) N cd) (.slice (some ⟨gn, 0, none⟩) N cn) ⟨(N : Int), arcs, left, out, src, snk, dep, nxt⟩))
  case atStart => exact ⟨left, nxt, rfl, HP, HL, ⟨Nat.le_refl _⟩, H⟩
  case round =>
    clear HP HL H k5
    obtain ⟨left, nxt, rfl, HP, HL, HK, HR⟩ := hrel
    cases gk with
    | zero => exact absurd HP.out (by simp [pushL])
    | succ k1 =>
      have hP := HP.out
      clear HP
      simp only [pushL] at hP
      obtain ⟨Ar, cr, kr, Cr⟩ := HR.out.out.rowK v v0 ro
      obtain ⟨row, hrow⟩ : ∃ row, row = rowOf out v := ⟨_, rfl⟩
      (try dsimp only at kr Cr)
      rw [← hrow] at hP kr Cr
      obtain ⟨kn, fn⟩ := R_at HR.out.nxt v v0 v1
      have k7 := HR.out.k7
      have k3 := HR.out.k3
      (try dsimp only at kn k7 k3)
      have vb0 : (v < 0) = False := eq_false (by omega)
      have vb1 : (v < (N : Int)) = True := eq_true v1
      by_cases p0 : 0 ≤ rd nxt v
      · rw [if_pos p0] at hP
        by_cases p1 : rd nxt v < (row.length : Int)
        · rw [if_pos p1] at hP
          have s1 : decide (rd nxt v < (row.length : Int)) = true := decide_eq_true p1
          have nb0 : (rd nxt v < 0) = False := eq_false (by omega)
          have nb1 : (rd nxt v < (row.length : Int)) = True := eq_true p1
          have hmem : rd row (rd nxt v) ∈ row := rd_mem row _ p0 p1
          obtain ⟨e0, e1⟩ := HZ.out.edge v (rd row (rd nxt v)) (by rw [← hrow]; exact hmem)
          dsimp only at e1
          obtain ⟨x0, x1⟩ := HZ.out.ends _ e0 e1
          dsimp only at x0 x1
          obtain ⟨ar, rfl, ke⟩ := Kd.at_int Cr (rd nxt v) p0 p1
          obtain ⟨e, he⟩ : ∃ e, e = rd row (rd nxt v) := ⟨_, rfl⟩
          rw [← he] at hP ke e0 e1 x0 x1
          replace hP := Aside0.mk hP
          replace hrow := Aside0.mk hrow
          clear hmem p1 Cr he
          go_wp2
          go_quiet (fail)
          have HR2 := Aside0.mk (HR.out.below (pw_below_drewN (Below.refl _ _) nq))
          replace kn : (wr.drewN nq).cell? _ = _ := kn
          replace k7 : (wr.drewN nq).cell? _ = _ := k7
          replace k3 : (wr.drewN nq).cell? _ = _ := k3
          replace kr : (wr.drewN nq).cell? _ = _ := kr
          replace ke : (wr.drewN nq).cell? _ = _ := ke
          clear fn
          generalize wr.drewN nq = W2 at HR2 kn k7 k3 kr ke ⊢
          go_wp2
          go_quiet (fail)
          replace HR2 := Aside0.mk (HR2.out.below (pw_below_drewN (Below.refl _ _) nq))
          clear kn k7 k3 kr ke
          generalize W2.drewN nq = W3 at HR2 ⊢
          go_wp2_with fail
          refine (end_calls HR2.out e e0 e1).mono ?_
          rintro r w' ⟨rfl, rfl⟩
          dsimp only
          obtain ⟨x, hx⟩ : ∃ x, x = endP arcs e := ⟨_, rfl⟩
          replace hP := hP.out
          rw [← hx] at x0 x1 hP ⊢
          replace hP := Aside0.mk hP
          have el : e < (left.length : Int) := by have := HZ.out.l2; have := HL.out.1; have := hll.out; dsimp only at *; omega
          have ell : e < (ll : Int) := by have := HL.out.1; omega
          obtain ⟨gl, capl, hvl, _⟩ := Kd.R_form HR2.out.left (by show 0 < left.length; omega)
          injection hvl with hv1 hv2 hv3
          subst hv1
          clear hv2 hv3 capl
          have k2 := HR2.out.k2
          have k6 := HR2.out.k6
          have k7 := HR2.out.k7
          (try dsimp only at k2 k6 k7)
          obtain ⟨kl, -⟩ := R_at HR2.out.left e e0 ell
          obtain ⟨kx, -⟩ := R_at HR2.out.dep x x0 x1
          obtain ⟨kv, -⟩ := R_at HR2.out.dep v v0 v1
          obtain ⟨kn, fn⟩ := R_at HR2.out.nxt v v0 v1
          (try dsimp only at kl kx kv kn)
          have le0 : (e < 0) = False := eq_false (by omega)
          have le1 : (e < (ll : Int)) = True := eq_true ell
          have lx0 : (x < 0) = False := eq_false (by omega)
          have lx1 : (x < (N : Int)) = True := eq_true x1
          have HLN : Aside0 (left.length = ll ∧ (nxt.set v.toNat (wrap64 (rd nxt v + 1))).length = N) := ⟨⟨HL.out.1, by rw [List.length_set]; exact HL.out.2⟩⟩
          have eb : Aside0 (0 ≤ xrP e ∧ xrP e < (ll : Int)) := ⟨by have h1 := xrP_in e arcs.length e0 e1; have := HZ.out.l2; have := hll.out; dsimp only at *; omega⟩
          have hxor : Aside0 (Go.bits .xor .i64 e 1 = xrP e) := ⟨xor_eq e e0 (by have := HZ.out.la; dsimp only at this; omega)⟩
          clear hx
          by_cases q1 : rd left e = 0
          · have t1 : (rd left e == 0) = true := by simpa using q1
            have HP : Aside0 _ := ⟨by have z := hP.out; rw [if_pos q1] at z; exact z⟩
            clear hP q1
            go_wp2
            go_quiet (fail)
            have HR4 := Aside0.mk (HR2.out.below (pw_below_drewN (Below.refl _ _) nq))
            clear k2 k6 k7 kl kx kv kn fn
            generalize W3.drewN nq = W4 at HR4 ⊢
            have k7 := HR4.out.k7
            obtain ⟨kn, fn⟩ := R_at HR4.out.nxt v v0 v1
            (try dsimp only at k7 kn)
            have HPN := Aside0.mk (HR4.out.putN v (wrap64 (rd nxt v + 1)))
            go_wp2
            go_roundg k1
            case measure => omega
            case rel => exact ⟨left, nxt.set v.toNat (wrap64 (rd nxt v + 1)), rfl, HP, HLN, ⟨by have := HK.out; omega⟩, HPN⟩
          have t1 : (rd left e == 0) = false := by simpa using q1
          have t1' : (rd left e = 0) = False := eq_false q1
          replace hP := hP.out
          rw [if_neg q1] at hP
          clear q1
          by_cases q2 : rd dep x = wrap64 (rd dep v + 1)
          · have t2 : (rd dep x == wrap64 (rd dep v + 1)) = true := by simpa using q2
            have t2' : (rd dep x != wrap64 (rd dep v + 1)) = false := by simpa using q2
            rw [if_neg (fun z => z q2)] at hP
            obtain ⟨M, hM⟩ : ∃ M, M = mn m (rd left e) := ⟨_, rfl⟩
            rw [← hM] at hP
            cases hq : pushP ⟨(N : Int), arcs, left0, out, src, snk, dep, nxt0⟩ k1 left nxt x M with
            | none => rw [hq] at hP; cases hP
            | some r =>
              obtain ⟨f', l', n'⟩ := r
              rw [hq] at hP
              dsimp only at hP
              have hM' : (if rd left e < m then rd left e else m) = M := hM.symm
              have HQ := Aside0.mk hq
              replace hP := Aside0.mk hP
              clear q2 hq hM
              go_wp2
              go_quiet (fail)
              have HR4 := Aside0.mk (HR2.out.below (pw_below_drewN (Below.refl _ _) nq))
              replace kl : (W3.drewN nq).cell? _ = _ := kl
              replace k2 : (W3.drewN nq).cell? _ = _ := k2
              clear k6 k7 kx kv kn fn
              generalize W3.drewN nq = W4 at HR4 kl k2 ⊢
              go_wp2_with fail
              refine (I.out k1 (by have := HK.out; omega) W4 left nxt x M f' l' n' HL.out.1 HL.out.2 x0 x1 HQ.out HR4.out).mono ?_
              rintro r w' ⟨rfl, hR5⟩
              have HR5 := Aside0.mk hR5
              have HL5 : Aside0 (l'.length = ll ∧ n'.length = N) := ⟨by have z := (push_lens _ k1).1 _ _ _ _ _ _ _ HQ.out; exact ⟨z.1.trans HL.out.1, z.2.trans HL.out.2⟩⟩
              dsimp only [RZ.at_] at HR5
              clear hR5 kl k2 hM'
              by_cases q3 : f' > 0
              · have t3 : decide (f' > 0) = true := decide_eq_true q3
                have t3' : decide (0 < f') = true := decide_eq_true q3
                replace hP := hP.out
                rw [if_pos q3] at hP
                injection hP with hP; injection hP with h1 hP; injection hP with h2 h3
                subst h1; subst h2; subst h3
                have k2 := HR5.out.k2
                obtain ⟨kl, fl⟩ := R_at HR5.out.left e e0 ell
                (try dsimp only at k2 kl)
                have H6 := Aside0.mk (HR5.out.putL e (wrap64 (rd l' e - f')))
                have k2s := H6.out.k2
                obtain ⟨kl2, fl2⟩ := R_at H6.out.left (xrP e) eb.out.1 eb.out.2
                (try dsimp only at k2s kl2)
                have H7 := Aside0.mk (H6.out.putL (xrP e) (wrap64 (rd (l'.set e.toNat (wrap64 (rd l' e - f'))) (xrP e) + f')))
                have hx2 := hxor.out
                have eb0 := eb.out.1
                have eb1 := eb.out.2
                have lb0 : (xrP e < 0) = False := eq_false (by have := eb.out.1; omega)
                have lb1 : (xrP e < (ll : Int)) = True := eq_true eb.out.2
                go_wp2
                go_ret
                exact ⟨rfl, H7.out⟩
              · have t3 : decide (f' > 0) = false := decide_eq_false q3
                have t3' : decide (0 < f') = false := decide_eq_false q3
                have HP : Aside0 _ := ⟨by have z := hP.out; rw [if_neg q3] at z; exact z⟩
                have k7 := HR5.out.k7
                obtain ⟨kn, fn⟩ := R_at HR5.out.nxt v v0 v1
                (try dsimp only at k7 kn)
                have HPN := Aside0.mk (HR5.out.putN v (wrap64 (rd n' v + 1)))
                have HLN' : Aside0 (l'.length = ll ∧ (n'.set v.toNat (wrap64 (rd n' v + 1))).length = N) := ⟨⟨HL5.out.1, by rw [List.length_set]; exact HL5.out.2⟩⟩
                clear hP q3
                go_wp2
                go_roundg k1
                case measure => omega
                case rel => exact ⟨l', n'.set v.toNat (wrap64 (rd n' v + 1)), rfl, HP, HLN', ⟨by have := HK.out; omega⟩, HPN⟩
          · have t2 : (rd dep x == wrap64 (rd dep v + 1)) = false := by simpa using q2
            have t2' : (rd dep x != wrap64 (rd dep v + 1)) = true := by simpa using q2
            have HP : Aside0 _ := ⟨by have z := hP; rw [if_pos q2] at z; exact z⟩
            clear hP q2
            go_wp2
            go_quiet (fail)
            have HR4 := Aside0.mk (HR2.out.below (pw_below_drewN (Below.refl _ _) nq))
            clear k2 k6 k7 kl kx kv kn fn
            generalize W3.drewN nq = W4 at HR4 ⊢
            have k7 := HR4.out.k7
            obtain ⟨kn, fn⟩ := R_at HR4.out.nxt v v0 v1
            (try dsimp only at k7 kn)
            have HPN := Aside0.mk (HR4.out.putN v (wrap64 (rd nxt v + 1)))
            go_wp2
            go_roundg k1
            case measure => omega
            case rel => exact ⟨left, nxt.set v.toNat (wrap64 (rd nxt v + 1)), rfl, HP, HLN, ⟨by have := HK.out; omega⟩, HPN⟩
        · rw [if_neg p1] at hP
          replace hrow := Aside0.mk hrow
          injection hP with hP; injection hP with h1 hP; injection hP with h2 h3
          subst h1; subst h2; subst h3
          have s1 : decide (rd nxt v < (row.length : Int)) = false := decide_eq_false p1
          go_wp2
          go_quiet (fail)
          go_wp2
          go_ret
          exact ⟨rfl, HR.out.below (pw_below_drewN (Below.refl _ _) nq)⟩
      · rw [if_neg p0] at hP; cases hP
theorem push_calls {w0 : World} {g : Nat} {col : Nat → Nat} {A1 : Option Addr} {c1 : Nat} {al : Option Addr} {ll cl bo co gd cd gn cn N : Nat} (Z : RZ) (hz : WZ Z) (hN : Z.n = N) (hll : Z.left.length = ll) :
    ∀ (K : Nat) (w : World) (left nxt : List Int) (v m f : Int) (l1 n1 : List Int), left.length = ll → nxt.length = N → 0 ≤ v → v < N → pushP Z K left nxt v m = some (f, l1, n1) → Rs w0 w g col A1 c1 (.slice al ll cl) (.slice (some ⟨bo, 0, none⟩) N co) (.slice (some ⟨gd, 0, none⟩) N cd) (.slice (some ⟨gn, 0, none⟩) N cn) (Z.at_ left nxt) →
      Calls Try.prog 72 #[.pointer (some ⟨g, 0, none⟩), .int .i64 v, .int .i64 m] w fun e w' => e = .returned (.int .i64 f) ∧ Rs w0 w' g col A1 c1 (.slice al ll cl) (.slice (some ⟨bo, 0, none⟩) N co) (.slice (some ⟨gd, 0, none⟩) N cd) (.slice (some ⟨gn, 0, none⟩) N cn) (Z.at_ l1 n1) := by
  intro K
  induction K using Nat.strongRecOn with
  | ind K ih => exact push_step Z hz hN hll K ih
end Go.Proofs.Ytbamanjedfccpaa.HTab
end

section
set_option linter.unusedVariables false
set_option linter.unusedSimpArgs false
namespace Go.Proofs.Ytbamanjedfccpaa.HTab
open Go.RowKit Go.Proofs.YtbamanjedfccpaaW.PrintWords Go.Proofs.YtbamanjedfccpaaW.PrintLast Go.Proofs.YtbamanjedfccpaaW.PrintMore Go.Proofs.Ytbamanjedfccpaa.X
set_option linter.unusedVariables false
set_option linter.unusedSimpArgs false
abbrev maxI : Int := 9223372036854775807
def RZ.dat_ (Z : RZ) (left dep nxt : List Int) : RZ := ⟨Z.n, Z.arcs, left, Z.out, Z.src, Z.snk, dep, nxt⟩
mutual
def fillO (Z : RZ) : Nat → List Int → List Int → List Int → Int → Option (Int × List Int × List Int × List Int)
  | 0, _, _, _, _ => none
  | k + 1, left, dep, nxt, sum => match levelP k (Z.dat_ left dep nxt) with
    | none => none
    | some D => if 0 ≤ rd D Z.snk then match pushP (Z.dat_ left D nxt) k left (List.replicate Z.n.toNat 0) Z.src maxI with
        | none => none
        | some (f, l1, n1) => fillI Z k D l1 n1 f sum
      else some (sum, left, D, nxt)
def fillI (Z : RZ) : Nat → List Int → List Int → List Int → Int → Int → Option (Int × List Int × List Int × List Int)
  | 0, _, _, _, _, _ => none
  | k + 1, D, left, nxt, f, sum => if f > 0 then match pushP (Z.dat_ left D nxt) k left nxt Z.src maxI with
        | none => none
        | some (f', l1, n1) => fillI Z k D l1 n1 f' (wrap64 (sum + f))
      else fillO Z k left D nxt sum
end
theorem lvF_dep (arcs : List S35) (left : List Int) (v : Int) : ∀ (l : List Int) (s : List Int × List Int), (l.foldl (lvE arcs left v) s).2.length = s.2.length
  | [], s => rfl
  | e :: l, s => by
    refine (lvF_dep arcs left v l _).trans ?_
    unfold lvE
    split
    · simp
    · rfl
theorem lvQ_dep (arcs : List S35) (left : List Int) (out : List (List Int)) : ∀ (k : Nat) (q d D : List Int), lvQ arcs left out k q d = some D → D.length = d.length
  | k, [], d, D, h => by rw [lvQ_nil] at h; injection h with h; rw [h]
  | 0, v :: q, d, D, h => by simp [lvQ] at h
  | k + 1, v :: q, d, D, h => by
    simp only [lvQ] at h
    rw [lvQ_dep arcs left out k _ _ D h, lvF_dep]
theorem levelP_len {k : Nat} {Z : RZ} {D : List Int} (h : levelP k Z = some D) : D.length = Z.n.toNat := by
  unfold levelP at h
  rw [lvQ_dep _ _ _ _ _ _ _ h, List.length_set, List.length_replicate]
theorem WZ.dat {Z : RZ} (h : WZ Z) (left dep nxt : List Int) (hl : left.length = Z.left.length) : WZ (Z.dat_ left dep nxt) := ⟨h.n, h.small, hl.trans h.l2, h.la, h.rl, h.edge, h.ends, h.src, h.snk⟩
theorem form_N {w : World} {e base n : Nat} {ok : Nat → Prop} {v : Value} {xs : List Int} (h : KI.R e w base ok v xs) (hn : xs.length = n) (h0 : 0 < n) : ∃ g cap, v = .slice (some ⟨g, 0, none⟩) n cap := by
  obtain ⟨g, cap, hv, _⟩ := Kd.R_form h (by omega)
  exact ⟨g, cap, by rw [hv, hn]⟩
def FlPost (w0 : World) (g : Nat) (A1 : Option Addr) (c1 : Nat) (v2 v3 : Value) (Z : RZ) (sum : Int) (left dep nxt : List Int) (e : Ending) (w' : World) : Prop :=
  ∃ col v6 v7, e = .returned (.int .i64 sum) ∧ Rs w0 w' g col A1 c1 v2 v3 v6 v7 (Z.dat_ left dep nxt)
set_option maxRecDepth 100000 in
set_option maxHeartbeats 8000000 in
theorem fill_calls {w0 w : World} {g : Nat} {col : Nat → Nat} {A1 : Option Addr} {c1 : Nat} {v2 v3 v6 v7 : Value} {Z : RZ} (h : Rs w0 w g col A1 c1 v2 v3 v6 v7 Z) (hz : WZ Z) (K : Nat) (hK : K ≤ 1000000000000) (sum : Int) (l1 d1 n1 : List Int) (hF : fillO Z K Z.left Z.dep Z.nxt 0 = some (sum, l1, d1, n1)) :
    Calls Try.prog 50 #[.pointer (some ⟨g, 0, none⟩)] w (FlPost w0 g A1 c1 v2 v3 Z sum l1 d1 n1) := by
  obtain ⟨n, arcs, left0, out, src, snk, dep0, nxt0⟩ := Z
  obtain ⟨N, rfl⟩ : ∃ N : Nat, n = N := ⟨n.toNat, by have := hz.n; dsimp only at this; omega⟩
  have hN : N ≤ 1000 := by have := hz.n; have := hz.small; dsimp only at *; omega
  have hno : out.length = N := by have := hz.n; dsimp only at this; omega
  obtain ⟨s0, s1⟩ := hz.src
  obtain ⟨s2, s3⟩ := hz.snk
  dsimp only at s0 s1 s2 s3
  obtain ⟨AL, cL, rfl, hcL, _⟩ := Kd.R_reads h.left
  obtain ⟨bo, co, cells, hv3, _⟩ := h.out
  dsimp only at h hcL hv3 hF ⊢
  rw [hno] at hv3
  subst hv3
  have H := Aside0.mk h
  have HF := Aside0.mk hF
  have HZ := Aside0.mk hz
  replace hno := Aside0.mk hno
  clear h hF hz
  go_enter Try.func50, Try.ntmps50
  go_wp2
  go_loopg [3] (K) (fun kq vs w' => ∃ (left dep nxt : List Int) (s : Int) (col : Nat → Nat) (v6 v7 : Value), vs = .int .i64 s ∧ Aside0 (fillO ⟨(N : Int), arcs, left0, out, src, snk, dep0, nxt0⟩ kq left dep nxt s = some (sum, l1, d1, n1)) ∧ Aside0 (left.length = left0.length) ∧ Aside0 (kq ≤ K) ∧
      Aside0 (Rs w0 w' g col A1 c1 (.slice AL left0.length cL) (.slice (some ⟨bo, 0, none⟩) N co) v6 v7 ⟨(N : Int), arcs, left, out, src, snk, dep, nxt⟩))
  case atStart => exact ⟨left0, dep0, nxt0, 0, col, v6, v7, rfl, HF, ⟨rfl⟩, ⟨Nat.le_refl _⟩, H⟩
  case round =>
    clear HF H
    obtain ⟨left, dep, nxt, s, col, v6, v7, rfl, HF, HL, HK, HR⟩ := hrel
    cases gk with
    | zero => exact absurd HF.out (by simp [fillO])
    | succ k1 =>
      have hF := HF.out
      clear HF
      simp only [fillO, RZ.dat_] at hF
      cases hD : levelP k1 ⟨(N : Int), arcs, left, out, src, snk, dep, nxt⟩ with
      | none => rw [hD] at hF; cases hF
      | some D =>
        rw [hD] at hF
        dsimp only at hF
        have HWZ := Aside0.mk (HZ.out.dat left dep nxt HL.out)
        have HDl : Aside0 (D.length = N) := ⟨by have := levelP_len hD; dsimp only at this; rwa [Int.toNat_natCast] at this⟩
        replace hD := Aside0.mk hD
        replace hF := Aside0.mk hF
        go_wp2_with fail
        refine (level_calls HR.out HWZ.out k1 (by have := HK.out; omega) D hD.out).mono ?_
        rintro e w2 ⟨col2, v62, rfl, hR2⟩
        dsimp only at hR2 ⊢
        have HR2 := Aside0.mk hR2
        clear hR2
        by_cases p1 : 0 ≤ rd D snk
        · have t1 : decide (0 ≤ rd D snk) = true := decide_eq_true p1
          replace hF := hF.out
          rw [if_pos p1] at hF
          rw [Int.toNat_natCast] at hF
          cases hq : pushP ⟨(N : Int), arcs, left, out, src, snk, D, nxt⟩ k1 left (List.replicate N 0) src maxI with
          | none => rw [hq] at hF; cases hF
          | some r =>
            obtain ⟨f, la, na⟩ := r
            rw [hq] at hF
            dsimp only at hF
            replace hF := Aside0.mk hF
            have HQ := Aside0.mk hq
            clear hq p1
            obtain ⟨gd, cd, rfl⟩ := form_N HR2.out.dep HDl.out (by omega)
            have k0 := HR2.out.k0
            (try dsimp only at k0)
            rw [t1]
            go_wp2_with ((with_reducible refine gate_dst (N := 13) rfl ?_); refine mark_ ?_)
            refine ⟨?_⟩
            obtain ⟨col3, hcol3⟩ : ∃ c : Nat → Nat, c = fun k => if k < w2.heap.size then col2 k else 4 := ⟨_, rfl⟩
            have HR3 := Aside0.mk (HR2.out.recol (col' := col3) (fun k hk => by rw [hcol3]; simp [hk]))
            have hc4 : col3 w2.heap.size = 4 := by rw [hcol3]; simp
            refine Kd.R_make KI (w0 := w0) w0.heap.size 3 rfl (N := 13) rfl 40 _ _ rfl (N : Int) rfl rfl Try.underlying40 (.int .i64 0) 8 info3 rfl (by decide) (by omega) 0 (ok := fun k => col3 k = 4) (okp := fun _ => False) rfl (fun _ h => h.elim) hc4 (by omega) (by rw [Int.toNat_natCast]; omega) HR3.out.bel HR3.out.bel.size ?_
            intro vn w4 hR4 hB4 hg4 hne4
            rw [Int.toNat_natCast] at hR4
            obtain ⟨gn, cn, rfl⟩ := form_N hR4 (List.length_replicate ..) (by omega)
            have HR4 := Aside0.mk (HR3.out.grown hg4 hB4 (fun k hk => by cases hk))
            have R4 := Aside0.mk hR4
            have k7 := HR4.out.k7
            have f7 := HR4.out.fz 7
            have H5 := Aside0.mk (HR4.out.boxN R4.out)
            have k3s := H5.out.k4
            dsimp only at k3s
            clear hcol3 hc4 hR4 hB4 hg4 hne4 k0
            go_wp2_with fail
            obtain ⟨W5, hW5⟩ : ∃ W, W = w4.setCell ⟨g, 7, none⟩ (.slice (some ⟨gn, 0, none⟩) N cn) := ⟨_, rfl⟩
            rw [← hW5] at H5 ⊢
            clear hW5 k3s k7 f7 R4 HR4
            have HZD : Aside0 (WZ ⟨(N : Int), arcs, left, out, src, snk, D, nxt⟩) := ⟨HZ.out.dat left D nxt HL.out⟩
            refine (push_calls ⟨(N : Int), arcs, left, out, src, snk, D, nxt⟩ HZD.out rfl rfl k1 W5 left (List.replicate N 0) src maxI f la na rfl (List.length_replicate ..) s0 s1 HQ.out (by rw [HL.out]; exact H5.out)).mono ?_
            rintro r w6 ⟨rfl, hR6⟩
            dsimp only [RZ.at_] at hR6
            have HL6 : Aside0 (la.length = left0.length) := ⟨((push_lens _ k1).1 _ _ _ _ _ _ _ HQ.out).1.trans HL.out⟩
            have HN6 : Aside0 (na.length = N) := ⟨((push_lens _ k1).1 _ _ _ _ _ _ _ HQ.out).2.trans (List.length_replicate ..)⟩
            rw [HL.out] at hR6
            have HR6 := Aside0.mk hR6
            clear hR6 H5 HR3 HR2 HQ
            go_wp2
            go_loopg [3, 4] (k1) (fun kq vs vf w' => ∃ (left nxt : List Int) (f s : Int), vs = .int .i64 s ∧ vf = .int .i64 f ∧ Aside0 (fillI ⟨(N : Int), arcs, left0, out, src, snk, dep0, nxt0⟩ kq D left nxt f s = some (sum, l1, d1, n1)) ∧ Aside0 (left.length = left0.length) ∧ Aside0 (nxt.length = N) ∧ Aside0 (kq ≤ k1) ∧
                Aside0 (Rs w0 w' g col3 A1 c1 (.slice AL left0.length cL) (.slice (some ⟨bo, 0, none⟩) N co) (.slice (some ⟨gd, 0, none⟩) N cd) (.slice (some ⟨gn, 0, none⟩) N cn) ⟨(N : Int), arcs, left, out, src, snk, D, nxt⟩))
            case atStart => exact ⟨la, na, f, s, rfl, rfl, hF, HL6, HN6, ⟨Nat.le_refl _⟩, HR6⟩
            case round =>
              clear HR6 HN6 HL6 hF HL HR HWZ hD HZD
              obtain ⟨left, nxt, f, s, rfl, rfl, HF, HL, HN, HK2, HR⟩ := hrel
              cases gk with
              | zero => exact absurd HF.out (by simp [fillI])
              | succ k2 =>
                have hF := HF.out
                clear HF
                simp only [fillI, RZ.dat_] at hF
                have HWD : Aside0 (WZ ⟨(N : Int), arcs, left, out, src, snk, D, nxt⟩) := ⟨HZ.out.dat left D nxt HL.out⟩
                by_cases p1 : f > 0
                · have t2 : decide (f > 0) = true := decide_eq_true p1
                  have t2' : decide (0 < f) = true := decide_eq_true p1
                  rw [if_pos p1] at hF
                  cases hq : pushP ⟨(N : Int), arcs, left, out, src, snk, D, nxt⟩ k2 left nxt src maxI with
                  | none => rw [hq] at hF; cases hF
                  | some r =>
                    obtain ⟨f', la, na⟩ := r
                    rw [hq] at hF
                    dsimp only at hF
                    have HF := Aside0.mk hF
                    have HQ := Aside0.mk hq
                    have k4 := HR.out.k4
                    (try dsimp only at k4)
                    clear hq p1 hF
                    go_wp2_with fail
                    refine (push_calls ⟨(N : Int), arcs, left, out, src, snk, D, nxt⟩ HWD.out rfl rfl k2 wr left nxt src maxI f' la na rfl HN.out s0 s1 HQ.out (by rw [HL.out]; exact HR.out)).mono ?_
                    rintro r w7 ⟨rfl, hR7⟩
                    dsimp only [RZ.at_] at hR7
                    rw [HL.out] at hR7
                    have HR7 := Aside0.mk hR7
                    have HL7 : Aside0 (la.length = left0.length) := ⟨((push_lens _ k2).1 _ _ _ _ _ _ _ HQ.out).1.trans HL.out⟩
                    have HN7 : Aside0 (na.length = N) := ⟨((push_lens _ k2).1 _ _ _ _ _ _ _ HQ.out).2.trans HN.out⟩
                    clear hR7 k4
                    go_wp2
                    go_roundg k2
                    case measure => omega
                    case rel => exact ⟨la, na, f', _, rfl, rfl, HF, HL7, HN7, ⟨by have := HK2.out; omega⟩, HR7⟩
                · have t2 : decide (f > 0) = false := decide_eq_false p1
                  have t2' : decide (0 < f) = false := decide_eq_false p1
                  rw [if_neg p1] at hF
                  have HF := Aside0.mk hF
                  clear hF p1
                  go_wp2
                  go_roundg k2
                  case measure => have := HK2.out; omega
                  case rel => exact ⟨left, D, nxt, s, col3, _, _, rfl, HF, HL, ⟨by have := HK2.out; have := HK.out; omega⟩, HR⟩
        · have t1 : decide (0 ≤ rd D snk) = false := decide_eq_false p1
          replace hF := hF.out
          rw [if_neg p1] at hF
          injection hF with hF; injection hF with h1 hF; injection hF with h2 hF; injection hF with h3 h4
          subst h1; subst h2; subst h3; subst h4
          rw [t1]
          go_wp2
          go_ret
          exact ⟨_, _, _, rfl, HR2.out⟩
end Go.Proofs.Ytbamanjedfccpaa.HTab
end
