/- The row of the law CostFew, out of its walk. -/
import Derived.Test.YtckempgpaojljaaFew8
import Derived.Test.YtckempgpaojljaaFew1
import Derived.Test.YtckempgpaojljaaFew7
import Derived.Test.YtckempgpaojljaaRows
import Derived.WalkKit
import Derived.ProofKit
import Derived.OpenShut
import Derived.ShutString
import Derived.ChangeOld
import Derived.Below
import Derived.SizedLaws
section
/- The walk of the law CostFew. -/
namespace Go.Proofs.Ytckempgpaojljaa.P
set_option linter.unusedVariables false
set_option linter.unusedSimpArgs false
open Go.RowKit Go.Proofs.YtckempgpaojljaaW.PrintWords Go.Proofs.YtckempgpaojljaaW.PrintLast Go.Proofs.YtckempgpaojljaaW.PrintMore
attribute [local go_sem] Oper.semAt_some
def few4.T21 : Bool × List (List Nat × List Nat) := (true, [([], []), ([0], [0]), ([1], [1]), ([], []), ([3], [3]), ([4], [4]), ([5], [5]), ([2, 6], [2, 6]), ([7, 4], [7]), ([8], [8]), ([8, 9], [8, 9]), ([10, 8, 0, 1, 2, 3, 4, 5, 6, 7, 8, 9, 10], [10])])
def few4.B21 : List Nat := [0, 1, 3, 0, 8, 24, 56, 127, 255, 511, 1023, 2047]
theorem few4.tab21 : rtab .any (opsOf Try.f4 21) = few4.T21 := by kernel_rfl
theorem few4.bits21 : waitsOk few4.T21.2 few4.B21 = true := by kernel_rfl
def few4.T23 : Bool × List (List Nat × List Nat) := (true, [([], []), ([0], [0]), ([1], [1]), ([], []), ([3], [3]), ([4], [4]), ([5], [5]), ([2, 6], [2, 6]), ([7, 4], [7]), ([8], [8]), ([9, 8], [8, 9]), ([10, 8], [8, 10]), ([8, 11], [8, 11]), ([12, 8], [12]), ([13], [13]), ([14, 13], [13, 14]), ([15, 13], [13, 15]), ([16, 13], [13, 16]), ([13, 17], [13, 17]), ([18, 13], [18]), ([19], [19]), ([19, 20], [19, 20]), ([21, 19, 0, 1, 2, 3, 4, 5, 6, 7, 8, 9, 10, 11, 12, 13, 14, 15, 16, 17, 18, 19, 20, 21], [21])])
def few4.B23 : List Nat := [0, 1, 3, 0, 8, 24, 56, 127, 255, 511, 1023, 2047, 4095, 8191, 16383, 32767, 65535, 131071, 262143, 524287, 1048575, 2097151, 4194303]
theorem few4.tab23 : rtab .any (opsOf Try.f4 23) = few4.T23 := by kernel_rfl
theorem few4.bits23 : waitsOk few4.T23.2 few4.B23 = true := by kernel_rfl

/-- What the law asks of the pieces that are left. -/
structure FewOk (m : List S43) (N : Int) : Prop where
  len : m.length ≤ 60
  bd : ∀ p ∈ m, 1 ≤ p.f0 ∧ p.f0 ≤ 1000000 ∧ 0 ≤ p.f1 ∧ p.f1 ≤ 1000000000
  cnt : ∀ k L : Nat, L < 16 → 0 ≤ rd (cntI (m.map fun p => p.f0) k) (L : Int) ∧ rd (cntI (m.map fun p => p.f0) k) (L : Int) ≤ 3
  tot : ∃ k S, chapmanlaw36_total.f k m = some (N, S)
  Nb : 0 ≤ N ∧ N ≤ 1000000
  few : (m.length : Int) ≤ 3 * (lv N.toNat + 1)
  again : N ≤ 5000 → ∃ k, chapmanlaw36_chosen.f k m = some ([], [], 0, 0)

theorem few_ok {x : List S50} (hb : bytes2 x) : FewOk (unp (outL (madeL x))) (((madeL x).map fun p => p.f0).sum) := by
  have hv := made_valid hb
  have hm := made_bd hb
  have hl := madeL_len x
  have ho := outL_len hv
  have hbd := out_bd hv
  have hs := out_sum hv
  have hn := outL_names hv
  have s0 := sum_le_of (madeL x) (fun p => p.f0) 79 (fun p hp => by have := hm p hp; omega)
  have s1 := sum_le_of (madeL x) (fun p => p.f1) 10200 (fun p hp => by have := hm p hp; omega)
  generalize madeL x = l at *
  have hul : (unp (outL l)).length = (outL l).length := by simp [unp]
  have hun : (unp (outL l)).map (fun p : S43 => p.f0) = (finC l).map fun c => c.2 := by
    rw [← hn]
    unfold unp
    rw [List.map_map]
    rfl
  have hun1 : (unp (outL l)).map (fun p : S43 => p.f0) = (outL l).map fun p : S59 => p.f0 := by rw [hun, hn]
  have hun2 : (unp (outL l)).map (fun p : S43 => p.f1) = (outL l).map fun p : S59 => p.f1 := by
    unfold unp
    rw [List.map_map]
    rfl
  have hub : ∀ p ∈ unp (outL l), 1 ≤ p.f0 ∧ p.f0 ≤ (l.map fun p : S43 => p.f0).sum ∧ 0 ≤ p.f1 ∧ p.f1 ≤ (l.map fun p : S43 => p.f1).sum := fun p hp => by
    obtain ⟨q, hq, rfl⟩ := List.mem_map.1 hp
    exact hbd q hq
  refine ⟨by omega, fun p hp => ?_, fun k L hL => ?_, ?_, by omega, ?_, fun h5 => ?_⟩
  · have := hub p hp
    omega
  · rw [hun]
    have h1 := cntI_le ((finC l).map fun c => c.2) k L hL
    have h2 := fin_counts hv L hL
    omega
  · obtain ⟨K, hK⟩ := total_ev (unp (outL l)) (by omega) (fun p hp => by have := hub p hp; omega)
    have h1 := hK K (Nat.le_refl _)
    rw [hun1, hs.1] at h1
    exact ⟨K, _, h1⟩
  · rw [show (unp (outL l)).length = ((unp (outL l)).map fun p : S43 => p.f0).length by simp, hun]
    have hN : ∀ n ∈ (finC l).map (fun c => c.2), 1 ≤ n ∧ n ≤ (l.map fun p : S43 => p.f0).sum := fun n hx => by
      rw [← hun] at hx
      obtain ⟨p, hp, rfl⟩ := List.mem_map.1 hx
      have := hub p hp
      omega
    cases hne : (finC l).map fun c => c.2 with
    | nil =>
      have := (lv_bd (l.map fun p : S43 => p.f0).sum.toNat).1
      simp
      omega
    | cons n ns =>
      rw [← hne]
      have hn1 := hN n (by rw [hne]; simp)
      have h0 := lv_nonneg (n := (l.map fun p : S43 => p.f0).sum.toNat) (by omega)
      have h16 := lv_lt 10 (l.map fun p : S43 => p.f0).sum.toNat (by omega)
      have := few_len ((finC l).map fun c => c.2) (lv (l.map fun p : S43 => p.f0).sum.toNat).toNat (fun z hz => by
        have h1 := hN z hz
        have h2 := lv_nonneg (n := z.toNat) (by omega)
        have h3 := lv_mono (l.map fun p : S43 => p.f0).sum.toNat z.toNat (by omega)
        omega) (fun L hL => by
        have := fin_counts hv L (by omega)
        omega)
      omega
  · have hv2 : validL (pcs (unp (outL l))) = true := by
      rw [pcs_unp]
      exact validL_of (by omega) (fun p hp => by have := hbd p hp; omega)
    obtain ⟨K, hK⟩ := chosen_ev (unp (outL l)) (by omega)
    refine ⟨K, (hK K (Nat.le_refl _)).trans ?_⟩
    unfold chosenL
    rw [hv2, if_pos rfl, pcs_unp, again_none hv]

theorem lv_rng {n : Int} (h0 : 1 ≤ n) (h1 : n ≤ 1000000) : ∃ L : Nat, lv n.toNat = (L : Int) ∧ L < 16 := by
  have a := lv_nonneg (n := n.toNat) (by omega)
  have b := lv_lt 16 n.toNat (by omega)
  exact ⟨(lv n.toNat).toNat, by omega, by omega⟩

/-- What holds behind the two calls. -/
structure FewI (w : World) (bG bA : Nat) (AG : Option Addr) (cG : Nat) (nG : Nat) (BG : Option Addr) (dG : Nat) (A1 : Option Addr) (c1 : Nat) (AL : Option Addr) (cL : Nat) (m : List S43) (W : World) : Prop where
  below : Below w.heap.size w W
  bxA : W.heap[bA]? = some (.cells #[.slice A1 0 c1, .slice AL m.length cL, .int .i64 0, .int .i64 0] 36 (0, 0))
  rL : Kd.R k43 43 W w.heap.size (fun _ => True) (.slice AL m.length cL) m
  lo : w.heap.size ≤ bA
theorem FewI.step {w : World} {bG bA : Nat} {AG : Option Addr} {cG : Nat} {nG : Nat} {BG : Option Addr} {dG : Nat} {A1 : Option Addr} {c1 : Nat} {AL : Option Addr} {cL : Nat} {m : List S43} {W W' : World} (h : FewI w bG bA AG cG nG BG dG A1 c1 AL cL m W) (hb : Below W.heap.size W W') : FewI w bG bA AG cG nG BG dG A1 c1 AL cL m W' :=
  ⟨h.below.trans (hb.mono h.below.size), (hb.block _ (hq_lt h.bxA)).trans h.bxA, Kd.R_below h.rL hb, h.lo⟩

set_option maxHeartbeats 4000000 in
set_option maxRecDepth 100000 in
theorem few4 (A : Option Addr) (c : Nat) (x : List S50) (w : World) (hr : Kd.C k50 w A x.length x) (hc : x.length ≤ c) (hb : bytes2 x) :
    Calls Try.prog 4 #[.slice A x.length c] w fun e w' => e = .returned (.bool true) ∧ Below w.heap.size w w' := by
  have HR := Aside0.mk hr
  have HBY := Aside0.mk hb
  have HV := Aside0.mk (made_valid hb)
  have hml := madeL_len x
  clear hr hb
  go_enter Try.func4, Try.ntmps4
  go_wp2_with (fail)
  refine (examples9 w).mono ?_
  rintro e w1 ⟨rfl, hb⟩
  have HB1 := Aside0.mk hb
  clear hb
  go_wp2_with (fail)
  refine (made10 A c x w1 (Kd.C_below HR.out HB1.out) hc HBY.out).mono ?_
  rintro e w2 ⟨v, rfl, hM, hb⟩
  have HB2 := Aside0.mk (below_step HB1.out hb)
  obtain ⟨Am, cm, e, hcm, hCM⟩ := Kd.R_reads hM
  subst e
  obtain ⟨k1, hk1⟩ : ∃ k, chapmanlaw36_chosen.f k (madeL x) = some (choose (pcs (madeL x)), [], 0, 0) := by
    obtain ⟨K, hK⟩ := chosen_ev (madeL x) (by omega)
    refine ⟨K, (hK K (Nat.le_refl _)).trans ?_⟩
    unfold chosenL
    rw [HV.out, if_pos rfl]
  have HM := Aside0.mk (Kd.R_lower hM HB1.out.size)
  have HC := Aside0.mk (chapmanlaw36_chosen.calls k1 Am cm _ _ _ _ _ w2 hCM hcm hk1)
  clear hM hb hCM hk1 HB1
  go_wp2_with (fail)
  refine HC.out.mono ?_
  rintro e w3 ⟨v1, v2, rfl, hG, hL, hb⟩
  have HB3 := Aside0.mk (below_step HB2.out hb)
  have HG := Aside0.mk (Kd.R_lower hG HB2.out.size)
  have HM3 := Aside0.mk (Kd.R_below HM.out hb)
  obtain ⟨AG, cG, e, hcG, _⟩ := Kd.R_reads hG
  subst e
  obtain ⟨BG, dG, e, _⟩ := Kd.R_reads hL
  subst e
  clear hG hL hb HC HB2 HM
  obtain ⟨k2, hk2⟩ : ∃ k, chapmanlaw36_after.f k (madeL x) (choose (pcs (madeL x))) = some ([], unp (outL (madeL x)), 0, 0) := by
    obtain ⟨K, hK⟩ := after_ev (madeL x) (choose (pcs (madeL x))) (by omega)
    exact ⟨K, (hK K (Nat.le_refl _)).trans (by rw [after_chosen HV.out])⟩
  have HF := Aside0.mk (few_ok HBY.out)
  have hnG : ∃ n, n = (choose (pcs (madeL x))).length := ⟨_, rfl⟩
  obtain ⟨W4, hW4⟩ : ∃ W4, W4 = w3.alloc (.cells #[.slice AG (choose (pcs (madeL x))).length cG, .slice BG 0 dG, .int .i64 0, .int .i64 0] 36) := ⟨_, rfl⟩
  have HAF := Aside0.mk (chapmanlaw36_after.calls k2 Am cm (madeL x) AG cG (choose (pcs (madeL x))) _ _ _ _ W4 (by rw [hW4]; exact (Kd.R_reads' (Kd.R_alloc HM3.out _)).2.2) hcm (by rw [hW4]; exact (Kd.R_reads' (Kd.R_alloc HG.out _)).2.2) hcG hk2)
  have HB4 : Aside0 (Below w.heap.size w W4) := ⟨by rw [hW4]; exact below_alloc HB3.out _⟩
  have hbg4 : W4.heap[w3.heap.size]? = some (.cells #[.slice AG (choose (pcs (madeL x))).length cG, .slice BG 0 dG, .int .i64 0, .int .i64 0] 36 (0, 0)) := by rw [hW4]; exact heap_alloc_new _ _
  have HBG := Aside0.mk hbg4
  rw [hW4] at HAF HB4 HBG
  clear hk2 hnG hbg4 hW4 HM3 HG HB3
  generalize hNN : ((madeL x).map fun p => p.f0).sum = N at HF
  clear hNN
  generalize unp (outL (madeL x)) = m at HF HAF
  generalize (choose (pcs (madeL x))).length = nG at HAF HB4 HBG ⊢
  go_wp2_with (fail)
  refine HAF.out.mono ?_
  rintro e w5 ⟨v1, v2, rfl, hG, hL, hb⟩
  have HB5 := Aside0.mk (below_step HB4.out hb)
  have HBG5 := Aside0.mk ((hb.block _ (hq_lt HBG.out)).trans HBG.out)
  have HL := Aside0.mk (Kd.R_lower hL HB4.out.size)
  obtain ⟨A1, c1, e, _⟩ := Kd.R_reads hG
  subst e
  obtain ⟨AL, cL, e, hcL, _⟩ := Kd.R_reads hL
  subst e
  clear hG hL hb HAF HB4 HBG
  have hcg3 := hq_cell (heap_alloc_old w5 (.cells #[.slice A1 0 c1, .slice AL m.length cL, .int .i64 0, .int .i64 0] 36) (hq_lt HBG5.out) |>.trans HBG5.out) 3 _ rfl
  simp only [List.getElem_toArray, List.getElem_cons_zero, List.getElem_cons_succ] at hcg3
  have hx : FewI w w3.heap.size w5.heap.size AG cG nG BG dG A1 c1 AL cL m (w5.alloc (.cells #[.slice A1 0 c1, .slice AL m.length cL, .int .i64 0, .int .i64 0] 36)) :=
    ⟨below_alloc HB5.out _, heap_alloc_new _ _, Kd.R_alloc HL.out _, HB5.out.size⟩
  have HX := Aside0.mk hx
  clear hx HL HB5 HBG5
  have hal5 := alloc_size w5 (.cells #[.slice A1 0 c1, .slice AL m.length cL, .int .i64 0, .int .i64 0] 36)
  have hc0 := cntI_zero (m.map fun p => p.f0)
  have hn1 := heap_alloc_new (w5.alloc (.cells #[.slice A1 0 c1, .slice AL m.length cL, .int .i64 0, .int .i64 0] 36)) (.cells (nums .i64 (cntI (m.map fun p => p.f0) 0)).toArray 45 (0, 0))
  rw [hal5] at hn1
  have HN1 := Aside0.mk hn1
  have HX6 := Aside0.mk (HX.out.step (below_alloc (Below.refl _ _) (.cells (nums .i64 (cntI (m.map fun p => p.f0) 0)).toArray 45 (0, 0))))
  rw [hc0] at HN1 HX6
  clear hn1 hc0 hal5
  have hml2 := HF.out.len
  go_wp2
  clear hcg3
  go_loopw [8] (fun v8 w' => ∃ k : Nat, k ≤ m.length ∧ v8 = .int .i64 k ∧ Aside0 (w'.heap[w5.heap.size + 1]? = some (.cells (nums .i64 (cntI (m.map fun p => p.f0) k)).toArray 45 (0, 0))) ∧ Aside0 (FewI w w3.heap.size w5.heap.size AG cG nG BG dG A1 c1 AL cL m w')) (fun v8 _ => m.length - (intOf v8).toNat)
  case atStart => exact ⟨0, by omega, rfl, ⟨by rw [cntI_zero]; exact HN1.out⟩, HX6⟩
  case round =>
    clear HN1 HX6 HX
    obtain ⟨k, hk, rfl, HN, HX⟩ := hrel
    have hca := hq_cell HX.out.bxA 1 _ rfl
    simp only [List.getElem_toArray, List.getElem_cons_zero, List.getElem_cons_succ] at hca
    by_cases hlt : k < m.length
    · obtain ⟨ad, rfl, h0, h1⟩ := at_T43 (Kd.R_reads' HX.out.rL).2.2 (k : Int) (by omega) (by omega)
      simp only [Int.toNat_natCast] at h0 h1
      have HP := Aside0.mk (show m[k]? = some (rd_T43 m k) by rw [rd43 hlt]; exact List.getElem?_eq_getElem hlt)
      generalize rd_T43 m k = p at h0 h1 HP
      have hpb := HF.out.bd p (List.mem_of_getElem? HP.out)
      obtain ⟨L, hLv, hL16⟩ := lv_rng hpb.1 hpb.2.1
      have HLV := Aside0.mk hLv
      have hns : (m.map fun p => p.f0)[k]? = some p.f0 := by rw [List.getElem?_map, HP.out]; rfl
      have HNS := Aside0.mk hns
      obtain ⟨q1, hq1⟩ : ∃ q, cost_Level.f q p.f0 = some (L : Int) := by
        obtain ⟨K, hK⟩ := level_ev p.f0 (by omega)
        exact ⟨K, (hK K (Nat.le_refl _)).trans (by rw [hLv])⟩
      have HLC := Aside0.mk (cost_Level.calls q1 p.f0 L wr hq1)
      clear hq1 hLv hns h1
      obtain ⟨pb1, pb2, _⟩ := hpb
      obtain ⟨pf, hpf⟩ : ∃ pf, pf = p.f0 := ⟨_, rfl⟩
      have HPF := Aside0.mk hpf
      rw [← hpf] at h0 pb1 pb2 HLC
      clear hpf
      go_wp2_with (fail)
      refine HLC.out.mono ?_
      rintro e w7 ⟨rfl, hd⟩
      have HX7 := Aside0.mk (HX.out.step (drawn_below hd))
      have HN7 := Aside0.mk (((drawn_below hd).block _ (hq_lt HN.out)).trans HN.out)
      clear hd HLC hca h0 HX HN
      have hcnt := HF.out.cnt k L hL16
      have hcnt2 := (HF.out.cnt (k + 1) L hL16).2
      have hsucc := cntI_succ (m.map fun p => p.f0) k L p.f0 HNS.out HLV.out hL16
      have hrd : rd (cntI (m.map fun p => p.f0) (k + 1)) (L : Int) = rd (cntI (m.map fun p => p.f0) k) (L : Int) + 1 := by
        rw [← hsucc]
        simp [rd, List.getD_eq_getElem?_getD, cntI_length, hL16]
      rw [hrd] at hcnt2
      have hcell : w7.cell? ⟨w5.heap.size + 1, L, none⟩ = some (.int .i64 (rd (cntI (m.map fun p => p.f0) k) (L : Int))) := by
        refine hq_cell HN7.out L _ ?_
        simp [nums, rd, cntI_get _ _ _ hL16]
      have hfz := blk_free HN7.out L
      obtain ⟨q, hq⟩ : ∃ q, q = rd (cntI (m.map fun p => p.f0) k) (L : Int) := ⟨_, rfl⟩
      rw [← hq] at hcell hcnt hcnt2 hsucc
      obtain ⟨qb0, qb1⟩ := hcnt
      have HSUCC := Aside0.mk hsucc
      have hn2 : (w7.setCell ⟨w5.heap.size + 1, L, none⟩ (.int .i64 (q + 1))).heap[w5.heap.size + 1]? = some (.cells (nums .i64 (cntI (m.map fun p => p.f0) (k + 1))).toArray 45 (0, 0)) := by
        rw [heap_set_same w7 (w5.heap.size + 1) L (.int .i64 (q + 1)) _ _ HN7.out, ← HSUCC.out]
        congr 2
        apply Array.ext'
        simp [nums, List.map_set]
      have h36 : ∀ z, z ∈ 43 :: k43.E → z ≠ 45 := by decide
      have hx2 : FewI w w3.heap.size w5.heap.size AG cG nG BG dG A1 c1 (some ad) cL m (w7.setCell ⟨w5.heap.size + 1, L, none⟩ (.int .i64 (q + 1))) :=
        ⟨HX7.out.below.setCell (p := ⟨w5.heap.size + 1, L, none⟩) (by have := HX7.out.lo; show w.heap.size ≤ w5.heap.size + 1; omega) _, (Below.heap_setCell _ _ _ _ (by show w5.heap.size ≠ w5.heap.size + 1; omega)).trans HX7.out.bxA, Kd.R_set HX7.out.rL HN7.out h36 L _, HX7.out.lo⟩
      have HN2 := Aside0.mk hn2
      have HX2 := Aside0.mk hx2
      clear hn2 hx2 hq hrd hsucc
      go_wp2
      go_roundw
      case rel => exact ⟨k + 1, by omega, by go_num, HN2, HX2⟩
      case measure => simp [intOf]; omega
    · obtain ⟨kt, St, htot⟩ := HF.out.tot
      have HT := Aside0.mk (chapmanlaw36_total.calls kt AL cL m N St wr (Kd.R_reads' HX.out.rL).2.2 hcL htot)
      have hNb := HF.out.Nb
      have hfew := HF.out.few
      obtain ⟨N0, N1⟩ := hNb
      obtain ⟨LN, hLN⟩ : ∃ LN, LN = lv N.toNat := ⟨_, rfl⟩
      rw [← hLN] at hfew
      have hLb : -1 ≤ LN ∧ LN ≤ 1000000 := by
        have := lv_bd N.toNat
        omega
      obtain ⟨LN0, LN1⟩ := hLb
      have HLN := Aside0.mk hLN
      have hmul : 3 * (LN + 1) ≤ 10000000 := by omega
      clear htot hLN
      go_wp2_with (fail)
      refine HT.out.mono ?_
      rintro e w8 ⟨rfl, hb⟩
      have HX8 := Aside0.mk (HX.out.step hb)
      clear hb HT HX hca HN
      have hdec : decide ((m.length : Int) ≤ wrap64 (3 * wrap64 (LN + 1))) = true := by
        rw [w64in (LN + 1) (by omega), w64in _ (by omega)]
        exact decide_eq_true hfew
      have HDEC := Aside0.mk hdec
      clear hdec
      by_cases hN5 : 5000 < N
      · go_wp2
        refine start_ (n := 12) (S := fun w' => w'.cell? ⟨w5.heap.size, 1, none⟩ = some (.slice AL m.length cL)) (ds := []) #[false, false, false, false, false, false, false, false, false, false, false, false] (by kernel_rfl) rfl rfl (hq_cell (W := w8.drew) HX8.out.bxA 1 _ rfl) (fun hHeld => ?_); refine with_tabW few4.tab21 few4.bits21 (fun HT_ HW_ => ?_)
        refine pure_ (i := 0) (N := some 67) (v := ?_) (a' := ?_) #[true, false, false, false, false, false, false, false, false, false, false, false] rfl rfl (any_of HT_.out (by kernel_rfl)) (fun _ _ _ h => h) (Or.inl ⟨by rfl, ?_⟩) ?_ ?_
        rotate_left
        · intro w'; go_simp; with_reducible rfl
        rotate_left
        · simp only [Act.put, List.setIfInBounds_toArray, List.set_cons_zero, List.set_cons_succ, i64_w, i32_w]; rfl
        refine pure_ (i := 3) (N := some 70) (v := ?_) (a' := ?_) #[true, false, false, true, false, false, false, false, false, false, false, false] rfl rfl (any_of HT_.out (by kernel_rfl)) (fun _ _ _ h => h) (Or.inl ⟨by rfl, ?_⟩) ?_ ?_
        rotate_left
        · intro w'; go_simp; with_reducible rfl
        rotate_left
        · simp only [Act.put, List.setIfInBounds_toArray, List.set_cons_zero, List.set_cons_succ, i64_w, i32_w]; rfl
        refine take_ (i := 1) (N := some 68) (v := ?_) (a' := ?_) #[true, true, false, true, false, false, false, false, false, false, false, false] rfl rfl (take_ofW HT_.out HW_.out (by kernel_rfl)) (fun _ _ _ h => h) (Or.inl ⟨by rfl, ?_⟩) hHeld ?_ ?_
        rotate_left
        · rintro w' s0; go_simp; with_reducible rfl
        rotate_left
        · simp only [Act.put, List.setIfInBounds_toArray, List.set_cons_zero, List.set_cons_succ, i64_w, i32_w]; rfl
        refine pure_ (i := 2) (N := some 69) (v := ?_) (a' := ?_) #[true, true, true, true, false, false, false, false, false, false, false, false] rfl rfl (any_of HT_.out (by kernel_rfl)) (fun _ _ _ h => h) (Or.inl ⟨by rfl, ?_⟩) ?_ ?_
        rotate_left
        · intro w'; go_simp; with_reducible rfl
        rotate_left
        · simp only [Act.put, List.setIfInBounds_toArray, List.set_cons_zero, List.set_cons_succ, i64_w, i32_w]; rfl
        refine one_ (i := 4) (N := some 71) #[true, true, true, true, true, false, false, false, false, false, false, false] rfl rfl (one_of HT_.out (by kernel_rfl)) (by decide) (fun K hK => ?_)
        obtain ⟨q1, hq1⟩ : ∃ q, cost_Level.f q N = some LN := by
          obtain ⟨K, hK⟩ := level_ev N (by omega)
          exact ⟨K, (hK K (Nat.le_refl _)).trans (by rw [HLN.out])⟩
        refine goes_ Try.func25 (by kernel_rfl) rfl #[.int .i64 N] (by rfl) rfl rfl (by simp only [List.map_toArray, List.map_cons, List.map_nil]; rfl) ?_
        refine (cost_Level.calls q1 N LN _ hq1).mono ?_
        rintro e w9 ⟨rfl, hd⟩
        have HX9 := Aside0.mk ((HX8.out.step (Below.refl _ _).drew).step (drawn_below hd))
        clear hd hq1
        refine ⟨_, rfl, hK.out _ _ (hq_cell HX9.out.bxA 1 _ rfl) (fun hHeld => ?_)⟩
        clear hK K
        refine norm_ (a' := ?_) ?_ ?_
        rotate_left
        · show Act.put _ (some 71) _ = _; simp only [Act.put, List.setIfInBounds_toArray, List.set_cons_zero, List.set_cons_succ, i64_w, i32_w]; rfl
        refine pure_ (i := 5) (N := some 72) (v := ?_) (a' := ?_) #[true, true, true, true, true, true, false, false, false, false, false, false] rfl rfl (any_of HT_.out (by kernel_rfl)) (fun _ _ _ h => h) (Or.inl ⟨by rfl, ?_⟩) ?_ ?_
        rotate_left
        · intro w'; go_simp; with_reducible rfl
        rotate_left
        · simp only [Act.put, List.setIfInBounds_toArray, List.set_cons_zero, List.set_cons_succ, i64_w, i32_w]; rfl
        refine pure_ (i := 6) (N := some 73) (v := ?_) (a' := ?_) #[true, true, true, true, true, true, true, false, false, false, false, false] rfl rfl (any_of HT_.out (by kernel_rfl)) (fun _ _ _ h => h) (Or.inl ⟨by rfl, ?_⟩) ?_ ?_
        rotate_left
        · intro w'; go_simp; with_reducible rfl
        rotate_left
        · simp only [Act.put, List.setIfInBounds_toArray, List.set_cons_zero, List.set_cons_succ, i64_w, i32_w]; rfl
        refine pure_ (i := 7) (N := some 74) (v := .bool true) (a' := ?_) #[true, true, true, true, true, true, true, true, false, false, false, false] rfl rfl (any_of HT_.out (by kernel_rfl)) (fun _ _ _ h => h) (Or.inl ⟨by rfl, ?_⟩) ?_ ?_
        · intro w'; go_simp; exact of_decide_eq_true HDEC.out
        rotate_left
        · simp only [Act.put, List.setIfInBounds_toArray, List.set_cons_zero, List.set_cons_succ, i64_w, i32_w]; rfl
        refine pure_ (i := 8) (N := some 75) (v := ?_) (a' := ?_) #[true, true, true, true, true, true, true, true, true, false, false, false] rfl rfl (any_of HT_.out (by kernel_rfl)) (fun _ _ _ h => h) (Or.inl ⟨by rfl, ?_⟩) ?_ ?_
        rotate_left
        · intro w'; go_simp; with_reducible rfl
        rotate_left
        · simp only [Act.put, List.setIfInBounds_toArray, List.set_cons_zero, List.set_cons_succ, i64_w, i32_w]; rfl
        refine pure_ (i := 9) (N := some 76) (v := ?_) (a' := ?_) #[true, true, true, true, true, true, true, true, true, true, false, false] rfl rfl (any_of HT_.out (by kernel_rfl)) (fun _ _ _ h => h) (Or.inl ⟨by rfl, ?_⟩) ?_ ?_
        rotate_left
        · intro w'; go_simp; with_reducible rfl
        rotate_left
        · simp only [Act.put, List.setIfInBounds_toArray, List.set_cons_zero, List.set_cons_succ, i64_w, i32_w]; rfl
        refine pure_ (i := 10) (N := some 77) (v := ?_) (a' := ?_) #[true, true, true, true, true, true, true, true, true, true, true, false] rfl rfl (any_of HT_.out (by kernel_rfl)) (fun _ _ _ h => h) (Or.inl ⟨by rfl, ?_⟩) ?_ ?_
        rotate_left
        · intro w'; go_simp; with_reducible rfl
        rotate_left
        · simp only [Act.put, List.setIfInBounds_toArray, List.set_cons_zero, List.set_cons_succ, i64_w, i32_w]; rfl
        refine pure_ (i := 11) (N := some 2) (v := ?_) (a' := ?_) #[true, true, true, true, true, true, true, true, true, true, true, true] rfl rfl (any_of HT_.out (by kernel_rfl)) (fun _ _ _ h => h) (Or.inl ⟨by rfl, ?_⟩) ?_ ?_
        rotate_left
        · intro w'; go_simp; with_reducible rfl
        rotate_left
        · simp only [Act.put, List.setIfInBounds_toArray, List.set_cons_zero, List.set_cons_succ, i64_w, i32_w]; rfl
        refine done_ (done_of HT_.out (by kernel_rfl)) ?_
        go_wp2
        go_ret
        exact ⟨rfl, HX9.out.below⟩
      · obtain ⟨kc, hkc⟩ := HF.out.again (by omega)
        have HC := Aside0.mk (chapmanlaw36_chosen.calls kc AL cL m _ _ _ _ w8 (Kd.R_reads' HX8.out.rL).2.2 hcL hkc)
        have hca := hq_cell HX8.out.bxA 1 _ rfl
        simp only [List.getElem_toArray, List.getElem_cons_zero, List.getElem_cons_succ] at hca
        clear hkc
        go_wp2_with (fail)
        refine HC.out.mono ?_
        rintro e w9 ⟨v1, v2, rfl, hG, hL, hb⟩
        have HX9 := Aside0.mk (HX8.out.step hb)
        obtain ⟨AH, cH, e, _⟩ := Kd.R_reads hG
        subst e
        obtain ⟨BH, dH, e, _⟩ := Kd.R_reads hL
        subst e
        clear hG hL hb HC HX8 hca
        go_wp2
        have HXa := Aside0.mk (HX9.out.step (below_alloc (Below.refl _ _) (.cells #[.slice AH 0 cH, .slice BH 0 dH, .int .i64 0, .int .i64 0] 36)))
        have HBH := Aside0.mk (heap_alloc_new w9 (.cells #[.slice AH 0 cH, .slice BH 0 dH, .int .i64 0, .int .i64 0] 36 (0, 0)))
        clear HX9
        obtain ⟨bH, hbH⟩ : ∃ bH, bH = w9.heap.size := ⟨_, rfl⟩
        rw [← hbH] at HBH ⊢
        obtain ⟨wa, hwa⟩ : ∃ wa, wa = w9.alloc (.cells #[.slice AH 0 cH, .slice BH 0 dH, .int .i64 0, .int .i64 0] 36) := ⟨_, rfl⟩
        rw [← hwa] at HXa HBH ⊢
        clear hwa hbH
        refine start_ (n := 23) (S := fun w' => w'.cell? ⟨w5.heap.size, 1, none⟩ = some (.slice AL m.length cL) ∧ w'.cell? ⟨bH, 3, none⟩ = some (.int .i64 0) ∧ w'.cell? ⟨bH, 0, none⟩ = some (.slice AH 0 cH)) (ds := []) #[false, false, false, false, false, false, false, false, false, false, false, false, false, false, false, false, false, false, false, false, false, false, false] (by kernel_rfl) rfl rfl ⟨hq_cell (W := wa.drew) HXa.out.bxA 1 _ rfl, hq_cell (W := wa.drew) HBH.out 3 _ rfl, hq_cell (W := wa.drew) HBH.out 0 _ rfl⟩ (fun hHeld => ?_); refine with_tabW few4.tab23 few4.bits23 (fun HT_ HW_ => ?_)
        refine pure_ (i := 0) (N := some 81) (v := ?_) (a' := ?_) #[true, false, false, false, false, false, false, false, false, false, false, false, false, false, false, false, false, false, false, false, false, false, false] rfl rfl (any_of HT_.out (by kernel_rfl)) (fun _ _ _ h => h) (Or.inl ⟨by rfl, ?_⟩) ?_ ?_
        rotate_left
        · intro w'; go_simp; with_reducible rfl
        rotate_left
        · simp only [Act.put, List.setIfInBounds_toArray, List.set_cons_zero, List.set_cons_succ, i64_w, i32_w]; rfl
        refine pure_ (i := 3) (N := some 84) (v := ?_) (a' := ?_) #[true, false, false, true, false, false, false, false, false, false, false, false, false, false, false, false, false, false, false, false, false, false, false] rfl rfl (any_of HT_.out (by kernel_rfl)) (fun _ _ _ h => h) (Or.inl ⟨by rfl, ?_⟩) ?_ ?_
        rotate_left
        · intro w'; go_simp; with_reducible rfl
        rotate_left
        · simp only [Act.put, List.setIfInBounds_toArray, List.set_cons_zero, List.set_cons_succ, i64_w, i32_w]; rfl
        refine take_ (i := 1) (N := some 82) (v := ?_) (a' := ?_) #[true, true, false, true, false, false, false, false, false, false, false, false, false, false, false, false, false, false, false, false, false, false, false] rfl rfl (take_ofW HT_.out HW_.out (by kernel_rfl)) (fun _ _ _ h => h) (Or.inl ⟨by rfl, ?_⟩) hHeld ?_ ?_
        rotate_left
        · rintro w' ⟨s0, s1, s2⟩; go_simp; with_reducible rfl
        rotate_left
        · simp only [Act.put, List.setIfInBounds_toArray, List.set_cons_zero, List.set_cons_succ, i64_w, i32_w]; rfl
        refine pure_ (i := 2) (N := some 83) (v := ?_) (a' := ?_) #[true, true, true, true, false, false, false, false, false, false, false, false, false, false, false, false, false, false, false, false, false, false, false] rfl rfl (any_of HT_.out (by kernel_rfl)) (fun _ _ _ h => h) (Or.inl ⟨by rfl, ?_⟩) ?_ ?_
        rotate_left
        · intro w'; go_simp; with_reducible rfl
        rotate_left
        · simp only [Act.put, List.setIfInBounds_toArray, List.set_cons_zero, List.set_cons_succ, i64_w, i32_w]; rfl
        refine one_ (i := 4) (N := some 85) #[true, true, true, true, true, false, false, false, false, false, false, false, false, false, false, false, false, false, false, false, false, false, false] rfl rfl (one_of HT_.out (by kernel_rfl)) (by decide) (fun K hK => ?_)
        obtain ⟨q1, hq1⟩ : ∃ q, cost_Level.f q N = some LN := by
          obtain ⟨K, hK⟩ := level_ev N (by omega)
          exact ⟨K, (hK K (Nat.le_refl _)).trans (by rw [HLN.out])⟩
        refine goes_ Try.func25 (by kernel_rfl) rfl #[.int .i64 N] (by rfl) rfl rfl (by simp only [List.map_toArray, List.map_cons, List.map_nil]; rfl) ?_
        refine (cost_Level.calls q1 N LN _ hq1).mono ?_
        rintro e wb ⟨rfl, hd⟩
        have HXb := Aside0.mk ((HXa.out.step (Below.refl _ _).drew).step (drawn_below hd))
        have HBH2 := Aside0.mk (((drawn_below hd).block _ (hq_lt (W := wa.drew) HBH.out)).trans HBH.out)
        clear hd hq1
        refine ⟨_, rfl, hK.out _ _ ⟨hq_cell HXb.out.bxA 1 _ rfl, hq_cell HBH2.out 3 _ rfl, hq_cell HBH2.out 0 _ rfl⟩ (fun hHeld => ?_)⟩
        clear hK K
        refine norm_ (a' := ?_) ?_ ?_
        rotate_left
        · show Act.put _ (some 85) _ = _; simp only [Act.put, List.setIfInBounds_toArray, List.set_cons_zero, List.set_cons_succ, i64_w, i32_w]; rfl
        refine pure_ (i := 5) (N := some 86) (v := ?_) (a' := ?_) #[true, true, true, true, true, true, false, false, false, false, false, false, false, false, false, false, false, false, false, false, false, false, false] rfl rfl (any_of HT_.out (by kernel_rfl)) (fun _ _ _ h => h) (Or.inl ⟨by rfl, ?_⟩) ?_ ?_
        rotate_left
        · intro w'; go_simp; with_reducible rfl
        rotate_left
        · simp only [Act.put, List.setIfInBounds_toArray, List.set_cons_zero, List.set_cons_succ, i64_w, i32_w]; rfl
        refine pure_ (i := 6) (N := some 87) (v := ?_) (a' := ?_) #[true, true, true, true, true, true, true, false, false, false, false, false, false, false, false, false, false, false, false, false, false, false, false] rfl rfl (any_of HT_.out (by kernel_rfl)) (fun _ _ _ h => h) (Or.inl ⟨by rfl, ?_⟩) ?_ ?_
        rotate_left
        · intro w'; go_simp; with_reducible rfl
        rotate_left
        · simp only [Act.put, List.setIfInBounds_toArray, List.set_cons_zero, List.set_cons_succ, i64_w, i32_w]; rfl
        refine pure_ (i := 7) (N := some 88) (v := .bool true) (a' := ?_) #[true, true, true, true, true, true, true, true, false, false, false, false, false, false, false, false, false, false, false, false, false, false, false] rfl rfl (any_of HT_.out (by kernel_rfl)) (fun _ _ _ h => h) (Or.inl ⟨by rfl, ?_⟩) ?_ ?_
        · intro w'; go_simp; exact of_decide_eq_true HDEC.out
        rotate_left
        · simp only [Act.put, List.setIfInBounds_toArray, List.set_cons_zero, List.set_cons_succ, i64_w, i32_w]; rfl
        refine pure_ (i := 8) (N := some 89) (v := ?_) (a' := ?_) #[true, true, true, true, true, true, true, true, true, false, false, false, false, false, false, false, false, false, false, false, false, false, false] rfl rfl (any_of HT_.out (by kernel_rfl)) (fun _ _ _ h => h) (Or.inl ⟨by rfl, ?_⟩) ?_ ?_
        rotate_left
        · intro w'; go_simp; with_reducible rfl
        rotate_left
        · simp only [Act.put, List.setIfInBounds_toArray, List.set_cons_zero, List.set_cons_succ, i64_w, i32_w]; rfl
        refine pure_ (i := 9) (N := some 90) (v := ?_) (a' := ?_) #[true, true, true, true, true, true, true, true, true, true, false, false, false, false, false, false, false, false, false, false, false, false, false] rfl rfl (any_of HT_.out (by kernel_rfl)) (fun _ _ _ h => h) (Or.inl ⟨by rfl, ?_⟩) ?_ ?_
        rotate_left
        · intro w'; go_simp; with_reducible rfl
        rotate_left
        · simp only [Act.put, List.setIfInBounds_toArray, List.set_cons_zero, List.set_cons_succ, i64_w, i32_w]; rfl
        refine take_ (i := 10) (N := some 91) (v := ?_) (a' := ?_) #[true, true, true, true, true, true, true, true, true, true, true, false, false, false, false, false, false, false, false, false, false, false, false] rfl rfl (take_ofW HT_.out HW_.out (by kernel_rfl)) (fun _ _ _ h => h) (Or.inl ⟨by rfl, ?_⟩) hHeld ?_ ?_
        rotate_left
        · rintro w' ⟨s0, s1, s2⟩; go_simp; with_reducible rfl
        rotate_left
        · simp only [Act.put, List.setIfInBounds_toArray, List.set_cons_zero, List.set_cons_succ, i64_w, i32_w]; rfl
        refine pure_ (i := 11) (N := some 92) (v := ?_) (a' := ?_) #[true, true, true, true, true, true, true, true, true, true, true, true, false, false, false, false, false, false, false, false, false, false, false] rfl rfl (any_of HT_.out (by kernel_rfl)) (fun _ _ _ h => h) (Or.inl ⟨by rfl, ?_⟩) ?_ ?_
        rotate_left
        · intro w'; go_simp; with_reducible rfl
        rotate_left
        · simp only [Act.put, List.setIfInBounds_toArray, List.set_cons_zero, List.set_cons_succ, i64_w, i32_w]; rfl
        refine pure_ (i := 12) (N := some 93) (v := ?_) (a' := ?_) #[true, true, true, true, true, true, true, true, true, true, true, true, true, false, false, false, false, false, false, false, false, false, false] rfl rfl (any_of HT_.out (by kernel_rfl)) (fun _ _ _ h => h) (Or.inl ⟨by rfl, ?_⟩) ?_ ?_
        rotate_left
        · intro w'; go_simp; with_reducible rfl
        rotate_left
        · simp only [Act.put, List.setIfInBounds_toArray, List.set_cons_zero, List.set_cons_succ, i64_w, i32_w]; rfl
        refine pure_ (i := 13) (N := some 94) (v := ?_) (a' := ?_) #[true, true, true, true, true, true, true, true, true, true, true, true, true, true, false, false, false, false, false, false, false, false, false] rfl rfl (any_of HT_.out (by kernel_rfl)) (fun _ _ _ h => h) (Or.inl ⟨by rfl, ?_⟩) ?_ ?_
        rotate_left
        · intro w'; go_simp; with_reducible rfl
        rotate_left
        · simp only [Act.put, List.setIfInBounds_toArray, List.set_cons_zero, List.set_cons_succ, i64_w, i32_w]; rfl
        refine pure_ (i := 14) (N := some 95) (v := ?_) (a' := ?_) #[true, true, true, true, true, true, true, true, true, true, true, true, true, true, true, false, false, false, false, false, false, false, false] rfl rfl (any_of HT_.out (by kernel_rfl)) (fun _ _ _ h => h) (Or.inl ⟨by rfl, ?_⟩) ?_ ?_
        rotate_left
        · intro w'; go_simp; with_reducible rfl
        rotate_left
        · simp only [Act.put, List.setIfInBounds_toArray, List.set_cons_zero, List.set_cons_succ, i64_w, i32_w]; rfl
        refine take_ (i := 15) (N := some 96) (v := ?_) (a' := ?_) #[true, true, true, true, true, true, true, true, true, true, true, true, true, true, true, true, false, false, false, false, false, false, false] rfl rfl (take_ofW HT_.out HW_.out (by kernel_rfl)) (fun _ _ _ h => h) (Or.inl ⟨by rfl, ?_⟩) hHeld ?_ ?_
        rotate_left
        · rintro w' ⟨s0, s1, s2⟩; go_simp; with_reducible rfl
        rotate_left
        · simp only [Act.put, List.setIfInBounds_toArray, List.set_cons_zero, List.set_cons_succ, i64_w, i32_w]; rfl
        refine pure_ (i := 16) (N := some 97) (v := ?_) (a' := ?_) #[true, true, true, true, true, true, true, true, true, true, true, true, true, true, true, true, true, false, false, false, false, false, false] rfl rfl (any_of HT_.out (by kernel_rfl)) (fun _ _ _ h => h) (Or.inl ⟨by rfl, ?_⟩) ?_ ?_
        rotate_left
        · intro w'; go_simp; with_reducible rfl
        rotate_left
        · simp only [Act.put, List.setIfInBounds_toArray, List.set_cons_zero, List.set_cons_succ, i64_w, i32_w]; rfl
        refine pure_ (i := 17) (N := some 98) (v := ?_) (a' := ?_) #[true, true, true, true, true, true, true, true, true, true, true, true, true, true, true, true, true, true, false, false, false, false, false] rfl rfl (any_of HT_.out (by kernel_rfl)) (fun _ _ _ h => h) (Or.inl ⟨by rfl, ?_⟩) ?_ ?_
        rotate_left
        · intro w'; go_simp; with_reducible rfl
        rotate_left
        · simp only [Act.put, List.setIfInBounds_toArray, List.set_cons_zero, List.set_cons_succ, i64_w, i32_w]; rfl
        refine pure_ (i := 18) (N := some 99) (v := ?_) (a' := ?_) #[true, true, true, true, true, true, true, true, true, true, true, true, true, true, true, true, true, true, true, false, false, false, false] rfl rfl (any_of HT_.out (by kernel_rfl)) (fun _ _ _ h => h) (Or.inl ⟨by rfl, ?_⟩) ?_ ?_
        rotate_left
        · intro w'; go_simp; with_reducible rfl
        rotate_left
        · simp only [Act.put, List.setIfInBounds_toArray, List.set_cons_zero, List.set_cons_succ, i64_w, i32_w]; rfl
        refine pure_ (i := 19) (N := some 100) (v := ?_) (a' := ?_) #[true, true, true, true, true, true, true, true, true, true, true, true, true, true, true, true, true, true, true, true, false, false, false] rfl rfl (any_of HT_.out (by kernel_rfl)) (fun _ _ _ h => h) (Or.inl ⟨by rfl, ?_⟩) ?_ ?_
        rotate_left
        · intro w'; go_simp; with_reducible rfl
        rotate_left
        · simp only [Act.put, List.setIfInBounds_toArray, List.set_cons_zero, List.set_cons_succ, i64_w, i32_w]; rfl
        refine pure_ (i := 20) (N := some 101) (v := ?_) (a' := ?_) #[true, true, true, true, true, true, true, true, true, true, true, true, true, true, true, true, true, true, true, true, true, false, false] rfl rfl (any_of HT_.out (by kernel_rfl)) (fun _ _ _ h => h) (Or.inl ⟨by rfl, ?_⟩) ?_ ?_
        rotate_left
        · intro w'; go_simp; with_reducible rfl
        rotate_left
        · simp only [Act.put, List.setIfInBounds_toArray, List.set_cons_zero, List.set_cons_succ, i64_w, i32_w]; rfl
        refine pure_ (i := 21) (N := some 102) (v := ?_) (a' := ?_) #[true, true, true, true, true, true, true, true, true, true, true, true, true, true, true, true, true, true, true, true, true, true, false] rfl rfl (any_of HT_.out (by kernel_rfl)) (fun _ _ _ h => h) (Or.inl ⟨by rfl, ?_⟩) ?_ ?_
        rotate_left
        · intro w'; go_simp; with_reducible rfl
        rotate_left
        · simp only [Act.put, List.setIfInBounds_toArray, List.set_cons_zero, List.set_cons_succ, i64_w, i32_w]; rfl
        refine pure_ (i := 22) (N := some 2) (v := ?_) (a' := ?_) #[true, true, true, true, true, true, true, true, true, true, true, true, true, true, true, true, true, true, true, true, true, true, true] rfl rfl (any_of HT_.out (by kernel_rfl)) (fun _ _ _ h => h) (Or.inl ⟨by rfl, ?_⟩) ?_ ?_
        rotate_left
        · intro w'; go_simp; with_reducible rfl
        rotate_left
        · simp only [Act.put, List.setIfInBounds_toArray, List.set_cons_zero, List.set_cons_succ, i64_w, i32_w]; rfl
        refine done_ (done_of HT_.out (by kernel_rfl)) ?_
        go_wp2
        go_ret
        exact ⟨rfl, HXb.out.below⟩
end Go.Proofs.Ytckempgpaojljaa.P
end
section
/- Bounds of bytes out of a reading. -/
namespace Go.Proofs.Ytckempgpaojljaa.P
set_option linter.unusedVariables false
set_option linter.unusedSimpArgs false
open Go.RowKit Go.Proofs.YtckempgpaojljaaW.PrintWords Go.Proofs.YtckempgpaojljaaW.PrintLast Go.Proofs.YtckempgpaojljaaW.PrintMore
instance : Inhabited S50 := ⟨z50⟩
instance : Inhabited S43 := ⟨z43⟩
theorem u8_bd {n : Int} (h : (Lit.int .u8 n).wf = true) : 0 ≤ n ∧ n ≤ 255 := by
  simp [Lit.wf, IntKind.min, IntKind.max, IntKind.signed, IntKind.bits] at h
  omega
theorem u16_bd {n : Int} (h : (Lit.int .u16 n).wf = true) : 0 ≤ n ∧ n ≤ 65535 := by
  simp [Lit.wf, IntKind.min, IntKind.max, IntKind.signed, IntKind.bits] at h
  omega
theorem i64_bd {n : Int} (h : (Lit.int .i64 n).wf = true) : -9223372036854775808 ≤ n ∧ n ≤ 9223372036854775807 := by
  simp [Lit.wf, IntKind.min, IntKind.max, IntKind.signed, IntKind.bits] at h
  omega
theorem bytes2_of {l : List S50} (h : ∀ p ∈ l, (Lit.int .u8 p.f0).wf = true ∧ (Lit.int .u8 p.f1).wf = true) : bytes2 l := fun p hp => by
  have := h p hp
  have a := u8_bd this.1
  have b := u8_bd this.2
  omega
end Go.Proofs.Ytckempgpaojljaa.P
end
section
/- The row of the law CostFew, out of its walk. -/
namespace Go.Proofs.Ytckempgpaojljaa.costFew
open Go.ChangeShapes Go.WideShapes Go.ChangeAt Go.RowKit Go.Proofs.YtckempgpaojljaaW.PrintWords Go.Proofs.Ytckempgpaojljaa.P
open Go.ChangeMaps (open_string shut_string)
set_option linter.unusedVariables false
theorem own : ownKnob Try.prog.godebug = none := by kernel_rfl
theorem laidOut : laidOutB Try.prog = true := by kernel_rfl
set_option maxRecDepth 100000 in
theorem lifted (os : Os) (started : os.Started) (H : Type) (enc : TypeId × Value → H) :
    ReturnsInHanded {} Try.checked os 4 .any (Rows.costFewSpec.pre6 enc Try.prog Try.f4 Rows.costFewRow.domain false) (Rows.costFewSpec.post enc Try.prog Try.f4 false true false false) := by
  refine returnsInHanded_of_change_sized (C := Try.checked) own started (by kernel_rfl) Try.func4
    (ChangeSpec.witness6 (enc := enc) (C := Try.checked) false ⟨#[], #[.slice none 0 0], []⟩ 8 (by kernel_rfl) (by kernel_rfl) (by kernel_rfl) (by kernel_rfl)) ?_
  intro W base args ds gs before hval0 hW hcnd hsz0 _
  have hval : ∀ (j : Nat) t v, Try.f4.params[j]? = some t → args[j]? = some v → Value.okWide Try.prog W .any base t v := hval0
  have hW' := hW
  obtain ⟨p, q, hA0, hV, rfl, hfz, hnd⟩ := hW
  have hA : DataW.TrodAll enc Try.prog W 0 (fun _ => true) true Try.f4.params.toList args.toList ds p := hA0
  rw [Try.params4] at hA hval
  obtain ⟨v0, vs0, d0, ds0, p0, q0, hargs, rfl, rfl, h0, r0⟩ := trodAll_cons hA
  obtain ⟨rfl, rfl, rfl⟩ := trodAll_nil r0
  obtain rfl : args = #[v0] := by cases args; simp_all
  obtain ⟨rfl, rfl⟩ := trodVars_none hV
  have k0 := h0
  have lt0 : ∀ x ∈ p0, x.block < W.heap.size := by obtain ⟨m, hm⟩ := k0; exact DataW.trod_lt m _ _ _ hm
  obtain ⟨a0, len0, cap0, rfl⟩ := okWide_slice Try.underlying22 (hval 0 22 v0 rfl rfl)
  obtain ⟨l0, ⟨A0, c0, e0, L0, C0⟩, O0⟩ := open_at (opens_slice (d := k50) (α := S50) Try.underlying22 (opens_iso (fun x : S50 => (x.f0, x.f1)) (fun p => ⟨p.1, p.2⟩) (fun _ => rfl) (opens_arr2 Try.underlying50 (opens_int Try.underlying5) (by kernel_rfl) (by kernel_rfl))) (by kernel_rfl)) h0
  have e0_ : (Value.slice a0 len0 cap0) = .slice A0 l0.length c0 := List.head_eq_of_cons_eq e0
  injection e0_ with e0A e0L e0C
  subst e0A e0L e0C
  clear hA0 hval0 hsz0
  refine (few4 a0 cap0 l0 W C0 L0 (bytes2_of O0.1)).mono fun e W' ⟨he, bel⟩ => ?_
  subst he
  exact ⟨_, rfl, _, _, _, [], _, [], hW', trodAll_mk1 (shut_bool Try.underlying4 _), (trodAll_cons_mk (Below.trod laidOut (by kernel_rfl) (of_decide_eq_true (by kernel_rfl)) k0 bel lt0) trodAll_mk0), rfl, bel.frame _, fun h => by cases h⟩
theorem over : Rows.costFewRow.holds Try.pinned (OpenSpec.ofChange Rows.costFewSpec) :=
  OpenClaim.holds_of_wide 4 Try.f4 rfl rfl rfl rfl rfl rfl rfl ⟨rfl, rfl, rfl, rfl, rfl⟩ rfl rfl rfl rfl rfl (by kernel_rfl) Try.func4 (by kernel_rfl)
    (of_decide_eq_true (by kernel_rfl)) (by unfold Func.isWrapper; first | (rw [if_pos (by decide +kernel)]; kernel_rfl) | (rw [if_neg (by decide +kernel)]; exact ⟨rfl, rfl⟩))
    (fun os started H enc _ => lifted os started H enc)
theorem proved : Rows.CostFewSaid := over
end Go.Proofs.Ytckempgpaojljaa.costFew
namespace Go.Proofs.Ytckempgpaojljaa
/-- The row, under a short name, for the claim. -/
theorem costFew_holds : Rows.CostFewSaid := costFew.proved
end Go.Proofs.Ytckempgpaojljaa
end
