/- The row of the law CostWorth, out of its walk. -/
import Derived.Test.YtckempgpaojljaaMw8
import Derived.Test.YtckempgpaojljaaMw1
import Derived.Test.YtckempgpaojljaaMw7
import Derived.Test.YtckempgpaojljaaRows
import Derived.WalkKit
import Derived.ProofKit
import Derived.OpenShut
import Derived.ShutString
import Derived.ChangeOld
import Derived.Below
import Derived.SizedLaws
section
/- The walk of the law CostWorth. -/
namespace Go.Proofs.Ytckempgpaojljaa.P
set_option linter.unusedVariables false
set_option linter.unusedSimpArgs false
open Go.RowKit Go.Proofs.YtckempgpaojljaaW.PrintWords Go.Proofs.YtckempgpaojljaaW.PrintLast Go.Proofs.YtckempgpaojljaaW.PrintMore
attribute [local go_sem] Oper.semAt_some max_two min_two
def worth7.T16 : Bool × List (List Nat × List Nat) := (true, [([], []), ([0], [0]), ([1], [1]), ([2, 1], [1, 2]), ([1], [1]), ([3, 4, 1], [1, 3, 4]), ([5, 1], [1, 5]), ([6, 1], [1, 6]), ([1], [1]), ([8, 1], [1, 8]), ([1], [1]), ([9, 10, 1], [1, 9, 10]), ([11, 1], [1, 11]), ([12, 1], [1, 12]), ([7, 13, 1, 1], [1, 7, 13]), ([1, 14], [1, 14]), ([15, 14, 0, 1, 2, 3, 4, 5, 6, 7, 8, 9, 10, 11, 12, 13, 14, 15], [0, 15])])
def worth7.B16 : List Nat := [0, 1, 3, 7, 3, 31, 63, 127, 3, 259, 3, 1795, 3843, 7939, 16383, 32767, 65535]
theorem worth7.tab16 : rtab .any (opsOf Try.f7 16) = worth7.T16 := by kernel_rfl
theorem worth7.bits16 : waitsOk worth7.T16.2 worth7.B16 = true := by kernel_rfl

/-- What holds behind the three calls. -/
structure WorI (w : World) (b9 b10 : Nat) (AF : Option Addr) (cF : Nat) (BF : Option Addr) (dF : Nat) (AM : Option Addr) (cM : Nat) (BM : Option Addr) (dM : Nat) (Am : Option Addr) (cm : Nat) (l : List S43) (fG mG : List (List Int)) (W : World) : Prop where
  below : Below w.heap.size w W
  bxF : W.heap[b9]? = some (.cells #[.slice AF fG.length cF, .slice BF 0 dF, .int .i64 0, .int .i64 0] 36 (0, 0))
  bxM : W.heap[b10]? = some (.cells #[.slice AM mG.length cM, .slice BM 0 dM, .int .i64 0, .int .i64 0] 36 (0, 0))
  rF : RR W w.heap.size (fun _ => True) (.slice AF fG.length cF) fG
  rM : RR W w.heap.size (fun _ => True) (.slice AM mG.length cM) mG
  rl : Kd.R k43 43 W w.heap.size (fun _ => True) (.slice Am l.length cm) l
theorem WorI.step {w : World} {b9 b10 : Nat} {AF : Option Addr} {cF : Nat} {BF : Option Addr} {dF : Nat} {AM : Option Addr} {cM : Nat} {BM : Option Addr} {dM : Nat} {Am : Option Addr} {cm : Nat} {l : List S43} {fG mG : List (List Int)} {W W' : World} (h : WorI w b9 b10 AF cF BF dF AM cM BM dM Am cm l fG mG W) (hb : Below W.heap.size W W') : WorI w b9 b10 AF cF BF dF AM cM BM dM Am cm l fG mG W' :=
  ⟨h.below.trans (hb.mono h.below.size), (hb.block _ (hq_lt h.bxF)).trans h.bxF, (hb.block _ (hq_lt h.bxM)).trans h.bxM, Kd.R_below h.rF hb, Kd.R_below h.rM hb, Kd.R_below h.rl hb⟩

theorem litC1 (W : World) {A0 : Option Addr} {c0 : Nat} {g : List Int} (hl : g.length ≤ c0) (hC : Kd.C (Kd.int .i64) W A0 g.length g) : Kd.C (Kd.slice 3 (Kd.int .i64)) (W.alloc (.cells #[.slice A0 g.length c0] 26)) (some ⟨W.heap.size, 0, none⟩) 1 [g] := by
  refine ⟨rfl, by decide, fun _ => ⟨_, rfl, fun j p hp => ?_⟩⟩
  match j, hp with
  | 0, hp =>
    cases hp
    refine ⟨[.slice A0 g.length c0], rfl, ⟨A0, c0, rfl, hl, Kd.C_alloc hC _⟩, fun i u hu => ?_⟩
    match i, hu with
    | 0, hu =>
      cases hu
      exact hq_cell (heap_alloc_new W (.cells #[.slice A0 g.length c0] 26 (0, 0))) 0 _ rfl
theorem mem_take_succ (g : List Int) (mG : List (List Int)) (j : Nat) (h : List Int) (hj : mG[j]? = some h) : decide (g ∈ mG.take (j + 1)) = (decide (g ∈ mG.take j) || decide (g = h)) := by
  rw [List.take_add_one, hj, ← Bool.decide_or]
  exact decide_eq_decide.2 (by simp)

set_option maxHeartbeats 4000000 in
set_option maxRecDepth 100000 in
theorem worth7 (A : Option Addr) (c : Nat) (x : List S50) (n m : Int) (w : World) (hr : Kd.C k50 w A x.length x) (hc : x.length ≤ c) (hb : bytes2 x) (hn : 0 ≤ n ∧ n ≤ 65535) (hm : 0 ≤ m ∧ m ≤ 65535) :
    Calls Try.prog 7 #[.slice A x.length c, .int .u16 n, .int .u16 m] w fun e w' => e = .returned (.bool true) ∧ Below w.heap.size w w' := by
  have HR := Aside0.mk hr
  have HBY := Aside0.mk hb
  have HV := Aside0.mk (made_valid hb)
  have hml := madeL_len x
  obtain ⟨a, ha⟩ : ∃ a, a = if m < n then m else n := ⟨_, rfl⟩
  obtain ⟨b, hb2⟩ : ∃ b, b = if n < m then m else n := ⟨_, rfl⟩
  have hmin : Builtin.min2 (.int .u16 n) (.int .u16 m) = pure (.int .u16 a) := by rw [min2_int, ha]
  have hmax : Builtin.max2 (.int .u16 n) (.int .u16 m) = pure (.int .u16 b) := by rw [max2_int, hb2]
  have hab : 0 ≤ a ∧ a ≤ b ∧ b ≤ 65535 := by rw [ha, hb2]; split <;> split <;> omega
  obtain ⟨a0, ab, b1⟩ := hab
  clear ha hb2 hn hm
  clear hr hb
  go_enter Try.func7, Try.ntmps7
  go_wp2_with (fail)
  refine (examples9 w).mono ?_
  rintro e w1 ⟨rfl, hb⟩
  have HB1 := Aside0.mk hb
  clear hb
  go_wp2_with (fail)
  refine (made10 A c x w1 (Kd.C_below HR.out HB1.out) hc HBY.out).mono ?_
  rintro e w2 ⟨v, rfl, hM, hb⟩
  have HB2 := Aside0.mk (below_step HB1.out hb)
  have HM := Aside0.mk (Kd.R_lower hM HB1.out.size)
  obtain ⟨Am, cm, e, hcm, _⟩ := Kd.R_reads hM
  subst e
  clear hM hb HB1
  generalize madeL x = l at *
  go_wp2_with (fail)
  obtain ⟨k1, hk1⟩ := worthR_ok HV.out hml a0 (Int.le_trans ab b1)
  refine (chapmanlaw36_worth.calls k1 Am cm l a _ _ _ _ w2 (Kd.R_reads' HM.out).2.2 hcm hk1).mono ?_
  rintro e w3 ⟨v1, v2, rfl, hG, hL, hb⟩
  have HB3 := Aside0.mk (HB2.out.trans (hb.mono HB2.out.size))
  have HM3 := Aside0.mk (Kd.R_below HM.out hb)
  have HF := Aside0.mk (Kd.R_lower hG HB2.out.size)
  obtain ⟨AF, cF, e, hcF, _⟩ := Kd.R_reads hG
  subst e
  obtain ⟨BF, dF, e, _⟩ := Kd.R_reads hL
  subst e
  clear hG hL hb hk1 HB2 HM
  go_wp2_with (fail)
  obtain ⟨k1, hk1⟩ := worthR_ok HV.out hml (Int.le_trans a0 ab) b1
  refine (chapmanlaw36_worth.calls k1 Am cm l b _ _ _ _ w3 (Kd.R_reads' HM3.out).2.2 hcm hk1).mono ?_
  rintro e w4 ⟨v1, v2, rfl, hG, hL, hb⟩
  have HB4 := Aside0.mk (HB3.out.trans (hb.mono HB3.out.size))
  have HM4 := Aside0.mk (Kd.R_below HM3.out hb)
  have HF4 := Aside0.mk (Kd.R_below HF.out hb)
  have HMM := Aside0.mk (Kd.R_lower hG HB3.out.size)
  obtain ⟨AM, cM, e, hcM, _⟩ := Kd.R_reads hG
  subst e
  obtain ⟨BM, dM, e, _⟩ := Kd.R_reads hL
  subst e
  clear hG hL hb hk1 HB3 HM3 HF
  go_wp2_with (fail)
  obtain ⟨k1, hk1⟩ := worthR_ok HV.out hml (a := 0) (by decide) (by decide)
  rw [worth_none HV.out] at hk1
  refine (chapmanlaw36_worth.calls k1 Am cm l 0 _ _ _ _ w4 (Kd.R_reads' HM4.out).2.2 hcm hk1).mono ?_
  rintro e w5 ⟨v1, v2, rfl, hG, hL, hb⟩
  have HB5 := Aside0.mk (HB4.out.trans (hb.mono HB4.out.size))
  have HM5 := Aside0.mk (Kd.R_below HM4.out hb)
  have HF5 := Aside0.mk (Kd.R_below HF4.out hb)
  have HMM5 := Aside0.mk (Kd.R_below HMM.out hb)
  obtain ⟨AN, cN, e, _⟩ := Kd.R_reads hG
  subst e
  obtain ⟨BN, dN, e, _⟩ := Kd.R_reads hL
  subst e
  clear hG hL hb hk1 HB4 HM4 HF4 HMM
  have HOK := Aside0.mk (worth_ok HV.out hml a0 ab b1)
  generalize worthL (pcs l) a = fG at *
  generalize worthL (pcs l) b = mG at *
  go_wp2
  have hw3 := two_new w5 (.cells #[.slice AF fG.length cF, .slice BF 0 dF, .int .i64 0, .int .i64 0] 36 (0, 0)) (.cells #[.slice AM mG.length cM, .slice BM 0 dM, .int .i64 0, .int .i64 0] 36 (0, 0))
  have hx : WorI w w5.heap.size (w5.heap.size + 1) AF cF BF dF AM cM BM dM Am cm l fG mG (((w5.alloc (.cells #[.slice AF fG.length cF, .slice BF 0 dF, .int .i64 0, .int .i64 0] 36)).alloc (.cells #[.slice AM mG.length cM, .slice BM 0 dM, .int .i64 0, .int .i64 0] 36)).alloc (.cells #[.slice AN 0 cN, .slice BN 0 dN, .int .i64 0, .int .i64 0] 36)) :=
    ⟨below_alloc (below_alloc (below_alloc HB5.out _) _) _, (heap_alloc_old _ _ (by rw [hw3.2.2]; omega)).trans hw3.1, (heap_alloc_old _ _ (by rw [hw3.2.2]; omega)).trans hw3.2.1, Kd.R_alloc (Kd.R_alloc (Kd.R_alloc HF5.out _) _) _, Kd.R_alloc (Kd.R_alloc (Kd.R_alloc HMM5.out _) _) _, Kd.R_alloc (Kd.R_alloc (Kd.R_alloc HM5.out _) _) _⟩
  have HX := Aside0.mk hx
  clear hx hw3 HB5 HF5 HMM5 HM5
  have hfn := HOK.out.fnum
  have hmn := HOK.out.mnum
  go_loopw [14, 12, 13] (fun v14 v12 v13 w' => ∃ (k : Nat) (sv pd : Int), k ≤ fG.length ∧ v14 = .int .i64 k ∧ v12 = .int .i64 sv ∧ v13 = .int .i64 pd ∧ 0 ≤ pd ∧ pd ≤ 2000000000000 * k ∧ 0 ≤ sv ∧ sv ≤ 20000000000 * k ∧ pd + k ≤ sv ∧ Aside0 (WorI w w5.heap.size (w5.heap.size + 1) AF cF BF dF AM cM BM dM Am cm l fG mG w')) (fun v14 _ _ _ => fG.length - (intOf v14).toNat)
  case atStart => exact ⟨0, 0, 0, by omega, rfl, rfl, rfl, by omega, by omega, by omega, by omega, by omega, HX⟩
  case round =>
    clear HX
    obtain ⟨k, sv, pd, hk, rfl, rfl, rfl, pd0, pd1, sv0, sv1, hps, HX⟩ := hrel
    have hcF0 := hq_cell HX.out.bxF 0 _ rfl
    simp only [List.getElem_toArray, List.getElem_cons_zero, List.getElem_cons_succ] at hcF0
    by_cases hlt : k < fG.length
    · obtain ⟨g, hg⟩ : ∃ g, fG[k]? = some g := ⟨_, List.getElem?_eq_getElem hlt⟩
      obtain ⟨adF, A0, c0, rfl, hcg, hgc, hgC⟩ := rr_read (Kd.R_reads' HX.out.rF).2.2 k hlt hg
      have hgm := List.mem_of_getElem? hg
      have HGM := Aside0.mk hgm
      obtain ⟨hg1, hg2, hg3⟩ := HOK.out.grp g hgm
      have HGC := Aside0.mk hgC
      have HG1 := Aside0.mk hg1
      clear hg hgm hgC hg1
      have HB0 : Aside0 (Below wr.heap.size wr wr) := ⟨Below.refl _ _⟩
      obtain ⟨wo, hwo⟩ : ∃ wo, wo = wr := ⟨_, rfl⟩
      rw [← hwo] at HB0 hcg HGC
      have HX0 := HX
      have HCG := Aside0.mk hcg
      go_wp2
      go_loopw [16, 15] (fun v16 v15 w' => ∃ (j : Nat) (fd : Bool), j ≤ mG.length ∧ v16 = .int .i64 j ∧ v15 = .bool fd ∧ Aside0 (fd = decide (g ∈ mG.take j)) ∧ Aside0 (Below wo.heap.size wo w') ∧ Aside0 (WorI w w5.heap.size (w5.heap.size + 1) (some adF) cF BF dF AM cM BM dM Am cm l fG mG w')) (fun v16 _ _ => mG.length - (intOf v16).toNat)
      case atStart => exact ⟨0, false, by omega, rfl, rfl, ⟨by simp⟩, by rw [hwo]; exact ⟨Below.refl _ _⟩, HX0⟩
      case round =>
        clear HX HX0 HB0 hcF0 hcg hwo
        obtain ⟨j, fd, hj, rfl, rfl, HFD, HBO, HX⟩ := hrel
        have hcM0 := hq_cell HX.out.bxM 0 _ rfl
        simp only [List.getElem_toArray, List.getElem_cons_zero, List.getElem_cons_succ] at hcM0
        by_cases hlt2 : j < mG.length
        · obtain ⟨h, hh⟩ : ∃ h, mG[j]? = some h := ⟨_, List.getElem?_eq_getElem hlt2⟩
          have HFN := Aside0.mk (mem_take_succ g mG j h hh)
          cases fd with
          | true =>
            go_wp2
            refine start_ (n := 17) (S := fun w' => True) (ds := []) #[false, false, false, false, false, false, false, false, false, false, false, false, false, false, false, false, false] (by kernel_rfl) rfl rfl trivial (fun hHeld => ?_); refine with_tabW worth7.tab16 worth7.bits16 (fun HT_ HW_ => ?_)
            refine pure_ (i := 0) (N := some 70) (v := ?_) (a' := ?_) #[true, false, false, false, false, false, false, false, false, false, false, false, false, false, false, false, false] rfl rfl (any_of HT_.out (by kernel_rfl)) (fun _ _ _ h => h) (Or.inl ⟨by rfl, ?_⟩) ?_ ?_
            rotate_left
            · intro w'; go_simp; with_reducible rfl
            rotate_left
            · simp only [Act.put, List.setIfInBounds_toArray, List.set_cons_zero, List.set_cons_succ, i64_w, i32_w]; rfl
            refine pure_ (i := 1) (N := some 71) (v := ?_) (a' := ?_) #[true, true, false, false, false, false, false, false, false, false, false, false, false, false, false, false, false] rfl rfl (any_of HT_.out (by kernel_rfl)) (fun _ _ _ h => h) (Or.inl ⟨by rfl, ?_⟩) ?_ ?_
            rotate_left
            · intro w'; go_simp; with_reducible rfl
            rotate_left
            · simp only [Act.put, List.setIfInBounds_toArray, List.set_cons_zero, List.set_cons_succ, i64_w, i32_w]; rfl
            refine pure_ (i := 2) (N := some 72) (v := undef) (a' := ?_) #[true, true, true, false, false, false, false, false, false, false, false, false, false, false, false, false, false] rfl rfl (any_of HT_.out (by kernel_rfl)) (fun _ _ _ h => h) (Or.inr ⟨by rfl, rfl⟩) ?_ ?_
            rotate_left
            · simp only [Act.put, List.setIfInBounds_toArray, List.set_cons_zero, List.set_cons_succ, i64_w, i32_w]; rfl
            refine pure_ (i := 3) (N := some 73) (v := undef) (a' := ?_) #[true, true, true, true, false, false, false, false, false, false, false, false, false, false, false, false, false] rfl rfl (any_of HT_.out (by kernel_rfl)) (fun _ _ _ h => h) (Or.inr ⟨by rfl, rfl⟩) ?_ ?_
            rotate_left
            · simp only [Act.put, List.setIfInBounds_toArray, List.set_cons_zero, List.set_cons_succ, i64_w, i32_w]; rfl
            refine pure_ (i := 4) (N := some 74) (v := undef) (a' := ?_) #[true, true, true, true, true, false, false, false, false, false, false, false, false, false, false, false, false] rfl rfl (any_of HT_.out (by kernel_rfl)) (fun _ _ _ h => h) (Or.inr ⟨by rfl, rfl⟩) ?_ ?_
            rotate_left
            · simp only [Act.put, List.setIfInBounds_toArray, List.set_cons_zero, List.set_cons_succ, i64_w, i32_w]; rfl
            refine pure_ (i := 5) (N := some 75) (v := undef) (a' := ?_) #[true, true, true, true, true, true, false, false, false, false, false, false, false, false, false, false, false] rfl rfl (any_of HT_.out (by kernel_rfl)) (fun _ _ _ h => h) (Or.inr ⟨by rfl, rfl⟩) ?_ ?_
            rotate_left
            · simp only [Act.put, List.setIfInBounds_toArray, List.set_cons_zero, List.set_cons_succ, i64_w, i32_w]; rfl
            refine pure_ (i := 6) (N := some 76) (v := undef) (a' := ?_) #[true, true, true, true, true, true, true, false, false, false, false, false, false, false, false, false, false] rfl rfl (any_of HT_.out (by kernel_rfl)) (fun _ _ _ h => h) (Or.inr ⟨by rfl, rfl⟩) ?_ ?_
            rotate_left
            · simp only [Act.put, List.setIfInBounds_toArray, List.set_cons_zero, List.set_cons_succ, i64_w, i32_w]; rfl
            refine pure_ (i := 7) (N := some 77) (v := undef) (a' := ?_) #[true, true, true, true, true, true, true, true, false, false, false, false, false, false, false, false, false] rfl rfl (any_of HT_.out (by kernel_rfl)) (fun _ _ _ h => h) (Or.inr ⟨by rfl, rfl⟩) ?_ ?_
            rotate_left
            · simp only [Act.put, List.setIfInBounds_toArray, List.set_cons_zero, List.set_cons_succ, i64_w, i32_w]; rfl
            refine pure_ (i := 8) (N := some 78) (v := undef) (a' := ?_) #[true, true, true, true, true, true, true, true, true, false, false, false, false, false, false, false, false] rfl rfl (any_of HT_.out (by kernel_rfl)) (fun _ _ _ h => h) (Or.inr ⟨by rfl, rfl⟩) ?_ ?_
            rotate_left
            · simp only [Act.put, List.setIfInBounds_toArray, List.set_cons_zero, List.set_cons_succ, i64_w, i32_w]; rfl
            refine pure_ (i := 9) (N := some 79) (v := undef) (a' := ?_) #[true, true, true, true, true, true, true, true, true, true, false, false, false, false, false, false, false] rfl rfl (any_of HT_.out (by kernel_rfl)) (fun _ _ _ h => h) (Or.inr ⟨by rfl, rfl⟩) ?_ ?_
            rotate_left
            · simp only [Act.put, List.setIfInBounds_toArray, List.set_cons_zero, List.set_cons_succ, i64_w, i32_w]; rfl
            refine pure_ (i := 10) (N := some 80) (v := undef) (a' := ?_) #[true, true, true, true, true, true, true, true, true, true, true, false, false, false, false, false, false] rfl rfl (any_of HT_.out (by kernel_rfl)) (fun _ _ _ h => h) (Or.inr ⟨by rfl, rfl⟩) ?_ ?_
            rotate_left
            · simp only [Act.put, List.setIfInBounds_toArray, List.set_cons_zero, List.set_cons_succ, i64_w, i32_w]; rfl
            refine pure_ (i := 11) (N := some 81) (v := undef) (a' := ?_) #[true, true, true, true, true, true, true, true, true, true, true, true, false, false, false, false, false] rfl rfl (any_of HT_.out (by kernel_rfl)) (fun _ _ _ h => h) (Or.inr ⟨by rfl, rfl⟩) ?_ ?_
            rotate_left
            · simp only [Act.put, List.setIfInBounds_toArray, List.set_cons_zero, List.set_cons_succ, i64_w, i32_w]; rfl
            refine pure_ (i := 12) (N := some 82) (v := undef) (a' := ?_) #[true, true, true, true, true, true, true, true, true, true, true, true, true, false, false, false, false] rfl rfl (any_of HT_.out (by kernel_rfl)) (fun _ _ _ h => h) (Or.inr ⟨by rfl, rfl⟩) ?_ ?_
            rotate_left
            · simp only [Act.put, List.setIfInBounds_toArray, List.set_cons_zero, List.set_cons_succ, i64_w, i32_w]; rfl
            refine pure_ (i := 13) (N := some 83) (v := undef) (a' := ?_) #[true, true, true, true, true, true, true, true, true, true, true, true, true, true, false, false, false] rfl rfl (any_of HT_.out (by kernel_rfl)) (fun _ _ _ h => h) (Or.inr ⟨by rfl, rfl⟩) ?_ ?_
            rotate_left
            · simp only [Act.put, List.setIfInBounds_toArray, List.set_cons_zero, List.set_cons_succ, i64_w, i32_w]; rfl
            refine pure_ (i := 14) (N := some 84) (v := undef) (a' := ?_) #[true, true, true, true, true, true, true, true, true, true, true, true, true, true, true, false, false] rfl rfl (any_of HT_.out (by kernel_rfl)) (fun _ _ _ h => h) (Or.inr ⟨by rfl, rfl⟩) ?_ ?_
            rotate_left
            · simp only [Act.put, List.setIfInBounds_toArray, List.set_cons_zero, List.set_cons_succ, i64_w, i32_w]; rfl
            refine pure_ (i := 15) (N := some 85) (v := ?_) (a' := ?_) #[true, true, true, true, true, true, true, true, true, true, true, true, true, true, true, true, false] rfl rfl (any_of HT_.out (by kernel_rfl)) (fun _ _ _ h => h) (Or.inl ⟨by rfl, ?_⟩) ?_ ?_
            rotate_left
            · intro w'; go_simp; with_reducible rfl
            rotate_left
            · simp only [Act.put, List.setIfInBounds_toArray, List.set_cons_zero, List.set_cons_succ, i64_w, i32_w]; rfl
            refine pure_ (i := 16) (N := some 15) (v := ?_) (a' := ?_) #[true, true, true, true, true, true, true, true, true, true, true, true, true, true, true, true, true] rfl rfl (any_of HT_.out (by kernel_rfl)) (fun _ _ _ h => h) (Or.inl ⟨by rfl, ?_⟩) ?_ ?_
            rotate_left
            · intro w'; go_simp; with_reducible rfl
            rotate_left
            · simp only [Act.put, List.setIfInBounds_toArray, List.set_cons_zero, List.set_cons_succ, i64_w, i32_w]; rfl
            refine done_ (done_of HT_.out (by kernel_rfl)) ?_
            have HX2 := Aside0.mk (HX.out.step (Below.refl _ _).drew)
            have HBO2 := Aside0.mk (HBO.out.trans (Below.refl _ _).drew)
            have HFD2 : Aside0 (true = decide (g ∈ mG.take (j + 1))) := ⟨by rw [HFN.out, ← HFD.out]; rfl⟩
            clear hcM0 hHeld HT_ HW_
            go_wp2
            go_roundw
            case rel => exact ⟨j + 1, true, by omega, by go_num, rfl, HFD2, HBO2, HX2⟩
            case measure => simp [intOf]; omega
          | false =>
            obtain ⟨adM, A1, c1, rfl, hch, hhc, hhC⟩ := rr_read (Kd.R_reads' HX.out.rM).2.2 j hlt2 hh
            have hcF0 := hq_cell HX.out.bxF 0 _ rfl
            simp only [List.getElem_toArray, List.getElem_cons_zero, List.getElem_cons_succ] at hcF0
            have hcg := (HBO.out.cell (World.block_lt_of_cell? wo _ HCG.out)).trans HCG.out
            have HS := Aside0.mk (show wr.cell? ⟨w5.heap.size, 0, none⟩ = some (.slice (some adF) fG.length cF) ∧ wr.cell? ⟨w5.heap.size + 1, 0, none⟩ = some (.slice (some adM) mG.length cM) ∧ wr.cell? (adF.add k) = some (.slice A0 g.length c0) ∧ wr.cell? (adM.add j) = some (.slice A1 h.length c1) from ⟨hcF0, hcM0, hcg, hch⟩)
            have HSB : Aside0 (∀ W', Below wr.heap.size wr W' → W'.cell? ⟨w5.heap.size, 0, none⟩ = some (.slice (some adF) fG.length cF) ∧ W'.cell? ⟨w5.heap.size + 1, 0, none⟩ = some (.slice (some adM) mG.length cM) ∧ W'.cell? (adF.add k) = some (.slice A0 g.length c0) ∧ W'.cell? (adM.add j) = some (.slice A1 h.length c1)) :=
              ⟨fun W' hb => ⟨(hb.cell (World.block_lt_of_cell? wr _ hcF0)).trans hcF0, (hb.cell (World.block_lt_of_cell? wr _ hcM0)).trans hcM0, (hb.cell (World.block_lt_of_cell? wr _ hcg)).trans hcg, (hb.cell (World.block_lt_of_cell? wr _ hch)).trans hch⟩⟩
            have HGC2 := Aside0.mk (Kd.C_below HGC.out HBO.out)
            have HHC := Aside0.mk hhC
            have HH := Aside0.mk hh
            have hg60 := HOK.out.len
            obtain ⟨ks, hks⟩ := same1_ev g h (by omega)
            have HKS := Aside0.mk hks
            clear hcF0 hcg hch hhC hh hks
            go_wp2
            clear hcM0
            refine start_ (n := 17) (S := fun w' => w'.cell? ⟨w5.heap.size, 0, none⟩ = some (.slice (some adF) fG.length cF) ∧ w'.cell? ⟨w5.heap.size + 1, 0, none⟩ = some (.slice (some adM) mG.length cM) ∧ w'.cell? (adF.add k) = some (.slice A0 g.length c0) ∧ w'.cell? (adM.add j) = some (.slice A1 h.length c1)) (ds := []) #[false, false, false, false, false, false, false, false, false, false, false, false, false, false, false, false, false] (by kernel_rfl) rfl rfl (HSB.out wr.drew (Below.refl _ _).drew) (fun hHeld => ?_); refine with_tabW worth7.tab16 worth7.bits16 (fun HT_ HW_ => ?_)
            refine pure_ (i := 0) (N := some 70) (v := ?_) (a' := ?_) #[true, false, false, false, false, false, false, false, false, false, false, false, false, false, false, false, false] rfl rfl (any_of HT_.out (by kernel_rfl)) (fun _ _ _ h => h) (Or.inl ⟨by rfl, ?_⟩) ?_ ?_
            rotate_left
            · intro w'; go_simp; with_reducible rfl
            rotate_left
            · simp only [Act.put, List.setIfInBounds_toArray, List.set_cons_zero, List.set_cons_succ, i64_w, i32_w]; rfl
            refine pure_ (i := 1) (N := some 71) (v := ?_) (a' := ?_) #[true, true, false, false, false, false, false, false, false, false, false, false, false, false, false, false, false] rfl rfl (any_of HT_.out (by kernel_rfl)) (fun _ _ _ h => h) (Or.inl ⟨by rfl, ?_⟩) ?_ ?_
            rotate_left
            · intro w'; go_simp; with_reducible rfl
            rotate_left
            · simp only [Act.put, List.setIfInBounds_toArray, List.set_cons_zero, List.set_cons_succ, i64_w, i32_w]; rfl
            refine pure_ (i := 2) (N := some 72) (v := ?_) (a' := ?_) #[true, true, true, false, false, false, false, false, false, false, false, false, false, false, false, false, false] rfl rfl (any_of HT_.out (by kernel_rfl)) (fun _ _ _ h => h) (Or.inl ⟨by rfl, ?_⟩) ?_ ?_
            rotate_left
            · intro w'; go_simp; with_reducible rfl
            rotate_left
            · simp only [Act.put, List.setIfInBounds_toArray, List.set_cons_zero, List.set_cons_succ, i64_w, i32_w]; rfl
            refine pure_ (i := 4) (N := some 74) (v := ?_) (a' := ?_) #[true, true, true, false, true, false, false, false, false, false, false, false, false, false, false, false, false] rfl rfl (any_of HT_.out (by kernel_rfl)) (fun _ _ _ h => h) (Or.inl ⟨by rfl, ?_⟩) ?_ ?_
            rotate_left
            · intro w'; go_simp; with_reducible rfl
            rotate_left
            · simp only [Act.put, List.setIfInBounds_toArray, List.set_cons_zero, List.set_cons_succ, i64_w, i32_w]; rfl
            refine pure_ (i := 8) (N := some 78) (v := ?_) (a' := ?_) #[true, true, true, false, true, false, false, false, true, false, false, false, false, false, false, false, false] rfl rfl (any_of HT_.out (by kernel_rfl)) (fun _ _ _ h => h) (Or.inl ⟨by rfl, ?_⟩) ?_ ?_
            rotate_left
            · intro w'; go_simp; with_reducible rfl
            rotate_left
            · simp only [Act.put, List.setIfInBounds_toArray, List.set_cons_zero, List.set_cons_succ, i64_w, i32_w]; rfl
            refine pure_ (i := 10) (N := some 80) (v := ?_) (a' := ?_) #[true, true, true, false, true, false, false, false, true, false, true, false, false, false, false, false, false] rfl rfl (any_of HT_.out (by kernel_rfl)) (fun _ _ _ h => h) (Or.inl ⟨by rfl, ?_⟩) ?_ ?_
            rotate_left
            · intro w'; go_simp; with_reducible rfl
            rotate_left
            · simp only [Act.put, List.setIfInBounds_toArray, List.set_cons_zero, List.set_cons_succ, i64_w, i32_w]; rfl
            refine take_ (i := 3) (N := some 73) (v := ?_) (a' := ?_) #[true, true, true, true, true, false, false, false, true, false, true, false, false, false, false, false, false] rfl rfl (take_ofW HT_.out HW_.out (by kernel_rfl)) (fun _ _ _ h => h) (Or.inl ⟨by rfl, ?_⟩) hHeld ?_ ?_
            rotate_left
            · rintro w' ⟨s0, s1, s2, s3⟩; go_simp; with_reducible rfl
            rotate_left
            · simp only [Act.put, List.setIfInBounds_toArray, List.set_cons_zero, List.set_cons_succ, i64_w, i32_w]; rfl
            refine pure_ (i := 5) (N := some 75) (v := ?_) (a' := ?_) #[true, true, true, true, true, true, false, false, true, false, true, false, false, false, false, false, false] rfl rfl (any_of HT_.out (by kernel_rfl)) (fun _ _ _ h => h) (Or.inl ⟨by rfl, ?_⟩) ?_ ?_
            rotate_left
            · intro w'; go_simp; with_reducible rfl
            rotate_left
            · simp only [Act.put, List.setIfInBounds_toArray, List.set_cons_zero, List.set_cons_succ, i64_w, i32_w]; rfl
            refine take_ (i := 6) (N := some 76) (v := ?_) (a' := ?_) #[true, true, true, true, true, true, true, false, true, false, true, false, false, false, false, false, false] rfl rfl (take_ofW HT_.out HW_.out (by kernel_rfl)) (fun _ _ _ h => h) (Or.inl ⟨by rfl, ?_⟩) hHeld ?_ ?_
            rotate_left
            · rintro w' ⟨s0, s1, s2, s3⟩; go_simp; with_reducible rfl
            rotate_left
            · simp only [Act.put, List.setIfInBounds_toArray, List.set_cons_zero, List.set_cons_succ, i64_w, i32_w]; rfl
            refine take_ (i := 9) (N := some 79) (v := ?_) (a' := ?_) #[true, true, true, true, true, true, true, false, true, true, true, false, false, false, false, false, false] rfl rfl (take_ofW HT_.out HW_.out (by kernel_rfl)) (fun _ _ _ h => h) (Or.inl ⟨by rfl, ?_⟩) hHeld ?_ ?_
            rotate_left
            · rintro w' ⟨s0, s1, s2, s3⟩; go_simp; with_reducible rfl
            rotate_left
            · simp only [Act.put, List.setIfInBounds_toArray, List.set_cons_zero, List.set_cons_succ, i64_w, i32_w]; rfl
            refine pure_ (i := 11) (N := some 81) (v := ?_) (a' := ?_) #[true, true, true, true, true, true, true, false, true, true, true, true, false, false, false, false, false] rfl rfl (any_of HT_.out (by kernel_rfl)) (fun _ _ _ h => h) (Or.inl ⟨by rfl, ?_⟩) ?_ ?_
            rotate_left
            · intro w'; go_simp; with_reducible rfl
            rotate_left
            · simp only [Act.put, List.setIfInBounds_toArray, List.set_cons_zero, List.set_cons_succ, i64_w, i32_w]; rfl
            refine take_ (i := 12) (N := some 82) (v := ?_) (a' := ?_) #[true, true, true, true, true, true, true, false, true, true, true, true, true, false, false, false, false] rfl rfl (take_ofW HT_.out HW_.out (by kernel_rfl)) (fun _ _ _ h => h) (Or.inl ⟨by rfl, ?_⟩) hHeld ?_ ?_
            rotate_left
            · rintro w' ⟨s0, s1, s2, s3⟩; go_simp; with_reducible rfl
            rotate_left
            · simp only [Act.put, List.setIfInBounds_toArray, List.set_cons_zero, List.set_cons_succ, i64_w, i32_w]; rfl
            refine two_ (i := 7) (j := 13) (Ni := some 77) (Nj := some 83) #[true, true, true, true, true, true, true, true, true, true, true, true, true, false, false, false, false] #[true, true, true, true, true, true, true, false, true, true, true, true, true, true, false, false, false] rfl rfl rfl rfl (two_of HT_.out (by kernel_rfl)) (by decide) (by decide) (fun K hK => ?_) (fun K hK => ?_)
            · refine value_ (v := .slice (some ⟨wr.heap.size, 0, none⟩) 1 1) (w1 := wr.drew.alloc (.cells #[.slice A0 g.length c0] 26)) (by rfl) rfl (by go_simp) ?_
              refine hK.out _ _ (HSB.out _ (below_alloc (Below.refl _ _).drew _)) (fun hHeld => ?_)
              clear hK K
              refine norm_ (a' := ?_) ?_ ?_
              rotate_left
              · show Act.put _ (some 77) _ = _; simp only [Act.put, List.setIfInBounds_toArray, List.set_cons_zero, List.set_cons_succ, i64_w, i32_w]; rfl
              refine one_ (i := 13) (N := some 83) #[true, true, true, true, true, true, true, true, true, true, true, true, true, true, false, false, false] rfl rfl (one_of HT_.out (by kernel_rfl)) (by decide) (fun K hK => ?_)
              refine value_ (v := .slice (some ⟨wr.heap.size + 1, 0, none⟩) 1 1) (w1 := (wr.drew.alloc (.cells #[.slice A0 g.length c0] 26)).alloc (.cells #[.slice A1 h.length c1] 26)) (by rfl) rfl (by go_simp) ?_
              refine hK.out _ _ (HSB.out _ (below_alloc (below_alloc (Below.refl _ _).drew _) _)) (fun hHeld => ?_)
              clear hK K
              refine norm_ (a' := ?_) ?_ ?_
              rotate_left
              · show Act.put _ (some 83) _ = _; simp only [Act.put, List.setIfInBounds_toArray, List.set_cons_zero, List.set_cons_succ, i64_w, i32_w]; rfl
              refine one_ (i := 14) (N := some 84) #[true, true, true, true, true, true, true, true, true, true, true, true, true, true, true, false, false] rfl rfl (one_of HT_.out (by kernel_rfl)) (by decide) (fun K hK => ?_)
              have hz1 := alloc_size wr.drew (.cells #[.slice A0 g.length c0] 26)
              have hC1 := Kd.C_alloc (litC1 wr.drew hgc (Kd.C_drew HGC2.out)) (.cells #[.slice A1 h.length c1] 26)
              have hC2 := litC1 (wr.drew.alloc (.cells #[.slice A0 g.length c0] 26)) hhc (Kd.C_alloc (Kd.C_drew HHC.out) _)
              rw [hz1] at hC2
              refine goes_ Try.func28 (by kernel_rfl) rfl #[.slice (some ⟨wr.heap.size, 0, none⟩) 1 1, .slice (some ⟨wr.heap.size + 1, 0, none⟩) 1 1] (by rfl) rfl rfl (by simp only [List.map_toArray, List.map_cons, List.map_nil]; rfl) ?_
              refine (chapmanref36_SameGroups.calls ks (some ⟨wr.heap.size, 0, none⟩) 1 [g] (some ⟨wr.heap.size + 1, 0, none⟩) 1 [h] _ _ hC1 (Nat.le_refl 1) hC2 (Nat.le_refl 1) HKS.out).mono ?_
              rintro e w7 ⟨rfl, hd⟩
              have hb7 : Below wr.heap.size wr w7 := (below_alloc (below_alloc (Below.refl _ _).drew _) _).trans ((drawn_below hd).mono (by rw [alloc_size, alloc_size]; show wr.heap.size ≤ wr.heap.size + 1 + 1; omega))
              have HB7 := Aside0.mk hb7
              refine ⟨_, rfl, hK.out _ _ (HSB.out _ hb7) (fun hHeld => ?_)⟩
              clear hK K hz1 hC1 hC2 hd hb7
              refine norm_ (a' := ?_) ?_ ?_
              rotate_left
              · show Act.put _ (some 84) _ = _; simp only [Act.put, List.setIfInBounds_toArray, List.set_cons_zero, List.set_cons_succ, i64_w, i32_w]; rfl
              refine pure_ (i := 15) (N := some 85) (v := ?_) (a' := ?_) #[true, true, true, true, true, true, true, true, true, true, true, true, true, true, true, true, false] rfl rfl (any_of HT_.out (by kernel_rfl)) (fun _ _ _ h => h) (Or.inl ⟨by rfl, ?_⟩) ?_ ?_
              rotate_left
              · intro w'; go_simp; with_reducible rfl
              rotate_left
              · simp only [Act.put, List.setIfInBounds_toArray, List.set_cons_zero, List.set_cons_succ, i64_w, i32_w]; rfl
              refine pure_ (i := 16) (N := some 15) (v := ?_) (a' := ?_) #[true, true, true, true, true, true, true, true, true, true, true, true, true, true, true, true, true] rfl rfl (any_of HT_.out (by kernel_rfl)) (fun _ _ _ h => h) (Or.inl ⟨by rfl, ?_⟩) ?_ ?_
              rotate_left
              · intro w'; go_simp; with_reducible rfl
              rotate_left
              · simp only [Act.put, List.setIfInBounds_toArray, List.set_cons_zero, List.set_cons_succ, i64_w, i32_w]; rfl
              refine done_ (done_of HT_.out (by kernel_rfl)) ?_
              have HX2 := Aside0.mk (HX.out.step HB7.out)
              have HBO2 := Aside0.mk (HBO.out.trans (HB7.out.mono HBO.out.size))
              have HFD2 : Aside0 (decide (g = h) = decide (g ∈ mG.take (j + 1))) := ⟨by rw [HFN.out, ← HFD.out]; rfl⟩
              clear hHeld HT_ HW_ HS HSB HB7
              generalize decide (g = h) = fd2 at HFD2 ⊢
              go_wp2
              go_roundw
              case rel => exact ⟨j + 1, fd2, by omega, by go_num, rfl, HFD2, HBO2, HX2⟩
              case measure => simp [intOf]; omega
            · refine value_ (v := .slice (some ⟨wr.heap.size, 0, none⟩) 1 1) (w1 := wr.drew.alloc (.cells #[.slice A1 h.length c1] 26)) (by rfl) rfl (by go_simp) ?_
              refine hK.out _ _ (HSB.out _ (below_alloc (Below.refl _ _).drew _)) (fun hHeld => ?_)
              clear hK K
              refine norm_ (a' := ?_) ?_ ?_
              rotate_left
              · show Act.put _ (some 83) _ = _; simp only [Act.put, List.setIfInBounds_toArray, List.set_cons_zero, List.set_cons_succ, i64_w, i32_w]; rfl
              refine one_ (i := 7) (N := some 77) #[true, true, true, true, true, true, true, true, true, true, true, true, true, true, false, false, false] rfl rfl (one_of HT_.out (by kernel_rfl)) (by decide) (fun K hK => ?_)
              refine value_ (v := .slice (some ⟨wr.heap.size + 1, 0, none⟩) 1 1) (w1 := (wr.drew.alloc (.cells #[.slice A1 h.length c1] 26)).alloc (.cells #[.slice A0 g.length c0] 26)) (by rfl) rfl (by go_simp) ?_
              refine hK.out _ _ (HSB.out _ (below_alloc (below_alloc (Below.refl _ _).drew _) _)) (fun hHeld => ?_)
              clear hK K
              refine norm_ (a' := ?_) ?_ ?_
              rotate_left
              · show Act.put _ (some 77) _ = _; simp only [Act.put, List.setIfInBounds_toArray, List.set_cons_zero, List.set_cons_succ, i64_w, i32_w]; rfl
              refine one_ (i := 14) (N := some 84) #[true, true, true, true, true, true, true, true, true, true, true, true, true, true, true, false, false] rfl rfl (one_of HT_.out (by kernel_rfl)) (by decide) (fun K hK => ?_)
              have hz1 := alloc_size wr.drew (.cells #[.slice A1 h.length c1] 26)
              have hC1 := Kd.C_alloc (litC1 wr.drew hhc (Kd.C_drew HHC.out)) (.cells #[.slice A0 g.length c0] 26)
              have hC2 := litC1 (wr.drew.alloc (.cells #[.slice A1 h.length c1] 26)) hgc (Kd.C_alloc (Kd.C_drew HGC2.out) _)
              rw [hz1] at hC2
              refine goes_ Try.func28 (by kernel_rfl) rfl #[.slice (some ⟨wr.heap.size + 1, 0, none⟩) 1 1, .slice (some ⟨wr.heap.size, 0, none⟩) 1 1] (by rfl) rfl rfl (by simp only [List.map_toArray, List.map_cons, List.map_nil]; rfl) ?_
              refine (chapmanref36_SameGroups.calls ks (some ⟨wr.heap.size + 1, 0, none⟩) 1 [g] (some ⟨wr.heap.size, 0, none⟩) 1 [h] _ _ hC2 (Nat.le_refl 1) hC1 (Nat.le_refl 1) HKS.out).mono ?_
              rintro e w7 ⟨rfl, hd⟩
              have hb7 : Below wr.heap.size wr w7 := (below_alloc (below_alloc (Below.refl _ _).drew _) _).trans ((drawn_below hd).mono (by rw [alloc_size, alloc_size]; show wr.heap.size ≤ wr.heap.size + 1 + 1; omega))
              have HB7 := Aside0.mk hb7
              refine ⟨_, rfl, hK.out _ _ (HSB.out _ hb7) (fun hHeld => ?_)⟩
              clear hK K hz1 hC1 hC2 hd hb7
              refine norm_ (a' := ?_) ?_ ?_
              rotate_left
              · show Act.put _ (some 84) _ = _; simp only [Act.put, List.setIfInBounds_toArray, List.set_cons_zero, List.set_cons_succ, i64_w, i32_w]; rfl
              refine pure_ (i := 15) (N := some 85) (v := ?_) (a' := ?_) #[true, true, true, true, true, true, true, true, true, true, true, true, true, true, true, true, false] rfl rfl (any_of HT_.out (by kernel_rfl)) (fun _ _ _ h => h) (Or.inl ⟨by rfl, ?_⟩) ?_ ?_
              rotate_left
              · intro w'; go_simp; with_reducible rfl
              rotate_left
              · simp only [Act.put, List.setIfInBounds_toArray, List.set_cons_zero, List.set_cons_succ, i64_w, i32_w]; rfl
              refine pure_ (i := 16) (N := some 15) (v := ?_) (a' := ?_) #[true, true, true, true, true, true, true, true, true, true, true, true, true, true, true, true, true] rfl rfl (any_of HT_.out (by kernel_rfl)) (fun _ _ _ h => h) (Or.inl ⟨by rfl, ?_⟩) ?_ ?_
              rotate_left
              · intro w'; go_simp; with_reducible rfl
              rotate_left
              · simp only [Act.put, List.setIfInBounds_toArray, List.set_cons_zero, List.set_cons_succ, i64_w, i32_w]; rfl
              refine done_ (done_of HT_.out (by kernel_rfl)) ?_
              have HX2 := Aside0.mk (HX.out.step HB7.out)
              have HBO2 := Aside0.mk (HBO.out.trans (HB7.out.mono HBO.out.size))
              have HFD2 : Aside0 (decide (g = h) = decide (g ∈ mG.take (j + 1))) := ⟨by rw [HFN.out, ← HFD.out]; rfl⟩
              clear hHeld HT_ HW_ HS HSB HB7
              generalize decide (g = h) = fd2 at HFD2 ⊢
              go_wp2
              go_roundw
              case rel => exact ⟨j + 1, fd2, by omega, by go_num, rfl, HFD2, HBO2, HX2⟩
              case measure => simp [intOf]; omega
        · obtain rfl : j = mG.length := by omega
          obtain rfl : fd = true := by rw [HFD.out, List.take_length]; exact decide_eq_true (HOK.out.sub g HGM.out)
          have hcF0 := hq_cell HX.out.bxF 0 _ rfl
          simp only [List.getElem_toArray, List.getElem_cons_zero, List.getElem_cons_succ] at hcF0
          have hcg := (HBO.out.cell (World.block_lt_of_cell? wo _ HCG.out)).trans HCG.out
          have HGC2 := Aside0.mk (Kd.C_below HGC.out HBO.out)
          obtain ⟨km, hkm⟩ := HOK.out.mrg g HGM.out
          have HKM := Aside0.mk hkm
          have hgm3 : mergeN (pcs l) g = mergeN (pcs l) g := rfl
          have hsv := HOK.out.save g HGM.out
          have hab := HOK.out.ab
          have hmu : 0 ≤ a * 4096 * ((g.length : Int) - 1) ∧ a * 4096 * ((g.length : Int) - 1) ≤ 20000000000 := by
            have h60 := HOK.out.len
            have h1 : a * 4096 * ((g.length : Int) - 1) ≤ 65535 * 4096 * ((g.length : Int) - 1) := Int.mul_le_mul_of_nonneg_right (by omega) (by omega)
            exact ⟨Int.mul_nonneg (by omega) (by omega), by omega⟩
          generalize hMN : mergeN (pcs l) g = mN at *
          generalize hMU : a * 4096 * ((g.length : Int) - 1) = mU at *
          clear hgm3 hkm HFD
          go_wp2_with (fail)
          refine (chapmanlaw36_merge.calls km Am cm l A0 c0 g _ _ _ _ wr (Kd.R_reads' HX.out.rl).2.2 hcm HGC2.out hgc HKM.out).mono ?_
          rintro e w7 ⟨v1, v2, rfl, hG, hL, hb⟩
          have HB7 := Aside0.mk hb
          obtain ⟨AG, cG, e, _⟩ := Kd.R_reads hG
          subst e
          obtain ⟨BG, dG, e, _⟩ := Kd.R_reads hL
          subst e
          clear hG hL hb hcM0 hcF0 hcg
          have hcF := hq_cell HX.out.bxF 0 _ rfl
          simp only [List.getElem_toArray, List.getElem_cons_zero, List.getElem_cons_succ] at hcF
          have hcg := (HBO.out.cell (World.block_lt_of_cell? wo _ HCG.out)).trans HCG.out
          have HB8 : Aside0 (Below wr.heap.size wr (w7.alloc (.cells #[.slice AG 0 cG, .slice BG 0 dG, .int .i64 mN, .int .i64 0] 36))) := ⟨below_alloc HB7.out _⟩
          have hcF1 := (HB8.out.cell (World.block_lt_of_cell? wr _ hcF)).trans hcF
          have hcg1 := (HB8.out.cell (World.block_lt_of_cell? wr _ hcg)).trans hcg
          have hc2 := hq_cell (heap_alloc_new w7 (.cells #[.slice AG 0 cG, .slice BG 0 dG, .int .i64 mN, .int .i64 0] 36 (0, 0))) 2 _ rfl
          have hc3 := hq_cell (heap_alloc_new w7 (.cells #[.slice AG 0 cG, .slice BG 0 dG, .int .i64 mN, .int .i64 0] 36 (0, 0))) 3 _ rfl
          simp only [List.getElem_toArray, List.getElem_cons_zero, List.getElem_cons_succ] at hc2 hc3
          clear hcF hcg
          go_wp2
          clear hcF1 hcg1 hc2 hc3
          have HX2 := Aside0.mk (HX.out.step (HB8.out.mono (Nat.le_refl _)))
          go_roundw
          case rel => exact ⟨k + 1, sv + mU, pd + mN, by omega, by go_num, by go_num, by go_num, by omega, by omega, by omega, by omega, by omega, HX2⟩
          case measure => simp [intOf]; omega
    · obtain rfl : k = fG.length := by omega
      by_cases h0 : fG.length = 0
      · go_wp2
        go_ret
        exact ⟨rfl, HX.out.below⟩
      · go_wp2
        go_ret
        exact ⟨rfl, HX.out.below⟩
end Go.Proofs.Ytckempgpaojljaa.P
end
section
/- Bounds of bytes out of a reading. -/
namespace Go.Proofs.Ytckempgpaojljaa.P
set_option linter.unusedVariables false
set_option linter.unusedSimpArgs false
open Go.RowKit Go.Proofs.YtckempgpaojljaaW.PrintWords Go.Proofs.YtckempgpaojljaaW.PrintLast Go.Proofs.YtckempgpaojljaaW.PrintMore
instance : Inhabited S50 := ⟨z50⟩
instance : Inhabited S43 := ⟨z43⟩
theorem u8_bd {n : Int} (h : (Lit.int .u8 n).wf = true) : 0 ≤ n ∧ n ≤ 255 := by
  simp [Lit.wf, IntKind.min, IntKind.max, IntKind.signed, IntKind.bits] at h
  omega
theorem u16_bd {n : Int} (h : (Lit.int .u16 n).wf = true) : 0 ≤ n ∧ n ≤ 65535 := by
  simp [Lit.wf, IntKind.min, IntKind.max, IntKind.signed, IntKind.bits] at h
  omega
theorem i64_bd {n : Int} (h : (Lit.int .i64 n).wf = true) : -9223372036854775808 ≤ n ∧ n ≤ 9223372036854775807 := by
  simp [Lit.wf, IntKind.min, IntKind.max, IntKind.signed, IntKind.bits] at h
  omega
theorem bytes2_of {l : List S50} (h : ∀ p ∈ l, (Lit.int .u8 p.f0).wf = true ∧ (Lit.int .u8 p.f1).wf = true) : bytes2 l := fun p hp => by
  have := h p hp
  have a := u8_bd this.1
  have b := u8_bd this.2
  omega
end Go.Proofs.Ytckempgpaojljaa.P
end
section
/- The row of the law CostWorth, out of its walk. -/
namespace Go.Proofs.Ytckempgpaojljaa.costWorth
open Go.ChangeShapes Go.WideShapes Go.ChangeAt Go.RowKit Go.Proofs.YtckempgpaojljaaW.PrintWords Go.Proofs.Ytckempgpaojljaa.P
open Go.ChangeMaps (open_string shut_string)
set_option linter.unusedVariables false
theorem own : ownKnob Try.prog.godebug = none := by kernel_rfl
theorem laidOut : laidOutB Try.prog = true := by kernel_rfl
set_option maxRecDepth 100000 in
theorem lifted (os : Os) (started : os.Started) (H : Type) (enc : TypeId × Value → H) :
    ReturnsInHanded {} Try.checked os 7 .any (Rows.costWorthSpec.pre6 enc Try.prog Try.f7 Rows.costWorthRow.domain false) (Rows.costWorthSpec.post enc Try.prog Try.f7 false true false false) := by
  refine returnsInHanded_of_change_sized (C := Try.checked) own started (by kernel_rfl) Try.func7
    (ChangeSpec.witness6 (enc := enc) (C := Try.checked) false ⟨#[], #[.slice none 0 0, .int .u16 0, .int .u16 0], []⟩ 8 (by kernel_rfl) (by kernel_rfl) (by kernel_rfl) (by kernel_rfl)) ?_
  intro W base args ds gs before hval0 hW hcnd hsz0 _
  have hval : ∀ (j : Nat) t v, Try.f7.params[j]? = some t → args[j]? = some v → Value.okWide Try.prog W .any base t v := hval0
  have hW' := hW
  obtain ⟨p, q, hA0, hV, rfl, hfz, hnd⟩ := hW
  have hA : DataW.TrodAll enc Try.prog W 0 (fun _ => true) true Try.f7.params.toList args.toList ds p := hA0
  rw [Try.params7] at hA hval
  obtain ⟨v0, vs0, d0, ds0, p0, q0, hargs, rfl, rfl, h0, r0⟩ := trodAll_cons hA
  obtain ⟨v1, vs1, d1, ds1, p1, q1, rfl, rfl, rfl, h1, r1⟩ := trodAll_cons r0
  obtain ⟨v2, vs2, d2, ds2, p2, q2, rfl, rfl, rfl, h2, r2⟩ := trodAll_cons r1
  obtain ⟨rfl, rfl, rfl⟩ := trodAll_nil r2
  obtain rfl : args = #[v0, v1, v2] := by cases args; simp_all
  obtain ⟨rfl, rfl⟩ := trodVars_none hV
  have k0 := h0
  have lt0 : ∀ x ∈ p0, x.block < W.heap.size := by obtain ⟨m, hm⟩ := k0; exact DataW.trod_lt m _ _ _ hm
  obtain ⟨a0, len0, cap0, rfl⟩ := okWide_slice Try.underlying22 (hval 0 22 v0 rfl rfl)
  obtain ⟨l0, ⟨A0, c0, e0, L0, C0⟩, O0⟩ := open_at (opens_slice (d := k50) (α := S50) Try.underlying22 (opens_iso (fun x : S50 => (x.f0, x.f1)) (fun p => ⟨p.1, p.2⟩) (fun _ => rfl) (opens_arr2 Try.underlying50 (opens_int Try.underlying5) (by kernel_rfl) (by kernel_rfl))) (by kernel_rfl)) h0
  have e0_ : (Value.slice a0 len0 cap0) = .slice A0 l0.length c0 := List.head_eq_of_cons_eq e0
  injection e0_ with e0A e0L e0C
  subst e0A e0L e0C
  have k1 := h1
  have lt1 : ∀ x ∈ p1, x.block < W.heap.size := by obtain ⟨m, hm⟩ := k1; exact DataW.trod_lt m _ _ _ hm
  obtain ⟨x1, rfl, rfl, rfl, O1⟩ := open_int Try.underlying52 (hval 1 52 v1 rfl rfl) h1
  have k2 := h2
  have lt2 : ∀ x ∈ p2, x.block < W.heap.size := by obtain ⟨m, hm⟩ := k2; exact DataW.trod_lt m _ _ _ hm
  obtain ⟨x2, rfl, rfl, rfl, O2⟩ := open_int Try.underlying52 (hval 2 52 v2 rfl rfl) h2
  clear hA0 hval0 hsz0
  refine (worth7 a0 cap0 l0 x1 x2 W C0 L0 (bytes2_of O0.1) (u16_bd O1) (u16_bd O2)).mono fun e W' ⟨he, bel⟩ => ?_
  subst he
  exact ⟨_, rfl, _, _, _, [], _, [], hW', trodAll_mk1 (shut_bool Try.underlying4 _), (trodAll_cons_mk (Below.trod laidOut (by kernel_rfl) (of_decide_eq_true (by kernel_rfl)) k0 bel lt0) (trodAll_cons_mk (shut_int Try.underlying52 O1) (trodAll_cons_mk (shut_int Try.underlying52 O2) trodAll_mk0))), rfl, bel.frame _, fun h => by cases h⟩
theorem over : Rows.costWorthRow.holds Try.pinned (OpenSpec.ofChange Rows.costWorthSpec) :=
  OpenClaim.holds_of_wide 7 Try.f7 rfl rfl rfl rfl rfl rfl rfl ⟨rfl, rfl, rfl, rfl, rfl⟩ rfl rfl rfl rfl rfl (by kernel_rfl) Try.func7 (by kernel_rfl)
    (of_decide_eq_true (by kernel_rfl)) (by unfold Func.isWrapper; first | (rw [if_pos (by decide +kernel)]; kernel_rfl) | (rw [if_neg (by decide +kernel)]; exact ⟨rfl, rfl⟩))
    (fun os started H enc _ => lifted os started H enc)
theorem proved : Rows.CostWorthSaid := over
end Go.Proofs.Ytckempgpaojljaa.costWorth
namespace Go.Proofs.Ytckempgpaojljaa
/-- The row, under a short name, for the claim. -/
theorem costWorth_holds : Rows.CostWorthSaid := costWorth.proved
end Go.Proofs.Ytckempgpaojljaa
end
