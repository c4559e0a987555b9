/- The row of the law CostSums, out of its walk. -/
import Derived.Test.YtckempgpaojljaaMs8
import Derived.Test.YtckempgpaojljaaMs1
import Derived.Test.YtckempgpaojljaaMs7
import Derived.Test.YtckempgpaojljaaRows
import Derived.WalkKit
import Derived.ProofKit
import Derived.OpenShut
import Derived.ShutString
import Derived.ChangeOld
import Derived.Below
import Derived.SizedLaws
section
/- The walk of the law CostSums. -/
namespace Go.Proofs.Ytckempgpaojljaa.P
set_option linter.unusedVariables false
set_option linter.unusedSimpArgs false
open Go.RowKit Go.Proofs.YtckempgpaojljaaW.PrintWords Go.Proofs.YtckempgpaojljaaW.PrintLast Go.Proofs.YtckempgpaojljaaW.PrintMore
attribute [local go_sem] Oper.semAt_some max_two min_two

/-- What holds behind the calls. -/
structure SumI (w2 : World) (b9 b10 : Nat) (A0 : Option Addr) (c0 : Nat) (AL : Option Addr) (cL : Nat) (L : List S43) (B0 : Option Addr) (d0 : Nat) (BL : Option Addr) (dL : Nat) (R : Int) (W : World) : Prop where
  below : Below w2.heap.size w2 W
  bx9 : W.heap[b9]? = some (.cells #[.slice A0 0 c0, .slice AL L.length cL, .int .i64 0, .int .i64 0] 36 (0, 0))
  bx10 : W.heap[b10]? = some (.cells #[.slice B0 0 d0, .slice BL 0 dL, .int .i64 R, .int .i64 0] 36 (0, 0))
  rL : Kd.R k43 43 W w2.heap.size (fun _ => True) (.slice AL L.length cL) L
theorem SumI.step {w2 : World} {b9 b10 : Nat} {A0 : Option Addr} {c0 : Nat} {AL : Option Addr} {cL : Nat} {L : List S43} {B0 : Option Addr} {d0 : Nat} {BL : Option Addr} {dL : Nat} {R : Int} {W W' : World} (h : SumI w2 b9 b10 A0 c0 AL cL L B0 d0 BL dL R W) (hb : Below W.heap.size W W') : SumI w2 b9 b10 A0 c0 AL cL L B0 d0 BL dL R W' :=
  ⟨h.below.trans (hb.mono h.below.size), (hb.block _ (hq_lt h.bx9)).trans h.bx9, (hb.block _ (hq_lt h.bx10)).trans h.bx10, Kd.R_below h.rL hb⟩

theorem litC1s (W : World) {A0 : Option Addr} {c0 : Nat} {g : List Int} (hl : g.length ≤ c0) (hC : Kd.C (Kd.int .i64) W A0 g.length g) : Kd.C (Kd.slice 3 (Kd.int .i64)) (W.alloc (.cells #[.slice A0 g.length c0] 26)) (some ⟨W.heap.size, 0, none⟩) 1 [g] := by
  refine ⟨rfl, by decide, fun _ => ⟨_, rfl, fun j p hp => ?_⟩⟩
  match j, hp with
  | 0, hp =>
    cases hp
    refine ⟨[.slice A0 g.length c0], rfl, ⟨A0, c0, rfl, hl, Kd.C_alloc hC _⟩, fun i u hu => ?_⟩
    match i, hu with
    | 0, hu =>
      cases hu
      exact hq_cell (heap_alloc_new W (.cells #[.slice A0 g.length c0] 26 (0, 0))) 0 _ rfl

theorem incr_snoc {n last : Int} {g : List Int} (h : incr n last g = true) {i : Int} (hl : last < i) (hg : ∀ y ∈ g, y < i) (hn : i < n) : incr n last (g ++ [i]) = true := by
  induction g generalizing last with
  | nil => simp [incr, hl, hn]
  | cons y g ih =>
    simp only [incr, List.cons_append, Bool.and_eq_true, decide_eq_true_eq] at h ⊢
    exact ⟨h.1, ih h.2 (hg y (by simp)) fun z hz => hg z (by simp [hz])⟩

def sums6.T17 : Bool × List (List Nat × List Nat) := (true, [([], []), ([0], [0]), ([1], [1]), ([], []), ([3], [3]), ([], []), ([5], [5]), ([6], [6]), ([7], [7]), ([4, 8], [4, 8]), ([9], [9]), ([2, 10, 2], [2, 10]), ([11, 11], [11]), ([12], [12]), ([12, 13], [12, 13]), ([14, 12, 0, 1, 2, 3, 4, 5, 6, 7, 8, 9, 10, 11, 12, 13, 14], [14])])
def sums6.B17 : List Nat := [0, 1, 3, 0, 8, 0, 32, 96, 224, 504, 1016, 2047, 4095, 8191, 16383, 32767]
theorem sums6.tab17 : rtab .any (opsOf Try.f6 17) = sums6.T17 := by kernel_rfl
theorem sums6.bits17 : waitsOk sums6.T17.2 sums6.B17 = true := by kernel_rfl
set_option maxHeartbeats 4000000 in
set_option maxRecDepth 100000 in
theorem sums6 (A : Option Addr) (c : Nat) (x : List S50) (k0 k1 : Int) (w : World) (hr : Kd.C k50 w A x.length x) (hc : x.length ≤ c) (hb : bytes2 x) (h0 : 0 ≤ k0 ∧ k0 ≤ 255) (h1 : 0 ≤ k1 ∧ k1 ≤ 255) :
    Calls Try.prog 6 #[.slice A x.length c, .agg #[.int .u8 k0, .int .u8 k1]] w fun e w' => e = .returned (.bool true) ∧ Below w.heap.size w w' := by
  have HR := Aside0.mk hr
  have HBY := Aside0.mk hb
  have HMB := Aside0.mk (madeB_of hb)
  have hml := madeL_len x
  obtain ⟨k00, k01⟩ := h0
  obtain ⟨k10, k11⟩ := h1
  clear hr hb
  have hbk := heap_alloc_new w (.cells #[.int .u8 k0, .int .u8 k1] 50 (0, 0))
  have HBK := Aside0.mk hbk
  have HB0 := Aside0.mk (below_alloc (Below.refl w.heap.size w) (.cells #[.int .u8 k0, .int .u8 k1] 50))
  clear hbk
  go_enter Try.func6, Try.ntmps6
  go_wp2_with (fail)
  refine (examples9 _).mono ?_
  rintro e w1 ⟨rfl, hb⟩
  have HB1 := Aside0.mk (below_step HB0.out hb)
  have HBK1 := Aside0.mk ((hb.block _ (hq_lt HBK.out)).trans HBK.out)
  clear hb HB0 HBK
  go_wp2_with (fail)
  refine (made10 A c x w1 (Kd.C_below HR.out HB1.out) hc HBY.out).mono ?_
  rintro e w2 ⟨v, rfl, hM, hb⟩
  have HB2 := Aside0.mk (below_step HB1.out hb)
  have HBK2 := Aside0.mk ((hb.block _ (hq_lt HBK1.out)).trans HBK1.out)
  have HM := Aside0.mk (Kd.R_lower hM HB1.out.size)
  obtain ⟨Am, cm, e, hcm, hCM⟩ := Kd.R_reads hM
  subst e
  have HCL := Aside0.mk hCM
  clear hCM
  clear hM hb HB1 HBK1
  generalize madeL x = l at *
  have HBE : Aside0 (Below w2.heap.size w2 (w2.alloc (.cells #[] 3))) := ⟨below_alloc (Below.refl _ _) _⟩
  have hk0 := hq_cell ((HBE.out.block _ (hq_lt HBK2.out)).trans HBK2.out) 0 _ rfl
  simp only [List.getElem_toArray, List.getElem_cons_zero, List.getElem_cons_succ] at hk0
  have HG3 : Aside0 (Kd.R (Kd.int .i64) 3 (w2.alloc (.cells #[] 3)) w2.heap.size (fun _ => True) (.slice (some ⟨w2.heap.size, 0, none⟩) 0 0) []) := ⟨R_zero _ _ _ _ _ (Nat.le_refl _) trivial⟩
  go_wp2
  clear hk0
  go_loopw [8, 7] (fun v8 v7 w' => ∃ (i : Int) (g : List Int), 0 ≤ i ∧ i ≤ 400 ∧ v8 = .int .i64 i ∧ g.length ≤ 60 ∧ Aside0 (incr l.length (-1) g = true) ∧ Aside0 (∀ y ∈ g, y < i) ∧ Aside0 (Below w2.heap.size w2 w') ∧ Aside0 (Kd.R (Kd.int .i64) 3 w' w2.heap.size (fun _ => True) v7 g)) (fun v8 _ _ => l.length - (intOf v8).toNat)
  case atStart => exact ⟨_, [], by omega, by omega, rfl, by simp, ⟨rfl⟩, ⟨by simp⟩, HBE, HG3⟩
  case round =>
    clear HBE HG3
    obtain ⟨i, g, i0, i1, rfl, hg60, HGI, HGY, HBE, HG3⟩ := hrel
    by_cases hlt : i < l.length
    · have HGI2 := Aside0.mk (incr_snoc HGI.out (by omega) HGY.out hlt)
      have hg61 := incr_len HGI2.out (by omega)
      rw [List.length_append, List.length_singleton] at hg61
      have HGY2 : Aside0 (∀ y ∈ g ++ [i], y < i + (1 + k1 % 5)) := ⟨fun y hy => by
        rcases List.mem_append.1 hy with h | h
        · have := HGY.out y h; omega
        · rw [List.mem_singleton.1 h]; omega⟩
      go_wp2_with (at_builtin; refine Kd.R_append (Kd.int .i64) (w0 := w2) w2.heap.size rfl (.tmp 32) (.tmp 34) 26 3 (.int .i64 0) 8 rfl Try.underlying26 info3 rfl (by decide) (by decide) _ g i [.int .i64 i] (fun _ => True) (fun _ => False) rfl rfl ?aP (fun _ hk => hk.elim) ?aF ?aO ?aB ?aS ?aL ?_; (case aP => exact rfl); (case aF => exact fun _ _ => trivial); (case aO => exact HG3.out); (case aB => exact HBE.out); (case aS => exact HBE.out.size); (case aL => omega); intro v1 w5 ho hb hg5 hat; have HO5 := Aside0.mk ho; have HB5 := Aside0.mk hb; have hk1 := hq_cell ((hb.block _ (hq_lt HBK2.out)).trans HBK2.out) 1 _ rfl; simp only [List.getElem_toArray, List.getElem_cons_zero, List.getElem_cons_succ] at hk1; clear ho hb hg5 hat)
      go_roundw
      case rel => exact ⟨i + (1 + k1 % 5), g ++ [i], by omega, by omega, by go_num, by rw [List.length_append, List.length_singleton]; omega, HGI2, HGY2, HB5, HO5⟩
      case measure => simp [intOf]; omega
    · by_cases hg0 : g.length = 0
      · obtain ⟨AG, cG, rfl, hcG, hCG⟩ := Kd.R_reads HG3.out
        have HBF := Aside0.mk (below_step HB2.out HBE.out)
        clear hCG
        go_wp2
        go_ret
        exact ⟨rfl, HBF.out⟩
      · have hgo : okG l.length g = true := by rw [okG, HGI.out]; simp; omega
        obtain ⟨L, R, s, t, hs⟩ := sums_ok HMB.out hgo
        have HS := Aside0.mk hs
        obtain ⟨AG, cG, rfl, hcG, hCG⟩ := Kd.R_reads HG3.out
        have HCG := Aside0.mk hCG
        clear hs hCG hgo
        go_wp2_with (fail)
        obtain ⟨k1, hk1⟩ := HS.out.aft
        refine (chapmanlaw36_after.calls k1 Am cm l (some ⟨wr.heap.size, 0, none⟩) 1 [g] _ _ _ _ (wr.alloc (.cells #[.slice AG g.length cG] 26)) (Kd.C_alloc (Kd.C_below HCL.out HBE.out) _) hcm (litC1s wr hcG HCG.out) (Nat.le_refl 1) hk1).mono ?_
        rintro e w3 ⟨v1, v2, rfl, hG, hL, hb⟩
        have HBA := Aside0.mk (below_alloc HBE.out (.cells #[.slice AG g.length cG] 26))
        have HB3 := Aside0.mk (below_step HBA.out hb)
        have HL3 := Aside0.mk (Kd.R_lower hL HBA.out.size)
        obtain ⟨A0, c0, e, _⟩ := Kd.R_reads hG
        subst e
        obtain ⟨AL, cL, e, hcL, _⟩ := Kd.R_reads hL
        subst e
        clear hG hL hb hk1 HBA HBE HCG HG3
        go_wp2_with (fail)
        obtain ⟨k1, hk1⟩ := HS.out.old
        refine (chapmanlaw36_read.calls k1 Am cm l _ _ _ _ w3 (Kd.C_below HCL.out HB3.out) hcm hk1).mono ?_
        rintro e w4 ⟨v1, v2, rfl, hG, hL, hb⟩
        have HB4 := Aside0.mk (below_step HB3.out hb)
        have HL4 := Aside0.mk (Kd.R_below HL3.out hb)
        obtain ⟨B0, d0, e, _⟩ := Kd.R_reads hG
        subst e
        obtain ⟨BL, dL, e, _⟩ := Kd.R_reads hL
        subst e
        clear hG hL hb hk1 HB3 HL3
        have hw3 := two_new w4 (.cells #[.slice A0 0 c0, .slice AL L.length cL, .int .i64 0, .int .i64 0] 36 (0, 0)) (.cells #[.slice B0 0 d0, .slice BL 0 dL, .int .i64 R, .int .i64 0] 36 (0, 0))
        have hx : SumI w2 w4.heap.size (w4.heap.size + 1) A0 c0 AL cL L B0 d0 BL dL R ((w4.alloc (.cells #[.slice A0 0 c0, .slice AL L.length cL, .int .i64 0, .int .i64 0] 36)).alloc (.cells #[.slice B0 0 d0, .slice BL 0 dL, .int .i64 R, .int .i64 0] 36)) :=
          ⟨below_alloc (below_alloc HB4.out _) _, hw3.1, hw3.2.1, Kd.R_alloc (Kd.R_alloc HL4.out _) _⟩
        have HX := Aside0.mk hx
        clear hx hw3 HB4 HL4
        have h93 := hq_cell HX.out.bx9 3 _ rfl
        have h91 := hq_cell HX.out.bx9 1 _ rfl
        have h103 := hq_cell HX.out.bx10 3 _ rfl
        simp only [List.getElem_toArray, List.getElem_cons_zero, List.getElem_cons_succ] at h93 h91 h103
        go_wp2_with (fail)
        obtain ⟨k1, hk1⟩ := HS.out.tot
        refine (chapmanlaw36_total.calls k1 AL cL L s t _ (Kd.R_reads' HX.out.rL).2.2 hcL hk1).mono ?_
        rintro e w5 ⟨rfl, hb⟩
        have HX5 := Aside0.mk (HX.out.step hb)
        clear hb hk1 HX h93 h91 h103
        go_wp2_with (fail)
        obtain ⟨k1, hk1⟩ := HS.out.tot0
        refine (chapmanlaw36_total.calls k1 Am cm l s t _ (Kd.C_below HCL.out HX5.out.below) hcm hk1).mono ?_
        rintro e w6 ⟨rfl, hb⟩
        have HX6 := Aside0.mk (HX5.out.step hb)
        clear hb hk1 HX5
        have h91 := hq_cell HX6.out.bx9 1 _ rfl
        simp only [List.getElem_toArray, List.getElem_cons_zero, List.getElem_cons_succ] at h91
        have hLl := HS.out.len
        go_wp2_with (fail)
        obtain ⟨k1, hk1⟩ := HS.out.val
        refine (chapmanref36_Valid.calls k1 AL cL L true _ (Kd.R_reads' HX6.out.rL).2.2 hcL hk1).mono ?_
        rintro e w7 ⟨rfl, hd⟩
        have HX7 := Aside0.mk (HX6.out.step (drawn_below hd))
        clear hd hk1 HX6 h91
        have hRb := HS.out.bd
        obtain ⟨R0, R1⟩ := hRb
        have hwr : wrap64 (R - wrap64 (4096 * wrap64 ((g.length : Int) - 1))) = R - 4096 * ((g.length : Int) - 1) := by rw [w64in ((g.length : Int) - 1) (by omega), w64in (4096 * ((g.length : Int) - 1)) (by omega), w64in _ (by omega)]
        have HWR := Aside0.mk hwr
        clear hwr
        go_wp2
        refine start_ (n := 16) (S := fun w' => w'.cell? ⟨w4.heap.size, 1, none⟩ = some (.slice AL L.length cL) ∧ w'.cell? ⟨w4.heap.size + 1, 2, none⟩ = some (.int .i64 R)) (ds := []) #[false, false, false, false, false, false, false, false, false, false, false, false, false, false, false, false] (by kernel_rfl) rfl rfl ⟨hq_cell (W := w7.drew) HX7.out.bx9 1 _ rfl, hq_cell (W := w7.drew) HX7.out.bx10 2 _ rfl⟩ (fun hHeld => ?_); refine with_tabW sums6.tab17 sums6.bits17 (fun HT_ HW_ => ?_)
        refine pure_ (i := 0) (N := some 79) (v := ?_) (a' := ?_) #[true, false, false, false, false, false, false, false, false, false, false, false, false, false, false, false] rfl rfl (any_of HT_.out (by kernel_rfl)) (fun _ _ _ h => h) (Or.inl ⟨by rfl, ?_⟩) ?_ ?_
        rotate_left
        · intro w'; go_simp; with_reducible rfl
        rotate_left
        · simp only [Act.put, List.setIfInBounds_toArray, List.set_cons_zero, List.set_cons_succ, i64_w, i32_w]; rfl
        refine pure_ (i := 3) (N := some 82) (v := ?_) (a' := ?_) #[true, false, false, true, false, false, false, false, false, false, false, false, false, false, false, false] rfl rfl (any_of HT_.out (by kernel_rfl)) (fun _ _ _ h => h) (Or.inl ⟨by rfl, ?_⟩) ?_ ?_
        rotate_left
        · intro w'; go_simp; with_reducible rfl
        rotate_left
        · simp only [Act.put, List.setIfInBounds_toArray, List.set_cons_zero, List.set_cons_succ, i64_w, i32_w]; rfl
        refine pure_ (i := 5) (N := some 84) (v := ?_) (a' := ?_) #[true, false, false, true, false, true, false, false, false, false, false, false, false, false, false, false] rfl rfl (any_of HT_.out (by kernel_rfl)) (fun _ _ _ h => h) (Or.inl ⟨by rfl, ?_⟩) ?_ ?_
        rotate_left
        · intro w'; go_simp; with_reducible rfl
        rotate_left
        · simp only [Act.put, List.setIfInBounds_toArray, List.set_cons_zero, List.set_cons_succ, i64_w, i32_w]; rfl
        refine pure_ (i := 6) (N := some 85) (v := ?_) (a' := ?_) #[true, false, false, true, false, true, true, false, false, false, false, false, false, false, false, false] rfl rfl (any_of HT_.out (by kernel_rfl)) (fun _ _ _ h => h) (Or.inl ⟨by rfl, ?_⟩) ?_ ?_
        rotate_left
        · intro w'; go_simp; with_reducible rfl
        rotate_left
        · simp only [Act.put, List.setIfInBounds_toArray, List.set_cons_zero, List.set_cons_succ, i64_w, i32_w]; rfl
        refine pure_ (i := 7) (N := some 86) (v := ?_) (a' := ?_) #[true, false, false, true, false, true, true, true, false, false, false, false, false, false, false, false] rfl rfl (any_of HT_.out (by kernel_rfl)) (fun _ _ _ h => h) (Or.inl ⟨by rfl, ?_⟩) ?_ ?_
        rotate_left
        · intro w'; go_simp; with_reducible rfl
        rotate_left
        · simp only [Act.put, List.setIfInBounds_toArray, List.set_cons_zero, List.set_cons_succ, i64_w, i32_w]; rfl
        refine pure_ (i := 8) (N := some 87) (v := ?_) (a' := ?_) #[true, false, false, true, false, true, true, true, true, false, false, false, false, false, false, false] rfl rfl (any_of HT_.out (by kernel_rfl)) (fun _ _ _ h => h) (Or.inl ⟨by rfl, ?_⟩) ?_ ?_
        rotate_left
        · intro w'; go_simp; with_reducible rfl
        rotate_left
        · simp only [Act.put, List.setIfInBounds_toArray, List.set_cons_zero, List.set_cons_succ, i64_w, i32_w]; rfl
        refine take_ (i := 1) (N := some 80) (v := ?_) (a' := ?_) #[true, true, false, true, false, true, true, true, true, false, false, false, false, false, false, false] rfl rfl (take_ofW HT_.out HW_.out (by kernel_rfl)) (fun _ _ _ h => h) (Or.inl ⟨by rfl, ?_⟩) hHeld ?_ ?_
        rotate_left
        · rintro w' ⟨s0, s1⟩; go_simp; with_reducible rfl
        rotate_left
        · simp only [Act.put, List.setIfInBounds_toArray, List.set_cons_zero, List.set_cons_succ, i64_w, i32_w]; rfl
        refine take_ (i := 4) (N := some 83) (v := ?_) (a' := ?_) #[true, true, false, true, true, true, true, true, true, false, false, false, false, false, false, false] rfl rfl (take_ofW HT_.out HW_.out (by kernel_rfl)) (fun _ _ _ h => h) (Or.inl ⟨by rfl, ?_⟩) hHeld ?_ ?_
        rotate_left
        · rintro w' ⟨s0, s1⟩; go_simp; with_reducible rfl
        rotate_left
        · simp only [Act.put, List.setIfInBounds_toArray, List.set_cons_zero, List.set_cons_succ, i64_w, i32_w]; rfl
        refine pure_ (i := 9) (N := some 88) (v := ?_) (a' := ?_) #[true, true, false, true, true, true, true, true, true, true, false, false, false, false, false, false] rfl rfl (any_of HT_.out (by kernel_rfl)) (fun _ _ _ h => h) (Or.inl ⟨by rfl, ?_⟩) ?_ ?_
        rotate_left
        · intro w'; go_simp; with_reducible rfl
        rotate_left
        · simp only [Act.put, List.setIfInBounds_toArray, List.set_cons_zero, List.set_cons_succ, i64_w, i32_w]; rfl
        refine pure_ (i := 10) (N := some 89) (v := ?_) (a' := ?_) #[true, true, false, true, true, true, true, true, true, true, true, false, false, false, false, false] rfl rfl (any_of HT_.out (by kernel_rfl)) (fun _ _ _ h => h) (Or.inl ⟨by rfl, ?_⟩) ?_ ?_
        rotate_left
        · intro w'; go_simp; with_reducible rfl
        rotate_left
        · simp only [Act.put, List.setIfInBounds_toArray, List.set_cons_zero, List.set_cons_succ, i64_w, i32_w]; rfl
        refine one_ (i := 2) (N := some 81) #[true, true, true, true, true, true, true, true, true, true, true, false, false, false, false, false] rfl rfl (one_of HT_.out (by kernel_rfl)) (by decide) (fun K hK => ?_)
        obtain ⟨q1, hq1⟩ := HS.out.new
        refine goes_ Try.func17 (by kernel_rfl) rfl #[.slice AL L.length cL] (by rfl) rfl rfl (by simp only [List.map_toArray, List.map_cons, List.map_nil]; rfl) ?_
        refine (chapmanlaw36_read.calls q1 AL cL L _ _ _ _ w7.drew (Kd.C_drew (Kd.R_reads' HX7.out.rL).2.2) hcL hq1).mono ?_
        rintro e w8 ⟨v1, v2, rfl, hG, hL, hb⟩
        have HX8 := Aside0.mk ((HX7.out.step (Below.refl _ _).drew).step hb)
        obtain ⟨A1, c1, e, hc1, hC1⟩ := Kd.R_reads hG
        subst e
        obtain ⟨B1, d1, e, hd1, hD1⟩ := Kd.R_reads hL
        subst e
        have HC1 := Aside0.mk hC1
        have HD1 := Aside0.mk hD1
        clear hG hL hb hq1 hC1 hD1
        refine ⟨_, rfl, hK.out _ _ ⟨hq_cell HX8.out.bx9 1 _ rfl, hq_cell HX8.out.bx10 2 _ rfl⟩ (fun hHeld => ?_)⟩
        clear hK K
        refine norm_ (a' := ?_) ?_ ?_
        rotate_left
        · show Act.put _ (some 81) _ = _; simp only [Act.put, List.setIfInBounds_toArray, List.set_cons_zero, List.set_cons_succ, i64_w, i32_w]; rfl
        refine one_ (i := 11) (N := some 90) #[true, true, true, true, true, true, true, true, true, true, true, true, false, false, false, false] rfl rfl (one_of HT_.out (by kernel_rfl)) (by decide) (fun K hK => ?_)
        obtain ⟨q1, hq1⟩ := HS.out.like
        have hq2 : chapmanref36_Alike.f q1 [] [] (R - 4096 * ((g.length : Int) - 1)) 0 [] [] (wrap64 (R - wrap64 (4096 * wrap64 ((g.length : Int) - 1)))) 0 = some true := by rw [HWR.out]; exact hq1
        refine goes_ Try.func14 (by kernel_rfl) rfl #[.agg #[.slice A1 0 c1, .slice B1 0 d1, .int .i64 (R - 4096 * ((g.length : Int) - 1)), .int .i64 0], .agg #[.slice none 0 0, .slice none 0 0, .int .i64 (wrap64 (R - wrap64 (4096 * wrap64 ((g.length : Int) - 1)))), .int .i64 0]] (by rfl) rfl rfl (by simp only [List.map_toArray, List.map_cons, List.map_nil]; rfl) ?_
        refine (chapmanref36_Alike.calls q1 A1 c1 [] B1 d1 [] _ _ none 0 [] none 0 [] _ _ true w8 HC1.out hc1 HD1.out hd1 (Kd.C_nil _ _) (Nat.le_refl _) (Kd.C_nil _ _) (Nat.le_refl _) hq2).mono ?_
        rintro e w9 ⟨rfl, hb⟩
        have HX9 := Aside0.mk (HX8.out.step hb)
        clear hb hq1 hq2
        refine ⟨_, rfl, hK.out _ _ ⟨hq_cell HX9.out.bx9 1 _ rfl, hq_cell HX9.out.bx10 2 _ rfl⟩ (fun hHeld => ?_)⟩
        clear hK K
        refine norm_ (a' := ?_) ?_ ?_
        rotate_left
        · show Act.put _ (some 90) _ = _; simp only [Act.put, List.setIfInBounds_toArray, List.set_cons_zero, List.set_cons_succ, i64_w, i32_w]; rfl
        refine pure_ (i := 12) (N := some 91) (v := ?_) (a' := ?_) #[true, true, true, true, true, true, true, true, true, true, true, true, true, false, false, false] rfl rfl (any_of HT_.out (by kernel_rfl)) (fun _ _ _ h => h) (Or.inl ⟨by rfl, ?_⟩) ?_ ?_
        rotate_left
        · intro w'; go_simp; with_reducible rfl
        rotate_left
        · simp only [Act.put, List.setIfInBounds_toArray, List.set_cons_zero, List.set_cons_succ, i64_w, i32_w]; rfl
        refine pure_ (i := 13) (N := some 92) (v := ?_) (a' := ?_) #[true, true, true, true, true, true, true, true, true, true, true, true, true, true, false, false] rfl rfl (any_of HT_.out (by kernel_rfl)) (fun _ _ _ h => h) (Or.inl ⟨by rfl, ?_⟩) ?_ ?_
        rotate_left
        · intro w'; go_simp; with_reducible rfl
        rotate_left
        · simp only [Act.put, List.setIfInBounds_toArray, List.set_cons_zero, List.set_cons_succ, i64_w, i32_w]; rfl
        refine pure_ (i := 14) (N := some 93) (v := ?_) (a' := ?_) #[true, true, true, true, true, true, true, true, true, true, true, true, true, true, true, false] rfl rfl (any_of HT_.out (by kernel_rfl)) (fun _ _ _ h => h) (Or.inl ⟨by rfl, ?_⟩) ?_ ?_
        rotate_left
        · intro w'; go_simp; with_reducible rfl
        rotate_left
        · simp only [Act.put, List.setIfInBounds_toArray, List.set_cons_zero, List.set_cons_succ, i64_w, i32_w]; rfl
        refine pure_ (i := 15) (N := some 4) (v := ?_) (a' := ?_) #[true, true, true, true, true, true, true, true, true, true, true, true, true, true, true, true] rfl rfl (any_of HT_.out (by kernel_rfl)) (fun _ _ _ h => h) (Or.inl ⟨by rfl, ?_⟩) ?_ ?_
        rotate_left
        · intro w'; go_simp; with_reducible rfl
        rotate_left
        · simp only [Act.put, List.setIfInBounds_toArray, List.set_cons_zero, List.set_cons_succ, i64_w, i32_w]; rfl
        refine done_ (done_of HT_.out (by kernel_rfl)) ?_
        have HBF := Aside0.mk (below_step HB2.out HX9.out.below)
        go_wp2
        go_ret
        exact ⟨rfl, HBF.out⟩
end Go.Proofs.Ytckempgpaojljaa.P
end
section
/- Bounds of bytes out of a reading. -/
namespace Go.Proofs.Ytckempgpaojljaa.P
set_option linter.unusedVariables false
set_option linter.unusedSimpArgs false
open Go.RowKit Go.Proofs.YtckempgpaojljaaW.PrintWords Go.Proofs.YtckempgpaojljaaW.PrintLast Go.Proofs.YtckempgpaojljaaW.PrintMore
instance : Inhabited S50 := ⟨z50⟩
instance : Inhabited S43 := ⟨z43⟩
theorem u8_bd {n : Int} (h : (Lit.int .u8 n).wf = true) : 0 ≤ n ∧ n ≤ 255 := by
  simp [Lit.wf, IntKind.min, IntKind.max, IntKind.signed, IntKind.bits] at h
  omega
theorem u16_bd {n : Int} (h : (Lit.int .u16 n).wf = true) : 0 ≤ n ∧ n ≤ 65535 := by
  simp [Lit.wf, IntKind.min, IntKind.max, IntKind.signed, IntKind.bits] at h
  omega
theorem i64_bd {n : Int} (h : (Lit.int .i64 n).wf = true) : -9223372036854775808 ≤ n ∧ n ≤ 9223372036854775807 := by
  simp [Lit.wf, IntKind.min, IntKind.max, IntKind.signed, IntKind.bits] at h
  omega
theorem bytes2_of {l : List S50} (h : ∀ p ∈ l, (Lit.int .u8 p.f0).wf = true ∧ (Lit.int .u8 p.f1).wf = true) : bytes2 l := fun p hp => by
  have := h p hp
  have a := u8_bd this.1
  have b := u8_bd this.2
  omega
end Go.Proofs.Ytckempgpaojljaa.P
end
section
/- An array of two bytes as an argument. -/
namespace Go.Proofs.Ytckempgpaojljaa.P
set_option linter.unusedVariables false
open Go.RowKit Go.Proofs.YtckempgpaojljaaW.PrintWords Go.Proofs.YtckempgpaojljaaW.PrintLast Go.Proofs.YtckempgpaojljaaW.PrintMore
theorem okWide_arrG {P : Program} {W : World} {r : Reach} {b : Nat} {t : TypeId} {v : Value} {n : Nat} {e : TypeId} (ht : P.underlying t = some (.array n e)) (h : Value.okWide P W r b t v) : ∃ cs, v = .agg cs := by
  unfold Value.okWide at h
  rw [ht] at h
  obtain ⟨cs, rfl, _⟩ := h
  exact ⟨cs, rfl⟩
theorem agg50_of {W : World} {cs : Array Value} {a b : Int} (h : (Kd.pair (Kd.int .u8) (Kd.int .u8)).K W (a, b) (Value.agg cs).cells.toList) : cs = #[.int .u8 a, .int .u8 b] := by
  obtain ⟨c1, c2, e, h1, h2⟩ := h
  have e1 : c1 = [.int .u8 a] := h1
  have e2 : c2 = [.int .u8 b] := h2
  subst e1 e2
  exact Array.ext' e
end Go.Proofs.Ytckempgpaojljaa.P
end
section
/- The row of the law CostSums, out of its walk. -/
namespace Go.Proofs.Ytckempgpaojljaa.costSums
open Go.ChangeShapes Go.WideShapes Go.ChangeAt Go.RowKit Go.Proofs.YtckempgpaojljaaW.PrintWords Go.Proofs.Ytckempgpaojljaa.P
open Go.ChangeMaps (open_string shut_string)
set_option linter.unusedVariables false
theorem own : ownKnob Try.prog.godebug = none := by kernel_rfl
theorem laidOut : laidOutB Try.prog = true := by kernel_rfl
set_option maxRecDepth 100000 in
theorem lifted (os : Os) (started : os.Started) (H : Type) (enc : TypeId × Value → H) :
    ReturnsInHanded {} Try.checked os 6 .any (Rows.costSumsSpec.pre6 enc Try.prog Try.f6 Rows.costSumsRow.domain false) (Rows.costSumsSpec.post enc Try.prog Try.f6 false true false false) := by
  refine returnsInHanded_of_change_sized (C := Try.checked) own started (by kernel_rfl) Try.func6
    (ChangeSpec.witness6 (enc := enc) (C := Try.checked) false ⟨#[], #[.slice none 0 0, .agg #[.int .u8 0, .int .u8 0]], []⟩ 8 (by kernel_rfl) (by kernel_rfl) (by kernel_rfl) (by kernel_rfl)) ?_
  intro W base args ds gs before hval0 hW hcnd hsz0 _
  have hval : ∀ (j : Nat) t v, Try.f6.params[j]? = some t → args[j]? = some v → Value.okWide Try.prog W .any base t v := hval0
  have hW' := hW
  obtain ⟨p, q, hA0, hV, rfl, hfz, hnd⟩ := hW
  have hA : DataW.TrodAll enc Try.prog W 0 (fun _ => true) true Try.f6.params.toList args.toList ds p := hA0
  rw [Try.params6] at hA hval
  obtain ⟨v0, vs0, d0, ds0, p0, q0, hargs, rfl, rfl, h0, r0⟩ := trodAll_cons hA
  obtain ⟨v1, vs1, d1, ds1, p1, q1, rfl, rfl, rfl, h1, r1⟩ := trodAll_cons r0
  obtain ⟨rfl, rfl, rfl⟩ := trodAll_nil r1
  obtain rfl : args = #[v0, v1] := by cases args; simp_all
  obtain ⟨rfl, rfl⟩ := trodVars_none hV
  have k0 := h0
  have lt0 : ∀ x ∈ p0, x.block < W.heap.size := by obtain ⟨m, hm⟩ := k0; exact DataW.trod_lt m _ _ _ hm
  obtain ⟨a0, len0, cap0, rfl⟩ := okWide_slice Try.underlying22 (hval 0 22 v0 rfl rfl)
  obtain ⟨l0, ⟨A0, c0, e0, L0, C0⟩, O0⟩ := open_at (opens_slice (d := k50) (α := S50) Try.underlying22 (opens_iso (fun x : S50 => (x.f0, x.f1)) (fun p => ⟨p.1, p.2⟩) (fun _ => rfl) (opens_arr2 Try.underlying50 (opens_int Try.underlying5) (by kernel_rfl) (by kernel_rfl))) (by kernel_rfl)) h0
  have e0_ : (Value.slice a0 len0 cap0) = .slice A0 l0.length c0 := List.head_eq_of_cons_eq e0
  injection e0_ with e0A e0L e0C
  subst e0A e0L e0C
  have k1 := h1
  have lt1 : ∀ x ∈ p1, x.block < W.heap.size := by obtain ⟨m, hm⟩ := k1; exact DataW.trod_lt m _ _ _ hm
  obtain ⟨x1, K1, O1⟩ := open_at (opens_arr2 (d := Kd.int .u8) Try.underlying50 (opens_int Try.underlying5) (by kernel_rfl) (by kernel_rfl)) h1
  obtain ⟨cs1, rfl⟩ := okWide_arrG Try.underlying50 (hval 1 50 v1 rfl rfl)
  obtain ⟨y0, y1⟩ := x1
  obtain rfl := agg50_of K1
  clear hA0 hval0 hsz0
  refine (sums6 a0 cap0 l0 y0 y1 W C0 L0 (bytes2_of O0.1) (u8_bd O1.1) (u8_bd O1.2)).mono fun e W' ⟨he, bel⟩ => ?_
  subst he
  exact ⟨_, rfl, _, _, _, [], _, [], hW', trodAll_mk1 (shut_bool Try.underlying4 _), (trodAll_cons_mk (Below.trod laidOut (by kernel_rfl) (of_decide_eq_true (by kernel_rfl)) k0 bel lt0) (trodAll_cons_mk (Below.trod laidOut (by kernel_rfl) (of_decide_eq_true (by kernel_rfl)) k1 bel lt1) trodAll_mk0)), rfl, bel.frame _, fun h => by cases h⟩
theorem over : Rows.costSumsRow.holds Try.pinned (OpenSpec.ofChange Rows.costSumsSpec) :=
  OpenClaim.holds_of_wide 6 Try.f6 rfl rfl rfl rfl rfl rfl rfl ⟨rfl, rfl, rfl, rfl, rfl⟩ rfl rfl rfl rfl rfl (by kernel_rfl) Try.func6 (by kernel_rfl)
    (of_decide_eq_true (by kernel_rfl)) (by unfold Func.isWrapper; first | (rw [if_pos (by decide +kernel)]; kernel_rfl) | (rw [if_neg (by decide +kernel)]; exact ⟨rfl, rfl⟩))
    (fun os started H enc _ => lifted os started H enc)
theorem proved : Rows.CostSumsSaid := over
end Go.Proofs.Ytckempgpaojljaa.costSums
namespace Go.Proofs.Ytckempgpaojljaa
/-- The row, under a short name, for the claim. -/
theorem costSums_holds : Rows.CostSumsSaid := costSums.proved
end Go.Proofs.Ytckempgpaojljaa
end
