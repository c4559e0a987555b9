/- Parts of a proof, laid together: TPx5, THf, TGa, TGb, TGc, TGd, TGe. -/
import Derived.Test.YtckempgpaojljaaMm1
import Derived.Test.YtckempgpaojljaaMm2
import Derived.Test.YtckempgpaojljaaMm3
import Derived.Test.YtckempgpaojljaaMm4
section
namespace Go.Proofs.Ytckempgpaojljaa.P
open Go.RowKit Go.Proofs.YtckempgpaojljaaW.PrintWords Go.Proofs.YtckempgpaojljaaW.PrintLast Go.Proofs.YtckempgpaojljaaW.PrintMore
attribute [local go_sem] max2_int min2_int max_two min_two max_three min_three max_four min_four   -- for this text's walks alone
set_option linter.unusedVariables false
set_option linter.unusedSimpArgs false
mutual
def chapmanref36_merged.l0 : Nat → List Int → List Int → List Int → Int → Int → Option (List Int)
  | 0, _, _, _, _, _ => none
  | k + 1, x0, x1, x5, x6, x7 => if x7 < (x1.length : Int) then (chapmanref36_merged.l1 k x0 x1 x5 x6 x7) else (if 0 ≤ x6 then (if x6 ≤ (x0.length : Int) then (if x5.length + (x0.drop (x6 : Int).toNat).length < 17592186044416 then (some (x5 ++ (x0.drop (x6 : Int).toNat))) else (none)) else (none)) else (none))
def chapmanref36_merged.l1 : Nat → List Int → List Int → List Int → Int → Int → Option (List Int)
  | 0, _, _, _, _, _ => none
  | k + 1, x0, x1, x5, x6, x7 => if x6 < (x0.length : Int) then (if 0 ≤ x6 then (if 0 ≤ x7 then (if x7 < (x1.length : Int) then (if (rd x0 x6) < (rd x1 x7) then (if x5.length < 17592186044416 then (chapmanref36_merged.l1 k x0 x1 (x5 ++ [rd x0 x6]) (wrap64 (x6 + 1)) x7) else (none)) else (if x5.length < 17592186044416 then (chapmanref36_merged.l0 k x0 x1 (x5 ++ [rd x1 x7]) x6 (wrap64 (x7 + 1))) else (none))) else (none)) else (none)) else (none)) else (if 0 ≤ x7 then (if x7 < (x1.length : Int) then (if x5.length < 17592186044416 then (chapmanref36_merged.l0 k x0 x1 (x5 ++ [rd x1 x7]) x6 (wrap64 (x7 + 1))) else (none)) else (none)) else (none))
end
def chapmanref36_merged.f (k : Nat) (l0 : List Int) (l1 : List Int) : Option (List Int) := chapmanref36_merged.l0 k l0 l1 (([] : List Int)) 0 0
set_option maxHeartbeats 8000000 in
set_option maxRecDepth 100000 in
theorem chapmanref36_merged.calls (k : Nat) (A0 : Option Addr) (c0 : Nat) (l0 : List Int) (A1 : Option Addr) (c1 : Nat) (l1 : List Int) (r : List Int) (w : World) (hr0 : Kd.C (Kd.int .i64) w A0 l0.length l0) (hc0 : l0.length ≤ c0) (hr1 : Kd.C (Kd.int .i64) w A1 l1.length l1) (hc1 : l1.length ≤ c1) (h : chapmanref36_merged.f k l0 l1 = some r) :
    Calls Try.prog 47 #[.slice A0 l0.length c0, .slice A1 l1.length c1] w fun e w' => ∃ v0_ : Value, e = .returned (v0_) ∧ Kd.R (Kd.int .i64) 3 w' w.heap.size (fun _ => True) v0_ r ∧ Below w.heap.size w w' := by
  have HR0 := Aside0.mk hr0
  have HC0 := Aside0.mk hc0
  clear hr0 hc0
  have HR1 := Aside0.mk hr1
  have HC1 := Aside0.mk hc1
  clear hr1 hc1
  have HB := Aside0.mk (Below.refl w.heap.size w)
  have H : (chapmanref36_merged.l0 k l0 l1 (([] : List Int)) 0 0) = some r := h
  clear h
  obtain ⟨y189, hy189⟩ : ∃ y_ : List Int, y_ = (([] : List Int)) := ⟨_, rfl⟩
  replace H : (chapmanref36_merged.l0 k l0 l1 y189 0 0) = some r := by first | (rw [hy189]; with_reducible exact H) | (have H2_ := (Option.bind_some _ _).symm.trans H; rw [hy189]; with_reducible exact H2_) | (have H2_ := (Option.bind_some _ _).symm.trans H; with_reducible exact H2_) | with_reducible exact H | (rw [hy189]; exact H) | exact H
  have Ny189 := Aside0.mk hy189
  clear hy189
  have H' := Aside0.mk H
  clear H
  go_enter Try.func47, Try.ntmps47
  go_wp2_with (first | ((with_reducible refine gate_dst (N := 8) rfl ?_); refine Kd.R_lit (Kd.int .i64) _ 3 ?hg (N := 8) ?hd (xs := ([] : List Int)) (inner := []) (ok := fun _ => True) (okp := fun _ => True) ?hr ?hp (fun _ hk => hk) trivial (Below.refl _ _) (Nat.le_refl _) (by simp) ?_; (case hd => rfl); (case hg => rfl); (case hr => first | (go_simp; done) | (go_simp; rfl)); (case hp => exact (Reps.none _ _)); intro v190 w3 ho4 hb hg_ hnew_; clear hg_ hnew_; (first | rw [← Ny189.out] at ho4 | (simp only [Int.reduceToNat] at ho4; rw [← Ny189.out] at ho4)); have n0_ := Aside0.mk (Kd.R_lower ho4 (below_size (by repeat (first | (with_reducible first | exact HB.out | apply below_alloc | apply pw_below_drewN | apply below_drew1) | exact HB.out)))); have n1_ := Aside0.mk (below_step (by repeat (first | (with_reducible first | exact HB.out | apply below_alloc | apply pw_below_drewN | apply below_drew1) | exact HB.out)) hb); clear HB; have HO191 := n0_; have HB := n1_; clear n0_ n1_; clear hb ho4))
  repeat (go_quiet (first | ((with_reducible refine gate_dst (N := 8) rfl ?_); refine Kd.R_lit (Kd.int .i64) _ 3 ?hg (N := 8) ?hd (xs := ([] : List Int)) (inner := []) (ok := fun _ => True) (okp := fun _ => True) ?hr ?hp (fun _ hk => hk) trivial (Below.refl _ _) (Nat.le_refl _) (by simp) ?_; (case hd => rfl); (case hg => rfl); (case hr => first | (go_simp; done) | (go_simp; rfl)); (case hp => exact (Reps.none _ _)); intro v190 w3 ho4 hb hg_ hnew_; clear hg_ hnew_; (first | rw [← Ny189.out] at ho4 | (simp only [Int.reduceToNat] at ho4; rw [← Ny189.out] at ho4)); have n0_ := Aside0.mk (Kd.R_lower ho4 (below_size (by repeat (first | (with_reducible first | exact HB.out | apply below_alloc | apply pw_below_drewN | apply below_drew1) | exact HB.out)))); have n1_ := Aside0.mk (below_step (by repeat (first | (with_reducible first | exact HB.out | apply below_alloc | apply pw_below_drewN | apply below_drew1) | exact HB.out)) hb); clear HB; have HO191 := n0_; have HB := n1_; clear n0_ n1_; clear hb ho4)); try go_wp2_with (first | ((with_reducible refine gate_dst (N := 8) rfl ?_); refine Kd.R_lit (Kd.int .i64) _ 3 ?hg (N := 8) ?hd (xs := ([] : List Int)) (inner := []) (ok := fun _ => True) (okp := fun _ => True) ?hr ?hp (fun _ hk => hk) trivial (Below.refl _ _) (Nat.le_refl _) (by simp) ?_; (case hd => rfl); (case hg => rfl); (case hr => first | (go_simp; done) | (go_simp; rfl)); (case hp => exact (Reps.none _ _)); intro v190 w3 ho4 hb hg_ hnew_; clear hg_ hnew_; (first | rw [← Ny189.out] at ho4 | (simp only [Int.reduceToNat] at ho4; rw [← Ny189.out] at ho4)); have n0_ := Aside0.mk (Kd.R_lower ho4 (below_size (by repeat (first | (with_reducible first | exact HB.out | apply below_alloc | apply pw_below_drewN | apply below_drew1) | exact HB.out)))); have n1_ := Aside0.mk (below_step (by repeat (first | (with_reducible first | exact HB.out | apply below_alloc | apply pw_below_drewN | apply below_drew1) | exact HB.out)) hb); clear HB; have HO191 := n0_; have HB := n1_; clear n0_ n1_; clear hb ho4)))
  go_loopg [5, 6, 7] k (fun kq v5 v6 v7 w' => ∃ (x5_1 : List Int) (x6_1 : Int) (x7_1 : Int), v6 = .int .i64 x6_1 ∧ v7 = .int .i64 x7_1 ∧ Aside0 (chapmanref36_merged.l0 kq l0 l1 x5_1 x6_1 x7_1 = some r) ∧ Aside0 (kq ≤ k) ∧ Aside0 (Kd.R (Kd.int .i64) 3 w' w.heap.size (fun _ => True) v5 x5_1) ∧ Aside0 (Below w.heap.size w w'))
  case atStart => exact ⟨(y189), (0), (0), (by first | rfl | (simp; done) | (simp [*]; done)), (by first | rfl | (simp; done) | (simp [*]; done)), H', ⟨Nat.le_refl _⟩, ⟨by (with_reducible repeat (first | apply Kd.R_alloc | apply Kd.R_drewN | apply Kd.R_drew)); exact HO191.out⟩, ⟨by repeat (first | (with_reducible first | exact HB.out | apply below_alloc | apply pw_below_drewN | apply below_drew1) | exact HB.out)⟩⟩
  case round =>
    clear H'
    try clear c1
    try clear p2
    try clear c4
    obtain ⟨x5_1, x6_1, x7_1, rfl, rfl, HA, HK1, HO_5, HB⟩ := hrel
    cases gk with
    | zero => exact absurd HA.out (by simp [chapmanref36_merged.l0])
    | succ k1 =>
      have H := HA.out
      clear HA
      simp only [chapmanref36_merged.l0] at H
      by_cases c5 : x7_1 < (l1.length : Int)
      · rw [if_pos c5] at H
        have c5b0 : decide (x7_1 < (l1.length : Int)) = true := decide_eq_true c5
        clear c5
        have H' := Aside0.mk H
        clear H
        go_wp2
        repeat (go_quiet (fail); try go_wp2)
        go_loopg [5, 6] k1 (fun kq v5 v6 w' => ∃ (x5_2 : List Int) (x6_2 : Int), v6 = .int .i64 x6_2 ∧ Aside0 (chapmanref36_merged.l1 kq l0 l1 x5_2 x6_2 x7_1 = some r) ∧ Aside0 (kq ≤ k1) ∧ Aside0 (Kd.R (Kd.int .i64) 3 w' w.heap.size (fun _ => True) v5 x5_2) ∧ Aside0 (Below w.heap.size w w'))
        case atStart => exact ⟨(x5_1), (x6_1), (by first | rfl | (simp; done) | (simp [*]; done)), H', ⟨Nat.le_refl _⟩, ⟨by (with_reducible repeat (first | apply Kd.R_alloc | apply Kd.R_drewN | apply Kd.R_drew)); exact HO_5.out⟩, ⟨by repeat (first | (with_reducible first | exact HB.out | apply below_alloc | apply pw_below_drewN | apply below_drew1) | exact HB.out)⟩⟩
        case round =>
          clear H'
          try clear c1
          try clear p2
          try clear c4
          try clear c5
          try clear c5b0
          try clear p2
          obtain ⟨x5_2, x6_2, rfl, HA, HK2, HO_5, HB⟩ := hrel
          cases gk with
          | zero => exact absurd HA.out (by simp [chapmanref36_merged.l1])
          | succ k2 =>
            have H := HA.out
            clear HA
            simp only [chapmanref36_merged.l1] at H
            by_cases c6 : x6_2 < (l0.length : Int)
            · rw [if_pos c6] at H
              have c6b0 : decide (x6_2 < (l0.length : Int)) = true := decide_eq_true c6
              clear c6
              by_cases c7 : 0 ≤ x6_2
              · rw [if_pos c7] at H
                have c7b0 : decide (0 ≤ x6_2) = true := decide_eq_true c7
                clear c7
                by_cases c8 : 0 ≤ x7_1
                · rw [if_pos c8] at H
                  have c8b0 : decide (0 ≤ x7_1) = true := decide_eq_true c8
                  clear c8
                  by_cases c9 : x7_1 < (l1.length : Int)
                  · rw [if_pos c9] at H
                    have c9b0 : decide (x7_1 < (l1.length : Int)) = true := decide_eq_true c9
                    clear c9
                    by_cases c10 : (rd l0 x6_2) < (rd l1 x7_1)
                    · rw [if_pos c10] at H
                      have c10b0 : decide ((rd l0 x6_2) < (rd l1 x7_1)) = true := decide_eq_true c10
                      clear c10
                      by_cases c11 : x5_2.length < 17592186044416
                      · rw [if_pos c11] at H
                        have LMc11 := Aside0.mk c11
                        clear c11
                        obtain ⟨y199, hy199⟩ : ∃ y_ : List Int, y_ = (x5_2 ++ [rd l0 x6_2]) := ⟨_, rfl⟩
                        replace H : (chapmanref36_merged.l1 k2 l0 l1 y199 (wrap64 (x6_2 + 1)) x7_1) = some r := by first | (rw [hy199]; with_reducible exact H) | (have H2_ := (Option.bind_some _ _).symm.trans H; rw [hy199]; with_reducible exact H2_) | (have H2_ := (Option.bind_some _ _).symm.trans H; with_reducible exact H2_) | with_reducible exact H | (rw [hy199]; exact H) | exact H
                        have Ny199 := Aside0.mk hy199
                        clear hy199
                        have H' := Aside0.mk H
                        clear H
                        have p196 : 0 ≤ (x6_2 : Int) := of_decide_eq_true (by first | (with_reducible assumption) | assumption)
                        have q196 : x6_2 < (l0.length : Int) := of_decide_eq_true (by first | (with_reducible assumption) | assumption)
                        obtain ⟨ad196, e196, hx196_0⟩ := Kd.at_int HR0.out x6_2 p196 q196
                        cases e196
                        replace hx196_0 := (HB.out.cell (World.block_lt_of_cell? w _ hx196_0)).trans hx196_0
                        replace p196 := eq_true p196
                        replace q196 := eq_true q196
                        have p197 : 0 ≤ (x7_1 : Int) := of_decide_eq_true (by first | (with_reducible assumption) | assumption)
                        have q197 : x7_1 < (l1.length : Int) := of_decide_eq_true (by first | (with_reducible assumption) | assumption)
                        obtain ⟨ad197, e197, hx197_0⟩ := Kd.at_int HR1.out x7_1 p197 q197
                        cases e197
                        replace hx197_0 := (HB.out.cell (World.block_lt_of_cell? w _ hx197_0)).trans hx197_0
                        replace p197 := eq_true p197
                        replace q197 := eq_true q197
                        have p198 : 0 ≤ (x6_2 : Int) := of_decide_eq_true (by first | (with_reducible assumption) | assumption)
                        have q198 : x6_2 < (l0.length : Int) := of_decide_eq_true (by first | (with_reducible assumption) | assumption)
                        obtain ⟨ad198, e198, hx198_0⟩ := Kd.at_int HR0.out x6_2 p198 q198
                        obtain rfl : ad196 = ad198 := (by injection e198)
                        replace hx198_0 := (HB.out.cell (World.block_lt_of_cell? w _ hx198_0)).trans hx198_0
                        replace p198 := eq_true p198
                        replace q198 := eq_true q198
                        go_wp2_with (first | ((with_reducible refine gate_builtin (b := .append) (xs := #[.tmp 30, .tmp 35]) rfl ?_); at_builtin; refine Kd.R_append (Kd.int .i64) (w0 := w) w.heap.size rfl (.tmp 30) (.tmp 35) 26 3 (.int .i64 0) 8 rfl Try.underlying26 info3 rfl (by decide) (by omega) u5 x5_2 (rd l0 x6_2) [.int .i64 (rd l0 x6_2)] (fun _ => True) (fun _ => False) rfl rfl ?aP (fun _ hk => hk.elim) ?aF ?aO ?aB ?aS ?aL ?_; (case aP => exact rfl); (case aB => exact (by repeat (first | (with_reducible first | exact HB.out | apply below_alloc | apply pw_below_drewN | apply below_drew1) | exact HB.out))); (case aF => exact (fun _ _ => trivial)); (case aO => exact (by (with_reducible repeat (first | apply Kd.R_alloc | apply Kd.R_drewN | apply Kd.R_drew)); exact HO_5.out)); (case aS => exact (below_size (by repeat (first | (with_reducible first | exact HB.out | apply below_alloc | apply pw_below_drewN | apply below_drew1) | exact HB.out)))); (case aL => have := LMc11.out; omega); intro v200 w12 ho hb hg hat; rw [← Ny199.out] at ho; have n0_ := Aside0.mk (hb); have n1_ := Aside0.mk (ho); clear HB; clear HO_5; have HB := n0_; have HO201 := n1_; clear n0_ n1_; clear ho hb hg hat))
                        repeat (go_quiet (first | ((with_reducible refine gate_builtin (b := .append) (xs := #[.tmp 30, .tmp 35]) rfl ?_); at_builtin; refine Kd.R_append (Kd.int .i64) (w0 := w) w.heap.size rfl (.tmp 30) (.tmp 35) 26 3 (.int .i64 0) 8 rfl Try.underlying26 info3 rfl (by decide) (by omega) u5 x5_2 (rd l0 x6_2) [.int .i64 (rd l0 x6_2)] (fun _ => True) (fun _ => False) rfl rfl ?aP (fun _ hk => hk.elim) ?aF ?aO ?aB ?aS ?aL ?_; (case aP => exact rfl); (case aB => exact (by repeat (first | (with_reducible first | exact HB.out | apply below_alloc | apply pw_below_drewN | apply below_drew1) | exact HB.out))); (case aF => exact (fun _ _ => trivial)); (case aO => exact (by (with_reducible repeat (first | apply Kd.R_alloc | apply Kd.R_drewN | apply Kd.R_drew)); exact HO_5.out)); (case aS => exact (below_size (by repeat (first | (with_reducible first | exact HB.out | apply below_alloc | apply pw_below_drewN | apply below_drew1) | exact HB.out)))); (case aL => have := LMc11.out; omega); intro v200 w12 ho hb hg hat; rw [← Ny199.out] at ho; have n0_ := Aside0.mk (hb); have n1_ := Aside0.mk (ho); clear HB; clear HO_5; have HB := n0_; have HO201 := n1_; clear n0_ n1_; clear ho hb hg hat)); try go_wp2_with (first | ((with_reducible refine gate_builtin (b := .append) (xs := #[.tmp 30, .tmp 35]) rfl ?_); at_builtin; refine Kd.R_append (Kd.int .i64) (w0 := w) w.heap.size rfl (.tmp 30) (.tmp 35) 26 3 (.int .i64 0) 8 rfl Try.underlying26 info3 rfl (by decide) (by omega) u5 x5_2 (rd l0 x6_2) [.int .i64 (rd l0 x6_2)] (fun _ => True) (fun _ => False) rfl rfl ?aP (fun _ hk => hk.elim) ?aF ?aO ?aB ?aS ?aL ?_; (case aP => exact rfl); (case aB => exact (by repeat (first | (with_reducible first | exact HB.out | apply below_alloc | apply pw_below_drewN | apply below_drew1) | exact HB.out))); (case aF => exact (fun _ _ => trivial)); (case aO => exact (by (with_reducible repeat (first | apply Kd.R_alloc | apply Kd.R_drewN | apply Kd.R_drew)); exact HO_5.out)); (case aS => exact (below_size (by repeat (first | (with_reducible first | exact HB.out | apply below_alloc | apply pw_below_drewN | apply below_drew1) | exact HB.out)))); (case aL => have := LMc11.out; omega); intro v200 w12 ho hb hg hat; rw [← Ny199.out] at ho; have n0_ := Aside0.mk (hb); have n1_ := Aside0.mk (ho); clear HB; clear HO_5; have HB := n0_; have HO201 := n1_; clear n0_ n1_; clear ho hb hg hat)))
                        go_roundg k2
                        case measure => have := HK1.out; have := HK2.out; omega
                        case rel => exact ⟨(y199), (wrap64 (x6_2 + 1)), (by first | rfl | (simp; done) | (simp [*]; done)), H', ⟨by have := HK1.out; have := HK2.out; omega⟩, ⟨by (with_reducible repeat (first | apply Kd.R_alloc | apply Kd.R_drewN | apply Kd.R_drew)); exact HO201.out⟩, ⟨by repeat (first | (with_reducible first | exact HB.out | apply below_alloc | apply pw_below_drewN | apply below_drew1) | exact HB.out)⟩⟩
                      · rw [if_neg c11] at H
                        exact absurd H (by simp)
                    · rw [if_neg c10] at H
                      have c10b0 : decide ((rd l0 x6_2) < (rd l1 x7_1)) = false := decide_eq_false c10
                      clear c10
                      by_cases c13 : x5_2.length < 17592186044416
                      · rw [if_pos c13] at H
                        have LMc13 := Aside0.mk c13
                        clear c13
                        obtain ⟨y203, hy203⟩ : ∃ y_ : List Int, y_ = (x5_2 ++ [rd l1 x7_1]) := ⟨_, rfl⟩
                        replace H : (chapmanref36_merged.l0 k2 l0 l1 y203 x6_2 (wrap64 (x7_1 + 1))) = some r := by first | (rw [hy203]; with_reducible exact H) | (have H2_ := (Option.bind_some _ _).symm.trans H; rw [hy203]; with_reducible exact H2_) | (have H2_ := (Option.bind_some _ _).symm.trans H; with_reducible exact H2_) | with_reducible exact H | (rw [hy203]; exact H) | exact H
                        have Ny203 := Aside0.mk hy203
                        clear hy203
                        have H' := Aside0.mk H
                        clear H
                        have p196 : 0 ≤ (x6_2 : Int) := of_decide_eq_true (by first | (with_reducible assumption) | assumption)
                        have q196 : x6_2 < (l0.length : Int) := of_decide_eq_true (by first | (with_reducible assumption) | assumption)
                        obtain ⟨ad196, e196, hx196_0⟩ := Kd.at_int HR0.out x6_2 p196 q196
                        cases e196
                        replace hx196_0 := (HB.out.cell (World.block_lt_of_cell? w _ hx196_0)).trans hx196_0
                        replace p196 := eq_true p196
                        replace q196 := eq_true q196
                        have p197 : 0 ≤ (x7_1 : Int) := of_decide_eq_true (by first | (with_reducible assumption) | assumption)
                        have q197 : x7_1 < (l1.length : Int) := of_decide_eq_true (by first | (with_reducible assumption) | assumption)
                        obtain ⟨ad197, e197, hx197_0⟩ := Kd.at_int HR1.out x7_1 p197 q197
                        cases e197
                        replace hx197_0 := (HB.out.cell (World.block_lt_of_cell? w _ hx197_0)).trans hx197_0
                        replace p197 := eq_true p197
                        replace q197 := eq_true q197
                        have p202 : 0 ≤ (x7_1 : Int) := of_decide_eq_true (by first | (with_reducible assumption) | assumption)
                        have q202 : x7_1 < (l1.length : Int) := of_decide_eq_true (by first | (with_reducible assumption) | assumption)
                        obtain ⟨ad202, e202, hx202_0⟩ := Kd.at_int HR1.out x7_1 p202 q202
                        obtain rfl : ad197 = ad202 := (by injection e202)
                        replace hx202_0 := (HB.out.cell (World.block_lt_of_cell? w _ hx202_0)).trans hx202_0
                        replace p202 := eq_true p202
                        replace q202 := eq_true q202
                        go_wp2_with (first | ((with_reducible refine gate_builtin (b := .append) (xs := #[.tmp 39, .tmp 44]) rfl ?_); at_builtin; refine Kd.R_append (Kd.int .i64) (w0 := w) w.heap.size rfl (.tmp 39) (.tmp 44) 26 3 (.int .i64 0) 8 rfl Try.underlying26 info3 rfl (by decide) (by omega) u5 x5_2 (rd l1 x7_1) [.int .i64 (rd l1 x7_1)] (fun _ => True) (fun _ => False) rfl rfl ?aP (fun _ hk => hk.elim) ?aF ?aO ?aB ?aS ?aL ?_; (case aP => exact rfl); (case aB => exact (by repeat (first | (with_reducible first | exact HB.out | apply below_alloc | apply pw_below_drewN | apply below_drew1) | exact HB.out))); (case aF => exact (fun _ _ => trivial)); (case aO => exact (by (with_reducible repeat (first | apply Kd.R_alloc | apply Kd.R_drewN | apply Kd.R_drew)); exact HO_5.out)); (case aS => exact (below_size (by repeat (first | (with_reducible first | exact HB.out | apply below_alloc | apply pw_below_drewN | apply below_drew1) | exact HB.out)))); (case aL => have := LMc13.out; omega); intro v204 w14 ho hb hg hat; rw [← Ny203.out] at ho; have n0_ := Aside0.mk (hb); have n1_ := Aside0.mk (ho); clear HB; clear HO_5; have HB := n0_; have HO205 := n1_; clear n0_ n1_; clear ho hb hg hat))
                        repeat (go_quiet (first | ((with_reducible refine gate_builtin (b := .append) (xs := #[.tmp 39, .tmp 44]) rfl ?_); at_builtin; refine Kd.R_append (Kd.int .i64) (w0 := w) w.heap.size rfl (.tmp 39) (.tmp 44) 26 3 (.int .i64 0) 8 rfl Try.underlying26 info3 rfl (by decide) (by omega) u5 x5_2 (rd l1 x7_1) [.int .i64 (rd l1 x7_1)] (fun _ => True) (fun _ => False) rfl rfl ?aP (fun _ hk => hk.elim) ?aF ?aO ?aB ?aS ?aL ?_; (case aP => exact rfl); (case aB => exact (by repeat (first | (with_reducible first | exact HB.out | apply below_alloc | apply pw_below_drewN | apply below_drew1) | exact HB.out))); (case aF => exact (fun _ _ => trivial)); (case aO => exact (by (with_reducible repeat (first | apply Kd.R_alloc | apply Kd.R_drewN | apply Kd.R_drew)); exact HO_5.out)); (case aS => exact (below_size (by repeat (first | (with_reducible first | exact HB.out | apply below_alloc | apply pw_below_drewN | apply below_drew1) | exact HB.out)))); (case aL => have := LMc13.out; omega); intro v204 w14 ho hb hg hat; rw [← Ny203.out] at ho; have n0_ := Aside0.mk (hb); have n1_ := Aside0.mk (ho); clear HB; clear HO_5; have HB := n0_; have HO205 := n1_; clear n0_ n1_; clear ho hb hg hat)); try go_wp2_with (first | ((with_reducible refine gate_builtin (b := .append) (xs := #[.tmp 39, .tmp 44]) rfl ?_); at_builtin; refine Kd.R_append (Kd.int .i64) (w0 := w) w.heap.size rfl (.tmp 39) (.tmp 44) 26 3 (.int .i64 0) 8 rfl Try.underlying26 info3 rfl (by decide) (by omega) u5 x5_2 (rd l1 x7_1) [.int .i64 (rd l1 x7_1)] (fun _ => True) (fun _ => False) rfl rfl ?aP (fun _ hk => hk.elim) ?aF ?aO ?aB ?aS ?aL ?_; (case aP => exact rfl); (case aB => exact (by repeat (first | (with_reducible first | exact HB.out | apply below_alloc | apply pw_below_drewN | apply below_drew1) | exact HB.out))); (case aF => exact (fun _ _ => trivial)); (case aO => exact (by (with_reducible repeat (first | apply Kd.R_alloc | apply Kd.R_drewN | apply Kd.R_drew)); exact HO_5.out)); (case aS => exact (below_size (by repeat (first | (with_reducible first | exact HB.out | apply below_alloc | apply pw_below_drewN | apply below_drew1) | exact HB.out)))); (case aL => have := LMc13.out; omega); intro v204 w14 ho hb hg hat; rw [← Ny203.out] at ho; have n0_ := Aside0.mk (hb); have n1_ := Aside0.mk (ho); clear HB; clear HO_5; have HB := n0_; have HO205 := n1_; clear n0_ n1_; clear ho hb hg hat)))
                        go_roundg k2
                        case measure => have := HK1.out; have := HK2.out; omega
                        case rel => exact ⟨(y203), (x6_2), (wrap64 (x7_1 + 1)), (by first | rfl | (simp; done) | (simp [*]; done)), (by first | rfl | (simp; done) | (simp [*]; done)), H', ⟨by have := HK1.out; have := HK2.out; omega⟩, ⟨by (with_reducible repeat (first | apply Kd.R_alloc | apply Kd.R_drewN | apply Kd.R_drew)); exact HO205.out⟩, ⟨by repeat (first | (with_reducible first | exact HB.out | apply below_alloc | apply pw_below_drewN | apply below_drew1) | exact HB.out)⟩⟩
                      · rw [if_neg c13] at H
                        exact absurd H (by simp)
                  · rw [if_neg c9] at H
                    exact absurd H (by simp)
                · rw [if_neg c8] at H
                  exact absurd H (by simp)
              · rw [if_neg c7] at H
                exact absurd H (by simp)
            · rw [if_neg c6] at H
              have c6b0 : decide (x6_2 < (l0.length : Int)) = false := decide_eq_false c6
              clear c6
              by_cases c15 : 0 ≤ x7_1
              · rw [if_pos c15] at H
                have c15b0 : decide (0 ≤ x7_1) = true := decide_eq_true c15
                clear c15
                by_cases c16 : x7_1 < (l1.length : Int)
                · rw [if_pos c16] at H
                  have c16b0 : decide (x7_1 < (l1.length : Int)) = true := decide_eq_true c16
                  clear c16
                  by_cases c17 : x5_2.length < 17592186044416
                  · rw [if_pos c17] at H
                    have LMc17 := Aside0.mk c17
                    clear c17
                    obtain ⟨y207, hy207⟩ : ∃ y_ : List Int, y_ = (x5_2 ++ [rd l1 x7_1]) := ⟨_, rfl⟩
                    replace H : (chapmanref36_merged.l0 k2 l0 l1 y207 x6_2 (wrap64 (x7_1 + 1))) = some r := by first | (rw [hy207]; with_reducible exact H) | (have H2_ := (Option.bind_some _ _).symm.trans H; rw [hy207]; with_reducible exact H2_) | (have H2_ := (Option.bind_some _ _).symm.trans H; with_reducible exact H2_) | with_reducible exact H | (rw [hy207]; exact H) | exact H
                    have Ny207 := Aside0.mk hy207
                    clear hy207
                    have H' := Aside0.mk H
                    clear H
                    have p206 : 0 ≤ (x7_1 : Int) := of_decide_eq_true (by first | (with_reducible assumption) | assumption)
                    have q206 : x7_1 < (l1.length : Int) := of_decide_eq_true (by first | (with_reducible assumption) | assumption)
                    obtain ⟨ad206, e206, hx206_0⟩ := Kd.at_int HR1.out x7_1 p206 q206
                    cases e206
                    replace hx206_0 := (HB.out.cell (World.block_lt_of_cell? w _ hx206_0)).trans hx206_0
                    replace p206 := eq_true p206
                    replace q206 := eq_true q206
                    go_wp2_with (first | ((with_reducible refine gate_builtin (b := .append) (xs := #[.tmp 39, .tmp 44]) rfl ?_); at_builtin; refine Kd.R_append (Kd.int .i64) (w0 := w) w.heap.size rfl (.tmp 39) (.tmp 44) 26 3 (.int .i64 0) 8 rfl Try.underlying26 info3 rfl (by decide) (by omega) u5 x5_2 (rd l1 x7_1) [.int .i64 (rd l1 x7_1)] (fun _ => True) (fun _ => False) rfl rfl ?aP (fun _ hk => hk.elim) ?aF ?aO ?aB ?aS ?aL ?_; (case aP => exact rfl); (case aB => exact (by repeat (first | (with_reducible first | exact HB.out | apply below_alloc | apply pw_below_drewN | apply below_drew1) | exact HB.out))); (case aF => exact (fun _ _ => trivial)); (case aO => exact (by (with_reducible repeat (first | apply Kd.R_alloc | apply Kd.R_drewN | apply Kd.R_drew)); exact HO_5.out)); (case aS => exact (below_size (by repeat (first | (with_reducible first | exact HB.out | apply below_alloc | apply pw_below_drewN | apply below_drew1) | exact HB.out)))); (case aL => have := LMc17.out; omega); intro v208 w18 ho hb hg hat; rw [← Ny207.out] at ho; have n0_ := Aside0.mk (hb); have n1_ := Aside0.mk (ho); clear HB; clear HO_5; have HB := n0_; have HO209 := n1_; clear n0_ n1_; clear ho hb hg hat))
                    repeat (go_quiet (first | ((with_reducible refine gate_builtin (b := .append) (xs := #[.tmp 39, .tmp 44]) rfl ?_); at_builtin; refine Kd.R_append (Kd.int .i64) (w0 := w) w.heap.size rfl (.tmp 39) (.tmp 44) 26 3 (.int .i64 0) 8 rfl Try.underlying26 info3 rfl (by decide) (by omega) u5 x5_2 (rd l1 x7_1) [.int .i64 (rd l1 x7_1)] (fun _ => True) (fun _ => False) rfl rfl ?aP (fun _ hk => hk.elim) ?aF ?aO ?aB ?aS ?aL ?_; (case aP => exact rfl); (case aB => exact (by repeat (first | (with_reducible first | exact HB.out | apply below_alloc | apply pw_below_drewN | apply below_drew1) | exact HB.out))); (case aF => exact (fun _ _ => trivial)); (case aO => exact (by (with_reducible repeat (first | apply Kd.R_alloc | apply Kd.R_drewN | apply Kd.R_drew)); exact HO_5.out)); (case aS => exact (below_size (by repeat (first | (with_reducible first | exact HB.out | apply below_alloc | apply pw_below_drewN | apply below_drew1) | exact HB.out)))); (case aL => have := LMc17.out; omega); intro v208 w18 ho hb hg hat; rw [← Ny207.out] at ho; have n0_ := Aside0.mk (hb); have n1_ := Aside0.mk (ho); clear HB; clear HO_5; have HB := n0_; have HO209 := n1_; clear n0_ n1_; clear ho hb hg hat)); try go_wp2_with (first | ((with_reducible refine gate_builtin (b := .append) (xs := #[.tmp 39, .tmp 44]) rfl ?_); at_builtin; refine Kd.R_append (Kd.int .i64) (w0 := w) w.heap.size rfl (.tmp 39) (.tmp 44) 26 3 (.int .i64 0) 8 rfl Try.underlying26 info3 rfl (by decide) (by omega) u5 x5_2 (rd l1 x7_1) [.int .i64 (rd l1 x7_1)] (fun _ => True) (fun _ => False) rfl rfl ?aP (fun _ hk => hk.elim) ?aF ?aO ?aB ?aS ?aL ?_; (case aP => exact rfl); (case aB => exact (by repeat (first | (with_reducible first | exact HB.out | apply below_alloc | apply pw_below_drewN | apply below_drew1) | exact HB.out))); (case aF => exact (fun _ _ => trivial)); (case aO => exact (by (with_reducible repeat (first | apply Kd.R_alloc | apply Kd.R_drewN | apply Kd.R_drew)); exact HO_5.out)); (case aS => exact (below_size (by repeat (first | (with_reducible first | exact HB.out | apply below_alloc | apply pw_below_drewN | apply below_drew1) | exact HB.out)))); (case aL => have := LMc17.out; omega); intro v208 w18 ho hb hg hat; rw [← Ny207.out] at ho; have n0_ := Aside0.mk (hb); have n1_ := Aside0.mk (ho); clear HB; clear HO_5; have HB := n0_; have HO209 := n1_; clear n0_ n1_; clear ho hb hg hat)))
                    go_roundg k2
                    case measure => have := HK1.out; have := HK2.out; omega
                    case rel => exact ⟨(y207), (x6_2), (wrap64 (x7_1 + 1)), (by first | rfl | (simp; done) | (simp [*]; done)), (by first | rfl | (simp; done) | (simp [*]; done)), H', ⟨by have := HK1.out; have := HK2.out; omega⟩, ⟨by (with_reducible repeat (first | apply Kd.R_alloc | apply Kd.R_drewN | apply Kd.R_drew)); exact HO209.out⟩, ⟨by repeat (first | (with_reducible first | exact HB.out | apply below_alloc | apply pw_below_drewN | apply below_drew1) | exact HB.out)⟩⟩
                  · rw [if_neg c17] at H
                    exact absurd H (by simp)
                · rw [if_neg c16] at H
                  exact absurd H (by simp)
              · rw [if_neg c15] at H
                exact absurd H (by simp)
      · rw [if_neg c5] at H
        have c5b0 : decide (x7_1 < (l1.length : Int)) = false := decide_eq_false c5
        clear c5
        by_cases c19 : 0 ≤ x6_1
        · rw [if_pos c19] at H
          have c19b0 := eq_true c19
          have c19b1 : decide (0 ≤ x6_1) = true := decide_eq_true c19
          clear c19
          by_cases c20 : x6_1 ≤ (l0.length : Int)
          · rw [if_pos c20] at H
            have c20b0 := eq_true c20
            have c20b1 : decide (x6_1 ≤ (l0.length : Int)) = true := decide_eq_true c20
            clear c20
            by_cases c21 : x5_1.length + (l0.drop (x6_1 : Int).toNat).length < 17592186044416
            · rw [if_pos c21] at H
              have LMc21 := Aside0.mk c21
              clear c21
              obtain ⟨y193, hy193⟩ : ∃ y_ : List Int, y_ = (x5_1 ++ (l0.drop (x6_1 : Int).toNat)) := ⟨_, rfl⟩
              replace H : (some y193) = some r := by first | (rw [hy193]; with_reducible exact H) | (have H2_ := (Option.bind_some _ _).symm.trans H; rw [hy193]; with_reducible exact H2_) | (have H2_ := (Option.bind_some _ _).symm.trans H; with_reducible exact H2_) | with_reducible exact H | (rw [hy193]; exact H) | exact H
              have Ny193 := Aside0.mk hy193
              clear hy193
              obtain rfl := Option.some.inj H
              obtain ⟨i022, hi022, _, hsz22, _⟩ := info_parts info3
              obtain ⟨A22, hcut22, hA22, hC22⟩ := print_drop_of (P := Try.prog) (Value.int .i64) 0 26 3 .i64 Try.underlying26 hi022 hsz22 A0 c0 l0 x6_1 (of_decide_eq_true (by first | (with_reducible assumption) | assumption)) (of_decide_eq_true (by first | (with_reducible assumption) | assumption)) HC0.out
              have HR192 := Aside0.mk (Kd.C_of_reads (h1 := fun _ => rfl) (hA22 _ (Kd.reads_of_C HR0.out)))
              have HC192 := Aside0.mk hC22
              clear hA22 hC22 hi022 hsz22
              go_wp2_with (first | ((with_reducible refine gate_builtin (b := .append) (xs := #[.tmp 46, .tmp 49]) rfl ?_); at_builtin; refine Kd.R_append_rows (Kd.int .i64) (w0 := w) w.heap.size rfl (.tmp 46) (.tmp 49) 26 3 (.int .i64 0) 8 rfl Try.underlying26 info3 rfl (by decide) (by omega) u5 x5_1 (l0.drop (x6_1 : Int).toNat) _ _ _ (fun _ => True) (fun _ => False) rfl rfl ?aO ?aR (fun _ _ h => h) (fun _ h => h.elim) ?aF ?aB ?aS ?aL ?_; (case aR => first | (rw [← show (l0.drop (x6_1 : Int).toNat).length = (l0.length - x6_1.toNat) from List.length_drop]; repeat (first | exact (Kd.C_below HR192.out HB.out) | (with_reducible refine Kd.C_alloc ?_ _) | (with_reducible refine Kd.C_drewN ?_ _) | (with_reducible refine Kd.C_drew ?_))) | (repeat (first | exact (Kd.C_below HR192.out HB.out) | (with_reducible refine Kd.C_alloc ?_ _) | (with_reducible refine Kd.C_drewN ?_ _) | (with_reducible refine Kd.C_drew ?_)))); (case aB => exact (by repeat (first | (with_reducible first | exact HB.out | apply below_alloc | apply pw_below_drewN | apply below_drew1) | exact HB.out))); (case aF => exact (fun _ _ => trivial)); (case aO => exact (by (with_reducible repeat (first | apply Kd.R_alloc | apply Kd.R_drewN | apply Kd.R_drew)); exact HO_5.out)); (case aS => exact (below_size (by repeat (first | (with_reducible first | exact HB.out | apply below_alloc | apply pw_below_drewN | apply below_drew1) | exact HB.out)))); (case aL => have := LMc21.out; have hlx_ := (show (l0.drop (x6_1 : Int).toNat).length = (l0.length - x6_1.toNat) from List.length_drop); omega); intro v194 w23 ho hb hg hat; rw [← Ny193.out] at ho; have n0_ := Aside0.mk (hb); have n1_ := Aside0.mk (ho); clear HB; clear HO_5; have HB := n0_; have HO195 := n1_; clear n0_ n1_; clear ho hb hg hat))
              repeat (go_quiet (first | ((with_reducible refine gate_builtin (b := .append) (xs := #[.tmp 46, .tmp 49]) rfl ?_); at_builtin; refine Kd.R_append_rows (Kd.int .i64) (w0 := w) w.heap.size rfl (.tmp 46) (.tmp 49) 26 3 (.int .i64 0) 8 rfl Try.underlying26 info3 rfl (by decide) (by omega) u5 x5_1 (l0.drop (x6_1 : Int).toNat) _ _ _ (fun _ => True) (fun _ => False) rfl rfl ?aO ?aR (fun _ _ h => h) (fun _ h => h.elim) ?aF ?aB ?aS ?aL ?_; (case aR => first | (rw [← show (l0.drop (x6_1 : Int).toNat).length = (l0.length - x6_1.toNat) from List.length_drop]; repeat (first | exact (Kd.C_below HR192.out HB.out) | (with_reducible refine Kd.C_alloc ?_ _) | (with_reducible refine Kd.C_drewN ?_ _) | (with_reducible refine Kd.C_drew ?_))) | (repeat (first | exact (Kd.C_below HR192.out HB.out) | (with_reducible refine Kd.C_alloc ?_ _) | (with_reducible refine Kd.C_drewN ?_ _) | (with_reducible refine Kd.C_drew ?_)))); (case aB => exact (by repeat (first | (with_reducible first | exact HB.out | apply below_alloc | apply pw_below_drewN | apply below_drew1) | exact HB.out))); (case aF => exact (fun _ _ => trivial)); (case aO => exact (by (with_reducible repeat (first | apply Kd.R_alloc | apply Kd.R_drewN | apply Kd.R_drew)); exact HO_5.out)); (case aS => exact (below_size (by repeat (first | (with_reducible first | exact HB.out | apply below_alloc | apply pw_below_drewN | apply below_drew1) | exact HB.out)))); (case aL => have := LMc21.out; have hlx_ := (show (l0.drop (x6_1 : Int).toNat).length = (l0.length - x6_1.toNat) from List.length_drop); omega); intro v194 w23 ho hb hg hat; rw [← Ny193.out] at ho; have n0_ := Aside0.mk (hb); have n1_ := Aside0.mk (ho); clear HB; clear HO_5; have HB := n0_; have HO195 := n1_; clear n0_ n1_; clear ho hb hg hat)); try go_wp2_with (first | ((with_reducible refine gate_builtin (b := .append) (xs := #[.tmp 46, .tmp 49]) rfl ?_); at_builtin; refine Kd.R_append_rows (Kd.int .i64) (w0 := w) w.heap.size rfl (.tmp 46) (.tmp 49) 26 3 (.int .i64 0) 8 rfl Try.underlying26 info3 rfl (by decide) (by omega) u5 x5_1 (l0.drop (x6_1 : Int).toNat) _ _ _ (fun _ => True) (fun _ => False) rfl rfl ?aO ?aR (fun _ _ h => h) (fun _ h => h.elim) ?aF ?aB ?aS ?aL ?_; (case aR => first | (rw [← show (l0.drop (x6_1 : Int).toNat).length = (l0.length - x6_1.toNat) from List.length_drop]; repeat (first | exact (Kd.C_below HR192.out HB.out) | (with_reducible refine Kd.C_alloc ?_ _) | (with_reducible refine Kd.C_drewN ?_ _) | (with_reducible refine Kd.C_drew ?_))) | (repeat (first | exact (Kd.C_below HR192.out HB.out) | (with_reducible refine Kd.C_alloc ?_ _) | (with_reducible refine Kd.C_drewN ?_ _) | (with_reducible refine Kd.C_drew ?_)))); (case aB => exact (by repeat (first | (with_reducible first | exact HB.out | apply below_alloc | apply pw_below_drewN | apply below_drew1) | exact HB.out))); (case aF => exact (fun _ _ => trivial)); (case aO => exact (by (with_reducible repeat (first | apply Kd.R_alloc | apply Kd.R_drewN | apply Kd.R_drew)); exact HO_5.out)); (case aS => exact (below_size (by repeat (first | (with_reducible first | exact HB.out | apply below_alloc | apply pw_below_drewN | apply below_drew1) | exact HB.out)))); (case aL => have := LMc21.out; have hlx_ := (show (l0.drop (x6_1 : Int).toNat).length = (l0.length - x6_1.toNat) from List.length_drop); omega); intro v194 w23 ho hb hg hat; rw [← Ny193.out] at ho; have n0_ := Aside0.mk (hb); have n1_ := Aside0.mk (ho); clear HB; clear HO_5; have HB := n0_; have HO195 := n1_; clear n0_ n1_; clear ho hb hg hat)))
              go_ret
              exact ⟨_, by first | rfl | (simp [errW_none, errW_some] <;> rfl) | (simp [*, errW_none, errW_some] <;> rfl), by (with_reducible repeat (first | apply Kd.R_alloc | apply Kd.R_drewN | apply Kd.R_drew)); exact HO195.out, by repeat (first | (with_reducible first | exact HB.out | apply below_alloc | apply pw_below_drewN | apply below_drew1) | exact HB.out)⟩
            · rw [if_neg c21] at H
              exact absurd H (by simp)
          · rw [if_neg c20] at H
            exact absurd H (by simp)
        · rw [if_neg c19] at H
          exact absurd H (by simp)
def chapmanref03_In.l0 : Nat → List Int → Int → Int → Option (Bool)
  | 0, _, _, _ => none
  | k + 1, x0, x1, x5 => if x5 < (x0.length : Int) then (if 0 ≤ x5 then (if (rd x0 x5) = x1 then (some true) else (chapmanref03_In.l0 k x0 x1 (wrap64 (x5 + 1)))) else (none)) else (some false)
def chapmanref03_In.f (k : Nat) (l0 : List Int) (a1 : Int) : Option (Bool) := chapmanref03_In.l0 k l0 a1 0
set_option maxHeartbeats 8000000 in
set_option maxRecDepth 100000 in
theorem chapmanref03_In.calls (k : Nat) (A0 : Option Addr) (c0 : Nat) (l0 : List Int) (a1 : Int) (r : Bool) (w : World) (hr0 : Kd.C (Kd.int .i64) w A0 l0.length l0) (hc0 : l0.length ≤ c0) (h : chapmanref03_In.f k l0 a1 = some r) :
    Calls Try.prog 48 #[.slice A0 l0.length c0, .int .i64 a1] w fun e w' => e = .returned (.bool r) ∧ Drawn0 w w' := by
  have HR0 := Aside0.mk hr0
  have HC0 := Aside0.mk hc0
  clear hr0 hc0
  have H : (chapmanref03_In.l0 k l0 a1 0) = some r := h
  clear h
  have H' := Aside0.mk H
  clear H
  go_enter Try.func48, Try.ntmps48
  go_wp2
  go_loopg [5] k (fun kq v5 w' => ∃ (x5_1 : Int), v5 = .int .i64 x5_1 ∧ Aside0 (chapmanref03_In.l0 kq l0 a1 x5_1 = some r) ∧ Aside0 (kq ≤ k) ∧ Drawn0 w w')
  case atStart => exact ⟨(0), (by first | rfl | (simp; done) | (simp [*]; done)), H', ⟨Nat.le_refl _⟩, by repeat (first | exact Drawn0.refl _ | apply Drawn0.step)⟩
  case round =>
    clear H'
    try clear p2
    obtain ⟨x5_1, rfl, HA, HK1, ⟨m1, rfl⟩⟩ := hrel
    cases gk with
    | zero => exact absurd HA.out (by simp [chapmanref03_In.l0])
    | succ k1 =>
      have H := HA.out
      clear HA
      simp only [chapmanref03_In.l0] at H
      by_cases c3 : x5_1 < (l0.length : Int)
      · rw [if_pos c3] at H
        have c3b0 : decide (x5_1 < (l0.length : Int)) = true := decide_eq_true c3
        clear c3
        by_cases c4 : 0 ≤ x5_1
        · rw [if_pos c4] at H
          have c4b0 : decide (0 ≤ x5_1) = true := decide_eq_true c4
          clear c4
          by_cases c5 : (rd l0 x5_1) = a1
          · rw [if_pos c5] at H
            have c5b0 : ((rd l0 x5_1) == a1) = true := beq_iff_eq.mpr c5
            have c5b1 : ((rd l0 x5_1) != a1) = false := bne_eq_false_iff_eq.mpr c5
            clear c5
            obtain rfl := Option.some.inj H
            have p210 : 0 ≤ (x5_1 : Int) := of_decide_eq_true (by first | (with_reducible assumption) | assumption)
            have q210 : x5_1 < (l0.length : Int) := of_decide_eq_true (by first | (with_reducible assumption) | assumption)
            obtain ⟨ad210, e210, hx210_0⟩ := Kd.at_int HR0.out x5_1 p210 q210
            cases e210
            replace p210 := eq_true p210
            replace q210 := eq_true q210
            go_wp2
            go_ret
            exact ⟨by first | rfl | (simp; done) | (simp [*]; done), by repeat (first | exact Drawn0.refl _ | apply Drawn0.step)⟩
          · rw [if_neg c5] at H
            have c5b0 : ((rd l0 x5_1) == a1) = false := beq_eq_false_iff_ne.mpr c5
            have c5b1 : ((rd l0 x5_1) != a1) = true := bne_iff_ne.mpr c5
            have H' := Aside0.mk H
            clear H
            have p210 : 0 ≤ (x5_1 : Int) := of_decide_eq_true (by first | (with_reducible assumption) | assumption)
            have q210 : x5_1 < (l0.length : Int) := of_decide_eq_true (by first | (with_reducible assumption) | assumption)
            obtain ⟨ad210, e210, hx210_0⟩ := Kd.at_int HR0.out x5_1 p210 q210
            cases e210
            replace p210 := eq_true p210
            replace q210 := eq_true q210
            go_wp2
            go_roundg k1
            case measure => have := HK1.out; omega
            case rel => exact ⟨(wrap64 (x5_1 + 1)), (by first | rfl | (simp; done) | (simp [*]; done)), H', ⟨by have := HK1.out; omega⟩, by repeat (first | exact Drawn0.refl _ | apply Drawn0.step)⟩
        · rw [if_neg c4] at H
          exact absurd H (by simp)
      · rw [if_neg c3] at H
        have c3b0 : decide (x5_1 < (l0.length : Int)) = false := decide_eq_false c3
        clear c3
        obtain rfl := Option.some.inj H
        go_wp2
        go_ret
        exact ⟨by first | rfl | (simp; done) | (simp [*]; done), by repeat (first | exact Drawn0.refl _ | apply Drawn0.step)⟩
end Go.Proofs.Ytckempgpaojljaa.P
end
section
/- The contract of chapmanref36.Made. -/
namespace Go.Proofs.Ytckempgpaojljaa.P
set_option linter.unusedVariables false
set_option linter.unusedSimpArgs false
open Go.RowKit Go.Proofs.YtckempgpaojljaaW.PrintWords Go.Proofs.YtckempgpaojljaaW.PrintLast Go.Proofs.YtckempgpaojljaaW.PrintMore
attribute [local go_sem] Oper.semAt_some
def made10.T10 : Bool × List (List Nat × List Nat) := (true, [([], []), ([], []), ([], []), ([], []), ([2, 3], [2, 3]), ([4], [4]), ([5], [5]), ([6], [6]), ([7], [7]), ([1, 8], [1, 8]), ([], []), ([], []), ([10, 11], [10, 11]), ([12], [12]), ([13], [13]), ([14], [14]), ([15], [15]), ([9, 16], [9, 16]), ([17], [17]), ([0, 18], [0, 18]), ([19, 19, 0, 1, 2, 3, 4, 5, 6, 7, 8, 9, 10, 11, 12, 13, 14, 15, 16, 17, 18, 19], [0, 19])])
def made10.B10 : List Nat := [0, 0, 0, 0, 12, 28, 60, 124, 252, 510, 0, 0, 3072, 7168, 15360, 31744, 64512, 131070, 262142, 524287, 1048575]
theorem made10.tab10 : rtab .any (opsOf Try.f10 10) = made10.T10 := by kernel_rfl
theorem made10.bits10 : waitsOk made10.T10.2 made10.B10 = true := by kernel_rfl
def madeP (p : S50) : S43 := ⟨((4 ^ (p.f0 % 4).toNat : Nat) : Int) + p.f0 / 16, p.f1 * 40⟩
def madeL (l : List S50) : List S43 := (l.take 60).map madeP
def bytes2 (l : List S50) : Prop := ∀ p ∈ l, 0 ≤ p.f0 ∧ p.f0 ≤ 255 ∧ 0 ≤ p.f1 ∧ p.f1 ≤ 255
theorem at_get50 {l : List S50} {k : Nat} (hlt : k < l.length) : l[k]? = some (rd_T50 l k) := by
  simp [rd_T50, List.getD_eq_getElem?_getD, hlt]
theorem R_zero {α : Type} (d : Kd α) (e : Nat) (w : World) (base : Nat) (ok : Nat → Prop) (hb : base ≤ w.heap.size) (ho : ok w.heap.size) : d.R e (w.alloc (.cells #[] e)) base ok (.slice (some ⟨w.heap.size, 0, none⟩) 0 0) [] :=
  ⟨fun k hk => by
    have : w.heap.size = k := by simpa [Value.ownBlock] using hk
    rw [← this]; exact ho, [], ⟨by simp, .inr ⟨w.heap.size, 0, #[], rfl, hb, heap_alloc_new _ _, Nat.le_refl _, Nat.zero_le _, by simp, by simp⟩⟩, Reps.none _ _⟩
theorem madeL_succ {l : List S50} {k : Nat} {p : S50} (h : l[k]? = some p) (hk : k < 60) : (l.take (k + 1)).map madeP = (l.take k).map madeP ++ [madeP p] := by
  rw [List.take_add_one, h]
  simp
set_option maxHeartbeats 1000000 in
set_option maxRecDepth 100000 in
theorem made10 (A : Option Addr) (c : Nat) (l : List S50) (w : World) (hr : Kd.C k50 w A l.length l) (hc : l.length ≤ c) (hb : bytes2 l) :
    Calls Try.prog 10 #[.slice A l.length c] w fun e w' => ∃ v, e = .returned v ∧ Kd.R k43 43 w' w.heap.size (fun _ => True) v (madeL l) ∧ Below w.heap.size w w' := by
  have hl : l.length ≤ 9223372036854775807 := hr.2.1
  have HR := Aside0.mk hr
  have HB0 := Aside0.mk hb
  clear hr hb
  go_enter Try.func10, Try.ntmps10
  go_wp2
  go_loopw [4, 3] (fun v4 v3 w' => ∃ k : Nat, k ≤ l.length ∧ k ≤ 60 ∧ v4 = .int .i64 k ∧ Aside0 (Below w.heap.size w w') ∧ Aside0 (Kd.R k43 43 w' w.heap.size (fun _ => True) v3 ((l.take k).map madeP))) (fun v4 _ _ => 60 - (intOf v4).toNat)
  case atStart => exact ⟨0, by omega, by omega, rfl, ⟨below_alloc (Below.refl _ _) _⟩, ⟨R_zero _ _ _ _ _ (Nat.le_refl _) trivial⟩⟩
  case round =>
    obtain ⟨k, hk, hk6, rfl, HB, HV⟩ := hrel
    by_cases hlt : k < l.length
    · by_cases h60 : k < 60
      · obtain ⟨ad, rfl, h0, h1⟩ := at_T50 HR.out (k : Int) (by omega) (by omega)
        simp only [Int.toNat_natCast] at h0 h1
        have HC0 := Aside0.mk h0
        have HC1 := Aside0.mk h1
        replace h0 := (HB.out.cell (World.block_lt_of_cell? w _ h0)).trans h0
        replace h1 := (HB.out.cell (World.block_lt_of_cell? w _ h1)).trans h1
        have HX := Aside0.mk (at_get50 hlt)
        have hbd := HB0.out _ (List.mem_of_getElem? HX.out)
        generalize rd_T50 l k = p at h0 h1 HX hbd HC0 HC1
        obtain ⟨p0, p1, p2, p3⟩ := hbd
        obtain ⟨f0, hf0⟩ : ∃ f0, f0 = p.f0 := ⟨_, rfl⟩
        obtain ⟨f1, hf1⟩ : ∃ f1, f1 = p.f1 := ⟨_, rfl⟩
        rw [← hf0] at h0 p0 p1 HC0
        rw [← hf1] at h1 p2 p3 HC1
        have HF0 := Aside0.mk hf0
        have HF1 := Aside0.mk hf1
        clear hf0 hf1
        go_wp2
        have hm4 : 0 ≤ f0 % 4 ∧ f0 % 4 ≤ 3 := by omega
        obtain ⟨m, hm⟩ : ∃ m : Nat, f0 % 4 = (m : Int) := ⟨(f0 % 4).toNat, by omega⟩
        have hm3 : m ≤ 3 := by omega
        have HM := Aside0.mk hm
        have HB9 := HB
        have HV9 := HV
        obtain ⟨wo, hwo⟩ : ∃ wo, wo = wr := ⟨_, rfl⟩
        go_loopw [6, 5] (fun v6 v5 w' => ∃ (q : Nat) (n : Int), q ≤ m ∧ v6 = .int .i64 q ∧ v5 = .int .i64 n ∧ 1 ≤ n ∧ n ≤ 64 ∧ Aside0 (n = ((4 ^ q : Nat) : Int)) ∧ w' = wo) (fun v6 _ _ => 4 - (intOf v6).toNat)
        case atStart => exact ⟨0, 1, by omega, rfl, rfl, by omega, by omega, ⟨rfl⟩, hwo.symm⟩
        case round =>
          subst hwo
          obtain ⟨q, n, hq, rfl, rfl, n1, n2, HN, hwr⟩ := hrel
          subst hwr
          by_cases hq2 : q < m
          · go_wp2
            refine ⟨⟨q + 1, n * 4, by omega, by go_num, rfl, by omega, ?_, ⟨by rw [HN.out, Nat.pow_succ]; push_cast; rfl⟩, trivial⟩, by simp [intOf]; omega⟩
            have h1 := HN.out
            have h2 : 4 ^ q ≤ 4 ^ 2 := Nat.pow_le_pow_right (by decide) (by omega)
            omega
          · obtain rfl : q = m := by omega
            go_wp2
            refine start_ (n := 21) (S := fun w' => w'.cell? (ad.add (k * 2)) = some (.int .u8 f0) ∧ w'.cell? ⟨(ad.add (k * 2)).block, (ad.add (k * 2)).off + 1, none⟩ = some (.int .u8 f1)) (ds := []) #[false, false, false, false, false, false, false, false, false, false, false, false, false, false, false, false, false, false, false, false, false] (by kernel_rfl) rfl rfl ⟨h0, h1⟩ (fun hHeld => ?_); refine with_tabW made10.tab10 made10.bits10 (fun HT_ HW_ => ?_)
            refine pure_ (i := 0) (N := some 31) (v := ?_) (a' := ?_) #[true, false, false, false, false, false, false, false, false, false, false, false, false, false, false, false, false, false, false, false, false] rfl rfl (any_of HT_.out (by kernel_rfl)) (fun _ _ _ h => h) (Or.inl ⟨by rfl, ?_⟩) ?_ ?_
            rotate_left
            · intro w'; go_simp; with_reducible rfl
            rotate_left
            · simp only [Act.put, List.setIfInBounds_toArray, List.set_cons_zero, List.set_cons_succ, i64_w, i32_w]; rfl
            refine pure_ (i := 1) (N := some 32) (v := ?_) (a' := ?_) #[true, true, false, false, false, false, false, false, false, false, false, false, false, false, false, false, false, false, false, false, false] rfl rfl (any_of HT_.out (by kernel_rfl)) (fun _ _ _ h => h) (Or.inl ⟨by rfl, ?_⟩) ?_ ?_
            rotate_left
            · intro w'; go_simp; with_reducible rfl
            rotate_left
            · simp only [Act.put, List.setIfInBounds_toArray, List.set_cons_zero, List.set_cons_succ, i64_w, i32_w]; rfl
            refine pure_ (i := 2) (N := some 33) (v := ?_) (a' := ?_) #[true, true, true, false, false, false, false, false, false, false, false, false, false, false, false, false, false, false, false, false, false] rfl rfl (any_of HT_.out (by kernel_rfl)) (fun _ _ _ h => h) (Or.inl ⟨by rfl, ?_⟩) ?_ ?_
            rotate_left
            · intro w'; go_simp; with_reducible rfl
            rotate_left
            · simp only [Act.put, List.setIfInBounds_toArray, List.set_cons_zero, List.set_cons_succ, i64_w, i32_w]; rfl
            refine pure_ (i := 3) (N := some 34) (v := ?_) (a' := ?_) #[true, true, true, true, false, false, false, false, false, false, false, false, false, false, false, false, false, false, false, false, false] rfl rfl (any_of HT_.out (by kernel_rfl)) (fun _ _ _ h => h) (Or.inl ⟨by rfl, ?_⟩) ?_ ?_
            rotate_left
            · intro w'; go_simp; with_reducible rfl
            rotate_left
            · simp only [Act.put, List.setIfInBounds_toArray, List.set_cons_zero, List.set_cons_succ, i64_w, i32_w]; rfl
            refine pure_ (i := 4) (N := some 35) (v := ?_) (a' := ?_) #[true, true, true, true, true, false, false, false, false, false, false, false, false, false, false, false, false, false, false, false, false] rfl rfl (any_of HT_.out (by kernel_rfl)) (fun _ _ _ h => h) (Or.inl ⟨by rfl, ?_⟩) ?_ ?_
            rotate_left
            · intro w'; go_simp; with_reducible rfl
            rotate_left
            · simp only [Act.put, List.setIfInBounds_toArray, List.set_cons_zero, List.set_cons_succ, i64_w, i32_w]; rfl
            refine pure_ (i := 5) (N := some 36) (v := ?_) (a' := ?_) #[true, true, true, true, true, true, false, false, false, false, false, false, false, false, false, false, false, false, false, false, false] rfl rfl (any_of HT_.out (by kernel_rfl)) (fun _ _ _ h => h) (Or.inl ⟨by rfl, ?_⟩) ?_ ?_
            rotate_left
            · intro w'; go_simp; with_reducible rfl
            rotate_left
            · simp only [Act.put, List.setIfInBounds_toArray, List.set_cons_zero, List.set_cons_succ, i64_w, i32_w]; rfl
            refine pure_ (i := 10) (N := some 41) (v := ?_) (a' := ?_) #[true, true, true, true, true, true, false, false, false, false, true, false, false, false, false, false, false, false, false, false, false] rfl rfl (any_of HT_.out (by kernel_rfl)) (fun _ _ _ h => h) (Or.inl ⟨by rfl, ?_⟩) ?_ ?_
            rotate_left
            · intro w'; go_simp; with_reducible rfl
            rotate_left
            · simp only [Act.put, List.setIfInBounds_toArray, List.set_cons_zero, List.set_cons_succ, i64_w, i32_w]; rfl
            refine pure_ (i := 11) (N := some 42) (v := ?_) (a' := ?_) #[true, true, true, true, true, true, false, false, false, false, true, true, false, false, false, false, false, false, false, false, false] rfl rfl (any_of HT_.out (by kernel_rfl)) (fun _ _ _ h => h) (Or.inl ⟨by rfl, ?_⟩) ?_ ?_
            rotate_left
            · intro w'; go_simp; with_reducible rfl
            rotate_left
            · simp only [Act.put, List.setIfInBounds_toArray, List.set_cons_zero, List.set_cons_succ, i64_w, i32_w]; rfl
            refine pure_ (i := 12) (N := some 43) (v := ?_) (a' := ?_) #[true, true, true, true, true, true, false, false, false, false, true, true, true, false, false, false, false, false, false, false, false] rfl rfl (any_of HT_.out (by kernel_rfl)) (fun _ _ _ h => h) (Or.inl ⟨by rfl, ?_⟩) ?_ ?_
            rotate_left
            · intro w'; go_simp; with_reducible rfl
            rotate_left
            · simp only [Act.put, List.setIfInBounds_toArray, List.set_cons_zero, List.set_cons_succ, i64_w, i32_w]; rfl
            refine pure_ (i := 13) (N := some 44) (v := ?_) (a' := ?_) #[true, true, true, true, true, true, false, false, false, false, true, true, true, true, false, false, false, false, false, false, false] rfl rfl (any_of HT_.out (by kernel_rfl)) (fun _ _ _ h => h) (Or.inl ⟨by rfl, ?_⟩) ?_ ?_
            rotate_left
            · intro w'; go_simp; with_reducible rfl
            rotate_left
            · simp only [Act.put, List.setIfInBounds_toArray, List.set_cons_zero, List.set_cons_succ, i64_w, i32_w]; rfl
            refine take_ (i := 6) (N := some 37) (v := ?_) (a' := ?_) #[true, true, true, true, true, true, true, false, false, false, true, true, true, true, false, false, false, false, false, false, false] rfl rfl (take_ofW HT_.out HW_.out (by kernel_rfl)) (fun _ _ _ h => h) (Or.inl ⟨by rfl, ?_⟩) hHeld ?_ ?_
            rotate_left
            · rintro w' ⟨s0, s1⟩; go_simp; with_reducible rfl
            rotate_left
            · simp only [Act.put, List.setIfInBounds_toArray, List.set_cons_zero, List.set_cons_succ, i64_w, i32_w]; rfl
            refine pure_ (i := 7) (N := some 38) (v := ?_) (a' := ?_) #[true, true, true, true, true, true, true, true, false, false, true, true, true, true, false, false, false, false, false, false, false] rfl rfl (any_of HT_.out (by kernel_rfl)) (fun _ _ _ h => h) (Or.inl ⟨by rfl, ?_⟩) ?_ ?_
            rotate_left
            · intro w'; go_simp; with_reducible rfl
            rotate_left
            · simp only [Act.put, List.setIfInBounds_toArray, List.set_cons_zero, List.set_cons_succ, i64_w, i32_w]; rfl
            refine pure_ (i := 8) (N := some 39) (v := ?_) (a' := ?_) #[true, true, true, true, true, true, true, true, true, false, true, true, true, true, false, false, false, false, false, false, false] rfl rfl (any_of HT_.out (by kernel_rfl)) (fun _ _ _ h => h) (Or.inl ⟨by rfl, ?_⟩) ?_ ?_
            rotate_left
            · intro w'; go_simp; with_reducible rfl
            rotate_left
            · simp only [Act.put, List.setIfInBounds_toArray, List.set_cons_zero, List.set_cons_succ, i64_w, i32_w]; rfl
            refine pure_ (i := 9) (N := some 40) (v := ?_) (a' := ?_) #[true, true, true, true, true, true, true, true, true, true, true, true, true, true, false, false, false, false, false, false, false] rfl rfl (any_of HT_.out (by kernel_rfl)) (fun _ _ _ h => h) (Or.inl ⟨by rfl, ?_⟩) ?_ ?_
            rotate_left
            · intro w'; go_simp; with_reducible rfl
            rotate_left
            · simp only [Act.put, List.setIfInBounds_toArray, List.set_cons_zero, List.set_cons_succ, i64_w, i32_w]; rfl
            refine take_ (i := 14) (N := some 45) (v := ?_) (a' := ?_) #[true, true, true, true, true, true, true, true, true, true, true, true, true, true, true, false, false, false, false, false, false] rfl rfl (take_ofW HT_.out HW_.out (by kernel_rfl)) (fun _ _ _ h => h) (Or.inl ⟨by rfl, ?_⟩) hHeld ?_ ?_
            rotate_left
            · rintro w' ⟨s0, s1⟩; go_simp; with_reducible rfl
            rotate_left
            · simp only [Act.put, List.setIfInBounds_toArray, List.set_cons_zero, List.set_cons_succ, i64_w, i32_w]; rfl
            refine pure_ (i := 15) (N := some 46) (v := ?_) (a' := ?_) #[true, true, true, true, true, true, true, true, true, true, true, true, true, true, true, true, false, false, false, false, false] rfl rfl (any_of HT_.out (by kernel_rfl)) (fun _ _ _ h => h) (Or.inl ⟨by rfl, ?_⟩) ?_ ?_
            rotate_left
            · intro w'; go_simp; with_reducible rfl
            rotate_left
            · simp only [Act.put, List.setIfInBounds_toArray, List.set_cons_zero, List.set_cons_succ, i64_w, i32_w]; rfl
            refine pure_ (i := 16) (N := some 47) (v := ?_) (a' := ?_) #[true, true, true, true, true, true, true, true, true, true, true, true, true, true, true, true, true, false, false, false, false] rfl rfl (any_of HT_.out (by kernel_rfl)) (fun _ _ _ h => h) (Or.inl ⟨by rfl, ?_⟩) ?_ ?_
            rotate_left
            · intro w'; go_simp; with_reducible rfl
            rotate_left
            · simp only [Act.put, List.setIfInBounds_toArray, List.set_cons_zero, List.set_cons_succ, i64_w, i32_w]; rfl
            refine pure_ (i := 17) (N := some 48) (v := ?_) (a' := ?_) #[true, true, true, true, true, true, true, true, true, true, true, true, true, true, true, true, true, true, false, false, false] rfl rfl (any_of HT_.out (by kernel_rfl)) (fun _ _ _ h => h) (Or.inl ⟨by rfl, ?_⟩) ?_ ?_
            rotate_left
            · intro w'; go_simp; with_reducible rfl
            rotate_left
            · simp only [Act.put, List.setIfInBounds_toArray, List.set_cons_zero, List.set_cons_succ, i64_w, i32_w]; rfl
            refine one_ (i := 18) (N := some 49) #[true, true, true, true, true, true, true, true, true, true, true, true, true, true, true, true, true, true, true, false, false] rfl rfl (one_of HT_.out (by kernel_rfl)) (by decide) (fun K hK => ?_)
            generalize he : wrap64 (n + wrap64 (IntKind.u8.wrap (f0.tdiv 16))) = e
            generalize he2 : wrap64 (wrap64 f1 * 40) = e2
            have HE := Aside0.mk he
            have HE2 := Aside0.mk he2
            clear he he2
            refine event_step (w1 := wr.drew.alloc (.cells #[.int .i64 e, .int .i64 e2] 43)) (v := .slice (some ⟨wr.heap.size, 0, none⟩) 1 1) (by rfl) ?_ ?_
            · go_simp
            have hb1 : Below wr.heap.size wr (wr.drew.alloc (.cells #[.int .i64 e, .int .i64 e2] 43)) := (Below.refl _ wr).drew.alloc (Nat.le_refl _) _
            have HB1 := Aside0.mk hb1
            clear hb1
            refine hK.out _ _ ⟨(HB1.out.cell (World.block_lt_of_cell? wr _ h0)).trans h0, (HB1.out.cell (World.block_lt_of_cell? wr _ h1)).trans h1⟩ (fun hHeld => ?_)
            clear hK K
            refine norm_ (a' := ?_) ?_ ?_
            rotate_left
            · show Act.put _ (some 49) _ = _; simp only [Act.put, List.setIfInBounds_toArray, List.set_cons_zero, List.set_cons_succ, i64_w, i32_w]; rfl
            refine one_ (i := 19) (N := some 50) #[true, true, true, true, true, true, true, true, true, true, true, true, true, true, true, true, true, true, true, true, false] rfl rfl (one_of HT_.out (by kernel_rfl)) (by decide) (fun K hK => ?_)
            refine Kd.R_append_step k43 (w0 := w) w.heap.size (by rfl) (.tmp 31) (.tmp 49) 23 43 (.agg #[.int .i64 0, .int .i64 0]) 16 rfl Try.underlying23 info43 rfl (by decide) (by decide) _ _ ⟨e, e2⟩ [.int .i64 e, .int .i64 e2] (fun _ => True) (fun _ => False) rfl rfl (k43_mkM _ _ _ ⟨e, e2⟩) (fun b hb => hb.elim) (fun _ _ => trivial) (Kd.R_drew HV9.out) HB9.out.drew HB9.out.size (by rw [List.length_map, List.length_take]; omega) ?_
            intro v1 w5 ho hb hg hat
            have HV5 := Aside0.mk ho
            have HB5 := Aside0.mk hb
            refine hK.out _ _ ⟨(hb.cell (World.block_lt_of_cell? w _ HC0.out)).trans HC0.out, (hb.cell (World.block_lt_of_cell? w _ HC1.out)).trans HC1.out⟩ (fun hHeld => ?_)
            clear hK K ho hb hg hat
            refine norm_ (a' := ?_) ?_ ?_
            rotate_left
            · show Act.put _ (some 50) _ = _; simp only [Act.put, List.setIfInBounds_toArray, List.set_cons_zero, List.set_cons_succ, i64_w, i32_w]; rfl
            refine pure_ (i := 20) (N := some 3) (v := ?_) (a' := ?_) #[true, true, true, true, true, true, true, true, true, true, true, true, true, true, true, true, true, true, true, true, true] rfl rfl (any_of HT_.out (by kernel_rfl)) (fun _ _ _ h => h) (Or.inl ⟨by rfl, ?_⟩) ?_ ?_
            rotate_left
            · intro w'; go_simp; with_reducible rfl
            rotate_left
            · simp only [Act.put, List.setIfInBounds_toArray, List.set_cons_zero, List.set_cons_succ, i64_w, i32_w]; rfl
            refine done_ (done_of HT_.out (by kernel_rfl)) ?_
            clear hHeld HT_ HW_ h0 h1
            have hpe : (⟨e, e2⟩ : S43) = madeP p := by
              have e1 := HE.out
              have e3 := HE2.out
              unfold madeP
              rw [← HF0.out, ← HF1.out, ← e1, ← e3, HM.out, Int.toNat_natCast, ← HN.out]
              have ht : f0.tdiv 16 = f0 / 16 := Int.tdiv_eq_ediv_of_nonneg (by omega)
              rw [ht]
              congr 1
              · rw [IntKind.wrap_u8]; unfold wrap64; omega
              · unfold wrap64; omega
            have HV6 : Aside0 (Kd.R k43 43 w5 w.heap.size (fun _ => True) v1 ((l.take (k + 1)).map madeP)) := ⟨by rw [madeL_succ HX.out h60, ← hpe]; exact HV5.out⟩
            clear hpe
            go_wp2
            go_roundw
            case rel => exact ⟨k + 1, by omega, by omega, by go_num, HB5, HV6⟩
            case measure => simp [intOf]; omega
      · go_wp2
        go_ret
        obtain rfl : k = 60 := by omega
        exact ⟨_, rfl, HV.out, HB.out⟩
    · obtain rfl : k = l.length := by omega
      go_wp2
      go_ret
      exact ⟨_, rfl, by rw [madeL, List.take_of_length_le (by omega)]; have := HV.out; rw [List.take_length] at this; exact this, HB.out⟩
end Go.Proofs.Ytckempgpaojljaa.P
end
section
/- What the printed functions tell, in plain terms: pieces, levels, validity, equality of lists, sums. -/
namespace Go.Proofs.Ytckempgpaojljaa.P
set_option linter.unusedVariables false
set_option linter.unusedSimpArgs false
open Go.RowKit Go.Proofs.YtckempgpaojljaaW.PrintWords Go.Proofs.YtckempgpaojljaaW.PrintLast Go.Proofs.YtckempgpaojljaaW.PrintMore
def Evt {α : Type} (g : Nat → Option α) (r : α) : Prop := ∃ K, ∀ k, K ≤ k → g k = some r
theorem Evt.pure {α : Type} (r : α) : Evt (fun _ => some r) r := ⟨0, fun _ _ => rfl⟩
theorem Evt.of {α : Type} {g : Nat → Option α} {r : α} (h : ∀ k, g k = some r) : Evt g r := ⟨0, fun k _ => h k⟩
theorem Evt.bind {α β : Type} {g : Nat → Option α} {h : Nat → α → Option β} {a : α} {r : β} (hg : Evt g a) (hh : Evt (fun k => h k a) r) : Evt (fun k => (g k).bind (h k)) r := by
  obtain ⟨K1, h1⟩ := hg
  obtain ⟨K2, h2⟩ := hh
  refine ⟨max K1 K2, fun k hk => ?_⟩
  show (g k).bind (h k) = some r
  rw [h1 k (by omega)]
  exact h2 k (by omega)
theorem Evt.step {α : Type} {g b : Nat → Option α} {r : α} (hb : Evt b r) (h : ∀ k, g (k + 1) = b k) : Evt g r := by
  obtain ⟨K, hK⟩ := hb
  refine ⟨K + 1, fun k hk => ?_⟩
  obtain ⟨m, rfl⟩ : ∃ m, k = m + 1 := ⟨k - 1, by omega⟩
  rw [h m]
  exact hK m (by omega)
theorem Evt.step' {α : Type} {g b : Nat → Option α} {r : α} (hb : Evt b r) (h : ∃ K, ∀ k, K ≤ k → g (k + 1) = b k) : Evt g r := by
  obtain ⟨K, hK⟩ := hb
  obtain ⟨K2, h2⟩ := h
  refine ⟨max K K2 + 1, fun k hk => ?_⟩
  obtain ⟨m, rfl⟩ : ∃ m, k = m + 1 := ⟨k - 1, by omega⟩
  rw [h2 m (by omega)]
  exact hK m (by omega)
theorem Evt.congr {α : Type} {g b : Nat → Option α} {r : α} (hb : Evt b r) (h : ∃ K, ∀ k, K ≤ k → g k = b k) : Evt g r := by
  obtain ⟨K, hK⟩ := hb
  obtain ⟨K2, h2⟩ := h
  refine ⟨max K K2, fun k hk => ?_⟩
  rw [h2 k (by omega)]
  exact hK k (by omega)
theorem Evt.loop {α : Type} (g : Nat → Nat → Option α) (n : Nat) {r : α} (he : Evt (g n) r) (hs : ∀ i, i < n → ∀ k, g i (k + 1) = g (i + 1) k) : Evt (g 0) r := by
  have : ∀ j, j ≤ n → Evt (g (n - j)) r := by
    intro j
    induction j with
    | zero => intro _; exact he
    | succ j ih =>
      intro hj
      refine (ih (by omega)).step (fun k => ?_)
      have := hs (n - (j + 1)) (by omega) k
      rw [show n - (j + 1) + 1 = n - j by omega] at this
      exact this
  have := this n (Nat.le_refl _)
  rwa [Nat.sub_self] at this
theorem Evt.loop' {α : Type} (g : Nat → Nat → Option α) (n : Nat) {r : α} (he : Evt (g n) r) (hs : ∀ i, i < n → ∃ K, ∀ k, K ≤ k → g i (k + 1) = g (i + 1) k) : Evt (g 0) r := by
  have : ∀ j, j ≤ n → Evt (g (n - j)) r := by
    intro j
    induction j with
    | zero => intro _; exact he
    | succ j ih =>
      intro hj
      refine (ih (by omega)).step' ?_
      have := hs (n - (j + 1)) (by omega)
      rw [show n - (j + 1) + 1 = n - j by omega] at this
      exact this
  have := this n (Nat.le_refl _)
  rwa [Nat.sub_self] at this
theorem w64in (n : Int) (h : -9223372036854775808 ≤ n ∧ n ≤ 9223372036854775807) : wrap64 n = n := by unfold wrap64; omega
theorem w64s {i : Nat} (h : i < 9223372036854775807) : wrap64 ((i : Int) + 1) = ((i + 1 : Nat) : Int) := (w64in ((i : Int) + 1) (by omega)).trans (by omega)
theorem rd43 {l : List S43} {i : Nat} (h : i < l.length) : rd_T43 l (i : Int) = l[i] := by simp [rd_T43, List.getD_eq_getElem?_getD, h]
theorem rd59 {l : List S59} {i : Nat} (h : i < l.length) : rd_T59 l (i : Int) = l[i] := by simp [rd_T59, List.getD_eq_getElem?_getD, h]
theorem rdL5 {l : List (List Int)} {i : Nat} (h : i < l.length) : rd_L5 l (i : Int) = l[i] := by simp [rd_L5, List.getD_eq_getElem?_getD, h]
theorem rdI {l : List Int} {i : Nat} (h : i < l.length) : rd l (i : Int) = l[i] := by simp [rd, List.getD_eq_getElem?_getD, h]
def pcs (l : List S43) : List S59 := l.map fun p => ⟨p.f0, p.f1⟩
theorem pcs_length (l : List S43) : (pcs l).length = l.length := by simp [pcs]
def unp (l : List S59) : List S43 := l.map fun p => ⟨p.f0, p.f1⟩
theorem map_take_succ {α β : Type} (f : α → β) (l : List α) {i : Nat} (h : i < l.length) : (l.take (i + 1)).map f = (l.take i).map f ++ [f l[i]] := by
  rw [List.take_add_one, List.getElem?_eq_getElem h, List.map_append]
  rfl
theorem pieces_ev (l : List S43) (h : l.length ≤ 1000000) : Evt (fun k => chapmanlaw36_pieces.f k l) (pcs l) := by
  refine Evt.loop (fun i k => chapmanlaw36_pieces.l0 k l ((l.take i).map fun p => ⟨p.f0, p.f1⟩) (i : Int)) l.length ?_ (fun i hi k => ?_)
  · refine (Evt.pure _).step (fun k => ?_)
    show (if _ then _ else _) = _
    rw [if_neg (by omega), List.take_length]
    rfl
  · show (if _ then _ else _) = _
    rw [if_pos (by omega), if_pos (by omega), if_pos (by rw [List.length_map, List.length_take]; omega), w64s (by omega), rd43 hi, map_take_succ _ _ hi]
theorem level_ev (n : Int) (h : n ≤ 9223372036854775807) : Evt (fun k => cost_Level.f k n) (lv n.toNat) := by
  have key : ∀ (m : Nat) (n : Int) (j : Int), n.toNat ≤ m → n ≤ 9223372036854775807 → -1 ≤ j → j + 1 + lv n.toNat ≤ 1000 → Evt (fun k => cost_Level.l0 k n j) (j + 1 + lv n.toNat) := by
    intro m
    induction m using Nat.strongRecOn with
    | _ m ih =>
      intro n j hm hn hj hb
      by_cases hp : 0 < n
      · have e := lv_pos n.toNat (by omega)
        have e2 : (Int.tdiv n 4).toNat = n.toNat / 4 := by
          rw [Int.tdiv_eq_ediv_of_nonneg (by omega)]; omega
        have hb2 := lv_bd (n.toNat / 4)
        have e3 : wrap64 (Int.tdiv n 4) = Int.tdiv n 4 := w64in _ (by rw [Int.tdiv_eq_ediv_of_nonneg (by omega)]; omega)
        have e4 : wrap64 (j + 1) = j + 1 := w64in _ (by omega)
        have := ih (n.toNat / 4) (by omega) (Int.tdiv n 4) (j + 1) (by rw [e2]; exact Nat.le_refl _) (by rw [Int.tdiv_eq_ediv_of_nonneg (by omega)]; omega) (by omega) (by rw [e2]; omega)
        rw [e2] at this
        rw [show j + 1 + lv n.toNat = j + 1 + 1 + lv (n.toNat / 4) by omega]
        refine this.step (fun k => ?_)
        show (if _ then _ else _) = _
        rw [if_pos (by omega), e3, e4]
      · have e : n.toNat = 0 := by omega
        rw [e, lv_zero]
        refine (Evt.pure _).step (fun k => ?_)
        show (if _ then _ else _) = _
        rw [if_neg (by omega)]
        congr 1
        omega
  have h2 := lv_lt 32 n.toNat (by omega)
  have := key n.toNat n (-1) (Nat.le_refl _) h (by omega) (by omega)
  rwa [show (-1 : Int) + 1 + lv n.toNat = lv n.toNat by omega] at this
theorem rlevel_ev (n : Int) (h : n ≤ 9223372036854775807) : Evt (fun k => chapmanref36_Level.f k n) (lv n.toNat) := by
  have e : ∀ k n j, chapmanref36_Level.l0 k n j = cost_Level.l0 k n j := by
    intro k
    induction k with
    | zero => intros; rfl
    | succ k ih =>
      intro n j
      show (if _ then _ else _) = (if _ then _ else _)
      rw [ih]
  have := level_ev n h
  refine this.congr ⟨0, fun k _ => e k n (-1)⟩
theorem rvalid_ev (l : List S43) (h : l.length ≤ 1000000) : Evt (fun k => chapmanref36_Valid.f k l) (validL (pcs l)) := by
  have key : ∀ m i : Nat, i + m = l.length → Evt (fun k => chapmanref36_Valid.l0 k l (i : Int)) (decide (l.length ≤ 512) && (l.drop i).all fun p => !oddP ⟨p.f0, p.f1⟩) := by
    intro m
    induction m with
    | zero =>
      intro i hi
      refine (Evt.pure _).step (fun k => ?_)
      show (if _ then _ else _) = _
      rw [if_neg (by omega), List.drop_of_length_le (by omega), List.all_nil, Bool.and_true]
      congr 1
      exact decide_eq_decide.2 (by omega)
    | succ m ih =>
      intro i hi
      have hlt : i < l.length := by omega
      have ih := ih (i + 1) (by omega)
      rw [List.drop_eq_getElem_cons hlt, List.all_cons]
      by_cases ho : oddP ⟨l[i].f0, l[i].f1⟩ = true
      · rw [ho]
        simp only [Bool.not_true, Bool.false_and, Bool.and_false]
        refine (Evt.pure _).step (fun k => ?_)
        show (if _ then _ else _) = _
        rw [if_pos (by omega), if_pos (by omega), rd43 hlt]
        simp only [oddP, Bool.or_eq_true, decide_eq_true_eq] at ho
        repeat' (split; · rfl)
        omega
      · have ho' : oddP ⟨l[i].f0, l[i].f1⟩ = false := by simpa using ho
        rw [ho']
        simp only [Bool.not_false, Bool.true_and]
        refine ih.step (fun k => ?_)
        show (if _ then _ else _) = _
        rw [if_pos (by omega), if_pos (by omega), rd43 hlt]
        simp only [oddP, Bool.or_eq_false_iff, decide_eq_false_iff_not] at ho'
        rw [if_neg (by omega), if_neg (by omega), if_neg (by omega), if_neg (by omega), w64s (by omega)]
  have := key l.length 0 (by omega)
  simp only [List.drop_zero] at this
  have e : validL (pcs l) = (decide (l.length ≤ 512) && l.all fun p => !oddP ⟨p.f0, p.f1⟩) := by
    simp [validL, pcs, List.all_map]
    rfl
  rw [e]
  exact this
end Go.Proofs.Ytckempgpaojljaa.P
end
section
/- What the printed functions tell, in plain terms: equality of lists, sums, sorted unions, membership. -/
namespace Go.Proofs.Ytckempgpaojljaa.P
set_option linter.unusedVariables false
set_option linter.unusedSimpArgs false
open Go.RowKit Go.Proofs.YtckempgpaojljaaW.PrintWords Go.Proofs.YtckempgpaojljaaW.PrintLast Go.Proofs.YtckempgpaojljaaW.PrintMore
theorem cdec_eq {α : Type} [DecidableEq α] {x y : α} {a b : List α} (e : x = y) : decide (x :: a = y :: b) = decide (a = b) := decide_eq_decide.2 (by rw [List.cons.injEq]; exact ⟨fun h => h.2, fun h => ⟨e, h⟩⟩)
theorem cdec_ne {α : Type} [DecidableEq α] {x y : α} {a b : List α} (e : ¬ x = y) : decide (x :: a = y :: b) = false := decide_eq_false (by rw [List.cons.injEq]; exact fun h => e h.1)
theorem mdec_ne {x a : Int} {l : List Int} (e : ¬ x = a) : decide (a ∈ x :: l) = decide (a ∈ l) := decide_eq_decide.2 (by rw [List.mem_cons]; exact ⟨fun h => h.elim (fun h => absurd h.symm e) id, Or.inr⟩)
theorem mdec_eq {x a : Int} {l : List Int} (e : x = a) : decide (a ∈ x :: l) = true := decide_eq_true (by rw [e]; exact List.mem_cons_self)
theorem ints_ev (a b : List Int) (h : a.length ≤ 1000000) : Evt (fun k => chapmanref03_Ints.f k a b) (decide (a = b)) := by
  by_cases hl : a.length = b.length
  · have key : ∀ m i : Nat, i + m = a.length → Evt (fun k => chapmanref03_Ints.l0 k a b (i : Int)) (decide (a.drop i = b.drop i)) := by
      intro m
      induction m with
      | zero =>
        intro i hi
        refine (Evt.pure _).step (fun k => ?_)
        show (if _ then _ else _) = _
        rw [if_neg (by omega), List.drop_of_length_le (by omega), List.drop_of_length_le (by omega)]
        rfl
      | succ m ih =>
        intro i hi
        have h1 : i < a.length := by omega
        have h2 : i < b.length := by omega
        have ih := ih (i + 1) (by omega)
        rw [List.drop_eq_getElem_cons h1, List.drop_eq_getElem_cons h2]
        by_cases e : a[i] = b[i]
        · rw [cdec_eq e]
          refine ih.step (fun k => ?_)
          show (if _ then _ else _) = _
          rw [if_pos (by omega), if_pos (by omega), if_pos (by omega), rdI h1, rdI h2, if_pos e, w64s (by omega)]
        · rw [cdec_ne e]
          refine (Evt.pure _).step (fun k => ?_)
          show (if _ then _ else _) = _
          rw [if_pos (by omega), if_pos (by omega), if_pos (by omega), rdI h1, rdI h2, if_neg e]
    have := key a.length 0 (by omega)
    simp only [List.drop_zero] at this
    refine this.congr ⟨0, fun k _ => ?_⟩
    show (if _ then _ else _) = _
    rw [if_pos (by omega)]
    rfl
  · rw [decide_eq_false (fun e => hl (by rw [e]))]
    refine Evt.of (fun k => ?_)
    show (if _ then _ else _) = _
    rw [if_neg (by omega)]
theorem sameGroups_ev (a b : List (List Int)) (h : a.length ≤ 1000000) (hi : ∀ x ∈ a, x.length ≤ 1000000) : Evt (fun k => chapmanref36_SameGroups.f k a b) (decide (a = b)) := by
  by_cases hl : a.length = b.length
  · have key : ∀ m i : Nat, i + m = a.length → Evt (fun k => chapmanref36_SameGroups.l0 k a b (i : Int)) (decide (a.drop i = b.drop i)) := by
      intro m
      induction m with
      | zero =>
        intro i hi
        refine (Evt.pure _).step (fun k => ?_)
        show (if _ then _ else _) = _
        rw [if_neg (by omega), List.drop_of_length_le (by omega), List.drop_of_length_le (by omega)]
        rfl
      | succ m ih =>
        intro i him
        have h1 : i < a.length := by omega
        have h2 : i < b.length := by omega
        have ih := ih (i + 1) (by omega)
        have hints := ints_ev a[i] b[i] (hi _ (List.getElem_mem h1))
        rw [List.drop_eq_getElem_cons h1, List.drop_eq_getElem_cons h2]
        by_cases e : a[i] = b[i]
        · rw [cdec_eq e]
          obtain ⟨K, hK⟩ := hints
          refine ih.step' ⟨K, fun k hk => ?_⟩
          show (if _ then _ else _) = _
          rw [if_pos (by omega), if_pos (by omega), if_pos (by omega), rdL5 h1, rdL5 h2, show chapmanref03_Ints.f k a[i] b[i] = _ from hK k hk, decide_eq_true e, Option.bind_some, if_pos rfl, w64s (by omega)]
        · rw [cdec_ne e]
          obtain ⟨K, hK⟩ := hints
          refine (Evt.pure _).step' ⟨K, fun k hk => ?_⟩
          show (if _ then _ else _) = _
          rw [if_pos (by omega), if_pos (by omega), if_pos (by omega), rdL5 h1, rdL5 h2, show chapmanref03_Ints.f k a[i] b[i] = _ from hK k hk, decide_eq_false e]
          rfl
    have := key a.length 0 (by omega)
    simp only [List.drop_zero] at this
    refine this.congr ⟨0, fun k _ => ?_⟩
    show (if _ then _ else _) = _
    rw [if_pos (by omega)]
    rfl
  · rw [decide_eq_false (fun e => hl (by rw [e]))]
    refine Evt.of (fun k => ?_)
    show (if _ then _ else _) = _
    rw [if_neg (by omega)]
theorem samePieces_ev (a b : List S43) (h : a.length ≤ 1000000) : Evt (fun k => chapmanref36_SamePieces.f k a b) (decide (a.map (fun p => (p.f0, p.f1)) = b.map fun p => (p.f0, p.f1))) := by
  by_cases hl : a.length = b.length
  · have key : ∀ m i : Nat, i + m = a.length → Evt (fun k => chapmanref36_SamePieces.l0 k a b (i : Int)) (decide ((a.drop i).map (fun p => (p.f0, p.f1)) = (b.drop i).map fun p => (p.f0, p.f1))) := by
      intro m
      induction m with
      | zero =>
        intro i hi
        refine (Evt.pure _).step (fun k => ?_)
        show (if _ then _ else _) = _
        rw [if_neg (by omega), List.drop_of_length_le (by omega), List.drop_of_length_le (by omega)]
        rfl
      | succ m ih =>
        intro i him
        have h1 : i < a.length := by omega
        have h2 : i < b.length := by omega
        have ih := ih (i + 1) (by omega)
        rw [List.drop_eq_getElem_cons h1, List.drop_eq_getElem_cons h2, List.map_cons, List.map_cons]
        by_cases e : a[i].f0 = b[i].f0 ∧ a[i].f1 = b[i].f1
        · rw [cdec_eq (Prod.ext e.1 e.2)]
          refine ih.step (fun k => ?_)
          show (if _ then _ else _) = _
          rw [if_pos (by omega), if_pos (by omega), if_pos (by omega), rd43 h1, rd43 h2, if_neg (by simp [e]), w64s (by omega)]
        · rw [cdec_ne (fun h => e ⟨congrArg Prod.fst h, congrArg Prod.snd h⟩)]
          refine (Evt.pure _).step (fun k => ?_)
          show (if _ then _ else _) = _
          rw [if_pos (by omega), if_pos (by omega), if_pos (by omega), rd43 h1, rd43 h2, if_pos (by simp; by_cases e0 : a[i].f0 = b[i].f0 <;> simp_all)]
    have := key a.length 0 (by omega)
    simp only [List.drop_zero] at this
    refine this.congr ⟨0, fun k _ => ?_⟩
    show (if _ then _ else _) = _
    rw [if_pos (by omega)]
    rfl
  · rw [decide_eq_false (fun e => hl (by have := congrArg List.length e; simpa using this))]
    refine Evt.of (fun k => ?_)
    show (if _ then _ else _) = _
    rw [if_neg (by omega)]
theorem samePieces_self (a : List S43) (h : a.length ≤ 1000000) : Evt (fun k => chapmanref36_SamePieces.f k a a) true := by
  have := samePieces_ev a a h
  rwa [decide_eq_true rfl] at this
theorem alike_self (g : List (List Int)) (l : List S43) (n e : Int) (hg : g.length ≤ 1000000) (hi : ∀ x ∈ g, x.length ≤ 1000000) (hl : l.length ≤ 1000000) : Evt (fun k => chapmanref36_Alike.f k g l n e g l n e) true := by
  have h1 := sameGroups_ev g g hg hi
  rw [decide_eq_true rfl] at h1
  have h2 := samePieces_self l hl
  have : Evt (fun k => (chapmanref36_SameGroups.f k g g).bind fun t292 => (if t292 = true then ((chapmanref36_SamePieces.f k l l).bind fun t293 => (some t293)) else (some false))) true := by
    refine h1.bind (h := fun k t => if t = true then ((chapmanref36_SamePieces.f k l l).bind fun t293 => (some t293)) else (some false)) ?_
    simp only [if_true]
    exact h2.bind (h := fun _ t => some t) (Evt.pure _)
  refine this.congr ⟨0, fun k _ => ?_⟩
  show (if _ then _ else _) = _
  rw [if_pos rfl, if_pos rfl]
theorem in_ev (l : List Int) (a : Int) (h : l.length ≤ 1000000) : Evt (fun k => chapmanref03_In.f k l a) (decide (a ∈ l)) := by
  have key : ∀ m i : Nat, i + m = l.length → Evt (fun k => chapmanref03_In.l0 k l a (i : Int)) (decide (a ∈ l.drop i)) := by
    intro m
    induction m with
    | zero =>
      intro i hi
      refine (Evt.pure _).step (fun k => ?_)
      show (if _ then _ else _) = _
      rw [if_neg (by omega), List.drop_of_length_le (by omega)]
      rfl
    | succ m ih =>
      intro i hi
      have h1 : i < l.length := by omega
      have ih := ih (i + 1) (by omega)
      rw [List.drop_eq_getElem_cons h1]
      by_cases e : l[i] = a
      · rw [mdec_eq e]
        refine (Evt.pure _).step (fun k => ?_)
        show (if _ then _ else _) = _
        rw [if_pos (by omega), if_pos (by omega), rdI h1, if_pos e]
      · rw [mdec_ne e]
        refine ih.step (fun k => ?_)
        show (if _ then _ else _) = _
        rw [if_pos (by omega), if_pos (by omega), rdI h1, if_neg e, w64s (by omega)]
  have := key l.length 0 (by omega)
  rw [List.drop_zero] at this
  exact this
theorem sum_ev (l : List S43) (g : List Int) (hg : g.length ≤ 1000) (hi : ∀ i ∈ g, 0 ≤ i ∧ i < l.length) (hb : ∀ p ∈ l, 0 ≤ p.f0 ∧ p.f0 ≤ 1000000000000 ∧ 0 ≤ p.f1 ∧ p.f1 ≤ 1000000000000) :
    Evt (fun k => chapmanref36_sum.f k l g) (sumG (fun i => (rd_T43 l i).f0) g, sumG (fun i => (rd_T43 l i).f1) g) := by
  have hm : ∀ i ∈ g, rd_T43 l i ∈ l := fun i h => by
    have := hi i h
    have h2 : i.toNat < l.length := by omega
    simp [rd_T43, List.getD_eq_getElem?_getD, h2]
  have b0 := psum_bd (fun i => (rd_T43 l i).f0) g 1000000000000 (fun i h => by have := hb _ (hm i h); omega)
  have b1 := psum_bd (fun i => (rd_T43 l i).f1) g 1000000000000 (fun i h => by have := hb _ (hm i h); omega)
  have := Evt.loop (fun i k => chapmanref36_sum.l0 k l g (i : Int) (psum (fun i => (rd_T43 l i).f0) g i) (psum (fun i => (rd_T43 l i).f1) g i)) g.length (r := (sumG (fun i => (rd_T43 l i).f0) g, sumG (fun i => (rd_T43 l i).f1) g)) ?_ (fun i hi2 k => ?_)
  · rw [psum_zero, psum_zero] at this
    exact this
  · refine (Evt.pure _).step (fun k => ?_)
    show (if _ then _ else _) = _
    rw [if_neg (by omega), psum_all, psum_all]
    rfl
  · have h1 := hi _ (List.getElem_mem hi2)
    have c0 := b0 (i + 1) (by omega)
    have c1 := b1 (i + 1) (by omega)
    rw [psum_succ _ _ _ _ (List.getElem?_eq_getElem hi2)] at c0 c1
    show (if _ then _ else _) = _
    rw [if_pos (by omega), if_pos (by omega), rdI hi2, if_pos h1.1, if_pos h1.2, w64s (by omega), w64in _ (by omega), w64in _ (by omega)]
    show _ = chapmanref36_sum.l0 k l g ((i + 1 : Nat) : Int) _ _
    rw [psum_succ _ _ _ _ (List.getElem?_eq_getElem hi2), psum_succ _ _ _ _ (List.getElem?_eq_getElem hi2)]
def mrgI (a b : List Int) : List Int := List.merge b a fun x y => decide (x ≤ y)
theorem mrgI_nil (a : List Int) : mrgI a [] = a := by simp [mrgI]
theorem mrgI_nil2 (b : List Int) : mrgI [] b = b := by simp [mrgI]
theorem mrgI_cons (x : Int) (a : List Int) (y : Int) (b : List Int) : mrgI (x :: a) (y :: b) = if x < y then x :: mrgI a (y :: b) else y :: mrgI (x :: a) b := by
  unfold mrgI
  rw [List.cons_merge_cons]
  by_cases h : x < y
  · rw [if_pos h, if_neg (by simp; omega)]
  · rw [if_neg h, if_pos (by simp; omega)]
theorem mrgI_perm (a b : List Int) : (mrgI a b).Perm (b ++ a) := List.merge_perm_append _
theorem le_trans' (a b c : Int) : decide (a ≤ b) = true → decide (b ≤ c) = true → decide (a ≤ c) = true := by simp; omega
theorem le_total' (a b : Int) : (decide (a ≤ b) || decide (b ≤ a)) = true := by simp; omega
theorem sortI_perm (l : List Int) : (sortI l).Perm l := List.mergeSort_perm _ _
theorem sortI_sorted (l : List Int) : (sortI l).Pairwise fun x y => decide (x ≤ y) = true := List.pairwise_mergeSort le_trans' le_total' l
theorem sorted_unique {l l' : List Int} (h : l.Pairwise fun x y => decide (x ≤ y) = true) (h' : l'.Pairwise fun x y => decide (x ≤ y) = true) (hp : l.Perm l') : l = l' :=
  List.Perm.eq_of_pairwise (fun a b _ _ h1 h2 => by simp at h1 h2; omega) h h' hp
theorem mrgI_sort (a b : List Int) : mrgI (sortI a) (sortI b) = sortI (a ++ b) := by
  refine sorted_unique (List.pairwise_merge le_trans' le_total' _ _ (sortI_sorted b) (sortI_sorted a)) (sortI_sorted _) ?_
  refine (mrgI_perm _ _).trans (((sortI_perm b).append (sortI_perm a)).trans (List.perm_append_comm.trans (sortI_perm _).symm))
theorem merged_ev (a b : List Int) (ha : a.length ≤ 1000000) (hb : b.length ≤ 1000000) : Evt (fun k => chapmanref36_merged.f k a b) (mrgI a b) := by
  have key : ∀ m i j : Nat, i ≤ a.length → j ≤ b.length → (a.length - i) + (b.length - j) ≤ m → ∀ out : List Int, out.length + (a.length - i) + (b.length - j) ≤ 3000000 →
      Evt (fun k => chapmanref36_merged.l0 k a b out (i : Int) (j : Int)) (out ++ mrgI (a.drop i) (b.drop j)) ∧ (j < b.length → Evt (fun k => chapmanref36_merged.l1 k a b out (i : Int) (j : Int)) (out ++ mrgI (a.drop i) (b.drop j))) := by
    intro m
    induction m with
    | zero =>
      intro i j hi hj hm out ho
      refine ⟨?_, fun h => by omega⟩
      refine (Evt.pure _).step (fun k => ?_)
      show (if _ then _ else _) = _
      rw [if_neg (by omega), if_pos (by omega), if_pos (by omega), Int.toNat_natCast, show b.drop j = [] from List.drop_of_length_le (by omega), mrgI_nil, if_pos (by rw [List.length_drop]; omega)]
    | succ m ih =>
      intro i j hi hj hm out ho
      have h1 : j < b.length → Evt (fun k => chapmanref36_merged.l1 k a b out (i : Int) (j : Int)) (out ++ mrgI (a.drop i) (b.drop j)) := by
        intro hjb
        by_cases hia : i < a.length
        · rw [List.drop_eq_getElem_cons hia, List.drop_eq_getElem_cons hjb, mrgI_cons]
          by_cases hlt : a[i] < b[j]
          · rw [if_pos hlt]
            have := (ih (i + 1) j (by omega) hj (by omega) (out ++ [a[i]]) (by simp; omega)).2 hjb
            rw [List.append_assoc, List.singleton_append] at this
            rw [← List.drop_eq_getElem_cons hjb]
            refine this.step (fun k => ?_)
            show (if _ then _ else _) = _
            rw [if_pos (by omega), if_pos (by omega), if_pos (by omega), if_pos (by omega), rdI hia, rdI hjb, if_pos hlt, if_pos (by omega), w64s (by omega)]
          · rw [if_neg hlt]
            have := (ih i (j + 1) hi (by omega) (by omega) (out ++ [b[j]]) (by simp; omega)).1
            rw [List.append_assoc, List.singleton_append] at this
            rw [← List.drop_eq_getElem_cons hia]
            refine this.step (fun k => ?_)
            show (if _ then _ else _) = _
            rw [if_pos (by omega), if_pos (by omega), if_pos (by omega), if_pos (by omega), rdI hia, rdI hjb, if_neg hlt, if_pos (by omega), w64s (by omega)]
        · have := (ih i (j + 1) hi (by omega) (by omega) (out ++ [b[j]]) (by simp; omega)).1
          rw [List.append_assoc, List.singleton_append, show a.drop i = [] from List.drop_of_length_le (by omega), mrgI_nil2] at this
          rw [show a.drop i = [] from List.drop_of_length_le (by omega), mrgI_nil2, List.drop_eq_getElem_cons hjb]
          refine this.step (fun k => ?_)
          show (if _ then _ else _) = _
          rw [if_neg (by omega), if_pos (by omega), if_pos (by omega), if_pos (by omega), rdI hjb, w64s (by omega)]
      refine ⟨?_, h1⟩
      by_cases hjb : j < b.length
      · refine (h1 hjb).step (fun k => ?_)
        show (if _ then _ else _) = _
        rw [if_pos (by omega)]
      · refine (Evt.pure _).step (fun k => ?_)
        show (if _ then _ else _) = _
        rw [if_neg (by omega), if_pos (by omega), if_pos (by omega), Int.toNat_natCast, show b.drop j = [] from List.drop_of_length_le (by omega), mrgI_nil, if_pos (by rw [List.length_drop]; omega)]
  have := (key (a.length + b.length) 0 0 (by omega) (by omega) (by omega) [] (by simp; omega)).1
  rw [List.drop_zero, List.drop_zero, List.nil_append] at this
  exact this
end Go.Proofs.Ytckempgpaojljaa.P
end
section
/- The reference's choice of four clusters, and one step of its loop, against the program's step. -/
namespace Go.Proofs.Ytckempgpaojljaa.P
set_option linter.unusedVariables false
set_option linter.unusedSimpArgs false
open Go.RowKit Go.Proofs.YtckempgpaojljaaW.PrintWords Go.Proofs.YtckempgpaojljaaW.PrintLast Go.Proofs.YtckempgpaojljaaW.PrintMore
structure InvC (l : List S43) (cs : List (List Int × Int)) : Prop where
  sum : ∀ c ∈ cs, c.2 = sumG (fun i => (rd_T43 l i).f0) c.1
  idx : ∀ c ∈ cs, ∀ i ∈ c.1, 0 ≤ i ∧ i < l.length
def refC (cs : List (List Int × Int)) : List (List Int) := cs.map fun c => sortI c.1
theorem refC_length (cs : List (List Int × Int)) : (refC cs).length = cs.length := by simp [refC]
theorem refC_get {cs : List (List Int × Int)} {i : Nat} (h : i < cs.length) : (refC cs)[i]'(by rw [refC_length]; exact h) = sortI (cs.getD i ([], 0)).1 := by
  simp [refC, List.getD_eq_getElem?_getD, h]
theorem perm_sum {a b : List Int} (h : a.Perm b) : a.sum = b.sum := by
  induction h with
  | nil => rfl
  | cons x _ ih => rw [List.sum_cons, List.sum_cons, ih]
  | swap x y l => simp only [List.sum_cons]; omega
  | trans _ _ h1 h2 => exact h1.trans h2
theorem sumG_perm {f : Int → Int} {a b : List Int} (h : a.Perm b) : sumG f a = sumG f b := by
  unfold sumG
  exact perm_sum (h.map f)
theorem sumG_append (f : Int → Int) (a b : List Int) : sumG f (a ++ b) = sumG f a + sumG f b := by simp [sumG]
def fourC (cs : List (List Int × Int)) : List Nat := if idx4 (cntC cs) < 0 then [] else (posC cs (idx4 (cntC cs)) cs.length).take 4
def natI (l : List Nat) : List Int := l.map fun (n : Nat) => (n : Int)
theorem four_in (l : List S43) (cs : List (List Int × Int)) (hi : InvC l cs) (hok : OkC cs) (hb : ∀ p ∈ l, 0 ≤ p.f0 ∧ p.f0 ≤ 1000000000000 ∧ 0 ≤ p.f1 ∧ p.f1 ≤ 1000000000000) (L : Nat) (hL : L < 16) :
    ∀ m i : Nat, i + m = cs.length → ∀ r, Evt (fun k => if (((posC cs L cs.length).take 4).length : Int) = 4 then some (natI ((posC cs L cs.length).take 4)) else chapmanref36_four.l0 k l (refC cs) (wrap64 ((L : Int) + 1))) r →
      Evt (fun k => chapmanref36_four.l1 k l (refC cs) L (natI ((posC cs L i).take 4)) (i : Int)) r := by
  have hnl := hok.num
  intro m
  induction m with
  | zero =>
    intro i hi r hr
    obtain rfl : i = cs.length := by omega
    refine (hr.step (g := fun k => chapmanref36_four.j2 k l (refC cs) L (natI ((posC cs L cs.length).take 4)) (cs.length : Int) false) (fun k => ?_)).step (fun k => ?_)
    · show (if _ then _ else _) = _
      simp only [natI, List.length_map]
    · show (if _ then _ else _) = _
      rw [if_neg (by rw [refC_length]; omega)]
  | succ m ih =>
    intro i him r hr
    have hlt : i < cs.length := by omega
    have ih := ih (i + 1) (by omega) r hr
    by_cases h4 : ((posC cs L i).take 4).length < 4
    · have hmem := getD_mem cs i ([], 0) hlt
      obtain ⟨hn1, hn2⟩ := hok.nm i hlt
      have hlen : (cs.getD i ([], 0)).1.length ≤ 1000 := by
        have h2 := sum_ge (cs.map fun c => (c.1.length : Int)) (by
          intro z hz
          obtain ⟨c, hc, rfl⟩ := List.mem_map.1 hz
          omega) i (by simpa using hlt)
        have e : (cs.map fun c => (c.1.length : Int)).getD i 0 = ((cs.getD i ([], 0)).1.length : Int) := by simp [List.getD_eq_getElem?_getD, hlt]
        have := hok.sumL
        omega
      have hsum := sum_ev l (sortI (cs.getD i ([], 0)).1) (by rw [sortI_length]; exact hlen) (fun j hj => hi.idx _ hmem j ((sortI_perm _).mem_iff.1 hj)) hb
      rw [sumG_perm (sortI_perm _), ← hi.sum _ hmem] at hsum
      have hlev := rlevel_ev (cs.getD i ([], 0)).2 (by omega)
      obtain ⟨K1, h1⟩ := hsum
      obtain ⟨K2, h2⟩ := hlev
      refine (ih.step' (g := fun k => chapmanref36_four.j2 k l (refC cs) L (natI ((posC cs L i).take 4)) (i : Int) true) ⟨max K1 K2, fun k hk => ?_⟩).step (fun k => ?_)
      · show (if _ then _ else _) = _
        rw [if_pos (by rw [refC_length]; omega), rdL5 (by rw [refC_length]; exact hlt), refC_get hlt]
        rw [show chapmanref36_sum.f k l (sortI (cs.getD i ([], 0)).1) = _ from h1 k (by omega), Option.bind_some]
        show ((chapmanref36_Level.f k (cs.getD i ([], 0)).2).bind _) = _
        rw [show chapmanref36_Level.f k (cs.getD i ([], 0)).2 = _ from h2 k (by omega), Option.bind_some]
        by_cases e : lv (cs.getD i ([], 0)).2.toNat = (L : Int)
        · rw [if_pos e, posC_succ_yes _ _ _ e]
          have hle : (posC cs L i).length < 4 := by rw [List.length_take] at h4; omega
          rw [if_pos (by simp [natI]; omega), w64s (by omega), List.take_of_length_le (by omega), List.take_of_length_le (by rw [List.length_append]; simp; omega)]
          simp [natI]
        · rw [if_neg e, posC_succ_no _ _ _ e, w64s (by omega)]
      · show (if _ then _ else _) = _
        rw [if_pos (by rw [refC_length]; omega), decide_eq_true (by simp only [natI, List.length_map]; omega)]
    · have hpre := posC_le cs (L : Int) (j := i) (k := cs.length) (by omega)
      have hpi : 4 ≤ (posC cs L i).length := by rw [List.length_take] at h4; omega
      have e : (posC cs L cs.length).take 4 = (posC cs L i).take 4 := by
        obtain ⟨t, ht⟩ := hpre
        rw [← ht, List.take_append_of_le_length hpi]
      rw [e] at hr
      refine (hr.step (g := fun k => chapmanref36_four.j2 k l (refC cs) L (natI ((posC cs L i).take 4)) (i : Int) false) (fun k => ?_)).step (fun k => ?_)
      · show (if _ then _ else _) = _
        simp only [natI, List.length_map]
      · show (if _ then _ else _) = _
        rw [if_pos (by rw [refC_length]; omega), decide_eq_false (by simp only [natI, List.length_map]; omega)]
theorem four_ev (l : List S43) (cs : List (List Int × Int)) (hi : InvC l cs) (hok : OkC cs) (hb : ∀ p ∈ l, 0 ≤ p.f0 ∧ p.f0 ≤ 1000000000000 ∧ 0 ≤ p.f1 ∧ p.f1 ≤ 1000000000000) :
    Evt (fun k => chapmanref36_four.f k l (refC cs)) (natI (fourC cs)) := by
  have hc : ∀ L : Nat, L < 16 → ((posC cs L cs.length).length : Int) = (cntC cs).getD L 0 := fun L hL => posC_count cs L hL
  have hcl : (cntC cs).length = 16 := by simp [cntC]
  have key : ∀ m L : Nat, L + m = 16 → (∀ j, j < L → (cntC cs).getD j 0 < 4) → Evt (fun k => chapmanref36_four.l0 k l (refC cs) (L : Int)) (natI (fourC cs)) := by
    intro m
    induction m with
    | zero =>
      intro L hL hp
      have e : idx4 (cntC cs) = -1 := by
        rcases idx4_spec (cntC cs) with h | ⟨j, _, hj, h4⟩
        · exact h
        · exact absurd (hp j (by omega)) (by omega)
      refine (Evt.pure _).step (fun k => ?_)
      show (if _ then _ else _) = _
      rw [if_neg (by omega)]
      simp [fourC, e, natI]
    | succ m ih =>
      intro L hL hp
      have hin := four_in l cs hi hok hb L (by omega) cs.length 0 (by omega) (natI (fourC cs)) ?_
      · refine hin.step (fun k => ?_)
        show (if _ then _ else _) = _
        rw [if_pos (by omega)]
        simp [posC, natI]
      · by_cases h4 : 4 ≤ (cntC cs).getD L 0
        · have e : idx4 (cntC cs) = (L : Int) := idx4_at (cntC cs) L (by omega) hp (by simpa [rd] using h4)
          have hcl := hc L (by omega)
          refine Evt.of (fun k => ?_)
          rw [if_pos (by rw [List.length_take]; omega)]
          unfold fourC
          rw [e, if_neg (by omega)]
        · have hcl := hc L (by omega)
          have hlt : (cntC cs).getD L 0 < 4 := by omega
          have := ih (L + 1) (by omega) (fun j hj => by
            rcases Nat.lt_or_ge j L with h | h
            · exact hp j h
            · obtain rfl : j = L := by omega
              exact hlt)
          refine this.congr ⟨0, fun k _ => ?_⟩
          rw [if_neg (by rw [List.length_take]; omega), w64s (by omega)]
  have := key 16 0 (by omega) (fun j hj => by omega)
  exact this
end Go.Proofs.Ytckempgpaojljaa.P
end
section
/- One step of the reference's loop over clusters, against the program's step. -/
namespace Go.Proofs.Ytckempgpaojljaa.P
set_option linter.unusedVariables false
set_option linter.unusedSimpArgs false
open Go.RowKit Go.Proofs.YtckempgpaojljaaW.PrintWords Go.Proofs.YtckempgpaojljaaW.PrintLast Go.Proofs.YtckempgpaojljaaW.PrintMore
def nextP {α : Type} (f : List Nat) (x : α) (G : List α) : Nat → List α
  | 0 => []
  | k + 1 => nextP f x G k ++ (if some k = f.head? then [x] else []) ++ (if k ∈ f then [] else (G[k]?).toList)
theorem nextP_far {α : Type} (f : List Nat) (x : α) (G : List α) (s t : Nat) (hs : ∀ k, s ≤ k → k < s + t → k ∉ f) (hl : s + t ≤ G.length) : nextP f x G (s + t) = nextP f x G s ++ (G.drop s).take t := by
  induction t with
  | zero => simp
  | succ t ih =>
    have h1 := ih (fun k h1 h2 => hs k h1 (by omega)) (by omega)
    have h2 := hs (s + t) (by omega) (by omega)
    have h3 : ¬ some (s + t) = f.head? := fun e => h2 (List.mem_of_mem_head? (by rw [← e]; rfl))
    rw [← Nat.add_assoc]
    show nextP f x G (s + t) ++ _ ++ _ = _
    rw [if_neg h3, if_neg h2, h1, List.append_nil, List.append_assoc, List.take_add_one, List.getElem?_drop]
theorem split4 {α : Type} (cs : List α) (i0 i1 i2 i3 : Nat) (h0 : i0 < i1) (h1 : i1 < i2) (h2 : i2 < i3) (h3 : i3 < cs.length) :
    ∃ (A B C D E : List α) (c0 c1 c2 c3 : α), cs = A ++ c0 :: (B ++ c1 :: (C ++ c2 :: (D ++ c3 :: E))) ∧ A.length = i0 ∧ A.length + 1 + B.length = i1 ∧ A.length + 1 + B.length + 1 + C.length = i2 ∧ A.length + 1 + B.length + 1 + C.length + 1 + D.length = i3 := by
  refine ⟨cs.take i0, (cs.drop (i0 + 1)).take (i1 - i0 - 1), (cs.drop (i1 + 1)).take (i2 - i1 - 1), (cs.drop (i2 + 1)).take (i3 - i2 - 1), cs.drop (i3 + 1), cs[i0], cs[i1], cs[i2], cs[i3], ?_, ?_, ?_, ?_, ?_⟩
  · have key : ∀ (i j : Nat) (hij : i < j) (hj : j < cs.length), cs.drop (i + 1) = (cs.drop (i + 1)).take (j - i - 1) ++ cs[j] :: cs.drop (j + 1) := fun i j hij hj => by
      have e : cs.drop j = (cs.drop (i + 1)).drop (j - i - 1) := by rw [List.drop_drop]; congr 1; omega
      rw [← List.drop_eq_getElem_cons hj, e, List.take_append_drop]
    rw [← key i2 i3 h2 h3, ← List.drop_eq_getElem_cons (by omega : i2 < cs.length)]
    rw [List.drop_eq_getElem_cons (by omega : i2 < cs.length), ← key i1 i2 h1 (by omega), ← key i0 i1 h0 (by omega), ← List.drop_eq_getElem_cons (by omega : i0 < cs.length), List.take_append_drop]
  all_goals simp
  all_goals omega
theorem mergeC_at (A B R : List (List Int × Int)) (c d : List Int × Int) : mergeC (A ++ c :: (B ++ d :: R)) A.length (A.length + 1 + B.length) = A ++ (c.1 ++ d.1, c.2 + d.2) :: (B ++ R) := by
  have e1 : (A ++ c :: (B ++ d :: R)).getD A.length ([], 0) = c := by simp [List.getD_eq_getElem?_getD]
  have e2 : (A ++ c :: (B ++ d :: R)).getD (A.length + 1 + B.length) ([], 0) = d := by
    rw [List.getD_eq_getElem?_getD, List.getElem?_append_right (by omega), show A.length + 1 + B.length - A.length = B.length + 1 by omega, List.getElem?_cons_succ, List.getElem?_append_right (Nat.le_refl _), Nat.sub_self]
    rfl
  unfold mergeC
  rw [e1, e2, List.set_append_right _ _ (Nat.le_refl _), Nat.sub_self, List.set_cons_zero, List.eraseIdx_append_of_length_le (by omega), show A.length + 1 + B.length - A.length = B.length + 1 by omega, List.eraseIdx_cons_succ, List.eraseIdx_append_of_length_le (Nat.le_refl _), Nat.sub_self, List.eraseIdx_cons_zero]
theorem seg_at {α : Type} (P Q R : List α) {G : List α} (h : G = P ++ (Q ++ R)) {n m : Nat} (hn : n = P.length) (hm : m = Q.length) : (G.drop n).take m = Q := by
  subst h hn hm
  rw [List.drop_left, List.take_left]
def allC (cs : List (List Int × Int)) : List Nat → List Int
  | [] => []
  | i :: is => (cs.getD i ([], 0)).1 ++ allC cs is
theorem step_ref (cs cs' : List (List Int × Int)) (h : stepC cs = some cs') : ∃ i0 i1 i2 i3, fourC cs = [i0, i1, i2, i3] ∧ i0 < i1 ∧ i1 < i2 ∧ i2 < i3 ∧ i3 < cs.length ∧ refC cs' = nextP (fourC cs) (sortI (allC cs (fourC cs))) (refC cs) cs.length := by
  unfold stepC at h
  split at h
  · exact absurd h (by simp)
  · rename_i hn
    have hf : fourC cs = (posC cs (idx4 (cntC cs)) cs.length).take 4 := by unfold fourC; rw [if_neg hn]
    have hso : (fourC cs).Pairwise (· < ·) := by rw [hf]; exact (posC_sorted cs _ cs.length).sublist (List.take_sublist _ _)
    have hmem : ∀ i, i ∈ fourC cs → i < cs.length := fun i hi => by
      rw [hf] at hi
      exact (posC_mem (List.mem_of_mem_take hi)).1
    rw [← hf] at h
    generalize fourC cs = F at *
    match F, h with
    | [i0, i1, i2, i3], h =>
      injection h with h
      simp only [List.pairwise_cons, List.mem_cons, List.not_mem_nil, or_false, forall_eq_or_imp, forall_eq] at hso
      have h3 := hmem i3 (by simp)
      obtain ⟨⟨a1, a2, a3⟩, ⟨b1, b2⟩, b3, _⟩ := hso
      refine ⟨i0, i1, i2, i3, rfl, a1, b1, b3, h3, ?_⟩
      obtain ⟨A, B, C, D, E, c0, c1, c2, c3, hcs, l0, l1, l2, l3⟩ := split4 cs i0 i1 i2 i3 a1 b1 b3 h3
      have g0 : cs.getD i0 ([], 0) = c0 := by rw [hcs, ← l0]; simp [List.getD_eq_getElem?_getD]
      have g1 : cs.getD i1 ([], 0) = c1 := by
        rw [hcs, ← l1, List.getD_eq_getElem?_getD, List.getElem?_append_right (by omega), show A.length + 1 + B.length - A.length = B.length + 1 by omega, List.getElem?_cons_succ, List.getElem?_append_right (Nat.le_refl _), Nat.sub_self]
        rfl
      have g2 : cs.getD i2 ([], 0) = c2 := by
        rw [hcs, ← l2, List.getD_eq_getElem?_getD, List.getElem?_append_right (by omega), show A.length + 1 + B.length + 1 + C.length - A.length = B.length + 1 + C.length + 1 by omega, List.getElem?_cons_succ, List.getElem?_append_right (by omega), show B.length + 1 + C.length - B.length = C.length + 1 by omega, List.getElem?_cons_succ, List.getElem?_append_right (by omega), Nat.sub_self]
        rfl
      have g3 : cs.getD i3 ([], 0) = c3 := by
        rw [hcs, ← l3, List.getD_eq_getElem?_getD, List.getElem?_append_right (by omega), show A.length + 1 + B.length + 1 + C.length + 1 + D.length - A.length = B.length + 1 + C.length + 1 + D.length + 1 by omega, List.getElem?_cons_succ, List.getElem?_append_right (by omega), show B.length + 1 + C.length + 1 + D.length - B.length = C.length + 1 + D.length + 1 by omega, List.getElem?_cons_succ, List.getElem?_append_right (by omega), show C.length + 1 + D.length - C.length = D.length + 1 by omega, List.getElem?_cons_succ, List.getElem?_append_right (by omega), Nat.sub_self]
        rfl
      have m1 : mergeC cs i0 i1 = A ++ (c0.1 ++ c1.1, c0.2 + c1.2) :: ((B ++ C) ++ c2 :: (D ++ c3 :: E)) := by
        rw [hcs, ← l0, ← l1, mergeC_at, List.append_assoc]
      have m2 : mergeC (mergeC cs i0 i1) i0 (i2 - 1) = A ++ (c0.1 ++ c1.1 ++ c2.1, c0.2 + c1.2 + c2.2) :: (((B ++ C) ++ D) ++ c3 :: E) := by
        rw [m1, ← l0, show i2 - 1 = A.length + 1 + (B ++ C).length by rw [List.length_append]; omega, mergeC_at, List.append_assoc (B ++ C)]
      have m3 : mergeC (mergeC (mergeC cs i0 i1) i0 (i2 - 1)) i0 (i3 - 2) = A ++ (c0.1 ++ c1.1 ++ c2.1 ++ c3.1, c0.2 + c1.2 + c2.2 + c3.2) :: (((B ++ C) ++ D) ++ E) := by
        rw [m2, ← l0, show i3 - 2 = A.length + 1 + ((B ++ C) ++ D).length by rw [List.length_append, List.length_append]; omega, mergeC_at]
      rw [← h, m3]
      have hall : allC cs [i0, i1, i2, i3] = c0.1 ++ c1.1 ++ c2.1 ++ c3.1 := by
        show (cs.getD i0 ([], 0)).1 ++ ((cs.getD i1 ([], 0)).1 ++ ((cs.getD i2 ([], 0)).1 ++ ((cs.getD i3 ([], 0)).1 ++ []))) = _
        rw [g0, g1, g2, g3, List.append_nil, List.append_assoc, List.append_assoc]
      rw [hall]
      generalize hX : sortI (c0.1 ++ c1.1 ++ c2.1 ++ c3.1) = X
      have hr : refC cs = refC A ++ sortI c0.1 :: (refC B ++ sortI c1.1 :: (refC C ++ sortI c2.1 :: (refC D ++ sortI c3.1 :: refC E))) := by rw [hcs]; simp [refC]
      have hcl : cs.length = i3 + 1 + E.length := by rw [hcs]; simp; omega
      have rl := refC_length
      obtain ⟨f, hf4⟩ : ∃ f, f = [i0, i1, i2, i3] := ⟨_, rfl⟩
      rw [← hf4]
      have hhd : f.head? = some i0 := by rw [hf4]; rfl
      have nf : ∀ k, k ≠ i0 → k ≠ i1 → k ≠ i2 → k ≠ i3 → k ∉ f := fun k e0 e1 e2 e3 => by rw [hf4]; simp [e0, e1, e2, e3]
      have yf : i0 ∈ f ∧ i1 ∈ f ∧ i2 ∈ f ∧ i3 ∈ f := by rw [hf4]; simp
      have s0 := nextP_far f X (refC cs) 0 i0 (fun k _ h2 => nf k (by omega) (by omega) (by omega) (by omega)) (by rw [rl]; omega)
      have s1 := nextP_far f X (refC cs) (i0 + 1) B.length (fun k _ h2 => nf k (by omega) (by omega) (by omega) (by omega)) (by rw [rl]; omega)
      have s2 := nextP_far f X (refC cs) (i1 + 1) C.length (fun k _ h2 => nf k (by omega) (by omega) (by omega) (by omega)) (by rw [rl]; omega)
      have s3 := nextP_far f X (refC cs) (i2 + 1) D.length (fun k _ h2 => nf k (by omega) (by omega) (by omega) (by omega)) (by rw [rl]; omega)
      have s4 := nextP_far f X (refC cs) (i3 + 1) E.length (fun k _ h2 => nf k (by omega) (by omega) (by omega) (by omega)) (by rw [rl]; omega)
      have t0 : nextP f X (refC cs) (i0 + 1) = nextP f X (refC cs) i0 ++ [X] := by
        show _ ++ (if _ then _ else _) ++ (if _ then _ else _) = _
        rw [hhd, if_pos rfl, if_pos yf.1, List.append_nil]
      have tn : ∀ k, k ≠ i0 → k ∈ f → nextP f X (refC cs) (k + 1) = nextP f X (refC cs) k := fun k hk hm => by
        show _ ++ (if _ then _ else _) ++ (if _ then _ else _) = _
        rw [hhd, if_neg (by simp [hk]), if_pos hm, List.append_nil, List.append_nil]
      have t1 := tn i1 (by omega) yf.2.1
      have t2 := tn i2 (by omega) yf.2.2.1
      have t3 := tn i3 (by omega) yf.2.2.2
      have v3 : nextP f X (refC cs) i3 = nextP f X (refC cs) i2 ++ ((refC cs).drop (i2 + 1)).take D.length := by
        rw [show i3 = i2 + 1 + D.length by omega, s3, t2]
      have v2 : nextP f X (refC cs) i2 = nextP f X (refC cs) i1 ++ ((refC cs).drop (i1 + 1)).take C.length := by
        rw [show i2 = i1 + 1 + C.length by omega, s2, t1]
      have v1 : nextP f X (refC cs) i1 = nextP f X (refC cs) i0 ++ [X] ++ ((refC cs).drop (i0 + 1)).take B.length := by
        rw [show i1 = i0 + 1 + B.length by omega, s1, t0]
      rw [Nat.zero_add] at s0
      rw [hcl, s4, t3, v3, v2, v1, s0]
      have d0 : ((refC cs).drop 0).take i0 = refC A := seg_at [] (refC A) _ hr rfl (by rw [rl, l0])
      have d1 : ((refC cs).drop (i0 + 1)).take B.length = refC B := seg_at (refC A ++ [sortI c0.1]) (refC B) (sortI c1.1 :: (refC C ++ sortI c2.1 :: (refC D ++ sortI c3.1 :: refC E))) (by rw [hr]; simp) (by simp [rl]; omega) (by rw [rl])
      have d2 : ((refC cs).drop (i1 + 1)).take C.length = refC C := seg_at (refC A ++ sortI c0.1 :: (refC B ++ [sortI c1.1])) (refC C) (sortI c2.1 :: (refC D ++ sortI c3.1 :: refC E)) (by rw [hr]; simp) (by simp [rl]; omega) (by rw [rl])
      have d3 : ((refC cs).drop (i2 + 1)).take D.length = refC D := seg_at (refC A ++ sortI c0.1 :: (refC B ++ sortI c1.1 :: (refC C ++ [sortI c2.1]))) (refC D) (sortI c3.1 :: refC E) (by rw [hr]; simp) (by simp [rl]; omega) (by rw [rl])
      have d4 : ((refC cs).drop (i3 + 1)).take E.length = refC E := seg_at (refC A ++ sortI c0.1 :: (refC B ++ sortI c1.1 :: (refC C ++ sortI c2.1 :: (refC D ++ [sortI c3.1])))) (refC E) [] (by rw [hr]; simp) (by simp [rl]; omega) (by rw [rl])
      rw [d0, d1, d2, d3, d4]
      simp only [List.append_assoc] at hX
      simp [refC, nextP, hX]
end Go.Proofs.Ytckempgpaojljaa.P
end
section
/- Examples: what is chosen of a few fixed lists. -/
namespace Go.Proofs.Ytckempgpaojljaa.P
set_option linter.unusedVariables false
set_option linter.unusedSimpArgs false
open Go.RowKit Go.Proofs.YtckempgpaojljaaW.PrintWords Go.Proofs.YtckempgpaojljaaW.PrintLast Go.Proofs.YtckempgpaojljaaW.PrintMore
theorem lv_1 : lv 1 = 0 := by rw [lv_pos 1 (by decide), lv_zero]; rfl
theorem lv_3 : lv 3 = 0 := by rw [lv_pos 3 (by decide), lv_zero]; rfl
theorem lv_4 : lv 4 = 1 := by rw [lv_pos 4 (by decide), lv_1]; rfl
theorem lv_16 : lv 16 = 2 := by rw [lv_pos 16 (by decide), lv_4]; rfl
theorem sortI_of {l : List Int} (h : l.Pairwise fun x y => decide (x ≤ y) = true) : sortI l = l := List.mergeSort_of_pairwise h
set_option maxRecDepth 100000 in
theorem start5 : startC [⟨1, 100⟩, ⟨1, 100⟩, ⟨1, 100⟩, ⟨1, 100⟩, ⟨1, 100⟩] = [([0], 1), ([1], 1), ([2], 1), ([3], 1), ([4], 1)] := by rfl
set_option maxRecDepth 100000 in
theorem step5 : stepC [([0], 1), ([1], 1), ([2], 1), ([3], 1), ([4], 1)] = some [([0, 1, 2, 3], 4), ([4], 1)] := by
  have h1 : cntC [([0], 1), ([1], 1), ([2], 1), ([3], 1), ([4], 1)] = [5, 0, 0, 0, 0, 0, 0, 0, 0, 0, 0, 0, 0, 0, 0, 0] := by
    simp [cntC, lv_1, List.range_succ]
  have h2 : posC [([0], 1), ([1], 1), ([2], 1), ([3], 1), ([4], 1)] 0 5 = [0, 1, 2, 3, 4] := by
    simp [posC, lv_1, List.range_succ]
  have h3 : idx4 [5, 0, 0, 0, 0, 0, 0, 0, 0, 0, 0, 0, 0, 0, 0, 0] = 0 := by rfl
  unfold stepC
  rw [h1, h3]
  rw [if_neg (by decide)]
  rw [show [([0], 1), ([1], 1), ([2], 1), ([3], 1), (([4] : List Int), (1 : Int))].length = 5 from rfl, h2]
  rfl
theorem step5b : stepC [([0, 1, 2, 3], 4), ([4], 1)] = none := by
  have h1 : cntC [([0, 1, 2, 3], 4), ([4], 1)] = [1, 1, 0, 0, 0, 0, 0, 0, 0, 0, 0, 0, 0, 0, 0, 0] := by
    simp [cntC, lv_1, lv_4, List.range_succ]
  unfold stepC
  rw [h1]
  rfl
theorem choose5 : choose [⟨1, 100⟩, ⟨1, 100⟩, ⟨1, 100⟩, ⟨1, 100⟩, ⟨1, 100⟩] = [[0, 1, 2, 3]] := by
  unfold choose
  rw [start5]
  show groupsC (iterC 5 _) = _
  rw [iterC, step5]
  show groupsC (iterC 4 _) = _
  rw [iterC, step5b]
  show [sortI [0, 1, 2, 3]] = _
  rw [sortI_of (by decide)]
theorem step4 : stepC [([0], 1), ([1], 1), ([2], 1), ([3], 1)] = some [([0, 1, 2, 3], 4)] := by
  have h1 : cntC [([0], 1), ([1], 1), ([2], 1), ([3], 1)] = [4, 0, 0, 0, 0, 0, 0, 0, 0, 0, 0, 0, 0, 0, 0, 0] := by
    simp [cntC, lv_1, List.range_succ]
  have h2 : posC [([0], 1), ([1], 1), ([2], 1), ([3], 1)] 0 4 = [0, 1, 2, 3] := by
    simp [posC, lv_1, List.range_succ]
  have h3 : idx4 [4, 0, 0, 0, 0, 0, 0, 0, 0, 0, 0, 0, 0, 0, 0, 0] = 0 := by rfl
  unfold stepC
  rw [h1, h3]
  rw [if_neg (by decide)]
  rw [show [([0], 1), ([1], 1), ([2], 1), (([3] : List Int), (1 : Int))].length = 4 from rfl, h2]
  rfl
theorem step4b : stepC [([0, 1, 2, 3], 4)] = none := by
  have h1 : cntC [([0, 1, 2, 3], 4)] = [0, 1, 0, 0, 0, 0, 0, 0, 0, 0, 0, 0, 0, 0, 0, 0] := by
    simp [cntC, lv_4, List.range_succ]
  unfold stepC
  rw [h1]
  rfl
theorem start4 : startC [⟨1, 100⟩, ⟨1, 100⟩, ⟨1, 100⟩, ⟨1, 100⟩] = [([0], 1), ([1], 1), ([2], 1), ([3], 1)] := by rfl
theorem choose4 : choose [⟨1, 100⟩, ⟨1, 100⟩, ⟨1, 100⟩, ⟨1, 100⟩] = [[0, 1, 2, 3]] := by
  unfold choose
  rw [start4]
  show groupsC (iterC 4 _) = _
  rw [iterC, step4]
  show groupsC (iterC 3 _) = _
  rw [iterC, step4b]
  show [sortI [0, 1, 2, 3]] = _
  rw [sortI_of (by decide)]
theorem start7 : startC [⟨4, 100⟩, ⟨4, 100⟩, ⟨4, 100⟩, ⟨1, 100⟩, ⟨1, 100⟩, ⟨1, 100⟩, ⟨1, 100⟩] = [([0], 4), ([1], 4), ([2], 4), ([3], 1), ([4], 1), ([5], 1), ([6], 1)] := by rfl
set_option maxRecDepth 100000 in
theorem step7 : stepC [([0], 4), ([1], 4), ([2], 4), ([3], 1), ([4], 1), ([5], 1), ([6], 1)] = some [([0], 4), ([1], 4), ([2], 4), ([3, 4, 5, 6], 4)] := by
  have h1 : cntC [([0], 4), ([1], 4), ([2], 4), ([3], 1), ([4], 1), ([5], 1), ([6], 1)] = [4, 3, 0, 0, 0, 0, 0, 0, 0, 0, 0, 0, 0, 0, 0, 0] := by
    simp [cntC, lv_1, lv_4, List.range_succ]
  have h2 : posC [([0], 4), ([1], 4), ([2], 4), ([3], 1), ([4], 1), ([5], 1), ([6], 1)] 0 7 = [3, 4, 5, 6] := by
    simp [posC, lv_1, lv_4, List.range_succ]
  have h3 : idx4 [4, 3, 0, 0, 0, 0, 0, 0, 0, 0, 0, 0, 0, 0, 0, 0] = 0 := by rfl
  unfold stepC
  rw [h1, h3]
  rw [if_neg (by decide)]
  rw [show [([0], 4), ([1], 4), ([2], 4), ([3], 1), ([4], 1), ([5], 1), (([6] : List Int), (1 : Int))].length = 7 from rfl, h2]
  rfl
theorem step7b : stepC [([0], 4), ([1], 4), ([2], 4), ([3, 4, 5, 6], 4)] = some [([0, 1, 2, 3, 4, 5, 6], 16)] := by
  have h1 : cntC [([0], 4), ([1], 4), ([2], 4), ([3, 4, 5, 6], 4)] = [0, 4, 0, 0, 0, 0, 0, 0, 0, 0, 0, 0, 0, 0, 0, 0] := by
    simp [cntC, lv_4, List.range_succ]
  have h2 : posC [([0], 4), ([1], 4), ([2], 4), ([3, 4, 5, 6], 4)] 1 4 = [0, 1, 2, 3] := by
    simp [posC, lv_4, List.range_succ]
  have h3 : idx4 [0, 4, 0, 0, 0, 0, 0, 0, 0, 0, 0, 0, 0, 0, 0, 0] = 1 := by rfl
  unfold stepC
  rw [h1, h3]
  rw [if_neg (by decide)]
  rw [show [([0], 4), ([1], 4), ([2], 4), (([3, 4, 5, 6] : List Int), (4 : Int))].length = 4 from rfl, h2]
  rfl
theorem step7c : stepC [([0, 1, 2, 3, 4, 5, 6], 16)] = none := by
  have h1 : cntC [([0, 1, 2, 3, 4, 5, 6], 16)] = [0, 0, 1, 0, 0, 0, 0, 0, 0, 0, 0, 0, 0, 0, 0, 0] := by
    simp [cntC, lv_16, List.range_succ]
  unfold stepC
  rw [h1]
  rfl
theorem choose7 : choose [⟨4, 100⟩, ⟨4, 100⟩, ⟨4, 100⟩, ⟨1, 100⟩, ⟨1, 100⟩, ⟨1, 100⟩, ⟨1, 100⟩] = [[0, 1, 2, 3, 4, 5, 6]] := by
  unfold choose
  rw [start7]
  show groupsC (iterC 7 _) = _
  rw [iterC, step7]
  show groupsC (iterC 6 _) = _
  rw [iterC, step7b]
  show groupsC (iterC 5 _) = _
  rw [iterC, step7c]
  show [sortI [0, 1, 2, 3, 4, 5, 6]] = _
  rw [sortI_of (by decide)]
theorem units_ev (l : List Int) (h : l.length ≤ 1000000) : Evt (fun k => chapmanlaw36_units.f k l) (l.map fun x => ⟨x, 100⟩) := by
  refine Evt.loop (fun i k => chapmanlaw36_units.l0 k l ((l.take i).map fun x => ⟨x, 100⟩) (i : Int)) l.length ?_ (fun i hi k => ?_)
  · refine (Evt.pure _).step (fun k => ?_)
    show (if _ then _ else _) = _
    rw [if_neg (by omega), List.take_length]
  · show (if _ then _ else _) = _
    rw [if_pos (by omega), if_pos (by omega), if_pos (by rw [List.length_map, List.length_take]; omega), w64s (by omega), rdI hi, map_take_succ _ _ hi]
def chosenL (l : List S43) : List (List Int) × List S43 × Int × Int := if validL (pcs l) then (choose (pcs l), [], 0, 0) else ([], [], 0, 1)
def readL (l : List S43) : List (List Int) × List S43 × Int × Int := if validL (pcs l) then ([], [], readN (pcs l), 0) else ([], [], 0, 1)
def mergeL (l : List S43) (g : List Int) : List (List Int) × List S43 × Int × Int := if validL (pcs l) && okG l.length g then ([], [], mergeN (pcs l) g, 0) else ([], [], 0, 1)
def worthR (l : List S43) (a : Int) : List (List Int) × List S43 × Int × Int := if validL (pcs l) && (decide (0 ≤ a) && decide (a ≤ 1000000000)) then (worthL (pcs l) a, [], 0, 0) else ([], [], 0, 1)
def afterR (l : List S43) (G : List (List Int)) : List (List Int) × List S43 × Int × Int := match (if validL (pcs l) then afterL (pcs l) G else none) with | some out => ([], unp out, 0, 0) | none => ([], [], 0, 1)
theorem chosen_ev (l : List S43) (h : l.length ≤ 1000000) : Evt (fun k => chapmanlaw36_chosen.f k l) (chosenL l) := by
  refine (pieces_ev l h).bind (h := fun k t110 => ((cost_Choose.f t110).bind fun bt113 => (some (bt113.1, ([] : List (S43)), 0, bt113.2)))) ?_
  refine Evt.of (fun k => ?_)
  unfold chosenL cost_Choose.f
  split <;> rfl
theorem read_ev (l : List S43) (h : l.length ≤ 1000000) : Evt (fun k => chapmanlaw36_read.f k l) (readL l) := by
  refine (pieces_ev l h).bind (h := fun k t118 => ((cost_Read.f t118).bind fun bt121 => (some (([] : List (List Int)), ([] : List (S43)), bt121.1, bt121.2)))) ?_
  refine Evt.of (fun k => ?_)
  unfold readL cost_Read.f
  split <;> rfl
theorem merge_ev (l : List S43) (g : List Int) (h : l.length ≤ 1000000) : Evt (fun k => chapmanlaw36_merge.f k l g) (mergeL l g) := by
  refine (pieces_ev l h).bind (h := fun k t138 => ((cost_Merge.f t138 g).bind fun bt141 => (some (([] : List (List Int)), ([] : List (S43)), bt141.1, bt141.2)))) ?_
  refine Evt.of (fun k => ?_)
  unfold mergeL cost_Merge.f
  rw [pcs_length]
  split <;> rfl
theorem worth_ev (l : List S43) (a : Int) (h : l.length ≤ 1000000) : Evt (fun k => chapmanlaw36_worth.f k l a) (worthR l a) := by
  refine (pieces_ev l h).bind (h := fun k t144 => ((cost_Worth.f t144 a).bind fun bt147 => (some (bt147.1, ([] : List (S43)), 0, bt147.2)))) ?_
  refine Evt.of (fun k => ?_)
  unfold worthR cost_Worth.f
  split <;> rfl
theorem after_loop (m : List S59) (e : Int) (h : m.length ≤ 1000000) : Evt (fun k => chapmanlaw36_after.l0 k m 0 [] 0 e) ([], unp m, 0, e) := by
  refine Evt.loop (fun i k => chapmanlaw36_after.l0 k m (i : Int) ((m.take i).map fun p => ⟨p.f0, p.f1⟩) 0 e) m.length ?_ (fun i hi k => ?_)
  · refine (Evt.pure _).step (fun k => ?_)
    show (if _ then _ else _) = _
    rw [if_neg (by omega), List.take_length]
    rfl
  · show (if _ then _ else _) = _
    rw [if_pos (by omega), if_pos (by omega), if_pos (by rw [List.length_map, List.length_take]; omega), w64s (by omega), rd59 hi, map_take_succ _ _ hi]
theorem afterL_len {l : List S59} {G : List (List Int)} {out : List S59} (h : afterL l G = some out) : out.length ≤ l.length := by
  unfold afterL at h
  obtain ⟨ow, _, rfl⟩ := Option.map_eq_some_iff.1 h
  exact aftK_len l ow l.length
theorem after_ev (l : List S43) (G : List (List Int)) (h : l.length ≤ 1000000) : Evt (fun k => chapmanlaw36_after.f k l G) (afterR l G) := by
  refine (pieces_ev l h).bind (h := fun k t124 => ((cost_After.f t124 G).bind fun bt127 => (chapmanlaw36_after.l0 k bt127.1 0 ([] : List (S43)) 0 bt127.2))) ?_
  unfold afterR cost_After.f
  cases hx : (if validL (pcs l) = true then afterL (pcs l) G else none) with
  | none => exact after_loop [] 1 (by simp)
  | some out =>
    have : out.length ≤ 1000000 := by
      split at hx
      · have := afterL_len hx
        rw [pcs_length] at this
        omega
      · cases hx
    exact after_loop out 0 this
end Go.Proofs.Ytckempgpaojljaa.P
end
