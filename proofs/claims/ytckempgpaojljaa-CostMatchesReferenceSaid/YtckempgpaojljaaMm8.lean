/- Parts of a proof, laid together: TPx7, TGs. -/
import Derived.Test.YtckempgpaojljaaMm1
import Derived.Test.YtckempgpaojljaaMm4
import Derived.Test.YtckempgpaojljaaMm6
import Derived.Test.YtckempgpaojljaaMm7
section
namespace Go.Proofs.Ytckempgpaojljaa.P
open Go.RowKit Go.Proofs.YtckempgpaojljaaW.PrintWords Go.Proofs.YtckempgpaojljaaW.PrintLast Go.Proofs.YtckempgpaojljaaW.PrintMore
attribute [local go_sem] max2_int min2_int max_two min_two max_three min_three max_four min_four   -- for this text's walks alone
set_option linter.unusedVariables false
set_option linter.unusedSimpArgs false
mutual
def chapmanref36_AfterIn.l0 : Nat → List (S43) → List (List Int) → List Int → Int → Option ((List (List Int)) × (List (S43)) × Int × Int)
  | 0, _, _, _, _ => none
  | k + 1, x0, x1, x5, x6 => if x6 < (x1.length : Int) then (if 0 ≤ x6 then ((chapmanref36_group.f k x0 (rd_L5 x1 x6)).bind fun t236 => (if t236 = true then (chapmanref36_AfterIn.l1 k x0 x1 x5 x6 0) else (some (([] : List (List Int)), ([] : List (S43)), 0, 1)))) else (none)) else (chapmanref36_AfterIn.l2 k x0 x1 x5 0 ([] : List (S43)) 0 0)
def chapmanref36_AfterIn.l1 : Nat → List (S43) → List (List Int) → List Int → Int → Int → Option ((List (List Int)) × (List (S43)) × Int × Int)
  | 0, _, _, _, _, _ => none
  | k + 1, x0, x1, x5, x6, x7 => if 0 ≤ x6 then (if x6 < (x1.length : Int) then (if x7 < ((rd_L5 x1 x6).length : Int) then (if 0 ≤ x7 then (if 0 ≤ (rd (rd_L5 x1 x6) x7) then (if (rd (rd_L5 x1 x6) x7) < (x5.length : Int) then (if (rd x5 (rd (rd_L5 x1 x6) x7)) = 0 then (chapmanref36_AfterIn.l1 k x0 x1 (x5.set ((rd (rd_L5 x1 x6) x7) : Int).toNat (wrap64 (x6 + 1))) x6 (wrap64 (x7 + 1))) else (some (([] : List (List Int)), ([] : List (S43)), 0, 1))) else (none)) else (none)) else (none)) else (chapmanref36_AfterIn.l0 k x0 x1 x5 (wrap64 (x6 + 1)))) else (none)) else (none)
def chapmanref36_AfterIn.l2 : Nat → List (S43) → List (List Int) → List Int → Int → List (S43) → Int → Int → Option ((List (List Int)) × (List (S43)) × Int × Int)
  | 0, _, _, _, _, _, _, _ => none
  | k + 1, x0, x1, x5, x9, x245001, x245002, x245003 => if x9 < (x0.length : Int) then (if 0 ≤ x9 then (if x9 < (x5.length : Int) then (if (rd x5 x9) = 0 then (if x245001.length < 8796093022208 then (chapmanref36_AfterIn.l2 k x0 x1 x5 (wrap64 (x9 + 1)) (x245001 ++ [(⟨(rd_T43 x0 x9).f0, (rd_T43 x0 x9).f1⟩ : S43)]) x245002 x245003) else (none)) else (if 0 ≤ (wrap64 ((rd x5 x9) - 1)) then (if (wrap64 ((rd x5 x9) - 1)) < (x1.length : Int) then (if 0 < ((rd_L5 x1 (wrap64 ((rd x5 x9) - 1))).length : Int) then (if (rd (rd_L5 x1 (wrap64 ((rd x5 x9) - 1))) 0) = x9 then ((chapmanref36_sum.f k x0 (rd_L5 x1 (wrap64 ((rd x5 x9) - 1)))).bind fun bt253 => (if x245001.length < 8796093022208 then (chapmanref36_AfterIn.l2 k x0 x1 x5 (wrap64 (x9 + 1)) (x245001 ++ [(⟨bt253.1, bt253.2⟩ : S43)]) x245002 x245003) else (none))) else (chapmanref36_AfterIn.l2 k x0 x1 x5 (wrap64 (x9 + 1)) x245001 x245002 x245003)) else (none)) else (none)) else (none))) else (none)) else (none)) else (some (([] : List (List Int)), x245001, x245002, x245003))
end
def chapmanref36_AfterIn.f (k : Nat) (l0 : List (S43)) (l1 : List (List Int)) : Option ((List (List Int)) × (List (S43)) × Int × Int) := (chapmanref36_Valid.f k l0).bind fun t231 => (if t231 = true then (if 0 ≤ (l0.length : Int) then (if ((l0.length : Int) : Int).toNat ≤ 35184372088832 then (chapmanref36_AfterIn.l0 k l0 l1 (List.replicate ((l0.length : Int) : Int).toNat 0) 0) else (none)) else (none)) else (some (([] : List (List Int)), ([] : List (S43)), 0, 1)))
def chapmanref36_AfterIn.T20 : Bool × List (List Nat × List Nat) := (true, [([], []), ([0], [0]), ([], []), ([], []), ([2, 3], [2, 3]), ([4], [4]), ([5], [5]), ([1, 6], [1, 6]), ([0, 1, 2, 3, 4, 5, 6, 7], []), ([8, 7, 7, 0, 1, 2, 3, 4, 5, 6, 7], [7, 8])])
def chapmanref36_AfterIn.B20 : List Nat := [0, 1, 0, 0, 12, 28, 60, 127, 255, 511]
theorem chapmanref36_AfterIn.tab20 : rtab .any (opsOf Try.f20 20) = chapmanref36_AfterIn.T20 := by kernel_rfl
theorem chapmanref36_AfterIn.bits20 : waitsOk chapmanref36_AfterIn.T20.2 chapmanref36_AfterIn.B20 = true := by kernel_rfl
def chapmanref36_AfterIn.T23 : Bool × List (List Nat × List Nat) := (true, [([], []), ([0], [0]), ([], []), ([], []), ([2, 3], [2, 3]), ([4], [4]), ([1, 5, 4], [1, 5]), ([0, 1, 2, 3, 4, 5, 6], []), ([7, 6, 6, 0, 1, 2, 3, 4, 5, 6], [6, 7])])
def chapmanref36_AfterIn.B23 : List Nat := [0, 1, 0, 0, 12, 28, 63, 127, 255]
theorem chapmanref36_AfterIn.tab23 : rtab .any (opsOf Try.f20 23) = chapmanref36_AfterIn.T23 := by kernel_rfl
theorem chapmanref36_AfterIn.bits23 : waitsOk chapmanref36_AfterIn.T23.2 chapmanref36_AfterIn.B23 = true := by kernel_rfl
set_option maxHeartbeats 8000000 in
set_option maxRecDepth 100000 in
theorem chapmanref36_AfterIn.calls (k : Nat) (A0 : Option Addr) (c0 : Nat) (l0 : List (S43)) (A1 : Option Addr) (c1 : Nat) (l1 : List (List Int)) (r1 : List (List Int)) (r2 : List (S43)) (r3 : Int) (r4 : Int) (w : World) (hr0 : Kd.C k43 w A0 l0.length l0) (hc0 : l0.length ≤ c0) (hr1 : Kd.C (Kd.slice 3 (Kd.int .i64)) w A1 l1.length l1) (hc1 : l1.length ≤ c1) (h : chapmanref36_AfterIn.f k l0 l1 = some (r1, r2, r3, r4)) :
    Calls Try.prog 20 #[.slice A0 l0.length c0, .slice A1 l1.length c1] w fun e w' => ∃ v0_ v1_ : Value, e = .returned (.agg #[v0_, v1_, .int .i64 r3, .int .i64 r4]) ∧ Kd.R (Kd.slice 3 (Kd.int .i64)) 26 w' w.heap.size (fun _ => True) v0_ r1 ∧ Kd.R k43 43 w' w.heap.size (fun _ => True) v1_ r2 ∧ Below w.heap.size w w' := by
  have hu36 := Try.underlying36
  have hu43 := Try.underlying43
  have HR0 := Aside0.mk hr0
  have HC0 := Aside0.mk hc0
  clear hr0 hc0
  have HR1 := Aside0.mk hr1
  have HC1 := Aside0.mk hc1
  clear hr1 hc1
  have HB := Aside0.mk (Below.refl w.heap.size w)
  have H : ((chapmanref36_Valid.f k l0).bind fun t231 => (if t231 = true then (if 0 ≤ (l0.length : Int) then (if ((l0.length : Int) : Int).toNat ≤ 35184372088832 then (chapmanref36_AfterIn.l0 k l0 l1 (List.replicate ((l0.length : Int) : Int).toNat 0) 0) else (none)) else (none)) else (some (([] : List (List Int)), ([] : List (S43)), 0, 1)))) = some (r1, r2, r3, r4) := h
  clear h
  replace H := Option.bind_eq_some_iff.mp H
  obtain ⟨t231, A30, H⟩ := H
  replace H : (if t231 = true then (if 0 ≤ (l0.length : Int) then (if ((l0.length : Int) : Int).toNat ≤ 35184372088832 then (chapmanref36_AfterIn.l0 k l0 l1 (List.replicate ((l0.length : Int) : Int).toNat 0) 0) else (none)) else (none)) else (some (([] : List (List Int)), ([] : List (S43)), 0, 1))) = some (r1, r2, r3, r4) := H
  have A3 := Aside0.mk A30
  clear A30
  by_cases c4 : t231 = true
  · subst c4
    have H1 : (if 0 ≤ (l0.length : Int) then (if ((l0.length : Int) : Int).toNat ≤ 35184372088832 then (chapmanref36_AfterIn.l0 k l0 l1 (List.replicate ((l0.length : Int) : Int).toNat 0) 0) else (none)) else (none)) = some (r1, r2, r3, r4) := by rw [if_pos rfl] at H; exact H
    clear H
    have H := H1
    clear H1
    by_cases c5 : 0 ≤ (l0.length : Int)
    · rw [if_pos c5] at H
      have c5b0 := eq_true c5
      have c5b1 : decide (0 ≤ (l0.length : Int)) = true := decide_eq_true c5
      clear c5
      by_cases c6 : ((l0.length : Int) : Int).toNat ≤ 35184372088832
      · rw [if_pos c6] at H
        have c6b0 := eq_true c6
        have c6b1 : decide (((l0.length : Int) : Int).toNat ≤ 35184372088832) = true := decide_eq_true c6
        clear c6
        obtain ⟨y232, hy232⟩ : ∃ y_ : List Int, y_ = (List.replicate ((l0.length : Int) : Int).toNat 0) := ⟨_, rfl⟩
        replace H : (chapmanref36_AfterIn.l0 k l0 l1 y232 0) = some (r1, r2, r3, r4) := by first | (rw [hy232]; with_reducible exact H) | (have H2_ := (Option.bind_some _ _).symm.trans H; rw [hy232]; with_reducible exact H2_) | (have H2_ := (Option.bind_some _ _).symm.trans H; with_reducible exact H2_) | with_reducible exact H | (rw [hy232]; exact H) | exact H
        have Ny232 := Aside0.mk hy232
        clear hy232
        have H' := Aside0.mk H
        clear H
        go_enter Try.func20, Try.ntmps20
        go_wp2_with (first | ((with_reducible refine gate_dst (N := 4) rfl ?_); refine box_event ?hg (N := 4) ?hd (cs := #[.slice none 0 0, .slice none 0 0, .int .i64 0, .int .i64 0]) (t := 36) ?hr ?_; (case hd => rfl); (case hg => rfl); (case hr => first | (go_simp; done) | (go_simp; rfl)); intro gb230 hg w7 hbox hb; have n0_ := Aside0.mk (below_step (by repeat (first | (with_reducible first | exact HB.out | apply below_alloc | apply pw_below_drewN | apply below_drew1) | exact HB.out)) hb); have n1_ := Aside0.mk (hbox); have n2_ := Aside0.mk ((by rw [hg]; exact (below_size (by repeat (first | (with_reducible first | exact HB.out | apply below_alloc | apply pw_below_drewN | apply below_drew1) | exact HB.out))) : w.heap.size ≤ gb230)); have n3_ := Aside0.mk ((by rw [hg]; exact (below_size (by repeat (first | (with_reducible first | exact HB.out | apply below_alloc | apply pw_below_drewN | apply below_drew1) | exact HB.out))) : w.heap.size ≤ gb230)); clear HB; have HB := n0_; have BK230 := n1_; have GW230 := n2_; have GE230 := n3_; clear n0_ n1_ n2_ n3_; clear hb hbox hg) | ((with_reducible refine gate_callee (f := 13) rfl ?_); refine goesL_ (some 12) rfl rfl Try.func13 (by kernel_rfl) rfl #[.slice A0 l0.length c0] rfl (by (try simp only [List.map_toArray, List.map_cons, List.map_nil]); first | done | rfl | (simp only [List.length_drop, List.length_take]; rfl)) ?_; (with_reducible refine (chapmanref36_Valid.calls k _ _ l0 true _ ?side1 ?side2 A3.out).mono ?_); (case side1 => repeat (first | exact (Kd.C_below HR0.out HB.out) | (with_reducible refine Kd.C_alloc ?_ _) | (with_reducible refine Kd.C_drewN ?_ _) | (with_reducible refine Kd.C_drew ?_))); (case side2 => exact HC0.out); rintro e w' ⟨rfl, ⟨nd, rfl⟩⟩; refine ⟨_, rfl, ?_⟩) | ((with_reducible refine gate_dst (N := 17) rfl ?_); refine Kd.R_make (Kd.int .i64) _ 3 rfl (N := 17) rfl 26 _ _ rfl (l0.length : Int) rfl rfl Try.underlying26 (.int .i64 0) 8 info3 rfl (by decide) (by omega) 0 (ok := fun _ => True) (okp := fun _ => True) rfl (fun _ hk => hk) trivial (of_decide_eq_true (by first | (with_reducible assumption) | assumption)) (Nat.le_trans (Nat.mul_le_mul_right _ (of_decide_eq_true (by first | (with_reducible assumption) | assumption) : (l0.length : Int).toNat ≤ 35184372088832)) (by omega)) (Below.refl _ _) (Nat.le_refl _) ?_; intro v233 w8 ho9 hb hg_ hnew_; clear hg_ hnew_; (first | rw [← Ny232.out] at ho9 | (simp only [Int.reduceToNat] at ho9; rw [← Ny232.out] at ho9)); have n0_ := Aside0.mk (Kd.R_lower ho9 (below_size (by repeat (first | (with_reducible first | exact HB.out | apply below_alloc | apply pw_below_drewN | apply below_drew1 | refine below_set ?_ GE230.out) | exact HB.out)))); have n1_ := Aside0.mk (blk_below (g := gb230) (o := .cells #[.slice none 0 0, .slice none 0 0, .int .i64 0, .int .i64 0] 36 (0, 0)) (by (with_reducible repeat (first | refine blk_drewN ?_ _ | refine blk_drew ?_ | refine blk_alloc ?_ _)); exact BK230.out) hb); have n2_ := Aside0.mk (below_step (by repeat (first | (with_reducible first | exact HB.out | apply below_alloc | apply pw_below_drewN | apply below_drew1 | refine below_set ?_ GE230.out) | exact HB.out)) hb); clear BK230; clear HB; have HO234 := n0_; have BK230 := n1_; have HB := n2_; clear n0_ n1_ n2_; clear hb ho9))
        go_loopg [6] k (fun kq v6 w' => ∃ (x5_1 : List Int) (x6_1 : Int) (x231002_1 : Int) (x231003_1 : Int), v6 = .int .i64 x6_1 ∧ Aside0 (chapmanref36_AfterIn.l0 kq l0 l1 x5_1 x6_1 = some (r1, r2, r3, r4)) ∧ Aside0 (kq ≤ k) ∧ Aside0 (Kd.R (Kd.int .i64) 3 w' w.heap.size (fun _ => True) v233 x5_1) ∧ Aside0 (w'.heap[gb230]? = some (.cells #[(.slice none 0 0), (.slice none 0 0), .int .i64 x231002_1, .int .i64 x231003_1] 36 (0, 0))) ∧ Aside0 (Below w.heap.size w w'))
        case atStart => exact ⟨(y232), (0), (0), (0), (by first | rfl | (simp; done) | (simp [*]; done)), H', ⟨Nat.le_refl _⟩, ⟨by (with_reducible repeat (first | apply Kd.R_alloc | apply Kd.R_drewN | apply Kd.R_drew)); exact HO234.out⟩, ⟨by (with_reducible repeat (first | refine blk_drewN ?_ _ | refine blk_drew ?_ | refine blk_alloc ?_ _)); exact BK230.out⟩, ⟨by repeat (first | (with_reducible first | exact HB.out | apply below_alloc | apply pw_below_drewN | apply below_drew1 | refine below_set ?_ GE230.out) | exact HB.out)⟩⟩
        case round =>
          clear H'
          try clear c1
          try clear c2
          try clear p2
          try clear c4
          try clear c5
          try clear c5b0
          try clear c5b1
          try clear c6
          try clear c6b0
          try clear c6b1
          obtain ⟨x5_1, x6_1, x231002_1, x231003_1, rfl, HA, HK1, HO_5, BK230, HB⟩ := hrel
          cases gk with
          | zero => exact absurd HA.out (by simp [chapmanref36_AfterIn.l0])
          | succ k1 =>
            have H := HA.out
            clear HA
            simp only [chapmanref36_AfterIn.l0] at H
            by_cases c10 : x6_1 < (l1.length : Int)
            · rw [if_pos c10] at H
              have c10b0 : decide (x6_1 < (l1.length : Int)) = true := decide_eq_true c10
              clear c10
              by_cases c11 : 0 ≤ x6_1
              · rw [if_pos c11] at H
                have c11b0 : decide (0 ≤ x6_1) = true := decide_eq_true c11
                clear c11
                replace H := Option.bind_eq_some_iff.mp H
                obtain ⟨t236, A120, H⟩ := H
                replace H : (if t236 = true then (chapmanref36_AfterIn.l1 k1 l0 l1 x5_1 x6_1 0) else (some (([] : List (List Int)), ([] : List (S43)), 0, 1))) = some (r1, r2, r3, r4) := H
                have A12 := Aside0.mk A120
                clear A120
                by_cases c13 : t236 = true
                · subst c13
                  have H1 : (chapmanref36_AfterIn.l1 k1 l0 l1 x5_1 x6_1 0) = some (r1, r2, r3, r4) := by rw [if_pos rfl] at H; exact H
                  clear H
                  have H := H1
                  clear H1
                  have H' := Aside0.mk H
                  clear H
                  have p235 : 0 ≤ (x6_1 : Int) := of_decide_eq_true (by first | (with_reducible assumption) | assumption)
                  have q235 : x6_1 < (l1.length : Int) := of_decide_eq_true (by first | (with_reducible assumption) | assumption)
                  obtain ⟨ad235, A235_0, c235_0, e235, hx235_0, hl235_0, hi235_0⟩ := at_L5 HR1.out x6_1 p235 q235
                  cases e235
                  replace hx235_0 := (HB.out.cell (World.block_lt_of_cell? w _ hx235_0)).trans hx235_0
                  have HR235_0 := Aside0.mk hi235_0
                  have HC235_0 := Aside0.mk hl235_0
                  clear hi235_0 hl235_0
                  replace p235 := eq_true p235
                  replace q235 := eq_true q235
                  go_wp2_with (first | ((with_reducible refine gate_callee (f := 37) rfl ?_); refine goesL_ (some 29) rfl rfl Try.func37 (by kernel_rfl) rfl #[.slice A0 l0.length c0, .slice A235_0 (rd_L5 l1 x6_1).length c235_0] rfl (by (try simp only [List.map_toArray, List.map_cons, List.map_nil]); first | done | rfl | (simp only [List.length_drop, List.length_take]; rfl)) ?_; (with_reducible refine (chapmanref36_group.calls k1 _ _ l0 _ _ (rd_L5 l1 x6_1) true _ ?side1 ?side2 ?side3 ?side4 A12.out).mono ?_); (case side1 => repeat (first | exact (Kd.C_below HR0.out HB.out) | (with_reducible refine Kd.C_alloc ?_ _) | (with_reducible refine Kd.C_drewN ?_ _) | (with_reducible refine Kd.C_drew ?_))); (case side2 => exact HC0.out); (case side3 => repeat (first | exact (Kd.C_below HR235_0.out HB.out) | (with_reducible refine Kd.C_alloc ?_ _) | (with_reducible refine Kd.C_drewN ?_ _) | (with_reducible refine Kd.C_drew ?_))); (case side4 => exact HC235_0.out); rintro e w' ⟨rfl, ⟨nd, rfl⟩⟩; refine ⟨_, rfl, ?_⟩))
                  go_loopg [7] k1 (fun kq v7 w' => ∃ (x5_2 : List Int) (x7_2 : Int) (x231002_2 : Int) (x231003_2 : Int), v7 = .int .i64 x7_2 ∧ Aside0 (chapmanref36_AfterIn.l1 kq l0 l1 x5_2 x6_1 x7_2 = some (r1, r2, r3, r4)) ∧ Aside0 (kq ≤ k1) ∧ Aside0 (Kd.R (Kd.int .i64) 3 w' w.heap.size (fun _ => True) v233 x5_2) ∧ Aside0 (w'.heap[gb230]? = some (.cells #[(.slice none 0 0), (.slice none 0 0), .int .i64 x231002_2, .int .i64 x231003_2] 36 (0, 0))) ∧ Aside0 (Below w.heap.size w w'))
                  case atStart => exact ⟨(x5_1), (0), (x231002_1), (x231003_1), (by first | rfl | (simp; done) | (simp [*]; done)), H', ⟨Nat.le_refl _⟩, ⟨by (with_reducible repeat (first | apply Kd.R_alloc | apply Kd.R_drewN | apply Kd.R_drew)); exact HO_5.out⟩, ⟨by (with_reducible repeat (first | refine blk_drewN ?_ _ | refine blk_drew ?_ | refine blk_alloc ?_ _)); exact BK230.out⟩, ⟨by repeat (first | (with_reducible first | exact HB.out | apply below_alloc | apply pw_below_drewN | apply below_drew1 | refine below_set ?_ GE230.out) | exact HB.out)⟩⟩
                  case round =>
                    clear H'
                    try clear c1
                    try clear c2
                    try clear p2
                    try clear q2
                    try clear hx2
                    try clear c3
                    try clear c4
                    try clear c5
                    try clear c5b0
                    try clear c5b1
                    try clear c6
                    try clear c6b0
                    try clear c6b1
                    try clear c10
                    try clear c10b0
                    try clear c11
                    try clear c11b0
                    try clear c13
                    try clear hx235_0
                    try clear p2
                    try clear p235
                    try clear q235
                    obtain ⟨x5_2, x7_2, x231002_2, x231003_2, rfl, HA, HK2, HO_5, BK230, HB⟩ := hrel
                    cases gk with
                    | zero => exact absurd HA.out (by simp [chapmanref36_AfterIn.l1])
                    | succ k2 =>
                      have H := HA.out
                      clear HA
                      simp only [chapmanref36_AfterIn.l1] at H
                      by_cases c14 : 0 ≤ x6_1
                      · rw [if_pos c14] at H
                        have c14b0 : decide (0 ≤ x6_1) = true := decide_eq_true c14
                        clear c14
                        by_cases c15 : x6_1 < (l1.length : Int)
                        · rw [if_pos c15] at H
                          have c15b0 : decide (x6_1 < (l1.length : Int)) = true := decide_eq_true c15
                          clear c15
                          by_cases c16 : x7_2 < ((rd_L5 l1 x6_1).length : Int)
                          · rw [if_pos c16] at H
                            have c16b0 : decide (x7_2 < ((rd_L5 l1 x6_1).length : Int)) = true := decide_eq_true c16
                            clear c16
                            by_cases c17 : 0 ≤ x7_2
                            · rw [if_pos c17] at H
                              have c17b0 : decide (0 ≤ x7_2) = true := decide_eq_true c17
                              clear c17
                              by_cases c18 : 0 ≤ (rd (rd_L5 l1 x6_1) x7_2)
                              · rw [if_pos c18] at H
                                have c18b0 : decide (0 ≤ (rd (rd_L5 l1 x6_1) x7_2)) = true := decide_eq_true c18
                                clear c18
                                by_cases c19 : (rd (rd_L5 l1 x6_1) x7_2) < (x5_2.length : Int)
                                · rw [if_pos c19] at H
                                  have c19b0 : decide ((rd (rd_L5 l1 x6_1) x7_2) < (x5_2.length : Int)) = true := decide_eq_true c19
                                  clear c19
                                  by_cases c20 : (rd x5_2 (rd (rd_L5 l1 x6_1) x7_2)) = 0
                                  · rw [if_pos c20] at H
                                    have c20b0 : ((rd x5_2 (rd (rd_L5 l1 x6_1) x7_2)) == 0) = true := beq_iff_eq.mpr c20
                                    have c20b1 : ((rd x5_2 (rd (rd_L5 l1 x6_1) x7_2)) != 0) = false := bne_eq_false_iff_eq.mpr c20
                                    clear c20
                                    obtain ⟨y243, hy243⟩ : ∃ y_ : List Int, y_ = (x5_2.set ((rd (rd_L5 l1 x6_1) x7_2) : Int).toNat (wrap64 (x6_1 + 1))) := ⟨_, rfl⟩
                                    replace H : (chapmanref36_AfterIn.l1 k2 l0 l1 y243 x6_1 (wrap64 (x7_2 + 1))) = some (r1, r2, r3, r4) := by first | (rw [hy243]; with_reducible exact H) | (have H2_ := (Option.bind_some _ _).symm.trans H; rw [hy243]; with_reducible exact H2_) | (have H2_ := (Option.bind_some _ _).symm.trans H; with_reducible exact H2_) | with_reducible exact H | (rw [hy243]; exact H) | exact H
                                    have Ny243 := Aside0.mk hy243
                                    clear hy243
                                    have H' := Aside0.mk H
                                    clear H
                                    have p237 : 0 ≤ (x6_1 : Int) := of_decide_eq_true (by first | (with_reducible assumption) | assumption)
                                    have q237 : x6_1 < (l1.length : Int) := of_decide_eq_true (by first | (with_reducible assumption) | assumption)
                                    obtain ⟨ad237, A237_0, c237_0, e237, hx237_0, hl237_0, hi237_0⟩ := at_L5 HR1.out x6_1 p237 q237
                                    obtain rfl : ad235 = ad237 := (by injection e237)
                                    replace hx237_0 := (HB.out.cell (World.block_lt_of_cell? w _ hx237_0)).trans hx237_0
                                    have HR237_0 := Aside0.mk hi237_0
                                    have HC237_0 := Aside0.mk hl237_0
                                    clear hi237_0 hl237_0
                                    replace p237 := eq_true p237
                                    replace q237 := eq_true q237
                                    have p238 : 0 ≤ (x6_1 : Int) := of_decide_eq_true (by first | (with_reducible assumption) | assumption)
                                    have q238 : x6_1 < (l1.length : Int) := of_decide_eq_true (by first | (with_reducible assumption) | assumption)
                                    obtain ⟨ad238, A238_0, c238_0, e238, hx238_0, hl238_0, hi238_0⟩ := at_L5 HR1.out x6_1 p238 q238
                                    obtain rfl : ad235 = ad238 := (by injection e238)
                                    replace hx238_0 := (HB.out.cell (World.block_lt_of_cell? w _ hx238_0)).trans hx238_0
                                    have HR238_0 := Aside0.mk hi238_0
                                    have HC238_0 := Aside0.mk hl238_0
                                    clear hi238_0 hl238_0
                                    replace p238 := eq_true p238
                                    replace q238 := eq_true q238
                                    have ea_ := Option.some.inj (hx237_0.symm.trans hx238_0)
                                    injection ea_ with ea_ en_ ec_
                                    subst ea_
                                    subst ec_
                                    clear en_
                                    have p239 : 0 ≤ (x7_2 : Int) := of_decide_eq_true (by first | (with_reducible assumption) | assumption)
                                    have q239 : x7_2 < ((rd_L5 l1 x6_1).length : Int) := of_decide_eq_true (by first | (with_reducible assumption) | assumption)
                                    obtain ⟨ad239, e239, hx239_0⟩ := Kd.at_int HR238_0.out x7_2 p239 q239
                                    cases e239
                                    replace hx239_0 := (HB.out.cell (World.block_lt_of_cell? w _ hx239_0)).trans hx239_0
                                    replace p239 := eq_true p239
                                    replace q239 := eq_true q239
                                    obtain ⟨Ao22, co22, eo22⟩ := Kd.R_slice HO_5.out
                                    subst eo22
                                    have p240 : 0 ≤ ((rd (rd_L5 l1 x6_1) x7_2) : Int) := of_decide_eq_true (by first | (with_reducible assumption) | assumption)
                                    have q240 : (rd (rd_L5 l1 x6_1) x7_2) < (x5_2.length : Int) := of_decide_eq_true (by first | (with_reducible assumption) | assumption)
                                    obtain ⟨ad240, e240, hx240_0⟩ := Kd.at_int (Kd.R_reads' HO_5.out).2.2 (rd (rd_L5 l1 x6_1) x7_2) p240 q240
                                    cases e240
                                    replace p240 := eq_true p240
                                    replace q240 := eq_true q240
                                    have p241 : 0 ≤ (x6_1 : Int) := of_decide_eq_true (by first | (with_reducible assumption) | assumption)
                                    have q241 : x6_1 < (l1.length : Int) := of_decide_eq_true (by first | (with_reducible assumption) | assumption)
                                    obtain ⟨ad241, A241_0, c241_0, e241, hx241_0, hl241_0, hi241_0⟩ := at_L5 HR1.out x6_1 p241 q241
                                    obtain rfl : ad235 = ad241 := (by injection e241)
                                    replace hx241_0 := (HB.out.cell (World.block_lt_of_cell? w _ hx241_0)).trans hx241_0
                                    have HR241_0 := Aside0.mk hi241_0
                                    have HC241_0 := Aside0.mk hl241_0
                                    clear hi241_0 hl241_0
                                    replace p241 := eq_true p241
                                    replace q241 := eq_true q241
                                    have ea_ := Option.some.inj (hx237_0.symm.trans hx241_0)
                                    injection ea_ with ea_ en_ ec_
                                    subst ea_
                                    subst ec_
                                    clear en_
                                    have p242 : 0 ≤ (x7_2 : Int) := of_decide_eq_true (by first | (with_reducible assumption) | assumption)
                                    have q242 : x7_2 < ((rd_L5 l1 x6_1).length : Int) := of_decide_eq_true (by first | (with_reducible assumption) | assumption)
                                    obtain ⟨ad242, e242, hx242_0⟩ := Kd.at_int HR241_0.out x7_2 p242 q242
                                    cases e242
                                    replace hx242_0 := (HB.out.cell (World.block_lt_of_cell? w _ hx242_0)).trans hx242_0
                                    replace p242 := eq_true p242
                                    replace q242 := eq_true q242
                                    have p21 : 0 ≤ ((rd (rd_L5 l1 x6_1) x7_2) : Int) := of_decide_eq_true (by first | (with_reducible assumption) | assumption)
                                    have q21 : ((rd (rd_L5 l1 x6_1) x7_2) : Int) < ((x5_2.length : Int) : Int) := of_decide_eq_true (by first | (with_reducible assumption) | assumption)
                                    obtain ⟨go21, co21, eo21, gb21, gl21, cl21, HG21⟩ := Kd.R_form HO_5.out (by omega)
                                    (first | cases eo21 | (injection eo21 with ea_ en_ ec_; (first | subst ea_ | (injection ea_ with ea_; subst ea_)); subst ec_; clear en_))
                                    have GB21 := Aside0.mk gb21
                                    have GG21 := Aside0.mk HG21
                                    clear gb21 gl21 HG21
                                    (first | simp only [add_plain] at hx240_0 | skip)
                                    obtain ⟨hx21_0, hf21_0⟩ := Kd.R_celln 0 HO_5.out ((rd (rd_L5 l1 x6_1) x7_2) : Int) p21 q21
                                    replace p21 := eq_true p21
                                    replace q21 := eq_true q21
                                    have HP23 := Kd.R_putg HO_5.out ((rd (rd_L5 l1 x6_1) x7_2) : Int) (wrap64 (x6_1 + 1))
                                    go_wp2_with (first | ((with_reducible refine gate_store (t := 3) (p := 63) rfl ?_); refine store_event (t := 3) (p := 63) (v := ?vo_w24) (w1 := (wr.setCell ⟨go21, ((rd (rd_L5 l1 x6_1) x7_2) : Int).toNat, none⟩ (.int .i64 (wrap64 (x6_1 + 1))))) ?hg ?ho ?hn ?hr ?_; (case ho => rfl); (case hg => rfl); (case hn => rfl); (case hr => first | (go_simp; done) | (go_simp; rfl)); intro w24 hw; have hg : wr.grownBy w24 (some go21) := (by rw [hw]; exact HP23.2); have hp_ : Kd.R (Kd.int .i64) 3 w24 w.heap.size (fun _ => True) (.slice (some ⟨go21, 0, none⟩) x5_2.length co22) y243 := (by rw [hw, Ny243.out]; exact HP23.1); clear HP23; have n0_ := Aside0.mk (hp_); have n1_ := Aside0.mk (blk_grown (g := gb230) (o := .cells #[.slice none 0 0, .slice none 0 0, .int .i64 x231002_2, .int .i64 x231003_2] 36 (0, 0)) (by (with_reducible repeat (first | refine blk_drewN ?_ _ | refine blk_drew ?_ | refine blk_alloc ?_ _)); exact BK230.out) hg (Kd.R_ne HO_5.out BK230.out (by decide))); have n2_ := Aside0.mk ((by rw [hw]; exact below_set (HB.out) GB21.out : Below w.heap.size w w24)); clear HO_5; clear BK230; clear HB; have HO_5 := n0_; have BK230 := n1_; have HB := n2_; clear n0_ n1_ n2_; clear hg hw hp_))
                                    go_roundg k2
                                    case measure => have := HK1.out; have := HK2.out; omega
                                    case rel => exact ⟨(y243), (wrap64 (x7_2 + 1)), (x231002_2), (x231003_2), (by first | rfl | (simp; done) | (simp [*]; done)), H', ⟨by have := HK1.out; have := HK2.out; omega⟩, ⟨by (with_reducible repeat (first | apply Kd.R_alloc | apply Kd.R_drewN | apply Kd.R_drew)); exact HO_5.out⟩, ⟨by (with_reducible repeat (first | refine blk_drewN ?_ _ | refine blk_drew ?_ | refine blk_alloc ?_ _)); exact BK230.out⟩, ⟨by repeat (first | (with_reducible first | exact HB.out | apply below_alloc | apply pw_below_drewN | apply below_drew1 | refine below_set ?_ GE230.out) | exact HB.out)⟩⟩
                                  · rw [if_neg c20] at H
                                    have c20b0 : ((rd x5_2 (rd (rd_L5 l1 x6_1) x7_2)) == 0) = false := beq_eq_false_iff_ne.mpr c20
                                    have c20b1 : ((rd x5_2 (rd (rd_L5 l1 x6_1) x7_2)) != 0) = true := bne_iff_ne.mpr c20
                                    simp only [Option.some.injEq, Prod.mk.injEq] at H
                                    obtain ⟨rfl, rfl, rfl, rfl⟩ := H
                                    have p237 : 0 ≤ (x6_1 : Int) := of_decide_eq_true (by first | (with_reducible assumption) | assumption)
                                    have q237 : x6_1 < (l1.length : Int) := of_decide_eq_true (by first | (with_reducible assumption) | assumption)
                                    obtain ⟨ad237, A237_0, c237_0, e237, hx237_0, hl237_0, hi237_0⟩ := at_L5 HR1.out x6_1 p237 q237
                                    obtain rfl : ad235 = ad237 := (by injection e237)
                                    replace hx237_0 := (HB.out.cell (World.block_lt_of_cell? w _ hx237_0)).trans hx237_0
                                    have HR237_0 := Aside0.mk hi237_0
                                    have HC237_0 := Aside0.mk hl237_0
                                    clear hi237_0 hl237_0
                                    replace p237 := eq_true p237
                                    replace q237 := eq_true q237
                                    have p238 : 0 ≤ (x6_1 : Int) := of_decide_eq_true (by first | (with_reducible assumption) | assumption)
                                    have q238 : x6_1 < (l1.length : Int) := of_decide_eq_true (by first | (with_reducible assumption) | assumption)
                                    obtain ⟨ad238, A238_0, c238_0, e238, hx238_0, hl238_0, hi238_0⟩ := at_L5 HR1.out x6_1 p238 q238
                                    obtain rfl : ad235 = ad238 := (by injection e238)
                                    replace hx238_0 := (HB.out.cell (World.block_lt_of_cell? w _ hx238_0)).trans hx238_0
                                    have HR238_0 := Aside0.mk hi238_0
                                    have HC238_0 := Aside0.mk hl238_0
                                    clear hi238_0 hl238_0
                                    replace p238 := eq_true p238
                                    replace q238 := eq_true q238
                                    have ea_ := Option.some.inj (hx237_0.symm.trans hx238_0)
                                    injection ea_ with ea_ en_ ec_
                                    subst ea_
                                    subst ec_
                                    clear en_
                                    have p239 : 0 ≤ (x7_2 : Int) := of_decide_eq_true (by first | (with_reducible assumption) | assumption)
                                    have q239 : x7_2 < ((rd_L5 l1 x6_1).length : Int) := of_decide_eq_true (by first | (with_reducible assumption) | assumption)
                                    obtain ⟨ad239, e239, hx239_0⟩ := Kd.at_int HR238_0.out x7_2 p239 q239
                                    cases e239
                                    replace hx239_0 := (HB.out.cell (World.block_lt_of_cell? w _ hx239_0)).trans hx239_0
                                    replace p239 := eq_true p239
                                    replace q239 := eq_true q239
                                    obtain ⟨Ao25, co25, eo25⟩ := Kd.R_slice HO_5.out
                                    subst eo25
                                    have p240 : 0 ≤ ((rd (rd_L5 l1 x6_1) x7_2) : Int) := of_decide_eq_true (by first | (with_reducible assumption) | assumption)
                                    have q240 : (rd (rd_L5 l1 x6_1) x7_2) < (x5_2.length : Int) := of_decide_eq_true (by first | (with_reducible assumption) | assumption)
                                    obtain ⟨ad240, e240, hx240_0⟩ := Kd.at_int (Kd.R_reads' HO_5.out).2.2 (rd (rd_L5 l1 x6_1) x7_2) p240 q240
                                    cases e240
                                    replace p240 := eq_true p240
                                    replace q240 := eq_true q240
                                    have hcz26_0 : wr.cell? ⟨gb230, 0, none⟩ = some (.slice none 0 0) := (blk_cell BK230.out 0).trans rfl
                                    have hcz26_1 : wr.cell? ⟨gb230, 1, none⟩ = some (.slice none 0 0) := (blk_cell BK230.out 1).trans rfl
                                    have hcz26_2 : wr.cell? ⟨gb230, 2, none⟩ = some (.int .i64 x231002_2) := (blk_cell BK230.out 2).trans rfl
                                    have hcz26_3 : wr.cell? ⟨gb230, 3, none⟩ = some (.int .i64 x231003_2) := (blk_cell BK230.out 3).trans rfl
                                    have hfz26_0 := blk_frozen BK230.out 0
                                    have hfz26_1 := blk_frozen BK230.out 1
                                    have hfz26_2 := blk_frozen BK230.out 2
                                    have hfz26_3 := blk_frozen BK230.out 3
                                    go_wp2
                                    refine bodyPost_ret (results_cell_row rfl _ _ gb230 36 #[.slice none 0 0, .slice none 0 0, .int .i64 0, .int .i64 1] (0, 0) _ rfl (by (with_reducible repeat (first | refine blk_drewN ?_ _ | refine blk_drew ?_ | refine blk_alloc ?_ _)); refine blk_put (cs := #[.slice none 0 0, .slice none 0 0, .int .i64 0, .int .i64 x231003_2]) ?_ 3 _ rfl; (with_reducible repeat (first | refine blk_drewN ?_ _ | refine blk_drew ?_ | refine blk_alloc ?_ _)); refine blk_put (cs := #[.slice none 0 0, .slice none 0 0, .int .i64 x231002_2, .int .i64 x231003_2]) ?_ 2 _ rfl; (with_reducible repeat (first | refine blk_drewN ?_ _ | refine blk_drew ?_ | refine blk_alloc ?_ _)); refine blk_put (cs := #[.slice none 0 0, .slice none 0 0, .int .i64 x231002_2, .int .i64 x231003_2]) ?_ 1 _ rfl; (with_reducible repeat (first | refine blk_drewN ?_ _ | refine blk_drew ?_ | refine blk_alloc ?_ _)); refine blk_put (cs := #[.slice none 0 0, .slice none 0 0, .int .i64 x231002_2, .int .i64 x231003_2]) ?_ 0 _ rfl; (with_reducible repeat (first | refine blk_drewN ?_ _ | refine blk_drew ?_ | refine blk_alloc ?_ _)); exact BK230.out) Try.underlying36 rfl (by kernel_rfl)) rfl ?_
                                    exact ⟨_, _, by first | rfl | (simp [errW_none, errW_some] <;> rfl) | (simp [*, errW_none, errW_some] <;> rfl), by first | exact Kd.R_nil _ _ _ _ _ | exact Kd.N_nil _ _ _ _ _ | exact Kd.V_nil _ _ _ _ _ | exact Kd.Q_nil _ _ _ _ _ | exact Kd.S_nil _ _ _ _ _, by first | exact Kd.R_nil _ _ _ _ _ | exact Kd.N_nil _ _ _ _ _ | exact Kd.V_nil _ _ _ _ _ | exact Kd.Q_nil _ _ _ _ _ | exact Kd.S_nil _ _ _ _ _, by repeat (first | (with_reducible first | exact HB.out | apply below_alloc | apply pw_below_drewN | apply below_drew1 | refine below_set ?_ GE230.out) | exact HB.out)⟩
                                · rw [if_neg c19] at H
                                  exact absurd H (by simp)
                              · rw [if_neg c18] at H
                                exact absurd H (by simp)
                            · rw [if_neg c17] at H
                              exact absurd H (by simp)
                          · rw [if_neg c16] at H
                            have c16b0 : decide (x7_2 < ((rd_L5 l1 x6_1).length : Int)) = false := decide_eq_false c16
                            clear c16
                            have H' := Aside0.mk H
                            clear H
                            have p237 : 0 ≤ (x6_1 : Int) := of_decide_eq_true (by first | (with_reducible assumption) | assumption)
                            have q237 : x6_1 < (l1.length : Int) := of_decide_eq_true (by first | (with_reducible assumption) | assumption)
                            obtain ⟨ad237, A237_0, c237_0, e237, hx237_0, hl237_0, hi237_0⟩ := at_L5 HR1.out x6_1 p237 q237
                            obtain rfl : ad235 = ad237 := (by injection e237)
                            replace hx237_0 := (HB.out.cell (World.block_lt_of_cell? w _ hx237_0)).trans hx237_0
                            have HR237_0 := Aside0.mk hi237_0
                            have HC237_0 := Aside0.mk hl237_0
                            clear hi237_0 hl237_0
                            replace p237 := eq_true p237
                            replace q237 := eq_true q237
                            go_wp2
                            go_roundg k2
                            case measure => have := HK1.out; have := HK2.out; omega
                            case rel => exact ⟨(x5_2), (wrap64 (x6_1 + 1)), (x231002_2), (x231003_2), (by first | rfl | (simp; done) | (simp [*]; done)), H', ⟨by have := HK1.out; have := HK2.out; omega⟩, ⟨by (with_reducible repeat (first | apply Kd.R_alloc | apply Kd.R_drewN | apply Kd.R_drew)); exact HO_5.out⟩, ⟨by (with_reducible repeat (first | refine blk_drewN ?_ _ | refine blk_drew ?_ | refine blk_alloc ?_ _)); exact BK230.out⟩, ⟨by repeat (first | (with_reducible first | exact HB.out | apply below_alloc | apply pw_below_drewN | apply below_drew1 | refine below_set ?_ GE230.out) | exact HB.out)⟩⟩
                        · rw [if_neg c15] at H
                          exact absurd H (by simp)
                      · rw [if_neg c14] at H
                        exact absurd H (by simp)
                · replace c13 := Bool.eq_false_iff.mpr c13
                  subst c13
                  have H1 : (some (([] : List (List Int)), ([] : List (S43)), 0, 1)) = some (r1, r2, r3, r4) := by rw [if_neg (show ¬ (false = true) by decide)] at H; exact H
                  clear H
                  have H := H1
                  clear H1
                  simp only [Option.some.injEq, Prod.mk.injEq] at H
                  obtain ⟨rfl, rfl, rfl, rfl⟩ := H
                  have p235 : 0 ≤ (x6_1 : Int) := of_decide_eq_true (by first | (with_reducible assumption) | assumption)
                  have q235 : x6_1 < (l1.length : Int) := of_decide_eq_true (by first | (with_reducible assumption) | assumption)
                  obtain ⟨ad235, A235_0, c235_0, e235, hx235_0, hl235_0, hi235_0⟩ := at_L5 HR1.out x6_1 p235 q235
                  cases e235
                  replace hx235_0 := (HB.out.cell (World.block_lt_of_cell? w _ hx235_0)).trans hx235_0
                  have HR235_0 := Aside0.mk hi235_0
                  have HC235_0 := Aside0.mk hl235_0
                  clear hi235_0 hl235_0
                  replace p235 := eq_true p235
                  replace q235 := eq_true q235
                  go_wp2_with (first | ((with_reducible refine gate_callee (f := 37) rfl ?_); refine goesL_ (some 29) rfl rfl Try.func37 (by kernel_rfl) rfl #[.slice A0 l0.length c0, .slice A235_0 (rd_L5 l1 x6_1).length c235_0] rfl (by (try simp only [List.map_toArray, List.map_cons, List.map_nil]); first | done | rfl | (simp only [List.length_drop, List.length_take]; rfl)) ?_; (with_reducible refine (chapmanref36_group.calls k1 _ _ l0 _ _ (rd_L5 l1 x6_1) false _ ?side1 ?side2 ?side3 ?side4 A12.out).mono ?_); (case side1 => repeat (first | exact (Kd.C_below HR0.out HB.out) | (with_reducible refine Kd.C_alloc ?_ _) | (with_reducible refine Kd.C_drewN ?_ _) | (with_reducible refine Kd.C_drew ?_))); (case side2 => exact HC0.out); (case side3 => repeat (first | exact (Kd.C_below HR235_0.out HB.out) | (with_reducible refine Kd.C_alloc ?_ _) | (with_reducible refine Kd.C_drewN ?_ _) | (with_reducible refine Kd.C_drew ?_))); (case side4 => exact HC235_0.out); rintro e w' ⟨rfl, ⟨nd, rfl⟩⟩; refine ⟨_, rfl, ?_⟩; (try (rw [drewN_self wr]; generalize hq_ : World.drewN wr _ = wr; have n0_ : Aside0 (Kd.R (Kd.int .i64) 3 wr w.heap.size (fun _ => True) v233 x5_1) := ⟨by rw [← hq_]; exact (by (with_reducible repeat (first | apply Kd.R_alloc | apply Kd.R_drewN | apply Kd.R_drew)); exact HO_5.out)⟩; have n1_ : Aside0 (wr.heap[gb230]? = some (.cells #[.slice none 0 0, .slice none 0 0, .int .i64 x231002_1, .int .i64 x231003_1] 36 (0, 0))) := ⟨by rw [← hq_]; exact (by (with_reducible repeat (first | refine blk_drewN ?_ _ | refine blk_drew ?_ | refine blk_alloc ?_ _)); exact BK230.out)⟩; have n2_ : Aside0 (Below w.heap.size w wr) := ⟨by rw [← hq_]; exact (by repeat (first | (with_reducible first | exact HB.out | apply below_alloc | apply pw_below_drewN | apply below_drew1 | refine below_set ?_ GE230.out) | exact HB.out))⟩; clear HO_5 BK230 HB hq_; have HO_5 := n0_; have BK230 := n1_; have HB := n2_; clear n0_ n1_ n2_)); have hcz27_0 : wr.cell? ⟨gb230, 0, none⟩ = some (.slice none 0 0) := (blk_cell BK230.out 0).trans rfl; have hcz27_1 : wr.cell? ⟨gb230, 1, none⟩ = some (.slice none 0 0) := (blk_cell BK230.out 1).trans rfl; have hcz27_2 : wr.cell? ⟨gb230, 2, none⟩ = some (.int .i64 x231002_1) := (blk_cell BK230.out 2).trans rfl; have hcz27_3 : wr.cell? ⟨gb230, 3, none⟩ = some (.int .i64 x231003_1) := (blk_cell BK230.out 3).trans rfl; have hfz27_0 := blk_frozen BK230.out 0; have hfz27_1 := blk_frozen BK230.out 1; have hfz27_2 := blk_frozen BK230.out 2; have hfz27_3 := blk_frozen BK230.out 3))
                  refine bodyPost_ret (results_cell_row rfl _ _ gb230 36 #[.slice none 0 0, .slice none 0 0, .int .i64 0, .int .i64 1] (0, 0) _ rfl (by (with_reducible repeat (first | refine blk_drewN ?_ _ | refine blk_drew ?_ | refine blk_alloc ?_ _)); refine blk_put (cs := #[.slice none 0 0, .slice none 0 0, .int .i64 0, .int .i64 x231003_1]) ?_ 3 _ rfl; (with_reducible repeat (first | refine blk_drewN ?_ _ | refine blk_drew ?_ | refine blk_alloc ?_ _)); refine blk_put (cs := #[.slice none 0 0, .slice none 0 0, .int .i64 x231002_1, .int .i64 x231003_1]) ?_ 2 _ rfl; (with_reducible repeat (first | refine blk_drewN ?_ _ | refine blk_drew ?_ | refine blk_alloc ?_ _)); refine blk_put (cs := #[.slice none 0 0, .slice none 0 0, .int .i64 x231002_1, .int .i64 x231003_1]) ?_ 1 _ rfl; (with_reducible repeat (first | refine blk_drewN ?_ _ | refine blk_drew ?_ | refine blk_alloc ?_ _)); refine blk_put (cs := #[.slice none 0 0, .slice none 0 0, .int .i64 x231002_1, .int .i64 x231003_1]) ?_ 0 _ rfl; (with_reducible repeat (first | refine blk_drewN ?_ _ | refine blk_drew ?_ | refine blk_alloc ?_ _)); exact BK230.out) Try.underlying36 rfl (by kernel_rfl)) rfl ?_
                  exact ⟨_, _, by first | rfl | (simp [errW_none, errW_some] <;> rfl) | (simp [*, errW_none, errW_some] <;> rfl), by first | exact Kd.R_nil _ _ _ _ _ | exact Kd.N_nil _ _ _ _ _ | exact Kd.V_nil _ _ _ _ _ | exact Kd.Q_nil _ _ _ _ _ | exact Kd.S_nil _ _ _ _ _, by first | exact Kd.R_nil _ _ _ _ _ | exact Kd.N_nil _ _ _ _ _ | exact Kd.V_nil _ _ _ _ _ | exact Kd.Q_nil _ _ _ _ _ | exact Kd.S_nil _ _ _ _ _, by repeat (first | (with_reducible first | exact HB.out | apply below_alloc | apply pw_below_drewN | apply below_drew1 | refine below_set ?_ GE230.out) | exact HB.out)⟩
              · rw [if_neg c11] at H
                exact absurd H (by simp)
            · rw [if_neg c10] at H
              have c10b0 : decide (x6_1 < (l1.length : Int)) = false := decide_eq_false c10
              clear c10
              have H' := Aside0.mk H
              clear H
              go_wp2_with (first | ((with_reducible refine gate_dst (N := 8) rfl ?_); refine box_event ?hg (N := 8) ?hd (cs := #[.slice none 0 0, .slice none 0 0, .int .i64 0, .int .i64 0]) (t := 36) ?hr ?_; (case hd => rfl); (case hg => rfl); (case hr => first | (go_simp; done) | (go_simp; rfl)); intro gb244 hg w28 hbox hb; have n0_ := Aside0.mk (Kd.R_below (by (with_reducible repeat (first | apply Kd.R_alloc | apply Kd.R_drewN | apply Kd.R_drew)); exact HO_5.out) hb); have n1_ := Aside0.mk (blk_below (g := gb230) (o := .cells #[.slice none 0 0, .slice none 0 0, .int .i64 x231002_1, .int .i64 x231003_1] 36 (0, 0)) (by (with_reducible repeat (first | refine blk_drewN ?_ _ | refine blk_drew ?_ | refine blk_alloc ?_ _)); exact BK230.out) hb); have n2_ := Aside0.mk (below_step (by repeat (first | (with_reducible first | exact HB.out | apply below_alloc | apply pw_below_drewN | apply below_drew1 | refine below_set ?_ GE230.out) | exact HB.out)) hb); have n3_ := Aside0.mk (hbox); have n4_ := Aside0.mk ((by rw [hg]; exact (below_size (by repeat (first | (with_reducible first | exact HB.out | apply below_alloc | apply pw_below_drewN | apply below_drew1 | refine below_set ?_ GE230.out) | exact HB.out))) : w.heap.size ≤ gb244)); have n5_ := Aside0.mk ((by rw [hg]; exact (below_size (by repeat (first | (with_reducible first | exact HB.out | apply below_alloc | apply pw_below_drewN | apply below_drew1 | refine below_set ?_ GE230.out) | exact HB.out))) : w.heap.size ≤ gb244)); have n6_ := Aside0.mk ((by rw [hg]; exact Nat.ne_of_lt (blk_lt (g := gb230) (o := .cells #[.slice none 0 0, .slice none 0 0, .int .i64 x231002_1, .int .i64 x231003_1] 36 (0, 0)) (by (with_reducible repeat (first | refine blk_drewN ?_ _ | refine blk_drew ?_ | refine blk_alloc ?_ _)); exact BK230.out)) : gb230 ≠ gb244)); have n7_ := Aside0.mk ((by rw [hg]; exact Nat.ne_of_gt (blk_lt (g := gb230) (o := .cells #[.slice none 0 0, .slice none 0 0, .int .i64 x231002_1, .int .i64 x231003_1] 36 (0, 0)) (by (with_reducible repeat (first | refine blk_drewN ?_ _ | refine blk_drew ?_ | refine blk_alloc ?_ _)); exact BK230.out)) : gb244 ≠ gb230)); clear HO_5; clear BK230; clear HB; have HO_5 := n0_; have BK230 := n1_; have HB := n2_; have BK244 := n3_; have GW244 := n4_; have GE244 := n5_; have NB230_244 := n6_; have NB244_230 := n7_; clear n0_ n1_ n2_ n3_ n4_ n5_ n6_ n7_; clear hb hbox hg; have hnb29 := NB244_230.out; have hnc29 := NB230_244.out; have hcz30_0 : w28.cell? ⟨gb244, 0, none⟩ = some (.slice none 0 0) := (blk_cell BK244.out 0).trans rfl; have hcz30_1 : w28.cell? ⟨gb244, 1, none⟩ = some (.slice none 0 0) := (blk_cell BK244.out 1).trans rfl; have hcz30_2 : w28.cell? ⟨gb244, 2, none⟩ = some (.int .i64 0) := (blk_cell BK244.out 2).trans rfl; have hcz30_3 : w28.cell? ⟨gb244, 3, none⟩ = some (.int .i64 0) := (blk_cell BK244.out 3).trans rfl; have hfz30_0 := blk_frozen BK244.out 0; have hfz30_1 := blk_frozen BK244.out 1; have hfz30_2 := blk_frozen BK244.out 2; have hfz30_3 := blk_frozen BK244.out 3))
              go_loopg [9] k1 (fun kq v9 w' => ∃ (x9_2 : Int) (x245001_2 : List (S43)) (u245001 : Value), v9 = .int .i64 x9_2 ∧ Aside0 (chapmanref36_AfterIn.l2 kq l0 l1 x5_1 x9_2 x245001_2 0 0 = some (r1, r2, r3, r4)) ∧ Aside0 (kq ≤ k1) ∧ Aside0 (Kd.R (Kd.int .i64) 3 w' w.heap.size (fun _ => True) v233 x5_1) ∧ Aside0 (Kd.R k43 43 w' w.heap.size (fun _ => True) u245001 x245001_2) ∧ Aside0 (w'.heap[gb230]? = some (.cells #[(.slice none 0 0), (.slice none 0 0), .int .i64 x231002_1, .int .i64 x231003_1] 36 (0, 0))) ∧ Aside0 (w'.heap[gb244]? = some (.cells #[(.slice none 0 0), u245001, .int .i64 0, .int .i64 0] 36 (0, 0))) ∧ Aside0 (Below w.heap.size w w'))
              case atStart => exact ⟨(0), (([] : List (S43))), (.slice none 0 0), (by first | rfl | (simp; done) | (simp [*]; done)), H', ⟨Nat.le_refl _⟩, ⟨by (with_reducible repeat (first | apply Kd.R_alloc | apply Kd.R_drewN | apply Kd.R_drew)); exact Kd.R_mono (Kd.R_far (p := ⟨gb244, 3, none⟩) (Kd.R_far (p := ⟨gb244, 2, none⟩) (Kd.R_far (p := ⟨gb244, 1, none⟩) (Kd.R_far (p := ⟨gb244, 0, none⟩) (Kd.R_types HO_5.out BK244.out (by decide)) (fun _ hk => hk.2) (.slice none 0 0)) (fun _ hk => hk.2) (.slice none 0 0)) (fun _ hk => hk.2) (.int .i64 0)) (fun _ hk => hk.2) (.int .i64 0)) (fun _ hk => trivial)⟩, ⟨by first | exact Kd.R_nil _ _ _ _ _ | exact Kd.N_nil _ _ _ _ _ | exact Kd.V_nil _ _ _ _ _ | exact Kd.Q_nil _ _ _ _ _ | exact Kd.S_nil _ _ _ _ _⟩, ⟨by (with_reducible repeat (first | refine blk_drewN ?_ _ | refine blk_drew ?_ | refine blk_alloc ?_ _)); refine blk_far ?_ NB230_244.out _; (with_reducible repeat (first | refine blk_drewN ?_ _ | refine blk_drew ?_ | refine blk_alloc ?_ _)); refine blk_far ?_ NB230_244.out _; (with_reducible repeat (first | refine blk_drewN ?_ _ | refine blk_drew ?_ | refine blk_alloc ?_ _)); refine blk_far ?_ NB230_244.out _; (with_reducible repeat (first | refine blk_drewN ?_ _ | refine blk_drew ?_ | refine blk_alloc ?_ _)); refine blk_far ?_ NB230_244.out _; (with_reducible repeat (first | refine blk_drewN ?_ _ | refine blk_drew ?_ | refine blk_alloc ?_ _)); exact BK230.out⟩, ⟨by (with_reducible repeat (first | refine blk_drewN ?_ _ | refine blk_drew ?_ | refine blk_alloc ?_ _)); refine blk_put (cs := #[.slice none 0 0, .slice none 0 0, .int .i64 0, .int .i64 0]) ?_ 3 _ rfl; (with_reducible repeat (first | refine blk_drewN ?_ _ | refine blk_drew ?_ | refine blk_alloc ?_ _)); refine blk_put (cs := #[.slice none 0 0, .slice none 0 0, .int .i64 0, .int .i64 0]) ?_ 2 _ rfl; (with_reducible repeat (first | refine blk_drewN ?_ _ | refine blk_drew ?_ | refine blk_alloc ?_ _)); refine blk_put (cs := #[.slice none 0 0, .slice none 0 0, .int .i64 0, .int .i64 0]) ?_ 1 _ rfl; (with_reducible repeat (first | refine blk_drewN ?_ _ | refine blk_drew ?_ | refine blk_alloc ?_ _)); refine blk_put (cs := #[.slice none 0 0, .slice none 0 0, .int .i64 0, .int .i64 0]) ?_ 0 _ rfl; (with_reducible repeat (first | refine blk_drewN ?_ _ | refine blk_drew ?_ | refine blk_alloc ?_ _)); exact BK244.out⟩, ⟨by repeat (first | (with_reducible first | exact HB.out | apply below_alloc | apply pw_below_drewN | apply below_drew1 | refine below_set ?_ GE230.out | refine below_set ?_ GE244.out) | exact HB.out)⟩⟩
              case round =>
                clear H'
                try clear c1
                try clear c2
                try clear p2
                try clear q2
                try clear hx2
                try clear hf2
                try clear c3
                try clear c4
                try clear c5
                try clear c5b0
                try clear c5b1
                try clear c6
                try clear c6b0
                try clear c6b1
                try clear p6
                try clear c10
                try clear c10b0
                try clear c11
                try clear c11b0
                try clear c13
                try clear c14
                try clear c14b0
                try clear c15
                try clear c15b0
                try clear c16
                try clear c16b0
                try clear c17
                try clear c17b0
                try clear c18
                try clear c18b0
                try clear c19
                try clear c19b0
                try clear c20
                try clear c20b0
                try clear c20b1
                try clear p21
                try clear q21
                try clear hx21
                try clear hf21
                try clear c23
                try clear p23
                try clear q23
                try clear hx23
                try clear c24
                try clear p24
                try clear q24
                try clear hx24
                try clear c29
                try clear hcz26_0
                try clear hcz26_1
                try clear hcz26_2
                try clear hcz26_3
                try clear hcz27_0
                try clear hcz27_1
                try clear hcz27_2
                try clear hcz27_3
                try clear hcz30_0
                try clear hcz30_1
                try clear hcz30_2
                try clear hcz30_3
                try clear hfz26_0
                try clear hfz26_1
                try clear hfz26_2
                try clear hfz26_3
                try clear hfz27_0
                try clear hfz27_1
                try clear hfz27_2
                try clear hfz27_3
                try clear hfz30_0
                try clear hfz30_1
                try clear hfz30_2
                try clear hfz30_3
                try clear hx21_0
                try clear hx235_0
                try clear hx237_0
                try clear hx238_0
                try clear hx239_0
                try clear hx240_0
                try clear hx241_0
                try clear hx242_0
                try clear p2
                try clear p21
                try clear p235
                try clear p237
                try clear p238
                try clear p239
                try clear p240
                try clear p241
                try clear p242
                try clear q2
                try clear q21
                try clear q235
                try clear q237
                try clear q238
                try clear q239
                try clear q240
                try clear q241
                try clear q242
                obtain ⟨x9_2, x245001_2, u245001, rfl, HA, HK2, HO_5, HO_245001, BK230, BK244, HB⟩ := hrel
                cases gk with
                | zero => exact absurd HA.out (by simp [chapmanref36_AfterIn.l2])
                | succ k2 =>
                  have H := HA.out
                  clear HA
                  simp only [chapmanref36_AfterIn.l2] at H
                  by_cases c31 : x9_2 < (l0.length : Int)
                  · rw [if_pos c31] at H
                    have c31b0 : decide (x9_2 < (l0.length : Int)) = true := decide_eq_true c31
                    clear c31
                    by_cases c32 : 0 ≤ x9_2
                    · rw [if_pos c32] at H
                      have c32b0 : decide (0 ≤ x9_2) = true := decide_eq_true c32
                      clear c32
                      by_cases c33 : x9_2 < (x5_1.length : Int)
                      · rw [if_pos c33] at H
                        have c33b0 : decide (x9_2 < (x5_1.length : Int)) = true := decide_eq_true c33
                        clear c33
                        by_cases c34 : (rd x5_1 x9_2) = 0
                        · rw [if_pos c34] at H
                          have c34b0 : ((rd x5_1 x9_2) == 0) = true := beq_iff_eq.mpr c34
                          have c34b1 : ((rd x5_1 x9_2) != 0) = false := bne_eq_false_iff_eq.mpr c34
                          clear c34
                          by_cases c35 : x245001_2.length < 8796093022208
                          · rw [if_pos c35] at H
                            have LMc35 := Aside0.mk c35
                            clear c35
                            obtain ⟨y247, hy247⟩ : ∃ y_ : List (S43), y_ = (x245001_2 ++ [(⟨(rd_T43 l0 x9_2).f0, (rd_T43 l0 x9_2).f1⟩ : S43)]) := ⟨_, rfl⟩
                            replace H : (chapmanref36_AfterIn.l2 k2 l0 l1 x5_1 (wrap64 (x9_2 + 1)) y247 0 0) = some (r1, r2, r3, r4) := by first | (rw [hy247]; with_reducible exact H) | (have H2_ := (Option.bind_some _ _).symm.trans H; rw [hy247]; with_reducible exact H2_) | (have H2_ := (Option.bind_some _ _).symm.trans H; with_reducible exact H2_) | with_reducible exact H | (rw [hy247]; exact H) | exact H
                            have Ny247 := Aside0.mk hy247
                            clear hy247
                            have H' := Aside0.mk H
                            clear H
                            obtain ⟨Ao36, co36, eo36⟩ := Kd.R_slice HO_5.out
                            subst eo36
                            have p245 : 0 ≤ (x9_2 : Int) := of_decide_eq_true (by first | (with_reducible assumption) | assumption)
                            have q245 : x9_2 < (x5_1.length : Int) := of_decide_eq_true (by first | (with_reducible assumption) | assumption)
                            obtain ⟨ad245, e245, hx245_0⟩ := Kd.at_int (Kd.R_reads' HO_5.out).2.2 x9_2 p245 q245
                            cases e245
                            replace p245 := eq_true p245
                            replace q245 := eq_true q245
                            try go_wp2
                            have n0_ := Aside0.mk (Kd.R_drew HO_5.out)
                            have n1_ := Aside0.mk (Kd.R_drew HO_245001.out)
                            have n2_ := Aside0.mk (blk_drew BK230.out)
                            have n3_ := Aside0.mk (blk_drew BK244.out)
                            have n4_ := Aside0.mk (below_drew1 HB.out)
                            clear HO_5
                            clear HO_245001
                            clear BK230
                            clear BK244
                            clear HB
                            have HO_5 := n0_
                            have HO_245001 := n1_
                            have BK230 := n2_
                            have BK244 := n3_
                            have HB := n4_
                            clear n0_ n1_ n2_ n3_ n4_
                            have p246 : 0 ≤ (x9_2 : Int) := of_decide_eq_true (by first | (with_reducible assumption) | assumption)
                            have q246 : x9_2 < (l0.length : Int) := of_decide_eq_true (by first | (with_reducible assumption) | assumption)
                            obtain ⟨ad246, e246, hx246_0, hx246_1⟩ := at_T43 HR0.out x9_2 p246 q246
                            have hw246_1 := hx246_1
                            have hw246_0 := hx246_0
                            cases e246
                            replace hx246_0 := (HB.out.cell (World.block_lt_of_cell? w _ hx246_0)).trans hx246_0
                            replace hx246_1 := (HB.out.cell (World.block_lt_of_cell? w _ hx246_1)).trans hx246_1
                            replace p246 := eq_true p246
                            replace q246 := eq_true q246
                            refine start_ (n := 10) (S := fun w' => w'.cell? ⟨gb244, 0, none⟩ = some (.slice none 0 0) ∧ w'.cell? ⟨gb244, 1, none⟩ = some (u245001) ∧ w'.cell? ⟨gb244, 2, none⟩ = some (.int .i64 0) ∧ w'.cell? ⟨gb244, 3, none⟩ = some (.int .i64 0) ∧ w'.cell? (ad246.add ((x9_2).toNat * 2)) = some (.int .i64 ((rd_T43 l0 x9_2).f0)) ∧ w'.cell? ⟨(ad246.add ((x9_2).toNat * 2)).block, (ad246.add ((x9_2).toNat * 2)).off + 1, none⟩ = some (.int .i64 ((rd_T43 l0 x9_2).f1))) (ds := [9]) #[false, false, false, false, false, false, false, false, false, false] (by kernel_rfl) rfl rfl ⟨(blk_cell BK244.out 0).trans rfl, (blk_cell BK244.out 1).trans rfl, (blk_cell BK244.out 2).trans rfl, (blk_cell BK244.out 3).trans rfl, ((HB.out.cell (World.block_lt_of_cell? w _ hw246_0)).trans hw246_0), ((HB.out.cell (World.block_lt_of_cell? w _ hw246_1)).trans hw246_1)⟩ (fun hHeld => ?_); refine with_tabW chapmanref36_AfterIn.tab20 chapmanref36_AfterIn.bits20 (fun HT_ HW_ => ?_)
                            generalize wr.drew = w37 at HO_5 HO_245001 BK230 BK244 HB hx246_0 hx246_1 hHeld ⊢
                            refine pure_ (i := 0) (N := some 76) (v := ?_) (a' := ?_) #[true, false, false, false, false, false, false, false, false, false] rfl rfl (any_of HT_.out (by kernel_rfl)) (fun _ _ _ h => h) (Or.inl ⟨by rfl, ?_⟩) ?_ ?_
                            rotate_left
                            · intro w'
                              go_simp
                              with_reducible rfl
                            rotate_left
                            · simp only [Act.put, List.setIfInBounds_toArray, List.set_cons_zero, List.set_cons_succ, i64_w, i32_w]
                              rfl
                            refine pure_ (i := 2) (N := some 78) (v := ?_) (a' := ?_) #[true, false, true, false, false, false, false, false, false, false] rfl rfl (any_of HT_.out (by kernel_rfl)) (fun _ _ _ h => h) (Or.inl ⟨by rfl, ?_⟩) ?_ ?_
                            rotate_left
                            · intro w'
                              go_simp
                              with_reducible rfl
                            rotate_left
                            · simp only [Act.put, List.setIfInBounds_toArray, List.set_cons_zero, List.set_cons_succ, i64_w, i32_w]
                              rfl
                            refine pure_ (i := 3) (N := some 79) (v := ?_) (a' := ?_) #[true, false, true, true, false, false, false, false, false, false] rfl rfl (any_of HT_.out (by kernel_rfl)) (fun _ _ _ h => h) (Or.inl ⟨by rfl, ?_⟩) ?_ ?_
                            rotate_left
                            · intro w'
                              go_simp
                              with_reducible rfl
                            rotate_left
                            · simp only [Act.put, List.setIfInBounds_toArray, List.set_cons_zero, List.set_cons_succ, i64_w, i32_w]
                              rfl
                            refine pure_ (i := 4) (N := some 80) (v := ?_) (a' := ?_) #[true, false, true, true, true, false, false, false, false, false] rfl rfl (any_of HT_.out (by kernel_rfl)) (fun _ _ _ h => h) (Or.inl ⟨by rfl, ?_⟩) ?_ ?_
                            rotate_left
                            · intro w'
                              go_simp
                              with_reducible rfl
                            rotate_left
                            · simp only [Act.put, List.setIfInBounds_toArray, List.set_cons_zero, List.set_cons_succ, i64_w, i32_w]
                              rfl
                            refine take_ (i := 1) (N := some 77) (v := ?_) (a' := ?_) #[true, true, true, true, true, false, false, false, false, false] rfl rfl (take_ofW HT_.out HW_.out (by kernel_rfl)) (fun _ _ _ h => h) (Or.inl ⟨by rfl, ?_⟩) hHeld ?_ ?_
                            rotate_left
                            · rintro w' ⟨s0, s1, s2, s3, s4, s5⟩
                              go_simp
                              with_reducible rfl
                            rotate_left
                            · simp only [Act.put, List.setIfInBounds_toArray, List.set_cons_zero, List.set_cons_succ, i64_w, i32_w]
                              rfl
                            refine take_ (i := 5) (N := some 81) (v := ?_) (a' := ?_) #[true, true, true, true, true, true, false, false, false, false] rfl rfl (take_ofW HT_.out HW_.out (by kernel_rfl)) (fun _ _ _ h => h) (Or.inl ⟨by rfl, ?_⟩) hHeld ?_ ?_
                            rotate_left
                            · rintro w' ⟨s0, s1, s2, s3, s4, s5⟩
                              go_simp
                              with_reducible rfl
                            rotate_left
                            · simp only [Act.put, List.setIfInBounds_toArray, List.set_cons_zero, List.set_cons_succ, i64_w, i32_w]
                              rfl
                            refine one_ (i := 6) (N := some 82) #[true, true, true, true, true, true, true, false, false, false] rfl rfl (one_of HT_.out (by kernel_rfl)) (by decide) (fun K hK => ?_)
                            refine value_ (w1 := ?_) (v := ?_) (by rfl) rfl ?_ ?_
                            rotate_left 2
                            · go_simp
                              constructor
                              · rfl
                              · rfl
                            refine hK.out _ _ ⟨(blk_cell (blk_alloc BK244.out _) 0).trans rfl, (blk_cell (blk_alloc BK244.out _) 1).trans rfl, (blk_cell (blk_alloc BK244.out _) 2).trans rfl, (blk_cell (blk_alloc BK244.out _) 3).trans rfl, (World.cell?_alloc_lt _ _ _ (World.block_lt_of_cell? _ _ (((HB.out.cell (World.block_lt_of_cell? w _ hw246_0)).trans hw246_0)))).trans (((HB.out.cell (World.block_lt_of_cell? w _ hw246_0)).trans hw246_0)), (World.cell?_alloc_lt _ _ _ (World.block_lt_of_cell? _ _ (((HB.out.cell (World.block_lt_of_cell? w _ hw246_1)).trans hw246_1)))).trans (((HB.out.cell (World.block_lt_of_cell? w _ hw246_1)).trans hw246_1))⟩ (fun hHeld => ?_)
                            clear hK K
                            refine norm_ (a' := ?_) ?_ ?_
                            rotate_left
                            · show Act.put _ (some 82) _ = _
                              simp only [Act.put, List.setIfInBounds_toArray, List.set_cons_zero, List.set_cons_succ, i64_w, i32_w]
                              rfl
                            refine one_ (i := 7) (N := some 83) #[true, true, true, true, true, true, true, true, false, false] rfl rfl (one_of HT_.out (by kernel_rfl)) (by decide) (fun K hK => ?_)
                            refine Kd.R_append_step k43 (w0 := w) w.heap.size (by rfl) (.tmp 77) (.tmp 82) 23 43 (.agg #[(.int .i64 0), (.int .i64 0)]) 16 rfl Try.underlying23 info43 rfl (by decide) (by omega) u245001 x245001_2 (⟨(rd_T43 l0 x9_2).f0, (rd_T43 l0 x9_2).f1⟩ : S43) [.int .i64 ((rd_T43 l0 x9_2).f0), .int .i64 ((rd_T43 l0 x9_2).f1)] (fun _ => True) (fun _ => False) rfl rfl ?aP (fun _ hk => hk.elim) ?aF ?aO ?aB ?aS ?aL ?_
                            (case aP => exact k43_mkM _ _ _ (⟨(rd_T43 l0 x9_2).f0, (rd_T43 l0 x9_2).f1⟩ : S43))
                            (case aB => exact (by repeat (first | (with_reducible first | exact HB.out | apply below_alloc | apply pw_below_drewN | apply below_drew1 | refine below_set ?_ GE230.out | refine below_set ?_ GE244.out) | exact HB.out)))
                            (case aF => exact (fun _ _ => trivial))
                            (case aO => exact (by (with_reducible repeat (first | apply Kd.R_alloc | apply Kd.R_drewN | apply Kd.R_drew)); exact HO_245001.out))
                            (case aS => exact (below_size (by repeat (first | (with_reducible first | exact HB.out | apply below_alloc | apply pw_below_drewN | apply below_drew1 | refine below_set ?_ GE230.out | refine below_set ?_ GE244.out) | exact HB.out))))
                            (case aL => have := LMc35.out; omega)
                            intro v248 w38 ho hb hg hat
                            rw [← Ny247.out] at ho
                            have n0_ := Aside0.mk (Kd.R_over' (by (with_reducible repeat (first | apply Kd.R_alloc | apply Kd.R_drewN | apply Kd.R_drew)); exact HO_5.out) (Kd.R_typed (by (with_reducible repeat (first | apply Kd.R_alloc | apply Kd.R_drewN | apply Kd.R_drew)); exact HO_245001.out)) (by decide) hg)
                            have n1_ := Aside0.mk (blk_grown (g := gb230) (o := .cells #[.slice none 0 0, .slice none 0 0, .int .i64 x231002_1, .int .i64 x231003_1] 36 (0, 0)) (by (with_reducible repeat (first | refine blk_drewN ?_ _ | refine blk_drew ?_ | refine blk_alloc ?_ _)); exact BK230.out) hg (Kd.R_ne HO_245001.out BK230.out (by decide)))
                            have n2_ := Aside0.mk (blk_grown (g := gb244) (o := .cells #[.slice none 0 0, u245001, .int .i64 0, .int .i64 0] 36 (0, 0)) (by (with_reducible repeat (first | refine blk_drewN ?_ _ | refine blk_drew ?_ | refine blk_alloc ?_ _)); exact BK244.out) hg (Kd.R_ne HO_245001.out BK244.out (by decide)))
                            have n3_ := Aside0.mk (hb)
                            have n4_ := Aside0.mk (ho)
                            clear HO_5
                            clear BK230
                            clear BK244
                            clear HB
                            clear HO_245001
                            have HO_5 := n0_
                            have BK230 := n1_
                            have BK244 := n2_
                            have HB := n3_
                            have HO249 := n4_
                            clear n0_ n1_ n2_ n3_ n4_
                            clear ho hb hg hat
                            obtain ⟨Ao39, co39, eo39⟩ := Kd.R_slice HO249.out
                            (first | subst eo39 | (injection eo39 with f1_ f2_ f3_; have f4_ := f1_.symm; have f5_ := f3_.symm; clear f1_ f2_ f3_; subst f4_; subst f5_))
                            refine hK.out _ _ ⟨(blk_cell BK244.out 0).trans rfl, (blk_cell BK244.out 1).trans rfl, (blk_cell BK244.out 2).trans rfl, (blk_cell BK244.out 3).trans rfl, ((HB.out.cell (World.block_lt_of_cell? w _ hw246_0)).trans hw246_0), ((HB.out.cell (World.block_lt_of_cell? w _ hw246_1)).trans hw246_1)⟩ (fun hHeld => ?_)
                            clear hK K
                            refine norm_ (a' := ?_) ?_ ?_
                            rotate_left
                            · show Act.put _ (some 83) _ = _
                              simp only [Act.put, List.setIfInBounds_toArray, List.set_cons_zero, List.set_cons_succ, i64_w, i32_w]
                              rfl
                            refine pure_ (i := 8) (N := some 84) (v := ?_) (a' := ?_) #[true, true, true, true, true, true, true, true, true, false] rfl rfl (any_of HT_.out (by kernel_rfl)) (fun _ _ _ h => h) (Or.inl ⟨by rfl, ?_⟩) ?_ ?_
                            rotate_left
                            · intro w'
                              go_simp
                              with_reducible rfl
                            rotate_left
                            · simp only [Act.put, List.setIfInBounds_toArray, List.set_cons_zero, List.set_cons_succ, i64_w, i32_w]
                              rfl
                            refine last_ (i := 9) (N := none) #[true, true, true, true, true, true, true, true, true, true] rfl rfl (one_of HT_.out (by kernel_rfl)) (by decide) (fun K hK => ?_)
                            have hs40 : w38.cell? ⟨gb244, 1, none⟩ = some (u245001) := (blk_cell BK244.out 1).trans rfl
                            have hfs40 := blk_frozen BK244.out 1
                            have hns40_0 := NB230_244.out
                            have hms40_0 := NB244_230.out
                            refine skip_ (w1 := ?_) (by rfl) rfl ?_ ?_
                            rotate_left
                            · go_simp
                              rfl
                            refine hK.out _ _ ?_
                            clear hK K
                            refine done_ (done_of HT_.out (by kernel_rfl)) ?_
                            try go_wp2
                            go_roundg k2
                            case measure => have := HK1.out; have := HK2.out; omega
                            case rel => exact ⟨(wrap64 (x9_2 + 1)), (y247), (.slice Ao39 y247.length co39), (by first | rfl | (simp; done) | (simp [*]; done)), H', ⟨by have := HK1.out; have := HK2.out; omega⟩, ⟨by (with_reducible repeat (first | apply Kd.R_alloc | apply Kd.R_drewN | apply Kd.R_drew)); exact Kd.R_mono (Kd.R_far (p := ⟨gb244, 1, none⟩) (Kd.R_types HO_5.out BK244.out (by decide)) (fun _ hk => hk.2) (.slice Ao39 y247.length co39)) (fun _ hk => trivial)⟩, ⟨by (with_reducible repeat (first | apply Kd.R_alloc | apply Kd.R_drewN | apply Kd.R_drew)); exact Kd.R_mono (Kd.R_far (p := ⟨gb244, 1, none⟩) (Kd.R_types HO249.out BK244.out (by decide)) (fun _ hk => hk.2) (.slice Ao39 y247.length co39)) (fun _ hk => trivial)⟩, ⟨by (with_reducible repeat (first | refine blk_drewN ?_ _ | refine blk_drew ?_ | refine blk_alloc ?_ _)); refine blk_far ?_ NB230_244.out _; (with_reducible repeat (first | refine blk_drewN ?_ _ | refine blk_drew ?_ | refine blk_alloc ?_ _)); exact BK230.out⟩, ⟨by (with_reducible repeat (first | refine blk_drewN ?_ _ | refine blk_drew ?_ | refine blk_alloc ?_ _)); refine blk_put (cs := #[.slice none 0 0, u245001, .int .i64 0, .int .i64 0]) ?_ 1 _ rfl; (with_reducible repeat (first | refine blk_drewN ?_ _ | refine blk_drew ?_ | refine blk_alloc ?_ _)); exact BK244.out⟩, ⟨by repeat (first | (with_reducible first | exact HB.out | apply below_alloc | apply pw_below_drewN | apply below_drew1 | refine below_set ?_ GE230.out | refine below_set ?_ GE244.out) | exact HB.out)⟩⟩
                          · rw [if_neg c35] at H
                            exact absurd H (by simp)
                        · rw [if_neg c34] at H
                          have c34b0 : ((rd x5_1 x9_2) == 0) = false := beq_eq_false_iff_ne.mpr c34
                          have c34b1 : ((rd x5_1 x9_2) != 0) = true := bne_iff_ne.mpr c34
                          obtain ⟨ji41, hji41⟩ : ∃ j_ : Int, (wrap64 ((rd x5_1 x9_2) - 1)) = j_ := ⟨_, rfl⟩
                          replace H : (if 0 ≤ (ji41) then (if (ji41) < (l1.length : Int) then (if 0 < ((rd_L5 l1 (ji41)).length : Int) then (if (rd (rd_L5 l1 (ji41)) 0) = x9_2 then ((chapmanref36_sum.f k2 l0 (rd_L5 l1 (ji41))).bind fun bt253 => (if x245001_2.length < 8796093022208 then (chapmanref36_AfterIn.l2 k2 l0 l1 x5_1 (wrap64 (x9_2 + 1)) (x245001_2 ++ [(⟨bt253.1, bt253.2⟩ : S43)]) 0 0) else (none))) else (chapmanref36_AfterIn.l2 k2 l0 l1 x5_1 (wrap64 (x9_2 + 1)) x245001_2 0 0)) else (none)) else (none)) else (none)) = some (r1, r2, r3, r4) := by first | (rw [hji41] at H; exact H) | (simp only [hji41] at H ⊢; exact H)
                          have hji41w : (IntKind.i64.wrap ((rd x5_1 x9_2) - 1)) = ji41 := (i64_w _).trans hji41
                          by_cases c42 : 0 ≤ (ji41)
                          · rw [if_pos c42] at H
                            have c42b0 : decide (0 ≤ (ji41)) = true := decide_eq_true c42
                            clear c42
                            by_cases c43 : (ji41) < (l1.length : Int)
                            · rw [if_pos c43] at H
                              have c43b0 : decide ((ji41) < (l1.length : Int)) = true := decide_eq_true c43
                              clear c43
                              by_cases c44 : 0 < ((rd_L5 l1 (ji41)).length : Int)
                              · rw [if_pos c44] at H
                                have c44b0 : decide (0 < ((rd_L5 l1 (ji41)).length : Int)) = true := decide_eq_true c44
                                have c44b1 : decide (0 < (rd_L5 l1 (ji41)).length) = true := decide_eq_true (by omega)
                                clear c44
                                by_cases c45 : (rd (rd_L5 l1 (ji41)) 0) = x9_2
                                · rw [if_pos c45] at H
                                  have c45b0 : ((rd (rd_L5 l1 (ji41)) 0) == x9_2) = true := beq_iff_eq.mpr c45
                                  have c45b1 : ((rd (rd_L5 l1 (ji41)) 0) != x9_2) = false := bne_eq_false_iff_eq.mpr c45
                                  clear c45
                                  replace H := Option.bind_eq_some_iff.mp H
                                  obtain ⟨⟨t253, t254⟩, A460, H⟩ := H
                                  replace H : (if x245001_2.length < 8796093022208 then (chapmanref36_AfterIn.l2 k2 l0 l1 x5_1 (wrap64 (x9_2 + 1)) (x245001_2 ++ [(⟨t253, t254⟩ : S43)]) 0 0) else (none)) = some (r1, r2, r3, r4) := H
                                  have A46 := Aside0.mk A460
                                  clear A460
                                  by_cases c47 : x245001_2.length < 8796093022208
                                  · rw [if_pos c47] at H
                                    have LMc47 := Aside0.mk c47
                                    clear c47
                                    obtain ⟨y255, hy255⟩ : ∃ y_ : List (S43), y_ = (x245001_2 ++ [(⟨t253, t254⟩ : S43)]) := ⟨_, rfl⟩
                                    replace H : (chapmanref36_AfterIn.l2 k2 l0 l1 x5_1 (wrap64 (x9_2 + 1)) y255 0 0) = some (r1, r2, r3, r4) := by first | (rw [hy255]; with_reducible exact H) | (have H2_ := (Option.bind_some _ _).symm.trans H; rw [hy255]; with_reducible exact H2_) | (have H2_ := (Option.bind_some _ _).symm.trans H; with_reducible exact H2_) | with_reducible exact H | (rw [hy255]; exact H) | exact H
                                    have Ny255 := Aside0.mk hy255
                                    clear hy255
                                    have H' := Aside0.mk H
                                    clear H
                                    obtain ⟨Ao48, co48, eo48⟩ := Kd.R_slice HO_5.out
                                    subst eo48
                                    have p245 : 0 ≤ (x9_2 : Int) := of_decide_eq_true (by first | (with_reducible assumption) | assumption)
                                    have q245 : x9_2 < (x5_1.length : Int) := of_decide_eq_true (by first | (with_reducible assumption) | assumption)
                                    obtain ⟨ad245, e245, hx245_0⟩ := Kd.at_int (Kd.R_reads' HO_5.out).2.2 x9_2 p245 q245
                                    cases e245
                                    replace p245 := eq_true p245
                                    replace q245 := eq_true q245
                                    have p250 : 0 ≤ (x9_2 : Int) := of_decide_eq_true (by first | (with_reducible assumption) | assumption)
                                    have q250 : x9_2 < (x5_1.length : Int) := of_decide_eq_true (by first | (with_reducible assumption) | assumption)
                                    obtain ⟨ad250, e250, hx250_0⟩ := Kd.at_int (Kd.R_reads' HO_5.out).2.2 x9_2 p250 q250
                                    obtain rfl : ad245 = ad250 := (by injection e250)
                                    replace p250 := eq_true p250
                                    replace q250 := eq_true q250
                                    have p251 : 0 ≤ ((ji41) : Int) := of_decide_eq_true (by first | (with_reducible assumption) | assumption)
                                    have q251 : (ji41) < (l1.length : Int) := of_decide_eq_true (by first | (with_reducible assumption) | assumption)
                                    obtain ⟨ad251, A251_0, c251_0, e251, hx251_0, hl251_0, hi251_0⟩ := at_L5 HR1.out (ji41) p251 q251
                                    cases e251
                                    replace hx251_0 := (HB.out.cell (World.block_lt_of_cell? w _ hx251_0)).trans hx251_0
                                    have HR251_0 := Aside0.mk hi251_0
                                    have HC251_0 := Aside0.mk hl251_0
                                    clear hi251_0 hl251_0
                                    replace p251 := eq_true p251
                                    replace q251 := eq_true q251
                                    have p252 : 0 ≤ (0 : Int) := (by omega)
                                    have q252 : 0 < ((rd_L5 l1 (ji41)).length : Int) := of_decide_eq_true (by first | (with_reducible assumption) | assumption)
                                    obtain ⟨ad252, e252, hx252_0⟩ := Kd.at_int HR251_0.out 0 p252 q252
                                    cases e252
                                    have qi252 : (0 < (rd_L5 l1 (ji41)).length) = True := eq_true (by omega)
                                    (try rw [show ((0 : Int)).toNat = 0 from rfl] at hx252_0)
                                    (try rw [Addr.add_zero'] at hx252_0)
                                    replace hx252_0 := (HB.out.cell (World.block_lt_of_cell? w _ hx252_0)).trans hx252_0
                                    replace p252 := eq_true p252
                                    replace q252 := eq_true q252
                                    try go_wp2
                                    have n0_ := Aside0.mk (Kd.R_drew HO_5.out)
                                    have n1_ := Aside0.mk (Kd.R_drew HO_245001.out)
                                    have n2_ := Aside0.mk (blk_drew BK230.out)
                                    have n3_ := Aside0.mk (blk_drew BK244.out)
                                    have n4_ := Aside0.mk (below_drew1 HB.out)
                                    clear HO_5
                                    clear HO_245001
                                    clear BK230
                                    clear BK244
                                    clear HB
                                    have HO_5 := n0_
                                    have HO_245001 := n1_
                                    have BK230 := n2_
                                    have BK244 := n3_
                                    have HB := n4_
                                    clear n0_ n1_ n2_ n3_ n4_
                                    refine start_ (n := 9) (S := fun w' => w'.cell? ⟨gb244, 0, none⟩ = some (.slice none 0 0) ∧ w'.cell? ⟨gb244, 1, none⟩ = some (u245001) ∧ w'.cell? ⟨gb244, 2, none⟩ = some (.int .i64 0) ∧ w'.cell? ⟨gb244, 3, none⟩ = some (.int .i64 0)) (ds := [8]) #[false, false, false, false, false, false, false, false, false] (by kernel_rfl) rfl rfl ⟨(blk_cell BK244.out 0).trans rfl, (blk_cell BK244.out 1).trans rfl, (blk_cell BK244.out 2).trans rfl, (blk_cell BK244.out 3).trans rfl⟩ (fun hHeld => ?_); refine with_tabW chapmanref36_AfterIn.tab23 chapmanref36_AfterIn.bits23 (fun HT_ HW_ => ?_)
                                    generalize wr.drew = w49 at HO_5 HO_245001 BK230 BK244 HB hHeld ⊢
                                    refine pure_ (i := 0) (N := some 98) (v := ?_) (a' := ?_) #[true, false, false, false, false, false, false, false, false] rfl rfl (any_of HT_.out (by kernel_rfl)) (fun _ _ _ h => h) (Or.inl ⟨by rfl, ?_⟩) ?_ ?_
                                    rotate_left
                                    · intro w'
                                      go_simp
                                      with_reducible rfl
                                    rotate_left
                                    · simp only [Act.put, List.setIfInBounds_toArray, List.set_cons_zero, List.set_cons_succ, i64_w, i32_w]
                                      rfl
                                    refine pure_ (i := 2) (N := some 100) (v := ?_) (a' := ?_) #[true, false, true, false, false, false, false, false, false] rfl rfl (any_of HT_.out (by kernel_rfl)) (fun _ _ _ h => h) (Or.inl ⟨by rfl, ?_⟩) ?_ ?_
                                    rotate_left
                                    · intro w'
                                      go_simp
                                      with_reducible rfl
                                    rotate_left
                                    · simp only [Act.put, List.setIfInBounds_toArray, List.set_cons_zero, List.set_cons_succ, i64_w, i32_w]
                                      rfl
                                    refine pure_ (i := 3) (N := some 101) (v := ?_) (a' := ?_) #[true, false, true, true, false, false, false, false, false] rfl rfl (any_of HT_.out (by kernel_rfl)) (fun _ _ _ h => h) (Or.inl ⟨by rfl, ?_⟩) ?_ ?_
                                    rotate_left
                                    · intro w'
                                      go_simp
                                      with_reducible rfl
                                    rotate_left
                                    · simp only [Act.put, List.setIfInBounds_toArray, List.set_cons_zero, List.set_cons_succ, i64_w, i32_w]
                                      rfl
                                    refine take_ (i := 1) (N := some 99) (v := ?_) (a' := ?_) #[true, true, true, true, false, false, false, false, false] rfl rfl (take_ofW HT_.out HW_.out (by kernel_rfl)) (fun _ _ _ h => h) (Or.inl ⟨by rfl, ?_⟩) hHeld ?_ ?_
                                    rotate_left
                                    · rintro w' ⟨s0, s1, s2, s3⟩
                                      go_simp
                                      with_reducible rfl
                                    rotate_left
                                    · simp only [Act.put, List.setIfInBounds_toArray, List.set_cons_zero, List.set_cons_succ, i64_w, i32_w]
                                      rfl
                                    refine one_ (i := 4) (N := some 102) #[true, true, true, true, true, false, false, false, false] rfl rfl (one_of HT_.out (by kernel_rfl)) (by decide) (fun K hK => ?_)
                                    refine goes_ Try.func38 (by kernel_rfl) rfl #[.slice A0 l0.length c0, .slice (some ad252) (rd_L5 l1 (ji41)).length c251_0] (by rfl) rfl rfl (by (try simp only [List.map_toArray, List.map_cons, List.map_nil]); first | done | (simp only [hji41]; rfl) | rfl | (simp only [List.length_drop, List.length_take]; rfl)) ?_
                                    with_reducible refine (chapmanref36_sum.calls k2 _ _ l0 _ _ (rd_L5 l1 (ji41)) t253 t254 _ ?side1 ?side2 ?side3 ?side4 A46.out).mono ?_
                                    (case side1 => repeat (first | exact (Kd.C_below HR0.out HB.out) | (with_reducible refine Kd.C_alloc ?_ _) | (with_reducible refine Kd.C_drewN ?_ _) | (with_reducible refine Kd.C_drew ?_)))
                                    (case side2 => exact HC0.out)
                                    (case side3 => repeat (first | exact (Kd.C_below HR251_0.out HB.out) | (with_reducible refine Kd.C_alloc ?_ _) | (with_reducible refine Kd.C_drewN ?_ _) | (with_reducible refine Kd.C_drew ?_)))
                                    (case side4 => exact HC251_0.out)
                                    rintro e w50 ⟨rfl, hb⟩
                                    refine ⟨_, rfl, ?_⟩
                                    have n0_ := Aside0.mk (Kd.R_below (by (with_reducible repeat (first | apply Kd.R_alloc | apply Kd.R_drewN | apply Kd.R_drew)); exact HO_5.out) hb)
                                    have n1_ := Aside0.mk (Kd.R_below (by (with_reducible repeat (first | apply Kd.R_alloc | apply Kd.R_drewN | apply Kd.R_drew)); exact HO_245001.out) hb)
                                    have n2_ := Aside0.mk (blk_below (g := gb230) (o := .cells #[.slice none 0 0, .slice none 0 0, .int .i64 x231002_1, .int .i64 x231003_1] 36 (0, 0)) (by (with_reducible repeat (first | refine blk_drewN ?_ _ | refine blk_drew ?_ | refine blk_alloc ?_ _)); exact BK230.out) hb)
                                    have n3_ := Aside0.mk (blk_below (g := gb244) (o := .cells #[.slice none 0 0, u245001, .int .i64 0, .int .i64 0] 36 (0, 0)) (by (with_reducible repeat (first | refine blk_drewN ?_ _ | refine blk_drew ?_ | refine blk_alloc ?_ _)); exact BK244.out) hb)
                                    have n4_ := Aside0.mk (below_step (by repeat (first | (with_reducible first | exact HB.out | apply below_alloc | apply pw_below_drewN | apply below_drew1 | refine below_set ?_ GE230.out | refine below_set ?_ GE244.out) | exact HB.out)) hb)
                                    clear HO_5
                                    clear HO_245001
                                    clear BK230
                                    clear BK244
                                    clear HB
                                    have HO_5 := n0_
                                    have HO_245001 := n1_
                                    have BK230 := n2_
                                    have BK244 := n3_
                                    have HB := n4_
                                    clear n0_ n1_ n2_ n3_ n4_
                                    (try clear hb)
                                    (try clear hb2)
                                    (try clear hk)
                                    (try clear hi)
                                    refine hK.out _ _ ⟨(blk_cell BK244.out 0).trans rfl, (blk_cell BK244.out 1).trans rfl, (blk_cell BK244.out 2).trans rfl, (blk_cell BK244.out 3).trans rfl⟩ (fun hHeld => ?_)
                                    clear hK K
                                    refine norm_ (a' := ?_) ?_ ?_
                                    rotate_left
                                    · show Act.put _ (some 102) _ = _
                                      simp only [Act.put, List.setIfInBounds_toArray, List.set_cons_zero, List.set_cons_succ, i64_w, i32_w]
                                      rfl
                                    refine one_ (i := 5) (N := some 103) #[true, true, true, true, true, true, false, false, false] rfl rfl (one_of HT_.out (by kernel_rfl)) (by decide) (fun K hK => ?_)
                                    refine value_ (w1 := ?_) (v := ?_) (by rfl) rfl ?_ ?_
                                    rotate_left 2
                                    · go_simp
                                      constructor
                                      · rfl
                                      · rfl
                                    refine hK.out _ _ ⟨(blk_cell (blk_alloc BK244.out _) 0).trans rfl, (blk_cell (blk_alloc BK244.out _) 1).trans rfl, (blk_cell (blk_alloc BK244.out _) 2).trans rfl, (blk_cell (blk_alloc BK244.out _) 3).trans rfl⟩ (fun hHeld => ?_)
                                    clear hK K
                                    refine norm_ (a' := ?_) ?_ ?_
                                    rotate_left
                                    · show Act.put _ (some 103) _ = _
                                      simp only [Act.put, List.setIfInBounds_toArray, List.set_cons_zero, List.set_cons_succ, i64_w, i32_w]
                                      rfl
                                    refine one_ (i := 6) (N := some 104) #[true, true, true, true, true, true, true, false, false] rfl rfl (one_of HT_.out (by kernel_rfl)) (by decide) (fun K hK => ?_)
                                    refine Kd.R_append_step k43 (w0 := w) w.heap.size (by rfl) (.tmp 99) (.tmp 103) 23 43 (.agg #[(.int .i64 0), (.int .i64 0)]) 16 rfl Try.underlying23 info43 rfl (by decide) (by omega) u245001 x245001_2 (⟨t253, t254⟩ : S43) [.int .i64 t253, .int .i64 t254] (fun _ => True) (fun _ => False) rfl rfl ?aP (fun _ hk => hk.elim) ?aF ?aO ?aB ?aS ?aL ?_
                                    (case aP => exact k43_mkM _ _ _ (⟨t253, t254⟩ : S43))
                                    (case aB => exact (by repeat (first | (with_reducible first | exact HB.out | apply below_alloc | apply pw_below_drewN | apply below_drew1 | refine below_set ?_ GE230.out | refine below_set ?_ GE244.out) | exact HB.out)))
                                    (case aF => exact (fun _ _ => trivial))
                                    (case aO => exact (by (with_reducible repeat (first | apply Kd.R_alloc | apply Kd.R_drewN | apply Kd.R_drew)); exact HO_245001.out))
                                    (case aS => exact (below_size (by repeat (first | (with_reducible first | exact HB.out | apply below_alloc | apply pw_below_drewN | apply below_drew1 | refine below_set ?_ GE230.out | refine below_set ?_ GE244.out) | exact HB.out))))
                                    (case aL => have := LMc47.out; omega)
                                    intro v256 w51 ho hb hg hat
                                    rw [← Ny255.out] at ho
                                    have n0_ := Aside0.mk (Kd.R_over' (by (with_reducible repeat (first | apply Kd.R_alloc | apply Kd.R_drewN | apply Kd.R_drew)); exact HO_5.out) (Kd.R_typed (by (with_reducible repeat (first | apply Kd.R_alloc | apply Kd.R_drewN | apply Kd.R_drew)); exact HO_245001.out)) (by decide) hg)
                                    have n1_ := Aside0.mk (blk_grown (g := gb230) (o := .cells #[.slice none 0 0, .slice none 0 0, .int .i64 x231002_1, .int .i64 x231003_1] 36 (0, 0)) (by (with_reducible repeat (first | refine blk_drewN ?_ _ | refine blk_drew ?_ | refine blk_alloc ?_ _)); exact BK230.out) hg (Kd.R_ne HO_245001.out BK230.out (by decide)))
                                    have n2_ := Aside0.mk (blk_grown (g := gb244) (o := .cells #[.slice none 0 0, u245001, .int .i64 0, .int .i64 0] 36 (0, 0)) (by (with_reducible repeat (first | refine blk_drewN ?_ _ | refine blk_drew ?_ | refine blk_alloc ?_ _)); exact BK244.out) hg (Kd.R_ne HO_245001.out BK244.out (by decide)))
                                    have n3_ := Aside0.mk (hb)
                                    have n4_ := Aside0.mk (ho)
                                    clear HO_5
                                    clear BK230
                                    clear BK244
                                    clear HB
                                    clear HO_245001
                                    have HO_5 := n0_
                                    have BK230 := n1_
                                    have BK244 := n2_
                                    have HB := n3_
                                    have HO257 := n4_
                                    clear n0_ n1_ n2_ n3_ n4_
                                    clear ho hb hg hat
                                    obtain ⟨Ao52, co52, eo52⟩ := Kd.R_slice HO257.out
                                    (first | subst eo52 | (injection eo52 with f1_ f2_ f3_; have f4_ := f1_.symm; have f5_ := f3_.symm; clear f1_ f2_ f3_; subst f4_; subst f5_))
                                    refine hK.out _ _ ⟨(blk_cell BK244.out 0).trans rfl, (blk_cell BK244.out 1).trans rfl, (blk_cell BK244.out 2).trans rfl, (blk_cell BK244.out 3).trans rfl⟩ (fun hHeld => ?_)
                                    clear hK K
                                    refine norm_ (a' := ?_) ?_ ?_
                                    rotate_left
                                    · show Act.put _ (some 104) _ = _
                                      simp only [Act.put, List.setIfInBounds_toArray, List.set_cons_zero, List.set_cons_succ, i64_w, i32_w]
                                      rfl
                                    refine pure_ (i := 7) (N := some 105) (v := ?_) (a' := ?_) #[true, true, true, true, true, true, true, true, false] rfl rfl (any_of HT_.out (by kernel_rfl)) (fun _ _ _ h => h) (Or.inl ⟨by rfl, ?_⟩) ?_ ?_
                                    rotate_left
                                    · intro w'
                                      go_simp
                                      with_reducible rfl
                                    rotate_left
                                    · simp only [Act.put, List.setIfInBounds_toArray, List.set_cons_zero, List.set_cons_succ, i64_w, i32_w]
                                      rfl
                                    refine last_ (i := 8) (N := none) #[true, true, true, true, true, true, true, true, true] rfl rfl (one_of HT_.out (by kernel_rfl)) (by decide) (fun K hK => ?_)
                                    have hs53 : w51.cell? ⟨gb244, 1, none⟩ = some (u245001) := (blk_cell BK244.out 1).trans rfl
                                    have hfs53 := blk_frozen BK244.out 1
                                    have hns53_0 := NB230_244.out
                                    have hms53_0 := NB244_230.out
                                    refine skip_ (w1 := ?_) (by rfl) rfl ?_ ?_
                                    rotate_left
                                    · go_simp
                                      rfl
                                    refine hK.out _ _ ?_
                                    clear hK K
                                    refine done_ (done_of HT_.out (by kernel_rfl)) ?_
                                    try go_wp2
                                    go_roundg k2
                                    case measure => have := HK1.out; have := HK2.out; omega
                                    case rel => exact ⟨(wrap64 (x9_2 + 1)), (y255), (.slice Ao52 y255.length co52), (by first | rfl | (simp; done) | (simp [*]; done)), H', ⟨by have := HK1.out; have := HK2.out; omega⟩, ⟨by (with_reducible repeat (first | apply Kd.R_alloc | apply Kd.R_drewN | apply Kd.R_drew)); exact Kd.R_mono (Kd.R_far (p := ⟨gb244, 1, none⟩) (Kd.R_types HO_5.out BK244.out (by decide)) (fun _ hk => hk.2) (.slice Ao52 y255.length co52)) (fun _ hk => trivial)⟩, ⟨by (with_reducible repeat (first | apply Kd.R_alloc | apply Kd.R_drewN | apply Kd.R_drew)); exact Kd.R_mono (Kd.R_far (p := ⟨gb244, 1, none⟩) (Kd.R_types HO257.out BK244.out (by decide)) (fun _ hk => hk.2) (.slice Ao52 y255.length co52)) (fun _ hk => trivial)⟩, ⟨by (with_reducible repeat (first | refine blk_drewN ?_ _ | refine blk_drew ?_ | refine blk_alloc ?_ _)); refine blk_far ?_ NB230_244.out _; (with_reducible repeat (first | refine blk_drewN ?_ _ | refine blk_drew ?_ | refine blk_alloc ?_ _)); exact BK230.out⟩, ⟨by (with_reducible repeat (first | refine blk_drewN ?_ _ | refine blk_drew ?_ | refine blk_alloc ?_ _)); refine blk_put (cs := #[.slice none 0 0, u245001, .int .i64 0, .int .i64 0]) ?_ 1 _ rfl; (with_reducible repeat (first | refine blk_drewN ?_ _ | refine blk_drew ?_ | refine blk_alloc ?_ _)); exact BK244.out⟩, ⟨by repeat (first | (with_reducible first | exact HB.out | apply below_alloc | apply pw_below_drewN | apply below_drew1 | refine below_set ?_ GE230.out | refine below_set ?_ GE244.out) | exact HB.out)⟩⟩
                                  · rw [if_neg c47] at H
                                    exact absurd H (by simp)
                                · rw [if_neg c45] at H
                                  have c45b0 : ((rd (rd_L5 l1 (ji41)) 0) == x9_2) = false := beq_eq_false_iff_ne.mpr c45
                                  have c45b1 : ((rd (rd_L5 l1 (ji41)) 0) != x9_2) = true := bne_iff_ne.mpr c45
                                  have H' := Aside0.mk H
                                  clear H
                                  obtain ⟨Ao54, co54, eo54⟩ := Kd.R_slice HO_5.out
                                  subst eo54
                                  have p245 : 0 ≤ (x9_2 : Int) := of_decide_eq_true (by first | (with_reducible assumption) | assumption)
                                  have q245 : x9_2 < (x5_1.length : Int) := of_decide_eq_true (by first | (with_reducible assumption) | assumption)
                                  obtain ⟨ad245, e245, hx245_0⟩ := Kd.at_int (Kd.R_reads' HO_5.out).2.2 x9_2 p245 q245
                                  cases e245
                                  replace p245 := eq_true p245
                                  replace q245 := eq_true q245
                                  have p250 : 0 ≤ (x9_2 : Int) := of_decide_eq_true (by first | (with_reducible assumption) | assumption)
                                  have q250 : x9_2 < (x5_1.length : Int) := of_decide_eq_true (by first | (with_reducible assumption) | assumption)
                                  obtain ⟨ad250, e250, hx250_0⟩ := Kd.at_int (Kd.R_reads' HO_5.out).2.2 x9_2 p250 q250
                                  obtain rfl : ad245 = ad250 := (by injection e250)
                                  replace p250 := eq_true p250
                                  replace q250 := eq_true q250
                                  have p251 : 0 ≤ ((ji41) : Int) := of_decide_eq_true (by first | (with_reducible assumption) | assumption)
                                  have q251 : (ji41) < (l1.length : Int) := of_decide_eq_true (by first | (with_reducible assumption) | assumption)
                                  obtain ⟨ad251, A251_0, c251_0, e251, hx251_0, hl251_0, hi251_0⟩ := at_L5 HR1.out (ji41) p251 q251
                                  cases e251
                                  replace hx251_0 := (HB.out.cell (World.block_lt_of_cell? w _ hx251_0)).trans hx251_0
                                  have HR251_0 := Aside0.mk hi251_0
                                  have HC251_0 := Aside0.mk hl251_0
                                  clear hi251_0 hl251_0
                                  replace p251 := eq_true p251
                                  replace q251 := eq_true q251
                                  have p252 : 0 ≤ (0 : Int) := (by omega)
                                  have q252 : 0 < ((rd_L5 l1 (ji41)).length : Int) := of_decide_eq_true (by first | (with_reducible assumption) | assumption)
                                  obtain ⟨ad252, e252, hx252_0⟩ := Kd.at_int HR251_0.out 0 p252 q252
                                  cases e252
                                  have qi252 : (0 < (rd_L5 l1 (ji41)).length) = True := eq_true (by omega)
                                  (try rw [show ((0 : Int)).toNat = 0 from rfl] at hx252_0)
                                  (try rw [Addr.add_zero'] at hx252_0)
                                  replace hx252_0 := (HB.out.cell (World.block_lt_of_cell? w _ hx252_0)).trans hx252_0
                                  replace p252 := eq_true p252
                                  replace q252 := eq_true q252
                                  go_wp2
                                  go_roundg k2
                                  case measure => have := HK1.out; have := HK2.out; omega
                                  case rel => exact ⟨(wrap64 (x9_2 + 1)), (x245001_2), (u245001), (by first | rfl | (simp; done) | (simp [*]; done)), H', ⟨by have := HK1.out; have := HK2.out; omega⟩, ⟨by (with_reducible repeat (first | apply Kd.R_alloc | apply Kd.R_drewN | apply Kd.R_drew)); exact HO_5.out⟩, ⟨by (with_reducible repeat (first | apply Kd.R_alloc | apply Kd.R_drewN | apply Kd.R_drew)); exact HO_245001.out⟩, ⟨by (with_reducible repeat (first | refine blk_drewN ?_ _ | refine blk_drew ?_ | refine blk_alloc ?_ _)); exact BK230.out⟩, ⟨by (with_reducible repeat (first | refine blk_drewN ?_ _ | refine blk_drew ?_ | refine blk_alloc ?_ _)); exact BK244.out⟩, ⟨by repeat (first | (with_reducible first | exact HB.out | apply below_alloc | apply pw_below_drewN | apply below_drew1 | refine below_set ?_ GE230.out | refine below_set ?_ GE244.out) | exact HB.out)⟩⟩
                              · rw [if_neg c44] at H
                                exact absurd H (by simp)
                            · rw [if_neg c43] at H
                              exact absurd H (by simp)
                          · rw [if_neg c42] at H
                            exact absurd H (by simp)
                      · rw [if_neg c33] at H
                        exact absurd H (by simp)
                    · rw [if_neg c32] at H
                      exact absurd H (by simp)
                  · rw [if_neg c31] at H
                    have c31b0 : decide (x9_2 < (l0.length : Int)) = false := decide_eq_false c31
                    clear c31
                    simp only [Option.some.injEq, Prod.mk.injEq] at H
                    obtain ⟨rfl, rfl, rfl, rfl⟩ := H
                    have hnb55 := NB244_230.out
                    have hnc55 := NB230_244.out
                    have hcz56_0 : wr.cell? ⟨gb244, 0, none⟩ = some (.slice none 0 0) := (blk_cell BK244.out 0).trans rfl
                    have hcz56_1 : wr.cell? ⟨gb244, 1, none⟩ = some (u245001) := (blk_cell BK244.out 1).trans rfl
                    have hcz56_2 : wr.cell? ⟨gb244, 2, none⟩ = some (.int .i64 0) := (blk_cell BK244.out 2).trans rfl
                    have hcz56_3 : wr.cell? ⟨gb244, 3, none⟩ = some (.int .i64 0) := (blk_cell BK244.out 3).trans rfl
                    have hfz56_0 := blk_frozen BK244.out 0
                    have hfz56_1 := blk_frozen BK244.out 1
                    have hfz56_2 := blk_frozen BK244.out 2
                    have hfz56_3 := blk_frozen BK244.out 3
                    have hcz57_0 : wr.cell? ⟨gb230, 0, none⟩ = some (.slice none 0 0) := (blk_cell BK230.out 0).trans rfl
                    have hcz57_1 : wr.cell? ⟨gb230, 1, none⟩ = some (.slice none 0 0) := (blk_cell BK230.out 1).trans rfl
                    have hcz57_2 : wr.cell? ⟨gb230, 2, none⟩ = some (.int .i64 x231002_1) := (blk_cell BK230.out 2).trans rfl
                    have hcz57_3 : wr.cell? ⟨gb230, 3, none⟩ = some (.int .i64 x231003_1) := (blk_cell BK230.out 3).trans rfl
                    have hfz57_0 := blk_frozen BK230.out 0
                    have hfz57_1 := blk_frozen BK230.out 1
                    have hfz57_2 := blk_frozen BK230.out 2
                    have hfz57_3 := blk_frozen BK230.out 3
                    obtain ⟨Ao58, co58, eo58⟩ := Kd.R_slice HO_245001.out
                    subst eo58
                    go_wp2
                    refine bodyPost_ret (results_cell_row rfl _ _ gb230 36 #[.slice none 0 0, .slice Ao58 x245001_2.length co58, .int .i64 0, .int .i64 0] (0, 0) _ rfl (by (with_reducible repeat (first | refine blk_drewN ?_ _ | refine blk_drew ?_ | refine blk_alloc ?_ _)); refine blk_put (cs := #[.slice none 0 0, .slice Ao58 x245001_2.length co58, .int .i64 0, .int .i64 x231003_1]) ?_ 3 _ rfl; (with_reducible repeat (first | refine blk_drewN ?_ _ | refine blk_drew ?_ | refine blk_alloc ?_ _)); refine blk_put (cs := #[.slice none 0 0, .slice Ao58 x245001_2.length co58, .int .i64 x231002_1, .int .i64 x231003_1]) ?_ 2 _ rfl; (with_reducible repeat (first | refine blk_drewN ?_ _ | refine blk_drew ?_ | refine blk_alloc ?_ _)); refine blk_put (cs := #[.slice none 0 0, .slice none 0 0, .int .i64 x231002_1, .int .i64 x231003_1]) ?_ 1 _ rfl; (with_reducible repeat (first | refine blk_drewN ?_ _ | refine blk_drew ?_ | refine blk_alloc ?_ _)); refine blk_put (cs := #[.slice none 0 0, .slice none 0 0, .int .i64 x231002_1, .int .i64 x231003_1]) ?_ 0 _ rfl; (with_reducible repeat (first | refine blk_drewN ?_ _ | refine blk_drew ?_ | refine blk_alloc ?_ _)); exact BK230.out) Try.underlying36 rfl (by kernel_rfl)) rfl ?_
                    exact ⟨_, _, by first | rfl | (simp [errW_none, errW_some] <;> rfl) | (simp [*, errW_none, errW_some] <;> rfl), by first | exact Kd.R_nil _ _ _ _ _ | exact Kd.N_nil _ _ _ _ _ | exact Kd.V_nil _ _ _ _ _ | exact Kd.Q_nil _ _ _ _ _ | exact Kd.S_nil _ _ _ _ _, by (with_reducible repeat (first | apply Kd.R_alloc | apply Kd.R_drewN | apply Kd.R_drew)); exact Kd.R_mono (Kd.R_far (p := ⟨gb230, 3, none⟩) (Kd.R_far (p := ⟨gb230, 2, none⟩) (Kd.R_far (p := ⟨gb230, 1, none⟩) (Kd.R_far (p := ⟨gb230, 0, none⟩) (Kd.R_types HO_245001.out BK230.out (by decide)) (fun _ hk => hk.2) (.slice none 0 0)) (fun _ hk => hk.2) (.slice Ao58 x245001_2.length co58)) (fun _ hk => hk.2) (.int .i64 0)) (fun _ hk => hk.2) (.int .i64 0)) (fun _ hk => trivial), by repeat (first | (with_reducible first | exact HB.out | apply below_alloc | apply pw_below_drewN | apply below_drew1 | refine below_set ?_ GE230.out | refine below_set ?_ GE244.out) | exact HB.out)⟩
      · rw [if_neg c6] at H
        exact absurd H (by simp)
    · rw [if_neg c5] at H
      exact absurd H (by simp)
  · replace c4 := Bool.eq_false_iff.mpr c4
    subst c4
    have H1 : (some (([] : List (List Int)), ([] : List (S43)), 0, 1)) = some (r1, r2, r3, r4) := by rw [if_neg (show ¬ (false = true) by decide)] at H; exact H
    clear H
    have H := H1
    clear H1
    simp only [Option.some.injEq, Prod.mk.injEq] at H
    obtain ⟨rfl, rfl, rfl, rfl⟩ := H
    go_enter Try.func20, Try.ntmps20
    go_wp2_with (first | ((with_reducible refine gate_dst (N := 4) rfl ?_); refine box_event ?hg (N := 4) ?hd (cs := #[.slice none 0 0, .slice none 0 0, .int .i64 0, .int .i64 0]) (t := 36) ?hr ?_; (case hd => rfl); (case hg => rfl); (case hr => first | (go_simp; done) | (go_simp; rfl)); intro gb230 hg w59 hbox hb; have n0_ := Aside0.mk (below_step (by repeat (first | (with_reducible first | exact HB.out | apply below_alloc | apply pw_below_drewN | apply below_drew1) | exact HB.out)) hb); have n1_ := Aside0.mk (hbox); have n2_ := Aside0.mk ((by rw [hg]; exact (below_size (by repeat (first | (with_reducible first | exact HB.out | apply below_alloc | apply pw_below_drewN | apply below_drew1) | exact HB.out))) : w.heap.size ≤ gb230)); have n3_ := Aside0.mk ((by rw [hg]; exact (below_size (by repeat (first | (with_reducible first | exact HB.out | apply below_alloc | apply pw_below_drewN | apply below_drew1) | exact HB.out))) : w.heap.size ≤ gb230)); clear HB; have HB := n0_; have BK230 := n1_; have GW230 := n2_; have GE230 := n3_; clear n0_ n1_ n2_ n3_; clear hb hbox hg) | ((with_reducible refine gate_callee (f := 13) rfl ?_); refine goesL_ (some 12) rfl rfl Try.func13 (by kernel_rfl) rfl #[.slice A0 l0.length c0] rfl (by (try simp only [List.map_toArray, List.map_cons, List.map_nil]); first | done | rfl | (simp only [List.length_drop, List.length_take]; rfl)) ?_; (with_reducible refine (chapmanref36_Valid.calls k _ _ l0 false _ ?side1 ?side2 A3.out).mono ?_); (case side1 => repeat (first | exact (Kd.C_below HR0.out HB.out) | (with_reducible refine Kd.C_alloc ?_ _) | (with_reducible refine Kd.C_drewN ?_ _) | (with_reducible refine Kd.C_drew ?_))); (case side2 => exact HC0.out); rintro e w' ⟨rfl, ⟨nd, rfl⟩⟩; refine ⟨_, rfl, ?_⟩; (try (rw [drewN_self w59]; generalize hq_ : World.drewN w59 _ = w59; have n0_ : Aside0 (w59.heap[gb230]? = some (.cells #[.slice none 0 0, .slice none 0 0, .int .i64 0, .int .i64 0] 36 (0, 0))) := ⟨by rw [← hq_]; exact (by (with_reducible repeat (first | refine blk_drewN ?_ _ | refine blk_drew ?_ | refine blk_alloc ?_ _)); exact BK230.out)⟩; have n1_ : Aside0 (Below w.heap.size w w59) := ⟨by rw [← hq_]; exact (by repeat (first | (with_reducible first | exact HB.out | apply below_alloc | apply pw_below_drewN | apply below_drew1 | refine below_set ?_ GE230.out) | exact HB.out))⟩; clear BK230 HB hq_; have BK230 := n0_; have HB := n1_; clear n0_ n1_)); have hcz60_0 : w59.cell? ⟨gb230, 0, none⟩ = some (.slice none 0 0) := (blk_cell BK230.out 0).trans rfl; have hcz60_1 : w59.cell? ⟨gb230, 1, none⟩ = some (.slice none 0 0) := (blk_cell BK230.out 1).trans rfl; have hcz60_2 : w59.cell? ⟨gb230, 2, none⟩ = some (.int .i64 0) := (blk_cell BK230.out 2).trans rfl; have hcz60_3 : w59.cell? ⟨gb230, 3, none⟩ = some (.int .i64 0) := (blk_cell BK230.out 3).trans rfl; have hfz60_0 := blk_frozen BK230.out 0; have hfz60_1 := blk_frozen BK230.out 1; have hfz60_2 := blk_frozen BK230.out 2; have hfz60_3 := blk_frozen BK230.out 3))
    refine bodyPost_ret (results_cell_row rfl _ _ gb230 36 #[.slice none 0 0, .slice none 0 0, .int .i64 0, .int .i64 1] (0, 0) _ rfl (by (with_reducible repeat (first | refine blk_drewN ?_ _ | refine blk_drew ?_ | refine blk_alloc ?_ _)); refine blk_put (cs := #[.slice none 0 0, .slice none 0 0, .int .i64 0, .int .i64 0]) ?_ 3 _ rfl; (with_reducible repeat (first | refine blk_drewN ?_ _ | refine blk_drew ?_ | refine blk_alloc ?_ _)); refine blk_put (cs := #[.slice none 0 0, .slice none 0 0, .int .i64 0, .int .i64 0]) ?_ 2 _ rfl; (with_reducible repeat (first | refine blk_drewN ?_ _ | refine blk_drew ?_ | refine blk_alloc ?_ _)); refine blk_put (cs := #[.slice none 0 0, .slice none 0 0, .int .i64 0, .int .i64 0]) ?_ 1 _ rfl; (with_reducible repeat (first | refine blk_drewN ?_ _ | refine blk_drew ?_ | refine blk_alloc ?_ _)); refine blk_put (cs := #[.slice none 0 0, .slice none 0 0, .int .i64 0, .int .i64 0]) ?_ 0 _ rfl; (with_reducible repeat (first | refine blk_drewN ?_ _ | refine blk_drew ?_ | refine blk_alloc ?_ _)); exact BK230.out) Try.underlying36 rfl (by kernel_rfl)) rfl ?_
    exact ⟨_, _, by first | rfl | (simp [errW_none, errW_some] <;> rfl) | (simp [*, errW_none, errW_some] <;> rfl), by first | exact Kd.R_nil _ _ _ _ _ | exact Kd.N_nil _ _ _ _ _ | exact Kd.V_nil _ _ _ _ _ | exact Kd.Q_nil _ _ _ _ _ | exact Kd.S_nil _ _ _ _ _, by first | exact Kd.R_nil _ _ _ _ _ | exact Kd.N_nil _ _ _ _ _ | exact Kd.V_nil _ _ _ _ _ | exact Kd.Q_nil _ _ _ _ _ | exact Kd.S_nil _ _ _ _ _, by repeat (first | (with_reducible first | exact HB.out | apply below_alloc | apply pw_below_drewN | apply below_drew1 | refine below_set ?_ GE230.out) | exact HB.out)⟩
end Go.Proofs.Ytckempgpaojljaa.P
end
section
/- The reference's AfterIn answers as the program's wrapper. -/
namespace Go.Proofs.Ytckempgpaojljaa.P
set_option linter.unusedVariables false
set_option linter.unusedSimpArgs false
open Go.RowKit Go.Proofs.YtckempgpaojljaaW.PrintWords Go.Proofs.YtckempgpaojljaaW.PrintLast Go.Proofs.YtckempgpaojljaaW.PrintMore
structure OwnR (l : List S43) (G : List (List Int)) (ro : List Int) (ow : List (List Int)) : Prop where
  lr : ro.length = l.length
  lo : ow.length = l.length
  rel : ∀ i : Nat, i < l.length → (rd ro (i : Int) = 0 ∧ ow.getD i [] = []) ∨ ∃ m : Nat, m < G.length ∧ rd ro (i : Int) = (m : Int) + 1 ∧ ow.getD i [] = G.getD m [] ∧ okG l.length (G.getD m []) = true
def ansA (l : List S43) : Option (List (List Int)) → List (List Int) × List S43 × Int × Int
  | none => ([], [], 0, 1)
  | some ow => ([], unp (aftK (pcs l) ow l.length), 0, 0)
theorem getD_set' {α : Type} (l : List α) (i k : Nat) (a d : α) (hi : i < l.length) : (l.set i a).getD k d = if k = i then a else l.getD k d := by
  by_cases h : k = i
  · subst h
    simp [List.getD_eq_getElem?_getD, hi]
  · simp [List.getD_eq_getElem?_getD, List.getElem?_set_ne (Ne.symm h), h]
theorem okG_ne {n : Int} {g : List Int} (h : okG n g = true) : g ≠ [] := by
  intro e
  subst e
  simp [okG] at h
theorem unp_append (a b : List S59) : unp (a ++ b) = unp a ++ unp b := by simp [unp]
theorem after2_ev {l : List S43} {G : List (List Int)} {ro : List Int} {ow : List (List Int)} (hv : validL (pcs l) = true) (h : OwnR l G ro ow) (hG : G.length ≤ 1000000) :
    Evt (fun k => chapmanref36_AfterIn.l2 k l G ro 0 [] 0 0) (ansA l (some ow)) := by
  obtain ⟨h5, hb⟩ := valid_bd hv
  refine Evt.loop' (fun i k => chapmanref36_AfterIn.l2 k l G ro (i : Int) (unp (aftK (pcs l) ow i)) 0 0) l.length ?_ (fun i hi => ?_)
  · refine (Evt.pure _).step (fun k => ?_)
    show (if _ then _ else _) = _
    rw [if_neg (by omega)]
    rfl
  · have hlen : (unp (aftK (pcs l) ow i)).length < 8796093022208 := by
      have := aftK_len (pcs l) ow i
      rw [unp, List.length_map]
      omega
    have hsucc : unp (aftK (pcs l) ow (i + 1)) = unp (aftK (pcs l) ow i) ++ unp (aftP (pcs l) ow i) := by rw [aftK_succ, unp_append]
    rcases h.rel i hi with ⟨h0, he⟩ | ⟨m, hm, h0, he, hok⟩
    · refine ⟨0, fun k _ => ?_⟩
      have hp : unp (aftP (pcs l) ow i) = [⟨(rd_T43 l i).f0, (rd_T43 l i).f1⟩] := by
        unfold aftP
        rw [he, if_pos (show ([] : List Int).isEmpty = true from rfl), rd_pcs]
        rfl
      show (if _ then _ else _) = _
      rw [if_pos (by omega), if_pos (by omega), if_pos (by rw [h.lr]; omega), if_pos h0, if_pos hlen, w64s (by omega)]
      show _ = chapmanref36_AfterIn.l2 k l G ro ((i + 1 : Nat) : Int) _ 0 0
      rw [hsucc, hp]
    · have hgm : G[m]? = some (G.getD m []) := by simp [List.getD_eq_getElem?_getD, hm]
      have hrd : rd_L5 G (m : Int) = G.getD m [] := by simp [rd_L5, List.getD_eq_getElem?_getD, hm]
      generalize G.getD m [] = g at *
      obtain ⟨hgl, hgi⟩ := okG_in hok
      have hg0 := (okG_len hok).1
      have hw : wrap64 (((m : Int) + 1) - 1) = (m : Int) := by rw [w64in _ (by omega)]; omega
      have hem : g.isEmpty = false := by
        cases g with
        | nil => simp at hg0
        | cons a g => rfl
      have hrg : rd g 0 = g.getD 0 0 := rfl
      by_cases h00 : g.getD 0 0 = (i : Int)
      · obtain ⟨K, hK⟩ := sum_ev l g (by omega) hgi (fun p hp => by have := hb p hp; omega)
        refine ⟨K, fun k hk => ?_⟩
        have hp : unp (aftP (pcs l) ow i) = [⟨sumG (fun i => (rd_T43 l i).f0) g, sumG (fun i => (rd_T43 l i).f1) g⟩] := by
          unfold aftP
          rw [he, hem, if_neg (by simp), if_pos h00]
          simp only [rd_pcs]
          rfl
        show (if _ then _ else _) = _
        rw [if_pos (by omega), if_pos (by omega), if_pos (by rw [h.lr]; omega), h0, if_neg (by omega), hw, if_pos (by omega), if_pos (by omega), hrd, if_pos (by omega), hrg, if_pos h00, show chapmanref36_sum.f k l g = _ from hK k hk]
        show (if _ then _ else _) = _
        rw [if_pos hlen, w64s (by omega)]
        show _ = chapmanref36_AfterIn.l2 k l G ro ((i + 1 : Nat) : Int) _ 0 0
        rw [hsucc, hp]
      · refine ⟨0, fun k _ => ?_⟩
        have hp : unp (aftP (pcs l) ow i) = [] := by
          unfold aftP
          rw [he, hem, if_neg (by simp), if_neg h00]
          rfl
        show (if _ then _ else _) = _
        rw [if_pos (by omega), if_pos (by omega), if_pos (by rw [h.lr]; omega), h0, if_neg (by omega), hw, if_pos (by omega), if_pos (by omega), hrd, if_pos (by omega), hrg, if_neg h00, w64s (by omega)]
        show _ = chapmanref36_AfterIn.l2 k l G ro ((i + 1 : Nat) : Int) _ 0 0
        rw [hsucc, hp, List.append_nil]
theorem after1_ev {l : List S43} {G : List (List Int)} (hl : l.length ≤ 1000000) (hG : G.length ≤ 1000000) (j : Nat) (hj : j < G.length) (hok : okG l.length G[j] = true) (X : List (List Int) → List (List Int) × List S43 × Int × Int)
    (hX : ∀ ro ow, OwnR l G ro ow → Evt (fun k => chapmanref36_AfterIn.l0 k l G ro ((j + 1 : Nat) : Int)) (X ow)) :
    ∀ (m t : Nat), t + m = G[j].length → ∀ ro ow, OwnR l G ro ow →
      Evt (fun k => chapmanref36_AfterIn.l1 k l G ro (j : Int) (t : Int)) (match claim1 G[j] (G[j].drop t) ow with | none => ([], [], 0, 1) | some ow' => X ow') := by
  have hr : rd_L5 G (j : Int) = G[j] := rdL5 hj
  obtain ⟨hgl, hgi⟩ := okG_in hok
  intro m
  induction m with
  | zero =>
    intro t ht ro ow h
    rw [List.drop_of_length_le (by omega)]
    show Evt _ (X ow)
    refine (hX ro ow h).step (fun k => ?_)
    show (if _ then _ else _) = _
    rw [if_pos (by omega), if_pos (by omega), hr, if_neg (by omega), w64s (by omega)]
  | succ m ih =>
    intro t ht ro ow h
    have htl : t < G[j].length := by omega
    obtain ⟨x, hx⟩ : ∃ x, x = G[j][t] := ⟨_, rfl⟩
    have hxb := hgi G[j][t] (List.getElem_mem htl)
    have hrx : rd G[j] (t : Int) = x := by rw [rdI htl, hx]
    rw [← hx] at hxb
    obtain ⟨i, rfl⟩ : ∃ i : Nat, x = (i : Int) := ⟨x.toNat, by omega⟩
    have hil : i < l.length := by omega
    rw [List.drop_eq_getElem_cons htl, ← hx]
    have hcl : claim1 G[j] ((i : Int) :: G[j].drop (t + 1)) ow = if (ow.getD i []).isEmpty then claim1 G[j] (G[j].drop (t + 1)) (ow.set i G[j]) else none := rfl
    rw [hcl]
    rcases h.rel i hil with ⟨h0, he⟩ | ⟨q, hq, h0, he, hoq⟩
    · rw [he, if_pos (show ([] : List Int).isEmpty = true from rfl)]
      have hown : OwnR l G (ro.set i ((j : Int) + 1)) (ow.set i G[j]) := by
        refine ⟨by rw [List.length_set]; exact h.lr, by rw [List.length_set]; exact h.lo, fun a ha => ?_⟩
        have e1 : rd (ro.set i ((j : Int) + 1)) (a : Int) = if a = i then (j : Int) + 1 else rd ro (a : Int) := by
          show (ro.set i ((j : Int) + 1)).getD a 0 = _
          rw [getD_set' _ _ _ _ _ (by rw [h.lr]; exact hil)]
          rfl
        rw [e1, getD_set' _ _ _ _ _ (by rw [h.lo]; exact hil)]
        by_cases hai : a = i
        · rw [if_pos hai, if_pos hai]
          have e2 : G.getD j [] = G[j] := by simp [List.getD_eq_getElem?_getD, hj]
          exact .inr ⟨j, hj, rfl, e2.symm, by rw [e2]; exact hok⟩
        · rw [if_neg hai, if_neg hai]
          exact h.rel a ha
      refine (ih (t + 1) (by omega) _ _ hown).step (fun k => ?_)
      show (if _ then _ else _) = _
      rw [if_pos (by omega), if_pos (by omega), hr, if_pos (by omega), if_pos (by omega), hrx, if_pos (by omega), if_pos (by rw [h.lr]; omega), if_pos h0, w64s (i := j) (by omega), w64s (i := t) (by omega), show ((j + 1 : Nat) : Int) = (j : Int) + 1 by omega]
      rfl
    · have hne : (ow.getD i []).isEmpty = false := by
        rw [he]
        have := okG_ne hoq
        cases hg : G.getD q [] with
        | nil => exact absurd hg this
        | cons a b => rfl
      rw [hne, if_neg (by simp)]
      refine (Evt.pure _).step (fun k => ?_)
      show (if _ then _ else _) = _
      rw [if_pos (by omega), if_pos (by omega), hr, if_pos (by omega), if_pos (by omega), hrx, if_pos (by omega), if_pos (by rw [h.lr]; omega), if_neg (by omega)]
theorem after0_ev {l : List S43} {G : List (List Int)} (hv : validL (pcs l) = true) (hG : G.length ≤ 1000000) (hg : ∀ g ∈ G, g.length ≤ 1000000) :
    ∀ (m j : Nat), j + m = G.length → ∀ ro ow, OwnR l G ro ow → Evt (fun k => chapmanref36_AfterIn.l0 k l G ro (j : Int)) (ansA l (owners l.length (G.drop j) ow)) := by
  have hl : l.length ≤ 1000000 := by have := (valid_bd hv).1; omega
  intro m
  induction m with
  | zero =>
    intro j hj ro ow h
    rw [List.drop_of_length_le (by omega)]
    refine (after2_ev hv h hG).step (fun k => ?_)
    show (if _ then _ else _) = _
    rw [if_neg (by omega)]
  | succ m ih =>
    intro j hj ro ow h
    have hjl : j < G.length := by omega
    have hr : rd_L5 G (j : Int) = G[j] := rdL5 hjl
    rw [List.drop_eq_getElem_cons hjl]
    have ho : owners l.length (G[j] :: G.drop (j + 1)) ow = if okG l.length G[j] then (match claim1 G[j] G[j] ow with | none => none | some ow' => owners l.length (G.drop (j + 1)) ow') else none := rfl
    rw [ho]
    obtain ⟨K0, hK0⟩ := group_ev l G[j] hl (hg _ (List.getElem_mem hjl))
    cases hok : okG l.length G[j] with
    | false =>
      rw [if_neg (by simp)]
      refine (Evt.pure _).step' ⟨K0, fun k hk => ?_⟩
      show (if _ then _ else _) = _
      rw [if_pos (by omega), if_pos (by omega), hr, show chapmanref36_group.f k l G[j] = _ from hK0 k hk, hok]
      rfl
    | true =>
      rw [if_pos rfl]
      have h1 := after1_ev hl hG j hjl hok (fun ow' => ansA l (owners l.length (G.drop (j + 1)) ow')) (fun ro ow h => ih (j + 1) (by omega) ro ow h) G[j].length 0 (by omega) ro ow h
      rw [List.drop_zero] at h1
      have e : ansA l (match claim1 G[j] G[j] ow with | none => none | some ow' => owners l.length (G.drop (j + 1)) ow') = (match claim1 G[j] G[j] ow with | none => ([], [], 0, 1) | some ow' => ansA l (owners l.length (G.drop (j + 1)) ow')) := by
        cases claim1 G[j] G[j] ow <;> rfl
      rw [e]
      refine h1.step' ⟨K0, fun k hk => ?_⟩
      show (if _ then _ else _) = _
      rw [if_pos (by omega), if_pos (by omega), hr, show chapmanref36_group.f k l G[j] = _ from hK0 k hk, hok]
      rfl
theorem afterIn_ev (l : List S43) (G : List (List Int)) (h : l.length ≤ 1000000) (hG : G.length ≤ 1000000) (hg : ∀ g ∈ G, g.length ≤ 1000000) : Evt (fun k => chapmanref36_AfterIn.f k l G) (afterR l G) := by
  refine (rvalid_ev l h).bind (h := fun k t231 => (if t231 = true then (if 0 ≤ (l.length : Int) then (if ((l.length : Int) : Int).toNat ≤ 35184372088832 then (chapmanref36_AfterIn.l0 k l G (List.replicate ((l.length : Int) : Int).toNat 0) 0) else (none)) else (none)) else (some (([] : List (List Int)), ([] : List (S43)), 0, 1)))) ?_
  have hres : afterR l G = if validL (pcs l) = true then ansA l (owners l.length G (List.replicate l.length [])) else ([], [], 0, 1) := by
    unfold afterR
    cases validL (pcs l) with
    | false => rfl
    | true =>
      rw [if_pos rfl, if_pos rfl]
      unfold afterL
      rw [pcs_length]
      cases owners l.length G (List.replicate l.length []) <;> rfl
  rw [hres]
  cases hv : validL (pcs l) with
  | false => exact Evt.of fun k => rfl
  | true =>
    have hown : OwnR l G (List.replicate l.length 0) (List.replicate l.length []) := by
      refine ⟨by simp, by simp, fun i hi => .inl ⟨?_, ?_⟩⟩
      · simp [rd, List.getD_eq_getElem?_getD, hi]
      · simp [List.getD_eq_getElem?_getD, hi]
    have h0 := after0_ev hv hG hg G.length 0 (by omega) _ _ hown
    rw [List.drop_zero] at h0
    rw [if_pos rfl]
    refine h0.congr ⟨0, fun k _ => ?_⟩
    rw [if_pos rfl, if_pos (by omega), if_pos (by omega)]
    rfl
end Go.Proofs.Ytckempgpaojljaa.P
end
