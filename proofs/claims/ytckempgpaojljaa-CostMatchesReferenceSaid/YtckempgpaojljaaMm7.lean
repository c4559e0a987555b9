/- Parts of a proof, laid together: TPx8, TGr. -/
import Derived.Test.YtckempgpaojljaaMm1
import Derived.Test.YtckempgpaojljaaMm4
import Derived.Test.YtckempgpaojljaaMm6
section
namespace Go.Proofs.Ytckempgpaojljaa.P
open Go.RowKit Go.Proofs.YtckempgpaojljaaW.PrintWords Go.Proofs.YtckempgpaojljaaW.PrintLast Go.Proofs.YtckempgpaojljaaW.PrintMore
attribute [local go_sem] max2_int min2_int max_two min_two max_three min_three max_four min_four   -- for this text's walks alone
set_option linter.unusedVariables false
set_option linter.unusedSimpArgs false
def chapmanref36_MergeIn.f (k : Nat) (l0 : List (S43)) (l1 : List Int) : Option ((List (List Int)) × (List (S43)) × Int × Int) := (chapmanref36_Valid.f k l0).bind fun t259 => (if t259 = true then ((chapmanref36_group.f k l0 l1).bind fun t260 => (if t260 = true then ((chapmanref36_sum.f k l0 l1).bind fun bt261 => (some (([] : List (List Int)), ([] : List (S43)), wrap64 ((wrap64 (4096 * (wrap64 ((l1.length : Int) + 1)))) + (wrap64 (2 * bt261.2))), 0))) else (some (([] : List (List Int)), ([] : List (S43)), 0, 1)))) else (some (([] : List (List Int)), ([] : List (S43)), 0, 1)))
set_option maxHeartbeats 8000000 in
set_option maxRecDepth 100000 in
theorem chapmanref36_MergeIn.calls (k : Nat) (A0 : Option Addr) (c0 : Nat) (l0 : List (S43)) (A1 : Option Addr) (c1 : Nat) (l1 : List Int) (r1 : List (List Int)) (r2 : List (S43)) (r3 : Int) (r4 : Int) (w : World) (hr0 : Kd.C k43 w A0 l0.length l0) (hc0 : l0.length ≤ c0) (hr1 : Kd.C (Kd.int .i64) w A1 l1.length l1) (hc1 : l1.length ≤ c1) (h : chapmanref36_MergeIn.f k l0 l1 = some (r1, r2, r3, r4)) :
    Calls Try.prog 22 #[.slice A0 l0.length c0, .slice A1 l1.length c1] w fun e w' => ∃ v0_ v1_ : Value, e = .returned (.agg #[v0_, v1_, .int .i64 r3, .int .i64 r4]) ∧ Kd.R (Kd.slice 3 (Kd.int .i64)) 26 w' w.heap.size (fun _ => True) v0_ r1 ∧ Kd.R k43 43 w' w.heap.size (fun _ => True) v1_ r2 ∧ Below w.heap.size w w' := by
  have hu36 := Try.underlying36
  have HR0 := Aside0.mk hr0
  have HC0 := Aside0.mk hc0
  clear hr0 hc0
  have HR1 := Aside0.mk hr1
  have HC1 := Aside0.mk hc1
  clear hr1 hc1
  have HB := Aside0.mk (Below.refl w.heap.size w)
  have H : ((chapmanref36_Valid.f k l0).bind fun t259 => (if t259 = true then ((chapmanref36_group.f k l0 l1).bind fun t260 => (if t260 = true then ((chapmanref36_sum.f k l0 l1).bind fun bt261 => (some (([] : List (List Int)), ([] : List (S43)), wrap64 ((wrap64 (4096 * (wrap64 ((l1.length : Int) + 1)))) + (wrap64 (2 * bt261.2))), 0))) else (some (([] : List (List Int)), ([] : List (S43)), 0, 1)))) else (some (([] : List (List Int)), ([] : List (S43)), 0, 1)))) = some (r1, r2, r3, r4) := h
  clear h
  replace H := Option.bind_eq_some_iff.mp H
  obtain ⟨t259, A30, H⟩ := H
  replace H : (if t259 = true then ((chapmanref36_group.f k l0 l1).bind fun t260 => (if t260 = true then ((chapmanref36_sum.f k l0 l1).bind fun bt261 => (some (([] : List (List Int)), ([] : List (S43)), wrap64 ((wrap64 (4096 * (wrap64 ((l1.length : Int) + 1)))) + (wrap64 (2 * bt261.2))), 0))) else (some (([] : List (List Int)), ([] : List (S43)), 0, 1)))) else (some (([] : List (List Int)), ([] : List (S43)), 0, 1))) = some (r1, r2, r3, r4) := H
  have A3 := Aside0.mk A30
  clear A30
  by_cases c4 : t259 = true
  · subst c4
    have H1 : ((chapmanref36_group.f k l0 l1).bind fun t260 => (if t260 = true then ((chapmanref36_sum.f k l0 l1).bind fun bt261 => (some (([] : List (List Int)), ([] : List (S43)), wrap64 ((wrap64 (4096 * (wrap64 ((l1.length : Int) + 1)))) + (wrap64 (2 * bt261.2))), 0))) else (some (([] : List (List Int)), ([] : List (S43)), 0, 1)))) = some (r1, r2, r3, r4) := by rw [if_pos rfl] at H; exact H
    clear H
    have H := H1
    clear H1
    replace H := Option.bind_eq_some_iff.mp H
    obtain ⟨t260, A50, H⟩ := H
    replace H : (if t260 = true then ((chapmanref36_sum.f k l0 l1).bind fun bt261 => (some (([] : List (List Int)), ([] : List (S43)), wrap64 ((wrap64 (4096 * (wrap64 ((l1.length : Int) + 1)))) + (wrap64 (2 * bt261.2))), 0))) else (some (([] : List (List Int)), ([] : List (S43)), 0, 1))) = some (r1, r2, r3, r4) := H
    have A5 := Aside0.mk A50
    clear A50
    by_cases c6 : t260 = true
    · subst c6
      have H1 : ((chapmanref36_sum.f k l0 l1).bind fun bt261 => (some (([] : List (List Int)), ([] : List (S43)), wrap64 ((wrap64 (4096 * (wrap64 ((l1.length : Int) + 1)))) + (wrap64 (2 * bt261.2))), 0))) = some (r1, r2, r3, r4) := by rw [if_pos rfl] at H; exact H
      clear H
      have H := H1
      clear H1
      replace H := Option.bind_eq_some_iff.mp H
      obtain ⟨⟨t261, t262⟩, A70, H⟩ := H
      replace H : (some (([] : List (List Int)), ([] : List (S43)), wrap64 ((wrap64 (4096 * (wrap64 ((l1.length : Int) + 1)))) + (wrap64 (2 * t262))), 0)) = some (r1, r2, r3, r4) := H
      have A7 := Aside0.mk A70
      clear A70
      simp only [Option.some.injEq, Prod.mk.injEq] at H
      obtain ⟨rfl, rfl, rfl, rfl⟩ := H
      go_enter Try.func22, Try.ntmps22
      go_wp2_with (first | ((with_reducible refine gate_dst (N := 4) rfl ?_); refine box_event ?hg (N := 4) ?hd (cs := #[.slice none 0 0, .slice none 0 0, .int .i64 0, .int .i64 0]) (t := 36) ?hr ?_; (case hd => rfl); (case hg => rfl); (case hr => first | (go_simp; done) | (go_simp; rfl)); intro gb258 hg w8 hbox hb; have n0_ := Aside0.mk (below_step (by repeat (first | (with_reducible first | exact HB.out | apply below_alloc | apply pw_below_drewN | apply below_drew1) | exact HB.out)) hb); have n1_ := Aside0.mk (hbox); have n2_ := Aside0.mk ((by rw [hg]; exact (below_size (by repeat (first | (with_reducible first | exact HB.out | apply below_alloc | apply pw_below_drewN | apply below_drew1) | exact HB.out))) : w.heap.size ≤ gb258)); have n3_ := Aside0.mk ((by rw [hg]; exact (below_size (by repeat (first | (with_reducible first | exact HB.out | apply below_alloc | apply pw_below_drewN | apply below_drew1) | exact HB.out))) : w.heap.size ≤ gb258)); clear HB; have HB := n0_; have BK258 := n1_; have GW258 := n2_; have GE258 := n3_; clear n0_ n1_ n2_ n3_; clear hb hbox hg) | ((with_reducible refine gate_callee (f := 13) rfl ?_); refine goesL_ (some 6) rfl rfl Try.func13 (by kernel_rfl) rfl #[.slice A0 l0.length c0] rfl (by (try simp only [List.map_toArray, List.map_cons, List.map_nil]); first | done | rfl | (simp only [List.length_drop, List.length_take]; rfl)) ?_; (with_reducible refine (chapmanref36_Valid.calls k _ _ l0 true _ ?side1 ?side2 A3.out).mono ?_); (case side1 => repeat (first | exact (Kd.C_below HR0.out HB.out) | (with_reducible refine Kd.C_alloc ?_ _) | (with_reducible refine Kd.C_drewN ?_ _) | (with_reducible refine Kd.C_drew ?_))); (case side2 => exact HC0.out); rintro e w' ⟨rfl, ⟨nd, rfl⟩⟩; refine ⟨_, rfl, ?_⟩; (try (rw [drewN_self w8]; generalize hq_ : World.drewN w8 _ = w8; have n0_ : Aside0 (w8.heap[gb258]? = some (.cells #[.slice none 0 0, .slice none 0 0, .int .i64 0, .int .i64 0] 36 (0, 0))) := ⟨by rw [← hq_]; exact (by (with_reducible repeat (first | refine blk_drewN ?_ _ | refine blk_drew ?_ | refine blk_alloc ?_ _)); exact BK258.out)⟩; have n1_ : Aside0 (Below w.heap.size w w8) := ⟨by rw [← hq_]; exact (by repeat (first | (with_reducible first | exact HB.out | apply below_alloc | apply pw_below_drewN | apply below_drew1 | refine below_set ?_ GE258.out) | exact HB.out))⟩; clear BK258 HB hq_; have BK258 := n0_; have HB := n1_; clear n0_ n1_))) | (go_at_call 37; (with_reducible refine (chapmanref36_group.calls k _ _ l0 _ _ l1 true _ ?side1 ?side2 ?side3 ?side4 A5.out).mono ?_); (case side1 => repeat (first | exact (Kd.C_below HR0.out HB.out) | (with_reducible refine Kd.C_alloc ?_ _) | (with_reducible refine Kd.C_drewN ?_ _) | (with_reducible refine Kd.C_drew ?_))); (case side2 => exact HC0.out); (case side3 => repeat (first | exact (Kd.C_below HR1.out HB.out) | (with_reducible refine Kd.C_alloc ?_ _) | (with_reducible refine Kd.C_drewN ?_ _) | (with_reducible refine Kd.C_drew ?_))); (case side4 => exact HC1.out); rintro e w' ⟨rfl, ⟨nd, rfl⟩⟩; (try (rw [drewN_self w8]; generalize hq_ : World.drewN w8 _ = w8; have n0_ : Aside0 (w8.heap[gb258]? = some (.cells #[.slice none 0 0, .slice none 0 0, .int .i64 0, .int .i64 0] 36 (0, 0))) := ⟨by rw [← hq_]; exact (by (with_reducible repeat (first | refine blk_drewN ?_ _ | refine blk_drew ?_ | refine blk_alloc ?_ _)); exact BK258.out)⟩; have n1_ : Aside0 (Below w.heap.size w w8) := ⟨by rw [← hq_]; exact (by repeat (first | (with_reducible first | exact HB.out | apply below_alloc | apply pw_below_drewN | apply below_drew1 | refine below_set ?_ GE258.out) | exact HB.out))⟩; clear BK258 HB hq_; have BK258 := n0_; have HB := n1_; clear n0_ n1_))) | ((with_reducible refine gate_callee (f := 38) rfl ?_); refine goesL_ (some 21) rfl rfl Try.func38 (by kernel_rfl) rfl #[.slice A0 l0.length c0, .slice A1 l1.length c1] rfl (by (try simp only [List.map_toArray, List.map_cons, List.map_nil]); first | done | rfl | (simp only [List.length_drop, List.length_take]; rfl)) ?_; (with_reducible refine (chapmanref36_sum.calls k _ _ l0 _ _ l1 t261 t262 _ ?side1 ?side2 ?side3 ?side4 A7.out).mono ?_); (case side1 => repeat (first | exact (Kd.C_below HR0.out HB.out) | (with_reducible refine Kd.C_alloc ?_ _) | (with_reducible refine Kd.C_drewN ?_ _) | (with_reducible refine Kd.C_drew ?_))); (case side2 => exact HC0.out); (case side3 => repeat (first | exact (Kd.C_below HR1.out HB.out) | (with_reducible refine Kd.C_alloc ?_ _) | (with_reducible refine Kd.C_drewN ?_ _) | (with_reducible refine Kd.C_drew ?_))); (case side4 => exact HC1.out); rintro e w9 ⟨rfl, hb⟩; refine ⟨_, rfl, ?_⟩; have n0_ := Aside0.mk (blk_below (g := gb258) (o := .cells #[.slice none 0 0, .slice none 0 0, .int .i64 0, .int .i64 0] 36 (0, 0)) (by (with_reducible repeat (first | refine blk_drewN ?_ _ | refine blk_drew ?_ | refine blk_alloc ?_ _)); exact BK258.out) hb); have n1_ := Aside0.mk (below_step (by repeat (first | (with_reducible first | exact HB.out | apply below_alloc | apply pw_below_drewN | apply below_drew1 | refine below_set ?_ GE258.out) | exact HB.out)) hb); clear BK258; clear HB; have BK258 := n0_; have HB := n1_; clear n0_ n1_; (try clear hb); (try clear hb2); (try clear hk); (try clear hi); have hcz10_0 : w9.cell? ⟨gb258, 0, none⟩ = some (.slice none 0 0) := (blk_cell BK258.out 0).trans rfl; have hcz10_1 : w9.cell? ⟨gb258, 1, none⟩ = some (.slice none 0 0) := (blk_cell BK258.out 1).trans rfl; have hcz10_2 : w9.cell? ⟨gb258, 2, none⟩ = some (.int .i64 0) := (blk_cell BK258.out 2).trans rfl; have hcz10_3 : w9.cell? ⟨gb258, 3, none⟩ = some (.int .i64 0) := (blk_cell BK258.out 3).trans rfl; have hfz10_0 := blk_frozen BK258.out 0; have hfz10_1 := blk_frozen BK258.out 1; have hfz10_2 := blk_frozen BK258.out 2; have hfz10_3 := blk_frozen BK258.out 3))
      refine bodyPost_ret (results_cell_row rfl _ _ gb258 36 #[.slice none 0 0, .slice none 0 0, .int .i64 (wrap64 ((wrap64 (4096 * (wrap64 ((l1.length : Int) + 1)))) + (wrap64 (2 * t262)))), .int .i64 0] (0, 0) _ rfl (by (with_reducible repeat (first | refine blk_drewN ?_ _ | refine blk_drew ?_ | refine blk_alloc ?_ _)); refine blk_put (cs := #[.slice none 0 0, .slice none 0 0, .int .i64 (wrap64 ((wrap64 (4096 * (wrap64 ((l1.length : Int) + 1)))) + (wrap64 (2 * t262)))), .int .i64 0]) ?_ 3 _ rfl; (with_reducible repeat (first | refine blk_drewN ?_ _ | refine blk_drew ?_ | refine blk_alloc ?_ _)); refine blk_put (cs := #[.slice none 0 0, .slice none 0 0, .int .i64 0, .int .i64 0]) ?_ 2 _ rfl; (with_reducible repeat (first | refine blk_drewN ?_ _ | refine blk_drew ?_ | refine blk_alloc ?_ _)); refine blk_put (cs := #[.slice none 0 0, .slice none 0 0, .int .i64 0, .int .i64 0]) ?_ 1 _ rfl; (with_reducible repeat (first | refine blk_drewN ?_ _ | refine blk_drew ?_ | refine blk_alloc ?_ _)); refine blk_put (cs := #[.slice none 0 0, .slice none 0 0, .int .i64 0, .int .i64 0]) ?_ 0 _ rfl; (with_reducible repeat (first | refine blk_drewN ?_ _ | refine blk_drew ?_ | refine blk_alloc ?_ _)); exact BK258.out) Try.underlying36 rfl (by kernel_rfl)) rfl ?_
      exact ⟨_, _, by first | rfl | (simp [errW_none, errW_some] <;> rfl) | (simp [*, errW_none, errW_some] <;> rfl), by first | exact Kd.R_nil _ _ _ _ _ | exact Kd.N_nil _ _ _ _ _ | exact Kd.V_nil _ _ _ _ _ | exact Kd.Q_nil _ _ _ _ _ | exact Kd.S_nil _ _ _ _ _, by first | exact Kd.R_nil _ _ _ _ _ | exact Kd.N_nil _ _ _ _ _ | exact Kd.V_nil _ _ _ _ _ | exact Kd.Q_nil _ _ _ _ _ | exact Kd.S_nil _ _ _ _ _, by repeat (first | (with_reducible first | exact HB.out | apply below_alloc | apply pw_below_drewN | apply below_drew1 | refine below_set ?_ GE258.out) | exact HB.out)⟩
    · replace c6 := Bool.eq_false_iff.mpr c6
      subst c6
      have H1 : (some (([] : List (List Int)), ([] : List (S43)), 0, 1)) = some (r1, r2, r3, r4) := by rw [if_neg (show ¬ (false = true) by decide)] at H; exact H
      clear H
      have H := H1
      clear H1
      simp only [Option.some.injEq, Prod.mk.injEq] at H
      obtain ⟨rfl, rfl, rfl, rfl⟩ := H
      go_enter Try.func22, Try.ntmps22
      go_wp2_with (first | ((with_reducible refine gate_dst (N := 4) rfl ?_); refine box_event ?hg (N := 4) ?hd (cs := #[.slice none 0 0, .slice none 0 0, .int .i64 0, .int .i64 0]) (t := 36) ?hr ?_; (case hd => rfl); (case hg => rfl); (case hr => first | (go_simp; done) | (go_simp; rfl)); intro gb258 hg w11 hbox hb; have n0_ := Aside0.mk (below_step (by repeat (first | (with_reducible first | exact HB.out | apply below_alloc | apply pw_below_drewN | apply below_drew1) | exact HB.out)) hb); have n1_ := Aside0.mk (hbox); have n2_ := Aside0.mk ((by rw [hg]; exact (below_size (by repeat (first | (with_reducible first | exact HB.out | apply below_alloc | apply pw_below_drewN | apply below_drew1) | exact HB.out))) : w.heap.size ≤ gb258)); have n3_ := Aside0.mk ((by rw [hg]; exact (below_size (by repeat (first | (with_reducible first | exact HB.out | apply below_alloc | apply pw_below_drewN | apply below_drew1) | exact HB.out))) : w.heap.size ≤ gb258)); clear HB; have HB := n0_; have BK258 := n1_; have GW258 := n2_; have GE258 := n3_; clear n0_ n1_ n2_ n3_; clear hb hbox hg) | ((with_reducible refine gate_callee (f := 13) rfl ?_); refine goesL_ (some 6) rfl rfl Try.func13 (by kernel_rfl) rfl #[.slice A0 l0.length c0] rfl (by (try simp only [List.map_toArray, List.map_cons, List.map_nil]); first | done | rfl | (simp only [List.length_drop, List.length_take]; rfl)) ?_; (with_reducible refine (chapmanref36_Valid.calls k _ _ l0 true _ ?side1 ?side2 A3.out).mono ?_); (case side1 => repeat (first | exact (Kd.C_below HR0.out HB.out) | (with_reducible refine Kd.C_alloc ?_ _) | (with_reducible refine Kd.C_drewN ?_ _) | (with_reducible refine Kd.C_drew ?_))); (case side2 => exact HC0.out); rintro e w' ⟨rfl, ⟨nd, rfl⟩⟩; refine ⟨_, rfl, ?_⟩; (try (rw [drewN_self w11]; generalize hq_ : World.drewN w11 _ = w11; have n0_ : Aside0 (w11.heap[gb258]? = some (.cells #[.slice none 0 0, .slice none 0 0, .int .i64 0, .int .i64 0] 36 (0, 0))) := ⟨by rw [← hq_]; exact (by (with_reducible repeat (first | refine blk_drewN ?_ _ | refine blk_drew ?_ | refine blk_alloc ?_ _)); exact BK258.out)⟩; have n1_ : Aside0 (Below w.heap.size w w11) := ⟨by rw [← hq_]; exact (by repeat (first | (with_reducible first | exact HB.out | apply below_alloc | apply pw_below_drewN | apply below_drew1 | refine below_set ?_ GE258.out) | exact HB.out))⟩; clear BK258 HB hq_; have BK258 := n0_; have HB := n1_; clear n0_ n1_))) | (go_at_call 37; (with_reducible refine (chapmanref36_group.calls k _ _ l0 _ _ l1 false _ ?side1 ?side2 ?side3 ?side4 A5.out).mono ?_); (case side1 => repeat (first | exact (Kd.C_below HR0.out HB.out) | (with_reducible refine Kd.C_alloc ?_ _) | (with_reducible refine Kd.C_drewN ?_ _) | (with_reducible refine Kd.C_drew ?_))); (case side2 => exact HC0.out); (case side3 => repeat (first | exact (Kd.C_below HR1.out HB.out) | (with_reducible refine Kd.C_alloc ?_ _) | (with_reducible refine Kd.C_drewN ?_ _) | (with_reducible refine Kd.C_drew ?_))); (case side4 => exact HC1.out); rintro e w' ⟨rfl, ⟨nd, rfl⟩⟩; (try (rw [drewN_self w11]; generalize hq_ : World.drewN w11 _ = w11; have n0_ : Aside0 (w11.heap[gb258]? = some (.cells #[.slice none 0 0, .slice none 0 0, .int .i64 0, .int .i64 0] 36 (0, 0))) := ⟨by rw [← hq_]; exact (by (with_reducible repeat (first | refine blk_drewN ?_ _ | refine blk_drew ?_ | refine blk_alloc ?_ _)); exact BK258.out)⟩; have n1_ : Aside0 (Below w.heap.size w w11) := ⟨by rw [← hq_]; exact (by repeat (first | (with_reducible first | exact HB.out | apply below_alloc | apply pw_below_drewN | apply below_drew1 | refine below_set ?_ GE258.out) | exact HB.out))⟩; clear BK258 HB hq_; have BK258 := n0_; have HB := n1_; clear n0_ n1_)); have hcz12_0 : w11.cell? ⟨gb258, 0, none⟩ = some (.slice none 0 0) := (blk_cell BK258.out 0).trans rfl; have hcz12_1 : w11.cell? ⟨gb258, 1, none⟩ = some (.slice none 0 0) := (blk_cell BK258.out 1).trans rfl; have hcz12_2 : w11.cell? ⟨gb258, 2, none⟩ = some (.int .i64 0) := (blk_cell BK258.out 2).trans rfl; have hcz12_3 : w11.cell? ⟨gb258, 3, none⟩ = some (.int .i64 0) := (blk_cell BK258.out 3).trans rfl; have hfz12_0 := blk_frozen BK258.out 0; have hfz12_1 := blk_frozen BK258.out 1; have hfz12_2 := blk_frozen BK258.out 2; have hfz12_3 := blk_frozen BK258.out 3))
      refine bodyPost_ret (results_cell_row rfl _ _ gb258 36 #[.slice none 0 0, .slice none 0 0, .int .i64 0, .int .i64 1] (0, 0) _ rfl (by (with_reducible repeat (first | refine blk_drewN ?_ _ | refine blk_drew ?_ | refine blk_alloc ?_ _)); refine blk_put (cs := #[.slice none 0 0, .slice none 0 0, .int .i64 0, .int .i64 0]) ?_ 3 _ rfl; (with_reducible repeat (first | refine blk_drewN ?_ _ | refine blk_drew ?_ | refine blk_alloc ?_ _)); refine blk_put (cs := #[.slice none 0 0, .slice none 0 0, .int .i64 0, .int .i64 0]) ?_ 2 _ rfl; (with_reducible repeat (first | refine blk_drewN ?_ _ | refine blk_drew ?_ | refine blk_alloc ?_ _)); refine blk_put (cs := #[.slice none 0 0, .slice none 0 0, .int .i64 0, .int .i64 0]) ?_ 1 _ rfl; (with_reducible repeat (first | refine blk_drewN ?_ _ | refine blk_drew ?_ | refine blk_alloc ?_ _)); refine blk_put (cs := #[.slice none 0 0, .slice none 0 0, .int .i64 0, .int .i64 0]) ?_ 0 _ rfl; (with_reducible repeat (first | refine blk_drewN ?_ _ | refine blk_drew ?_ | refine blk_alloc ?_ _)); exact BK258.out) Try.underlying36 rfl (by kernel_rfl)) rfl ?_
      exact ⟨_, _, by first | rfl | (simp [errW_none, errW_some] <;> rfl) | (simp [*, errW_none, errW_some] <;> rfl), by first | exact Kd.R_nil _ _ _ _ _ | exact Kd.N_nil _ _ _ _ _ | exact Kd.V_nil _ _ _ _ _ | exact Kd.Q_nil _ _ _ _ _ | exact Kd.S_nil _ _ _ _ _, by first | exact Kd.R_nil _ _ _ _ _ | exact Kd.N_nil _ _ _ _ _ | exact Kd.V_nil _ _ _ _ _ | exact Kd.Q_nil _ _ _ _ _ | exact Kd.S_nil _ _ _ _ _, by repeat (first | (with_reducible first | exact HB.out | apply below_alloc | apply pw_below_drewN | apply below_drew1 | refine below_set ?_ GE258.out) | exact HB.out)⟩
  · replace c4 := Bool.eq_false_iff.mpr c4
    subst c4
    have H1 : (some (([] : List (List Int)), ([] : List (S43)), 0, 1)) = some (r1, r2, r3, r4) := by rw [if_neg (show ¬ (false = true) by decide)] at H; exact H
    clear H
    have H := H1
    clear H1
    simp only [Option.some.injEq, Prod.mk.injEq] at H
    obtain ⟨rfl, rfl, rfl, rfl⟩ := H
    go_enter Try.func22, Try.ntmps22
    go_wp2_with (first | ((with_reducible refine gate_dst (N := 4) rfl ?_); refine box_event ?hg (N := 4) ?hd (cs := #[.slice none 0 0, .slice none 0 0, .int .i64 0, .int .i64 0]) (t := 36) ?hr ?_; (case hd => rfl); (case hg => rfl); (case hr => first | (go_simp; done) | (go_simp; rfl)); intro gb258 hg w13 hbox hb; have n0_ := Aside0.mk (below_step (by repeat (first | (with_reducible first | exact HB.out | apply below_alloc | apply pw_below_drewN | apply below_drew1) | exact HB.out)) hb); have n1_ := Aside0.mk (hbox); have n2_ := Aside0.mk ((by rw [hg]; exact (below_size (by repeat (first | (with_reducible first | exact HB.out | apply below_alloc | apply pw_below_drewN | apply below_drew1) | exact HB.out))) : w.heap.size ≤ gb258)); have n3_ := Aside0.mk ((by rw [hg]; exact (below_size (by repeat (first | (with_reducible first | exact HB.out | apply below_alloc | apply pw_below_drewN | apply below_drew1) | exact HB.out))) : w.heap.size ≤ gb258)); clear HB; have HB := n0_; have BK258 := n1_; have GW258 := n2_; have GE258 := n3_; clear n0_ n1_ n2_ n3_; clear hb hbox hg) | ((with_reducible refine gate_callee (f := 13) rfl ?_); refine goesL_ (some 6) rfl rfl Try.func13 (by kernel_rfl) rfl #[.slice A0 l0.length c0] rfl (by (try simp only [List.map_toArray, List.map_cons, List.map_nil]); first | done | rfl | (simp only [List.length_drop, List.length_take]; rfl)) ?_; (with_reducible refine (chapmanref36_Valid.calls k _ _ l0 false _ ?side1 ?side2 A3.out).mono ?_); (case side1 => repeat (first | exact (Kd.C_below HR0.out HB.out) | (with_reducible refine Kd.C_alloc ?_ _) | (with_reducible refine Kd.C_drewN ?_ _) | (with_reducible refine Kd.C_drew ?_))); (case side2 => exact HC0.out); rintro e w' ⟨rfl, ⟨nd, rfl⟩⟩; refine ⟨_, rfl, ?_⟩; (try (rw [drewN_self w13]; generalize hq_ : World.drewN w13 _ = w13; have n0_ : Aside0 (w13.heap[gb258]? = some (.cells #[.slice none 0 0, .slice none 0 0, .int .i64 0, .int .i64 0] 36 (0, 0))) := ⟨by rw [← hq_]; exact (by (with_reducible repeat (first | refine blk_drewN ?_ _ | refine blk_drew ?_ | refine blk_alloc ?_ _)); exact BK258.out)⟩; have n1_ : Aside0 (Below w.heap.size w w13) := ⟨by rw [← hq_]; exact (by repeat (first | (with_reducible first | exact HB.out | apply below_alloc | apply pw_below_drewN | apply below_drew1 | refine below_set ?_ GE258.out) | exact HB.out))⟩; clear BK258 HB hq_; have BK258 := n0_; have HB := n1_; clear n0_ n1_)); have hcz14_0 : w13.cell? ⟨gb258, 0, none⟩ = some (.slice none 0 0) := (blk_cell BK258.out 0).trans rfl; have hcz14_1 : w13.cell? ⟨gb258, 1, none⟩ = some (.slice none 0 0) := (blk_cell BK258.out 1).trans rfl; have hcz14_2 : w13.cell? ⟨gb258, 2, none⟩ = some (.int .i64 0) := (blk_cell BK258.out 2).trans rfl; have hcz14_3 : w13.cell? ⟨gb258, 3, none⟩ = some (.int .i64 0) := (blk_cell BK258.out 3).trans rfl; have hfz14_0 := blk_frozen BK258.out 0; have hfz14_1 := blk_frozen BK258.out 1; have hfz14_2 := blk_frozen BK258.out 2; have hfz14_3 := blk_frozen BK258.out 3))
    refine bodyPost_ret (results_cell_row rfl _ _ gb258 36 #[.slice none 0 0, .slice none 0 0, .int .i64 0, .int .i64 1] (0, 0) _ rfl (by (with_reducible repeat (first | refine blk_drewN ?_ _ | refine blk_drew ?_ | refine blk_alloc ?_ _)); refine blk_put (cs := #[.slice none 0 0, .slice none 0 0, .int .i64 0, .int .i64 0]) ?_ 3 _ rfl; (with_reducible repeat (first | refine blk_drewN ?_ _ | refine blk_drew ?_ | refine blk_alloc ?_ _)); refine blk_put (cs := #[.slice none 0 0, .slice none 0 0, .int .i64 0, .int .i64 0]) ?_ 2 _ rfl; (with_reducible repeat (first | refine blk_drewN ?_ _ | refine blk_drew ?_ | refine blk_alloc ?_ _)); refine blk_put (cs := #[.slice none 0 0, .slice none 0 0, .int .i64 0, .int .i64 0]) ?_ 1 _ rfl; (with_reducible repeat (first | refine blk_drewN ?_ _ | refine blk_drew ?_ | refine blk_alloc ?_ _)); refine blk_put (cs := #[.slice none 0 0, .slice none 0 0, .int .i64 0, .int .i64 0]) ?_ 0 _ rfl; (with_reducible repeat (first | refine blk_drewN ?_ _ | refine blk_drew ?_ | refine blk_alloc ?_ _)); exact BK258.out) Try.underlying36 rfl (by kernel_rfl)) rfl ?_
    exact ⟨_, _, by first | rfl | (simp [errW_none, errW_some] <;> rfl) | (simp [*, errW_none, errW_some] <;> rfl), by first | exact Kd.R_nil _ _ _ _ _ | exact Kd.N_nil _ _ _ _ _ | exact Kd.V_nil _ _ _ _ _ | exact Kd.Q_nil _ _ _ _ _ | exact Kd.S_nil _ _ _ _ _, by first | exact Kd.R_nil _ _ _ _ _ | exact Kd.N_nil _ _ _ _ _ | exact Kd.V_nil _ _ _ _ _ | exact Kd.Q_nil _ _ _ _ _ | exact Kd.S_nil _ _ _ _ _, by repeat (first | (with_reducible first | exact HB.out | apply below_alloc | apply pw_below_drewN | apply below_drew1 | refine below_set ?_ GE258.out) | exact HB.out)⟩
end Go.Proofs.Ytckempgpaojljaa.P
end
section
/- The reference's functions answer as the program's wrappers: ReadIn, MergeIn, ChooseIn. -/
namespace Go.Proofs.Ytckempgpaojljaa.P
set_option linter.unusedVariables false
set_option linter.unusedSimpArgs false
open Go.RowKit Go.Proofs.YtckempgpaojljaaW.PrintWords Go.Proofs.YtckempgpaojljaaW.PrintLast Go.Proofs.YtckempgpaojljaaW.PrintMore
theorem valid_bd {l : List S43} (hv : validL (pcs l) = true) : l.length ≤ 512 ∧ ∀ p ∈ l, 1 ≤ p.f0 ∧ p.f0 ≤ 5994 ∧ 0 ≤ p.f1 ∧ p.f1 ≤ 1000000000 := by
  obtain ⟨h1, h2⟩ := valid_mem hv
  rw [pcs_length] at h1
  exact ⟨h1, fun p hp => h2 ⟨p.f0, p.f1⟩ (List.mem_map.2 ⟨p, hp, rfl⟩)⟩
theorem readN_sum (l : List S43) : readN (pcs l) = 4096 * (l.length : Int) + (l.map fun p => p.f1).sum := by
  unfold readN
  rw [sum_add, map_const_sum, pcs_length]
  congr 2
  unfold pcs
  rw [List.map_map]
  rfl
theorem readIn_ev (l : List S43) (h : l.length ≤ 1000000) : Evt (fun k => chapmanref36_ReadIn.f k l) (readL l) := by
  refine (rvalid_ev l h).bind (h := fun k t223 => (if t223 = true then (chapmanref36_ReadIn.l0 k l 0 (wrap64 (4096 * (l.length : Int))) 0) else (some (([] : List (List Int)), ([] : List (S43)), 0, 1)))) ?_
  unfold readL
  cases hv : validL (pcs l) with
  | false => exact Evt.of fun k => rfl
  | true =>
    obtain ⟨h5, hb⟩ := valid_bd hv
    have b1 := psum_bd (fun p : S43 => p.f1) l 1000000000 (fun p h => by have := hb p h; omega)
    refine Evt.congr ?_ ⟨0, fun k _ => if_pos rfl⟩
    rw [if_pos rfl, readN_sum]
    have := Evt.loop (fun i k => chapmanref36_ReadIn.l0 k l (i : Int) (4096 * (l.length : Int) + psum (fun p : S43 => p.f1) l i) 0) l.length (r := (([] : List (List Int)), ([] : List S43), 4096 * (l.length : Int) + (l.map fun p => p.f1).sum, (0 : Int))) ?_ (fun i hi2 k => ?_)
    · rw [psum_zero, Int.add_zero] at this
      rw [w64in _ (by omega)]
      exact this
    · refine (Evt.pure _).step (fun k => ?_)
      show (if _ then _ else _) = _
      rw [if_neg (by omega), psum_all]
    · have c1 := b1 (i + 1) (by omega)
      rw [psum_succ _ _ _ _ (List.getElem?_eq_getElem hi2)] at c1
      show (if _ then _ else _) = _
      rw [if_pos (by omega), if_pos (by omega), w64s (by omega), rd43 hi2, w64in _ (by omega)]
      show _ = chapmanref36_ReadIn.l0 k l ((i + 1 : Nat) : Int) _ _
      rw [psum_succ _ _ _ _ (List.getElem?_eq_getElem hi2), Int.add_assoc]
def lastI (g : List Int) : Nat → Int
  | 0 => -1
  | i + 1 => rd g (i : Int)
theorem group_ev (l : List S43) (g : List Int) (hl : l.length ≤ 1000000) (hg : g.length ≤ 1000000) : Evt (fun k => chapmanref36_group.f k l g) (okG l.length g) := by
  have key : ∀ m i : Nat, i + m = g.length → -1 ≤ lastI g i → Evt (fun k => chapmanref36_group.l0 k l g (i : Int)) (incr l.length (lastI g i) (g.drop i) && decide (0 < g.length)) := by
    intro m
    induction m with
    | zero =>
      intro i hi h0
      refine (Evt.pure _).step (fun k => ?_)
      show (if _ then _ else _) = _
      rw [if_neg (by omega), List.drop_of_length_le (by omega)]
      show some _ = some (true && _)
      rw [Bool.true_and]
      congr 1
      exact decide_eq_decide.2 (by omega)
    | succ m ih =>
      intro i hi h0
      have hlt : i < g.length := by omega
      have hr : rd g (i : Int) = g[i] := rdI hlt
      have hd : incr l.length (lastI g i) (g.drop i) = (decide (lastI g i < g[i]) && decide (g[i] < l.length) && incr l.length g[i] (g.drop (i + 1))) := by
        rw [List.drop_eq_getElem_cons hlt]
        rfl
      have ih := ih (i + 1) (by omega)
      rw [show lastI g (i + 1) = g[i] from hr] at ih
      by_cases hx : lastI g i < g[i] ∧ g[i] < l.length
      · have ih := ih (by omega)
        rw [hd, decide_eq_true hx.1, decide_eq_true hx.2, Bool.true_and, Bool.true_and]
        refine ih.step (fun k => ?_)
        show (if _ then _ else _) = _
        rw [if_pos (by omega), if_pos (by omega), hr, if_neg (by omega), if_neg (by omega)]
        cases i with
        | zero => rw [if_neg (by decide), w64s (by omega)]
        | succ i =>
          have e : wrap64 (((i + 1 : Nat) : Int) - 1) = (i : Int) := by rw [w64in _ (by omega)]; omega
          have h2 : rd g (i : Int) < g[i + 1] := hx.1
          rw [if_pos (by omega), e, if_pos (by omega), if_pos (by omega), if_neg (by omega), w64s (by omega)]
      · have hf : (decide (lastI g i < g[i]) && decide (g[i] < l.length)) = false := by
          rcases Decidable.not_and_iff_not_or_not.1 hx with h | h
          · rw [decide_eq_false h, Bool.false_and]
          · rw [decide_eq_false h, Bool.and_false]
        rw [hd, hf, Bool.false_and, Bool.false_and]
        refine (Evt.pure _).step (fun k => ?_)
        show (if _ then _ else _) = _
        rw [if_pos (by omega), if_pos (by omega), hr]
        by_cases h1 : g[i] < 0
        · rw [if_pos h1]
        · rw [if_neg h1]
          by_cases h2 : g[i] ≥ l.length
          · rw [if_pos h2]
          · rw [if_neg h2]
            cases i with
            | zero => exact absurd ⟨(show (-1 : Int) < g[0] by omega), (show g[0] < (l.length : Int) by omega)⟩ hx
            | succ i =>
              have e : wrap64 (((i + 1 : Nat) : Int) - 1) = (i : Int) := by rw [w64in _ (by omega)]; omega
              have h3 : ¬ rd g (i : Int) < g[i + 1] := fun h => hx ⟨h, by omega⟩
              rw [if_pos (by omega), e, if_pos (by omega), if_pos (by omega), if_pos (by omega)]
  exact key g.length 0 (by omega) (Int.le_refl _)
theorem okG_in {l : List S43} {g : List Int} (h : okG l.length g = true) : g.length ≤ l.length ∧ ∀ i ∈ g, 0 ≤ i ∧ i < l.length := ⟨(okG_len h).2, okG_bd h⟩
theorem mergeN_sum (l : List S43) (g : List Int) : mergeN (pcs l) g = 4096 * ((g.length : Int) + 1) + 2 * sumG (fun i => (rd_T43 l i).f1) g := by
  have e : mrgF (pcs l) = fun i => 4096 + 2 * (rd_T43 l i).f1 := by
    funext i
    unfold mrgF
    rw [rd_pcs]
  have e2 : ∀ (g : List Int) (f : Int → Int), (g.map fun i => 2 * f i).sum = 2 * (g.map f).sum := by
    intro g f
    induction g with
    | nil => rfl
    | cons x g ih => rw [List.map_cons, List.sum_cons, ih, List.map_cons, List.sum_cons]; omega
  unfold mergeN sumG
  rw [e, sum_add, map_const_sum, e2 g fun i => (rd_T43 l i).f1]
  omega
theorem sumG_bd {l : List S43} (hv : validL (pcs l) = true) {g : List Int} (h : okG l.length g = true) : 0 ≤ sumG (fun i => (rd_T43 l i).f1) g ∧ sumG (fun i => (rd_T43 l i).f1) g ≤ 1000000000 * g.length := by
  obtain ⟨h5, hb⟩ := valid_bd hv
  refine sum_le_of g _ _ (fun i hi => ?_)
  have h1 := (okG_in h).2 i hi
  have h2 : i.toNat < l.length := by omega
  have h3 := hb (rd_T43 l i) (by simp [rd_T43, List.getD_eq_getElem?_getD, h2])
  omega
theorem mergeIn_ev (l : List S43) (g : List Int) (hl : l.length ≤ 1000000) (hg : g.length ≤ 1000000) : Evt (fun k => chapmanref36_MergeIn.f k l g) (mergeL l g) := by
  refine (rvalid_ev l hl).bind (h := fun k t259 => (if t259 = true then ((chapmanref36_group.f k l g).bind fun t260 => (if t260 = true then ((chapmanref36_sum.f k l g).bind fun bt261 => (some (([] : List (List Int)), ([] : List (S43)), wrap64 ((wrap64 (4096 * (wrap64 ((g.length : Int) + 1)))) + (wrap64 (2 * bt261.2))), 0))) else (some (([] : List (List Int)), ([] : List (S43)), 0, 1)))) else (some (([] : List (List Int)), ([] : List (S43)), 0, 1)))) ?_
  unfold mergeL
  cases hv : validL (pcs l) with
  | false => exact Evt.of fun k => rfl
  | true =>
    refine Evt.congr ?_ ⟨0, fun k _ => if_pos rfl⟩
    rw [Bool.true_and]
    refine (group_ev l g hl hg).bind (h := fun k t260 => (if t260 = true then ((chapmanref36_sum.f k l g).bind fun bt261 => (some (([] : List (List Int)), ([] : List (S43)), wrap64 ((wrap64 (4096 * (wrap64 ((g.length : Int) + 1)))) + (wrap64 (2 * bt261.2))), 0))) else (some (([] : List (List Int)), ([] : List (S43)), 0, 1)))) ?_
    cases ho : okG l.length g with
    | false => exact Evt.of fun k => rfl
    | true =>
      obtain ⟨h5, hb⟩ := valid_bd hv
      obtain ⟨hgl, hgi⟩ := okG_in ho
      have hs := sumG_bd hv ho
      refine Evt.congr ?_ ⟨0, fun k _ => if_pos rfl⟩
      rw [if_pos rfl, mergeN_sum]
      refine (sum_ev l g (by omega) hgi (fun p hp => by have := hb p hp; omega)).bind (h := fun k bt261 => (some (([] : List (List Int)), ([] : List (S43)), wrap64 ((wrap64 (4096 * (wrap64 ((g.length : Int) + 1)))) + (wrap64 (2 * bt261.2))), (0 : Int)))) ?_
      refine Evt.of fun k => ?_
      show some (_, _, wrap64 (wrap64 (4096 * wrap64 ((g.length : Int) + 1)) + wrap64 (2 * sumG (fun i => (rd_T43 l i).f1) g)), _) = _
      rw [w64in ((g.length : Int) + 1) (by omega), w64in (4096 * ((g.length : Int) + 1)) (by omega), w64in (2 * _) (by omega), w64in _ (by omega)]
theorem filter_take_succ {α : Type} (p : α → Bool) (l : List α) {i : Nat} (h : i < l.length) : (l.take (i + 1)).filter p = (l.take i).filter p ++ if p l[i] then [l[i]] else [] := by
  rw [List.take_add_one, List.getElem?_eq_getElem h, List.filter_append]
  congr 1
  cases hp : p l[i] <;> simp [hp]
theorem refC_groups (cs : List (List Int × Int)) : (refC cs).filter (fun g => decide (1 < g.length)) = groupsC cs := by
  unfold refC groupsC
  rw [List.filter_map]
  congr 1
  apply List.filter_congr
  intro c _
  show decide (1 < (sortI c.1).length) = _
  rw [sortI_len]
theorem choose_loop (G : List (List Int)) (h : G.length ≤ 1000000) : Evt (fun k => chapmanref36_ChooseIn.l0 k G 0 [] 0 0) (G.filter (fun g => decide (1 < g.length)), [], 0, 0) := by
  refine Evt.loop (fun i k => chapmanref36_ChooseIn.l0 k G (i : Int) ((G.take i).filter fun g => decide (1 < g.length)) 0 0) G.length ?_ (fun i hi k => ?_)
  · refine (Evt.pure _).step (fun k => ?_)
    show (if _ then _ else _) = _
    rw [if_neg (by omega), List.take_length]
  · have hfl : ((G.take i).filter fun g => decide (1 < g.length)).length < 5864062014805 := by
      have h1 := List.length_filter_le (fun g : List Int => decide (1 < g.length)) (G.take i)
      have h2 : (G.take i).length ≤ G.length := by rw [List.length_take]; omega
      omega
    show (if _ then _ else _) = _
    rw [if_pos (by omega), if_pos (by omega), rdL5 hi, w64s (by omega), filter_take_succ _ _ hi]
    by_cases h1 : 1 < G[i].length
    · rw [if_pos (by omega), if_pos hfl, if_pos (by exact decide_eq_true h1)]
    · rw [if_neg (by omega), if_neg (by simpa using h1), List.append_nil]
theorem chooseIn_ev (l : List S43) (h : l.length ≤ 1000000) : Evt (fun k => chapmanref36_ChooseIn.f k l) (chosenL l) := by
  refine (rvalid_ev l h).bind (h := fun k t212 => (if t212 = true then ((chapmanref36_clusters.f l).bind fun t213 => (chapmanref36_ChooseIn.l0 k t213 0 ([] : List (List Int)) 0 0)) else (some (([] : List (List Int)), ([] : List (S43)), 0, 1)))) ?_
  unfold chosenL
  cases hv : validL (pcs l) with
  | false => exact Evt.of fun k => rfl
  | true =>
    have hf := iterC_len l.length _ (startC_ok hv)
    have hs : (startC (pcs l)).length = l.length := by simp [startC, pcs]
    have he : chapmanref36_clusters.f l = some (refC (iterC l.length (startC (pcs l)))) := by unfold chapmanref36_clusters.f; rw [if_pos hv]
    refine Evt.congr ?_ ⟨0, fun k _ => (if_pos rfl).trans (by rw [he])⟩
    have := choose_loop (refC (iterC l.length (startC (pcs l)))) (by rw [refC_length]; omega)
    rw [refC_groups] at this
    rw [if_pos rfl]
    have hc : choose (pcs l) = groupsC (iterC l.length (startC (pcs l))) := chosen_groups hv
    rw [hc]
    exact this
end Go.Proofs.Ytckempgpaojljaa.P
end
