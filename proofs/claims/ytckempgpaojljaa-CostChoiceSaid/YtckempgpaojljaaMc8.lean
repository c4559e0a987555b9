/- Parts of a proof, laid together: Gj, Px10, Gk, Gl, Gm, Gn, Gp, Gq. -/
import Derived.Test.YtckempgpaojljaaMc7
import Derived.Test.YtckempgpaojljaaMc1
section
/- After merging the groups that are chosen there is one piece for each cluster. -/
namespace Go.Proofs.Ytckempgpaojljaa.P
set_option linter.unusedVariables false
set_option linter.unusedSimpArgs false
open Go.RowKit Go.Proofs.YtckempgpaojljaaW.PrintWords Go.Proofs.YtckempgpaojljaaW.PrintLast Go.Proofs.YtckempgpaojljaaW.PrintMore

theorem ixs_nodup (n : Nat) : (ixs n).Nodup := by
  unfold ixs List.Nodup
  rw [List.pairwise_map]
  exact List.Pairwise.imp (fun h => by omega) (List.nodup_range (n := n))
theorem mem_ixs {n : Nat} {x : Int} : x ∈ ixs n ↔ 0 ≤ x ∧ x < n := by
  unfold ixs
  rw [List.mem_map]
  constructor
  · rintro ⟨i, hi, rfl⟩
    rw [List.mem_range] at hi
    omega
  · intro h
    exact ⟨x.toNat, by rw [List.mem_range]; omega, by omega⟩
theorem PartC.nodup {n : Nat} {cs : List (List Int × Int)} (h : PartC n cs) : (∀ c ∈ cs, c.1.Nodup) ∧ cs.Pairwise fun a b => ∀ x ∈ a.1, ∀ y ∈ b.1, x ≠ y := by
  have := (h.perm.nodup_iff).2 (ixs_nodup n)
  unfold List.Nodup at this
  rw [List.pairwise_flatMap] at this
  exact this
theorem pair_uniq {α : Type} {R : α → α → Prop} {l : List α} (h : l.Pairwise R) {a b : α} (ha : a ∈ l) (hb : b ∈ l) (h1 : ¬ R a b) (h2 : ¬ R b a) : a = b := by
  induction l with
  | nil => cases ha
  | cons x l ih =>
    rw [List.pairwise_cons] at h
    rcases List.mem_cons.1 ha with e1 | ha'
    · rcases List.mem_cons.1 hb with e2 | hb'
      · rw [e1, e2]
      · rw [e1] at h1
        exact absurd (h.1 b hb') h1
    · rcases List.mem_cons.1 hb with e2 | hb'
      · rw [e2] at h2
        exact absurd (h.1 a ha') h2
      · exact ih h.2 ha' hb'
theorem PartC.uniq {n : Nat} {cs : List (List Int × Int)} (h : PartC n cs) {c d : List Int × Int} (hc : c ∈ cs) (hd : d ∈ cs) {x : Int} (hx : x ∈ c.1) (hx' : x ∈ d.1) : c = d :=
  pair_uniq h.nodup.2 hc hd (fun hr => hr x hx x hx' rfl) (fun hr => hr x hx' x hx rfl)
theorem PartC.bd {n : Nat} {cs : List (List Int × Int)} (h : PartC n cs) {c : List Int × Int} (hc : c ∈ cs) {x : Int} (hx : x ∈ c.1) : 0 ≤ x ∧ x < n := by
  have : x ∈ ixs n := h.perm.mem_iff.1 (List.mem_flatMap.2 ⟨c, hc, hx⟩)
  exact mem_ixs.1 this
theorem PartC.has {n : Nat} {cs : List (List Int × Int)} (h : PartC n cs) {k : Nat} (hk : k < n) : ∃ c ∈ cs, (k : Int) ∈ c.1 := by
  have : (k : Int) ∈ cs.flatMap fun c => c.1 := h.perm.mem_iff.2 (mem_ixs.2 (by omega))
  exact List.mem_flatMap.1 this
theorem hdC_mem {c : List Int × Int} (h : c.1 ≠ []) : hdC c ∈ c.1 := by
  unfold hdC
  cases hx : c.1 with
  | nil => exact absurd hx h
  | cons x l => simp
theorem sortI_strict {l : List Int} (h : l.Nodup) : (sortI l).Pairwise (· < ·) := by
  have h1 := sortI_sorted l
  have h2 : (sortI l).Nodup := ((sortI_perm l).nodup_iff).2 h
  exact (h1.and h2).imp (fun hab => by
    have := hab.1
    have := hab.2
    simp at *
    omega)
theorem PartC.ok {n : Nat} {cs : List (List Int × Int)} (h : PartC n cs) {c : List Int × Int} (hc : c ∈ cs) : okG n (sortI c.1) = true := by
  simp only [okG, Bool.and_eq_true, decide_eq_true_eq]
  refine ⟨incr_of _ _ (sortI_strict (h.nodup.1 c hc)) (fun x hx => ?_), ?_⟩
  · have := h.bd hc ((sortI_perm _).mem_iff.1 hx)
    omega
  · rw [sortI_length]
    exact List.length_pos_iff.2 (h.ne c hc)
theorem PartC.first {n : Nat} {cs : List (List Int × Int)} (h : PartC n cs) {c : List Int × Int} (hc : c ∈ cs) : (sortI c.1).getD 0 0 = hdC c := by
  have hm : hdC c ∈ sortI c.1 := (sortI_perm _).mem_iff.2 (hdC_mem (h.ne c hc))
  have hs := sortI_sorted c.1
  have hall : ∀ x ∈ sortI c.1, hdC c ≤ x := fun x hx => h.min c hc x ((sortI_perm _).mem_iff.1 hx)
  cases he : sortI c.1 with
  | nil => rw [he] at hm; cases hm
  | cons x l =>
    rw [he] at hm hs hall
    have h1 := hall x (by simp)
    rw [List.pairwise_cons] at hs
    show x = hdC c
    rcases List.mem_cons.1 hm with e | e
    · exact e.symm
    · have := hs.1 _ e
      simp at this
      omega

theorem groupsC_mem {cs : List (List Int × Int)} {g : List Int} : g ∈ groupsC cs ↔ ∃ c ∈ cs, 1 < c.1.length ∧ sortI c.1 = g := by
  unfold groupsC
  simp only [List.mem_map, List.mem_filter, decide_eq_true_eq, and_assoc]
theorem after_part (l : List S59) (cs : List (List Int × Int)) (h : PartC l.length cs) : afterL l (groupsC cs) = some (cs.map fun c => sumC l c.1) := by
  have hdis : (groupsC cs).Pairwise (fun a b => ∀ x ∈ a, ∀ y ∈ b, x ≠ y) := by
    unfold groupsC
    rw [List.pairwise_map]
    refine List.Pairwise.imp ?_ (h.nodup.2.filter _)
    intro a b hab x hx y hy
    exact hab x ((sortI_perm _).mem_iff.1 hx) y ((sortI_perm _).mem_iff.1 hy)
  obtain ⟨ow, e, hl, hk⟩ := owners_ok l.length (groupsC cs) (List.replicate l.length []) (by simp) (fun g hg => by
    obtain ⟨c, hc, _, rfl⟩ := groupsC_mem.1 hg
    exact h.ok hc) hdis (fun g hg i hi => by simp [List.getD_eq_getElem?_getD, List.getElem?_replicate]; split <;> rfl)
  unfold afterL
  rw [e, Option.map_some]
  congr 1
  have hf := heads_flat (fun c => sumC l c.1) l.length 0 cs h.heads (fun c hc => by
    have := h.bd hc (hdC_mem (h.ne c hc))
    omega)
  rw [← hf, ← List.range_eq_range']
  unfold aftK
  rw [List.flatMap_def, List.flatMap_def]
  congr 1
  apply List.map_congr_left
  intro k hk2
  rw [List.mem_range] at hk2
  obtain ⟨c, hc, hkc⟩ := h.has hk2
  have hrep : (List.replicate l.length ([] : List Int)).getD k [] = [] := by simp [List.getD_eq_getElem?_getD, List.getElem?_replicate]; split <;> rfl
  have hfind : (cs.find? fun d => decide (hdC d = (k : Int))) = if hdC c = (k : Int) then some c else none := by
    by_cases e1 : hdC c = (k : Int)
    · rw [if_pos e1]
      cases hx : cs.find? fun d => decide (hdC d = (k : Int)) with
      | none =>
        rw [List.find?_eq_none] at hx
        exact absurd (by simpa using e1) (hx c hc)
      | some d =>
        have h1 := List.find?_some hx
        have h2 := List.mem_of_find?_eq_some hx
        simp at h1
        rw [h.uniq h2 hc (x := (k : Int)) (by rw [← h1]; exact hdC_mem (h.ne d h2)) hkc]
    · rw [if_neg e1, List.find?_eq_none]
      intro d hd hdk
      simp at hdk
      have := h.uniq hd hc (x := (k : Int)) (by rw [← hdk]; exact hdC_mem (h.ne d hd)) hkc
      subst this
      exact e1 hdk
  rw [hfind]
  unfold aftP
  rw [hk k, hrep]
  by_cases hlen : 1 < c.1.length
  · have hg : ∃ g ∈ groupsC cs, (k : Int) ∈ g := ⟨sortI c.1, groupsC_mem.2 ⟨c, hc, hlen, rfl⟩, (sortI_perm _).mem_iff.2 hkc⟩
    have hgo : groupOf (groupsC cs) k = sortI c.1 := by
      unfold groupOf
      cases hx : (groupsC cs).find? fun g => decide ((k : Int) ∈ g) with
      | none =>
        rw [List.find?_eq_none] at hx
        obtain ⟨g, hg1, hg2⟩ := hg
        exact absurd (by simpa using hg2) (hx g hg1)
      | some g =>
        have h1 := List.find?_some hx
        have h2 := List.mem_of_find?_eq_some hx
        simp at h1
        obtain ⟨d, hd, _, rfl⟩ := groupsC_mem.1 h2
        rw [h.uniq hd hc ((sortI_perm _).mem_iff.1 h1) hkc]
        rfl
    rw [if_pos hg, hgo, List.isEmpty_eq_false_iff.2 (by rw [← List.length_pos_iff, sortI_length]; omega), if_neg (by decide), h.first hc]
    by_cases e1 : hdC c = (k : Int)
    · rw [if_pos e1, if_pos e1]
      show [sumC l (sortI c.1)] = [sumC l c.1]
      rw [sumC_perm (sortI_perm _)]
    · rw [if_neg e1, if_neg e1]
      rfl
  · have hg : ¬ ∃ g ∈ groupsC cs, (k : Int) ∈ g := by
      rintro ⟨g, hg1, hg2⟩
      obtain ⟨d, hd, hdl, rfl⟩ := groupsC_mem.1 hg1
      have := h.uniq hd hc ((sortI_perm _).mem_iff.1 hg2) hkc
      subst this
      exact hlen hdl
    have hc1 : c.1 = [(k : Int)] := by
      match hcc : c.1, hkc, hlen with
      | [x], hkc, _ => simp at hkc; rw [hkc]
      | x :: y :: r, _, hlen => exact absurd (by simp) hlen
    have hhd : hdC c = (k : Int) := by unfold hdC; rw [hc1]; rfl
    rw [if_neg hg, if_pos hhd]
    show [rd_T59 l (k : Int)] = [sumC l c.1]
    rw [hc1]
    simp [sumC, sumG]
end Go.Proofs.Ytckempgpaojljaa.P
end
section
namespace Go.Proofs.Ytckempgpaojljaa.P
open Go.RowKit Go.Proofs.YtckempgpaojljaaW.PrintWords Go.Proofs.YtckempgpaojljaaW.PrintLast Go.Proofs.YtckempgpaojljaaW.PrintMore
attribute [local go_sem] max2_int min2_int max_two min_two max_three min_three max_four min_four   -- for this text's walks alone
set_option linter.unusedVariables false
set_option linter.unusedSimpArgs false

-- NOT PRINTED: function 3 (chapmanlaw36_CostMatchesReference)

/-! ### chapmanlaw36_total: function 27 -/
def chapmanlaw36_total.l0 : Nat → List (S43) → Int → Int → Int → Option (Int × Int)
  | 0, _, _, _, _ => none
  | k + 1, x0, x4, x304000, x304001 => if x4 < (x0.length : Int) then (if 0 ≤ x4 then (chapmanlaw36_total.l0 k x0 (wrap64 (x4 + 1)) (wrap64 (x304000 + ((rd_T43 x0 x4).f0))) (wrap64 (x304001 + ((rd_T43 x0 x4).f1)))) else (none)) else (some (x304000, x304001))
def chapmanlaw36_total.f (k : Nat) (l0 : List (S43)) : Option (Int × Int) := chapmanlaw36_total.l0 k l0 0 0 0
theorem chapmanlaw36_total.mono_l : ∀ k, (∀ y0 y1 y2 y3, LeO (chapmanlaw36_total.l0 k y0 y1 y2 y3) (chapmanlaw36_total.l0 (k + 1) y0 y1 y2 y3))
  | 0 => fun _ _ _ _ r h => by simp [chapmanlaw36_total.l0] at h
  | k + 1 => by
    have ih0 := chapmanlaw36_total.mono_l k
    · intro y0 y1 y2 y3
      unfold chapmanlaw36_total.l0
      repeat' first
      | (with_reducible exact ih0 _ _ _ _)
      | (with_reducible exact LeO.refl _)
      | (with_reducible exact LeO.none _)
      | (with_reducible refine LeO.ite ?_ ?_)
      | (with_reducible refine LeO.bind ?_ (fun _ => ?_))
      | exact ih0 _ _ _ _
      | exact LeO.none _
      | refine LeO.ite ?_ ?_
      | refine LeO.bind ?_ (fun _ => ?_)
theorem chapmanlaw36_total.mono : ∀ a0 k, LeO (chapmanlaw36_total.f k a0) (chapmanlaw36_total.f (k + 1) a0) := by
  intro a0 k
  have ih0 := chapmanlaw36_total.mono_l k
  unfold chapmanlaw36_total.f
  repeat' first
      | (with_reducible exact ih0 _ _ _ _)
      | (with_reducible exact LeO.refl _)
      | (with_reducible exact LeO.none _)
      | (with_reducible refine LeO.ite ?_ ?_)
      | (with_reducible refine LeO.bind ?_ (fun _ => ?_))
      | exact ih0 _ _ _ _
      | exact LeO.none _
      | refine LeO.ite ?_ ?_
      | refine LeO.bind ?_ (fun _ => ?_)
def chapmanlaw36_total.T5 : Bool × List (List Nat × List Nat) := (true, [([], []), ([0], [0]), ([], []), ([], []), ([2, 3], [2, 3]), ([4], [4]), ([5], [5]), ([1, 6], [1, 6]), ([0, 1, 2, 3, 4, 5, 6, 7], []), ([8, 7, 0, 1, 2, 3, 4, 5, 6, 7], [7, 8])])
def chapmanlaw36_total.B5 : List Nat := [0, 1, 0, 0, 12, 28, 60, 127, 255, 511]
theorem chapmanlaw36_total.tab5 : rtab .any (opsOf Try.f27 5) = chapmanlaw36_total.T5 := by kernel_rfl
theorem chapmanlaw36_total.bits5 : waitsOk chapmanlaw36_total.T5.2 chapmanlaw36_total.B5 = true := by kernel_rfl
def chapmanlaw36_total.T6 : Bool × List (List Nat × List Nat) := (true, [([], []), ([0], [0]), ([], []), ([], []), ([2, 3], [2, 3]), ([4], [4]), ([5], [5]), ([1, 6], [1, 6]), ([0, 1, 2, 3, 4, 5, 6, 7], []), ([8, 7, 0, 1, 2, 3, 4, 5, 6, 7], [7, 8])])
def chapmanlaw36_total.B6 : List Nat := [0, 1, 0, 0, 12, 28, 60, 127, 255, 511]
theorem chapmanlaw36_total.tab6 : rtab .any (opsOf Try.f27 6) = chapmanlaw36_total.T6 := by kernel_rfl
theorem chapmanlaw36_total.bits6 : waitsOk chapmanlaw36_total.T6.2 chapmanlaw36_total.B6 = true := by kernel_rfl
set_option maxHeartbeats 8000000 in
set_option maxRecDepth 100000 in
theorem chapmanlaw36_total.calls (k : Nat) (A0 : Option Addr) (c0 : Nat) (l0 : List (S43)) (r1 : Int) (r2 : Int) (w : World) (hr0 : Kd.C k43 w A0 l0.length l0) (hc0 : l0.length ≤ c0) (h : chapmanlaw36_total.f k l0 = some (r1, r2)) :
    Calls Try.prog 27 #[.slice A0 l0.length c0] w fun e w' => e = .returned (.agg #[.int .i64 r1, .int .i64 r2]) ∧ Below w.heap.size w w' := by
  have hu43 := Try.underlying43
  have HR0 := Aside0.mk hr0
  have HC0 := Aside0.mk hc0
  clear hr0 hc0
  have HB := Aside0.mk (Below.refl w.heap.size w)
  have H : (chapmanlaw36_total.l0 k l0 0 0 0) = some (r1, r2) := h
  clear h
  have H' := Aside0.mk H
  clear H
  go_enter Try.func27, Try.ntmps27
  go_wp2_with (first | ((with_reducible refine gate_dst (N := 2) rfl ?_); refine box_event ?hg (N := 2) ?hd (cs := #[.int .i64 0, .int .i64 0]) (t := 43) ?hr ?_; (case hd => rfl); (case hg => rfl); (case hr => first | (go_simp; done) | (go_simp; rfl)); intro gb302 hg w2 hbox hb; have n0_ := Aside0.mk (below_step (by repeat (first | (with_reducible first | exact HB.out | apply below_alloc | apply pw_below_drewN | apply below_drew1) | exact HB.out)) hb); have n1_ := Aside0.mk (hbox); have n2_ := Aside0.mk ((by rw [hg]; exact (below_size (by repeat (first | (with_reducible first | exact HB.out | apply below_alloc | apply pw_below_drewN | apply below_drew1) | exact HB.out))) : w.heap.size ≤ gb302)); have n3_ := Aside0.mk ((by rw [hg]; exact (below_size (by repeat (first | (with_reducible first | exact HB.out | apply below_alloc | apply pw_below_drewN | apply below_drew1) | exact HB.out))) : w.heap.size ≤ gb302)); clear HB; have HB := n0_; have BK302 := n1_; have GW302 := n2_; have GE302 := n3_; clear n0_ n1_ n2_ n3_; clear hb hbox hg) | ((with_reducible refine gate_dst (N := 3) rfl ?_); refine box_event ?hg (N := 3) ?hd (cs := #[.int .i64 0, .int .i64 0]) (t := 43) ?hr ?_; (case hd => rfl); (case hg => rfl); (case hr => first | (go_simp; done) | (go_simp; rfl)); intro gb303 hg w3 hbox hb; have n0_ := Aside0.mk (blk_below (g := gb302) (o := .cells #[.int .i64 0, .int .i64 0] 43 (0, 0)) (by (with_reducible repeat (first | refine blk_drewN ?_ _ | refine blk_drew ?_ | refine blk_alloc ?_ _)); exact BK302.out) hb); have n1_ := Aside0.mk (below_step (by repeat (first | (with_reducible first | exact HB.out | apply below_alloc | apply pw_below_drewN | apply below_drew1 | refine below_set ?_ GE302.out) | exact HB.out)) hb); have n2_ := Aside0.mk (hbox); have n3_ := Aside0.mk ((by rw [hg]; exact (below_size (by repeat (first | (with_reducible first | exact HB.out | apply below_alloc | apply pw_below_drewN | apply below_drew1 | refine below_set ?_ GE302.out) | exact HB.out))) : w.heap.size ≤ gb303)); have n4_ := Aside0.mk ((by rw [hg]; exact (below_size (by repeat (first | (with_reducible first | exact HB.out | apply below_alloc | apply pw_below_drewN | apply below_drew1 | refine below_set ?_ GE302.out) | exact HB.out))) : w.heap.size ≤ gb303)); have n5_ := Aside0.mk ((by rw [hg]; exact Nat.ne_of_lt (blk_lt (g := gb302) (o := .cells #[.int .i64 0, .int .i64 0] 43 (0, 0)) (by (with_reducible repeat (first | refine blk_drewN ?_ _ | refine blk_drew ?_ | refine blk_alloc ?_ _)); exact BK302.out)) : gb302 ≠ gb303)); have n6_ := Aside0.mk ((by rw [hg]; exact Nat.ne_of_gt (blk_lt (g := gb302) (o := .cells #[.int .i64 0, .int .i64 0] 43 (0, 0)) (by (with_reducible repeat (first | refine blk_drewN ?_ _ | refine blk_drew ?_ | refine blk_alloc ?_ _)); exact BK302.out)) : gb303 ≠ gb302)); clear BK302; clear HB; have BK302 := n0_; have HB := n1_; have BK303 := n2_; have GW303 := n3_; have GE303 := n4_; have NB302_303 := n5_; have NB303_302 := n6_; clear n0_ n1_ n2_ n3_ n4_ n5_ n6_; clear hb hbox hg; have hnb4 := NB303_302.out; have hnc4 := NB302_303.out; have hcz5_0 : w3.cell? ⟨gb303, 0, none⟩ = some (.int .i64 0) := (blk_cell BK303.out 0).trans rfl; have hcz5_1 : w3.cell? ⟨gb303, 1, none⟩ = some (.int .i64 0) := (blk_cell BK303.out 1).trans rfl; have hfz5_0 := blk_frozen BK303.out 0; have hfz5_1 := blk_frozen BK303.out 1))
  go_loopg [4] k (fun kq v4 w' => ∃ (x4_1 : Int) (x304000_1 : Int) (x304001_1 : Int), v4 = .int .i64 x4_1 ∧ Aside0 (chapmanlaw36_total.l0 kq l0 x4_1 x304000_1 x304001_1 = some (r1, r2)) ∧ Aside0 (kq ≤ k) ∧ Aside0 (w'.heap[gb302]? = some (.cells #[.int .i64 0, .int .i64 0] 43 (0, 0))) ∧ Aside0 (w'.heap[gb303]? = some (.cells #[.int .i64 x304000_1, .int .i64 x304001_1] 43 (0, 0))) ∧ Aside0 (Below w.heap.size w w'))
  case atStart => exact ⟨(0), (0), (0), (by first | rfl | (simp; done) | (simp [*]; done)), H', ⟨Nat.le_refl _⟩, ⟨by (with_reducible repeat (first | refine blk_drewN ?_ _ | refine blk_drew ?_ | refine blk_alloc ?_ _)); refine blk_far ?_ NB302_303.out _; (with_reducible repeat (first | refine blk_drewN ?_ _ | refine blk_drew ?_ | refine blk_alloc ?_ _)); refine blk_far ?_ NB302_303.out _; (with_reducible repeat (first | refine blk_drewN ?_ _ | refine blk_drew ?_ | refine blk_alloc ?_ _)); exact BK302.out⟩, ⟨by (with_reducible repeat (first | refine blk_drewN ?_ _ | refine blk_drew ?_ | refine blk_alloc ?_ _)); refine blk_put (cs := #[.int .i64 0, .int .i64 0]) ?_ 1 _ rfl; (with_reducible repeat (first | refine blk_drewN ?_ _ | refine blk_drew ?_ | refine blk_alloc ?_ _)); refine blk_put (cs := #[.int .i64 0, .int .i64 0]) ?_ 0 _ rfl; (with_reducible repeat (first | refine blk_drewN ?_ _ | refine blk_drew ?_ | refine blk_alloc ?_ _)); exact BK303.out⟩, ⟨by repeat (first | (with_reducible first | exact HB.out | apply below_alloc | apply pw_below_drewN | apply below_drew1 | refine below_set ?_ GE302.out | refine below_set ?_ GE303.out) | exact HB.out)⟩⟩
  case round =>
    clear H'
    try clear c2
    try clear p2
    try clear c4
    try clear hcz5_0
    try clear hcz5_1
    try clear hfz5_0
    try clear hfz5_1
    obtain ⟨x4_1, x304000_1, x304001_1, rfl, HA, HK1, BK302, BK303, HB⟩ := hrel
    cases gk with
    | zero => exact absurd HA.out (by simp [chapmanlaw36_total.l0])
    | succ k1 =>
      have H := HA.out
      clear HA
      simp only [chapmanlaw36_total.l0] at H
      by_cases c6 : x4_1 < (l0.length : Int)
      · rw [if_pos c6] at H
        have c6b0 : decide (x4_1 < (l0.length : Int)) = true := decide_eq_true c6
        clear c6
        by_cases c7 : 0 ≤ x4_1
        · rw [if_pos c7] at H
          have c7b0 : decide (0 ≤ x4_1) = true := decide_eq_true c7
          clear c7
          have H' := Aside0.mk H
          clear H
          try go_wp2
          have n0_ := Aside0.mk (blk_drew BK302.out)
          have n1_ := Aside0.mk (blk_drew BK303.out)
          have n2_ := Aside0.mk (below_drew1 HB.out)
          clear BK302
          clear BK303
          clear HB
          have BK302 := n0_
          have BK303 := n1_
          have HB := n2_
          clear n0_ n1_ n2_
          have p304 : 0 ≤ (x4_1 : Int) := of_decide_eq_true (by first | (with_reducible assumption) | assumption)
          have q304 : x4_1 < (l0.length : Int) := of_decide_eq_true (by first | (with_reducible assumption) | assumption)
          obtain ⟨ad304, e304, hx304_0, hx304_1⟩ := at_T43 HR0.out x4_1 p304 q304
          have hw304_1 := hx304_1
          have hw304_0 := hx304_0
          cases e304
          replace hx304_0 := (HB.out.cell (World.block_lt_of_cell? w _ hx304_0)).trans hx304_0
          replace hx304_1 := (HB.out.cell (World.block_lt_of_cell? w _ hx304_1)).trans hx304_1
          replace p304 := eq_true p304
          replace q304 := eq_true q304
          refine start_ (n := 10) (S := fun w' => w'.cell? ⟨gb303, 0, none⟩ = some (.int .i64 x304000_1) ∧ w'.cell? ⟨gb303, 1, none⟩ = some (.int .i64 x304001_1) ∧ w'.cell? (ad304.add ((x4_1).toNat * 2)) = some (.int .i64 ((rd_T43 l0 x4_1).f0)) ∧ w'.cell? ⟨(ad304.add ((x4_1).toNat * 2)).block, (ad304.add ((x4_1).toNat * 2)).off + 1, none⟩ = some (.int .i64 ((rd_T43 l0 x4_1).f1))) (ds := [9]) #[false, false, false, false, false, false, false, false, false, false] (by kernel_rfl) rfl rfl ⟨(blk_cell BK303.out 0).trans rfl, (blk_cell BK303.out 1).trans rfl, ((HB.out.cell (World.block_lt_of_cell? w _ hw304_0)).trans hw304_0), ((HB.out.cell (World.block_lt_of_cell? w _ hw304_1)).trans hw304_1)⟩ (fun hHeld => ?_); refine with_tabW chapmanlaw36_total.tab5 chapmanlaw36_total.bits5 (fun HT_ HW_ => ?_)
          generalize wr.drew = w8 at BK302 BK303 HB hx304_0 hx304_1 hHeld ⊢
          refine pure_ (i := 0) (N := some 12) (v := ?_) (a' := ?_) #[true, false, false, false, false, false, false, false, false, false] rfl rfl (any_of HT_.out (by kernel_rfl)) (fun _ _ _ h => h) (Or.inl ⟨by rfl, ?_⟩) ?_ ?_
          rotate_left
          · intro w'
            go_simp
            with_reducible rfl
          rotate_left
          · simp only [Act.put, List.setIfInBounds_toArray, List.set_cons_zero, List.set_cons_succ, i64_w, i32_w]
            rfl
          refine pure_ (i := 2) (N := some 14) (v := ?_) (a' := ?_) #[true, false, true, false, false, false, false, false, false, false] rfl rfl (any_of HT_.out (by kernel_rfl)) (fun _ _ _ h => h) (Or.inl ⟨by rfl, ?_⟩) ?_ ?_
          rotate_left
          · intro w'
            go_simp
            with_reducible rfl
          rotate_left
          · simp only [Act.put, List.setIfInBounds_toArray, List.set_cons_zero, List.set_cons_succ, i64_w, i32_w]
            rfl
          refine pure_ (i := 3) (N := some 15) (v := ?_) (a' := ?_) #[true, false, true, true, false, false, false, false, false, false] rfl rfl (any_of HT_.out (by kernel_rfl)) (fun _ _ _ h => h) (Or.inl ⟨by rfl, ?_⟩) ?_ ?_
          rotate_left
          · intro w'
            go_simp
            with_reducible rfl
          rotate_left
          · simp only [Act.put, List.setIfInBounds_toArray, List.set_cons_zero, List.set_cons_succ, i64_w, i32_w]
            rfl
          refine pure_ (i := 4) (N := some 16) (v := ?_) (a' := ?_) #[true, false, true, true, true, false, false, false, false, false] rfl rfl (any_of HT_.out (by kernel_rfl)) (fun _ _ _ h => h) (Or.inl ⟨by rfl, ?_⟩) ?_ ?_
          rotate_left
          · intro w'
            go_simp
            with_reducible rfl
          rotate_left
          · simp only [Act.put, List.setIfInBounds_toArray, List.set_cons_zero, List.set_cons_succ, i64_w, i32_w]
            rfl
          refine pure_ (i := 5) (N := some 17) (v := ?_) (a' := ?_) #[true, false, true, true, true, true, false, false, false, false] rfl rfl (any_of HT_.out (by kernel_rfl)) (fun _ _ _ h => h) (Or.inl ⟨by rfl, ?_⟩) ?_ ?_
          rotate_left
          · intro w'
            go_simp
            with_reducible rfl
          rotate_left
          · simp only [Act.put, List.setIfInBounds_toArray, List.set_cons_zero, List.set_cons_succ, i64_w, i32_w]
            rfl
          refine take_ (i := 1) (N := some 13) (v := ?_) (a' := ?_) #[true, true, true, true, true, true, false, false, false, false] rfl rfl (take_ofW HT_.out HW_.out (by kernel_rfl)) (fun _ _ _ h => h) (Or.inl ⟨by rfl, ?_⟩) hHeld ?_ ?_
          rotate_left
          · rintro w' ⟨s0, s1, s2, s3⟩
            go_simp
            with_reducible rfl
          rotate_left
          · simp only [Act.put, List.setIfInBounds_toArray, List.set_cons_zero, List.set_cons_succ, i64_w, i32_w]
            rfl
          refine take_ (i := 6) (N := some 18) (v := ?_) (a' := ?_) #[true, true, true, true, true, true, true, false, false, false] rfl rfl (take_ofW HT_.out HW_.out (by kernel_rfl)) (fun _ _ _ h => h) (Or.inl ⟨by rfl, ?_⟩) hHeld ?_ ?_
          rotate_left
          · rintro w' ⟨s0, s1, s2, s3⟩
            go_simp
            with_reducible rfl
          rotate_left
          · simp only [Act.put, List.setIfInBounds_toArray, List.set_cons_zero, List.set_cons_succ, i64_w, i32_w]
            rfl
          refine pure_ (i := 7) (N := some 19) (v := ?_) (a' := ?_) #[true, true, true, true, true, true, true, true, false, false] rfl rfl (any_of HT_.out (by kernel_rfl)) (fun _ _ _ h => h) (Or.inl ⟨by rfl, ?_⟩) ?_ ?_
          rotate_left
          · intro w'
            go_simp
            with_reducible rfl
          rotate_left
          · simp only [Act.put, List.setIfInBounds_toArray, List.set_cons_zero, List.set_cons_succ, i64_w, i32_w]
            rfl
          refine pure_ (i := 8) (N := some 20) (v := ?_) (a' := ?_) #[true, true, true, true, true, true, true, true, true, false] rfl rfl (any_of HT_.out (by kernel_rfl)) (fun _ _ _ h => h) (Or.inl ⟨by rfl, ?_⟩) ?_ ?_
          rotate_left
          · intro w'
            go_simp
            with_reducible rfl
          rotate_left
          · simp only [Act.put, List.setIfInBounds_toArray, List.set_cons_zero, List.set_cons_succ, i64_w, i32_w]
            rfl
          refine last_ (i := 9) (N := none) #[true, true, true, true, true, true, true, true, true, true] rfl rfl (one_of HT_.out (by kernel_rfl)) (by decide) (fun K hK => ?_)
          have hs9 : w8.cell? ⟨gb303, 0, none⟩ = some (.int .i64 x304000_1) := (blk_cell BK303.out 0).trans rfl
          have hfs9 := blk_frozen BK303.out 0
          have hns9_0 := NB302_303.out
          have hms9_0 := NB303_302.out
          refine skip_ (w1 := ?_) (by rfl) rfl ?_ ?_
          rotate_left
          · go_simp
            rfl
          refine hK.out _ _ ?_
          clear hK K
          refine done_ (done_of HT_.out (by kernel_rfl)) ?_
          try go_wp2
          have n0_ : Aside0 ((w8.setCell ⟨gb303, 0, none⟩ (.int .i64 (wrap64 (x304000_1 + ((rd_T43 l0 x4_1).f0))))).heap[gb302]? = some (.cells #[.int .i64 0, .int .i64 0] 43 (0, 0))) := ⟨by (with_reducible repeat (first | refine blk_drewN ?_ _ | refine blk_drew ?_ | refine blk_alloc ?_ _)); refine blk_far ?_ NB302_303.out _; (with_reducible repeat (first | refine blk_drewN ?_ _ | refine blk_drew ?_ | refine blk_alloc ?_ _)); exact BK302.out⟩
          have n1_ : Aside0 ((w8.setCell ⟨gb303, 0, none⟩ (.int .i64 (wrap64 (x304000_1 + ((rd_T43 l0 x4_1).f0))))).heap[gb303]? = some (.cells #[.int .i64 (wrap64 (x304000_1 + ((rd_T43 l0 x4_1).f0))), .int .i64 x304001_1] 43 (0, 0))) := ⟨by (with_reducible repeat (first | refine blk_drewN ?_ _ | refine blk_drew ?_ | refine blk_alloc ?_ _)); refine blk_put (cs := #[.int .i64 x304000_1, .int .i64 x304001_1]) ?_ 0 _ rfl; (with_reducible repeat (first | refine blk_drewN ?_ _ | refine blk_drew ?_ | refine blk_alloc ?_ _)); exact BK303.out⟩
          have n2_ : Aside0 (Below w.heap.size w (w8.setCell ⟨gb303, 0, none⟩ (.int .i64 (wrap64 (x304000_1 + ((rd_T43 l0 x4_1).f0)))))) := ⟨by repeat (first | (with_reducible first | exact HB.out | apply below_alloc | apply pw_below_drewN | apply below_drew1 | refine below_set ?_ GE302.out | refine below_set ?_ GE303.out) | exact HB.out)⟩
          (try clear BK302)
          (try clear BK303)
          (try clear HB)
          generalize (w8.setCell ⟨gb303, 0, none⟩ (.int .i64 (wrap64 (x304000_1 + ((rd_T43 l0 x4_1).f0))))) = w10 at n0_ n1_ n2_ ⊢
          have BK302 := n0_
          have BK303 := n1_
          have HB := n2_
          clear n0_ n1_ n2_
          have n0_ := Aside0.mk (blk_drew BK302.out)
          have n1_ := Aside0.mk (blk_drew BK303.out)
          have n2_ := Aside0.mk (below_drew1 HB.out)
          clear BK302
          clear BK303
          clear HB
          have BK302 := n0_
          have BK303 := n1_
          have HB := n2_
          clear n0_ n1_ n2_
          have p305 : 0 ≤ (x4_1 : Int) := of_decide_eq_true (by first | (with_reducible assumption) | assumption)
          have q305 : x4_1 < (l0.length : Int) := of_decide_eq_true (by first | (with_reducible assumption) | assumption)
          obtain ⟨ad305, e305, hx305_0, hx305_1⟩ := at_T43 HR0.out x4_1 p305 q305
          have hw305_1 := hx305_1
          have hw305_0 := hx305_0
          obtain rfl : ad304 = ad305 := (by injection e305)
          replace hx305_0 := (HB.out.cell (World.block_lt_of_cell? w _ hx305_0)).trans hx305_0
          replace hx305_1 := (HB.out.cell (World.block_lt_of_cell? w _ hx305_1)).trans hx305_1
          replace p305 := eq_true p305
          replace q305 := eq_true q305
          refine start_ (n := 10) (S := fun w' => w'.cell? ⟨gb303, 0, none⟩ = some (.int .i64 (wrap64 (x304000_1 + ((rd_T43 l0 x4_1).f0)))) ∧ w'.cell? ⟨gb303, 1, none⟩ = some (.int .i64 x304001_1) ∧ w'.cell? (ad304.add ((x4_1).toNat * 2)) = some (.int .i64 ((rd_T43 l0 x4_1).f0)) ∧ w'.cell? ⟨(ad304.add ((x4_1).toNat * 2)).block, (ad304.add ((x4_1).toNat * 2)).off + 1, none⟩ = some (.int .i64 ((rd_T43 l0 x4_1).f1))) (ds := [9]) #[false, false, false, false, false, false, false, false, false, false] (by kernel_rfl) rfl rfl ⟨(blk_cell BK303.out 0).trans rfl, (blk_cell BK303.out 1).trans rfl, ((HB.out.cell (World.block_lt_of_cell? w _ hw305_0)).trans hw305_0), ((HB.out.cell (World.block_lt_of_cell? w _ hw305_1)).trans hw305_1)⟩ (fun hHeld => ?_); refine with_tabW chapmanlaw36_total.tab6 chapmanlaw36_total.bits6 (fun HT_ HW_ => ?_)
          generalize w10.drew = w11 at BK302 BK303 HB hx305_0 hx305_1 hHeld ⊢
          refine pure_ (i := 0) (N := some 21) (v := ?_) (a' := ?_) #[true, false, false, false, false, false, false, false, false, false] rfl rfl (any_of HT_.out (by kernel_rfl)) (fun _ _ _ h => h) (Or.inl ⟨by rfl, ?_⟩) ?_ ?_
          rotate_left
          · intro w'
            go_simp
            with_reducible rfl
          rotate_left
          · simp only [Act.put, List.setIfInBounds_toArray, List.set_cons_zero, List.set_cons_succ, i64_w, i32_w]
            rfl
          refine pure_ (i := 2) (N := some 23) (v := ?_) (a' := ?_) #[true, false, true, false, false, false, false, false, false, false] rfl rfl (any_of HT_.out (by kernel_rfl)) (fun _ _ _ h => h) (Or.inl ⟨by rfl, ?_⟩) ?_ ?_
          rotate_left
          · intro w'
            go_simp
            with_reducible rfl
          rotate_left
          · simp only [Act.put, List.setIfInBounds_toArray, List.set_cons_zero, List.set_cons_succ, i64_w, i32_w]
            rfl
          refine pure_ (i := 3) (N := some 24) (v := ?_) (a' := ?_) #[true, false, true, true, false, false, false, false, false, false] rfl rfl (any_of HT_.out (by kernel_rfl)) (fun _ _ _ h => h) (Or.inl ⟨by rfl, ?_⟩) ?_ ?_
          rotate_left
          · intro w'
            go_simp
            with_reducible rfl
          rotate_left
          · simp only [Act.put, List.setIfInBounds_toArray, List.set_cons_zero, List.set_cons_succ, i64_w, i32_w]
            rfl
          refine pure_ (i := 4) (N := some 25) (v := ?_) (a' := ?_) #[true, false, true, true, true, false, false, false, false, false] rfl rfl (any_of HT_.out (by kernel_rfl)) (fun _ _ _ h => h) (Or.inl ⟨by rfl, ?_⟩) ?_ ?_
          rotate_left
          · intro w'
            go_simp
            with_reducible rfl
          rotate_left
          · simp only [Act.put, List.setIfInBounds_toArray, List.set_cons_zero, List.set_cons_succ, i64_w, i32_w]
            rfl
          refine pure_ (i := 5) (N := some 26) (v := ?_) (a' := ?_) #[true, false, true, true, true, true, false, false, false, false] rfl rfl (any_of HT_.out (by kernel_rfl)) (fun _ _ _ h => h) (Or.inl ⟨by rfl, ?_⟩) ?_ ?_
          rotate_left
          · intro w'
            go_simp
            with_reducible rfl
          rotate_left
          · simp only [Act.put, List.setIfInBounds_toArray, List.set_cons_zero, List.set_cons_succ, i64_w, i32_w]
            rfl
          refine take_ (i := 1) (N := some 22) (v := ?_) (a' := ?_) #[true, true, true, true, true, true, false, false, false, false] rfl rfl (take_ofW HT_.out HW_.out (by kernel_rfl)) (fun _ _ _ h => h) (Or.inl ⟨by rfl, ?_⟩) hHeld ?_ ?_
          rotate_left
          · rintro w' ⟨s0, s1, s2, s3⟩
            go_simp
            with_reducible rfl
          rotate_left
          · simp only [Act.put, List.setIfInBounds_toArray, List.set_cons_zero, List.set_cons_succ, i64_w, i32_w]
            rfl
          refine take_ (i := 6) (N := some 27) (v := ?_) (a' := ?_) #[true, true, true, true, true, true, true, false, false, false] rfl rfl (take_ofW HT_.out HW_.out (by kernel_rfl)) (fun _ _ _ h => h) (Or.inl ⟨by rfl, ?_⟩) hHeld ?_ ?_
          rotate_left
          · rintro w' ⟨s0, s1, s2, s3⟩
            go_simp
            with_reducible rfl
          rotate_left
          · simp only [Act.put, List.setIfInBounds_toArray, List.set_cons_zero, List.set_cons_succ, i64_w, i32_w]
            rfl
          refine pure_ (i := 7) (N := some 28) (v := ?_) (a' := ?_) #[true, true, true, true, true, true, true, true, false, false] rfl rfl (any_of HT_.out (by kernel_rfl)) (fun _ _ _ h => h) (Or.inl ⟨by rfl, ?_⟩) ?_ ?_
          rotate_left
          · intro w'
            go_simp
            with_reducible rfl
          rotate_left
          · simp only [Act.put, List.setIfInBounds_toArray, List.set_cons_zero, List.set_cons_succ, i64_w, i32_w]
            rfl
          refine pure_ (i := 8) (N := some 29) (v := ?_) (a' := ?_) #[true, true, true, true, true, true, true, true, true, false] rfl rfl (any_of HT_.out (by kernel_rfl)) (fun _ _ _ h => h) (Or.inl ⟨by rfl, ?_⟩) ?_ ?_
          rotate_left
          · intro w'
            go_simp
            with_reducible rfl
          rotate_left
          · simp only [Act.put, List.setIfInBounds_toArray, List.set_cons_zero, List.set_cons_succ, i64_w, i32_w]
            rfl
          refine last_ (i := 9) (N := none) #[true, true, true, true, true, true, true, true, true, true] rfl rfl (one_of HT_.out (by kernel_rfl)) (by decide) (fun K hK => ?_)
          have hs12 : w11.cell? ⟨gb303, 1, none⟩ = some (.int .i64 x304001_1) := (blk_cell BK303.out 1).trans rfl
          have hfs12 := blk_frozen BK303.out 1
          have hns12_0 := NB302_303.out
          have hms12_0 := NB303_302.out
          refine skip_ (w1 := ?_) (by rfl) rfl ?_ ?_
          rotate_left
          · go_simp
            rfl
          refine hK.out _ _ ?_
          clear hK K
          refine done_ (done_of HT_.out (by kernel_rfl)) ?_
          try go_wp2
          go_roundg k1
          case measure => have := HK1.out; omega
          case rel => exact ⟨(wrap64 (x4_1 + 1)), (wrap64 (x304000_1 + ((rd_T43 l0 x4_1).f0))), (wrap64 (x304001_1 + ((rd_T43 l0 x4_1).f1))), (by first | rfl | (simp; done) | (simp [*]; done)), H', ⟨by have := HK1.out; omega⟩, ⟨by (with_reducible repeat (first | refine blk_drewN ?_ _ | refine blk_drew ?_ | refine blk_alloc ?_ _)); refine blk_far ?_ NB302_303.out _; (with_reducible repeat (first | refine blk_drewN ?_ _ | refine blk_drew ?_ | refine blk_alloc ?_ _)); exact BK302.out⟩, ⟨by (with_reducible repeat (first | refine blk_drewN ?_ _ | refine blk_drew ?_ | refine blk_alloc ?_ _)); refine blk_put (cs := #[.int .i64 (wrap64 (x304000_1 + ((rd_T43 l0 x4_1).f0))), .int .i64 x304001_1]) ?_ 1 _ rfl; (with_reducible repeat (first | refine blk_drewN ?_ _ | refine blk_drew ?_ | refine blk_alloc ?_ _)); exact BK303.out⟩, ⟨by repeat (first | (with_reducible first | exact HB.out | apply below_alloc | apply pw_below_drewN | apply below_drew1 | refine below_set ?_ GE302.out | refine below_set ?_ GE303.out) | exact HB.out)⟩⟩
        · rw [if_neg c7] at H
          exact absurd H (by simp)
      · rw [if_neg c6] at H
        have c6b0 : decide (x4_1 < (l0.length : Int)) = false := decide_eq_false c6
        clear c6
        simp only [Option.some.injEq, Prod.mk.injEq] at H
        obtain ⟨rfl, rfl⟩ := H
        have hnb13 := NB303_302.out
        have hnc13 := NB302_303.out
        have hcz14_0 : wr.cell? ⟨gb303, 0, none⟩ = some (.int .i64 x304000_1) := (blk_cell BK303.out 0).trans rfl
        have hcz14_1 : wr.cell? ⟨gb303, 1, none⟩ = some (.int .i64 x304001_1) := (blk_cell BK303.out 1).trans rfl
        have hfz14_0 := blk_frozen BK303.out 0
        have hfz14_1 := blk_frozen BK303.out 1
        have hcz15_0 : wr.cell? ⟨gb302, 0, none⟩ = some (.int .i64 0) := (blk_cell BK302.out 0).trans rfl
        have hcz15_1 : wr.cell? ⟨gb302, 1, none⟩ = some (.int .i64 0) := (blk_cell BK302.out 1).trans rfl
        have hfz15_0 := blk_frozen BK302.out 0
        have hfz15_1 := blk_frozen BK302.out 1
        go_wp2
        refine bodyPost_ret (results_cell_row rfl _ _ gb302 43 #[.int .i64 x304000_1, .int .i64 x304001_1] (0, 0) _ rfl (by (with_reducible repeat (first | refine blk_drewN ?_ _ | refine blk_drew ?_ | refine blk_alloc ?_ _)); refine blk_put (cs := #[.int .i64 x304000_1, .int .i64 0]) ?_ 1 _ rfl; (with_reducible repeat (first | refine blk_drewN ?_ _ | refine blk_drew ?_ | refine blk_alloc ?_ _)); refine blk_put (cs := #[.int .i64 0, .int .i64 0]) ?_ 0 _ rfl; (with_reducible repeat (first | refine blk_drewN ?_ _ | refine blk_drew ?_ | refine blk_alloc ?_ _)); exact BK302.out) Try.underlying43 rfl (by kernel_rfl)) rfl ?_
        exact ⟨by first | rfl | (simp [errW_none, errW_some] <;> rfl) | (simp [*, errW_none, errW_some] <;> rfl), by repeat (first | (with_reducible first | exact HB.out | apply below_alloc | apply pw_below_drewN | apply below_drew1 | refine below_set ?_ GE302.out | refine below_set ?_ GE303.out) | exact HB.out)⟩

-- NOT PRINTED: function 4 (chapmanlaw36_CostFew)

-- NOT PRINTED: function 5 (chapmanlaw36_CostWrites)

-- NOT PRINTED: function 6 (chapmanlaw36_CostSums)

-- NOT PRINTED: function 7 (chapmanlaw36_CostWorth)

-- NOT PRINTED: function 8 (chapmanlaw36_CostChoice)

end Go.Proofs.Ytckempgpaojljaa.P
end
section
/- Few pieces are left after merging the groups that are chosen, and nothing is chosen any more. -/
namespace Go.Proofs.Ytckempgpaojljaa.P
set_option linter.unusedVariables false
set_option linter.unusedSimpArgs false
open Go.RowKit Go.Proofs.YtckempgpaojljaaW.PrintWords Go.Proofs.YtckempgpaojljaaW.PrintLast Go.Proofs.YtckempgpaojljaaW.PrintMore

/-- The clusters at the end. -/
def finC (l : List S43) : List (List Int × Int) := iterC l.length (startC (pcs l))
/-- The pieces that are left. -/
def outL (l : List S43) : List S59 := (finC l).map fun c => sumC (pcs l) c.1

theorem finC_ok {l : List S43} (hv : validL (pcs l) = true) : OkC (finC l) ∧ PartC l.length (finC l) ∧ InvC l (finC l) ∧ stepC (finC l) = none := by
  have h1 := startC_ok hv
  refine ⟨iterC_ok _ _ h1, ?_, (InvC.start l).iter _, ?_⟩
  · have := (PartC.start (pcs l)).iter l.length
    rw [pcs_length] at this
    exact this
  · exact iterC_done _ _ h1 (by simp [startC, pcs])
theorem chosen_groups {l : List S43} (hv : validL (pcs l) = true) : choose (pcs l) = groupsC (finC l) := by
  unfold choose finC
  rw [pcs_length]
theorem after_chosen {l : List S43} (hv : validL (pcs l) = true) : afterR l (choose (pcs l)) = ([], unp (outL l), 0, 0) := by
  unfold afterR
  rw [hv, if_pos rfl, chosen_groups hv, after_part (pcs l) (finC l) (by rw [pcs_length]; exact (finC_ok hv).2.1)]
  rfl
theorem rd_pcs (l : List S43) (i : Int) : rd_T59 (pcs l) i = ⟨(rd_T43 l i).f0, (rd_T43 l i).f1⟩ := by
  unfold rd_T59 rd_T43 pcs
  rw [List.getD_eq_getElem?_getD, List.getD_eq_getElem?_getD, List.getElem?_map]
  cases l[i.toNat]? <;> rfl
theorem outL_names {l : List S43} (hv : validL (pcs l) = true) : (outL l).map (fun p => p.f0) = (finC l).map fun c => c.2 := by
  unfold outL
  rw [List.map_map]
  apply List.map_congr_left
  intro c hc
  have := (finC_ok hv).2.2.1.sum c hc
  show sumG (fun i => (rd_T59 (pcs l) i).f0) c.1 = c.2
  rw [this]
  congr 1
  funext i
  rw [rd_pcs]

theorem lv_mono : ∀ (b a : Nat), a ≤ b → lv a ≤ lv b := by
  intro b
  induction b using Nat.strongRecOn with
  | _ b ih =>
    intro a hab
    rcases Nat.eq_zero_or_pos a with rfl | ha
    · rw [lv_zero]; exact (lv_bd b).1
    · rw [lv_pos a ha, lv_pos b (by omega)]
      have := ih (b / 4) (by omega) (a / 4) (Nat.div_le_div_right hab)
      omega
theorem lv_nonneg {n : Nat} (h : 0 < n) : 0 ≤ lv n := by
  rw [lv_pos n h]
  have := (lv_bd (n / 4)).1
  omega

/-- How many of the first k numbers have each level. -/
def cntI (ns : List Int) (k : Nat) : List Int := (List.range 16).map fun (L : Nat) => (((ns.take k).filter fun n => decide (lv n.toNat = (L : Int))).length : Int)
theorem cntI_length (ns : List Int) (k : Nat) : (cntI ns k).length = 16 := by simp [cntI]
theorem cntI_get (ns : List Int) (k L : Nat) (hL : L < 16) : (cntI ns k)[L]? = some (((ns.take k).filter fun n => decide (lv n.toNat = (L : Int))).length : Int) := by
  simp [cntI, hL]
theorem cntI_zero (ns : List Int) : cntI ns 0 = [0, 0, 0, 0, 0, 0, 0, 0, 0, 0, 0, 0, 0, 0, 0, 0] := by rfl
theorem cntI_succ (ns : List Int) (k L : Nat) (x : Int) (hx : ns[k]? = some x) (hL : lv x.toNat = (L : Int)) (h16 : L < 16) : (cntI ns k).set L (rd (cntI ns k) (L : Int) + 1) = cntI ns (k + 1) := by
  have hk : k < ns.length := (List.getElem?_eq_some_iff.1 hx).1
  have ht : ns.take (k + 1) = ns.take k ++ [x] := by rw [List.take_add_one, hx]; rfl
  apply List.ext_getElem?
  intro j
  rw [List.getElem?_set]
  by_cases hj : j < 16
  · rw [cntI_get _ _ _ hj, cntI_get _ _ _ hj, ht, List.filter_append]
    by_cases e : L = j
    · subst e
      rw [if_pos rfl, if_pos (by rw [cntI_length]; exact hj)]
      have : rd (cntI ns k) (L : Int) = (((ns.take k).filter fun n => decide (lv n.toNat = (L : Int))).length : Int) := by
        simp only [rd, Int.toNat_natCast, List.getD_eq_getElem?_getD, cntI_get _ _ _ hj, Option.getD_some]
      rw [this]
      simp [hL]
    · rw [if_neg e]
      have : ¬ (L : Int) = (j : Int) := by omega
      simp [hL, this]
  · have h1 : (cntI ns k)[j]? = none := by simp [cntI]; omega
    have h2 : (cntI ns (k + 1))[j]? = none := by simp [cntI]; omega
    rw [h1, h2]
    split <;> simp_all
theorem cntI_le (ns : List Int) (k L : Nat) (hL : L < 16) : rd (cntI ns k) (L : Int) ≤ ((ns.filter fun n => decide (lv n.toNat = (L : Int))).length : Int) ∧ 0 ≤ rd (cntI ns k) (L : Int) := by
  have : rd (cntI ns k) (L : Int) = (((ns.take k).filter fun n => decide (lv n.toNat = (L : Int))).length : Int) := by
    simp only [rd, Int.toNat_natCast, List.getD_eq_getElem?_getD, cntI_get _ _ _ hL, Option.getD_some]
  rw [this]
  have h1 := ((List.take_sublist k ns).filter fun n => decide (lv n.toNat = (L : Int))).length_le
  omega

theorem fin_counts {l : List S43} (hv : validL (pcs l) = true) (L : Nat) (hL : L < 16) : ((((finC l).map fun c => c.2).filter fun n => decide (lv n.toNat = (L : Int))).length : Int) ≤ 3 := by
  obtain ⟨hok, _, _, hs⟩ := finC_ok hv
  have hcl : (cntC (finC l)).length = 16 := by simp [cntC]
  have h1 : idx4 (cntC (finC l)) < 0 := by
    rcases Int.lt_or_le (idx4 (cntC (finC l))) 0 with h | h
    · exact h
    · exfalso
      rcases idx4_spec (cntC (finC l)) with e | ⟨j, e, hj, h4⟩
      · omega
      · have hc := posC_count (finC l) j (by omega)
        unfold stepC at hs
        rw [if_neg (by omega), e] at hs
        have hl : ((posC (finC l) (j : Int) (finC l).length).take 4).length = 4 := by rw [List.length_take]; omega
        generalize (posC (finC l) (j : Int) (finC l).length).take 4 = P at hs hl
        match P, hl, hs with
        | [a, b, c, d], _, hs => exact absurd hs (by simp)
  have h2 : (cntC (finC l)).getD L 0 < 4 := by
    rcases Int.lt_or_le ((cntC (finC l)).getD L 0) 4 with h | h
    · exact h
    · exfalso
      unfold idx4 at h1
      cases hf : (cntC (finC l)).findIdx? (fun n => decide (4 ≤ n)) with
      | some i => rw [hf] at h1; simp at h1; omega
      | none =>
        rw [List.findIdx?_eq_none_iff] at hf
        have := of_decide_eq_false (hf _ (getD_mem (cntC (finC l)) L 0 (by omega)))
        omega
  have h3 : (cntC (finC l)).getD L 0 = (((finC l).filter fun c => decide (lv c.2.toNat = (L : Int))).length : Int) := by simp [cntC, List.getD_eq_getElem?_getD, hL]
  rw [h3] at h2
  rw [List.filter_map, List.length_map]
  have : ((finC l).filter ((fun n => decide (lv n.toNat = (L : Int))) ∘ fun c => c.2)) = (finC l).filter fun c => decide (lv c.2.toNat = (L : Int)) := rfl
  rw [this]
  omega

theorem len_split {α : Type} (l : List α) (p : α → Bool) : l.length = (l.filter p).length + (l.filter fun x => !p x).length := by
  induction l with
  | nil => rfl
  | cons x l ih =>
    rw [List.filter_cons, List.filter_cons]
    cases p x <;> simp <;> omega
theorem few_len (ns : List Int) : ∀ M : Nat, (∀ n ∈ ns, 0 ≤ lv n.toNat ∧ lv n.toNat ≤ M) → (∀ L : Nat, L ≤ M → (ns.filter fun n => decide (lv n.toNat = (L : Int))).length ≤ 3) → ns.length ≤ 3 * (M + 1) := by
  intro M
  induction M generalizing ns with
  | zero =>
    intro h1 h2
    have := h2 0 (Nat.le_refl _)
    rw [List.filter_eq_self.2 (fun n hn => by have := h1 n hn; simp; omega)] at this
    omega
  | succ M ih =>
    intro h1 h2
    have hsplit := len_split ns (fun n => decide (lv n.toNat = ((M + 1 : Nat) : Int)))
    have ha := h2 (M + 1) (Nat.le_refl _)
    have hb := ih (ns.filter fun n => !decide (lv n.toNat = ((M + 1 : Nat) : Int))) (fun n hn => by
      rw [List.mem_filter] at hn
      have := h1 n hn.1
      have h5 := hn.2
      simp at h5
      omega) (fun L hL => by
      have h3 := (List.Sublist.filter (fun n => decide (lv n.toNat = (L : Int))) (List.filter_sublist (l := ns) (p := fun n => !decide (lv n.toNat = ((M + 1 : Nat) : Int))))).length_le
      have := h2 L (by omega)
      omega)
    omega

theorem total_ev (l : List S43) (hl : l.length ≤ 1000) (hb : ∀ p ∈ l, 0 ≤ p.f0 ∧ p.f0 ≤ 1000000000000 ∧ 0 ≤ p.f1 ∧ p.f1 ≤ 1000000000000) : Evt (fun k => chapmanlaw36_total.f k l) ((l.map fun p => p.f0).sum, (l.map fun p => p.f1).sum) := by
  have b0 := psum_bd (fun p : S43 => p.f0) l 1000000000000 (fun p h => by have := hb p h; omega)
  have b1 := psum_bd (fun p : S43 => p.f1) l 1000000000000 (fun p h => by have := hb p h; omega)
  have := Evt.loop (fun i k => chapmanlaw36_total.l0 k l (i : Int) (psum (fun p : S43 => p.f0) l i) (psum (fun p : S43 => p.f1) l i)) l.length (r := ((l.map fun p => p.f0).sum, (l.map fun p => p.f1).sum)) ?_ (fun i hi2 k => ?_)
  · rw [psum_zero, psum_zero] at this
    exact this
  · refine (Evt.pure _).step (fun k => ?_)
    show (if _ then _ else _) = _
    rw [if_neg (by omega), psum_all, psum_all]
  · have c0 := b0 (i + 1) (by omega)
    have c1 := b1 (i + 1) (by omega)
    rw [psum_succ _ _ _ _ (List.getElem?_eq_getElem hi2)] at c0 c1
    show (if _ then _ else _) = _
    rw [if_pos (by omega), if_pos (by omega), w64s (by omega), rd43 hi2, w64in _ (by omega), w64in _ (by omega)]
    show _ = chapmanlaw36_total.l0 k l ((i + 1 : Nat) : Int) _ _
    rw [psum_succ _ _ _ _ (List.getElem?_eq_getElem hi2), psum_succ _ _ _ _ (List.getElem?_eq_getElem hi2)]
end Go.Proofs.Ytckempgpaojljaa.P
end
section
/- The facts that the law CostFew asks of the pieces that are left. -/
namespace Go.Proofs.Ytckempgpaojljaa.P
set_option linter.unusedVariables false
set_option linter.unusedSimpArgs false
open Go.RowKit Go.Proofs.YtckempgpaojljaaW.PrintWords Go.Proofs.YtckempgpaojljaaW.PrintLast Go.Proofs.YtckempgpaojljaaW.PrintMore

theorem validL_of {l : List S59} (hl : l.length ≤ 512) (h : ∀ p ∈ l, 1 ≤ p.f0 ∧ p.f0 ≤ 5994 ∧ 0 ≤ p.f1 ∧ p.f1 ≤ 1000000000) : validL l = true := by
  simp only [validL, Bool.and_eq_true, decide_eq_true_eq, List.all_eq_true]
  refine ⟨hl, fun p hp => ?_⟩
  have := h p hp
  simp [oddP]
  omega
theorem made_bd {x : List S50} (hb : bytes2 x) : ∀ p ∈ madeL x, 1 ≤ p.f0 ∧ p.f0 ≤ 79 ∧ 0 ≤ p.f1 ∧ p.f1 ≤ 10200 := by
  intro p hp
  obtain ⟨q, hq, rfl⟩ := List.mem_map.1 hp
  have h := hb q (List.mem_of_mem_take hq)
  have h4 : (q.f0 % 4).toNat ≤ 3 := by omega
  have h5 : 4 ^ (q.f0 % 4).toNat ≤ 4 ^ 3 := Nat.pow_le_pow_right (by decide) h4
  have h6 : 1 ≤ 4 ^ (q.f0 % 4).toNat := Nat.one_le_pow _ _ (by decide)
  unfold madeP
  refine ⟨?_, ?_, ?_, ?_⟩
  · show (1 : Int) ≤ ((4 ^ (q.f0 % 4).toNat : Nat) : Int) + q.f0 / 16
    omega
  · show ((4 ^ (q.f0 % 4).toNat : Nat) : Int) + q.f0 / 16 ≤ 79
    omega
  · show (0 : Int) ≤ q.f1 * 40
    omega
  · show q.f1 * 40 ≤ 10200
    omega
theorem madeL_len (x : List S50) : (madeL x).length ≤ 60 := by
  unfold madeL
  rw [List.length_map, List.length_take]
  omega
theorem made_valid {x : List S50} (hb : bytes2 x) : validL (pcs (madeL x)) = true := by
  refine validL_of (by rw [pcs_length]; have := madeL_len x; omega) (fun p hp => ?_)
  obtain ⟨q, hq, rfl⟩ := List.mem_map.1 hp
  have := made_bd hb q hq
  show 1 ≤ q.f0 ∧ q.f0 ≤ 5994 ∧ 0 ≤ q.f1 ∧ q.f1 ≤ 1000000000
  omega

theorem iterC_len (k : Nat) : ∀ (cs : List (List Int × Int)), OkC cs → (iterC k cs).length ≤ cs.length := by
  induction k with
  | zero => intro cs _; exact Nat.le_refl _
  | succ k ih =>
    intro cs h
    unfold iterC
    cases hs : stepC cs with
    | none => exact Nat.le_refl _
    | some cs' =>
      obtain ⟨h1, h2⟩ := stepC_ok h hs
      have := ih cs' h1
      show (iterC k cs').length ≤ cs.length
      omega
theorem outL_len {l : List S43} (hv : validL (pcs l) = true) : (outL l).length ≤ l.length := by
  unfold outL finC
  rw [List.length_map]
  have := iterC_len l.length _ (startC_ok hv)
  simp [startC, pcs] at this
  exact this
theorem sum_perm_le {l : List Int} {B : Int} (h : ∀ x ∈ l, 0 ≤ x) {x : Int} (hx : x ∈ l) : x ≤ l.sum := by
  obtain ⟨i, hi, rfl⟩ := List.getElem_of_mem hx
  have := sum_ge l h i hi
  simpa [List.getD_eq_getElem?_getD, hi] using this
theorem sumG_flat (f : Int → Int) (cs : List (List Int × Int)) : (cs.map fun c => sumG f c.1).sum = sumG f (cs.flatMap fun c => c.1) := by
  induction cs with
  | nil => rfl
  | cons c cs ih => rw [List.map_cons, List.sum_cons, ih, List.flatMap_cons, sumG_append]
theorem sumG_ixs (l : List S43) (f : S43 → Int) : sumG (fun i => f (rd_T43 l i)) (ixs l.length) = (l.map f).sum := by
  unfold sumG ixs
  rw [List.map_map]
  congr 1
  apply List.ext_getElem
  · simp
  · intro i h1 h2
    have hi : i < l.length := by simpa using h2
    simp [rd43 hi]
/-- The names of all that is left are the names of all. -/
theorem out_sum {l : List S43} (hv : validL (pcs l) = true) : ((outL l).map fun p => p.f0).sum = (l.map fun p => p.f0).sum ∧ ((outL l).map fun p => p.f1).sum = (l.map fun p => p.f1).sum := by
  have hp := (finC_ok hv).2.1.perm
  have key : ∀ f : S43 → Int, ((finC l).map fun c => sumG (fun i => f (rd_T43 l i)) c.1).sum = (l.map f).sum := fun f => by
    rw [sumG_flat, sumG_perm hp, sumG_ixs]
  constructor
  · rw [← key (fun p => p.f0)]
    unfold outL
    rw [List.map_map]
    congr 1
    apply List.map_congr_left
    intro c _
    show sumG (fun i => (rd_T59 (pcs l) i).f0) c.1 = sumG (fun i => (rd_T43 l i).f0) c.1
    congr 1
    funext i
    rw [rd_pcs]
  · rw [← key (fun p => p.f1)]
    unfold outL
    rw [List.map_map]
    congr 1
    apply List.map_congr_left
    intro c _
    show sumG (fun i => (rd_T59 (pcs l) i).f1) c.1 = sumG (fun i => (rd_T43 l i).f1) c.1
    congr 1
    funext i
    rw [rd_pcs]
theorem sum_le_of {α : Type} (l : List α) (f : α → Int) (B : Int) (h : ∀ p ∈ l, 0 ≤ f p ∧ f p ≤ B) : 0 ≤ (l.map f).sum ∧ (l.map f).sum ≤ B * l.length := by
  have := psum_bd f l B h l.length (Nat.le_refl _)
  rwa [psum_all] at this
theorem out_bd {l : List S43} (hv : validL (pcs l) = true) : ∀ p ∈ outL l, 1 ≤ p.f0 ∧ p.f0 ≤ (l.map fun p => p.f0).sum ∧ 0 ≤ p.f1 ∧ p.f1 ≤ (l.map fun p => p.f1).sum := by
  obtain ⟨hok, hpart, hinv, _⟩ := finC_ok hv
  obtain ⟨_, hm⟩ := valid_mem hv
  have hn := outL_names hv
  have hs := out_sum hv
  have hf0 : ∀ p ∈ outL l, 1 ≤ p.f0 := fun p hp => by
    have : p.f0 ∈ (outL l).map fun p => p.f0 := List.mem_map.2 ⟨p, hp, rfl⟩
    rw [hn] at this
    obtain ⟨c, hc, e⟩ := List.mem_map.1 this
    rw [← e]
    exact hok.pos c hc
  have hf1 : ∀ p ∈ outL l, 0 ≤ p.f1 := fun p hp => by
    obtain ⟨c, hc, rfl⟩ := List.mem_map.1 hp
    show 0 ≤ sumG (fun i => (rd_T59 (pcs l) i).f1) c.1
    refine (sum_le_of c.1 (fun i => (rd_T59 (pcs l) i).f1) 1000000000 (fun i hi => ?_)).1
    have hb := hpart.bd hc hi
    have := hm _ (rd_mem hb.1 (by rw [pcs_length]; exact hb.2))
    omega
  intro p hp
  refine ⟨hf0 p hp, ?_, hf1 p hp, ?_⟩
  · rw [← hs.1]
    exact sum_perm_le (B := 0) (fun x hx => by
      obtain ⟨q, hq, rfl⟩ := List.mem_map.1 hx
      have := hf0 q hq
      omega) (List.mem_map.2 ⟨p, hp, rfl⟩)
  · rw [← hs.2]
    exact sum_perm_le (B := 0) (fun x hx => by
      obtain ⟨q, hq, rfl⟩ := List.mem_map.1 hx
      exact hf1 q hq) (List.mem_map.2 ⟨p, hp, rfl⟩)

theorem pcs_unp (l : List S59) : pcs (unp l) = l := by
  unfold pcs unp
  rw [List.map_map]
  exact (List.map_congr_left (fun p _ => rfl)).trans (List.map_id' l)
theorem startC_names (l : List S59) : (startC l).map (fun c => c.2) = l.map fun p => p.f0 := by
  unfold startC
  rw [List.map_map]
  have : ∀ (l : List S59) (k : Nat), (l.zipIdx k).map ((fun c : List Int × Int => c.2) ∘ fun q => ([(q.2 : Int)], q.1.f0)) = l.map fun p => p.f0 := by
    intro l
    induction l with
    | nil => intro _; rfl
    | cons x l ih => intro k; rw [List.zipIdx_cons, List.map_cons, List.map_cons, ih]; rfl
  exact this l 0
theorem cntC_names (cs ds : List (List Int × Int)) (h : cs.map (fun c => c.2) = ds.map fun c => c.2) : cntC cs = cntC ds := by
  unfold cntC
  apply List.map_congr_left
  intro L _
  have key : ∀ cs : List (List Int × Int), (cs.filter fun c => decide (lv c.2.toNat = (L : Int))).length = ((cs.map fun c => c.2).filter fun n => decide (lv n.toNat = (L : Int))).length := fun cs => by
    rw [List.filter_map, List.length_map]
    rfl
  rw [key, key, h]
theorem posC_names (cs ds : List (List Int × Int)) (h : cs.map (fun c => c.2) = ds.map fun c => c.2) (L : Int) : posC cs L cs.length = posC ds L ds.length := by
  have hl : cs.length = ds.length := by have := congrArg List.length h; simpa using this
  unfold posC
  rw [hl]
  apply List.filter_congr
  intro i hi
  rw [List.mem_range] at hi
  have h1 := congrArg (fun l => l.getD i 0) h
  have e1 : (cs.map (fun c => c.2)).getD i 0 = (cs.getD i ([], 0)).2 := by simp [List.getD_eq_getElem?_getD, show i < cs.length by omega]
  have e2 : (ds.map (fun c => c.2)).getD i 0 = (ds.getD i ([], 0)).2 := by simp [List.getD_eq_getElem?_getD, hi]
  have h2 : (cs.getD i ([], 0)).2 = (ds.getD i ([], 0)).2 := by rw [← e1, ← e2]; exact h1
  rw [h2]
theorem stepC_none_names {cs ds : List (List Int × Int)} (h : cs.map (fun c => c.2) = ds.map fun c => c.2) (hs : stepC cs = none) : stepC ds = none := by
  unfold stepC at hs ⊢
  rw [cntC_names cs ds h, posC_names cs ds h] at hs
  split at hs
  · rename_i hn; rw [if_pos hn]
  · rename_i hn
    rw [if_neg hn]
    generalize (posC ds (idx4 (cntC ds)) ds.length).take 4 = P at hs ⊢
    match P, hs with
    | [a, b, c, d], hs => exact absurd hs (by simp)
    | [], _ => rfl
    | [_], _ => rfl
    | [_, _], _ => rfl
    | [_, _, _], _ => rfl
    | _ :: _ :: _ :: _ :: _ :: _, _ => rfl
theorem iterC_none (k : Nat) {cs : List (List Int × Int)} (h : stepC cs = none) : iterC k cs = cs := by
  cases k with
  | zero => rfl
  | succ k => unfold iterC; rw [h]
theorem groupsC_start (l : List S59) : groupsC (startC l) = [] := by
  unfold groupsC
  rw [List.filter_eq_nil_iff.2, List.map_nil]
  intro c hc
  obtain ⟨q, _, rfl⟩ := List.mem_map.1 hc
  simp
/-- Nothing is chosen any more. -/
theorem again_none {l : List S43} (hv : validL (pcs l) = true) : choose (outL l) = [] := by
  unfold choose
  rw [iterC_none _ (stepC_none_names (cs := finC l) (by rw [startC_names, outL_names hv]) (finC_ok hv).2.2.2), groupsC_start]
end Go.Proofs.Ytckempgpaojljaa.P
end
section
/- The facts that the law CostWorth asks of the groups that are worth merging. -/
namespace Go.Proofs.Ytckempgpaojljaa.P
set_option linter.unusedVariables false
set_option linter.unusedSimpArgs false
open Go.RowKit Go.Proofs.YtckempgpaojljaaW.PrintWords Go.Proofs.YtckempgpaojljaaW.PrintLast Go.Proofs.YtckempgpaojljaaW.PrintMore

theorem choose_ok {l : List S43} (hv : validL (pcs l) = true) : ∀ g ∈ choose (pcs l), okG l.length g = true ∧ 1 < g.length ∧ g.length ≤ l.length := by
  intro g hg
  rw [chosen_groups hv] at hg
  obtain ⟨c, hc, h1, rfl⟩ := groupsC_mem.1 hg
  have hok := (finC_ok hv).2.1.ok hc
  refine ⟨hok, by rw [sortI_length]; exact h1, ?_⟩
  have := okG_len hok
  omega
theorem choose_num {l : List S43} (hv : validL (pcs l) = true) : (choose (pcs l)).length ≤ l.length := by
  rw [chosen_groups hv]
  have h1 := groups_len (finC l)
  have h2 := outL_len hv
  unfold outL at h2
  rw [List.length_map] at h2
  omega

/-- What the law asks. -/
structure WorthOk (l : List S43) (a : Int) (fG mG : List (List Int)) : Prop where
  len : l.length ≤ 60
  fnum : fG.length ≤ l.length
  mnum : mG.length ≤ l.length
  sub : ∀ g ∈ fG, g ∈ mG
  grp : ∀ g ∈ fG, okG l.length g = true ∧ 1 < g.length ∧ g.length ≤ l.length
  mgrp : ∀ g ∈ mG, g.length ≤ l.length
  mrg : ∀ g ∈ fG, ∃ k, chapmanlaw36_merge.f k l g = some ([], [], mergeN (pcs l) g, 0)
  save : ∀ g ∈ fG, 0 ≤ mergeN (pcs l) g ∧ mergeN (pcs l) g ≤ 2000000000000 ∧ mergeN (pcs l) g < a * 4096 * ((g.length : Int) - 1)
  ab : 0 ≤ a ∧ a ≤ 65535

theorem worth_ok {l : List S43} (hv : validL (pcs l) = true) (hl : l.length ≤ 60) {a b : Int} (h0 : 0 ≤ a) (hab : a ≤ b) (hb : b ≤ 65535) : WorthOk l a (worthL (pcs l) a) (worthL (pcs l) b) := by
  have hch := choose_ok hv
  have hmr : ∀ g ∈ choose (pcs l), mrg (pcs l) g = mergeN (pcs l) g := fun g hg => by
    unfold mrg
    rw [hv, pcs_length, (hch g hg).1]
    rfl
  have hf : ∀ (c : Int) (g : List Int), g ∈ worthL (pcs l) c → g ∈ choose (pcs l) ∧ mergeN (pcs l) g < c * 4096 * ((g.length : Int) - 1) := fun c g hg => by
    unfold worthL at hg
    obtain ⟨h1, h2⟩ := List.mem_filter.1 hg
    refine ⟨h1, ?_⟩
    have h3 := hmr g h1
    simp [poor] at h2
    omega
  have hn : ∀ c : Int, (worthL (pcs l) c).length ≤ l.length := fun c => Nat.le_trans (List.length_filter_le _ _) (choose_num hv)
  refine ⟨hl, hn a, hn b, fun g hg => ?_, fun g hg => hch g (hf a g hg).1, fun g hg => (hch g (hf b g hg).1).2.2, fun g hg => ?_, fun g hg => ?_, by omega⟩
  · obtain ⟨h1, h2⟩ := hf a g hg
    unfold worthL
    rw [List.mem_filter]
    refine ⟨h1, ?_⟩
    have h3 := (hch g h1).2.1
    have h4 : a * 4096 * ((g.length : Int) - 1) ≤ b * 4096 * ((g.length : Int) - 1) := Int.mul_le_mul_of_nonneg_right (by omega) (by omega)
    have h5 := hmr g h1
    simp [poor]
    omega
  · obtain ⟨K, hK⟩ := merge_ev l g (by omega)
    refine ⟨K, (hK K (Nat.le_refl _)).trans ?_⟩
    unfold mergeL
    rw [hv, (hch g (hf a g hg).1).1]
    rfl
  · obtain ⟨h1, h2⟩ := hf a g hg
    have h3 := mrg_bd (g := g) hv
    rw [hmr g h1] at h3
    exact ⟨h3.1, h3.2, h2⟩
theorem worth_none {l : List S43} (hv : validL (pcs l) = true) : worthL (pcs l) 0 = [] := by
  unfold worthL
  rw [List.filter_eq_nil_iff]
  intro g hg
  have := (mrg_bd (g := g) hv).1
  simp [poor]
  exact this
theorem worthR_ok {l : List S43} (hv : validL (pcs l) = true) (hl : l.length ≤ 60) {a : Int} (h0 : 0 ≤ a) (h1 : a ≤ 65535) : ∃ k, chapmanlaw36_worth.f k l a = some (worthL (pcs l) a, [], 0, 0) := by
  obtain ⟨K, hK⟩ := worth_ev l a (by omega)
  refine ⟨K, (hK K (Nat.le_refl _)).trans ?_⟩
  unfold worthR
  rw [hv, decide_eq_true h0, decide_eq_true (by omega : a ≤ 1000000000)]
  rfl
theorem same1_ev (x y : List Int) (hx : x.length ≤ 1000000) : ∃ k, chapmanref36_SameGroups.f k [x] [y] = some (decide (x = y)) := by
  obtain ⟨K, hK⟩ := sameGroups_ev [x] [y] (by simp) (by intro z hz; simp at hz; rw [hz]; exact hx)
  exact ⟨K, (hK K (Nat.le_refl _)).trans (by congr 1; exact decide_eq_decide.2 (by simp))⟩
end Go.Proofs.Ytckempgpaojljaa.P
end
section
/- The facts that the law CostSums asks of one merged group. -/
namespace Go.Proofs.Ytckempgpaojljaa.P
set_option linter.unusedVariables false
set_option linter.unusedSimpArgs false
open Go.RowKit Go.Proofs.YtckempgpaojljaaW.PrintWords Go.Proofs.YtckempgpaojljaaW.PrintLast Go.Proofs.YtckempgpaojljaaW.PrintMore

/-- The sum over those of a range that are in an increasing list is the list's. -/
theorem sum_in (h : Int → Int) : ∀ (m s : Nat) (g : List Int), g.Pairwise (· < ·) → (∀ x ∈ g, (s : Int) ≤ x ∧ x < ((s + m : Nat) : Int)) →
    ((List.range' s m).map fun (k : Nat) => if (k : Int) ∈ g then h k else 0).sum = (g.map h).sum := by
  intro m
  induction m with
  | zero =>
    intro s g _ hb
    cases g with
    | nil => rfl
    | cons x g =>
      have := hb x (by simp)
      omega
  | succ m ih =>
    intro s g hp hb
    rw [List.range'_succ, List.map_cons, List.sum_cons]
    by_cases hs : (s : Int) ∈ g
    · rw [if_pos hs]
      cases g with
      | nil => simp at hs
      | cons x g =>
        obtain ⟨h1, h2⟩ := List.pairwise_cons.1 hp
        have hxs : x = (s : Int) := by
          rcases List.mem_cons.1 hs with h | h
          · exact h.symm
          · have := h1 _ h
            have := hb x (by simp)
            omega
        subst hxs
        rw [List.map_cons, List.sum_cons]
        congr 1
        rw [← ih (s + 1) g h2 (fun y hy => by
          have := h1 y hy
          have := hb y (List.mem_cons_of_mem _ hy)
          omega)]
        congr 1
        apply List.map_congr_left
        intro k hk
        have hk2 := List.mem_range'_1.1 hk
        have : ((k : Int) ∈ (s : Int) :: g) = ((k : Int) ∈ g) := by
          rw [List.mem_cons]
          exact propext ⟨fun h => h.resolve_left (by omega), Or.inr⟩
        by_cases hkg : (k : Int) ∈ g
        · rw [if_pos hkg, if_pos (this ▸ hkg)]
        · rw [if_neg hkg, if_neg (fun e => hkg (this ▸ e))]
    · rw [if_neg hs, Int.zero_add]
      refine ih (s + 1) g hp (fun y hy => ?_)
      have := hb y hy
      have : y ≠ (s : Int) := fun e => hs (e ▸ hy)
      omega

theorem sum_sub {α : Type} (f g : α → Int) (l : List α) : (l.map fun x => f x - g x).sum = (l.map f).sum - (l.map g).sum := by
  induction l with
  | nil => rfl
  | cons a l ih => simp only [List.map_cons, List.sum_cons, ih]; omega
theorem sum_add {α : Type} (f g : α → Int) (l : List α) : (l.map fun x => f x + g x).sum = (l.map f).sum + (l.map g).sum := by
  induction l with
  | nil => rfl
  | cons a l ih => simp only [List.map_cons, List.sum_cons, ih]; omega
theorem map_const_sum {α : Type} (c : Int) (l : List α) : (l.map fun _ => c).sum = c * l.length := by
  induction l with
  | nil => simp
  | cons a l ih => simp only [List.map_cons, List.sum_cons, ih, List.length_cons, Int.natCast_add, Int.mul_add]; omega
theorem sum_flat {α β : Type} (f : α → List β) (m : β → Int) (l : List α) : ((l.flatMap f).map m).sum = (l.map fun a => ((f a).map m).sum).sum := by
  induction l with
  | nil => rfl
  | cons a l ih => simp only [List.flatMap_cons, List.map_append, List.sum_append, List.map_cons, List.sum_cons, ih]

theorem sumG_ixs59 (l : List S59) (f : S59 → Int) : sumG (fun i => f (rd_T59 l i)) (ixs l.length) = (l.map f).sum := by
  unfold sumG ixs
  rw [List.map_map]
  congr 1
  apply List.ext_getElem
  · simp
  · intro i h1 h2
    have hi : i < l.length := by simpa using h2
    simp [rd_T59, List.getD_eq_getElem?_getD, hi]

/-- What merging one group leaves. -/
theorem after_one (l : List S59) (g : List Int) (h : okG l.length g = true) : ∃ out, afterL l [g] = some out ∧
    (∀ m : S59 → Int, (out.map m).sum = (l.map m).sum - sumG (fun i => m (rd_T59 l i)) g + m (sumC l g)) ∧
    ∀ p ∈ out, (∃ k : Nat, k < l.length ∧ p = rd_T59 l k) ∨ p = sumC l g := by
  obtain ⟨ow, e, hl, hk⟩ := owners_ok l.length [g] (List.replicate l.length []) (by simp) (fun g' hg => by
    obtain rfl := List.mem_singleton.1 hg
    exact h) (by simp) (fun g hg i hi => by simp [List.getD_eq_getElem?_getD, List.getElem?_replicate]; split <;> rfl)
  have hbd := okG_bd h
  have hp := incr_sorted (Bool.and_eq_true_iff.1 h).1
  have h0 : 0 < g.length := of_decide_eq_true (Bool.and_eq_true_iff.1 h).2
  have hw : ∀ k : Nat, aftP l ow k = if (k : Int) ∈ g then (if g.getD 0 0 = (k : Int) then [sumC l g] else []) else [rd_T59 l k] := by
    intro k
    have hko : ow.getD k [] = if (k : Int) ∈ g then g else [] := by
      rw [hk k]
      by_cases hg : (k : Int) ∈ g
      · rw [if_pos ⟨g, by simp, hg⟩, if_pos hg]
        simp [groupOf, hg]
      · rw [if_neg (by simpa using hg), if_neg hg]
        simp [List.getD_eq_getElem?_getD, List.getElem?_replicate]
        split <;> rfl
    unfold aftP
    rw [hko]
    by_cases hg : (k : Int) ∈ g
    · rw [if_pos hg, if_pos hg]
      have : g.isEmpty = false := by cases g with | nil => simp at h0 | cons a g => rfl
      rw [this]
      rfl
    · rw [if_neg hg, if_neg hg]
      rfl
  have hm0 : g.getD 0 0 ∈ g := by
    cases g with
    | nil => simp at h0
    | cons a g => simp
  refine ⟨aftK l ow l.length, by unfold afterL; rw [e]; rfl, fun m => ?_, fun p hp2 => ?_⟩
  · unfold aftK
    rw [sum_flat]
    have h1 : ∀ k : Nat, ((aftP l ow k).map m).sum = (m (rd_T59 l k) - if (k : Int) ∈ g then m (rd_T59 l k) else 0) + if (k : Int) ∈ [g.getD 0 0] then m (sumC l g) else 0 := by
      intro k
      rw [hw k]
      by_cases hg : (k : Int) ∈ g
      · rw [if_pos hg, if_pos hg]
        by_cases hh : g.getD 0 0 = (k : Int)
        · rw [if_pos hh, if_pos (by rw [hh]; simp)]
          simp
        · rw [if_neg hh, if_neg (by rw [List.mem_singleton]; exact fun e => hh e.symm)]
          simp
      · rw [if_neg hg, if_neg hg, if_neg (fun e => hg (by rw [List.mem_singleton.1 e]; exact hm0))]
        simp
    simp only [h1]
    rw [sum_add, sum_sub, List.range_eq_range', sum_in (fun i => m (rd_T59 l i)) l.length 0 g hp (fun x hx => by have := hbd x hx; omega),
      sum_in (fun _ => m (sumC l g)) l.length 0 [g.getD 0 0] (by simp) (fun x hx => by rw [List.mem_singleton.1 hx]; have := hbd _ hm0; omega)]
    have h2 := sumG_ixs59 l m
    unfold sumG ixs at h2
    rw [List.map_map, List.range_eq_range'] at h2
    have h3 : ((List.range' 0 l.length).map fun (k : Nat) => m (rd_T59 l k)).sum = (l.map m).sum := h2
    rw [h3]
    simp [sumG]
  · unfold aftK at hp2
    obtain ⟨k, hk1, hk2⟩ := List.mem_flatMap.1 hp2
    rw [List.mem_range] at hk1
    rw [hw k] at hk2
    split at hk2
    · split at hk2
      · exact .inr (List.mem_singleton.1 hk2)
      · simp at hk2
    · exact .inl ⟨k, hk1, List.mem_singleton.1 hk2⟩
end Go.Proofs.Ytckempgpaojljaa.P
end
section
/- What the calls of the law CostSums answer. -/
namespace Go.Proofs.Ytckempgpaojljaa.P
set_option linter.unusedVariables false
set_option linter.unusedSimpArgs false
open Go.RowKit Go.Proofs.YtckempgpaojljaaW.PrintWords Go.Proofs.YtckempgpaojljaaW.PrintLast Go.Proofs.YtckempgpaojljaaW.PrintMore

/-- The bounds of pieces that were made. -/
def madeB (l : List S43) : Prop := l.length ≤ 60 ∧ ∀ p ∈ l, 1 ≤ p.f0 ∧ p.f0 ≤ 79 ∧ 0 ≤ p.f1 ∧ p.f1 ≤ 10200
theorem madeB_of {x : List S50} (hb : bytes2 x) : madeB (madeL x) := ⟨madeL_len x, made_bd hb⟩
theorem madeB_valid {l : List S43} (h : madeB l) : validL (pcs l) = true := by
  refine validL_of (by rw [pcs_length]; have := h.1; omega) (fun p hp => ?_)
  obtain ⟨q, hq, rfl⟩ := List.mem_map.1 hp
  have := h.2 q hq
  show 1 ≤ q.f0 ∧ q.f0 ≤ 5994 ∧ 0 ≤ q.f1 ∧ q.f1 ≤ 1000000000
  omega

/-- What the law asks. -/
structure SumsOk (l : List S43) (g : List Int) (L : List S43) (R s t : Int) : Prop where
  aft : ∃ k, chapmanlaw36_after.f k l [g] = some ([], L, 0, 0)
  old : ∃ k, chapmanlaw36_read.f k l = some ([], [], R, 0)
  tot : ∃ k, chapmanlaw36_total.f k L = some (s, t)
  tot0 : ∃ k, chapmanlaw36_total.f k l = some (s, t)
  len : L.length + g.length = l.length + 1
  val : ∃ k, chapmanref36_Valid.f k L = some true
  new : ∃ k, chapmanlaw36_read.f k L = some ([], [], R - 4096 * ((g.length : Int) - 1), 0)
  bd : 0 ≤ R ∧ R ≤ 1000000
  like : ∃ k, chapmanref36_Alike.f k [] [] (R - 4096 * ((g.length : Int) - 1)) 0 [] [] (R - 4096 * ((g.length : Int) - 1)) 0 = some true

theorem sums_ok {l : List S43} (hm : madeB l) {g : List Int} (hg : okG l.length g = true) : ∃ L R s t, SumsOk l g L R s t := by
  have hv := madeB_valid hm
  have h60 := hm.1
  have hpl : ((pcs l).length : Int) = l.length := by rw [pcs_length]
  obtain ⟨out, ho, hs, hp⟩ := after_one (pcs l) g (by rw [pcs_length]; exact hg)
  have hpb : ∀ p ∈ pcs l, 1 ≤ p.f0 ∧ p.f0 ≤ 79 ∧ 0 ≤ p.f1 ∧ p.f1 ≤ 10200 := fun p hp => by
    obtain ⟨q, hq, rfl⟩ := List.mem_map.1 hp
    exact hm.2 q hq
  have hrd : ∀ i : Int, 0 ≤ i → i < l.length → rd_T59 (pcs l) i ∈ pcs l := fun i h0 h1 => by
    have : (rd_T59 (pcs l) ((i.toNat : Nat) : Int)) ∈ pcs l := List.mem_of_getElem? (at_get (l := pcs l) (k := i.toNat) (by rw [pcs_length]; omega))
    rwa [Int.toNat_of_nonneg h0] at this
  have hgb := okG_bd hg
  have hgl : g.length ≤ l.length := (okG_len hg).2
  have hg0 : 0 < g.length := of_decide_eq_true (Bool.and_eq_true_iff.1 hg).2
  have hsum : ∀ (f : S59 → Int) (B : Int), (∀ p ∈ pcs l, 0 ≤ f p ∧ f p ≤ B) → 0 ≤ sumG (fun i => f (rd_T59 (pcs l) i)) g ∧ sumG (fun i => f (rd_T59 (pcs l) i)) g ≤ B * g.length := fun f B hf =>
    sum_le_of g _ B (fun i hi => hf _ (hrd i (hgb i hi).1 (hgb i hi).2))
  have hS : ∃ x0, x0 ∈ g := by
    cases g with
    | nil => simp at hg0
    | cons a g => exact ⟨a, by simp⟩
  obtain ⟨x0, hx0⟩ := hS
  have h1 : 1 ≤ sumG (fun i => (rd_T59 (pcs l) i).f0) g := by
    have h2 := hpb _ (hrd x0 (hgb x0 hx0).1 (hgb x0 hx0).2)
    have h3 := sum_perm_le (l := g.map fun i => (rd_T59 (pcs l) i).f0) (B := 0) (fun y hy => by
      obtain ⟨i, hi, rfl⟩ := List.mem_map.1 hy
      have := hpb _ (hrd i (hgb i hi).1 (hgb i hi).2)
      omega) (List.mem_map.2 ⟨x0, hx0, rfl⟩)
    unfold sumG
    omega
  have hf0 := hsum (fun p => p.f0) 79 (fun p hp => by have := hpb p hp; omega)
  have hf1 := hsum (fun p => p.f1) 10200 (fun p hp => by have := hpb p hp; omega)
  have hob : ∀ p ∈ out, 1 ≤ p.f0 ∧ p.f0 ≤ 5000 ∧ 0 ≤ p.f1 ∧ p.f1 ≤ 1000000 := fun p hq => by
    rcases hp p hq with ⟨k, hk, rfl⟩ | rfl
    · have := hpb _ (hrd k (by omega) (by rw [pcs_length] at hk; omega))
      omega
    · show 1 ≤ sumG _ g ∧ sumG _ g ≤ 5000 ∧ 0 ≤ sumG _ g ∧ sumG _ g ≤ 1000000
      omega
  have hlen : (out.length : Int) = l.length - g.length + 1 := by
    have := hs (fun _ => 1)
    rw [map_const_sum, map_const_sum, hpl] at this
    have h2 : sumG (fun _ => 1) g = 1 * g.length := map_const_sum 1 g
    omega
  have hol : out.length ≤ 60 := by omega
  have hov : validL out = true := validL_of (by omega) (fun p hp => by have := hob p hp; omega)
  have e0 := hs (fun p => p.f0)
  have e1 := hs (fun p => p.f1)
  have er := hs (fun p => 4096 + p.f1)
  have hR : 0 ≤ readN (pcs l) ∧ readN (pcs l) ≤ 14296 * ((pcs l).length : Int) := sum_le_of (pcs l) _ 14296 (fun p hp => by have := hpb p hp; omega)
  have hsg : sumG (fun i => 4096 + (rd_T59 (pcs l) i).f1) g = 4096 * g.length + sumG (fun i => (rd_T59 (pcs l) i).f1) g := by
    unfold sumG
    rw [sum_add (fun _ => 4096) (fun i => (rd_T59 (pcs l) i).f1) g, map_const_sum]
  have hun : pcs (unp out) = out := pcs_unp out
  have hul : (unp out).length = out.length := by simp [unp]
  have hpm : ∀ (f : Int → Int → Int), (pcs l).map (fun p => f p.f0 p.f1) = l.map fun p => f p.f0 p.f1 := fun f => by simp [pcs]
  have hum : ∀ (f : Int → Int → Int), (unp out).map (fun p => f p.f0 p.f1) = out.map fun p => f p.f0 p.f1 := fun f => by simp [unp]
  have hev : ∀ {α : Type} {g : Nat → Option α} {r : α}, Evt g r → ∃ k, g k = some r := fun ⟨K, hK⟩ => ⟨K, hK K (Nat.le_refl _)⟩
  have ha := after_ev l [g] (by omega)
  have hold := read_ev l (by omega)
  have hnew := read_ev (unp out) (by omega)
  have hval := rvalid_ev (unp out) (by omega)
  have ht := total_ev (unp out) (by omega) (fun p hp => by
    obtain ⟨q, hq, rfl⟩ := List.mem_map.1 hp
    have := hob q hq
    show 0 ≤ q.f0 ∧ q.f0 ≤ 1000000000000 ∧ 0 ≤ q.f1 ∧ q.f1 ≤ 1000000000000
    omega)
  have ht0 := total_ev l (by omega) (fun p hp => by have := hm.2 p hp; omega)
  rw [hun, hov] at hval
  have hA : afterR l [g] = ([], unp out, 0, 0) := by
    unfold afterR
    rw [hv, if_pos rfl, ho]
  have hO : readL l = ([], [], readN (pcs l), 0) := by unfold readL; rw [hv, if_pos rfl]
  have hN : readL (unp out) = ([], [], readN (pcs l) - 4096 * ((g.length : Int) - 1), 0) := by
    unfold readL
    rw [hun, hov, if_pos rfl]
    have : readN out = readN (pcs l) - 4096 * ((g.length : Int) - 1) := by
      have e3 : readN out = readN (pcs l) - sumG (fun i => 4096 + (rd_T59 (pcs l) i).f1) g + (4096 + sumG (fun i => (rd_T59 (pcs l) i).f1) g) := er
      omega
    rw [this]
  rw [hA] at ha
  rw [hO] at hold
  rw [hN] at hnew
  have q0 : ((unp out).map fun p => p.f0).sum = (l.map fun p => p.f0).sum := by
    rw [hum (fun a _ => a), ← hpm (fun a _ => a), e0]
    show _ - sumG _ g + sumG _ g = _
    omega
  have q1 : ((unp out).map fun p => p.f1).sum = (l.map fun p => p.f1).sum := by
    rw [hum (fun _ a => a), ← hpm (fun _ a => a), e1]
    show _ - sumG _ g + sumG _ g = _
    omega
  rw [q0, q1] at ht
  rw [pcs_length] at hR
  exact ⟨unp out, readN (pcs l), _, _, hev ha, hev hold, hev ht, hev ht0, by omega, hev hval, hev hnew, by omega, hev (alike_self [] [] _ 0 (by simp) (by simp) (by simp))⟩
end Go.Proofs.Ytckempgpaojljaa.P
end
section
/- What the law CostChoice asks: the plain law. -/
namespace Go.Proofs.Ytckempgpaojljaa.P
set_option linter.unusedVariables false
set_option linter.unusedSimpArgs false
open Go.RowKit Go.Proofs.YtckempgpaojljaaW.PrintWords Go.Proofs.YtckempgpaojljaaW.PrintLast Go.Proofs.YtckempgpaojljaaW.PrintMore

theorem startC_eq {l m : List S59} (h : l.map (fun p => p.f0) = m.map fun p => p.f0) : startC l = startC m := by
  have key : ∀ l : List S59, startC l = ((l.map fun p => p.f0).zipIdx).map fun q => ([(q.2 : Int)], q.1) := fun l => by
    unfold startC
    rw [List.zipIdx_map, List.map_map]
    rfl
  rw [key, key, h]
theorem choose_names {l m : List S59} (h : l.map (fun p => p.f0) = m.map fun p => p.f0) : choose l = choose m := by
  have hl : l.length = m.length := by have := congrArg List.length h; simpa using this
  unfold choose
  rw [startC_eq h, hl]

/-- No step: each level has at most three clusters. -/
theorem step_none_counts (cs : List (List Int × Int)) (hs : stepC cs = none) (L : Nat) (hL : L < 16) : (cs.filter fun c => decide (lv c.2.toNat = (L : Int))).length ≤ 3 := by
  have hcl : (cntC cs).length = 16 := by simp [cntC]
  have h1 : idx4 (cntC cs) < 0 := by
    rcases Int.lt_or_le (idx4 (cntC cs)) 0 with h | h
    · exact h
    · exfalso
      rcases idx4_spec (cntC cs) with e | ⟨j, e, hj, h4⟩
      · omega
      · have hc := posC_count cs j (by omega)
        unfold stepC at hs
        rw [if_neg (by omega), e] at hs
        have hl : ((posC cs (j : Int) cs.length).take 4).length = 4 := by rw [List.length_take]; omega
        generalize (posC cs (j : Int) cs.length).take 4 = P at hs hl
        match P, hl, hs with
        | [a, b, c, d], _, hs => exact absurd hs (by simp)
  have h2 : (cntC cs).getD L 0 < 4 := by
    rcases Int.lt_or_le ((cntC cs).getD L 0) 4 with h | h
    · exact h
    · exfalso
      unfold idx4 at h1
      cases hf : (cntC cs).findIdx? (fun n => decide (4 ≤ n)) with
      | some i => rw [hf] at h1; simp at h1; omega
      | none =>
        rw [List.findIdx?_eq_none_iff] at hf
        have := of_decide_eq_false (hf _ (getD_mem (cntC cs) L 0 (by omega)))
        omega
  have h3 : (cntC cs).getD L 0 = ((cs.filter fun c => decide (lv c.2.toNat = (L : Int))).length : Int) := by simp [cntC, List.getD_eq_getElem?_getD, hL]
  rw [h3] at h2
  omega
theorem counts_step_none (cs : List (List Int × Int)) (h : ∀ L : Nat, L < 16 → (cs.filter fun c => decide (lv c.2.toNat = (L : Int))).length ≤ 3) : stepC cs = none := by
  have h1 : idx4 (cntC cs) = -1 := idx4_none _ (fun j hj => by
    have hj16 : j < 16 := by simpa [cntC] using hj
    have h3 : (cntC cs).getD j 0 = ((cs.filter fun c => decide (lv c.2.toNat = (j : Int))).length : Int) := by simp [cntC, List.getD_eq_getElem?_getD, hj16]
    have := h j hj16
    omega)
  unfold stepC
  rw [h1]
  rfl

/-- Clusters of one piece or of four at least. -/
def Inv4 (cs : List (List Int × Int)) : Prop := ∀ c ∈ cs, c.1.length = 1 ∨ 4 ≤ c.1.length
theorem nextP_mem {α : Type} (f : List Nat) (x : α) (G : List α) : ∀ k, ∀ g ∈ nextP f x G k, g = x ∨ g ∈ G
  | 0, g, hg => absurd hg (by simp [nextP])
  | k + 1, g, hg => by
    simp only [nextP, List.mem_append] at hg
    rcases hg with (hg | hg) | hg
    · exact nextP_mem f x G k g hg
    · split at hg
      · exact .inl (List.mem_singleton.1 hg)
      · simp at hg
    · split at hg
      · simp at hg
      · rw [Option.mem_toList] at hg
        exact .inr (List.mem_of_getElem? hg)
theorem sortI_len (l : List Int) : (sortI l).length = l.length := (sortI_perm l).length_eq
theorem Inv4.step {cs cs' : List (List Int × Int)} (h : Inv4 cs) (hs : stepC cs = some cs') : Inv4 cs' := by
  obtain ⟨i0, i1, i2, i3, hf, h01, h12, h23, h3, hr⟩ := step_ref cs cs' hs
  intro c hc
  have hm : sortI c.1 ∈ refC cs' := List.mem_map.2 ⟨c, hc, rfl⟩
  rw [hr] at hm
  rw [← sortI_len]
  rcases nextP_mem _ _ _ _ _ hm with e | hg
  · right
    rw [e, sortI_len, hf]
    have key : ∀ i, i < cs.length → 1 ≤ (cs.getD i ([], 0)).1.length := fun i hi => by
      have := h _ (getD_mem' cs i ([], 0) hi)
      omega
    have := key i0 (by omega)
    have := key i1 (by omega)
    have := key i2 (by omega)
    have := key i3 (by omega)
    simp only [allC, List.length_append, List.length_nil]
    omega
  · obtain ⟨d, hd, e⟩ := List.mem_map.1 hg
    rw [← e, sortI_len]
    exact h d hd
theorem Inv4.start (l : List S59) : Inv4 (startC l) := by
  intro c hc
  obtain ⟨q, _, rfl⟩ := List.mem_map.1 hc
  exact .inl rfl
theorem Inv4.iter (k : Nat) : ∀ {cs : List (List Int × Int)}, Inv4 cs → Inv4 (iterC k cs) := by
  induction k with
  | zero => intro cs h; exact h
  | succ k ih =>
    intro cs h
    unfold iterC
    cases hs : stepC cs with
    | none => exact h
    | some cs' => exact ih (h.step hs)
theorem choose_four (l : List S59) : ∀ g ∈ choose l, 4 ≤ g.length := by
  intro g hg
  obtain ⟨c, hc, h1, rfl⟩ := groupsC_mem.1 hg
  rw [sortI_len]
  have := (Inv4.start l).iter l.length c hc
  omega
theorem one_len {α β : Type} (f : α → List β) (l : List α) (h : ∀ a ∈ l, (f a).length ≤ 1) : (l.flatMap f).length ≤ l.length := by
  induction l with
  | nil => simp
  | cons a l ih =>
    have h1 := ih fun b hb => h b (by simp [hb])
    have h2 := h a (by simp)
    simp only [List.flatMap_cons, List.length_append, List.length_cons]
    omega
/-- Something is chosen if and only if four pieces are of one level. -/
theorem choose_iff {l : List S43} (hv : validL (pcs l) = true) : (∃ L : Nat, L < 16 ∧ 4 ≤ ((l.map fun p => p.f0).filter fun n => decide (lv n.toNat = (L : Int))).length) ↔ 0 < (choose (pcs l)).length := by
  have hn : (startC (pcs l)).map (fun c => c.2) = l.map fun p => p.f0 := by
    rw [startC_names]
    unfold pcs
    rw [List.map_map]
    rfl
  have hc : ∀ L : Nat, ((l.map fun p => p.f0).filter fun n => decide (lv n.toNat = (L : Int))).length = ((startC (pcs l)).filter fun c => decide (lv c.2.toNat = (L : Int))).length := fun L => by
    rw [← hn, List.filter_map, List.length_map]
    rfl
  constructor
  · rintro ⟨L, hL, h4⟩
    rw [hc L] at h4
    obtain ⟨hok, hpart, hinv, _⟩ := finC_ok hv
    cases hs : stepC (startC (pcs l)) with
    | none =>
      have := step_none_counts _ hs L hL
      omega
    | some cs' =>
      obtain ⟨hok', hlen⟩ := stepC_ok (startC_ok hv) hs
      have hsl : (startC (pcs l)).length = l.length := by simp [startC, pcs]
      have hfl : (finC l).length < l.length := by
        have hl : 0 < l.length := by omega
        obtain ⟨k, hk⟩ : ∃ k, l.length = k + 1 := ⟨l.length - 1, by omega⟩
        have : finC l = iterC k cs' := by
          unfold finC
          rw [hk]
          show (match stepC (startC (pcs l)) with | none => startC (pcs l) | some cs' => iterC k cs') = _
          rw [hs]
        rw [this]
        have := iterC_len k cs' hok'
        omega
      rcases Nat.eq_zero_or_pos (choose (pcs l)).length with h0 | h0
      · exfalso
        rw [chosen_groups hv] at h0
        have hle : ∀ c ∈ finC l, c.1.length ≤ 1 := fun c hc => by
          rcases Nat.lt_or_ge 1 c.1.length with h | h
          · have := groupsC_mem.2 ⟨c, hc, h, rfl⟩
            rw [List.length_eq_zero_iff.1 h0] at this
            simp at this
          · exact h
        have h1 := one_len (fun c : List Int × Int => c.1) (finC l) hle
        have h2 := hpart.perm.length_eq
        have h3 : (ixs l.length).length = l.length := by simp [ixs]
        omega
      · exact h0
  · intro h0
    rcases Classical.em (∃ L : Nat, L < 16 ∧ 4 ≤ ((l.map fun p => p.f0).filter fun n => decide (lv n.toNat = (L : Int))).length) with h | h
    · exact h
    · exfalso
      have hs := counts_step_none (startC (pcs l)) (fun L hL => by
        rcases Nat.lt_or_ge 3 ((startC (pcs l)).filter fun c => decide (lv c.2.toNat = (L : Int))).length with h4 | h4
        · exact absurd ⟨L, hL, by rw [hc L]; omega⟩ h
        · exact h4)
      unfold choose at h0
      rw [iterC_none _ hs, groupsC_start] at h0
      simp at h0

/-- The list with other bytes. -/
def likeN (l m : List S43) : Prop := m.length = l.length ∧ m.map (fun p => p.f0) = l.map (fun p => p.f0) ∧ ∀ p ∈ m, 0 ≤ p.f1 ∧ p.f1 ≤ 1000000000
theorem likeN_self {l : List S43} (h : madeB l) : likeN l l := ⟨rfl, rfl, fun p hp => by have := h.2 p hp; omega⟩
theorem likeN_set {l m : List S43} (h : likeN l m) (k : Nat) (hk : k < l.length) (b : Int) (hb : 0 ≤ b ∧ b ≤ 1000000000) : likeN l (m.set k ⟨(rd_T43 m k).f0, b⟩) := by
  have hkm : k < m.length := by rw [h.1]; exact hk
  refine ⟨by rw [List.length_set]; exact h.1, ?_, fun p hp => ?_⟩
  · rw [← h.2.1, List.map_set]
    apply List.ext_getElem?
    intro j
    by_cases hj : k = j
    · subst hj
      rw [List.getElem?_set_self (by rw [List.length_map]; exact hkm), List.getElem?_map, List.getElem?_eq_getElem hkm, rd43 hkm]
      rfl
    · rw [List.getElem?_set_ne hj]
  · rcases List.mem_or_eq_of_mem_set hp with hp | rfl
    · exact h.2.2 p hp
    · exact hb

/-- What the law asks. -/
structure ChoiceOk (l : List S43) (G : List (List Int)) : Prop where
  cho : ∀ m, likeN l m → ∃ k, chapmanlaw36_chosen.f k m = some (G, [], 0, 0)
  len : ∀ g ∈ G, 4 ≤ g.length ∧ g.length ≤ 60
  num : G.length ≤ 60
  like : ∃ k, chapmanref36_Alike.f k G [] 0 0 G [] 0 0 = some true
  cnt : ∀ k L : Nat, L < 16 → 0 ≤ rd (cntI (l.map fun p => p.f0) k) (L : Int) ∧ rd (cntI (l.map fun p => p.f0) k) (L : Int) ≤ 60
  most : (∃ L : Nat, L < 16 ∧ 4 ≤ rd (cntI (l.map fun p => p.f0) l.length) (L : Int)) ↔ 0 < G.length

theorem cnt_rd (ns : List Int) (k L : Nat) (hL : L < 16) : rd (cntI ns k) (L : Int) = (((ns.take k).filter fun n => decide (lv n.toNat = (L : Int))).length : Int) := by
  have := cntI_get ns k L hL
  simp [rd, List.getD_eq_getElem?_getD, this]
theorem choice_ok {l : List S43} (hm : madeB l) : ChoiceOk l (choose (pcs l)) := by
  have hv := madeB_valid hm
  have hg := choose_ok hv
  have hn := choose_num hv
  have h60 := hm.1
  refine ⟨fun m hl => ?_, fun g h => ⟨choose_four _ g h, by have := hg g h; omega⟩, by omega, ?_, fun k L hL => ?_, ?_⟩
  · obtain ⟨K, hK⟩ := chosen_ev m (by have := hl.1; omega)
    refine ⟨K, (hK K (Nat.le_refl _)).trans ?_⟩
    have hp : (pcs m).map (fun p => p.f0) = (pcs l).map (fun p => p.f0) := by
      have := hl.2.1
      unfold pcs
      rw [List.map_map, List.map_map]
      exact this
    have hvm : validL (pcs m) = true := by
      refine validL_of (by rw [pcs_length]; have := hl.1; omega) (fun p hpm => ?_)
      obtain ⟨q, hq, rfl⟩ := List.mem_map.1 hpm
      have h1 := hl.2.2 q hq
      have h2 : q.f0 ∈ l.map fun p => p.f0 := by rw [← hl.2.1]; exact List.mem_map.2 ⟨q, hq, rfl⟩
      obtain ⟨q2, hq2, e⟩ := List.mem_map.1 h2
      have h3 := hm.2 q2 hq2
      show 1 ≤ q.f0 ∧ q.f0 ≤ 5994 ∧ 0 ≤ q.f1 ∧ q.f1 ≤ 1000000000
      omega
    unfold chosenL
    rw [hvm, if_pos rfl, choose_names hp]
  · obtain ⟨K, hK⟩ := alike_self (choose (pcs l)) [] 0 0 (by omega) (fun x hx => by have := hg x hx; omega) (by simp)
    exact ⟨K, hK K (Nat.le_refl _)⟩
  · rw [cnt_rd _ _ _ hL]
    have h1 := List.length_filter_le (fun n : Int => decide (lv n.toNat = (L : Int))) ((l.map fun p => p.f0).take k)
    have h2 : ((l.map fun p => p.f0).take k).length ≤ l.length := by rw [List.length_take, List.length_map]; omega
    omega
  · rw [← choose_iff hv]
    constructor
    · rintro ⟨L, hL, h⟩
      rw [cnt_rd _ _ _ hL, show l.length = (l.map fun p => p.f0).length by simp, List.take_length] at h
      exact ⟨L, hL, by omega⟩
    · rintro ⟨L, hL, h⟩
      refine ⟨L, hL, ?_⟩
      rw [cnt_rd _ _ _ hL, show l.length = (l.map fun p => p.f0).length by simp, List.take_length]
      omega
/-- The most so far, in one more round. -/
theorem most_succ (ns : List Int) (k L : Nat) (x mo q : Int) (hx : ns[k]? = some x) (hL : lv x.toNat = (L : Int)) (h16 : L < 16) (hq : q = rd (cntI ns k) (L : Int)) (hm : 4 ≤ mo ↔ ∃ L : Nat, L < 16 ∧ 4 ≤ rd (cntI ns k) (L : Int)) :
    4 ≤ max mo (q + 1) ↔ ∃ L : Nat, L < 16 ∧ 4 ≤ rd (cntI ns (k + 1)) (L : Int) := by
  have hs := cntI_succ ns k L x hx hL h16
  have key : ∀ j : Nat, j < 16 → rd (cntI ns (k + 1)) (j : Int) = if j = L then q + 1 else rd (cntI ns k) (j : Int) := fun j hj => by
    rw [← hs, ← hq]
    by_cases h : j = L
    · subst h
      simp [rd, List.getD_eq_getElem?_getD, cntI_length, hj]
    · rw [if_neg h]
      simp [rd, List.getD_eq_getElem?_getD, List.getElem?_set_ne (Ne.symm h)]
  constructor
  · intro h
    rcases Int.lt_or_le mo 4 with h1 | h1
    · exact ⟨L, h16, by rw [key L h16, if_pos rfl]; omega⟩
    · obtain ⟨j, hj, h2⟩ := hm.1 h1
      refine ⟨j, hj, ?_⟩
      rw [key j hj]
      split
      · rename_i e
        subst e
        omega
      · exact h2
  · rintro ⟨j, hj, h2⟩
    rw [key j hj] at h2
    split at h2
    · omega
    · have := hm.2 ⟨j, hj, h2⟩
      omega
end Go.Proofs.Ytckempgpaojljaa.P
end
